import Derived.Test.YtfaclfkpnmcmlaaGreatDoorG26
import Derived.Deep.Slices
import Derived.Deep.Strs
import Derived.Deep.DeepHandedRow
import Derived.Deep.DeepWitnessRowRef
import Derived.ProofKit
import Derived.ChangeSame
import Derived.RowKit
import Derived.LaidMore
import Derived.LaidHandle
import Derived.Lib.LaidU8
import Derived.SevenTiedAt
import Derived.Test.YtfaclfkpnmcmlaaGreatDoorRows
import Derived.Test.YtfaclfkpnmcmlaaGreatDoorCards
import Derived.Test.YtfaclfkpnmcmlaaGreatDoorTie
import Derived.Carry
import Derived.MakeChecks
import Derived.OpenShut
set_option maxHeartbeats 8000000
set_option linter.all false
open Go.Proofs.Tryz
namespace Go.Proofs.YtfaclfkpnmcmlaaGreatDoor
open Go Go.Sx Dg Syn
open Go.ChangeShapes (trodAll_one trodAll_two trodAll_three trodVars_none trodAll_mk1 trodAll_mk2 trodAll_mk3 trod_struct2)
open Go.RowKit (shut_bool)
def WB{n:Nat}(h:(Lit.int .u8 n).wf=true):n<256:=by
 have h1:IntKind.min .u8=0:=by decide
 have h2:IntKind.max .u8=255:=by decide
 simp only[Lit.wf,h1,h2,bu,cu]at h;omega
def AA{n:Int}(h:(Lit.int .i64 n).wf=true):-9223372036854775808<=n/\n<9223372036854775808:=by
 have h1:IntKind.min .i64=-9223372036854775808:=by decide
 have h2:IntKind.max .i64=9223372036854775807:=by decide
 simp only[Lit.wf,h1,h2,bu,cu]at h;omega
def HN{α:Type}{R:List Value->α->Prop}{F:α->Prop}(h:∀c a,R c a->F a):∀{l:List α} {xs:List Value},LR R xs l->∀a∈l,F a
 | [],_,_,a,ha=>by cases ha
 |b::l,xs,⟨c,ys,e,h1,h2⟩,a,ha=>by
  rcases List.mem_cons.1 ha with rfl|ha
  .exact h c _ h1
  .exact HN h h2 a ha
def Sl.alls{α:Type}{R:PH->List Value->α->Prop}{F:α->Prop}{I:PH}{v:Value}{l:List α}(h:∀c a,R I c a->F a)(d:Sl R I v l):∀a∈l,F a:=by
 obtain⟨a,c,e,f|⟨b,off,xs,i,e2,g⟩⟩:=d
 .subst f;intro a ha;cases ha
 .exact HN h g
section
variable {H:Type} {enc:TypeId×Value->H} {W:World}
def Fu{α:Type}(D:Nat->DataW H)(g:Nat->α)(Q:α->Nat):∀(is:List Nat),(∀i∈is,Q (g i)<=Rows.uptoBulk (D i))->((is.map g).map Q).sum<=Rows.uptoBulkAll (is.map D)
 | [],_=>bg _
 |i::is,h=>by have h1:=Fu D g Q is fun j a=>h j (.tail _ a);have h2:=h i (.head _);simp only[jW,List.sum_cons,Rows.uptoBulkAll];omega
variable{p:List MemPlace}{v:Value}{fuel:Nat}
def Do{α:Type}[Inhabited α]{R:PH->List Value->α->Prop}{t e sz:Nat}(Q:α->Nat)(u:prog.underlying t=some (.slice e))(o:prog.cellsOf e=sz)(z:0<sz){d:DataW H}(h:DataW.trod enc prog W 0 (fun _=>true) true fuel t [v]=some (d,p))
  (k:∀n cs x,DataW.trod enc prog W 0 (fun _=>true) true n e cs=some x->Rows.uptoBulk x.1<Rows.uptoBulk d->∃a,R (jg W) cs a/\Q a<=Rows.uptoBulk x.1):∃l,Sl R (jg W) v l/\(l.map Q).sum+1<=Rows.uptoBulk d:=by
 rcases Deep.open_slice u h with ⟨e,e2⟩|⟨a,len,cap,m,n,D,I,e,_,B,F,hm,e2,r⟩
 .simp only[tL,dm]at e;subst e;exact⟨[],⟨none,0,rfl,.inl rfl⟩,by simpa using uz d⟩
 .simp only[tL,dm]at e;subst e;simp only[eL]at e2;obtain⟨rfl,_⟩:=e2;have c:m=cap:=by simpa using hm
  subst c;rw[o]at r;obtain⟨b1,b2⟩:=Bx D (List.range len);have w:Rows.uptoBulkAll ((List.range len).map D)+1<=Rows.uptoBulk (DataW.slice ((List.range len).map D) ((List.range (m-len)).map fun j=>D (len+j))):=by simp only[Rows.uptoBulk];omega
  obtain⟨g,f⟩:=Deep.choose_lt (α:=List Value×α) (n:=len) (p:=fun i x=>W.cells? 0 (a.add (i*sz)) sz=some x.1/\R (jg W) x.1 x.2/\Q x.2<=Rows.uptoBulk (D i)) (fun i hi=>by obtain⟨cs,h1,h2⟩:=r i O;have:=b2 i (List.mem_range.2 hi);obtain⟨y,s,A⟩:=k n cs _ h2 bC;exact⟨(cs,y),h1,s,A⟩)
  have hb:=Fu D (fun i=>(g i).2) Q (List.range len) fun i hi=>(f i (List.mem_range.1 hi)).2.2;rcases g9 len with q|q
  .subst q;exact⟨[],⟨some a,m,rfl,.inl rfl⟩,by simpa using uz _⟩
  .obtain⟨b,off,rfl,G⟩:=FK (size:=sz) (C:=fun i=>(g i).1) (fun i hi=>(f i hi).1) z q;exact⟨(List.range len).map fun i=>(g i).2,⟨_,m,by rw[dW,AK],.inr ⟨b,off,_,rfl,G,C4 _ fun i hi=>(f i (List.mem_range.1 hi)).2.1⟩⟩,O⟩
def VS{t:TypeId}{f0 f1 f2 f3 f4 f5:Field}{cs:List Value}{x:DataW H×List MemPlace}(ht:prog.underlying t=some (.struct #[f0,f1,f2,f3,f4,f5]))(h:DataW.trod enc prog W 0 (fun _=>true) true fuel t cs=some x):
  ∃(y:Nat->DataW H×List MemPlace) (n:Nat),x.1=.agg [(y 0).1,(y 1).1,(y 2).1,(y 3).1,(y 4).1,(y 5).1]/\cs.length=prog.cellsOf t/\∀i f,[f0,f1,f2,f3,f4,f5][i]?=some f->DataW.trod enc prog W 0 (fun _=>true) true n f.type ((cs.drop f.offset).take (prog.cellsOf f.type))=some (y i):=by
 obtain⟨xs,n,_,rfl,m,b,hf⟩:=DataW.trod_struct ht h
 match xs,b with
 | [a,j,g,e,d,c],_=>
  refine⟨fun i=>[a,j,g,e,d,c].getD i a,n,rfl,m,fun i f hi=>?_⟩;have:=hf i f (by simpa using hi);rw[this];rcases aB i 6 with k|k
  .show _=some ([a,j,g,e,d,c].getD i a);rw[List.getD_eq_getElem?_getD];simp[aL (l:=[a,j,g,e,d,c]) (i:=i) (by simpa using k)]
  .rw[fW (by simpa using k)]at hi;cases hi
def V6:prog.underlying 91=some (.slice 265):=underlying91
def V7:prog.underlying 92=some (.slice 187):=underlying92
def J7:∃b a,prog.underlying 94=some (.struct #[b,a])/\b.type=91/\b.offset=0/\a.type=92/\a.offset=1:=⟨_,_,underlying94,rfl,rfl,rfl,rfl⟩
def VY:∃c b a,prog.underlying 187=some (.struct #[c,b,a])/\c.type=78/\c.offset=0/\b.type=3/\b.offset=1/\a.type=46/\a.offset=2:=⟨_,_,_,underlying187,rfl,rfl,rfl,rfl,rfl,rfl⟩
def VZ:∃f e d c b a,prog.underlying 265=some (.struct #[f,e,d,c,b,a])/\(f.type=5/\f.offset=0)/\(e.type=9/\e.offset=1)/\(d.type=3/\d.offset=2)/\(c.type=3/\c.offset=3)/\(b.type=91/\b.offset=4)/\(a.type=46/\a.offset=5):=⟨_,_,_,_,_,_,underlying265,⟨rfl,rfl⟩,⟨rfl,rfl⟩,⟨rfl,rfl⟩,⟨rfl,rfl⟩,⟨rfl,rfl⟩,⟨rfl,rfl⟩⟩
def V5:prog.underlying 78=some (.int .u8):=ah
def MG:prog.cellsOf 78=1:=ah
def FG:prog.cellsOf 91=1:=ah
def MH:prog.cellsOf 92=1:=ah
def FH:prog.cellsOf 94=2:=ah
def FC:prog.cellsOf 187=3:=ah
def FE:prog.cellsOf 265=6:=ah
instance:Inhabited Nt:=⟨⟨0,0,[]⟩⟩
instance:Inhabited Tw:=⟨⟨0,[],0,0,[],[]⟩⟩
def Tp{d:DataW H}(h:DataW.trod enc prog W 0 (fun _=>true) true fuel 92 [v]=some (d,p)):∃l,qh (jg W) v l/\l.length<=Rows.uptoBulk d/\∀y∈l,y.inn.length<=Rows.uptoBulk d:=by
 obtain⟨M,L,K,w,t0,q,k,o,t2,m⟩:=VY;obtain⟨l,h1,h2⟩:=Do (R:=j0) (fun y=>1+y.inn.length) V7 FC aR h fun n cs x u _=>by
  obtain⟨D,C,f,I,B,g,h3,i,e⟩:=Deep.trod_struct3 w u;rw[t0,q,MG]at h3;rw[k,o,sx]at i;rw[t2,m,FF]at e;obtain⟨J,e0,G,w0⟩:=DataW.trod_int V5 h3;obtain⟨k1,j,F,_⟩:=DataW.trod_int lM i;obtain⟨s,rfl⟩:=Kk w0;rw[FC]at g
  match cs,g with
  | [x,y,z],_=>simp at e0 j e;subst e0;subst j;obtain⟨l,c,A⟩:=Dn (d:=f.1) (p:=f.2) e;refine⟨⟨s,k1,l⟩,⟨z,rfl,c⟩,?_⟩;rw[B];simp only[Rows.uptoBulk,Rows.uptoBulkAll];omega
 have hm:∀(l:List Nt),l.length<=(l.map fun y=>1+y.inn.length).sum/\∀y∈l,y.inn.length<=(l.map fun y=>1+y.inn.length).sum:=fun l=>by
  induction l with
  |nil=>exact⟨aW _,fun _ h=>(dH h).elim⟩
  |cons a l t=>
   simp only[jW,List.sum_cons,bf];refine⟨O,fun y b=>?_⟩;rcases List.mem_cons.1 b with rfl|b
   .omega
   .have:=t.2 y b;omega
 obtain⟨m1,r⟩:=hm l;exact⟨l,h1,O,fun y b=>by have:=r y b;omega⟩
variable{l:List Value}
def So(h:l.length=6):∃a b c d e f,l=[a,b,c,d,e,f]:=by
 match l,h with
 | [a,b,c,d,e,f],_=>exact⟨a,b,c,d,e,f,rfl⟩
def Kp:∀l:List Tw,cW l=(l.map mQ).sum
 | []=>rfl
 |x::l=>by rw[cW,Kp l];rfl
def Iy:∀(N b:Nat) (v:Value) (d:DataW H) (p:List MemPlace),Rows.uptoBulk d<=N->DataW.trod enc prog W 0 (fun _=>true) true b 91 [v]=some (d,p)->∃l,lZ N (jg W) v l/\cW l<=Rows.uptoBulk d/\lA l
 |0,_,_,d,_,V,_=>by have:=uz d;omega
 |N+1,b,v,d,p,V,h=>by
  obtain⟨f0,f1,f2,f3,f4,Z,S,⟨t0,G⟩,⟨w,F⟩,⟨t2,D⟩,⟨t3,C⟩,⟨t4,B⟩,⟨t5,A⟩⟩:=VZ;obtain⟨l,h1,h2⟩:=Do (R:=fun I c a=>ib (N+1) I c a/\yd a) mQ V6 FE aR h fun n cs x P T=>by
   obtain⟨y,J,X,o,hf⟩:=VS S P;have q:=hf 0 f0 rfl;have g1:=hf 1 f1 rfl;have g2:=hf 2 f2 rfl;have g3:=hf 3 f3 rfl;have j:=hf 4 f4 rfl;have i:=hf 5 Z rfl;rw[t0,G,FI]at q;rw[w,F,By]at g1;rw[t2,D,sx]at g2;rw[t3,C,sx]at g3;rw[t4,B,FG]at j;rw[t5,A,FF]at i;obtain⟨k0,e0,q0,w0⟩:=DataW.trod_int J5 q;obtain⟨s,t,z,_⟩:=DataW.trod_string Eo g1;obtain⟨k2,e2,q2,w2⟩:=DataW.trod_int lM g2;obtain⟨k3,r,q3,m⟩:=DataW.trod_int lM g3;obtain⟨M,rfl⟩:=Kk w0;rw[FE]at o;obtain⟨x0,x1,x2,x3,k,u,rfl⟩:=So o
   .simp at e0 t e2 r j i;subst e0;subst t;subst e2;subst r;obtain⟨L,f,U⟩:=Dn (d:=(y 5).1) (p:=(y 5).2) i;have hb:Rows.uptoBulk x.1=1+(Rows.uptoBulk (y 0).1+(s.data.toList.length+1+(Rows.uptoBulk (y 2).1+(Rows.uptoBulk (y 3).1+(Rows.uptoBulk (y 4).1+(Rows.uptoBulk (y 5).1+0)))))):=by rw[X,z];simp only[Rows.uptoBulk,Rows.uptoBulkAll];omega
    obtain⟨K,e,Q,g⟩:=Iy N J k (y 4).1 (y 4).2 O j;refine⟨⟨M,s.data.toList,k2,k3,K,L⟩,⟨⟨k,u,rfl,e,f⟩,⟨WB w0,(AA w2).1,(AA w2).2,(AA m).1,(AA m).2⟩,g⟩,?_⟩;rw[wU];simp only;omega
  exact⟨l,Sl.imp (fun c a _ h=>h.1) h1,by rw[Kp];omega,Ov.2 (Sl.alls (fun c a h=>h.2) h1)⟩
def Tq{v0 v1:Value}{d:DataW H}(h:DataW.trod enc prog W 0 (fun _=>true) true fuel 94 [v0,v1]=some (d,p))(hd:Rows.uptoBulk d<=1048576):∃x,jJ 1048576 (jg W) [v0,v1] x/\ug x/\lA x.kids:=by
 obtain⟨z,w,t,t0,m,k,l⟩:=J7;obtain⟨c,b,n,a,v,h3,j⟩:=trod_struct2 t h;rw[t0,m,FG]at h3;rw[k,l,MH]at j;simp only[eL]at a;obtain⟨a,_⟩:=a;have hb:Rows.uptoBulk d=Rows.uptoBulk c.1+(Rows.uptoBulk b.1+0)+1:=by rw[a];simp only[Rows.uptoBulk,Rows.uptoBulkAll]
 simp at h3 j;obtain⟨q,g,s,i⟩:=Iy 1048576 n v0 c.1 c.2 O h3;obtain⟨o,f,u,e⟩:=Tp (d:=b.1) (p:=b.2) j;exact⟨⟨q,o⟩,⟨v0,v1,rfl,g,f⟩,⟨by simp only;omega,by simp only;omega,fun y r=>by have:=e y r;omega⟩,i⟩
instance:Inhabited Sm:=⟨⟨[],[]⟩⟩
def J8:prog.underlying 97=some (.slice 94):=underlying97
def Sp(h:l.length=2):∃a b,l=[a,b]:=by
 match l,h with
 | [a,b],_=>exact⟨a,b,rfl⟩
def Ts{d:DataW H}(h:DataW.trod enc prog W 0 (fun _=>true) true fuel 97 [v]=some (d,p))(hd:Rows.uptoBulk d<=1048576):∃l,oJ 1048576 (jg W) v l/\(∀x∈l,ug x)/\(∀x∈l,lA x.kids)/\l.length<=Rows.uptoBulk d:=by
 obtain⟨l,h1,h2⟩:=Do (R:=fun I c x=>jJ 1048576 I c x/\ug x/\lA x.kids) (fun _=>1) J8 FH aR h fun n cs x e k=>by obtain⟨q,o,j,_⟩:=J7;obtain⟨_,_,_,_,f,_⟩:=trod_struct2 j e;rw[FH]at f;obtain⟨a,b,rfl⟩:=Sp f;obtain⟨y,i⟩:=Tq (d:=x.1) (p:=x.2) e O;exact⟨y,i,uz _⟩
 have m:(l.map fun _=>1).sum=l.length:=by clear h1 h2;induction l with
  |nil=>rfl
  |cons a l g=>rw[jW,List.sum_cons,g,bf];omega
 exact⟨l,Sl.imp (fun c a _ h=>h.1) h1,Sl.alls (fun c a h=>h.2.1) h1,Sl.alls (fun c a h=>h.2.2) h1,O⟩
end
def Aw{W:World}{n:String}{g:Nat}{cs:Array Value}(b:prog.globalNamed n=some g)(h:W.var? prog n=some cs):∃ty a,W.heap[g]?=some (.cells cs ty a):=by
 unfold World.var? at h;rw[b]at h;simp only[jz]at h;cases hb:W.heap[g]? with
 |none=>rw[hb]at h;cases h
 |some o=>
  rw[hb]at h;cases o with
  |cells c ty a=>simp only[bv]at h;subst h;exact⟨ty,a,rfl⟩
  |_=>cases h
def Ma{H:Type}{enc:TypeId×Value->H}{W:World}{base fuel t n:Nat}{sp:Nat->Bool}{aa:Bool}{cs:List Value}{T:List aE}{p:List MemPlace}(ht:prog.underlying t=some (.array n 9))(d:prog.cellsOf t=n)
  (h:DataW.trod enc prog W base sp aa fuel t cs=some (.agg (T.map fun x=>.lit (.string x)),p)):cs=T.map fun x=>.string ⟨⟨x⟩⟩:=by
 obtain⟨xs,m,_,b,g,f,c⟩:=DataW.trod_array ht h;simp only[eL,DataW.agg.injEq]at b;obtain⟨b,_⟩:=b;rw[d]at g;have k:T.length=n:=by have:=congrArg List.length b;simp at this;omega
 apply List.ext_getElem?;intro i;rcases aB i n with hi|hi
 .have h1:=c i hi;obtain⟨y,e⟩:∃y,xs[i]?=some y:=⟨_,aL O⟩;rw[By,Nat.mul_one,e]at h1;obtain⟨s,j,e2,_⟩:=DataW.trod_string Eo h1;have h2:(xs.map (·.1))[i]?=some (.lit (.string s.data.toList)):=by rw[fX,e,e2];rfl
  rw[<-b,fX]at h2;obtain⟨x,a⟩:∃x,T[i]?=some x:=⟨_,aL O⟩;rw[a]at h2;simp only[fO,bv,DataW.lit.injEq,Lit.string.injEq]at h2;have h3:cs[i]?=some (.string s):=by have:=congrArg (fun l:List Value=>l[0]?) j;simpa[AJ,rA]using this
  rw[h3,fX,a,h2];rfl
 .rw[fW O,fW (by rw[dW];omega)]
def MD:prog.cellsOf 317=22:=ah
def GF:prog.globalNamed "motley/source.signs"=some 0:=ah
def GG:prog.globalNamed "strconv.ErrSyntax"=some 1:=ah
def GH:prog.globalNamed "strconv.ErrRange"=some 2:=ah
def Qn:(prog.globals[0]?).map (·.type)=some 317:=ah
def Qo:(prog.globals[1]?).map (·.type)=some 284:=ah
def Qp:(prog.globals[2]?).map (·.type)=some 284:=ah
def Qq:(prog.globals[3]?).map (·.type)=some 406:=ah
def V4:prog.underlying 406=some (.array 20 366):=ah
def V0:prog.underlying 366=some (.int .u64):=ah
def ME:prog.cellsOf 366=1:=ah
def MF:prog.cellsOf 406=20:=ah
def Wm{W:World}(e:laidMetH prog Rows.syntaxTreesUptoRow.laid W):iR (jg W):=by
 rw[MakeChecks.laidMetH_plain _ _ _ ah]at e;have f:=Lib.laidMet.reads e (.tail _ (.tail _ (.head _)));have h:=Lib.laidMet.reads e (.tail _ (.tail _ (.tail _ (.head _))));have i:=Lib.laidMet.reads e (.tail _ (.tail _ (.tail _ (.tail _ (.head _)))));have j:=Lib.laidMet.reads e (.tail _ (.tail _ (.tail _ (.tail _ (.tail _ (.head _))))));refine⟨?_,?_,?_,?_⟩
 .obtain⟨g,t,cs,b,p,c,ht,hv,hd⟩:=j;obtain rfl:=df (GF.symm.trans c);obtain rfl:=df (Qn.symm.trans ht);obtain⟨ty,d,hb⟩:=Aw GF hv;have a:=Ma (T:=jo) JZ MD hd;refine⟨cs,ty,d,hb,?_,?_⟩
  .have:=congrArg List.length a;simp only[kA]at this;rw[this];simp[mD]
  .rw[jU,a];exact tM (by simp[mD])
 .obtain⟨g,t,cs,b,p,c,ht,hv,hd⟩:=i;obtain rfl:=df (GG.symm.trans c);obtain rfl:=df (Qo.symm.trans ht);obtain⟨ty,d,hb⟩:=Aw GG hv;obtain⟨_,u,v,a,_⟩:=iface_of_trod tF.choose_spec hd;exact⟨u,v,cs,ty,d,hb,by have:=congrArg List.length a;simp at this;simp[this],by simp[a]⟩
 .obtain⟨g,t,cs,b,p,c,ht,hv,hd⟩:=h;obtain rfl:=df (GH.symm.trans c);obtain rfl:=df (Qp.symm.trans ht);obtain⟨ty,d,hb⟩:=Aw GH hv;obtain⟨_,u,v,a,_⟩:=iface_of_trod tF.choose_spec hd;exact⟨u,v,cs,ty,d,hb,by have:=congrArg List.length a;simp at this;simp[this],by simp[a]⟩
 .obtain⟨g,t,cs,b,p,c,ht,hv,hd⟩:=f;obtain rfl:=df (Ck.symm.trans c);obtain rfl:=df (Qq.symm.trans ht);obtain⟨ty,d,hb⟩:=Aw Ck hv;have a:=Lib.cells_of_tab (zs:=Lib.pow10Tab) (k:=.u64) V4 V0 ME MF hd;refine⟨ty,d,?_⟩;show W.heap[3]?=_;rw[hb,<-a]
def Du:ownKnob prog.godebug=none:=ah
def HC:laidOutB prog=true:=ah
def NO(os:Os)(args:Array Value):laidMetH prog Rows.syntaxTreesUptoRow.laid ((World.doorLaid prog 67 os).forCall (fun _ _=>0) ⟨#[],args,[]⟩).memory:=
 (@laidMetH_of_parts3 _ _ _ 8 (laidMet_of_run' 8 ah ah) ah ah)
def uu:Array Value:=#[.slice none 0 0,.slice none 0 0,.int .u32 0]
def WK(os:Os){H:Type}(enc:TypeId×Value->H):
  (Rows.OpenSpec.upto Rows.syntaxTreesSpec).preRow enc prog f12 Rows.syntaxTreesUptoRow.domain false Rows.syntaxTreesUptoRow.laid ((World.doorLaid prog 67 os).forCall (fun _ _=>0) ⟨#[],uu,[]⟩).memory uu:=by
 have hw:(DataW.whole enc prog ((World.doorLaid prog 67 os).forCall (fun _ _=>0) ⟨#[],uu,[]⟩).memory f12.params.toList (Rows.OpenSpec.upto Rows.syntaxTreesSpec).vars false uu.toList 8).map (fun x=>(x.1,x.2.1)) =
   some ([.nil,.nil,.lit (.int .u32 0)],[]):=ah
 obtain⟨⟨f,e,d⟩,b,a⟩:=Option.map_eq_some_iff.1 hw;simp only[eL]at a;obtain⟨rfl,rfl⟩:=a;exact OpenSpec.preRow_of_cond 8 b ah (fun k c=>by cases c;rfl) ah (NO os _)
set_option maxRecDepth 100000 in
theorem VP(os:Os)(b:os.Started)(H:Type)(enc:TypeId×Value->H)(F:Stop.Interp):
  ReturnsInHanded {} checked os 12 .any ((Rows.OpenSpec.upto Rows.syntaxTreesSpec).preRow enc prog f12 Rows.syntaxTreesUptoRow.domain false Rows.syntaxTreesUptoRow.laid) (((Rows.OpenSpec.upto Rows.syntaxTreesSpec).at F).post enc prog f12 false true false false):=by
 refine returnsInHanded_of_row (C:=checked) (s:=Rows.OpenSpec.upto Rows.syntaxTreesSpec) Du b ah func12
  (witness_row_atRef (enc:=enc) (C:=checked) false (World.doorLaid prog 67 os) uu rfl ah ah ah (WK os enc)) ?_
 intro W z args ds gs A d T _ g _ hL _ _;have f:Rows.uptoSmall H (ds++gs)=true:=g _ rfl;have a:∀(j:Nat) t v,f12.params[j]?=some t->args[j]?=some v->Value.okWide prog W .any z t v:=d;have i:=T;obtain⟨p,q,y,u,rfl,_,_⟩:=T;have U:DataW.TrodAll enc prog W 0 (fun _=>true) true f12.params.toList args.toList ds p:=y;rw[params12]at U a;obtain⟨v0,X,v2,d0,d1,d2,S,R,Z,rfl,rfl,rfl,V,h1,h2⟩:=trodAll_three U;obtain⟨rfl,rfl⟩:=trodVars_none u;have N:=V;have M:=h1;have h2k:=h2;clear y u d;simp only[ab]at i f;have r:∀x∈S++R++Z,x.block<W.heap.size:=fun x o=>by simpa using i.lt x o
 have J:Rows.uptoBulk d0+(Rows.uptoBulk d1+(Rows.uptoBulk d2+0))<=1048576:=eF f;obtain⟨a0,l0,c0,rfl⟩:=WideShapes.okWide_slice J8 (a 0 97 v0 rfl rfl);obtain⟨a1,l1,c1,rfl⟩:=WideShapes.okWide_slice J4 (a 1 46 X rfl rfl);obtain⟨f0,I⟩:=V;obtain⟨f1,G⟩:=h1;obtain⟨l,L,D,B,ac⟩:=Ts I O;obtain⟨w,K,aa⟩:=Dn G;obtain⟨c,rfl,rfl,rfl,Q⟩:=ChangeShapes.open_int As (a 2 23 v2 rfl rfl) h2;obtain⟨k,rfl,hk⟩:=Et Q;have hV:=Wm hL;have n:=VN hV L K D B O O hk;refine(aI.calls n).mono ?_;rintro e W' ⟨rfl,m⟩;have P:((Rows.OpenSpec.upto Rows.syntaxTreesSpec).at F).fn H ([d0,d1,.lit (.int .u32 (k:Int))]++[])={ results:=[.lit (.bool true)],args:=[d0,d1,.lit (.int .u32 (k:Int))] }:=rfl;refine⟨_,rfl,_,_,_,[],S++(R++[]),[],i,?_,?_,?_,m.frame _,fun h=>by cases h⟩
 .rw[P];exact trodAll_mk1 (shut_bool underlying4 _)
 .rw[P];exact trodAll_mk3 (RowKit.Below.trod HC ah (eF ah) N m (fun x o=>r x (by simp[o]))) (RowKit.Below.trod HC ah (eF ah) M m (fun x o=>r x (by simp[o]))) (ChangeShapes.shut_int As Q)
 .rw[P];rfl
end Go.Proofs.YtfaclfkpnmcmlaaGreatDoor
