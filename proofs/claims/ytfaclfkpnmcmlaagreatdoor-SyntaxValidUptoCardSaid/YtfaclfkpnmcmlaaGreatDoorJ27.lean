/- Proved: for all lists of items and cubes, of bulk at most 1048576 in all, the law SyntaxValid answers true and leaves its arguments as they were. Condition: the six package variables that the row lists hold what they hold when the program starts. -/
import Derived.Test.YtfaclfkpnmcmlaaGreatDoorJ00
import Derived.Test.YtfaclfkpnmcmlaaGreatDoorJ26
import Derived.Deep.Slices
import Derived.Deep.Strs
import Derived.Deep.DeepHandedRow
import Derived.Deep.DeepWitnessRowRef
import Derived.ProofKit
import Derived.ChangeSame
import Derived.RowKit
import Derived.LaidMore
import Derived.LaidHandle
import Derived.Lib.LaidU8
import Derived.SevenTiedAt
import Derived.Test.YtfaclfkpnmcmlaaGreatDoorRows
import Derived.Test.YtfaclfkpnmcmlaaGreatDoorCards
import Derived.Test.YtfaclfkpnmcmlaaGreatDoorTie
import Derived.MakeChecks
import Derived.OpenShut
set_option maxHeartbeats 8000000
set_option linter.all false
open Go.Proofs.Tryz
namespace Go.Proofs.YtfaclfkpnmcmlaaGreatDoor
open Go Go.Sx Dg Syn
open Go.ChangeShapes (trodAll_one trodAll_two trodAll_three trodVars_none trodAll_mk1 trodAll_mk2 trodAll_mk3 trod_struct2)
open Go.RowKit (shut_bool)
def oj(W:World):PH:=fun b=>W.heap[b]?
theorem aT.calls{P:Program}{f:FuncId}{args:Array Value}{W:World}{v:Value}(h:aT P f args (oj W) [] fun r j i=>i=[]/\r=v):
  Calls P f args W fun e n=>e=.returned v/\RowKit.Below W.heap.size W n:=by
 have hd:Dj [oj W]:=su _ _;have m:U [oj W]=oj W:=PH.uni_no _;refine(h hd W (by rw[m];exact fun b o hb=>hb)).mono fun e w2 g=>?_;cases e with
 |returned r=>obtain⟨H2,st,j,i,e1,_,d,rfl,rfl⟩:=g;subst e1;refine⟨rfl,⟨st.os,st.tape,st.out,st.size,fun k l=>?_⟩⟩;have a:oj W k=some W.heap[k]:=sj l;have:=st.sub k _ (PH.le_uni j _ k _ (d k _ a));rw[this];exact a.symm
 |outgrown=>exact g.elim
 |panicked c=>exact g.elim
def En{α:Type}{R:List Value->α->Prop}{C:Nat->List Value}{g:Nat->α}:∀(is:List Nat),(∀i∈is,R (C i) (g i))->LR R (is.flatMap C) (is.map g)
 | [],_=>rfl
 |i::is,h=>⟨C i,is.flatMap C,rfl,h i (.head _),En is fun j a=>h j (.tail _ a)⟩
def Dw{C:Nat->List Value}{size:Nat}:∀(is:List Nat),(∀i∈is,(C i).length=size)->(is.flatMap C).length=is.length*size
 | [],_=>by simp
 |i::is,h=>by rw[pf,aE,h i (.head _),Dw is fun j a=>h j (.tail _ a),bm,ig];omega
variable{C:Nat->List Value}
def O2{size:Nat}{len:Nat}(h:∀i,i<len->(C i).length=size){i j:Nat}(hi:i<len)(d:j<size):((List.range len).flatMap C)[i*size+j]?=(C i)[j]?:=by
 induction len with
 |zero=>omega
 |succ n c=>
  have a:((List.range n).flatMap C).length=n*size:=by have:=Dw (C:=C) (size:=size) (List.range n) fun k b=>h k (by have:=List.mem_range.1 b;omega);simpa using this
  rw[List.range_succ,yM,pf,List.flatMap_nil,Y];rcases aI i n with h1|h1
  .have h2:(i+1)*size<=n*size:=ch _ h1;rw[ig,qJ]at h2;rw[vV (by rw[a];omega)];exact c (fun k b=>h k O) h1
  .have:i=n:=by omega
   subst this;rw[yP (by rw[a];omega),a];congr 1;omega
def GU{W:World}{jy:Nat}{a:Addr}{size len:Nat}(h:∀i,i<len->W.cells? jy (a.add (i*size)) size=some (C i))(hs:0<size)(q:0<len):
  ∃b off,a=⟨b,off,none⟩/\aX (oj W) b off ((List.range len).flatMap C):=by
 have n:∀i,i<len->(C i).length=size/\∀j,j<size->W.cell? (a.add (i*size+j))=(C i)[j]?:=fun i hi=>by obtain⟨_,h1,h2⟩:=World.cells?_some (h i hi);exact⟨h1,fun j r=>by rw[<-Deep.add_add];exact h2 j r⟩
 obtain⟨b,off,spot⟩:=a;have m:spot=none:=by have h1:=(n 0 q).2 0 hs;obtain⟨x,d⟩:∃x,(C 0)[0]?=some x:=⟨_,aZ (by rw[(n 0 q).1];exact hs)⟩;rw[d]at h1;simpa[Addr.add]using World.cell?_spot h1
 subst m;have c:((List.range len).flatMap C).length=len*size:=by have:=Dw (C:=C) (size:=size) (List.range len) fun k g=>(n k (List.mem_range.1 g)).1;simpa using this
 have f:∀k x,((List.range len).flatMap C)[k]?=some x->W.cell? ⟨b,off+k,none⟩=some x:=fun k x d=>by
  have g:k<len*size:=by rw[<-c];exact(List.getElem?_eq_some_iff.1 d).1
  have e:k=(k / size)*size+k % size:=by rw[Nat.mul_comm];exact(Nat.div_add_mod k size).symm
  have hi:k / size<len:=Nat.div_lt_of_lt_mul (by rw[Nat.mul_comm];exact g);have r:k % size<size:=Nat.mod_lt _ hs;have h1:=(n _ hi).2 _ r;rw[<-O2 (fun i hi=>(n i hi).1) hi r,<-e,d]at h1;rw[<-h1];unfold Addr.add;split
  .rename_i h0;rw[h0,sw]
  .rfl
 obtain⟨cs,ty,p,hb,l⟩:∃cs ty p,W.heap[b]?=some (.cells cs ty p)/\∀k x,((List.range len).flatMap C)[k]?=some x->cs[off+k]?=some x:=by
  obtain⟨t,s⟩:∃x,((List.range len).flatMap C)[0]?=some x:=⟨_,aZ (by rw[c];exact Nat.mul_pos q hs)⟩;have h0:=f 0 t s;unfold World.cell? at h0;cases hb:W.heap[b]? with
  |none=>simp[hb]at h0
  |some o=>
   cases o with
   |cells cs ty p=>refine⟨cs,ty,p,rfl,fun k x d=>?_⟩;have:=f k x d;simpa[World.cell?,hb]using this
   |_=>simp[hb]at h0
 refine⟨b,off,rfl,cs,ty,p,hb,?_,?_⟩
 .rw[c];have hp:0<len*size:=Nat.mul_pos q hs;obtain⟨x,d⟩:∃x,((List.range len).flatMap C)[len*size-1]?=some x:=⟨_,aZ (by rw[c];omega)⟩;have:=(Array.getElem?_eq_some_iff.1 (l _ _ d)).1;show off+len*size<=_;omega
 .apply List.ext_getElem?;intro k;rcases aI k ((List.range len).flatMap C).length with g|g
  .rw[List.getElem?_take_of_lt g,yR];have d:=aZ g;rw[d];simpa using l k _ d
  .rw[fe (by rw[lw];exact fD (Nat.min_le_left _ _) g),fe g]
section
variable {H:Type} {enc:TypeId×Value->H} {W:World}
def NE:∀d:DataW H,1<=Rows.uptoBulk d:=by
 intro d;cases d with
 |lit l=>cases l<;>simp[Rows.uptoBulk]
 |_=>simp[Rows.uptoBulk]
def CV(Z:Nat->DataW H):∀(is:List Nat),is.length<=Rows.uptoBulkAll (is.map Z)/\∀i∈is,Rows.uptoBulk (Z i)<=Rows.uptoBulkAll (is.map Z)
 | []=>⟨aF _,fun _ h=>(dH h).elim⟩
 |i::is=>by
  obtain⟨h1,h2⟩:=CV Z is;have h3:=NE (Z i);simp only[ib,bm,Rows.uptoBulkAll];refine⟨O,fun j a=>?_⟩;rcases List.mem_cons.1 a with rfl|a
  .omega
  .have:=h2 j a;omega
theorem LB:prog.underlying 46=some (.slice 164):=by kernel_rfl
def Xo:∃b a,prog.underlying 164=some (.struct #[b,a])/\b.type=23/\b.offset=0/\a.type=23/\a.offset=1:=⟨_,_,underlying164,rfl,rfl,rfl,rfl⟩
theorem Lw:prog.underlying 22=some (.slice 134):=by kernel_rfl
def Xm:∃c b a,prog.underlying 134=some (.struct #[c,b,a])/\c.type=5/\c.offset=0/\b.type=9/\b.offset=1/\a.type=46/\a.offset=2:=⟨_,_,_,underlying134,rfl,rfl,rfl,rfl,rfl,rfl⟩
theorem Lx:prog.underlying 23=some (.int .u32):=by kernel_rfl
theorem GQ:prog.cellsOf 164=2:=by kernel_rfl
theorem GP:prog.cellsOf 134=3:=by kernel_rfl
theorem GR:prog.cellsOf 23=1:=by kernel_rfl
theorem NO:prog.cellsOf 46=1:=by kernel_rfl
def LJ{n:Int}(h:(Lit.int .u32 n).wf=true):∃k:Nat,n=(k:Int)/\k<2^32:=by
 have h1:IntKind.min .u32=0:=by decide
 have h2:IntKind.max .u32=4294967295:=by decide
 simp only[Lit.wf,h1,h2,cX,dA]at h;exact⟨n.toNat,O,O⟩
def XH{n:Int}(h:(Lit.int .u8 n).wf=true):∃k:Nat,n=(k:Int):=by
 have h1:IntKind.min .u8=0:=by decide
 simp only[Lit.wf,h1,cX,dA]at h;exact⟨n.toNat,O⟩
variable{p:List MemPlace}{v:Value}
def JN{eU:Nat}{d:DataW H}(h:DataW.trod enc prog W 0 (fun _=>true) true eU 46 [v]=some (d,p)):∃l,g4 (oj W) v l/\l.length<=Rows.uptoBulk d:=by
 rcases Deep.open_slice LB h with ⟨e,e2⟩|⟨a,len,cap,m,n,Z,T,e,_,B,F,hm,e2,z⟩
 .simp only[mZ,dV]at e;subst e;exact⟨[],⟨none,0,rfl,.inl rfl⟩,aF _⟩
 .simp only[mZ,dV]at e;subst e;simp only[ij]at e2;obtain⟨rfl,_⟩:=e2;have c:m=cap:=by simpa using hm
  subst c;obtain⟨S,R,A,t0,t,r,s⟩:=Xo;obtain⟨g,k⟩:=Deep.choose_lt (α:=Nat×Nat) (n:=len) (p:=fun i x=>W.cells? 0 (a.add (i*2)) 2=some [.int .u32 x.1,.int .u32 x.2]/\x.1<2^32/\x.2<2^32) (fun i hi=>by
   obtain⟨cs,h1,h2⟩:=z i O;rw[GQ]at h1;obtain⟨L,K,N,_,f,h3,h4⟩:=trod_struct2 A h2;rw[t0,t,GR]at h3;rw[r,s,GR]at h4;obtain⟨Q,o,_,w0⟩:=DataW.trod_int Lx h3;obtain⟨P,e1,_,q⟩:=DataW.trod_int Lx h4;obtain⟨w,rfl,J⟩:=LJ w0;obtain⟨u,rfl,I⟩:=LJ q;rw[GQ]at f
   match cs,f with
   | [x,y],_=>simp at o e1;subst o;subst e1;exact⟨(w,u),h1,J,I⟩)
  have hb:len<=Rows.uptoBulk (DataW.slice ((List.range len).map Z) ((List.range (m-len)).map fun j=>Z (len+j))):=by have:=(CV Z (List.range len)).1;simp only[vZ]at this;simp only[Rows.uptoBulk];omega
  rcases jt len with h0|h0
  .subst h0;exact⟨[],⟨some a,m,rfl,.inl rfl⟩,aF _⟩
  .obtain⟨b,off,rfl,G⟩:=GU (size:=2) (C:=fun i=>[.int .u32 (g i).1,.int .u32 (g i).2]) (fun i hi=>(k i hi).1) af h0;refine⟨(List.range len).map g,⟨_,m,by rw[eN,vZ],.inr ⟨b,off,_,rfl,G,En _ fun i hi=>?_⟩⟩,by rw[eN,vZ];exact hb⟩;exact⟨rfl,(k i (List.mem_range.1 hi)).2⟩
instance:Inhabited It:=⟨⟨0,[],[]⟩⟩
def Ul{eU:Nat}{d:DataW H}(h:DataW.trod enc prog W 0 (fun _=>true) true eU 22 [v]=some (d,p)):∃l,px (oj W) v l/\l.length<=Rows.uptoBulk d/\∀x∈l,x.cubes.length<=Rows.uptoBulk d/\x.text.length<=Rows.uptoBulk d:=by
 rcases Deep.open_slice Lw h with ⟨e,e2⟩|⟨a,len,cap,m,n,Z,Pl,e,_,c,N,hm,e2,k⟩
 .simp only[mZ,dV]at e;subst e;exact⟨[],⟨none,0,rfl,.inl rfl⟩,aF _,fun _ h=>(dH h).elim⟩
 .simp only[mZ,dV]at e;subst e;simp only[ij]at e2;obtain⟨rfl,_⟩:=e2;have o:m=cap:=by simpa using hm
  subst o;obtain⟨f0,f1,f2,J,t0,I,A,G,t2,F⟩:=Xm;obtain⟨g,q⟩:=Deep.choose_lt (α:=List Value×It) (n:=len) (p:=fun i x=>W.cells? 0 (a.add (i*3)) 3=some x.1/\nh (oj W) x.1 x.2/\x.2.cubes.length<=Rows.uptoBulk (Z i)/\x.2.text.length<=Rows.uptoBulk (Z i)) (fun i hi=>by
   obtain⟨cs,h1,h2⟩:=k i O;rw[GP]at h1;obtain⟨T,S,r,V,f,u,h3,h4,h5⟩:=Deep.trod_struct3 J h2;rw[t0,I,GS]at h3;rw[A,G,C0]at h4;rw[t2,F,NO]at h5;simp only[ij]at f;obtain⟨f,_⟩:=f;obtain⟨X,w,U,w0⟩:=DataW.trod_int LC h3;obtain⟨s,e1,B,_⟩:=DataW.trod_string FJ h4;obtain⟨t,rfl⟩:=XH w0;rw[GP]at u
   match cs,u with
   | [x,y,z],_=>
    simp at w e1 h5;subst w;subst e1;obtain⟨l,c,L⟩:=JN (d:=r.1) (p:=r.2) h5;refine⟨([.int .u8 (t:Int),.string s,z],⟨t,s.data.toList,l⟩),h1,⟨z,by simp,c⟩,?_,?_⟩
    .show l.length<=_;rw[f];simp only[Rows.uptoBulk,Rows.uptoBulkAll];omega
    .show s.data.toList.length<=_;rw[f,B];simp only[Rows.uptoBulk,Rows.uptoBulkAll];omega)
  obtain⟨R,Q⟩:=CV Z (List.range len);simp only[vZ]at R;have K:Rows.uptoBulkAll ((List.range len).map Z)<=Rows.uptoBulk (DataW.slice ((List.range len).map Z) ((List.range (m-len)).map fun j=>Z (len+j))):=by simp only[Rows.uptoBulk];omega
  rcases jt len with h0|h0
  .subst h0;exact⟨[],⟨some a,m,rfl,.inl rfl⟩,aF _,fun _ h=>(dH h).elim⟩
  .obtain⟨b,off,rfl,P⟩:=GU (size:=3) (C:=fun i=>(g i).1) (fun i hi=>(q i hi).1) af h0;refine⟨(List.range len).map fun i=>(g i).2,⟨_,m,by rw[eN,vZ],.inr ⟨b,off,_,rfl,P,En _ fun i hi=>(q i (List.mem_range.1 hi)).2.1⟩⟩,by rw[eN,vZ];omega,fun x k=>?_⟩;obtain⟨i,hi,rfl⟩:=List.mem_map.1 k;obtain⟨_,_,c1,c2⟩:=q i (List.mem_range.1 hi);have:=Q i hi;exact⟨O,O⟩
end
open Go Go.Sx Dg Syn
open Go.ChangeShapes (trodAll_two trodVars_none trodAll_mk1 trodAll_mk2)
open Go.RowKit (shut_bool)
def BT{W:World}{n:String}{g:Nat}{cs:Array Value}(b:prog.globalNamed n=some g)(h:W.var? prog n=some cs):∃ty a,W.heap[g]?=some (.cells cs ty a):=by
 unfold World.var? at h;rw[b]at h;simp only[dz]at h;cases hb:W.heap[g]? with
 |none=>rw[hb]at h;cases h
 |some o=>
  rw[hb]at h;cases o with
  |cells c ty a=>simp only[a8]at h;subst h;exact⟨ty,a,rfl⟩
  |_=>cases h
def Nh{H:Type}{enc:TypeId×Value->H}{W:World}{jy eU t n:Nat}{sp:Nat->Bool}{aa:Bool}{cs:List Value}{T:List al}{p:List MemPlace}(ht:prog.underlying t=some (.array n 9))(d:prog.cellsOf t=n)
  (h:DataW.trod enc prog W jy sp aa eU t cs=some (.agg (T.map fun x=>.lit (.string x)),p)):cs=T.map fun x=>.string ⟨⟨x⟩⟩:=by
 obtain⟨xs,m,_,b,g,f,c⟩:=DataW.trod_array ht h;simp only[ij,DataW.agg.injEq]at b;obtain⟨b,_⟩:=b;rw[d]at g;have j:T.length=n:=by have:=congrArg List.length b;simp at this;omega
 apply List.ext_getElem?;intro i;rcases aI i n with hi|hi
 .have h1:=c i hi;obtain⟨y,e⟩:∃y,xs[i]?=some y:=⟨_,aZ O⟩;rw[C0,Nat.mul_one,e]at h1;obtain⟨s,e1,e2,_⟩:=DataW.trod_string FJ h1;have h2:(xs.map (·.1))[i]?=some (.lit (.string s.data.toList)):=by rw[jG,e,e2];rfl
  rw[<-b,jG]at h2;obtain⟨x,a⟩:∃x,T[i]?=some x:=⟨_,aZ O⟩;rw[a]at h2;simp only[cZ,a8,DataW.lit.injEq,Lit.string.injEq]at h2;have h3:cs[i]?=some (.string s):=by have:=congrArg (fun l:List Value=>l[0]?) e1;simpa[Cc,yR]using this
  rw[h3,jG,a,h2];rfl
 .rw[fe O,fe (by rw[eN];omega)]
theorem NL:prog.cellsOf 317=22:=by kernel_rfl
theorem HB:prog.globalNamed "motley/source.signs"=some 0:=by kernel_rfl
theorem HC:prog.globalNamed "strconv.ErrSyntax"=some 1:=by kernel_rfl
theorem HD:prog.globalNamed "strconv.ErrRange"=some 2:=by kernel_rfl
theorem QV:(prog.globals[0]?).map (·.type)=some 317:=by kernel_rfl
theorem QW:(prog.globals[1]?).map (·.type)=some 284:=by kernel_rfl
theorem QX:(prog.globals[2]?).map (·.type)=some 284:=by kernel_rfl
theorem QY:(prog.globals[3]?).map (·.type)=some 406:=by kernel_rfl
theorem Xq:prog.underlying 406=some (.array 20 366):=by kernel_rfl
theorem Xp:prog.underlying 366=some (.int .u64):=by kernel_rfl
theorem NM:prog.cellsOf 366=1:=by kernel_rfl
theorem NN:prog.cellsOf 406=20:=by kernel_rfl
def XA{W:World}(d:laidMetH prog Rows.syntaxValidUptoRow.laid W):ip (oj W):=by
 rw[MakeChecks.laidMetH_plain _ _ _ (by kernel_rfl)]at d;have e:=Lib.laidMet.reads d (.tail _ (.tail _ (.head _)));have f:=Lib.laidMet.reads d (.tail _ (.tail _ (.tail _ (.head _))));have h:=Lib.laidMet.reads d (.tail _ (.tail _ (.tail _ (.tail _ (.head _)))));have i:=Lib.laidMet.reads d (.tail _ (.tail _ (.tail _ (.tail _ (.tail _ (.head _))))));refine⟨?_,?_,?_,?_⟩
 .obtain⟨g,t,cs,eU,p,b,ht,hv,hd⟩:=i;obtain rfl:=cW (HB.symm.trans b);obtain rfl:=cW (QV.symm.trans ht);obtain⟨ty,c,hb⟩:=BT HB hv;have a:=Nh (T:=kB) Lz NL hd;refine⟨cs,ty,c,hb,?_,?_⟩
  .have:=congrArg List.length a;simp only[n8]at this;rw[this];simp[rZ]
  .rw[gV,a];exact yU (by simp[rZ])
 .obtain⟨g,t,cs,eU,p,b,ht,hv,hd⟩:=h;obtain rfl:=cW (HC.symm.trans b);obtain rfl:=cW (QW.symm.trans ht);obtain⟨ty,c,hb⟩:=BT HC hv;obtain⟨_,u,v,a,_⟩:=iface_of_trod vQ.choose_spec hd;exact⟨u,v,cs,ty,c,hb,by have:=congrArg List.length a;simp at this;simp[this],by simp[a]⟩
 .obtain⟨g,t,cs,eU,p,b,ht,hv,hd⟩:=f;obtain rfl:=cW (HD.symm.trans b);obtain rfl:=cW (QX.symm.trans ht);obtain⟨ty,c,hb⟩:=BT HD hv;obtain⟨_,u,v,a,_⟩:=iface_of_trod vQ.choose_spec hd;exact⟨u,v,cs,ty,c,hb,by have:=congrArg List.length a;simp at this;simp[this],by simp[a]⟩
 .obtain⟨g,t,cs,eU,p,b,ht,hv,hd⟩:=e;obtain rfl:=cW (DD.symm.trans b);obtain rfl:=cW (QY.symm.trans ht);obtain⟨ty,c,hb⟩:=BT DD hv;have a:=Lib.cells_of_tab (zs:=Lib.pow10Tab) (k:=.u64) Xq Xp NM NN hd;refine⟨ty,c,?_⟩;show W.heap[3]?=_;rw[hb,<-a]
theorem xN:ownKnob prog.godebug=none:=by kernel_rfl
theorem IL:laidOutB prog=true:=by kernel_rfl
def Ov(os:Os)(args:Array Value):laidMetH prog Rows.syntaxValidUptoRow.laid ((World.doorLaid prog 67 os).forCall (fun _ _=>0) ⟨#[],args,[]⟩).memory:=
 (@laidMetH_of_parts3 _ _ _ 8 (laidMet_of_run' 8 (by kernel_rfl) (by kernel_rfl)) (by kernel_rfl) (by kernel_rfl))
def wJ:Array Value:=#[.slice none 0 0,.slice none 0 0]
def XL(os:Os){H:Type}(enc:TypeId×Value->H):
  (Rows.OpenSpec.upto Rows.syntaxValidSpec).preRow enc prog f11 Rows.syntaxValidUptoRow.domain false Rows.syntaxValidUptoRow.laid ((World.doorLaid prog 67 os).forCall (fun _ _=>0) ⟨#[],wJ,[]⟩).memory wJ:=by
 have c:(DataW.whole enc prog ((World.doorLaid prog 67 os).forCall (fun _ _=>0) ⟨#[],wJ,[]⟩).memory f11.params.toList (Rows.OpenSpec.upto Rows.syntaxValidSpec).vars false wJ.toList 8).map (fun x=>(x.1,x.2.1)) =
   some ([.nil,.nil],[]):=by kernel_rfl
 obtain⟨⟨g,f,e⟩,b,a⟩:=Option.map_eq_some_iff.1 c;simp only[ij]at a;obtain⟨rfl,rfl⟩:=a;exact OpenSpec.preRow_of_cond 8 b (by kernel_rfl) (fun k d=>by cases d;rfl) (by kernel_rfl) (Ov os _)
set_option maxRecDepth 100000 in
theorem Xy(os:Os)(a:os.Started)(H:Type)(enc:TypeId×Value->H)(F:Stop.Interp):
  ReturnsInHanded {} checked os 11 .any ((Rows.OpenSpec.upto Rows.syntaxValidSpec).preRow enc prog f11 Rows.syntaxValidUptoRow.domain false Rows.syntaxValidUptoRow.laid) (((Rows.OpenSpec.upto Rows.syntaxValidSpec).at F).post enc prog f11 false true false false):=by
 refine returnsInHanded_of_row (C:=checked) (s:=Rows.OpenSpec.upto Rows.syntaxValidSpec) xN a (by kernel_rfl) func11
  (witness_row_atRef (enc:=enc) (C:=checked) false (World.doorLaid prog 67 os) wJ rfl (by kernel_rfl) (by kernel_rfl) (by kernel_rfl) (XL os enc)) ?_
 intro W jy args T gs u b R _ f _ hL _ _;have d:Rows.uptoSmall H (T++gs)=true:=f _ rfl;have c:∀(j:Nat) t v,f11.params[j]?=some t->args[j]?=some v->Value.okWide prog W .any jy t v:=b;have i:=R;obtain⟨p,q,r,o,rfl,_,_⟩:=R;have S:DataW.TrodAll enc prog W 0 (fun _=>true) true f11.params.toList args.toList T p:=r;rw[params11]at S c;obtain⟨v0,U,N,L,Q,P,rfl,rfl,rfl,h0,h1⟩:=trodAll_two S;obtain⟨rfl,rfl⟩:=trodVars_none o;have K:=h0;have J:=h1;clear r o b;simp only[Y]at i d;have n:∀x∈Q++P,x.block<W.heap.size:=fun x g=>by simpa using i.lt x g
 have B:Rows.uptoBulk N+(Rows.uptoBulk L+0)<=1048576:=ng d;obtain⟨a0,l0,c0,rfl⟩:=WideShapes.okWide_slice Lw (c 0 22 v0 rfl rfl);obtain⟨f0,A⟩:=h0;obtain⟨l,I,X,y⟩:=Ul A;obtain⟨a1,l1,c1,rfl⟩:=WideShapes.okWide_slice LB (c 1 46 U rfl rfl);obtain⟨f1,z⟩:=h1;obtain⟨w,G,V⟩:=JN z;have Z:=XA hL;have m:=Xu Z I G (fun x g=>by obtain⟨b1,b2⟩:=y x g;exact⟨O,O⟩) O O;refine(aT.calls m).mono ?_;rintro e W' ⟨rfl,k⟩;have e1:((Rows.OpenSpec.upto Rows.syntaxValidSpec).at F).fn H ([N,L]++[])={ results:=[.lit (.bool true)],args:=[N,L] }:=rfl;refine⟨_,rfl,_,_,_,[],Q++P,[],i,?_,?_,?_,k.frame _,fun h=>by cases h⟩
 .rw[e1];exact trodAll_mk1 (shut_bool underlying4 _)
 .rw[e1];exact trodAll_mk2 (RowKit.Below.trod IL (by kernel_rfl) (ng (by kernel_rfl)) K k (fun x g=>n x (by simp[g]))) (RowKit.Below.trod IL (by kernel_rfl) (ng (by kernel_rfl)) J k (fun x g=>n x (by simp[g])))
 .rw[e1];rfl
open Go
theorem RP:(Rows.syntaxValidUptoRow.wf (OpenSpec.ofChange (OpenSpec.bare (Rows.OpenSpec.upto Rows.syntaxValidSpec))))=true:=by kernel_rfl
theorem Sg:(namedTie prog Rows.syntaxValidUptoRow.named (OpenSpec.bare (Rows.OpenSpec.upto Rows.syntaxValidSpec)).vars)=true:=by kernel_rfl
theorem Sk:((prog.stopKnobs == []))=true:=by kernel_rfl
theorem RU:((Rows.syntaxValidUptoRow.named == prog.varsNamed 11))=true:=by kernel_rfl
theorem RY:((Rows.syntaxValidUptoRow.loops == (f11.params.toList++(OpenSpec.bare (Rows.OpenSpec.upto Rows.syntaxValidSpec)).plain.varTypes prog).any (prog.loopsFrom ·)))=true:=by kernel_rfl
theorem R3:((Rows.syntaxValidUptoRow.ifacesOut == f11.resultTypes.toList.any (prog.ifacesRec ·)))=true:=by kernel_rfl
theorem R7:(prog.stopsHeard)=true:=by kernel_rfl
theorem Sb:((Rows.syntaxValidUptoRow.kinds == (if Rows.syntaxValidUptoRow.domain.isEmpty then []else f11.params.toList.map fun t=>match prog.underlying t with|some (.int k)=>some k|_=>none)))=true:=by kernel_rfl
theorem RI:Rows.syntaxValidUptoRow.wfByText (Rows.OpenSpec.upto Rows.syntaxValidSpec)=true:=by kernel_rfl
theorem RJ:prog.mainIs=some (true,("fb6f3cea10b2bce7ccd9e68c58951443a6981fe33c0f78952a9ec7f837153f3e":String).toList):=by kernel_rfl
theorem Iy:prog.funcNamed "motley/motleylaw07.SyntaxValid"=some 11:=by kernel_rfl
theorem RK:true=prog.looks []:=by kernel_rfl
theorem RL:([22,46].all fun u=>!prog.wantsStandIn u)=true:=by kernel_rfl
theorem RM:false=Rows.syntaxValidUptoRow.goesBy prog:=by kernel_rfl
def RO:f11.isInstance prog Rows.syntaxValidUptoRow.origin Rows.syntaxValidUptoRow.targs:=ng (by kernel_rfl)
theorem RQ:(laidOutB prog)=true:=by kernel_rfl
theorem Sh:((Rows.syntaxValidUptoRow.stops == []))=true:=by kernel_rfl
theorem Sm:((Rows.syntaxValidUptoRow.inPlace == prog.inPlace 11))=true:=by kernel_rfl
theorem RV:((Rows.syntaxValidUptoRow.maps == (f11.params.toList++(OpenSpec.bare (Rows.OpenSpec.upto Rows.syntaxValidSpec)).plain.varTypes prog).any (prog.mapsRec ·)))=true:=by kernel_rfl
theorem RZ:((Rows.syntaxValidUptoRow.wideKeys == (f11.params.toList++(OpenSpec.bare (Rows.OpenSpec.upto Rows.syntaxValidSpec)).plain.varTypes prog++f11.resultTypes.toList).any (prog.wideKeysFrom ·)))=true:=by kernel_rfl
theorem R4:((Rows.syntaxValidUptoRow.loopsOut == f11.resultTypes.toList.any (prog.loopsFrom ·)))=true:=by kernel_rfl
theorem R8:(prog.mayEnter)=true:=by kernel_rfl
theorem Sc:((Rows.syntaxValidUptoRow.pinned == Rows.syntaxValidUptoRow.pinnedBy))=true:=by kernel_rfl
theorem R2:(mapsRowed prog)=true:=by kernel_rfl
theorem Si:((prog.stops == []))=true:=by kernel_rfl
theorem RS:((Rows.syntaxValidUptoRow.unfollowed == prog.unfollowed 11))=true:=by kernel_rfl
theorem RW:((Rows.syntaxValidUptoRow.ifaces == (f11.params.toList++(OpenSpec.bare (Rows.OpenSpec.upto Rows.syntaxValidSpec)).plain.varTypes prog).any (prog.ifacesRec ·)))=true:=by kernel_rfl
theorem R0:((OpenSpec.bare (Rows.OpenSpec.upto Rows.syntaxValidSpec)).vars.all (prog.varReadable ·))=true:=by kernel_rfl
theorem R5:((Rows.syntaxValidUptoRow.plainKeys == prog.plainKeys))=true:=by kernel_rfl
theorem R9:((Rows.syntaxValidUptoRow.lifted == prog.liftsFinal))=true:=by kernel_rfl
theorem Se:((Rows.syntaxValidUptoRow.veiled == (f11.params.toList++(OpenSpec.bare (Rows.OpenSpec.upto Rows.syntaxValidSpec)).plain.varTypes prog++f11.resultTypes.toList).any (prog.veiledRec ·)))=true:=by kernel_rfl
theorem Sd:(f11.params.all (prog.readableRec ·))=true:=by kernel_rfl
theorem Sj:((Rows.syntaxValidUptoRow.knobs == []))=true:=by kernel_rfl
theorem RT:((Rows.syntaxValidUptoRow.recurses == prog.recurses 11))=true:=by kernel_rfl
theorem RX:((Rows.syntaxValidUptoRow.mapsOut == prog.mapsAmong f11.resultTypes.toList))=true:=by kernel_rfl
theorem R1:(f11.resultTypes.all (fun t=>prog.readableRec t && decide (t<prog.types.size)))=true:=by kernel_rfl
theorem R6:(Rows.syntaxValidUptoRow.shortTexts.isNone)=true:=by kernel_rfl
theorem Sa:((prog.make == some Rows.syntaxValidUptoRow.make))=true:=by kernel_rfl
theorem Sf:(Rows.syntaxValidUptoRow.veiledFits prog f11.params.toList (f11.params.toList++(OpenSpec.bare (Rows.OpenSpec.upto Rows.syntaxValidSpec)).plain.varTypes prog++f11.resultTypes.toList))=true:=by kernel_rfl
def fm{a b:Bool}(h:a=true)(k:b=true):(a && b)=true:=by rw[h,k];rfl
set_option maxRecDepth 100000 in
theorem RH:joinedFacts prog 11 f11 (OpenSpec.bare (Rows.OpenSpec.upto Rows.syntaxValidSpec)) Rows.syntaxValidUptoRow=true:=by unfold joinedFacts;exact(fm (fm (fm (fm (fm (fm (fm (fm (fm (fm (fm (fm (fm (fm (fm (fm (fm (fm (fm (fm (fm (fm (fm (fm (fm (fm (fm (fm (fm (fm (fm RP RQ) R2) Sd) Sg) Sh) Si) Sj) Sk) Sm) RS) RT) RU) RV) RW) RX) RY) RZ) R0) R1) R3) R4) R5) R6) R7) R8) R9) Sa) Sb) Sc) Se) Sf)
def Sn:f11.isWrapper prog Rows.syntaxValidUptoRow.wrapper Rows.syntaxValidUptoRow.mainSum:=by
 unfold Func.isWrapper
 first|(rw[ag (by decide +kernel)];kernel_rfl)|(rw[ab (by decide +kernel)];exact⟨rfl,rfl⟩)
def Xx:Rows.SyntaxValidUptoSaid:=
 OpenClaim.holds_of_cond 11 f11 rfl rfl rfl rfl rfl rfl rfl ⟨rfl,rfl,rfl,rfl,rfl⟩ rfl rfl rfl rfl rfl Iy func11 RH RO Sn
  (fun os a H enc _ F=>by rw[OpenClaim.pre_eq_preRow];exact Xy os a H enc F)
theorem syntaxValid_card:Rows.SyntaxValidUptoCardSaid:=
 Claim7.holds_tied_plain_at .later [] [.data,.data,.data,.sentinel,.sentinel,.data] true (true,"fb6f3cea10b2bce7ccd9e68c58951443a6981fe33c0f78952a9ec7f837153f3e") true
  Xx (fun _ h=>by cases h) RI (fun _ h=>by cases h) syntaxValidUpto_row_tie rfl ⟨rfl,rfl⟩ RJ rfl
  (fun f fn hf a=>by
   obtain rfl:f=11:=(cW (Iy.symm.trans hf)).symm;obtain rfl:fn=f11:=(cW (func11.symm.trans a)).symm;exact⟨RK,fun j t ht=>by
    rw[params11]at ht;have hm:t∈[22,46]:=by simpa using Array.mem_of_getElem? ht
    exact(show prog.wantsStandIn t=false by simpa using List.all_eq_true.1 RL t hm)⟩)
  RM
end Go.Proofs.YtfaclfkpnmcmlaaGreatDoor
