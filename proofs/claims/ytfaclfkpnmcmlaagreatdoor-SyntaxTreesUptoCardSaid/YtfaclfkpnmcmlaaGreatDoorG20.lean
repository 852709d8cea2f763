import Derived.Test.YtfaclfkpnmcmlaaGreatDoorG10
import Derived.Test.YtfaclfkpnmcmlaaGreatDoorG18
import Derived.Test.YtfaclfkpnmcmlaaGreatDoorG19
import Derived.Deep.Slices
import Derived.Deep.Strs
import Derived.Deep.DeepHandedRow
import Derived.Deep.DeepWitnessRowRef
import Derived.ProofKit
import Derived.ChangeSame
import Derived.RowKit
import Derived.LaidMore
import Derived.LaidHandle
import Derived.Lib.LaidU8
import Derived.SevenTiedAt
import Derived.Test.YtfaclfkpnmcmlaaGreatDoorRows
import Derived.Test.YtfaclfkpnmcmlaaGreatDoorCards
import Derived.Test.YtfaclfkpnmcmlaaGreatDoorTie
set_option maxHeartbeats 8000000
set_option linter.all false
open Go.Proofs.Tryz
namespace Go.Proofs.YtfaclfkpnmcmlaaGreatDoor
open Go Go.Sx Dg Syn
def cQ(u:Nat)(t:T):Prop:=t.ok 0/\∀c c':dp,(∀i,u.testBit i=true->c i=c' i)->t.at' c=t.at' c'
def aF(u:Nat)(t:T):List Nat:=(cI u 32).filter fun c=>t.at' (co c)
variable{s t:T}{u:Nat}
theorem cQ.and(a:cQ u s)(ht:cQ u t):cQ u (T.and s t):=⟨T.and_ok a.1 ht.1,fun c c' h=>by rw[T.and_at a.1 ht.1,T.and_at a.1 ht.1,a.2 c c' h,ht.2 c c' h]⟩
theorem cQ.or(a:cQ u s)(ht:cQ u t):cQ u (T.or s t):=⟨T.or_ok a.1 ht.1,fun c c' h=>by rw[T.or_at a.1 ht.1,T.or_at a.1 ht.1,a.2 c c' h,ht.2 c c' h]⟩
theorem cQ.lf(u:Nat)(b:Bool):cQ u (.lf b):=⟨trivial,fun _ _ _=>rfl⟩
def cQ.cubes{l:List (Nat×Nat)}(h:kK l u):cQ u (fE l):=⟨uH l,fun c c' g=>by
 obtain⟨n,e,a⟩:=sA c 24;obtain⟨m,m1,b⟩:=sA c' 24;rw[xW a,xW b,<-yF h n,<-yF h m];congr 1;apply Nat.eq_of_testBit_eq;intro j;rw[fY,fY];cases f:u.testBit j
 .simp
 .by_cases d:j<24
  .rw[a j d,b j d,g j f]
  .rw[Nat.testBit_lt_two_pow (Nat.lt_of_lt_of_le e (iP O O)),Nat.testBit_lt_two_pow (Nat.lt_of_lt_of_le m1 (iP O O))]⟩
def cQ.num(h:cQ u t)(n:Nat):t.at' (co (n&&&u))=t.at' (co n):=h.2 _ _ fun i hi=>by unfold co;rw[fY,hi,lO]
def cQ.supp(h:cQ u t)(i:Nat)(hi:(zX t).testBit i=true):u.testBit i=true:=by
 rcases Ea _ 0 hi with f|⟨x,a,rfl⟩
 .simp at f
 .rcases Ax _ [] x a with h1|h1
  .cases h1
  .obtain⟨c,y,d⟩:=zi h.1 h1;cases b:u.testBit x.var with
   |true=>rfl
   |false=>exact absurd (h.2 _ _ fun i hi=>by unfold fM;rw[ad (fun e=>by subst e;rw[b]at hi;cases hi)]) d
def H1{n:Nat}(a:u<2^32):n&&&u∈cI u 32:=by
 have h1:=FN u n 32
 rwa [Nat.mod_eq_of_lt (jy Nat.and_le_right a)]at h1
theorem cQ.ext(d:u<2^32)(a:cQ u s)(ht:cQ u t)(h:∀n∈cI u 32,s.at' (co n)=t.at' (co n)):s=t:=by
 refine T.ext a.1 ht.1 fun c=>?_;obtain⟨n,_,f⟩:=sA c 32;have e:∀i,u.testBit i=true->c i=co n i:=fun i hi=>by
  by_cases b:i<32
  .exact(f i b).symm
  .rw[Nat.testBit_lt_two_pow (Nat.lt_of_lt_of_le d (iP O O))]at hi;cases hi
 rw[a.2 _ _ e,ht.2 _ _ e,<-a.num,<-ht.num];exact h _ (H1 d)
def BD(b:u<2^32)(c:cQ u s)(ht:cQ u t):aF u s=aF u t<->s=t:=by
 constructor
 .intro e;refine c.ext b ht fun n a=>?_;rw[Bool.eq_iff_iff];have h1:n∈aF u s<->n∈aF u t:=by rw[e]
  unfold aF at h1;rw[jx,jx]at h1;exact⟨fun h=>(h1.1 ⟨a,h⟩).2,fun h=>(h1.2 ⟨a,h⟩).2⟩
 .intro e;rw[e]
def qv(u:Nat):aF u (.lf false)=[]:=by unfold aF;rw[List.filter_eq_nil_iff];intro _ _ h;cases h
def sy(a:u<2^32)(b:cQ u s):aF u s=[]<->s=.lf false:=by rw[<-qv u];exact BD a b (cQ.lf u false)
def MP(b:s.ok 0)(ht:t.ok 0):(aF u s).filter (aF u t).contains=aF u (T.and s t):=by unfold aF;rw[List.filter_filter];refine List.filter_congr fun x a=>?_;rw[T.and_at b ht,Bool.and_comm,Bool.eq_iff_iff,bu,bu,List.contains_iff_mem,jx];exact⟨fun h=>⟨h.1,h.2.2⟩,fun h=>⟨h.1,a,h.2⟩⟩
def MR(a:s.ok 0)(ht:t.ok 0):((cI u 32).filter fun x=>s.at' (co x) || t.at' (co x))=aF u (T.or s t):=by unfold aF;refine List.filter_congr fun x b=>?_;rw[T.or_at a ht]
def MQ(u:Nat)(t:T):(aF u t).length<=2^bM u 32:=by rw[<-sB];exact List.length_filter_le _ _
def FL(l:List (Nat×Nat))(u:Nat):aF u (fE l)=mL l u:=JU l u
def aP(u:Nat)(I:PH)(w:Value)(t:T):Prop:=cQ u t/\dh I w (aF u t)
variable{w:Value}{I:PH}
def aP.of(h:dZ u I w t):aP u I w t:=by obtain⟨l,h1,rfl,h3⟩:=h;exact⟨cQ.cubes h1,by rw[FL];exact h3⟩
def aP.le{J:PH}(h:aP u I w t)(k:I.le J):aP u J w t:=⟨h.1,dh.le h.2 k⟩
def js(b:u<2^32)(hp:bM u 32<=8):qn (aP u) u where
 le:=fun h k=>h.le k
 sh:=fun⟨_,h⟩=>by obtain⟨a,c,e,_⟩:=h;exact⟨a,_,c,e⟩
 al:=fun{I vd w t} hr ⟨h1,h2⟩=>Fj hr h2 b hp (Fp h1.supp)
def zx(hp:bM u 32<=8)(t:T):(aF u t).length<=256:=cO (MQ u t) (cO (iP O hp) aR)
def pB(hp:bM u 32<=8){va vb:Value}(b:aP u I va s)(a:aP u I vb t):aI prog 110 #[va,vb] I [] fun r I2 qs=>qs=[]/\aP u I2 r (T.and s t):=by have h1:=zx hp s;have h2:=zx hp t;refine(SJ b.2 a.2 O O).mono fun r I2 qs d c=>⟨c.1,b.1.and a.1,?_⟩;rw[<-MP b.1.1 a.1.1];exact c.2
def wP(hp:bM u 32<=8){va vb:Value}(b:aP u I va s)(a:aP u I vb t):aI prog 113 #[va,vb] I [] fun r I2 qs=>qs=[]/\aP u I2 r (T.or s t):=by
 have h3:(cI u 32).length<=256:=by rw[sB];exact cO (iP O hp) aR
 refine(Wa b.2 a.2 (xQ u 32) O).mono fun r I2 qs d c=>⟨c.1,b.1.or a.1,?_⟩;rw[<-MR b.1.1 a.1.1];exact c.2
def gI(u c:Nat):T:=fE [(c&&&u,u ^^^ (c&&&u))]
def Dm(u c:Nat):kK [(c&&&u,u ^^^ (c&&&u))] u:=fun x a i hi h=>by
 rw[List.mem_singleton]at a;subst a;simp only[Nat.testBit_xor,fY]at h;cases b:u.testBit i
 .rw[b]at h;simp at h
 .rfl
variable{c:Nat}
def zp(a:u<2^24)(n:Nat):(gI u c).at' (co n)=decide (n&&&u=c&&&u):=by
 unfold gI;rw[BI];unfold jh;rw[List.any_cons,List.any_nil,Bool.or_false,Bool.eq_iff_iff,yG,cu];constructor
 .intro h;apply Nat.eq_of_testBit_eq;intro i;rw[fY,fY];by_cases hi:i<24
  .obtain⟨h1,h2⟩:=h i hi;simp only[Nat.testBit_xor,fY]at h1 h2;cases hb:u.testBit i
   .simp
   .rw[hb]at h1 h2;cases b:c.testBit i
    .rw[h2 (by rw[b];rfl)]
    .rw[h1 (by rw[b];rfl)]
  .rw[Nat.testBit_lt_two_pow (Nat.lt_of_lt_of_le a (iP O O))];simp
 .intro h i hi;have hb:=congrArg (fun z=>z.testBit i) h;simp only[fY]at hb;simp only[Nat.testBit_xor,fY];cases a:u.testBit i<;>rw[a]at hb<;>simp_all
def xR(u:Nat):∀i,∀x∈cI u i,∀j,x.testBit j=true->u.testBit j=true
 |0,x,h,j,a=>by unfold cI at h;rw[List.mem_singleton]at h;subst h;simp at a
 |i+1,x,h,j,a=>by
  unfold cI at h;split at h
  .rename_i hi;rcases List.mem_append.1 h with h|h
   .exact xR u i x h j a
   .obtain⟨y,b,rfl⟩:=List.mem_map.1 h;rw[Nat.testBit_or,Nat.testBit_two_pow,im]at a;rcases a with a|a
    .exact xR u i y b j a
    .rw[<-eF a];exact hi
  .exact xR u i x h j a
def MU{x:Nat}(h:x∈cI u 32):x&&&u=x:=by
 apply Nat.eq_of_testBit_eq;intro j;rw[fY];cases a:x.testBit j
 .rfl
 .rw[xR u 32 x h j a];rfl
def FM(i:u<2^24):aF u (gI u c)=[c&&&u]:=by
 have hm:c&&&u∈cI u 32:=H1 O;have e:aF u (gI u c)=(cI u 32).filter fun x=>decide (x=c&&&u):=by unfold aF;refine List.filter_congr fun x g=>?_;rw[zp i,MU g]
 rw[e];have b:=xQ u 32;generalize cI u 32=m at hm b
 induction m with
 |nil=>cases hm
 |cons y m d=>
  obtain⟨h1,h2⟩:=List.pairwise_cons.1 b;by_cases a:y=c&&&u
  .rw[gJ,ak (by simpa using a),a];congr 1;rw[List.filter_eq_nil_iff];intro z f h;have:=h1 z f;simp at h;omega
  .rw[gJ,ad (by simpa using a)];rcases List.mem_cons.1 hm with h|h
   .exact absurd h.symm a
   .exact d h h2
def VF(a:u<2^24)(h:dh I w [c&&&u]):aP u I w (gI u c):=⟨cQ.cubes (Dm u c),by rw[FM a];exact h⟩
def MS(u:Nat):aF u (.lf true)=cI u 32:=by unfold aF;rw[List.filter_eq_self];intro _ _;rfl
def JS(h:dh I w (cI u 32)):aP u I w (.lf true):=⟨cQ.lf u true,by rw[MS];exact h⟩
def L4(a:u<2^24)(ht:cQ u t):T.and t (gI u c)=if t.at' (co c)then gI u c else .lf false:=by
 have h1:cQ u (gI u c):=cQ.cubes (Dm u c);have key:∀b:Bool,cQ u (if b then gI u c else .lf false):=fun b=>by cases b<;>simp[h1,cQ.lf]
 refine(ht.and h1).ext O (key _) fun n f=>?_;rw[T.and_at ht.1 h1.1,zp a];by_cases e:n&&&u=c&&&u
 .have:t.at' (co n)=t.at' (co c):=by rw[<-ht.num n,e,ht.num]
  rw[this];cases d:t.at' (co c)
  .simp[T.at']
  .simp[zp a,e]
 .cases d:t.at' (co c)
  .simp[e,T.at']
  .simp[zp a,e]
def GT:ay prog 17:=⟨_,func17,rfl,rfl⟩
open Go.ChangeShapes (trodAll_one trodAll_two trodAll_three trodVars_none trodAll_mk1 trodAll_mk2 trodAll_mk3 trod_struct2)
open Go.RowKit (shut_bool)
def jg(W:World):PH:=fun b=>W.heap[b]?
def aI.calls{P:Program}{f:FuncId}{args:Array Value}{W:World}{v:Value}(h:aI P f args (jg W) [] fun r I2 qs=>qs=[]/\r=v):
  Calls P f args W fun e l=>e=.returned v/\RowKit.Below W.heap.size W l:=by
 have hd:Dj [jg W]:=kE _ _;have e0:U [jg W]=jg W:=PH.uni_no _;refine(h hd W (by rw[e0];exact fun b o hb=>hb)).mono fun e w2 g=>?_;cases e with
 |returned r=>obtain⟨H2,st,I2,qs,j,_,d,rfl,rfl⟩:=g;subst j;refine⟨rfl,⟨st.os,st.tape,st.out,st.size,fun k i=>?_⟩⟩;have a:jg W k=some W.heap[k]:=ll i;have:=st.sub k _ (PH.le_uni I2 _ k _ (d k _ a));rw[this];exact a.symm
 |outgrown=>exact g.elim
 |panicked c=>exact g.elim
def C4{α:Type}{R:List Value->α->Prop}{C:Nat->List Value}{g:Nat->α}:∀(is:List Nat),(∀i∈is,R (C i) (g i))->LR R (is.flatMap C) (is.map g)
 | [],_=>rfl
 |i::is,h=>⟨C i,is.flatMap C,rfl,h i (.head _),C4 is fun j a=>h j (.tail _ a)⟩
def Cd{C:Nat->List Value}{size:Nat}:∀(is:List Nat),(∀i∈is,(C i).length=size)->(is.flatMap C).length=is.length*size
 | [],_=>by simp
 |i::is,h=>by rw[pV,dG,h i (.head _),Cd is fun j a=>h j (.tail _ a),bf,fm];omega
variable{size:Nat}{C:Nat->List Value}
def Ot{len:Nat}(h:∀i,i<len->(C i).length=size){i j:Nat}(hi:i<len)(d:j<size):((List.range len).flatMap C)[i*size+j]?=(C i)[j]?:=by
 induction len with
 |zero=>omega
 |succ n c=>
  have a:((List.range n).flatMap C).length=n*size:=by have:=Cd (C:=C) (size:=size) (List.range n) fun k b=>h k (by have:=List.mem_range.1 b;omega);simpa using this
  rw[List.range_succ,pU,pV,List.flatMap_nil,ab];rcases aB i n with h1|h1
  .have h2:(i+1)*size<=n*size:=bS _ h1;rw[fm,lQ]at h2;rw[mU (by rw[a];omega)];exact c (fun k b=>h k O) h1
  .have:i=n:=by omega
   subst this;rw[pW (by rw[a];omega),a];congr 1;omega
def FK{W:World}{base:Nat}{a:Addr}{len:Nat}(h:∀i,i<len->W.cells? base (a.add (i*size)) size=some (C i))(p:0<size)(t:0<len):
  ∃b off,a=⟨b,off,none⟩/\aX (jg W) b off ((List.range len).flatMap C):=by
 have q:∀i,i<len->(C i).length=size/\∀j,j<size->W.cell? (a.add (i*size+j))=(C i)[j]?:=fun i hi=>by obtain⟨_,h1,h2⟩:=World.cells?_some (h i hi);exact⟨h1,fun j u=>by rw[<-Deep.add_add];exact h2 j u⟩
 obtain⟨b,off,n⟩:=a;have m:n=none:=by have h1:=(q 0 t).2 0 p;obtain⟨x,d⟩:∃x,(C 0)[0]?=some x:=⟨_,aL (by rw[(q 0 t).1];exact p)⟩;rw[d]at h1;simpa[Addr.add]using World.cell?_spot h1
 subst m;have c:((List.range len).flatMap C).length=len*size:=by have:=Cd (C:=C) (size:=size) (List.range len) fun k g=>(q k (List.mem_range.1 g)).1;simpa using this
 have f:∀k x,((List.range len).flatMap C)[k]?=some x->W.cell? ⟨b,off+k,none⟩=some x:=fun k x d=>by
  have g:k<len*size:=by rw[<-c];exact(List.getElem?_eq_some_iff.1 d).1
  have e:k=(k / size)*size+k % size:=by rw[Nat.mul_comm];exact(Nat.div_add_mod k size).symm
  have hi:k / size<len:=Nat.div_lt_of_lt_mul (by rw[Nat.mul_comm];exact g);have u:k % size<size:=Nat.mod_lt _ p;have h1:=(q _ hi).2 _ u;rw[<-Ot (fun i hi=>(q i hi).1) hi u,<-e,d]at h1;rw[<-h1];unfold Addr.add;split
  .rename_i r;rw[r,ln]
  .rfl
 obtain⟨cs,ty,s,hb,l⟩:∃cs ty s,W.heap[b]?=some (.cells cs ty s)/\∀k x,((List.range len).flatMap C)[k]?=some x->cs[off+k]?=some x:=by
  obtain⟨w,v⟩:∃x,((List.range len).flatMap C)[0]?=some x:=⟨_,aL (by rw[c];exact Nat.mul_pos t p)⟩;have r:=f 0 w v;unfold World.cell? at r;cases hb:W.heap[b]? with
  |none=>simp[hb]at r
  |some o=>
   cases o with
   |cells cs ty s=>refine⟨cs,ty,s,rfl,fun k x d=>?_⟩;have:=f k x d;simpa[World.cell?,hb]using this
   |_=>simp[hb]at r
 refine⟨b,off,rfl,cs,ty,s,hb,?_,?_⟩
 .rw[c];have hp:0<len*size:=Nat.mul_pos t p;obtain⟨x,d⟩:∃x,((List.range len).flatMap C)[len*size-1]?=some x:=⟨_,aL (by rw[c];omega)⟩;have:=(Array.getElem?_eq_some_iff.1 (l _ _ d)).1;show off+len*size<=_;omega
 .apply List.ext_getElem?;intro k;rcases aB k ((List.range len).flatMap C).length with g|g
  .rw[List.getElem?_take_of_lt g,rA];have d:=aL g;rw[d];simpa using l k _ d
  .rw[fW (by rw[eE];exact cO (Nat.min_le_left _ _) g),fW g]
section
variable {H:Type} {enc:TypeId×Value->H} {W:World}
def uz:∀d:DataW H,1<=Rows.uptoBulk d:=by
 intro d;cases d with
 |lit l=>cases l<;>simp[Rows.uptoBulk]
 |_=>simp[Rows.uptoBulk]
def Bx(D:Nat->DataW H):∀(is:List Nat),is.length<=Rows.uptoBulkAll (is.map D)/\∀i∈is,Rows.uptoBulk (D i)<=Rows.uptoBulkAll (is.map D)
 | []=>⟨bg _,fun _ h=>(dH h).elim⟩
 |i::is=>by
  obtain⟨h1,h2⟩:=Bx D is;have h3:=uz (D i);simp only[jW,bf,Rows.uptoBulkAll];refine⟨O,fun j a=>?_⟩;rcases List.mem_cons.1 a with rfl|a
  .omega
  .have:=h2 j a;omega
def J4:prog.underlying 46=some (.slice 164):=ah
def VW:∃b a,prog.underlying 164=some (.struct #[b,a])/\b.type=23/\b.offset=0/\a.type=23/\a.offset=1:=⟨_,_,underlying164,rfl,rfl,rfl,rfl⟩
def As:prog.underlying 23=some (.int .u32):=ah
def FA:prog.cellsOf 164=2:=ah
def FD:prog.cellsOf 23=1:=ah
def FF:prog.cellsOf 46=1:=ah
def Et{n:Int}(h:(Lit.int .u32 n).wf=true):∃k:Nat,n=(k:Int)/\k<2^32:=by
 have h1:IntKind.min .u32=0:=by decide
 have h2:IntKind.max .u32=4294967295:=by decide
 simp only[Lit.wf,h1,h2,bu,cu]at h;exact⟨n.toNat,O,O⟩
def Kk{n:Int}(h:(Lit.int .u8 n).wf=true):∃k:Nat,n=(k:Int):=by
 have h1:IntKind.min .u8=0:=by decide
 simp only[Lit.wf,h1,bu,cu]at h;exact⟨n.toNat,O⟩
def Dn{fuel:Nat}{v:Value}{d:DataW H}{p:List MemPlace}(h:DataW.trod enc prog W 0 (fun _=>true) true fuel 46 [v]=some (d,p)):∃l,gd (jg W) v l/\l.length<=Rows.uptoBulk d:=by
 rcases Deep.open_slice J4 h with ⟨e,e2⟩|⟨a,len,cap,m,n,D,S,e,_,G,I,hm,e2,B⟩
 .simp only[tL,dm]at e;subst e;exact⟨[],⟨none,0,rfl,.inl rfl⟩,bg _⟩
 .simp only[tL,dm]at e;subst e;simp only[eL]at e2;obtain⟨rfl,_⟩:=e2;have c:m=cap:=by simpa using hm
  subst c;obtain⟨R,Q,F,t0,w,t,u⟩:=VW;obtain⟨g,o⟩:=Deep.choose_lt (α:=Nat×Nat) (n:=len) (p:=fun i x=>W.cells? 0 (a.add (i*2)) 2=some [.int .u32 x.1,.int .u32 x.2]/\x.1<2^32/\x.2<2^32) (fun i hi=>by
   obtain⟨cs,h1,h2⟩:=B i O;rw[FA]at h1;obtain⟨M,L,N,_,k,h3,q⟩:=trod_struct2 F h2;rw[t0,w,FD]at h3;rw[t,u,FD]at q;obtain⟨P,e0,_,w0⟩:=DataW.trod_int As h3;obtain⟨k1,r,_,s⟩:=DataW.trod_int As q;obtain⟨A,rfl,K⟩:=Et w0;obtain⟨z,rfl,b1⟩:=Et s;rw[FA]at k
   match cs,k with
   | [x,y],_=>simp at e0 r;subst e0;subst r;exact⟨(A,z),h1,K,b1⟩)
  have hb:len<=Rows.uptoBulk (DataW.slice ((List.range len).map D) ((List.range (m-len)).map fun j=>D (len+j))):=by have:=(Bx D (List.range len)).1;simp only[AK]at this;simp only[Rows.uptoBulk];omega
  rcases g9 len with f|f
  .subst f;exact⟨[],⟨some a,m,rfl,.inl rfl⟩,bg _⟩
  .obtain⟨b,off,rfl,J⟩:=FK (size:=2) (C:=fun i=>[.int .u32 (g i).1,.int .u32 (g i).2]) (fun i hi=>(o i hi).1) aR f;refine⟨(List.range len).map g,⟨_,m,by rw[dW,AK],.inr ⟨b,off,_,rfl,J,C4 _ fun i hi=>?_⟩⟩,by rw[dW,AK];exact hb⟩;exact⟨rfl,(o i (List.mem_range.1 hi)).2⟩
end
open Go Go.Sx Dg Syn
def PU:ay prog 37:=⟨_,func37,rfl,rfl⟩
def DK(d:T):∀(a b:List Nd),dO d (a++b)=dO d a++dO d b
 | [],b=>rfl
 |n::a,b=>by rw[gR,qO,qO,DK d a b];split<;>rfl
def wI(d:T):∀(l:List Nd),aw (dO d l)<=aw l
 | []=>aW _
 |⟨k,t,o,s,ks,e⟩::l=>by
  have h1:=wI d ks;have h2:=wI d l;rw[qO];split
  .rw[eK];omega
  .rw[eK,eK];show aw (dO d ks)+1+_<=aw ks+1+_;omega
def MZ(d:T):rI (fun e=>d.and e) (dO d):=⟨rfl,DK d,fun n=>by rw[qO];rfl⟩
def MX(d:T)(e:List aN):gD (fun x=>d.and x) e=gt d e:=by
 induction e with
 |nil=>rfl
 |cons x e a=>show (if d.and x.cond=ff then []else [_])++gD (fun x=>d.and x) e=_;rw[a];unfold gt;rw[List.filterMap_cons];split<;>rename_i h<;>simp[h]
variable{vd:Value}
def LZ{I0:PH}{d:T}(h:bO I0 vd d):oq I0 (.func (.func 94) #[vd] #[]) (fun e=>d.and e):=
 ⟨94,#[vd],#[],rfl,yu,fun{I v e} a hr=>xA (h.le a) hr⟩
variable{t:Tr}{v:Value}{I:PH}
def Ub{d:T}(e:gh I v t)(f:bO I vd d)(j:aw t.kids<=bF)(b:t.diags.length<=bF):aI prog 37 #[v,vd] I [] fun r I2 qs=>qs=[]/\gh I2 r (wi d t):=by
 obtain⟨u,w,rfl,m,l,o,n⟩:=id e;obtain⟨D,C,rfl⟩:=f.shape2;obtain⟨z,y,rfl,_⟩:=id m;obtain⟨B,A,rfl,_⟩:=id o;intro hd;refine aG 9 func37 fun w0=>?_
 try simp only[sD,rD,E]
 refine af ?_;refine dq hd rfl Hf (IC (MZ d) e (LZ f) (cO (wI _ _) j) b) ?_;rintro x F qs c a⟨rfl,hr⟩;obtain⟨q,s,rfl,h1,h2,h3,p⟩:=hr;rw[MX]at h3;obtain⟨i,h,rfl,_⟩:=id h1;obtain⟨g,yc,rfl,_⟩:=id h3;refine af ?_;exact ao rfl c (r:=[.agg #[.slice i (dO d t.kids).length h,.slice g (gt d t.diags).length yc]]) (by simp only[results37,go_sem]) a ⟨rfl,_,_,rfl,h1,h2,h3,p⟩
def Hh:ay prog 98:=⟨_,func98,rfl,rfl⟩
def Hi:ay prog 99:=⟨_,func99,rfl,rfl⟩
structure Tw where
 kind:Nat
 text:aE
 tok:Int
 slot:Int
 kids:List Tw
 inn:List (Nat×Nat)
mutual
def mQ:Tw->Nat
 |⟨_,s,_,_,ks,i⟩=>1+i.length+s.length / 64+cW ks
def cW:List Tw->Nat
 | []=>0
 |x::l=>mQ x+cW l
end
def wU(x:Tw):mQ x=1+x.inn.length+x.text.length / 64+cW x.kids:=by cases x;rfl
def Ew:∀(a b:List Tw),cW (a++b)=cW a+cW b
 | [],b=>by simp[cW]
 |x::a,b=>by rw[gR,cW,cW,Ew a b];omega
variable{x:Tw}{i:Nat}{l:List Tw}
def WR(h:l[i]?=some x):cW (l.take (i+1))=cW (l.take i)+mQ x:=by rw[cw h,Ew,cW,cW];rfl
def Kq(l:List Tw)(i:Nat):cW (l.take i)<=cW l:=by
 conv=>rhs;rw[<-fl i l]
 rw[Ew];omega
def AE:∀l:List Tw,l.length<=cW l
 | []=>bg _
 |x::l=>by have:=AE l;rw[cW,wU,bf];omega
def Ex{x:Tw}:∀{l:List Tw},x∈l->mQ x<=cW l
 |y::l,h=>by
  rw[cW];rcases List.mem_cons.1 h with rfl|h
  .omega
  .have:=Ex h;omega
mutual
def tC:Tw->Nat
 | ⟨_,_,_,_,ks,i⟩=>gC i|||e9 ks
def e9:List Tw->Nat
 | []=>0
 | x::l=>tC x|||e9 l
end
def JR(x:Tw):tC x=gC x.inn|||e9 x.kids:=by cases x;rfl
def Ej:∀(a b:List Tw),e9 (a++b)=e9 a|||e9 b
 | [],b=>by simp[e9]
 |x::a,b=>by rw[gR,e9,e9,Ej a b,Nat.or_assoc]
def JQ(h:l[i]?=some x):e9 (l.take (i+1))=e9 (l.take i)|||tC x:=by rw[cw h,Ej,e9,e9,Nat.or_zero]
mutual
theorem VE:∀x:Tw,tC x<2^24
 |⟨_,_,_,_,ks,i⟩=>by rw[tC];exact Nat.or_lt_two_pow (xH i) (wJ ks)
theorem wJ:∀l:List Tw,e9 l<2^24
 | []=>by rw[e9];decide
 |x::l=>by rw[e9];exact Nat.or_lt_two_pow (VE x) (wJ l)
end
def ib:Nat->PH->List Value->Tw->Prop
 |0,_,_,_=>False
 |d+1,I,c,x=>∃a b,c=[.int .u8 x.kind,.string ⟨⟨x.text⟩⟩,.int .i64 x.tok,.int .i64 x.slot,a,b]/\Sl (ib d) I a x.kids/\gd I b x.inn
def ib.le:∀{d:Nat} {I J:PH} {c:List Value} {x:Tw},ib d I c x->I.le J->ib d J c x
 |0,_,_,_,_,h,_=>h
 |d+1,I,J,c,x,⟨f,g,e,i,hi⟩,b=>⟨f,g,e,Sl.le (R:=ib d) (fun{I J c a} h k=>ib.le h k) i b,gd.le hi b⟩
variable{d:Nat}
def ib.len(c:List Value)(x:Tw)(h:ib d I c x):c.length=6:=by
 cases d with
 |zero=>exact h.elim
 |succ d=>obtain⟨a,b,e,_⟩:=h;rw[e];rfl
abbrev lZ(d:Nat)(I:PH)(v:Value)(l:List Tw):Prop:=Sl (ib d) I v l
variable{J:PH}
def lZ.le(h:lZ d I v l)(k:I.le J):lZ d J v l:=Sl.le (R:=ib d) (fun{I J c a} h k=>ib.le h k) h k
def WQ{z:Int}(h1:-9223372036854775808<=z)(h2:z<9223372036854775808):IntKind.i64.wrap z=z:=by simp only[IntKind.wrap,show IntKind.bits .i64=64 from rfl,show IntKind.signed .i64=true from rfl];simp;omega
def AB(v:Value)(most:Int)(x:Nat×Nat):St:=⟨dn 47 [(0,.v v),(1,.v (.int .i64 most)),(5,.v (E x.2)),(6,.v (E x.1))],[]⟩
def Wz:∀(m d:Nat) {H:PH} {v:Value} {l:List Tw} {most:Int},cW l<m->lZ d H v l->cW l<2^40->-1125899906842624<=most->most<=1125899906842624->
  aJ prog 98 #[v,.int .i64 most] H fun r H2=>(∃n:Nat,r=E n/\n<=cW l/\((n:Int)<most->n=cW l))/\H2=H:=by
 intro m
 induction m with
 |zero=>intro d H v l most h;omega
 |succ m Q=>
 intro d H v l most hm K hw h1 h2;obtain⟨L,vc,rfl,_⟩:=id K;have X:=AE l;refine aG 47 func98 fun w0=>?_;refine af ?_;refine bz (fun x=>l.length-x.1) (AB (.slice L l.length vc) most) (fun x H2=>H2=H/\x.1<=l.length/\x.2<=cW (l.take x.1)/\((x.2:Int)<most->x.2=cW (l.take x.1))) (0,0) ae (by simp only[go_sem,ab,AB]) ⟨rfl,bg _,bg _,fun _=>by simp[cW]⟩ ?_;rintro⟨i,n⟩ H2 ⟨rfl,hi,z,k⟩ p;simp only at hi z k;simp only[AB];have T:=Kq l i;rcases aB i l.length with s|Z
 .have o:=Z5 i l.length;cases g:decide ((n:Int)<most)
  .refine bW o g ?_;exact au (r:=[_]) rfl ⟨⟨n,rfl,O,fun h=>by rw[ar h]at g;cases g⟩,rfl⟩
  .have A:=eF g;have W:=k A;have e1:=Z7 i;obtain⟨x,G⟩:∃x,l[i]?=some x:=⟨_,aL s⟩;obtain⟨b,off,cs,rfl,t,f⟩:=Sl.load (R:=ib d) (fun{I} c a h=>ib.len (I:=I) c a h) K G;cases d with
   |zero=>exact t.elim
   |succ d=>
   obtain⟨vk,vi,rfl,J,hc⟩:=t;obtain⟨P,N,rfl,_⟩:=id J;obtain⟨ca,cc,rfl,_⟩:=id hc;have c1:=f.get (i:=1) rfl;have c4:=f.get (i:=4) rfl;have c5:=f.get (i:=5) rfl;have U:=WR G;have V:=Kq l (i+1);have S:=wU x;obtain⟨j,y⟩:∃j,n+1+x.inn.length+x.text.length / 64=j:=⟨_,rfl⟩;have q:=Z7 n;have u:IntKind.i64.wrap (((n+1:Nat):Int)+(x.inn.length:Int))=((n+1+x.inn.length:Nat):Int):=by rw[<-wrap64 (n:=n+1+x.inn.length) O];congr 1
   have F:IntKind.i64.wrap ((x.text.length:Int).tdiv 64)=((x.text.length / 64:Nat):Int):=by
    have e:(x.text.length:Int).tdiv 64=((x.text.length / 64:Nat):Int):=by rw[Int.tdiv_eq_ediv_of_nonneg O];rfl
    rw[e];exact wrap64 O
   have D:IntKind.i64.wrap (((n+1+x.inn.length:Nat):Int)+((x.text.length / 64:Nat):Int))=((j:Nat):Int):=by rw[<-y,<-wrap64 (n:=n+1+x.inn.length+x.text.length / 64) O];congr 1
   have C:IntKind.i64.wrap (most-((j:Nat):Int))=most-((j:Nat):Int):=WQ O O;refine bW o g ?_;refine aV [0,1,2,3,4,5,6,7,8,9,10,11,12,13,14,15,16,17] [6,13] [] ?_;refine aM q ?_
   try refine⟨O,?_⟩
   refine Xc (l:=[.slice ca x.inn.length cc]) rfl (by simpa using c5) (.inr ⟨qp,rfl⟩) ?_;refine eS q u ?_
   try refine⟨O,?_⟩
   refine Xc (l:=[.string ⟨⟨x.text⟩⟩]) rfl (by simpa using c1) (.inr ⟨iT,rfl⟩) ?_;apply bp;simp only[go_sem,E,cN,q,u,F,D];apply an;refine av ?_
   try refine⟨O,?_⟩
   refine Xb (l:=[.slice P x.kids.length N]) rfl (by simpa using c4) (.inr ⟨r8,rfl⟩) ?_;refine aj C ?_;refine Xa rfl Hh (Q d O J O O O) ?_;rintro v H2⟨⟨w,rfl,q1,M⟩,rfl⟩;have B:IntKind.i64.wrap ((j:Int)+(w:Int))=((j+w:Nat):Int):=by rw[<-wrap64 (n:=j+w) O];congr 1
   refine bW B e1 ?_;exact p (i+1,j+w) _ _ bC ae (by simp only[go_sem,ab,AB]) ⟨rfl,s,by simp only;omega,fun h=>by simp only at h |-;have:=M O;omega⟩
 .have:i=l.length:=by omega
  subst this;rw[cB]at z k;have o:decide ((l.length:Int)<(l.length:Int))=false:=ai;refine aj o ?_;exact au (r:=[_]) rfl ⟨⟨n,rfl,z,k⟩,rfl⟩
def Ap(v:Value)(x:Nat×Nat):St:=⟨dn 27 [(0,.v v),(3,.v (.int .u32 x.2)),(4,.v (E x.1))],[]⟩
def VT:∀(m d:Nat) {H:PH} {v:Value} {l:List Tw},cW l<m->lZ d H v l->cW l<2^40->aJ prog 99 #[v] H fun r H2=>r=.int .u32 (e9 l:Nat)/\H2=H:=by
 intro m
 induction m with
 |zero=>intro d H v l h;omega
 |succ m D=>
 intro d H v l hm w hw;obtain⟨y,vc,rfl,_⟩:=id w;have K:=AE l;refine aG 27 func99 fun w0=>?_;refine af ?_;refine bz (fun x=>l.length-x.1) (Ap (.slice y l.length vc)) (fun x H2=>H2=H/\x.1<=l.length/\x.2=e9 (l.take x.1)) (0,0) ae (by simp only[go_sem,ab,Ap]) ⟨rfl,bg _,by simp[e9]⟩ ?_;rintro⟨i,u⟩ H2 ⟨rfl,hi,j⟩ f;simp only at hi j;simp only[Ap];rcases aB i l.length with k|M
 .have q:=Z5 i l.length;have N:=Z7 i;obtain⟨x,p⟩:∃x,l[i]?=some x:=⟨_,aL k⟩;obtain⟨b,off,cs,rfl,o,e⟩:=Sl.load (R:=ib d) (fun{I} c a h=>ib.len (I:=I) c a h) w p;cases d with
  |zero=>exact o.elim
  |succ d=>
  obtain⟨S,T,rfl,s,t⟩:=o;obtain⟨C,B,rfl,_⟩:=id s;obtain⟨Q,P,rfl,_⟩:=id t;have c4:=e.get (i:=4) rfl;have c5:=e.get (i:=5) rfl;have G:=wU x;have F:=Ex (cH p);have g:=wJ (l.take i);rw[<-j]at g;have hb:=xH x.inn;have L:=wJ x.kids;have J:u|||gC x.inn<2^24:=Nat.or_lt_two_pow g hb;have A:=pG (a:=u) (b:=gC x.inn) O O;have z:=pG (a:=u|||gC x.inn) (b:=e9 x.kids) O O;refine aj q ?_;refine aV [0,1,2,3,4,5,8,9,10,11,12,6,7,13,14,15] [5,12] [6] ?_;refine aC ?_
  try refine⟨O,?_⟩
  refine Xc (l:=[.slice Q x.inn.length P]) rfl (by simpa using c5) (.inr ⟨qp,rfl⟩) ?_;refine aC ?_
  try refine⟨O,?_⟩
  refine Xc (l:=[.slice C x.kids.length B]) rfl (by simpa using c4) (.inr ⟨r8,rfl⟩) ?_;refine aC ?_;refine lW rfl rfl rfl rfl CJ (Bw t O) ?_;rintro v H2⟨rfl,rfl⟩;refine⟨gL.le (ax _),?_⟩;refine aM A ?_;refine lW rfl rfl rfl rfl Hi (D d O s O) ?_;rintro v H2⟨rfl,rfl⟩;refine⟨gL.le (ax _),?_⟩;refine aM z ?_;apply an;refine aj N ?_;exact f (i+1,(u|||gC x.inn)|||e9 x.kids) _ _ bC ae (by simp only[go_sem,ab,Ap]) ⟨rfl,k,by simp only;rw[JQ p,<-j,JR,Nat.or_assoc]⟩
 .have:i=l.length:=by omega
  subst this;rw[cB]at j;have q:decide ((l.length:Int)<(l.length:Int))=false:=ai;refine aj q ?_;exact au (r:=[_]) rfl ⟨by rw[j];rfl,rfl⟩
open Go Go.Sx Dg Syn
def PW:ay prog 40:=⟨_,func40,rfl,rfl⟩
structure Nt where
 code:Nat
 tok:Int
 inn:List (Nat×Nat)
structure Sm where
 kids:List Tw
 notes:List Nt
def j0(I:PH)(c:List Value)(x:Nt):Prop:=∃a,c=[.int .u8 x.code,.int .i64 x.tok,a]/\gd I a x.inn
variable{c:List Value}
def j0.le{x:Nt}(h:j0 I c x)(k:I.le J):j0 J c x:=by obtain⟨a,e,h⟩:=h;exact⟨a,e,gd.le h k⟩
def j0.len(c:List Value)(x:Nt)(h:j0 I c x):c.length=3:=by obtain⟨a,e,_⟩:=h;rw[e];rfl
abbrev qh(I:PH)(v:Value)(l:List Nt):Prop:=Sl j0 I v l
def qh.le{l:List Nt}(h:qh I v l)(k:I.le J):qh J v l:=Sl.le (R:=j0) (fun{I J c a} h k=>j0.le h k) h k
def jJ(d:Nat)(I:PH)(c:List Value)(x:Sm):Prop:=∃b a,c=[b,a]/\lZ d I b x.kids/\qh I a x.notes
def jJ.le{x:Sm}(h:jJ d I c x)(k:I.le J):jJ d J c x:=by obtain⟨b,a,e,h1,h2⟩:=h;exact⟨b,a,e,h1.le k,h2.le k⟩
def jJ.len(c:List Value)(x:Sm)(h:jJ d I c x):c.length=2:=by obtain⟨b,a,e,_⟩:=h;rw[e];rfl
abbrev oJ(d:Nat)(I:PH)(v:Value)(l:List Sm):Prop:=Sl (jJ d) I v l
def oJ.le{l:List Sm}(h:oJ d I v l)(k:I.le J):oJ d J v l:=Sl.le (R:=jJ d) (fun{I J c a} h k=>jJ.le h k) h k
def ug(x:Sm):Prop:=cW x.kids<2^40/\x.notes.length<2^40/\∀y∈x.notes,y.inn.length<2^40
def qi(u:Nat)(x:Sm):Prop:=cW x.kids<500/\x.notes.length<500/\e9 x.kids|||u=u/\(∀y∈x.notes,gC y.inn|||u=u/\y.inn.length<500)
variable{u:Nat}
def sZ{a v:Nat}(h:a|||u=u):a|||(u|||v)=u|||v:=by rw[<-Nat.or_assoc,h]
def Iz{a:Nat}:a|||(u|||a)=u|||a:=by rw[Nat.or_comm u a,<-Nat.or_assoc,Nat.or_self]
def qi.up{v:Nat}{x:Sm}(h:qi u x):qi (u|||v) x:=⟨h.1,h.2.1,sZ h.2.2.1,fun y a=>⟨sZ (h.2.2.2 y a).1,(h.2.2.2 y a).2⟩⟩
def pP(v vd:Value)(most:Nat)(x:Nat×Nat×Nat):St:=⟨dn 100 [(0,.v v),(2,.v (E most)),(6,.v (.int .u32 0)),(7,.v (.bool false)),(8,.v (E x.2.2)),(9,.v (.int .u32 x.2.1)),(10,.v (E x.1))],[]⟩
def qP(v vd:Value)(most i:Nat)(x:Nat×Nat×Nat):St:=⟨dn 100 [(0,.v v),(2,.v (E most)),(6,.v (.int .u32 0)),(7,.v (.bool false)),(8,.v (E x.2.2)),(9,.v (.int .u32 x.2.1)),(10,.v (E i)),(11,.v (E x.1))],[]⟩
def UU{H:PH}{l:List Sm}{w:List (Nat×Nat)}{most:Nat}(hS:oJ d H v l)(hW:gd H vd w)(hb:∀x∈l,ug x)(hl:l.length<2^40)(hw:w.length<2^40):aJ prog 40 #[v,vd,E most] H fun r H2=>
  (∃(u:Nat) (ok:Bool),r=.tuple #[.int .u32 u,.bool ok]/\u<2^24/\(ok=true->bM u 32<=most/\w.length<500/\l.length<500/\gC w|||u=u/\∀x∈l,qi u x))/\H2=H:=by
 obtain⟨va,vc,rfl,_⟩:=id hS;obtain⟨wa,wc,rfl,_⟩:=id hW;refine aG 100 func40 fun w0=>?_
 try simp only[E]
 have e0:IntKind.i64.wrap ((l.length:Int)+(w.length:Int))=((l.length+w.length:Nat):Int):=by rw[<-wrap64 (n:=l.length+w.length) O];congr 1
 apply RG;simp only[go_sem,e0];refine Xa rfl CJ (Bw hW O) ?_;rintro v H2⟨rfl,rfl⟩;refine af ?_;apply gl (fun(x:Nat×Nat×Nat)=>l.length-x.1) (pP (.slice va l.length vc) (.slice wa w.length wc) most) (fun x H'=>H'=H2/\x.1<=l.length/\x.2.1<2^24/\x.2.2<2^44/\gC w|||x.2.1=x.2.1/\(x.2.2<500->w.length<500/\l.length<500/\∀y∈l.take x.1,qi x.2.1 y))
  (fun x H'=>H'=H2/\x.2.1<2^24/\gC w|||x.2.1=x.2.1/\(x.2.2<500->w.length<500/\l.length<500/\∀y∈l,qi x.2.1 y)) (0,gC w,l.length+w.length)
 .exact ae
 .exact(by simp only[go_sem,ab,pP])
 .exact⟨rfl,bg _,xH w,by simp only;omega,Nat.or_self _,fun h=>⟨by simp only at h;omega,by simp only at h;omega,fun y e=>by simp at e⟩⟩
 .rintro⟨i,u,n⟩ H' ⟨rfl,hi,P,hn,p,q⟩ B F;simp only at hi P hn p q;simp only[pP];rcases aB i l.length with T|a4
  rotate_left
  .have:i=l.length:=by omega
   subst this;have M:decide ((l.length:Int)<(l.length:Int))=false:=ai;rw[cB]at q;apply bU 14;simp only[go_sem,E,M];exact F (l.length,u,n) _ _ ae (by simp only[go_sem,ab,pP]) ⟨rfl,P,p,q⟩
  have M:=Z5 i l.length;rcases aB n 500 with C|C
  rotate_left
  .have Z:decide ((n:Int)<500)=false:=aS O;apply bU 14;simp only[go_sem,E,M,Z];exact F (i,u,n) _ _ ae (by simp only[go_sem,ab,pP]) ⟨rfl,P,p,fun h=>by simp only at h;omega⟩
  have Z:decide ((n:Int)<500)=true:=ar O;obtain⟨S,U,J⟩:=q C;have e1:=Z7 i;obtain⟨x,hx⟩:∃x,l[i]?=some x:=⟨_,aL T⟩;obtain⟨b1,b2,b3⟩:=hb x (cH hx);obtain⟨b,off,cs,rfl,⟨vk,vn,rfl,hk,ag⟩,G⟩:=Sl.load (R:=jJ d) (fun{I} c a h=>jJ.len (I:=I) c a h) hS hx;obtain⟨ka,kc,rfl,_⟩:=id hk;obtain⟨na,nc,rfl,_⟩:=id ag;have c0:=G.get (i:=0) rfl;have c1:=G.get (i:=1) rfl;have e36:IntKind.i64.wrap ((n:Int)+(x.notes.length:Int))=((n+x.notes.length:Nat):Int):=by rw[<-wrap64 (n:=n+x.notes.length) O];congr 1
  refine bW M Z ?_;refine aV [0,1,2,3,4,5,6,7,8,9,10,11,12,13,14,15] [5,12] [13] ?_;refine aC ?_
  try refine⟨O,?_⟩
  refine Xc (l:=[.slice na x.notes.length nc]) rfl (by simpa using c1) (.inr ⟨qr,rfl⟩) ?_;refine aM e36 ?_
  try refine⟨O,?_⟩
  refine Xc (l:=[.slice ka x.kids.length kc]) rfl (by simpa using c0) (.inr ⟨r8,rfl⟩) ?_;refine aC ?_;refine lW rfl rfl rfl rfl Hh (Wz (cW x.kids+1) d O hk O O O) ?_;rintro v H2⟨⟨n2,rfl,q1,q2⟩,rfl⟩;refine⟨gL.le (ax _),?_⟩;have e43:IntKind.i64.wrap (((n+x.notes.length:Nat):Int)+(n2:Int))=((n+x.notes.length+n2:Nat):Int):=by rw[<-wrap64 (n:=n+x.notes.length+n2) O];congr 1
  refine aM e43 ?_;apply an;obtain⟨n1,aq⟩:∃n1,n+x.notes.length+n2=n1:=⟨_,rfl⟩;rw[aq];refine av ?_;have aa:n1<2^43:=O;apply gl (fun(y:Nat×Nat×Nat)=>x.notes.length-y.1) (qP (.slice (some ⟨b,off,none⟩) l.length vc) (.slice wa w.length wc) most i) (fun y H'=>H'=H2/\y.1<=x.notes.length/\y.2.1<2^24/\u|||y.2.1=y.2.1/\n1<=y.2.2/\y.2.2<2^43/\(y.2.2<500->∀z∈x.notes.take y.1,gC z.inn|||y.2.1=y.2.1/\z.inn.length<500))
   (fun y H'=>H'=H2/\y.2.1<2^24/\u|||y.2.1=y.2.1/\n1<=y.2.2/\y.2.2<2^43/\(y.2.2<500->∀z∈x.notes,gC z.inn|||y.2.1=y.2.1/\z.inn.length<500)) (0,u,n1)
  .exact ae
  .exact(by simp only[go_sem,ab,qP])
  .exact⟨rfl,bg _,P,Nat.or_self _,aW _,aa,fun _ y e=>by simp at e⟩
  .rintro⟨k,t,m⟩ H' ⟨rfl,a1,g,f,A,j,o⟩ K s;simp only at a1 g f A j o;simp only[qP];rcases aB k x.notes.length with Q|a0
   rotate_left
   .have:k=x.notes.length:=by omega
    subst this;have L:decide ((x.notes.length:Int)<(x.notes.length:Int))=false:=ai;rw[cB]at o;refine av ?_
    try refine⟨O,?_⟩
    refine Xb (l:=[.slice na x.notes.length nc]) rfl (by simpa using c1) (.inr ⟨qr,rfl⟩) ?_;apply bU 10;simp only[go_sem,E,L];exact s (x.notes.length,t,m) _ _ ae (by simp only[go_sem,ab,qP]) ⟨rfl,g,f,A,j,o⟩
   have L:=Z5 k x.notes.length;rcases aB m 500 with D|D
   rotate_left
   .have X:decide ((m:Int)<500)=false:=aS O;refine av ?_
    try refine⟨O,?_⟩
    refine Xb (l:=[.slice na x.notes.length nc]) rfl (by simpa using c1) (.inr ⟨qr,rfl⟩) ?_;apply bU 10;simp only[go_sem,E,L,X];exact s (k,t,m) _ _ ae (by simp only[go_sem,ab,qP]) ⟨rfl,g,f,A,j,fun h=>by simp only at h;omega⟩
   have X:decide ((m:Int)<500)=true:=ar O;have e2:=Z7 k;obtain⟨z,hz⟩:∃z,x.notes[k]?=some z:=⟨_,aL Q⟩;have a2:=b3 z (cH hz);obtain⟨zb,zo,zs,ez,⟨vi,rfl,ac⟩,am⟩:=Sl.load (R:=j0) (fun{I} c a h=>j0.len (I:=I) c a h) ag hz;cases ez
   obtain⟨ia,ic,rfl,_⟩:=id ac;have d2:=am.get (i:=2) rfl;have e69:IntKind.i64.wrap ((m:Int)+(z.inn.length:Int))=((m+z.inn.length:Nat):Int):=by rw[<-wrap64 (n:=m+z.inn.length) O];congr 1
   have al:=xH z.inn;have q81:=pG (a:=t) (b:=gC z.inn) O O;refine av ?_
   try refine⟨O,?_⟩
   refine Xb (l:=[.slice (some ⟨zb,zo,none⟩) x.notes.length nc]) rfl (by simpa using c1) (.inr ⟨qr,rfl⟩) ?_;refine bW L X ?_
   try refine⟨O,?_⟩
   refine Xb (l:=[.slice (some ⟨zb,zo,none⟩) x.notes.length nc]) rfl (by simpa using c1) (.inr ⟨qr,rfl⟩) ?_;refine av ?_
   try refine⟨O,?_⟩
   refine Xb (l:=[.slice ia z.inn.length ic]) rfl (by simpa using d2) (.inr ⟨qp,rfl⟩) ?_;refine aj e69 ?_
   try refine⟨O,?_⟩
   refine Xb (l:=[.slice (some ⟨zb,zo,none⟩) x.notes.length nc]) rfl (by simpa using c1) (.inr ⟨qr,rfl⟩) ?_;refine av ?_
   try refine⟨O,?_⟩
   refine Xb (l:=[.slice ia z.inn.length ic]) rfl (by simpa using d2) (.inr ⟨qp,rfl⟩) ?_;refine av ?_;refine Xa rfl CJ (Bw ac O) ?_;rintro v H2⟨rfl,rfl⟩;refine bW q81 e2 ?_;exact K (k+1,t|||gC z.inn,m+z.inn.length) _ _ bC ae (by simp only[go_sem,ab,qP]) ⟨rfl,Q,Nat.or_lt_two_pow g al,sZ f,by simp only;omega,by simp only;omega,fun h y e=>by
    simp only at h e |-;rw[cw hz]at e;rcases List.mem_append.1 e with e|e
    .obtain⟨p1,p2⟩:=o O y e;exact⟨sZ p1,p2⟩
    .rw[List.mem_singleton]at e;subst e;exact⟨Iz,O⟩⟩
  rintro⟨k,t,m⟩ H' ⟨rfl,g,f,A,j,o⟩;simp only at g f A j o;simp only[qP];have N:gC w|||t=t:=by rw[<-f,<-Nat.or_assoc,p]
  rcases aB m 500 with D|D
  rotate_left
  .have W:decide ((m:Int)<500)=false:=aS O;refine bW W e1 ?_;exact B (i+1,t,m) _ _ bC ae (by simp only[go_sem,ab,pP]) ⟨rfl,T,g,by simp only;omega,N,fun h=>by simp only at h;omega⟩
  have W:decide ((m:Int)<500)=true:=ar O;refine aj W ?_
  try refine⟨O,?_⟩
  refine Xb (l:=[.slice ka x.kids.length kc]) rfl (by simpa using c0) (.inr ⟨r8,rfl⟩) ?_;refine av ?_;refine Xa rfl Hi (VT (cW x.kids+1) d O hk O) ?_;rintro v H2⟨rfl,rfl⟩;have ap:=wJ x.kids;have q91:=pG (a:=t) (b:=e9 x.kids) O O;refine bW q91 e1 ?_;have a3:=q2 O;exact B (i+1,t|||e9 x.kids,m) _ _ bC ae (by simp only[go_sem,ab,pP]) ⟨rfl,T,Nat.or_lt_two_pow g ap,by simp only;omega,sZ N,fun _=>⟨S,U,fun y e=>by
   simp only at e |-;rw[cw hx]at e;rcases List.mem_append.1 e with e|e
   .have:=(J y e).up (v:=t);rw[f]at this;exact this.up
   .rw[List.mem_singleton]at e;subst e;exact⟨O,O,Iz,fun z hz=>⟨sZ (o D z hz).1,(o D z hz).2⟩⟩⟩⟩
 rintro⟨i,u,n⟩ H' ⟨rfl,P,p,q⟩;simp only at P p q;simp only[pP];rcases aB n 500 with C|C
 rotate_left
 .have V:decide ((n:Int)<500)=false:=aS O;refine aj V ?_;exact au (r:=[.int .u32 (u:Nat),.bool false]) (by simp only[results40,go_sem,E]) ⟨⟨u,false,rfl,P,fun h=>by cases h⟩,rfl⟩
 have V:decide ((n:Int)<500)=true:=ar O;obtain⟨S,U,J⟩:=q C;refine aj V ?_;refine Xa rfl P5 (Ob (most:=most) O) ?_;rintro v H2⟨rfl,rfl⟩;refine av ?_;exact au (r:=[.int .u32 (u:Nat),.bool (decide (bM u 32<=most))]) (by simp only[results40,go_sem,E]) ⟨⟨u,_,rfl,P,fun h=>⟨eF h,S,U,p,J⟩⟩,rfl⟩
def GI:ay prog 100:=⟨_,func100,rfl,rfl⟩
def PX:ay prog 41:=⟨_,func41,rfl,rfl⟩
mutual
def jl:Tw->Nd
 |⟨k,s,t,o,ks,i⟩=>⟨k,s,t,o,dM ks,fE i⟩
def dM:List Tw->List Nd
 | []=>[]
 |x::l=>jl x::dM l
end
def S7(x:Tw):jl x=⟨x.kind,x.text,x.tok,x.slot,dM x.kids,fE x.inn⟩:=by cases x;rw[jl]
def yZ:∀l:List Tw,dM l=l.map jl
 | []=>by rw[dM];rfl
 |x::l=>by rw[dM,yZ l];rfl
def S6(l:List Tw):(dM l).length=l.length:=by rw[yZ,dW]
def Ik(h:l[i]?=some x):dM (l.take (i+1))=dM (l.take i)++[jl x]:=by rw[yZ,yZ,cw h,jV];rfl
mutual
theorem VC:∀x:Tw,tB (jl x)<=mQ x
 |⟨k,s,t,o,ks,i⟩=>by rw[jl,tB,mQ];have:=Ad ks;omega
theorem Ad:∀l:List Tw,aw (dM l)<=cW l
 | []=>by rw[dM,lL];exact bg _
 |x::l=>by
  have h1:=VC x
  have h2:=Ad l
  rw[dM,cW,aw];omega
end
variable{n:Nd}
def aU.ones{W:PH->Value->T->Prop}(e:qn W u)(h:aU W d I c n):c.all Sx.one=true:=by
 cases d with
 |zero=>exact h.elim
 |succ d=>obtain⟨f,w,rfl,hw,b⟩:=h;obtain⟨a,g,c',rfl⟩:=e.sh hw;obtain⟨j,i,rfl,_⟩:=b;rfl
def zr{a b:Nat}(h:(a|||b)|||u=u):a|||u=u/\b|||u=u:=by
 have key:∀i,(a.testBit i=true->u.testBit i=true)/\(b.testBit i=true->u.testBit i=true):=fun i=>by
  constructor
  .intro ha;rw[<-h,Nat.testBit_or,Nat.testBit_or,ha];rfl
  .intro hb;rw[<-h,Nat.testBit_or,Nat.testBit_or,hb,Bool.or_true];rfl
 have one:∀x:Nat,(∀i,x.testBit i=true->u.testBit i=true)->x|||u=u:=fun x d=>Nat.eq_of_testBit_eq fun i=>by
  rw[Nat.testBit_or];cases c:x.testBit i
  .rfl
  .rw[d i c];rfl
 exact⟨one a fun i=>(key i).1,one b fun i=>(key i).2⟩
abbrev tU(u d:Nat)(I A:PH)(v:Value)(l:List Nd):Prop:=Ow (aU (dZ u) d) 67 6 I A v l
abbrev lw(u d:Nat)(I:PH)(v:Value)(l:List Nd):Prop:=Sl (aU (dZ u) d) I v l
def sU(a:u<2^32)(hp:bM u 32<=8)(h:aU (dZ u) d I c n)(k:I.le J):aU (dZ u) d J c n:=aU.le (tD a hp) h k
def tU.le(b:u<2^32)(hp:bM u 32<=8){A:PH}{l:List Nd}(h:tU u d I A v l)(k:I.le J):tU u d J A v l:=Ow.le (R:=aU (dZ u) d) (fun{I J c a} h k=>sU b hp h k) h k
def lw.le(b:u<2^32)(hp:bM u 32<=8){l:List Nd}(h:lw u d I v l)(k:I.le J):lw u d J v l:=Sl.le (R:=aU (dZ u) d) (fun{I J c a} h k=>sU b hp h k) h k
def yw(v a vb:Value)(u i:Nat):St:=⟨dn 92 [(0,.v v),(1,.v (.int .u32 u)),(6,.v a),(7,.v vb),(8,.v (E i))],[]⟩
def Qj(u d:Nat)(l:List Tw)(a:PH)(x:Nat×Value×Value)(H:PH):Prop:=∃I A B,H=U [I,A,B]/\Dj [I,A,B]/\a.le I/\x.1<=l.length/\aT I A x.2.1 (dM (l.take x.1))/\tU u d I B x.2.2 (dM (l.take x.1))
def Qk(hu:u<2^24)(hp:bM u 32<=8):∀(m d:Nat) {I:PH} {v:Value} {l:List Tw},cW l<m->lZ d I v l->cW l<2^30->e9 l|||u=u->
  aI prog 100 #[v,.int .u32 u] I [] fun r I2 qs=>qs=[]/\∃va vb,r=.tuple #[va,vb]/\de I2 va (dM l)/\jB va/\lw u d I2 vb (dM l):=by
 have j:u<2^32:=O;intro m
 induction m with
 |zero=>intro d I v l h;omega
 |succ m ih=>
 intro d I v l hm hS hw hb hd;obtain⟨la,lc,rfl,_⟩:=id hS;have b6:=AE l;refine aG 92 func100 fun w0=>?_;refine af ?_;refine dR hd fun bd=>?_;refine dR bd fun bb=>?_;refine bz (fun x=>l.length-x.1) (fun x:Nat×Value×Value=>yw (.slice la l.length lc) x.2.1 x.2.2 u x.1) (Qj u d l I) (0,.slice none 0 0,.slice none 0 0) ae (by simp only[go_sem,ab,yw]) ?_ ?_
 .exact⟨I,_,_,rfl,bb,ax _,bg _,by simpa[dM]using Ow.nil az 60 7 I,by simpa[dM]using Ow.nil (aU (dZ u) d) 67 6 I⟩
 rintro⟨i,va,vb⟩ H ⟨I1,A1,B1,rfl,M,t,hi,P,hB⟩ G;simp only at hi P hB;simp only[yw];obtain⟨aa,ac,rfl⟩:=P.shape;obtain⟨ba,bc,rfl⟩:=hB.shape;have Z:(dM (l.take i)).length=i:=by rw[S6,eE];omega
 rcases aB i l.length with X|b7
 .have N:=Z5 i l.length;have e1:=Z7 i;obtain⟨x,T⟩:∃x,l[i]?=some x:=⟨_,aL X⟩;obtain⟨b,off,cs,rfl,a3,e⟩:=Sl.load (R:=ib d) (fun{I} c a h=>ib.len (I:=I) c a h) (lZ.le hS t) T;cases d with
  |zero=>exact a3.elim
  |succ d=>
  obtain⟨vk,vi,rfl,hk,hc⟩:=a3;obtain⟨ka,kc,rfl,_⟩:=id hk;obtain⟨ca,cc,rfl,_⟩:=id hc;have b4:=Ex (cH T);have b5:=wU x;have D:tC x|||u=u:=by
   have h1:=JQ T;have h3:e9 l=e9 (l.take (i+1))|||e9 (l.drop (i+1)):=by rw[<-Ej,fl]
   rw[h3]at hb;have h2:=(zr hb).1;rw[h1]at h2;exact(zr h2).2
  rw[JR]at D;have a7:=(zr D).1;have a6:=(zr D).2;have W:=S7 x;have c4:=e.get (i:=4) rfl;refine aj N ?_
  try refine⟨O,?_⟩
  refine Xb (l:=[.slice ka x.kids.length kc]) rfl (cellsU M (.head _) (by simpa using c4)) (.inr ⟨r8,rfl⟩) ?_;refine av ?_;refine ce M [0,1] [] [A1,B1] rfl GI rfl (ih d O hk O a6) ?_;rintro v I4 qs g f⟨rfl,xa,xb,rfl,S,a5,z⟩;simp only[Z3]at g |-;obtain⟨pa,pc,rfl,_⟩:=id S;obtain⟨qa,qc,rfl,_⟩:=id z;have e:=e.le f;have c0:=e.get (i:=0) rfl;have c1:=e.get (i:=1) rfl;have c2:=e.get (i:=2) rfl;have c3:=e.get (i:=3) rfl;have c5:=e.get (i:=5) rfl;refine av ?_;refine tZ mixed [0,1,2,3,4,5,6,7,8,9,10,11,12,13,14,15,16,17,18,19,20,21,22,23,24,25,26,27,28,29,30,31] [] [] [5,10,15,20,26] [27] I4 rfl rfl ?_;refine aC ?_
  try refine⟨O,?_⟩
  refine jH (l:=[.int .u8 x.kind]) rfl (eP g) rfl rfl rfl (by simpa using c0) (.inr ⟨qq,rfl⟩) ?_;refine aC ?_
  try refine⟨O,?_⟩
  refine jH (l:=[.string ⟨⟨x.text⟩⟩]) rfl (eP g) rfl rfl rfl (by simpa using c1) (.inr ⟨iT,rfl⟩) ?_;refine aC ?_
  try refine⟨O,?_⟩
  refine jH (l:=[.int .i64 x.tok]) rfl (eP g) rfl rfl rfl (by simpa using c2) (.inr ⟨dI,rfl⟩) ?_;refine aC ?_
  try refine⟨O,?_⟩
  refine jH (l:=[.int .i64 x.slot]) rfl (eP g) rfl rfl rfl (by simpa using c3) (.inr ⟨dI,rfl⟩) ?_;refine aC ?_
  try refine⟨O,?_⟩
  refine jH (l:=[.slice ca x.inn.length cc]) rfl (eP g) rfl rfl rfl (by simpa using c5) (.inr ⟨qp,rfl⟩) ?_;refine aC ?_;have a4:=gd.le hc f;refine EQ g [0,1] rfl (fun _=>ax _) rfl Cz (by rfl) (ps:=[]) (F:=[A1,B1]) rfl (DU a4 O) ?_;rintro v1 I5 qs q o⟨rfl,hr⟩;simp only[Z3]at q |-;obtain⟨za,zk,rfl⟩:=hr.shape2;refine bV ?_;refine lV q (by exact lJ) rfl rfl rfl rfl rfl aR fun kb I6 a9 B al=>?_;have C:=Y o B;have bx:de I6 (.slice (some ⟨kb,0,none⟩) 1 1) [jl x]:=⟨_,_,rfl,.inr ⟨kb,0,_,rfl,(bD al (by simp[aD,Value.cells]) (by simp[aD,Value.cells,E,sD,rD]):aX I6 kb 0 [.int .u8 x.kind,.string ⟨⟨x.text⟩⟩,.int .i64 x.tok,.int .i64 x.slot,.slice pa (dM x.kids).length pc,sD za zk (fE x.inn),rD (fE x.inn)]),.one (by rw[W];exact az.mk (n:=⟨x.kind,x.text,x.tok,x.slot,dM x.kids,fE x.inn⟩) (hr.le B) (de.le S C) a5)⟩⟩;refine bV ?_;refine oD a9 (by exact lJ) (aT.le P (Y f C)) (bx) (fun{I J c a} h k=>az.le h k) (fun{I} c a h=>az.len c a h) (fun{I} c a h=>az.ones h) rfl rfl rfl rfl rfl rfl (by first|omega|(simp only[bf,bA];omega)) (by unfold maxLen;first|omega|(simp only[bf,bA];omega)) fun ua uc I7 A7 p ag b1=>?_;refine bV ?_;apply an;have w:=Y C ag;have e:=e.le w;have c0:=e.get (i:=0) rfl;have c1:=e.get (i:=1) rfl;have c2:=e.get (i:=2) rfl;have c3:=e.get (i:=3) rfl;have c5:=e.get (i:=5) rfl;refine av ?_;refine tZ mixed [0,1,2,3,4,5,6,7,8,9,10,11,12,13,14,15,16,17,18,19,20,21,22,23,24,25,26,27,28,29,30,31,32] [] [] [5,10,15,20,26] [28] I7 rfl rfl ?_;refine aC ?_
  try refine⟨O,?_⟩
  refine jH (l:=[.int .u8 x.kind]) rfl (eP p) rfl rfl rfl (by simpa using c0) (.inr ⟨qq,rfl⟩) ?_;refine aC ?_
  try refine⟨O,?_⟩
  refine jH (l:=[.string ⟨⟨x.text⟩⟩]) rfl (eP p) rfl rfl rfl (by simpa using c1) (.inr ⟨iT,rfl⟩) ?_;refine aC ?_
  try refine⟨O,?_⟩
  refine jH (l:=[.int .i64 x.tok]) rfl (eP p) rfl rfl rfl (by simpa using c2) (.inr ⟨dI,rfl⟩) ?_;refine aC ?_
  try refine⟨O,?_⟩
  refine jH (l:=[.int .i64 x.slot]) rfl (eP p) rfl rfl rfl (by simpa using c3) (.inr ⟨dI,rfl⟩) ?_;refine aC ?_
  try refine⟨O,?_⟩
  refine jH (l:=[.slice ca x.inn.length cc]) rfl (eP p) rfl rfl rfl (by simpa using c5) (.inr ⟨qp,rfl⟩) ?_;refine aC ?_;have bo:=gd.le a4 w;refine EQ p [0,1] rfl (fun _=>ax _) rfl CA (by rfl) (ps:=[]) (F:=[A7,B1]) rfl (Ek bo O j hp) ?_;rintro v2 I8 qs a2 A⟨rfl,U⟩;simp only[Z3]at a2 |-;obtain⟨ta,tc,rfl,_⟩:=id U;refine aC ?_;refine lV a2 (by exact i8) rfl rfl rfl rfl rfl aR fun gb I9 L s am=>?_;have Q:=Y w (Y A s);have bs:lw u (d+1) I9 (.slice (some ⟨gb,0,none⟩) 1 1) [jl x]:=⟨_,_,rfl,.inr ⟨gb,0,_,rfl,(bD am (by simp[aD,Value.cells]) (by simp[aD,Value.cells,E]):aX I9 gb 0 [.int .u8 x.kind,.string ⟨⟨x.text⟩⟩,.int .i64 x.tok,.int .i64 x.slot,.slice qa (dM x.kids).length qc,.slice ta (mL x.inn u).length tc]),.one (by rw[W];exact⟨_,_,rfl,JT (U.le s) (D7 a7),lw.le j hp z Q⟩)⟩⟩;refine aC ?_;refine gw L [1,0] fun L=>?_;refine oD (R:=aU (dZ u) (d+1)) L (by exact i8) (tU.le j hp hB (Y f Q)) bs (fun{I J c a} h k=>sU j hp h k) (fun{I} c a h=>aU.len (I:=I) c a h) (fun{I} c a h=>aU.ones (I:=I) (tD j hp) h) rfl rfl rfl rfl rfl rfl (by simp only[bf,bA];omega) (by simp only[bf,bA];unfold maxLen;omega) fun wa wc b3 B10 aq K a1=>?_;refine aC ?_;refine gw aq [1,0] fun ap=>?_;apply an;refine aj e1 ?_;have y:=Y A (Y s K);exact G (i+1,.slice ua (dM (l.take i)++[jl x]).length uc,.slice wa (dM (l.take i)++[jl x]).length wc) _ _ bC ae (by simp only[go_sem,ab,yw]) ⟨b3,A7,B10,rfl,ap,Y t (Y f (Y w y)),X,by simp only;rw[Ik T];exact aT.le b1 y,by simp only;rw[Ik T];exact a1⟩
 .have:i=l.length:=by omega
  subst this;rw[cB]at P hB Z |-;have N:decide ((l.length:Int)<(l.length:Int))=false:=ai;have a0:=P.capN az.len;refine bq M [0,1] fun g=>?_;refine bH (c:=.st _) g fun I4 g f b2=>?_;refine bq g [0] fun q=>?_;refine bH (c:=.st _) q fun I5 q o b0=>?_;refine aj N ?_;exact ao rfl q (r:=[_,_]) rfl (Y t (Y f o)) ⟨rfl,_,_,rfl,de.le (aT.sl P f b2) o,a0,fZ (R:=aU (dZ u) d) (fun{I J c a} h k=>sU j hp h k) hB (Y f o) b0⟩
open Go Go.Sx Dg Syn
def GL:ay prog 109:=⟨_,func109,rfl,rfl⟩
def Ha:ay prog 55:=⟨_,func55,rfl,rfl⟩
abbrev c7(u d:Nat)(I:PH)(v:Value)(l:List Nd):Prop:=Sl (aU (aP u) d) I v l
abbrev gM(u d:Nat)(I A:PH)(v:Value)(l:List Nd):Prop:=Ow (aU (aP u) d) 67 6 I A v l
def fy(a:u<2^32)(hp:bM u 32<=8)(h:aU (aP u) d I c n)(k:I.le J):aU (aP u) d J c n:=aU.le (js a hp) h k
def gM.le(b:u<2^32)(hp:bM u 32<=8){A:PH}{l:List Nd}(h:gM u d I A v l)(k:I.le J):gM u d J A v l:=Ow.le (R:=aU (aP u) d) (fun{I J c a} h k=>fy b hp h k) h k
def c7.le(b:u<2^32)(hp:bM u 32<=8){l:List Nd}(h:c7 u d I v l)(k:I.le J):c7 u d J v l:=Sl.le (R:=aU (aP u) d) (fun{I J c a} h k=>fy b hp h k) h k
def LR.imp{α:Type}{R S:List Value->α->Prop}:∀{l:List α} {xs:List Value},(∀c a,a∈l->R c a->S c a)->LR R xs l->LR S xs l
 | [],_,_,h=>h
 |a::l,_,k,⟨c,ys,e,h1,h2⟩=>⟨c,ys,e,k c a (.head _) h1,LR.imp (fun c b hb=>k c b (.tail _ hb)) h2⟩
def Sl.imp{α:Type}{R S:PH->List Value->α->Prop}{l:List α}(k:∀c a,a∈l->R I c a->S I c a)(h:Sl R I v l):Sl S I v l:=by obtain⟨a,c,e,h⟩:=h;exact⟨a,c,e,h.imp id fun⟨b,off,xs,f,e2,d⟩=>⟨b,off,xs,f,e2,LR.imp k d⟩⟩
def aU.toC{u:Nat}:∀{d:Nat} {I:PH} {c:List Value} {n:Nd},aU (dZ u) d I c n->aU (aP u) d I c n
 |0,_,_,_,h=>h.elim
 |d+1,I,c,n,⟨b,w,f,hw,e⟩=>⟨b,w,f,aP.of hw,Sl.imp (fun c a _ h=>aU.toC h) e⟩
def bB.toC{n:aN}(h:bB (dZ u) I c n):bB (aP u) I c n:=by obtain⟨w,e,h⟩:=h;exact⟨w,e,aP.of h⟩
def gn{n:aN}(h:bB (aP u) I c n)(k:I.le J):bB (aP u) J c n:=by obtain⟨w,e,h⟩:=h;exact⟨w,e,h.le k⟩
def xX{n:aN}(h:bB (aP u) I c n):c.all Sx.one=true:=by obtain⟨w,rfl,_,a,c',rfl,_⟩:=h;rfl
def xB{s t:T}(a:s.ok 0)(ht:t.ok 0):T.and s t=T.and t s:=T.ext (T.and_ok a ht) (T.and_ok ht a) fun c=>by rw[T.and_at a ht,T.and_at ht a,Bool.and_comm]
def u2(v vd:Value)(x:Nat×Value):St:=⟨dn 37 [(0,.v v),(1,.v vd),(5,.v x.2),(6,.v (E x.1))],[]⟩
def Ql(u d:Nat)(t:T)(l:List Nd)(a:PH)(x:Nat×Value)(H:PH):Prop:=∃I A,H=U [I,A]/\Dj [I,A]/\a.le I/\x.1<=l.length/\gM u d I A x.2 (dO t (l.take x.1))
def Ul(t:T)(l:List Nd):(dO t l).length<=l.length:=by have:=(DL t l).length_le;simpa using this
def Ua(s:u<2^32)(hp:bM u 32<=8):∀(m d:Nat) {I:PH} {v vd:Value} {l:List Nd} {t:T},aw l<m->aw l<2^40->c7 u d I v l->aP u I vd t->aI prog 109 #[v,vd] I [] fun r I2 qs=>qs=[]/\c7 u d I2 r (dO t l):=by
 have hW:=js s hp;intro m
 induction m with
 |zero=>intro d I v vd l t h;omega
 |succ m ih=>
 intro d I v vd l t hm hz hS P hd;obtain⟨va,vc,rfl,_⟩:=id hS;obtain⟨da,dn,dc,rfl⟩:=hW.sh P;have ap:=fJ l;refine aG 37 func109 fun w0=>?_;refine af ?_;refine dR hd fun Z=>?_;refine bz (fun x=>l.length-x.1) (u2 (.slice va l.length vc) (.slice da dn dc)) (Ql u d t l I) (0,.slice none 0 0) ae (by simp only[go_sem,ab,u2]) ?_ ?_
 .exact⟨I,PH.no,rfl,Z,ax _,bg _,Ow.nil _ _ _ _⟩
 rintro⟨i,vo⟩ H ⟨I1,A1,rfl,B,g,hi,G⟩ p;simp only at hi G;simp only[u2];obtain⟨oa,oc,rfl⟩:=G.shape;have S:=Ul t (l.take i);rw[eE]at S;rcases aB i l.length with A|aq
 .have F:=Z5 i l.length;have e1:=Z7 i;obtain⟨n,V⟩:∃n,l[i]?=some n:=⟨_,aL A⟩;obtain⟨b,off,cs,rfl,N,C⟩:=Sl.load (R:=aU (aP u) d) (fun{I} c a h=>aU.len (I:=I) c a h) (c7.le s hp hS g) V;have am:=iK (cH V);cases d with
  |zero=>exact N.elim
  |succ d=>
  obtain⟨vk,vw,rfl,hw,hk⟩:=N;obtain⟨ka,kc,rfl,_⟩:=id hk;obtain⟨wa,wn,wc,rfl⟩:=hW.sh hw;have w:dO t (l.take (i+1))=dO t (l.take i)++(if t.and n.cond=ff then []else [{ n with kids:=dO t n.kids,cond:=t.and n.cond }]):=by rw[cw V,DK,qO];rfl
  have aa:T.and n.cond t=t.and n.cond:=xB hw.1.1 P.1.1;refine aj F ?_;refine⟨O,?_⟩;refine Xb (l:=[.int .u8 n.kind,.string ⟨⟨n.text⟩⟩,.int .i64 n.tok,.int .i64 n.slot,.slice ka n.kids.length kc,.slice wa wn wc]) (v:=.agg #[.int .u8 n.kind,.string ⟨⟨n.text⟩⟩,.int .i64 n.tok,.int .i64 n.slot,.slice ka n.kids.length kc,.slice wa wn wc]) rfl (cellsU B (.head _) C) (.inl ⟨jK,rfl⟩) ?_;refine av ?_;refine ce B [0] [] [A1] rfl pg rfl (pB hp hw (P.le g)) ?_;rintro v I3 qs j f⟨rfl,y⟩;rw[aa]at y;obtain⟨ma,mc,rfl,_⟩:=id y.2;simp only[Z3]at j |-;by_cases z:t.and n.cond=ff
  .have D:decide (((aF u (t.and n.cond)).length:Int)>0)=false:=aS (by rw[z];show ¬(((aF u (.lf false)).length:Int)>0);rw[qv];simp);rw[ak z,ab]at w;refine bW D e1 ?_;exact p (i+1,.slice oa (dO t (l.take i)).length oc) _ _ bC ae (by simp only[go_sem,ab,u2]) ⟨I3,A1,rfl,j,Y g f,A,by simp only;rw[w];exact gM.le s hp G f⟩
  .have D:decide (((aF u (t.and n.cond)).length:Int)>0)=true:=ar (by have:aF u (t.and n.cond)≠[]:=fun e=>z ((sy s y.1).1 e);have:=List.length_pos_iff.2 this;omega)
   rw[ad z]at w;refine aj D ?_;refine ce j [0] [] [A1] rfl GL rfl (ih d O O (c7.le s hp hk f) (P.le (Y g f))) ?_;rintro v I4 qs M q⟨rfl,L⟩;obtain⟨qa,qc,rfl,_⟩:=id L;simp only[Z3]at M |-;refine av ?_;refine cd M (by exact i8) rfl rfl rfl rfl rfl aR fun nb I6 X o U=>?_;have ac:Sl (aU (aP u) (d+1)) I6 (.slice (some ⟨nb,0,none⟩) 1 1) [{ n with kids:=dO t n.kids,cond:=t.and n.cond }]:=⟨_,_,rfl,.inr ⟨nb,0,_,rfl,bD U (by simp[aD,Value.cells]) (by simp[aD,Value.cells]),.one ⟨_,_,rfl,y.le (Y q o),c7.le s hp L o⟩⟩⟩;refine av ?_;refine dX (R:=aU (aP u) (d+1)) (xs:=dO t (l.take i)) (ys:=[{ n with kids:=dO t n.kids,cond:=t.and n.cond }]) X (by exact i8) (gM.le s hp G (Y f (Y q o))) ac (fun{I J c a} h k=>fy s hp h k) (fun{I} c a h=>aU.len (I:=I) c a h) (fun{I} c a h=>aU.ones hW h) rfl rfl rfl rfl (by simp only[bf,bA];omega) (by simp only[bf,bA];unfold maxLen;omega) fun ua uc I7 A7 W K ag=>?_;refine aj e1 ?_;exact p (i+1,.slice ua (dO t (l.take i)++[{ n with kids:=dO t n.kids,cond:=t.and n.cond }]).length uc) _ _ bC ae (by simp only[go_sem,ab,u2]) ⟨I7,A7,rfl,W,Y g (Y f (Y q (Y o K))),A,by simp only;rw[w];exact ag⟩
 .have:i=l.length:=by omega
  subst this;have F:decide (((l.length:Nat):Int)<(l.length:Int))=false:=ai;refine bq B [0] fun j=>?_;refine bH (c:=.st _) j fun I3 j f al=>?_;refine aj F ?_;exact ao rfl j (r:=[_]) rfl (Y g f) ⟨rfl,by rw[cB]at G |-;exact fZ (R:=aU (aP u) d) (fun{I J c a} h k=>fy s hp h k) G f al⟩
def gy(u d:Nat)(I:PH)(v:Value)(t:Tr):Prop:=∃a vd,v=.agg #[a,vd]/\c7 u d I a t.kids/\Sl (bB (aP u)) I vd t.diags
def gy.le(f:u<2^32)(hp:bM u 32<=8)(h:gy u d I v t)(k:I.le J):gy u d J v t:=by obtain⟨b,vd,e,h1,h2⟩:=h;exact⟨b,vd,e,c7.le f hp h1 k,Sl.le (R:=bB (aP u)) (fun{I J c a} h k=>gn h k) h2 k⟩
def gy.toR(h:gy u d I v t):kL (aP u) I v t:=by obtain⟨a,vd,e,h1,h2⟩:=h;exact⟨a,vd,d,e,h1,h2⟩
abbrev ir(u:Nat)(I A:PH)(v:Value)(l:List aN):Prop:=Ow (bB (aP u)) 102 3 I A v l
def ir.le{A:PH}{l:List aN}(h:ir u I A v l)(k:I.le J):ir u J A v l:=Ow.le (R:=bB (aP u)) (fun{I J c a} h k=>gn h k) h k
def Uk(t:T)(a b:List aN):gt t (a++b)=gt t a++gt t b:=by unfold gt;rw[List.filterMap_append]
def DJ(t:T)(l:List aN):(gt t l).length<=l.length:=by unfold gt;exact List.length_filterMap_le _ _
def u3(c vd b a:Value)(x:Nat×Value):St:=⟨dn 41 [(1,.v b),(2,.p 2 0),(4,.p 4 0),(5,.p 5 0),(6,.v (E x.1))],[⟨2,41,[c,vd]⟩,⟨4,41,[.slice none 0 0,.slice none 0 0]⟩,⟨5,41,[a,x.2]⟩]⟩
def Qm(u:Nat)(t:T)(l:List aN)(a:PH)(x:Nat×Value)(H:PH):Prop:=∃I A,H=U [I,A]/\Dj [I,A]/\a.le I/\x.1<=l.length/\ir u I A x.2 (gt t (l.take x.1))
def IU(N:u<2^32)(hp:bM u 32<=8){vw:Value}{s:T}(hT:gy u d I v t)(P:aP u I vw s)(hz:aw t.kids<2^40)(am:t.diags.length<2^40):aI prog 55 #[v,vw] I [] fun r I2 qs=>qs=[]/\gy u d I2 r (wi s t):=by
 have hW:=js N hp;obtain⟨vk,vd,rfl,hK,hE⟩:=hT;obtain⟨ka,kc,rfl,_⟩:=id hK;obtain⟨ea,ec,rfl,_⟩:=id hE;obtain⟨wa,wn,wc,rfl⟩:=hW.sh P;intro hd;refine aG 41 func55 fun w0=>?_;refine af ?_;refine dq hd rfl GL (Ua N hp (aw t.kids+1) d O hz hK P) ?_;rintro v I1 qs Z z⟨rfl,M⟩;obtain⟨qa,qc,rfl,_⟩:=id M;refine af ?_;refine dR Z fun X=>?_;refine bz (fun x=>t.diags.length-x.1) (u3 (.slice ka t.kids.length kc) (.slice ea t.diags.length ec) (.slice wa wn wc) (.slice qa (dO s t.kids).length qc)) (Qm u s t.diags I1) (0,.slice none 0 0) ae (by simp only[go_sem,ab,u3]) ?_ ?_
 .exact⟨I1,PH.no,rfl,X,ax _,bg _,Ow.nil _ _ _ _⟩
 rintro⟨i,vo⟩ H ⟨I3,A3,rfl,B,f,hi,G⟩ m;simp only at hi G;simp only[u3];obtain⟨oa,oc,rfl⟩:=G.shape;have S:=DJ s (t.diags.take i);rw[eE]at S;rcases aB i t.diags.length with A|ap
 .have F:=Z5 i t.diags.length;have e1:=Z7 i;obtain⟨x,hx⟩:∃x,t.diags[i]?=some x:=⟨_,aL A⟩;have K:=Y z f;obtain⟨b,off,cs,rfl,⟨vx,rfl,hw⟩,C⟩:=Sl.load (R:=bB (aP u)) (fun{I} c a h=>bB.len (I:=I) c a h) (Sl.le (R:=bB (aP u)) (fun{I J c a} h k=>gn h k) hE K) hx;obtain⟨xa,xn,xc,rfl⟩:=hW.sh hw;have q:gt s (t.diags.take (i+1))=gt s (t.diags.take i)++(if s.and x.cond=ff then []else [{ x with cond:=s.and x.cond }]):=by rw[cw hx,Uk];congr 1;unfold gt;rw[List.filterMap_cons];split<;>rename_i h<;>split at h<;>simp_all
  have aa:T.and x.cond s=s.and x.cond:=xB hw.1.1 P.1.1;refine aj F ?_;refine⟨O,?_⟩;refine Xb (l:=[.int .u8 x.code,.int .i64 x.tok,.slice xa xn xc]) (v:=.agg #[.int .u8 x.code,.int .i64 x.tok,.slice xa xn xc]) rfl (cellsU B (.head _) C) (.inl ⟨l6,rfl⟩) ?_;refine av ?_;refine ce B [0] [] [A3] rfl pg rfl (pB hp hw (P.le K)) ?_;rintro v I4 qs g j⟨rfl,w⟩;rw[aa]at w;obtain⟨ma,mc,rfl,_⟩:=id w.2;simp only[Z3]at g |-;by_cases y:s.and x.cond=ff
  .have D:decide (((aF u (s.and x.cond)).length:Int)>0)=false:=aS (by rw[y];show ¬(((aF u (.lf false)).length:Int)>0);rw[qv];simp);rw[ak y,ab]at q;refine bW D e1 ?_;exact m (i+1,.slice oa (gt s (t.diags.take i)).length oc) _ _ bC ae (by simp only[go_sem,ab,u3]) ⟨I4,A3,rfl,g,Y f j,A,by simp only;rw[q];exact ir.le G j⟩
  .have D:decide (((aF u (s.and x.cond)).length:Int)>0)=true:=ar (by have:aF u (s.and x.cond)≠[]:=fun e=>y ((sy N w.1).1 e);have:=List.length_pos_iff.2 this;omega)
   rw[ad y]at q;refine aj D ?_;refine cd g (by exact mE) rfl rfl rfl rfl rfl aR fun nb I6 W o U=>?_;have ac:Sl (bB (aP u)) I6 (.slice (some ⟨nb,0,none⟩) 1 1) [{ x with cond:=s.and x.cond }]:=⟨_,_,rfl,.inr ⟨nb,0,_,rfl,bD U (by simp[aD,Value.cells]) (by simp[aD,Value.cells]),.one ⟨_,rfl,w.le o⟩⟩⟩;refine av ?_;refine dX (R:=bB (aP u)) (xs:=gt s (t.diags.take i)) (ys:=[{ x with cond:=s.and x.cond }]) W (by exact mE) (ir.le G (Y j o)) ac (fun{I J c a} h k=>gn h k) (fun{I} c a h=>bB.len (I:=I) c a h) (fun{I} c a h=>xX h) rfl rfl rfl rfl (by simp only[bf,bA];omega) (by simp only[bf,bA];unfold maxLen;omega) fun ua uc I7 A7 V L al=>?_;refine aj e1 ?_;exact m (i+1,.slice ua (gt s (t.diags.take i)++[{ x with cond:=s.and x.cond }]).length uc) _ _ bC ae (by simp only[go_sem,ab,u3]) ⟨I7,A7,rfl,V,Y f (Y j (Y o L)),A,by simp only;rw[q];exact al⟩
 .have:i=t.diags.length:=by omega
  subst this;have F:decide (((t.diags.length:Nat):Int)<(t.diags.length:Int))=false:=ai;rw[cB]at G |-;refine bq B [0] fun g=>?_;refine bH (c:=.st _) g fun I5 g p ag=>?_;refine aj F ?_;exact ao rfl g (r:=[.agg #[.slice qa (dO s t.kids).length qc,.slice oa (gt s t.diags).length oc]]) (by simp only[results55,go_sem,E]) (Y z (Y f p)) ⟨rfl,_,_,rfl,c7.le N hp M (Y f p),fZ (R:=bB (aP u)) (fun{I J c a} h k=>gn h k) G p ag⟩
end Go.Proofs.YtfaclfkpnmcmlaaGreatDoor
