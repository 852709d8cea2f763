import Derived.Test.YtfaclfkpnmcmlaaGreatDoorS14
import Derived.Deep.Slices
import Derived.Deep.Strs
import Derived.Deep.DeepHandedRow
import Derived.Deep.DeepWitnessRowRef
import Derived.ProofKit
import Derived.ChangeSame
import Derived.RowKit
import Derived.LaidMore
import Derived.LaidHandle
import Derived.Lib.LaidU8
import Derived.SevenTiedAt
import Derived.Test.YtfaclfkpnmcmlaaGreatDoorRows
import Derived.Test.YtfaclfkpnmcmlaaGreatDoorCards
import Derived.Test.YtfaclfkpnmcmlaaGreatDoorTie
set_option maxHeartbeats 8000000
set_option linter.all false
namespace Go.Proofs.YtfaclfkpnmcmlaaGreatDoor
open Go Go.Sx Dg Syn
open Go.ChangeShapes (trodAll_one trodAll_two trodAll_three trodVars_none trodAll_mk1 trodAll_mk2 trodAll_mk3 trod_struct2)
open Go.RowKit (shut_bool)
def uu(W:World):PH:=fun b=>W.heap[b]?
theorem aO.calls{P:Program}{f:FuncId}{args:Array Value}{W:World}{v:Value}(h:aO P f args (uu W) [] fun r I2 qs=>qs=[]/\r=v):
  Calls P f args W fun e W'=>e=.returned v/\RowKit.Below W.heap.size W W':=by
 have hd:Dj [uu W]:=Th _ _;have e0:U [uu W]=uu W:=PH.uni_no _;refine(h hd W (by rw[e0];exact fun b o hb=>hb)).mono fun e w2 he=>?_;cases e with
 |returned r=>
  obtain⟨H2,st,I2,qs,e1,_,ac,rfl,rfl⟩:=he;subst e1;refine⟨rfl,⟨st.os,st.tape,st.out,st.size,fun k hk=>?_⟩⟩;have aa:uu W k=some W.heap[k]:=Sr hk;have:=st.sub k _ (PH.le_uni I2 _ k _ (ac k _ aa));rw[this];exact aa.symm
 |outgrown=>exact he.elim
 |panicked c=>exact he.elim
theorem wX{α:Type}{R:List Value->α->Prop}{C:Nat->List Value}{g:Nat->α}:∀(is:List Nat),(∀i∈is,R (C i) (g i))->LR R (is.flatMap C) (is.map g)
 | [],_=>rfl
 |i::is,h=>⟨C i,is.flatMap C,rfl,h i (.head _),wX is fun j hj=>h j (.tail _ hj)⟩
theorem pU{C:Nat->List Value}{size:Nat}:∀(is:List Nat),(∀i∈is,(C i).length=size)->(is.flatMap C).length=is.length*size
 | [],_=>by simp
 |i::is,h=>by
  rw[TB,Tu,h i (.head _),pU is fun j hj=>h j (.tail _ hj),SB,Ta];omega
theorem HS{C:Nat->List Value}{size:Nat}{len:Nat}(h:∀i,i<len->(C i).length=size){i j:Nat}(hi:i<len)(hj:j<size):((List.range len).flatMap C)[i*size+j]?=(C i)[j]?:=by
 induction len with
 |zero=>omega
 |succ n ih=>
  have hl:((List.range n).flatMap C).length=n*size:=by
   have:=pU (C:=C) (size:=size) (List.range n) fun k hk=>h k (by have:=List.mem_range.1 hk;omega);simpa using this
  rw[List.range_succ,TF,TB,List.flatMap_nil,Tq];rcases Sw i n with h1|h1
  ·have h2:(i+1)*size<=n*size:=Tb _ h1;rw[Ta,TE]at h2;rw[S1 (by rw[hl];omega)];exact ih (fun k hk=>h k Vi) h1
  ·have:i=n:=by omega
   subst this;rw[S2 (by rw[hl];omega),hl];congr 1;omega
theorem yj{W:World}{lO:Nat}{a:Addr}{size len:Nat}{C:Nat->List Value}(h:∀i,i<len->W.cells? lO (a.add (i*size)) size=some (C i))(hs:0<size)(hl:0<len):
  ∃b off,a=⟨b,off,none⟩/\aQ (uu W) b off ((List.range len).flatMap C):=by
 have hc:∀i,i<len->(C i).length=size/\∀j,j<size->W.cell? (a.add (i*size+j))=(C i)[j]?:=fun i hi=>by
  obtain⟨_,h1,h2⟩:=World.cells?_some (h i hi);exact⟨h1,fun j hj=>by rw[<-Deep.add_add];exact h2 j hj⟩
 obtain⟨b,off,spot⟩:=a;have aj:spot=none:=by
  have h1:=(hc 0 hl).2 0 hs;obtain⟨x,hx⟩:∃x,(C 0)[0]?=some x:=⟨_,SC (by rw[(hc 0 hl).1];exact hs)⟩;rw[hx]at h1;simpa[Addr.add]using World.cell?_spot h1
 subst aj;have aa:((List.range len).flatMap C).length=len*size:=by
  have:=pU (C:=C) (size:=size) (List.range len) fun k hk=>(hc k (List.mem_range.1 hk)).1;simpa using this
 have ac:∀k x,((List.range len).flatMap C)[k]?=some x->W.cell? ⟨b,off+k,none⟩=some x:=fun k x hx=>by
  have hk:k<len*size:=by rw[<-aa];exact(List.getElem?_eq_some_iff.1 hx).1
  have e:k=(k / size)*size+k % size:=by rw[Nat.mul_comm];exact(Nat.div_add_mod k size).symm
  have hi:k / size<len:=Nat.div_lt_of_lt_mul (by rw[Nat.mul_comm];exact hk);have hj:k % size<size:=Nat.mod_lt _ hs;have h1:=(hc _ hi).2 _ hj;rw[<-HS (fun i hi=>(hc i hi).1) hi hj,<-e,hx]at h1;rw[<-h1];unfold Addr.add;split
  ·rename_i h0;rw[h0,Sd]
  ·rfl
 obtain⟨cs,ty,fz,hb,ak⟩:∃cs ty fz,W.heap[b]?=some (.cells cs ty fz)/\∀k x,((List.range len).flatMap C)[k]?=some x->cs[off+k]?=some x:=by
  obtain⟨x0,am⟩:∃x,((List.range len).flatMap C)[0]?=some x:=⟨_,SC (by rw[aa];exact Nat.mul_pos hl hs)⟩;have h0:=ac 0 x0 am;unfold World.cell? at h0;cases hb:W.heap[b]? with
  |none=>simp[hb]at h0
  |some o=>
   cases o with
   |cells cs ty fz=>
    refine⟨cs,ty,fz,rfl,fun k x hx=>?_⟩;have:=ac k x hx;simpa[World.cell?,hb]using this
   |_=>simp[hb]at h0
 refine⟨b,off,rfl,cs,ty,fz,hb,?_,?_⟩
 ·rw[aa];have hp:0<len*size:=Nat.mul_pos hl hs;obtain⟨x,hx⟩:∃x,((List.range len).flatMap C)[len*size-1]?=some x:=⟨_,SC (by rw[aa];omega)⟩;have:=(Array.getElem?_eq_some_iff.1 (ak _ _ hx)).1;show off+len*size<=_;omega
 ·apply List.ext_getElem?;intro k;rcases Sw k ((List.range len).flatMap C).length with hk|hk
  ·rw[List.getElem?_take_of_lt hk,Sh];have hx:=SC hk;rw[hx];simpa using ak k _ hx
  ·rw[SF (by rw[T1];exact R8 (Nat.min_le_left _ _) hk),SF hk]
section
variable {H:Type} {enc:TypeId×Value->H} {W:World}
theorem Gh:∀d:DataW H,1<=Rows.uptoBulk d:=by
 intro d;cases d with
 |lit l=>cases l<;>simp[Rows.uptoBulk]
 |_=>simp[Rows.uptoBulk]
theorem sC(D:Nat->DataW H):∀(is:List Nat),is.length<=Rows.uptoBulkAll (is.map D)/\∀i∈is,Rows.uptoBulk (D i)<=Rows.uptoBulkAll (is.map D)
 | []=>⟨S6 _,fun _ h=>(SW h).elim⟩
 |i::is=>by
  obtain⟨h1,h2⟩:=sC D is;have h3:=Gh (D i);simp only[Tf,SB,Rows.uptoBulkAll];refine⟨Vi,fun j hj=>?_⟩;rcases List.mem_cons.1 hj with rfl|hj
  ·omega
  ·have:=h2 j hj;omega
theorem NY:Tryz.prog.underlying 46=some (.slice 164):=by kernel_rfl
theorem NR:∃f0 f1,Tryz.prog.underlying 164=some (.struct #[f0,f1])/\f0.type=23/\f0.offset=0/\f1.type=23/\f1.offset=1:=⟨_,_,Tryz.underlying164,rfl,rfl,rfl,rfl⟩
theorem NN:Tryz.prog.underlying 22=some (.slice 134):=by kernel_rfl
theorem OC:∃f0 f1 f2,Tryz.prog.underlying 134=some (.struct #[f0,f1,f2])/\f0.type=5/\f0.offset=0/\f1.type=9/\f1.offset=1/\f2.type=46/\f2.offset=2:=⟨_,_,_,Tryz.underlying134,rfl,rfl,rfl,rfl,rfl,rfl⟩
theorem JZ:Tryz.prog.underlying 23=some (.int .u32):=by kernel_rfl
theorem Kz:Tryz.prog.cellsOf 164=2:=by kernel_rfl
theorem KH:Tryz.prog.cellsOf 134=3:=by kernel_rfl
theorem NF:Tryz.prog.cellsOf 23=1:=by kernel_rfl
theorem PG:Tryz.prog.cellsOf 46=1:=by kernel_rfl
theorem zP{n:Int}(h:(Lit.int .u32 n).wf=true):∃k:Nat,n=(k:Int)/\k<2^32:=by
 have h1:IntKind.min .u32=0:=by decide
 have h2:IntKind.max .u32=4294967295:=by decide
 simp only[Lit.wf,h1,h2,SG,SX]at h;exact⟨n.toNat,Vi,Vi⟩
theorem N6{n:Int}(h:(Lit.int .u8 n).wf=true):∃k:Nat,n=(k:Int):=by
 have h1:IntKind.min .u8=0:=by decide
 simp only[Lit.wf,h1,SG,SX]at h;exact⟨n.toNat,Vi⟩
theorem sW{fR:Nat}{v:Value}{d:DataW H}{p:List MemPlace}(h:DataW.trod enc Tryz.prog W 0 (fun _=>true) true fR 46 [v]=some (d,p)):∃l,uj (uu W) v l/\l.length<=Rows.uptoBulk d:=by
 rcases Deep.open_slice NY h with ⟨e,e2⟩|⟨a,len,cap,m,n,D,Pl,e,_,ac,aj,hm,e2,hx⟩
 ·simp only[TX,TY]at e;subst e;exact⟨[],⟨none,0,rfl,.inl rfl⟩,S6 _⟩
 ·simp only[TX,TY]at e;subst e;simp only[S3]at e2;obtain⟨rfl,_⟩:=e2;have aa:m=cap:=by simpa using hm
  subst aa;obtain⟨f0,f1,hu,t0,o0,t1,o1⟩:=NR;obtain⟨g,hg⟩:=Deep.choose_lt (α:=Nat×Nat) (n:=len) (p:=fun i x=>W.cells? 0 (a.add (i*2)) 2=some [.int .u32 x.1,.int .u32 x.2]/\x.1<2^32/\x.2<2^32) (fun i hi=>by
   obtain⟨cs,h1,h2⟩:=hx i Vi;rw[Kz]at h1;obtain⟨y0,y1,n',_,hl,h3,h4⟩:=trod_struct2 hu h2;rw[t0,o0,NF]at h3;rw[t1,o1,NF]at h4;obtain⟨k0,e0,_,w0⟩:=DataW.trod_int JZ h3;obtain⟨k1,e1,_,w1⟩:=DataW.trod_int JZ h4;obtain⟨j0,rfl,b0⟩:=zP w0;obtain⟨j1,rfl,b1⟩:=zP w1;rw[Kz]at hl
   match cs,hl with
   | [x,y],_=>
    simp at e0 e1;subst e0;subst e1;exact⟨(j0,j1),h1,b0,b1⟩)
  have hb:len<=Rows.uptoBulk (DataW.slice ((List.range len).map D) ((List.range (m-len)).map fun j=>D (len+j))):=by
   have:=(sC D (List.range len)).1;simp only[Ub]at this;simp only[Rows.uptoBulk];omega
  rcases TI len with h0|h0
  ·subst h0;exact⟨[],⟨some a,m,rfl,.inl rfl⟩,S6 _⟩
  ·obtain⟨b,off,rfl,hc⟩:=yj (size:=2) (C:=fun i=>[.int .u32 (g i).1,.int .u32 (g i).2]) (fun i hi=>(hg i hi).1) Vm h0;refine⟨(List.range len).map g,⟨_,m,by rw[Sz,Ub],.inr ⟨b,off,_,rfl,hc,wX _ fun i hi=>?_⟩⟩,by rw[Sz,Ub];exact hb⟩;exact⟨rfl,(hg i (List.mem_range.1 hi)).2⟩
instance:Inhabited It:=⟨⟨0,[],[]⟩⟩
theorem zS{fR:Nat}{v:Value}{d:DataW H}{p:List MemPlace}(h:DataW.trod enc Tryz.prog W 0 (fun _=>true) true fR 22 [v]=some (d,p)):∃l,KJ (uu W) v l/\l.length<=Rows.uptoBulk d/\∀x∈l,x.cubes.length<=Rows.uptoBulk d/\x.text.length<=Rows.uptoBulk d:=by
 rcases Deep.open_slice NN h with ⟨e,e2⟩|⟨a,len,cap,m,n,D,Pl,e,_,aa,am,hm,e2,hx⟩
 ·simp only[TX,TY]at e;subst e;exact⟨[],⟨none,0,rfl,.inl rfl⟩,S6 _,fun _ h=>(SW h).elim⟩
 ·simp only[TX,TY]at e;subst e;simp only[S3]at e2;obtain⟨rfl,_⟩:=e2;have ac:m=cap:=by simpa using hm
  subst ac;obtain⟨f0,f1,f2,hu,t0,o0,t1,o1,t2,o2⟩:=OC;obtain⟨g,hg⟩:=Deep.choose_lt (α:=List Value×It) (n:=len) (p:=fun i x=>W.cells? 0 (a.add (i*3)) 3=some x.1/\G3 (uu W) x.1 x.2/\x.2.cubes.length<=Rows.uptoBulk (D i)/\x.2.text.length<=Rows.uptoBulk (D i)) (fun i hi=>by
   obtain⟨cs,h1,h2⟩:=hx i Vi;rw[KH]at h1;obtain⟨y0,y1,y2,n',hD,hl,h3,h4,h5⟩:=Deep.trod_struct3 hu h2;rw[t0,o0,Fw]at h3;rw[t1,o1,Bm]at h4;rw[t2,o2,PG]at h5;simp only[S3]at hD;obtain⟨hD,_⟩:=hD;obtain⟨k0,e0,q0,w0⟩:=DataW.trod_int Qn h3;obtain⟨s,e1,q1,_⟩:=DataW.trod_string Pe h4;obtain⟨j0,rfl⟩:=N6 w0;rw[KH]at hl
   match cs,hl with
   | [x,y,z],_=>
    simp at e0 e1 h5;subst e0;subst e1;obtain⟨l,aa,ak⟩:=sW (d:=y2.1) (p:=y2.2) h5;refine⟨([.int .u8 (j0:Int),.string s,z],⟨j0,s.data.toList,l⟩),h1,⟨z,by simp,aa⟩,?_,?_⟩
    ·show l.length<=_;rw[hD];simp only[Rows.uptoBulk,Rows.uptoBulkAll];omega
    ·show s.data.toList.length<=_;rw[hD,q1];simp only[Rows.uptoBulk,Rows.uptoBulkAll];omega)
  obtain⟨b1,b2⟩:=sC D (List.range len);simp only[Ub]at b1;have aj:Rows.uptoBulkAll ((List.range len).map D)<=Rows.uptoBulk (DataW.slice ((List.range len).map D) ((List.range (m-len)).map fun j=>D (len+j))):=by
   simp only[Rows.uptoBulk];omega
  rcases TI len with h0|h0
  ·subst h0;exact⟨[],⟨some a,m,rfl,.inl rfl⟩,S6 _,fun _ h=>(SW h).elim⟩
  ·obtain⟨b,off,rfl,hc⟩:=yj (size:=3) (C:=fun i=>(g i).1) (fun i hi=>(hg i hi).1) Vm h0;refine⟨(List.range len).map fun i=>(g i).2,⟨_,m,by rw[Sz,Ub],.inr ⟨b,off,_,rfl,hc,wX _ fun i hi=>(hg i (List.mem_range.1 hi)).2.1⟩⟩,by rw[Sz,Ub];omega,fun x hx=>?_⟩;obtain⟨i,hi,rfl⟩:=List.mem_map.1 hx;obtain⟨_,_,c1,c2⟩:=hg i (List.mem_range.1 hi);have:=b2 i hi;exact⟨Vi,Vi⟩
end
open Go Go.Sx Dg Syn
theorem V4{I A K:PH}(hd:I.disj A)(h1:I.le K)(h2:A.le K):∃J:PH,K=J.uni A/\J.disj A/\I.le J:=by
 have hJ:PH.disj (fun b=>if (A b).isSome then none else K b) A:=fun b=>by
  cases h:A b with
  |none=>exact .inr rfl
  |some o=>exact .inl (by simp[h])
 refine⟨_,PH.ext_some fun b o=>?_,hJ,fun b o hb=>?_⟩
 ·rw[PH.uni_some hJ];cases h:A b with
  |none=>simp
  |some x=>
   have:=h2 b x h;simp[this]
 ·have:A b=none:=hd.left hb;simp only[this,Option.isSome_none,Tp,Si];exact h1 b o hb
theorem Sl.take{α:Type}{R:PH->List Value->α->Prop}{size:Nat}(hR:∀{I} c a,R I c a->c.length=size){I:PH}{a:Option Addr}{n c:Nat}{l:List α}(h:Sl R I (.slice a n c) l){i:Nat}(hi:i<=l.length):Sl R I (.slice a i c) (l.take i):=by
 obtain⟨a',c',e,h⟩:=h;cases e
 have hl:(l.take i).length=i:=by rw[T1];omega
 refine⟨a,c,by rw[hl],?_⟩;rcases h with h|⟨b,off,xs,h1,h2,h3⟩
 ·left;rw[h];exact List.take_nil
 ·have h4:xs.length=l.length*size:=LR.len (R:=R I) (fun c a h=>hR c a h) h3;have h5:=h2.sub 0 (i*size) (by rw[h4,Sf];exact Tb _ hi);exact .inr ⟨b,off,xs.take (i*size),h1,by simpa using h5,(LR.split (R:=R I) (fun c a h=>hR c a h) i h3).1⟩
theorem PT.all{l:List It}{v:Value}{I:PH}(h:PT l v I):∃a n k ga gn gc ok,v=.tuple #[.agg #[.slice a n k,.slice ga gn gc],.bool ok]/\(ok=true->oC I (.agg #[.slice a n k,.slice ga gn gc]) (l.map dV)/\Sl cJ I (.slice a n k) (l.map dV)/\l.length<400/\n=l.length/\n<=k):=by
 rcases h with rfl|⟨lv,rfl,hL,aa,a,n,k,g,rfl,hk⟩
 ·exact⟨none,0,0,none,0,0,false,rfl,fun h=>by cases h⟩
 ·obtain⟨tv,ga,gn,gc,e,hS⟩:=hL.sh;simp only[Value.agg.injEq,Array.mk.injEq,TX,TY]at e;obtain⟨rfl,rfl⟩:=e;refine⟨a,n,k,ga,gn,gc,true,rfl,fun _=>⟨hL,hS,aa,?_,hk⟩⟩;obtain⟨a',c',e,_⟩:=hS;cases e
  exact Sz ..
end Go.Proofs.YtfaclfkpnmcmlaaGreatDoor
