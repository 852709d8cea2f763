import Derived.Test.YtfaclfkpnmcmlaaGreatDoorQ15
import Derived.Deep.Slices
import Derived.Deep.Strs
import Derived.Deep.DeepHandedRow
import Derived.Deep.DeepWitnessRowRef
import Derived.ProofKit
import Derived.ChangeSame
import Derived.RowKit
import Derived.LaidMore
import Derived.LaidHandle
import Derived.Lib.LaidU8
import Derived.SevenTiedAt
import Derived.Test.YtfaclfkpnmcmlaaGreatDoorRows
import Derived.Test.YtfaclfkpnmcmlaaGreatDoorCards
import Derived.Test.YtfaclfkpnmcmlaaGreatDoorTie
import Derived.MakeChecks
import Derived.OpenShut
set_option maxHeartbeats 8000000
set_option linter.all false
namespace Go.Proofs.YtfaclfkpnmcmlaaGreatDoor
open Go Go.Sx Dg Syn
def PT(l:List It)(v:Value)(I2:PH):Prop:=v=.tuple #[.agg #[.slice none 0 0,.slice none 0 0],.bool false]\/∃lv,v=.tuple #[lv,.bool true]/\oC I2 lv (l.map dV)
theorem J6{I:PH}{vl vw:Value}{l:List It}{w:List (Nat×Nat)}(hS:KJ I vl l)(hW:uj I vw w)(hb:∀x∈l,Ql x)(hl:l.length<2^40)(hw:w.length<2^40):aO Tryz.prog 32 #[vl,vw] I [] fun r I2 qs=>qs=[]/\PT l r I2:=by
 obtain⟨la,lc,rfl,_⟩:=id hS;obtain⟨wa,wc,rfl,_⟩:=id hW;intro hd;refine Ot Tryz.func32 rfl fun w0=>?_;simp only[Tryz.ntmps32];apply RG;simp only[go_sem];refine NB hd [] rfl LW (by rfl) (ps:=[]) (F:=[]) rfl (Mb (most:=8) hS hW hb hl hw (by decide)) fun v I2 qs ac aa hq=>?_;obtain⟨rfl,hq⟩:=hq;simp only[Z3]at ac |-;rcases hq with ⟨lv,rfl,rfl⟩|⟨lv,a,n,cc,u,rfl,hL⟩
 ·apply RG;simp only[go_sem];exact ai rfl ac (r:=[.agg #[.slice none 0 0,.slice none 0 0],.bool false]) (by simp only[Tryz.results32,go_sem,iv]) aa ⟨rfl,.inl rfl⟩
 ·obtain⟨⟨tv,ga,gn,gc,rfl,hT⟩,h2,h3,h4⟩:=id hL;obtain⟨ta,tc,rfl,_⟩:=id hT;apply RG;simp only[go_sem];exact ai rfl ac (r:=[.agg #[.slice ta (l.map dV).length tc,.slice ga gn gc],.bool true]) (by simp only[Tryz.results32,go_sem,iv]) aa ⟨rfl,.inr ⟨_,rfl,hL⟩⟩
theorem Bi{I:PH}{vl vw:Value}{l:List It}{w:List (Nat×Nat)}{c:Nat}(hV:fN I)(hS:KJ I vl l)(hW:uj I vw w)(hb:∀x∈l,Ql x)(hl:l.length<2^40)(hw:w.length<2^40)(hc:c<2^32):
  aO Tryz.prog 7 #[vl,vw,.int .u32 c] I [] fun r I2 qs=>qs=[]/\r=.bool true:=by
 obtain⟨la,lc,rfl,_⟩:=id hS;obtain⟨wa,wc,rfl,_⟩:=id hW;intro hd;refine Ot Tryz.func7 rfl fun w0=>?_;simp only[Tryz.ntmps7];apply RG;simp only[go_sem];refine NB hd [] rfl MG (by rfl) (ps:=[]) (F:=[]) rfl (J6 hS hW hb hl hw) fun v I2 qs a2 aa hq=>?_;obtain⟨rfl,hq⟩:=hq;simp only[Z3]at a2 |-;rcases hq with rfl|⟨lv,rfl,hL⟩
 ·apply RG;simp only[go_sem];refine NB a2 [] rfl EZ (by rfl) (ps:=[]) (F:=[]) rfl (BE (hV.le aa)) fun v I3 qs an ac hq=>?_;obtain⟨rfl,rfl⟩:=hq;simp only[Z3]at an |-;apply RG;simp only[go_sem];exact ai rfl an (r:=[_]) rfl (Ui aa ac) ⟨rfl,rfl⟩
 obtain⟨⟨tv,ga,gn,gc,rfl,hT⟩,h2,h3,h4⟩:=id hL;obtain⟨ta,tc,rfl,_⟩:=id hT;apply RG;simp only[go_sem];refine NB a2 [] rfl EZ (by rfl) (ps:=[]) (F:=[]) rfl (BE (hV.le aa)) fun v I3 qs an ac hq=>?_;obtain⟨rfl,rfl⟩:=hq;simp only[Z3]at an |-;have k3:=Ui aa ac;apply RG;simp only[go_sem];refine ax mixed [6,0,1,4,2,3,5,7] [] [] rfl rfl ?_;apply af;simp only[go_sem];refine Og an [] rfl (fun h=>by cases h) rfl Ab (by rfl) (ps:=[]) (F:=[]) rfl (Gv (uj.le hW k3) (by omega)) fun v1 I4 qs bc aj hq=>?_;obtain⟨rfl,hD⟩:=hq;simp only[Z3]at bc |-;obtain⟨za,zk,rfl⟩:=hD.shape2;apply af;simp only[go_sem];refine Og bc [] rfl (fun h=>by cases h) rfl Aw (by rfl) (ps:=[]) (F:=[]) rfl (su (hV.le (Ui k3 aj)) (hL.le (Ui ac aj)) hD) fun v2 I5 qs bb a1 hq=>?_;obtain⟨rfl,t,hF,hR,hB⟩:=hq;simp only[Z3]at bb |-;obtain⟨_,_,rfl,⟨xa,xc,rfl,_⟩,_,⟨xa',xc',rfl,_⟩,_⟩:=id hR;apply af;simp only[go_sem];refine Og bb [] rfl (fun h=>by cases h) rfl Gs (by rfl) (ps:=[]) (F:=[]) rfl (vU hR hc hB.1 hB.2) fun v3 I6 qs ao a0 hq=>?_;obtain⟨rfl,bd⟩:=hq;simp only[Z3]at ao |-;obtain⟨yk,yd,rfl,bx,_,b0,_⟩:=id bd;obtain⟨ya,yc,rfl,_⟩:=id bx;obtain⟨ea,ec,rfl,_⟩:=id b0;have bs:=Ui aj (Ui a1 a0);have ak:=Ui ac bs;apply af;simp only[go_sem];refine aw ?_;apply RG;simp only[go_sem];refine Pf rfl FF (NG (uj.le hW (Ui aa (Ui ak (cD ao)))) (by omega) hc) fun v H2 hv=>?_;obtain⟨rfl,rfl⟩:=hv;have a6:=j3 h2;have a5:=u8 w;have ap:=DG w c;cases a7:KF w c
 ·rw[a7]at ap;have hz:=IC a6 a5 hF ap;have z1:((prj (dW c) t).kids.length:Int)=0:=by rw[hz];rfl
  have z2:((prj (dW c) t).diags.length:Int)=0:=by rw[hz];rfl
  have z3:IntKind.i64.wrap ((0:Int)+0)=0:=by decide
  apply RG;simp only[go_sem,z1,z2,z3];exact ai rfl ao (r:=[_]) rfl (Ui aa ak) ⟨rfl,rfl⟩
 ·rw[a7]at ap;apply RG;simp only[go_sem];refine ax mixed [0,1,2,3,4,5] [] [] rfl rfl ?_;apply af;simp only[go_sem];refine Og ao [] rfl (fun h=>by cases h) rfl Ex (by rfl) (ps:=[]) (F:=[]) rfl (Cv (hV.le (Ui aa ak)) (hL.le ak) hc) fun v4 I7 qs ba am hq=>?_;obtain⟨rfl,u,hU,a3,a4⟩:=hq;simp only[Z3]at ba |-;have hx:4294967295 ^^^ c<2^32:=Nat.xor_lt_two_pow (by decide) hc;have e:=BH a6 a5 (ub _ _) hF hU ap (vQ c);rw[<-e]at a3 a4;obtain⟨_,_,rfl,⟨va,vc,rfl,_⟩,_,⟨va',vc',rfl,_⟩,_⟩:=id a3;apply af;simp only[go_sem];refine Og ba [] rfl (fun h=>by cases h) rfl LM (by rfl) (ps:=[]) (F:=[]) rfl (K1 (bd.le am) a3 a4.1 a4.2) fun v5 I8 qs a9 aS hq=>?_;obtain⟨rfl,rfl⟩:=hq;simp only[Z3]at a9 |-;apply af;simp only[go_sem];refine aw ?_;apply RG;simp only[go_sem];exact ai rfl a9 (r:=[_]) rfl (Ui aa (Ui ak (Ui am aS))) ⟨rfl,rfl⟩
open Go.ChangeShapes (trodAll_one trodAll_two trodAll_three trodVars_none trodAll_mk1 trodAll_mk2 trodAll_mk3 trod_struct2)
open Go.RowKit (shut_bool)
def uu(W:World):PH:=fun b=>W.heap[b]?
theorem aO.calls{P:Program}{f:FuncId}{args:Array Value}{W:World}{v:Value}(h:aO P f args (uu W) [] fun r I2 qs=>qs=[]/\r=v):
  Calls P f args W fun e W'=>e=.returned v/\RowKit.Below W.heap.size W W':=by
 have hd:Dj [uu W]:=Th _ _;have e0:U [uu W]=uu W:=PH.uni_no _;refine(h hd W (by rw[e0];exact fun b o hb=>hb)).mono fun e w2 he=>?_;cases e with
 |returned r=>
  obtain⟨H2,st,I2,qs,e1,_,ac,rfl,rfl⟩:=he;subst e1;refine⟨rfl,⟨st.os,st.tape,st.out,st.size,fun k hk=>?_⟩⟩;have aa:uu W k=some W.heap[k]:=Sr hk;have:=st.sub k _ (PH.le_uni I2 _ k _ (ac k _ aa));rw[this];exact aa.symm
 |outgrown=>exact he.elim
 |panicked c=>exact he.elim
theorem wX{α:Type}{R:List Value->α->Prop}{C:Nat->List Value}{g:Nat->α}:∀(is:List Nat),(∀i∈is,R (C i) (g i))->LR R (is.flatMap C) (is.map g)
 | [],_=>rfl
 |i::is,h=>⟨C i,is.flatMap C,rfl,h i (.head _),wX is fun j hj=>h j (.tail _ hj)⟩
theorem pU{C:Nat->List Value}{size:Nat}:∀(is:List Nat),(∀i∈is,(C i).length=size)->(is.flatMap C).length=is.length*size
 | [],_=>by simp
 |i::is,h=>by
  rw[TB,Tu,h i (.head _),pU is fun j hj=>h j (.tail _ hj),SB,Ta];omega
theorem HS{C:Nat->List Value}{size:Nat}{len:Nat}(h:∀i,i<len->(C i).length=size){i j:Nat}(hi:i<len)(hj:j<size):((List.range len).flatMap C)[i*size+j]?=(C i)[j]?:=by
 induction len with
 |zero=>omega
 |succ n ih=>
  have hl:((List.range n).flatMap C).length=n*size:=by
   have:=pU (C:=C) (size:=size) (List.range n) fun k hk=>h k (by have:=List.mem_range.1 hk;omega);simpa using this
  rw[List.range_succ,TF,TB,List.flatMap_nil,Tq];rcases Sw i n with h1|h1
  ·have h2:(i+1)*size<=n*size:=Tb _ h1;rw[Ta,TE]at h2;rw[S1 (by rw[hl];omega)];exact ih (fun k hk=>h k (by omega)) h1
  ·have:i=n:=by omega
   subst this;rw[S2 (by rw[hl];omega),hl];congr 1;omega
theorem yj{W:World}{lO:Nat}{a:Addr}{size len:Nat}{C:Nat->List Value}(h:∀i,i<len->W.cells? lO (a.add (i*size)) size=some (C i))(hs:0<size)(hl:0<len):
  ∃b off,a=⟨b,off,none⟩/\aQ (uu W) b off ((List.range len).flatMap C):=by
 have hc:∀i,i<len->(C i).length=size/\∀j,j<size->W.cell? (a.add (i*size+j))=(C i)[j]?:=fun i hi=>by
  obtain⟨_,h1,h2⟩:=World.cells?_some (h i hi);exact⟨h1,fun j hj=>by rw[<-Deep.add_add];exact h2 j hj⟩
 obtain⟨b,off,spot⟩:=a;have aj:spot=none:=by
  have h1:=(hc 0 hl).2 0 hs;obtain⟨x,hx⟩:∃x,(C 0)[0]?=some x:=⟨_,SC (by rw[(hc 0 hl).1];exact hs)⟩;rw[hx]at h1;simpa[Addr.add]using World.cell?_spot h1
 subst aj;have aa:((List.range len).flatMap C).length=len*size:=by
  have:=pU (C:=C) (size:=size) (List.range len) fun k hk=>(hc k (List.mem_range.1 hk)).1;simpa using this
 have ac:∀k x,((List.range len).flatMap C)[k]?=some x->W.cell? ⟨b,off+k,none⟩=some x:=fun k x hx=>by
  have hk:k<len*size:=by rw[<-aa];exact(List.getElem?_eq_some_iff.1 hx).1
  have e:k=(k / size)*size+k % size:=by rw[Nat.mul_comm];exact(Nat.div_add_mod k size).symm
  have hi:k / size<len:=Nat.div_lt_of_lt_mul (by rw[Nat.mul_comm];exact hk);have hj:k % size<size:=Nat.mod_lt _ hs;have h1:=(hc _ hi).2 _ hj;rw[<-HS (fun i hi=>(hc i hi).1) hi hj,<-e,hx]at h1;rw[<-h1];unfold Addr.add;split
  ·rename_i h0;rw[h0,Sd]
  ·rfl
 obtain⟨cs,ty,fz,hb,ak⟩:∃cs ty fz,W.heap[b]?=some (.cells cs ty fz)/\∀k x,((List.range len).flatMap C)[k]?=some x->cs[off+k]?=some x:=by
  obtain⟨x0,am⟩:∃x,((List.range len).flatMap C)[0]?=some x:=⟨_,SC (by rw[aa];exact Nat.mul_pos hl hs)⟩;have h0:=ac 0 x0 am;unfold World.cell? at h0;cases hb:W.heap[b]? with
  |none=>simp[hb]at h0
  |some o=>
   cases o with
   |cells cs ty fz=>
    refine⟨cs,ty,fz,rfl,fun k x hx=>?_⟩;have:=ac k x hx;simpa[World.cell?,hb]using this
   |_=>simp[hb]at h0
 refine⟨b,off,rfl,cs,ty,fz,hb,?_,?_⟩
 ·rw[aa];have hp:0<len*size:=Nat.mul_pos hl hs;obtain⟨x,hx⟩:∃x,((List.range len).flatMap C)[len*size-1]?=some x:=⟨_,SC (by rw[aa];omega)⟩;have:=(Array.getElem?_eq_some_iff.1 (ak _ _ hx)).1;show off+len*size<=_;omega
 ·apply List.ext_getElem?;intro k;rcases Sw k ((List.range len).flatMap C).length with hk|hk
  ·rw[List.getElem?_take_of_lt hk,Sh];have hx:=SC hk;rw[hx];simpa using ak k _ hx
  ·rw[SF (by rw[T1];exact R8 (Nat.min_le_left _ _) hk),SF hk]
section
variable {H:Type} {enc:TypeId×Value->H} {W:World}
theorem Gh:∀d:DataW H,1<=Rows.uptoBulk d:=by
 intro d;cases d with
 |lit l=>cases l<;>simp[Rows.uptoBulk]
 |_=>simp[Rows.uptoBulk]
theorem sC(D:Nat->DataW H):∀(is:List Nat),is.length<=Rows.uptoBulkAll (is.map D)/\∀i∈is,Rows.uptoBulk (D i)<=Rows.uptoBulkAll (is.map D)
 | []=>⟨S6 _,fun _ h=>(SW h).elim⟩
 |i::is=>by
  obtain⟨h1,h2⟩:=sC D is;have h3:=Gh (D i);simp only[Tf,SB,Rows.uptoBulkAll];refine⟨by omega,fun j hj=>?_⟩;rcases List.mem_cons.1 hj with rfl|hj
  ·omega
  ·have:=h2 j hj;omega
theorem NY:Tryz.prog.underlying 46=some (.slice 164):=by kernel_rfl
theorem NR:∃f0 f1,Tryz.prog.underlying 164=some (.struct #[f0,f1])/\f0.type=23/\f0.offset=0/\f1.type=23/\f1.offset=1:=⟨_,_,Tryz.underlying164,rfl,rfl,rfl,rfl⟩
theorem NN:Tryz.prog.underlying 22=some (.slice 134):=by kernel_rfl
theorem OC:∃f0 f1 f2,Tryz.prog.underlying 134=some (.struct #[f0,f1,f2])/\f0.type=5/\f0.offset=0/\f1.type=9/\f1.offset=1/\f2.type=46/\f2.offset=2:=⟨_,_,_,Tryz.underlying134,rfl,rfl,rfl,rfl,rfl,rfl⟩
theorem JZ:Tryz.prog.underlying 23=some (.int .u32):=by kernel_rfl
theorem Kz:Tryz.prog.cellsOf 164=2:=by kernel_rfl
theorem KH:Tryz.prog.cellsOf 134=3:=by kernel_rfl
theorem NF:Tryz.prog.cellsOf 23=1:=by kernel_rfl
theorem PG:Tryz.prog.cellsOf 46=1:=by kernel_rfl
theorem zP{n:Int}(h:(Lit.int .u32 n).wf=true):∃k:Nat,n=(k:Int)/\k<2^32:=by
 have h1:IntKind.min .u32=0:=by decide
 have h2:IntKind.max .u32=4294967295:=by decide
 simp only[Lit.wf,h1,h2,SG,SX]at h;exact⟨n.toNat,by omega,by omega⟩
theorem N6{n:Int}(h:(Lit.int .u8 n).wf=true):∃k:Nat,n=(k:Int):=by
 have h1:IntKind.min .u8=0:=by decide
 simp only[Lit.wf,h1,SG,SX]at h;exact⟨n.toNat,by omega⟩
theorem sW{fR:Nat}{v:Value}{d:DataW H}{p:List MemPlace}(h:DataW.trod enc Tryz.prog W 0 (fun _=>true) true fR 46 [v]=some (d,p)):∃l,uj (uu W) v l/\l.length<=Rows.uptoBulk d:=by
 rcases Deep.open_slice NY h with ⟨e,e2⟩|⟨a,len,cap,m,n,D,Pl,e,_,ac,aj,hm,e2,hx⟩
 ·simp only[TX,TY]at e;subst e;exact⟨[],⟨none,0,rfl,.inl rfl⟩,S6 _⟩
 ·simp only[TX,TY]at e;subst e;simp only[S3]at e2;obtain⟨rfl,_⟩:=e2;have aa:m=cap:=by simpa using hm
  subst aa;obtain⟨f0,f1,hu,t0,o0,t1,o1⟩:=NR;obtain⟨g,hg⟩:=Deep.choose_lt (α:=Nat×Nat) (n:=len) (p:=fun i x=>W.cells? 0 (a.add (i*2)) 2=some [.int .u32 x.1,.int .u32 x.2]/\x.1<2^32/\x.2<2^32) (fun i hi=>by
   obtain⟨cs,h1,h2⟩:=hx i (by omega);rw[Kz]at h1;obtain⟨y0,y1,n',_,hl,h3,h4⟩:=trod_struct2 hu h2;rw[t0,o0,NF]at h3;rw[t1,o1,NF]at h4;obtain⟨k0,e0,_,w0⟩:=DataW.trod_int JZ h3;obtain⟨k1,e1,_,w1⟩:=DataW.trod_int JZ h4;obtain⟨j0,rfl,b0⟩:=zP w0;obtain⟨j1,rfl,b1⟩:=zP w1;rw[Kz]at hl
   match cs,hl with
   | [x,y],_=>
    simp at e0 e1;subst e0;subst e1;exact⟨(j0,j1),h1,b0,b1⟩)
  have hb:len<=Rows.uptoBulk (DataW.slice ((List.range len).map D) ((List.range (m-len)).map fun j=>D (len+j))):=by
   have:=(sC D (List.range len)).1;simp only[Ub]at this;simp only[Rows.uptoBulk];omega
  rcases TI len with h0|h0
  ·subst h0;exact⟨[],⟨some a,m,rfl,.inl rfl⟩,S6 _⟩
  ·obtain⟨b,off,rfl,hc⟩:=yj (size:=2) (C:=fun i=>[.int .u32 (g i).1,.int .u32 (g i).2]) (fun i hi=>(hg i hi).1) (by decide) h0;refine⟨(List.range len).map g,⟨_,m,by rw[Sz,Ub],.inr ⟨b,off,_,rfl,hc,wX _ fun i hi=>?_⟩⟩,by rw[Sz,Ub];exact hb⟩;exact⟨rfl,(hg i (List.mem_range.1 hi)).2⟩
instance:Inhabited It:=⟨⟨0,[],[]⟩⟩
theorem zS{fR:Nat}{v:Value}{d:DataW H}{p:List MemPlace}(h:DataW.trod enc Tryz.prog W 0 (fun _=>true) true fR 22 [v]=some (d,p)):∃l,KJ (uu W) v l/\l.length<=Rows.uptoBulk d/\∀x∈l,x.cubes.length<=Rows.uptoBulk d/\x.text.length<=Rows.uptoBulk d:=by
 rcases Deep.open_slice NN h with ⟨e,e2⟩|⟨a,len,cap,m,n,D,Pl,e,_,aa,am,hm,e2,hx⟩
 ·simp only[TX,TY]at e;subst e;exact⟨[],⟨none,0,rfl,.inl rfl⟩,S6 _,fun _ h=>(SW h).elim⟩
 ·simp only[TX,TY]at e;subst e;simp only[S3]at e2;obtain⟨rfl,_⟩:=e2;have ac:m=cap:=by simpa using hm
  subst ac;obtain⟨f0,f1,f2,hu,t0,o0,t1,o1,t2,o2⟩:=OC;obtain⟨g,hg⟩:=Deep.choose_lt (α:=List Value×It) (n:=len) (p:=fun i x=>W.cells? 0 (a.add (i*3)) 3=some x.1/\G3 (uu W) x.1 x.2/\x.2.cubes.length<=Rows.uptoBulk (D i)/\x.2.text.length<=Rows.uptoBulk (D i)) (fun i hi=>by
   obtain⟨cs,h1,h2⟩:=hx i (by omega);rw[KH]at h1;obtain⟨y0,y1,y2,n',hD,hl,h3,h4,h5⟩:=Deep.trod_struct3 hu h2;rw[t0,o0,Fw]at h3;rw[t1,o1,Bm]at h4;rw[t2,o2,PG]at h5;simp only[S3]at hD;obtain⟨hD,_⟩:=hD;obtain⟨k0,e0,q0,w0⟩:=DataW.trod_int Qn h3;obtain⟨s,e1,q1,_⟩:=DataW.trod_string Pe h4;obtain⟨j0,rfl⟩:=N6 w0;rw[KH]at hl
   match cs,hl with
   | [x,y,z],_=>
    simp at e0 e1 h5;subst e0;subst e1;obtain⟨l,aa,ak⟩:=sW (d:=y2.1) (p:=y2.2) h5;refine⟨([.int .u8 (j0:Int),.string s,z],⟨j0,s.data.toList,l⟩),h1,⟨z,by simp,aa⟩,?_,?_⟩
    ·show l.length<=_;rw[hD];simp only[Rows.uptoBulk,Rows.uptoBulkAll];omega
    ·show s.data.toList.length<=_;rw[hD,q1];simp only[Rows.uptoBulk,Rows.uptoBulkAll];omega)
  obtain⟨b1,b2⟩:=sC D (List.range len);simp only[Ub]at b1;have aj:Rows.uptoBulkAll ((List.range len).map D)<=Rows.uptoBulk (DataW.slice ((List.range len).map D) ((List.range (m-len)).map fun j=>D (len+j))):=by
   simp only[Rows.uptoBulk];omega
  rcases TI len with h0|h0
  ·subst h0;exact⟨[],⟨some a,m,rfl,.inl rfl⟩,S6 _,fun _ h=>(SW h).elim⟩
  ·obtain⟨b,off,rfl,hc⟩:=yj (size:=3) (C:=fun i=>(g i).1) (fun i hi=>(hg i hi).1) (by decide) h0;refine⟨(List.range len).map fun i=>(g i).2,⟨_,m,by rw[Sz,Ub],.inr ⟨b,off,_,rfl,hc,wX _ fun i hi=>(hg i (List.mem_range.1 hi)).2.1⟩⟩,by rw[Sz,Ub];omega,fun x hx=>?_⟩;obtain⟨i,hi,rfl⟩:=List.mem_map.1 hx;obtain⟨_,_,c1,c2⟩:=hg i (List.mem_range.1 hi);have:=b2 i hi;exact⟨by omega,by omega⟩
end
open Go Go.Sx Dg Syn
open Go.ChangeShapes (trodAll_three trodVars_none trodAll_mk1 trodAll_mk3)
open Go.RowKit (shut_bool)
theorem mO{W:World}{n:String}{g:Nat}{cs:Array Value}(hg:Tryz.prog.globalNamed n=some g)(h:W.var? Tryz.prog n=some cs):∃ty fz,W.heap[g]?=some (.cells cs ty fz):=by
 unfold World.var? at h;rw[hg]at h;simp only[Sm]at h;cases hb:W.heap[g]? with
 |none=>rw[hb]at h;cases h
 |some o=>
  rw[hb]at h;cases o with
  |cells c ty fz=>simp only[Sc]at h;subst h;exact⟨ty,fz,rfl⟩
  |_=>cases h
theorem GE{H:Type}{enc:TypeId×Value->H}{W:World}{lO fR t n:Nat}{sp:Nat->Bool}{aa:Bool}{cs:List Value}{T:List bM}{p:List MemPlace}(ht:Tryz.prog.underlying t=some (.array n 9))(ak:Tryz.prog.cellsOf t=n)
  (h:DataW.trod enc Tryz.prog W lO sp aa fR t cs=some (.agg (T.map fun x=>.lit (.string x)),p)):cs=T.map fun x=>.string ⟨⟨x⟩⟩:=by
 obtain⟨xs,m,_,hx,hl,am,aj⟩:=DataW.trod_array ht h;simp only[S3,DataW.agg.injEq]at hx;obtain⟨hx,_⟩:=hx;rw[ak]at hl;have hT:T.length=n:=by
  have:=congrArg List.length hx;simp at this;omega
 apply List.ext_getElem?;intro i;rcases Sw i n with hi|hi
 ·have h1:=aj i hi;obtain⟨y,hy⟩:∃y,xs[i]?=some y:=⟨_,SC (by omega)⟩;rw[Bm,Nat.mul_one,hy]at h1;obtain⟨s,e1,e2,_⟩:=DataW.trod_string Pe h1;have h2:(xs.map (·.1))[i]?=some (.lit (.string s.data.toList)):=by rw[SA,hy,e2];rfl
  rw[<-hx,SA]at h2;obtain⟨x,ac⟩:∃x,T[i]?=some x:=⟨_,SC (by omega)⟩;rw[ac]at h2;simp only[So,Sc,DataW.lit.injEq,Lit.string.injEq]at h2;have h3:cs[i]?=some (.string s):=by
   have:=congrArg (fun l:List Value=>l[0]?) e1;simpa[Sg,Sh]using this
  rw[h3,SA,ac,h2];rfl
 ·rw[SF (by omega),SF (by rw[Sz];omega)]
theorem OW:Tryz.prog.cellsOf 317=22:=by kernel_rfl
theorem Q1:Tryz.prog.globalNamed "motley/source.signs"=some 0:=by kernel_rfl
theorem QZ:Tryz.prog.globalNamed "strconv.ErrSyntax"=some 1:=by kernel_rfl
theorem Q9:Tryz.prog.globalNamed "strconv.ErrRange"=some 2:=by kernel_rfl
theorem Ri:(Tryz.prog.globals[0]?).map (·.type)=some 317:=by kernel_rfl
theorem RH:(Tryz.prog.globals[1]?).map (·.type)=some 284:=by kernel_rfl
theorem RB:(Tryz.prog.globals[2]?).map (·.type)=some 284:=by kernel_rfl
theorem Rz:(Tryz.prog.globals[3]?).map (·.type)=some 406:=by kernel_rfl
theorem Oc:Tryz.prog.underlying 406=some (.array 20 366):=by kernel_rfl
theorem Oj:Tryz.prog.underlying 366=some (.int .u64):=by kernel_rfl
theorem OV:Tryz.prog.cellsOf 366=1:=by kernel_rfl
theorem Nu:Tryz.prog.cellsOf 406=20:=by kernel_rfl
theorem IW{W:World}(hL:laidMetH Tryz.prog Rows.syntaxProjectsUptoRow.laid W):fN (uu W):=by
 rw[MakeChecks.laidMetH_plain _ _ _ (by kernel_rfl)]at hL;have r3:=Lib.laidMet.reads hL (.tail _ (.tail _ (.head _)));have r2:=Lib.laidMet.reads hL (.tail _ (.tail _ (.tail _ (.head _))));have r1:=Lib.laidMet.reads hL (.tail _ (.tail _ (.tail _ (.tail _ (.head _)))));have r0:=Lib.laidMet.reads hL (.tail _ (.tail _ (.tail _ (.tail _ (.tail _ (.head _))))));refine⟨?_,?_,?_,?_⟩
 ·obtain⟨g,t,cs,fR,p,hg,ht,hv,hd⟩:=r0;obtain rfl:=Tk (Q1.symm.trans hg);obtain rfl:=Tk (Ri.symm.trans ht);obtain⟨ty,fz,hb⟩:=mO Q1 hv;have aa:=GE (T:=gI) Kg OW hd;refine⟨cs,ty,fz,hb,?_,?_⟩
  ·have:=congrArg List.length aa;simp only[Sk]at this;rw[this];simp[lP]
  ·rw[Tm,aa];exact T3 (by simp[lP])
 ·obtain⟨g,t,cs,fR,p,hg,ht,hv,hd⟩:=r1;obtain rfl:=Tk (QZ.symm.trans hg);obtain rfl:=Tk (RH.symm.trans ht);obtain⟨ty,fz,hb⟩:=mO QZ hv;obtain⟨_,u,v,aa,_⟩:=iface_of_trod vt.choose_spec hd;exact⟨u,v,cs,ty,fz,hb,by have:=congrArg List.length aa;simp at this;simp[this],by simp[aa]⟩
 ·obtain⟨g,t,cs,fR,p,hg,ht,hv,hd⟩:=r2;obtain rfl:=Tk (Q9.symm.trans hg);obtain rfl:=Tk (RB.symm.trans ht);obtain⟨ty,fz,hb⟩:=mO Q9 hv;obtain⟨_,u,v,aa,_⟩:=iface_of_trod vt.choose_spec hd;exact⟨u,v,cs,ty,fz,hb,by have:=congrArg List.length aa;simp at this;simp[this],by simp[aa]⟩
 ·obtain⟨g,t,cs,fR,p,hg,ht,hv,hd⟩:=r3;obtain rfl:=Tk (Ew.symm.trans hg);obtain rfl:=Tk (Rz.symm.trans ht);obtain⟨ty,fz,hb⟩:=mO Ew hv;have aa:=Lib.cells_of_tab (zs:=Lib.pow10Tab) (k:=.u64) Oc Oj OV Nu hd;refine⟨ty,fz,?_⟩;show W.heap[3]?=_;rw[hb,<-aa]
theorem Nm:ownKnob Tryz.prog.godebug=none:=by kernel_rfl
theorem Cm:laidOutB Tryz.prog=true:=by kernel_rfl
theorem GM(os:Os)(args:Array Value):laidMetH Tryz.prog Rows.syntaxProjectsUptoRow.laid ((World.doorLaid Tryz.prog 67 os).forCall (fun _ _=>0) ⟨#[],args,[]⟩).memory:=
 @laidMetH_of_parts3 _ _ _ 8 (laidMet_of_run' 8 (by kernel_rfl) (by kernel_rfl)) (by kernel_rfl) (by kernel_rfl)
def yl:Array Value:=#[.slice none 0 0,.slice none 0 0,.int .u32 0]
theorem ym(os:Os){H:Type}(enc:TypeId×Value->H):
  (Rows.OpenSpec.upto Rows.syntaxProjectsSpec).preRow enc Tryz.prog Tryz.f7 Rows.syntaxProjectsUptoRow.domain false Rows.syntaxProjectsUptoRow.laid ((World.doorLaid Tryz.prog 67 os).forCall (fun _ _=>0) ⟨#[],yl,[]⟩).memory yl:=by
 have hw:(DataW.whole enc Tryz.prog ((World.doorLaid Tryz.prog 67 os).forCall (fun _ _=>0) ⟨#[],yl,[]⟩).memory Tryz.f7.params.toList (Rows.OpenSpec.upto Rows.syntaxProjectsSpec).vars false yl.toList 8).map (fun x=>(x.1,x.2.1)) =
   some ([.nil,.nil,.lit (.int .u32 0)],[]):=by kernel_rfl
 obtain⟨⟨x1,x2,x3⟩,hx,aa⟩:=Option.map_eq_some_iff.1 hw;simp only[S3]at aa;obtain⟨rfl,rfl⟩:=aa;exact OpenSpec.preRow_of_cond 8 hx (by kernel_rfl) (fun k hk=>by cases hk;rfl) (by kernel_rfl) (GM os _)
set_option maxRecDepth 100000 in
theorem qQ(os:Os)(started:os.Started)(H:Type)(enc:TypeId×Value->H)(F:Stop.Interp):
  ReturnsInHanded {} Tryz.checked os 7 .any ((Rows.OpenSpec.upto Rows.syntaxProjectsSpec).preRow enc Tryz.prog Tryz.f7 Rows.syntaxProjectsUptoRow.domain false Rows.syntaxProjectsUptoRow.laid) (((Rows.OpenSpec.upto Rows.syntaxProjectsSpec).at F).post enc Tryz.prog Tryz.f7 false true false false):=by
 refine returnsInHanded_of_row (C:=Tryz.checked) (s:=Rows.OpenSpec.upto Rows.syntaxProjectsSpec) Nm started (by kernel_rfl) Tryz.func7
  (witness_row_atRef (enc:=enc) (C:=Tryz.checked) false (World.doorLaid Tryz.prog 67 os) yl rfl (by kernel_rfl) (by kernel_rfl) (by kernel_rfl) (ym os enc)) ?_
 intro W lO args ds gs before ac hW _ ak _ hL _ _;have aj:Rows.uptoSmall H (ds++gs)=true:=ak _ rfl;have aa:∀(j:Nat) t v,Tryz.f7.params[j]?=some t->args[j]?=some v->Value.okWide Tryz.prog W .any lO t v:=ac;have am:=hW;obtain⟨p,q,aS,ap,rfl,_,_⟩:=hW;have hA:DataW.TrodAll enc Tryz.prog W 0 (fun _=>true) true Tryz.f7.params.toList args.toList ds p:=aS;rw[Tryz.params7]at hA aa;obtain⟨v0,v1,v2,d0,d1,d2,p0,p1,p2,rfl,rfl,rfl,h0,h1,h2⟩:=trodAll_three hA;obtain⟨rfl,rfl⟩:=trodVars_none ap;have h0k:=h0;have h1k:=h1;have h2k:=h2;clear aS ap ac;simp only[Tq]at am aj;have an:∀x∈p0++p1++p2,x.block<W.heap.size:=fun x hx=>by simpa using am.lt x hx
 have ao:Rows.uptoBulk d0+(Rows.uptoBulk d1+(Rows.uptoBulk d2+0))<=1048576:=TG aj;obtain⟨a0,l0,c0,rfl⟩:=WideShapes.okWide_slice NN (aa 0 22 v0 rfl rfl);obtain⟨a1,l1,c1,rfl⟩:=WideShapes.okWide_slice NY (aa 1 46 v1 rfl rfl);obtain⟨f0,a4⟩:=h0;obtain⟨f1,a3⟩:=h1;obtain⟨l,a6,a9,a2⟩:=zS a4;obtain⟨w,a5,a7⟩:=sW a3;obtain⟨c,rfl,rfl,rfl,wc⟩:=ChangeShapes.open_int JZ (aa 2 23 v2 rfl rfl) h2;obtain⟨k,rfl,hk⟩:=zP wc;have hV:=IW hL;have main:=Bi hV a6 a5 (fun x hx=>by obtain⟨b1,b2⟩:=a2 x hx;exact⟨by omega,by omega⟩) (by omega) (by omega) hk;refine(aO.calls main).mono ?_;rintro e W' ⟨rfl,bel⟩;have e1:((Rows.OpenSpec.upto Rows.syntaxProjectsSpec).at F).fn H ([d0,d1,.lit (.int .u32 (k:Int))]++[])={ results:=[.lit (.bool true)],args:=[d0,d1,.lit (.int .u32 (k:Int))] }:=rfl;refine⟨_,rfl,_,_,_,[],p0++(p1++[]),[],am,?_,?_,?_,bel.frame _,fun h=>by cases h⟩
 ·rw[e1];exact trodAll_mk1 (shut_bool Tryz.underlying4 _)
 ·rw[e1];exact trodAll_mk3 (RowKit.Below.trod Cm (by kernel_rfl) (TG (by kernel_rfl)) h0k bel (fun x hx=>an x (by simp[hx]))) (RowKit.Below.trod Cm (by kernel_rfl) (TG (by kernel_rfl)) h1k bel (fun x hx=>an x (by simp[hx]))) (ChangeShapes.shut_int JZ wc)
 ·rw[e1];rfl
end Go.Proofs.YtfaclfkpnmcmlaaGreatDoor
