import Derived.Test.YtfaclfkpnmcmlaaGreatDoorE26
import Derived.Deep.Slices
import Derived.Deep.Strs
import Derived.Deep.DeepHandedRow
import Derived.Deep.DeepWitnessRowRef
import Derived.ProofKit
import Derived.ChangeSame
import Derived.RowKit
import Derived.LaidMore
import Derived.LaidHandle
import Derived.Lib.LaidU8
import Derived.SevenTiedAt
import Derived.Test.YtfaclfkpnmcmlaaGreatDoorRows
import Derived.Test.YtfaclfkpnmcmlaaGreatDoorCards
import Derived.Test.YtfaclfkpnmcmlaaGreatDoorTie
import Derived.ChangeMaps5
import Derived.MakeChecks
import Derived.OpenShut
set_option maxHeartbeats 8000000
set_option linter.all false
namespace Go.Proofs.YtfaclfkpnmcmlaaGreatDoor
open Go Go.Sx Dg Syn
def OU:aO Tryz.prog 114:=⟨_,Tryz.func114,rfl,rfl⟩
def KN:aO Tryz.prog 58:=⟨_,Tryz.func58,rfl,rfl⟩
theorem Tx:Tryz.prog.underlying 4=some .bool:=by kernel_rfl
def EP{C:Cx}{ol:List Oper}{fr:iK}{str:ip}{k:List Item}{σ:St}{H:PH}{i:Nat}{o:Oper}{l:List (Nat×Oper)}{T T2:TypeId}{x y:Operand}{a b:Bool}(hf:fr.h.contains i=true)(hw:aH ol σ o=some true)(aa:o.op=.binOp .neq T x y T2)(hx:ev σ x=.v (.bool a))(hy:ev σ y=.v (.bool b))(hu:C.P.underlying T=some .bool)(h:RD C ol fr str l k (σ.put o.dst (.v (.bool (!(a == b))))) H):RD C ol fr str ((i,o)::l) k σ H:=by
 refine wB (.bool (!(a == b))) hf hw (by simp[bh,aa,fT,Op.operands,hx,hy,ul]) (by rw[aa];rfl) (fun w _=>?_) h;simp[execOp,aa,bN,hx,hy,ZY,eqGuard,run_neq_bool w T a b hu,Result.andThen]
def Dq(ts l:List T):Nat:=l.foldl (fun s x=>s|||2^(T.dec ts x).1) 0
def Rw(t:T):Nat:=Dq (T.subs t) (T.subs t)
def Fz(ts l:List T)(x:T):Dq ts (l++[x])=Dq ts l|||2^(T.dec ts x).1:=by unfold Dq;rw[abM];rfl
def WS(v:Value)(n:Nat)(x:Nat×Nat):St:=⟨dn 20 [(3,.v (.int .u32 x.2)),(7,.v v),(8,.v (iv n)),(9,.v (iv x.1))],[]⟩
variable{v:Value}
def Sy{H:PH}{t:T}(h:cX H v t):bO Tryz.prog 114 #[v] H fun r H2=>r=.int .u32 (Rw t:Nat)/\H2=H:=by
 have aS:=zL h.1;obtain⟨ao,sl,rfl,hL⟩:=h;obtain⟨a,k,rfl,am⟩:=hL;have sq:T.Seq (T.subs t):=(T.vis_spec t ao ab [] T.Seq.nil).1;refine ah 20 Tryz.func114 fun w0=>?_
 try simp only[iv]
 refine aT ?_;refine aA (fun x=>(T.subs t).length-x.1) (WS (.slice a (T.subs t).length k) (T.subs t).length) (fun x H2=>H2=H/\x.1<=(T.subs t).length/\x.2=Dq (T.subs t) ((T.subs t).take x.1)/\x.2<2^24) (0,0) bM (by simp only[go_sem,aa6,WS]) ⟨rfl,aaL _,rfl,by decide⟩ ?_;rintro⟨i,s⟩ H2 ⟨rfl,hi,hs,ac⟩ ag;simp only at hi hs ac;simp only[WS];rcases aaf i (T.subs t).length with aj|a1
 ·have an:decide ((i:Int)<((T.subs t).length:Int))=true:=abU ab;have e1:IntKind.i64.wrap ((i:Int)+1)=((i+1:Nat):Int):=by rw[<-wrap64 (n:=i+1) ab];congr 1
  obtain⟨x,hx⟩:∃x,(T.subs t)[i]?=some x:=⟨_,aak aj⟩;have hm:=aaV hx;have al:(T.dec (T.subs t) x).1<24:=by
   cases x with
   |lf b=>obtain⟨_,_,_,e,_⟩:=sq.2 i _ hx;cases e
   |nd i l r=>exact(sq.okk (show T.isIn (T.subs t) (.nd i l r) from hm)).2.1
  rcases am with h0|⟨b,rfl,am⟩
  ·rw[h0]at aj;simp at aj
  have aq:(EN (T.subs t)).length=(T.subs t).length*3:=qp _;have aa:=am.sub (i*3) 3 ab;rw[qw hx,ZZ]at aa;have ak:2^(T.dec (T.subs t) x).1<2^24:=Nat.pow_lt_pow_right ab al;have q1:Uu .u32 (s:Int) (yR .u32 1 (((T.dec (T.subs t) x).1:Nat):Int))=((s|||2^(T.dec (T.subs t) x).1:Nat):Int):=by rw[RA ab];exact CN ab ab
  apply RG;simp only[go_sem,iv,an];refine⟨ab,?_⟩;refine XN (l:=nt (T.dec (T.subs t) x)) (v:=gV (T.dec (T.subs t) x)) rfl (by simpa using aa) (.inl ⟨uK,rfl⟩) ?_;apply RG;simp only[go_sem,iv,gV,abt,q1,e1];exact ag (i+1,s|||2^(T.dec (T.subs t) x).1) _ _ dt bM (by simp only[go_sem,aa6,WS]) ⟨rfl,aj,by simp only;rw[df hx,Fz,<-hs],Nat.or_lt_two_pow ac ak⟩
 ·have:i=(T.subs t).length:=by omega
  subst this;rw[aaS]at hs;have an:decide ((((T.subs t).length:Nat):Int)<((T.subs t).length:Int))=false:=by simp
  apply RG;simp only[go_sem,iv,an];exact aJ (r:=[_]) rfl ⟨by rw[hs];rfl,rfl⟩
def sx(u:Nat):∀i,(eY u i).Pairwise (· < ·)
 |0=>aaW _ _
 |i+1=>by
  have ih:=sx u i;have key:∀x∈eY u i,x|||2^i=2^i+x:=fun x hx=>by
   have:=Nat.two_pow_add_eq_or_of_lt (sN u i x hx) 1;rw[Nat.mul_one]at this;rw[this,Nat.or_comm]
  unfold eY;split
  ·refine List.pairwise_append.2 ⟨ih,?_,fun x hx y hy=>?_⟩
   ·rw[List.pairwise_map];exact ih.imp_of_mem fun{x y} hx hy h=>by rw[key x hx,key y hy];omega
   ·obtain⟨z,hz,rfl⟩:=List.mem_map.1 hy;have:=sN u i x hx;rw[key z hz];omega
  ·exact ih
def Uy(a:Option Addr)(k:Nat)(t:T)(vl vm:Value)(u:Nat)(x:Nat×Nat):St:=⟨dn 56 [(1,.v vl),(2,.v (.int .u32 u)),(3,.p 3 0),(7,.v vm),(8,.v (iv x.2)),(9,.v (iv x.1))],[⟨3,50,[sD a k t,rD t]⟩]⟩
variable{u:Nat}{I:PH}
theorem OG{vd vl:Value}{t:T}(hD:cX I vd t)(hL:JF I vl ((eY u 32).filter fun c=>t.at' (ch c)))(hu:u<2^32)(hp:pR u 32<=8)(hs:LO .u32 (Rw t:Nat) (u:Nat)=0):
  aK Tryz.prog 58 #[vd,vl,.int .u32 u] I [] fun r I2 qs=>qs=[]/\r=.bool true:=by
 obtain⟨xa,xk,rfl⟩:=hD.shape2;intro hd;refine ah 56 Tryz.func58 fun w0=>?_;apply RG;simp only[go_sem,sD,rD];refine bV hd rfl EO (uf hu hp) fun v I1 qs bF aq hq=>?_;obtain⟨rfl,hm⟩:=hq;have bx:(eY u 32).length<=256:=by rw[m9];exact ZS (abe ab hp) bg
 have a3:=sx u 32;have hL:=hL.le aq;have hD:=hD.le aq;have al:∀x∈eY u 32,x<2^32:=sN u 32;generalize eY u 32=m at hm bx hL a3 al |-;obtain⟨l,hl⟩:∃l,(m.filter fun c=>t.at' (ch c))=l:=⟨_,rfl⟩;rw[hl]at hL;have b3:l.length<=m.length:=by rw[<-hl];exact List.length_filter_le _ _
 obtain⟨la,lc,rfl,_⟩:=id hL;obtain⟨ma,mc,rfl,_⟩:=id hm;apply RG;simp only[go_sem,sD,rD];refine aA (fun x=>m.length-x.1) (Uy xa xk t (.slice la l.length lc) (.slice ma m.length mc) u) (fun x H2=>∃J,H2=U [J]/\Dj [J]/\I1.le J/\x.1<=m.length/\x.2=((m.take x.1).filter fun c=>t.at' (ch c)).length) (0,0) bM (by simp only[go_sem,aa6,Uy,sD,rD,iv]) ⟨I1,rfl,bF,abW _,aaL _,by simp⟩ ?_;rintro⟨i,j⟩ H2 ⟨J,rfl,ak,aa,hi,hj⟩ ag;simp only at hi hj;have hL:=hL.le aa;have hm:=hm.le aa;have hD:=hD.le aa;simp only[Uy];rcases aaf i m.length with a1|b5
 ·have bb:decide ((i:Int)<(m.length:Int))=true:=abU ab;have e1:IntKind.i64.wrap ((i:Int)+1)=((i+1:Nat):Int):=by rw[<-wrap64 (n:=i+1) ab];congr 1
  have b4:j<=i:=by rw[hj];exact ZS (List.length_filter_le _ _) (by rw[abF];omega)
  have e2:IntKind.i64.wrap ((j:Int)+1)=((j+1:Nat):Int):=by rw[<-wrap64 (n:=j+1) ab];congr 1
  obtain⟨x,hx⟩:∃x,m[i]?=some x:=⟨_,aak a1⟩;have bs:=aaV hx;have am:=al x bs;have bc:m.drop i=x::m.drop (i+1):=by
   rw[aaK a1];rw[aak a1]at hx;rw[aaZ hx]
  have an:l=(m.take i).filter (fun c=>t.at' (ch c))++(m.drop i).filter (fun c=>t.at' (ch c)):=by rw[<-hl,<-List.filter_append,abq]
  have bC:∀y∈m.drop (i+1),x<y:=fun y hy=>by
   have h1:=a3.sublist (List.drop_sublist i m);rw[bc]at h1;exact(List.pairwise_cons.1 h1).1 y hy
  have ao:l[j]?=((m.drop i).filter fun c=>t.at' (ch c))[0]?:=by
   rw[an,aaH ab,hj,Nat.sub_self]
  have a4:(j<l.length/\∃y,l[j]?=some y/\((y:Int) == (x:Int))=t.at' (ch x))\/(¬j<l.length/\t.at' (ch x)=false):=by
   rw[bc,aby]at ao;cases hP:t.at' (ch x)
   ·rw[hP,ZV bg]at ao;by_cases a6:j<l.length
    ·obtain⟨y,hy⟩:∃y,l[j]?=some y:=⟨_,aak a6⟩;refine .inl ⟨a6,y,hy,?_⟩;rw[hy]at ao;have:=bC y (List.mem_filter.1 (aaV ao.symm)).1;exact beq_false_of_ne ab
    ·exact .inr ⟨a6,rfl⟩
   ·rw[hP,aaq rfl,abh]at ao;exact .inl ⟨(List.getElem?_eq_some_iff.1 ao).1,x,ao,beq_self_eq_true _⟩
  have a2:((m.take (i+1)).filter fun c=>t.at' (ch c)).length=j+(t.at' (ch x)).toNat:=by
   rw[df hx,List.filter_append,aa9,<-hj];cases hP:t.at' (ch x)<;>simp[hP]
  obtain⟨b,off,cs,rfl,⟨rfl,_⟩,ac⟩:=Sl.load (fun{I} c a h=>ot.len (I:=I) c a h) hm hx;have a9:(!(t.at' (ch x) == t.at' (ch x)))=false:=by simp
  apply RG;simp only[go_sem,iv,bb];rcases a4 with ⟨a6,y,hy,bd⟩|⟨a6,hP⟩
  ·have ba:decide ((j:Int)<(l.length:Int))=true:=abU ab;obtain⟨b2,off2,cs2,b1,⟨rfl,_⟩,aS⟩:=Sl.load (fun{I} c a h=>ot.len (I:=I) c a h) hL hy;cases b1
   refine eP [0,1,2,3,4,5,6,7,8,9,10,11,12,13,14,15] [8,12] [] ?_;apply au;simp only[go_sem,iv,ba]
   try refine⟨ab,?_⟩
   refine W7 (l:=[.int .u32 y]) rfl (cellsU ak (.head _) (by simpa using aS)) (.inr ⟨oR,rfl⟩) ?_;refine dS ?_
   try refine⟨ab,?_⟩
   refine W7 (l:=[.int .u32 x]) rfl (cellsU ak (.head _) (by simpa using ac)) (.inr ⟨oR,rfl⟩) ?_;apply au;simp only[go_sem,iv,bd];refine aw ?_;cases hP:t.at' (ch x)
   ·rw[hP]at a9 a2;refine dP ?_;refine eP [0,1,2,3,4,6,5,7] [4,7] [] ?_;refine lE ?_
    try refine⟨ab,?_⟩
    refine W7 (l:=[.int .u32 x]) rfl (cellsU ak (.head _) (by simpa using ac)) (.inr ⟨oR,rfl⟩) ?_;refine lE ?_;refine cv ak rfl BI (bO.keep (Gh hD am)) fun v I2 qs a7 aj a5=>?_;obtain⟨rfl,rfl⟩:=a5;rw[hP];refine dS ?_;refine EP rfl rfl rfl rfl rfl Tx ?_;refine dS ?_;refine aw ?_;apply RG;simp only[go_sem,iv,e1];exact ag (i+1,j) _ _ dt bM (by simp only[go_sem,aa6,Uy,sD,rD,iv]) ⟨I2,rfl,a7,abV aa aj,a1,by simp only;rw[a2];rfl⟩
   ·rw[hP]at a9 a2;apply RG;simp only[go_sem,iv,e2];refine eP [0,1,2,3,4,6,5,7] [4,7] [] ?_;refine lE ?_
    try refine⟨ab,?_⟩
    refine W7 (l:=[.int .u32 x]) rfl (cellsU ak (.head _) (by simpa using ac)) (.inr ⟨oR,rfl⟩) ?_;refine lE ?_;refine cv ak rfl BI (bO.keep (Gh hD am)) fun v I2 qs a7 aj a5=>?_;obtain⟨rfl,rfl⟩:=a5;rw[hP];refine dS ?_;refine EP rfl rfl rfl rfl rfl Tx ?_;refine dS ?_;refine aw ?_;apply RG;simp only[go_sem,iv,e1];exact ag (i+1,j+1) _ _ dt bM (by simp only[go_sem,aa6,Uy,sD,rD,iv]) ⟨I2,rfl,a7,abV aa aj,a1,by simp only;rw[a2];rfl⟩
  ·have ba:decide ((j:Int)<(l.length:Int))=false:=abT ab;rw[hP]at a9 a2;refine eP [0,1,2,3,4,5,6,7,8,9,10,11,12,13,14,15] [8,12] [] ?_;apply au;simp only[go_sem,iv,ba];refine aw ?_;refine dP ?_;refine eP [0,1,2,3,4,6,5,7] [4,7] [] ?_;refine lE ?_
   try refine⟨ab,?_⟩
   refine W7 (l:=[.int .u32 x]) rfl (cellsU ak (.head _) (by simpa using ac)) (.inr ⟨oR,rfl⟩) ?_;refine lE ?_;refine cv ak rfl BI (bO.keep (Gh hD am)) fun v I2 qs a7 aj a5=>?_;obtain⟨rfl,rfl⟩:=a5;rw[hP];refine dS ?_;refine EP rfl rfl rfl rfl rfl Tx ?_;refine dS ?_;refine aw ?_;apply RG;simp only[go_sem,iv,e1];exact ag (i+1,j) _ _ dt bM (by simp only[go_sem,aa6,Uy,sD,rD,iv]) ⟨I2,rfl,a7,abV aa aj,a1,by simp only;rw[a2];rfl⟩
 ·have:i=m.length:=by omega
  subst this;rw[aaS,hl]at hj;have bb:=Z6 m.length;have b0:((j:Int) == (l.length:Int))=true:=by rw[hj];exact beq_self_eq_true _
  apply RG;simp only[go_sem,iv,bb,b0,sD,rD];refine WZ rfl OU (Sy (hD.le (cP ak))) fun v H2 hv=>?_;obtain⟨rfl,rfl⟩:=hv;apply RG;simp only[go_sem,iv,hs];exact af rfl ak (r:=[_]) rfl (abV aq aa) ⟨rfl,rfl⟩
def Sm:aO Tryz.prog 31:=⟨_,Tryz.func31,rfl,rfl⟩
def Lb:aO Tryz.prog 72:=⟨_,Tryz.func72,rfl,rfl⟩
structure WY(W:PH->Value->T->Prop)(u:Nat):Prop where
 le:∀{I J:PH} {w:Value} {t:T},W I w t->I.le J->W J w t
 sh:∀{I:PH} {w:Value} {t:T},W I w t->∃a n c,w=.slice a n c
 al:∀{I:PH} {vd w:Value} {t:T},cX I vd t->W I w t->aK Tryz.prog 58 #[vd,w,.int .u32 (u:Nat)] I [] fun r _ qs=>qs=[]/\r=.bool true
def m6(W:PH->Value->T->Prop):Nat->PH->List Value->Nd->Prop
 |0,_,_,_=>False
 |d+1,I,c,n=>∃vk w,c=[.int .u8 n.kind,.string ⟨⟨n.text⟩⟩,.int .i64 n.tok,.int .i64 n.slot,vk,w]/\W I w n.cond/\Sl (m6 W d) I vk n.kids
def m6.le{W:PH->Value->T->Prop}{u:Nat}(hW:WY W u):∀{d:Nat} {I J:PH} {c:List Value} {n:Nd},m6 W d I c n->I.le J->m6 W d J c n
 |0,_,_,_,_,h,_=>h
 |d+1,I,J,c,n,⟨vk,w,e,hw,hk⟩,aa=>⟨vk,w,e,hW.le hw aa,Sl.le (R:=m6 W d) (fun{I J c a} h k=>m6.le hW h k) hk aa⟩
def m6.len{W:PH->Value->T->Prop}{d:Nat}(c:List Value)(n:Nd)(h:m6 W d I c n):c.length=6:=by
 cases d with
 |zero=>exact h.elim
 |succ d=>obtain⟨vk,w,e,_⟩:=h;rw[e];rfl
def FP(W:PH->Value->T->Prop)(I:PH)(c:List Value)(d:cO):Prop:=∃w,c=[.int .u8 d.code,.int .i64 d.tok,w]/\W I w d.cond
def FP.len{W:PH->Value->T->Prop}(c:List Value)(n:cO)(h:FP W I c n):c.length=3:=by obtain⟨w,e,_⟩:=h;rw[e];rfl
def NV(va vb:Value)(u:Nat)(i:Nat):St:=⟨dn 30 [(0,.v va),(1,.v vb),(2,.v (.int .u32 u)),(7,.v (iv i))],[]⟩
theorem P9{W:PH->Value->T->Prop}(hW:WY W u):∀(m d:Nat) {I:PH} {va vb:Value} {l:List Nd},du l<m->du l<=aN->eE I va l->Sl (m6 W d) I vb l->aK Tryz.prog 72 #[va,vb,.int .u32 u] I [] fun r _ qs=>qs=[]/\r=.bool true:=by
 intro m
 induction m with
 |zero=>intro d I va vb l h;omega
 |succ m ih=>
 intro d I va vb l hm hz h1 h2 hd;obtain⟨a1,c1,rfl,_⟩:=id h1;obtain⟨a2,c2,rfl,_⟩:=id h2;have bd:=iI l;have a3:=hz;unfold aN at a3;have h0:((l.length:Int) != (l.length:Int))=false:=by simp
 have sameN:∀{J:PH} {cx cy:List Value} {n:Nd},n∈l->bm J cx n->m6 W d J cy n->aK Tryz.prog 31 #[.agg cx.toArray,.agg cy.toArray,.int .u32 u] J [] fun r _ qs=>qs=[]/\r=.bool true:=by
  intro J cx cy n hn hx hy hd;have bc:=oG hn;obtain⟨vk,xa,xk,rfl,a4,ak,_⟩:=hx.shape;cases d with
  |zero=>exact hy.elim
  |succ d=>
  obtain⟨wk,w,rfl,hw,aj⟩:=hy;obtain⟨ka,kc,rfl,_⟩:=id ak;obtain⟨la,lc,rfl,_⟩:=id aj;obtain⟨wa,wn,wc,rfl⟩:=hW.sh hw;refine ah 49 Tryz.func31 fun w0=>?_
  try simp only[iv,sD,rD]
  apply RG;simp only[go_sem,iv,sD,rD,beq_self_eq_true];refine bV hd rfl KN (hW.al a4 hw) fun v J2 qs ao aa hq=>?_;obtain⟨rfl,rfl⟩:=hq;refine lY ?_;refine bV ao rfl Lb (ih d ab ab (eE.le ak aa) (Sl.le (R:=m6 W d) (fun{I J c a} h k=>m6.le hW h k) aj aa)) fun v J3 qs a6 an hq=>?_;obtain⟨rfl,rfl⟩:=hq;refine dP ?_;exact af rfl a6 (r:=[_]) rfl (abV aa an) ⟨rfl,rfl⟩
 refine ah 30 Tryz.func72 fun w0=>?_;apply RG;simp only[go_sem,h0];refine aA (fun x=>l.length-x) (NV (.slice a1 l.length c1) (.slice a2 l.length c2) u) (fun i H=>∃J,H=U [J]/\Dj [J]/\I.le J/\i<=l.length) 0 bM (by simp only[go_sem,aa6,NV]) ⟨I,rfl,hd,abW _,aaL _⟩ ?_;rintro i H ⟨J,rfl,am,ac,hi⟩ ag;simp only[NV];rcases aaf i l.length with aS|bs
 ·have aq:decide ((i:Int)<(l.length:Int))=true:=abU ab;have e1:IntKind.i64.wrap ((i:Int)+1)=((i+1:Nat):Int):=by rw[<-wrap64 (n:=i+1) ab];congr 1
  obtain⟨n,hn⟩:∃n,l[i]?=some n:=⟨_,aak aS⟩;have a5:=aaV hn;obtain⟨b1,o1,cx,bb,hx,a9⟩:=Sl.load (R:=bm) (fun{I} c a h=>bm.len (I:=I) c a h) (eE.le h1 ac) hn;cases bb
  obtain⟨b2,o2,cy,ba,hy,a7⟩:=Sl.load (R:=m6 W d) (fun{I} c a h=>m6.len (I:=I) c a h) (Sl.le (R:=m6 W d) (fun{I J c a} h k=>m6.le hW h k) h2 ac) hn;cases ba
  cases d with
  |zero=>exact hy.elim
  |succ d=>
  obtain⟨vk,xa,xk,rfl,_,ak,_⟩:=id hx.shape;obtain⟨vk2,w2,rfl,hw,aj⟩:=id hy;obtain⟨ka,kc,rfl,_⟩:=id ak;obtain⟨la,lc,rfl,_⟩:=id aj;obtain⟨wa,wn,wc,rfl⟩:=hW.sh hw;apply RG;simp only[go_sem,iv,aq];refine eP [0,1,2,3,4,5,6,7,8,9,10] [3,7] [] ?_;refine dS ?_
  try refine⟨ab,?_⟩
  refine W7 (l:=[.int .u8 n.kind,.string ⟨⟨n.text⟩⟩,.int .i64 n.tok,.int .i64 n.slot,.slice ka n.kids.length kc,sD xa xk n.cond,rD n.cond]) (v:=.agg #[.int .u8 n.kind,.string ⟨⟨n.text⟩⟩,.int .i64 n.tok,.int .i64 n.slot,.slice ka n.kids.length kc,sD xa xk n.cond,rD n.cond]) rfl (cellsU am (.head _) (by simpa using a9)) (.inl ⟨cL,rfl⟩) ?_;refine lE ?_
  try refine⟨ab,?_⟩
  refine W7 (l:=[.int .u8 n.kind,.string ⟨⟨n.text⟩⟩,.int .i64 n.tok,.int .i64 n.slot,.slice la n.kids.length lc,.slice wa wn wc]) (v:=.agg #[.int .u8 n.kind,.string ⟨⟨n.text⟩⟩,.int .i64 n.tok,.int .i64 n.slot,.slice la n.kids.length lc,.slice wa wn wc]) rfl (cellsU am (.head _) (by simpa using a7)) (.inl ⟨Tw,rfl⟩) ?_;refine lE ?_;refine cv am rfl Sm (sameN a5 hx hy) fun v J2 qs ao aa hq=>?_;obtain⟨rfl,rfl⟩:=hq;apply au;simp only[go_sem,abQ];refine aw ?_;apply RG;simp only[go_sem,iv,e1];exact ag (i+1) _ _ ab bM (by simp only[go_sem,aa6,NV]) ⟨J2,rfl,ao,abV ac aa,aS⟩
 ·have:i=l.length:=by omega
  subst this;have aq:=Z6 l.length;apply RG;simp only[go_sem,iv,aq];exact af rfl am (r:=[_]) rfl ac ⟨rfl,rfl⟩
def KG:aO Tryz.prog 70:=⟨_,Tryz.func70,rfl,rfl⟩
def mD:aO Tryz.prog 67:=⟨_,Tryz.func67,rfl,rfl⟩
def Lc:aO Tryz.prog 66:=⟨_,Tryz.func66,rfl,rfl⟩
def R8:aO Tryz.prog 65:=⟨_,Tryz.func65,rfl,rfl⟩
def Nx:aO Tryz.prog 17:=⟨_,Tryz.func17,rfl,rfl⟩
def YO:bq:=[102,110,32,109,97,105,110,32,40,32,41,32,123,32,112,114,105,110,116,32,49,32,43,32,50,32,42,32,51,32,59,32,125]
def YI:bq:=[118,97,114,32,120,32,58,32,105,110,116,32,98,111,111,108,32,59]
def V3:List (Nat×bq):=[(1,[102,110]),(1,[109,97,105,110]),(3,[40]),(3,[41]),(3,[123]),(1,[112,114,105,110,116]),(2,[49]),(3,[43]),(2,[50]),(3,[42]),(2,[51]),(3,[59]),(3,[125])]
def NS:List (Nat×bq):=[(1,[118,97,114]),(1,[120]),(3,[58]),(1,[105,110,116]),(1,[98,111,111,108]),(3,[59])]
def XT:wX YO=some V3:=by decide +kernel
def XK:wX YI=some NS:=by decide +kernel
def Ym:(V3.map cY).map refit=Uk:=by
 have h:V3.all (fun x=>lI x.1 x.2)=true:=by decide +kernel
 have e:(V3.map cY).map refit=V3.map cY:=by
  rw[aas];refine aat fun x hx=>?_;have:=List.all_eq_true.1 h x hx;show refit (cY x)=cY x;unfold refit cY;simp only[this]
 rw[e];rfl
def Cd:List Syn.Tok:=((NS.map cY).set 3 { cY (1,[105,110,116])with cond:=mU }).set 4 { cY (1,[98,111,111,108])with cond:=mU.not }
def Xk:Cd.map refit=XF:=by
 have h:NS.all (fun x=>lI x.1 x.2)=true:=by decide +kernel
 have hh:∀x∈NS,lI x.1 x.2=true:=List.all_eq_true.1 h;have e:∀t∈Cd,refit t=t:=by
  intro t ht;have:∃x∈NS,t.kind=x.1/\t.text=x.2/\t.fits=true:=by
   simp only[Cd,NS,cY,aaU,List.map_nil,List.set_cons_succ,abR,aad,aaB,or_false]at ht |-;rcases ht with h|h|h|h|h|h<;>subst h<;>simp
  obtain⟨x,hx,e1,e2,e3⟩:=this;unfold refit;have:=hh x hx;rw[<-e1,<-e2]at this;rw[this,<-e3]
 rw[show Cd.map refit=Cd.map id from aat e,List.map_id];rfl
variable{l:List (Nat×bq)}{s:bq}
def Ho(hs:s.length<2^40)(hV:ir I)(hx:wX s=some l):aK Tryz.prog 70 #[.string ⟨⟨s⟩⟩] I [] fun r I2 qs=>∃A lv,r=.agg #[lv,.slice none 0 0]/\qs=[A]/\yJ I2 A lv (l.map cY):=by
 intro hd;refine ah 12 Tryz.func70 fun w0=>?_;refine aT ?_;refine bV hd rfl Nq (Rk hs hV) fun v I2 qs aj ag hq=>?_;unfold Q4 at hq;rw[hx]at hq;obtain⟨A,va,rfl,rfl,hA⟩:=hq;obtain⟨aa,ac,rfl⟩:=hA.shape;refine aT ?_;exact af rfl aj (r:=[.agg #[.slice aa (l.map cY).length ac,.slice none 0 0]]) (by simp only[Tryz.results70,go_sem,iv]) ag ⟨A,_,rfl,rfl,hA⟩
variable{cs:List Value}
def qZ{H:PH}{n k:Nd}{i:Nat}(hn:bm H cs n)(hk:n.kids[i]?=some k)(hi:i<2^40):bO Tryz.prog 67 #[.agg cs.toArray,iv i] H fun r H2=>(∃cs',r=.agg cs'.toArray/\bm H cs' k)/\H2=H:=by
 obtain⟨vk,a,ak,rfl,hr,ac,hc⟩:=hn.shape;obtain⟨ka,kc,rfl,_⟩:=id ac;have an:=(List.getElem?_eq_some_iff.1 hk).1;have h9:decide ((i:Int)<(n.kids.length:Int))=true:=abU ab;obtain⟨b,off,ds,rfl,ag,aa⟩:=Sl.load bm.len ac hk;obtain⟨wk,wa,wn,rfl,al,aj,am⟩:=ag.shape;obtain⟨la,lc,rfl,_⟩:=id aj;refine ah 16 Tryz.func67 fun w0=>?_
 try simp only[iv,sD,rD]
 apply RG;simp only[go_sem,h9]
 try refine⟨ab,?_⟩
 refine XN (l:=[.int .u8 k.kind,.string ⟨⟨k.text⟩⟩,.int .i64 k.tok,.int .i64 k.slot,.slice la k.kids.length lc,sD wa wn k.cond,rD k.cond]) (v:=.agg #[.int .u8 k.kind,.string ⟨⟨k.text⟩⟩,.int .i64 k.tok,.int .i64 k.slot,.slice la k.kids.length lc,sD wa wn k.cond,rD k.cond]) rfl aa (.inl ⟨cL,rfl⟩) ?_;refine lY ?_;exact aJ (r:=[.agg #[.int .u8 k.kind,.string ⟨⟨k.text⟩⟩,.int .i64 k.tok,.int .i64 k.slot,.slice la k.kids.length lc,sD wa wn k.cond,rD k.cond]]) (by simp only[Tryz.results67,go_sem,iv,sD,rD]) ⟨⟨_,rfl,ag⟩,rfl⟩
def L5{H:PH}{t:Tr}{k:Nd}(hT:He H v t)(hk:t.kids[0]?=some k):bO Tryz.prog 66 #[v] H fun r H2=>(∃cs',r=.agg cs'.toArray/\bm H cs' k)/\H2=H:=by
 obtain⟨vk,vd,rfl,aa,hc,aj,_⟩:=hT;obtain⟨ka,kc,rfl,_⟩:=id aa;obtain⟨da,dc,rfl,_⟩:=id aj;have hn:bm H [.int .u8 0,.string ⟨⟨[]⟩⟩,.int .i64 0,.int .i64 0,.slice ka t.kids.length kc,.slice none 0 0,iv 0] ⟨0,[],0,0,t.kids,.lf false⟩:=bm.mk (n:=⟨0,[],0,0,t.kids,.lf false⟩) (a:=none) (k:=0) (mN H false) aa hc;refine ah 7 Tryz.func66 fun w0=>?_;refine aT ?_;refine WZ rfl mD (qZ (i:=0) hn hk bg) fun v H2 hv=>?_;obtain⟨⟨cs',rfl,ac⟩,rfl⟩:=hv;obtain⟨wk,wa,wn,rfl,ak,ag,al⟩:=ac.shape;obtain⟨la,lc,rfl,_⟩:=id ag;refine lY ?_;exact aJ (r:=[.agg #[.int .u8 k.kind,.string ⟨⟨k.text⟩⟩,.int .i64 k.tok,.int .i64 k.slot,.slice la k.kids.length lc,sD wa wn k.cond,rD k.cond]]) (by simp only[Tryz.results66,go_sem,iv,sD,rD]) ⟨⟨_,rfl,ac⟩,rfl⟩
def J8{lv:Value}(h:Sl dz I lv (l.map cY))(hl:l.length<=256)(hx:∀x∈l,x.2.length<2^40):uL I (.agg #[lv,.slice none 0 0]) (l.map cY):=by
 refine⟨⟨lv,none,0,0,rfl,h⟩,fun t ht=>?_,by rw[aah];omega,fun t ht=>?_⟩
 ·obtain⟨x,_,rfl⟩:=List.mem_map.1 ht;exact trivial
 ·obtain⟨x,aa,rfl⟩:=List.mem_map.1 ht;exact hx x aa
def KH(hs:s.length<2^40)(hV:ir I)(hx:wX s=some l)(hl:l.length<=256)(am:∀x∈l,x.2.length<2^40):aK Tryz.prog 65 #[.string ⟨⟨s⟩⟩] I [] fun r I2 qs=>qs=[]/\Vh (l.map cY) 0 r I2:=by
 intro hd;refine ah 6 Tryz.func65 fun w0=>?_;refine aT ?_;refine bV hd rfl KG (Ho hs hV hx) fun v I2 qs ao aj hq=>?_;obtain⟨A,lv,rfl,rfl,hA⟩:=hq;obtain⟨aa,ac,rfl⟩:=hA.shape;refine bf ao [0] fun al=>?_;refine ae al fun I3 al ag aq=>?_;have hS:Sl dz I3 (.slice aa (l.map cY).length ac) (l.map cY):=abX (R:=dz) (fun{I J c a} h k=>dz.le h k) hA ag aq;refine aT ?_;refine bV al rfl Ly (Gw (c:=0) (hV.le (abV aj ag)) (J8 hS hl am) bg) fun v2 I4 qs an ak hq=>?_;obtain⟨rfl,t,hF,hR,hB⟩:=hq;obtain⟨_,_,rfl,⟨xa,xc,rfl,_⟩,_,⟨ya,yc,rfl,_⟩,_⟩:=id hR;refine aT ?_;exact af rfl an (r:=[.agg #[.slice xa (prj (ch 0) t).kids.length xc,.slice ya (prj (ch 0) t).diags.length yc]]) (by simp only[Tryz.results65,go_sem,iv]) (abV aj (abV ag ak)) ⟨rfl,t,hF,hR,hB⟩
def nj{H:PH}{k:Nat}{t:bq}{o s:Int}{ks:List Nd}{d:T}(h:bm H cs ⟨k,t,o,s,ks,d⟩):∃va vc a n,cs=[.int .u8 k,.string ⟨⟨t⟩⟩,.int .i64 o,.int .i64 s,.slice va ks.length vc,sD a n d,rD d]/\eE H (.slice va ks.length vc) ks/\cX H (.agg #[sD a n d,rD d]) d:=by
 obtain⟨vk,a,n,e,hr,hk,_⟩:=h.shape;obtain⟨va,vc,rfl,_⟩:=id hk;exact⟨va,vc,a,n,e,hk,hr⟩
def Xd:Nd:=⟨13,[42],9,1,[⟨15,[50],8,0,[],tt⟩,⟨15,[51],10,1,[],tt⟩],tt⟩
def W5:Nd:=⟨13,[43],7,0,[⟨15,[49],6,0,[],tt⟩,Xd],tt⟩
def X3:Nd:=⟨11,[],5,0,[W5],tt⟩
def XH:Nd:=⟨6,[],4,2,[X3],tt⟩
def ZP:Nd:=⟨3,[109,97,105,110],1,0,[XH],tt⟩
def W6:Nd:=⟨1,[],-1,0,[ZP],tt⟩
def U4:Nd:=⟨5,[105,110,116],3,0,[],mU⟩
def RK:Nd:=⟨5,[98,111,111,108],4,0,[],mU.not⟩
def Xy:Nd:=⟨2,[120],1,0,[U4,RK],tt⟩
def Yf:Nd:=⟨1,[],-1,0,[Xy],tt⟩
def VH:jx 1 0=mU:=by decide +kernel
set_option maxRecDepth 4000 in
theorem GQ{I:PH}(hV:ir I):aK Tryz.prog 17 #[] I [] fun r I2 qs=>qs=[]/\r=.bool true:=by
 intro hd;refine ah 157 Tryz.func17 fun w0=>?_;refine aT ?_;refine bV hd rfl R8 (KH (s:=YO) bg hV XT bg bg) fun v I1 qs cs aS hq=>?_;obtain⟨rfl,t,hF,hR,hB⟩:=hq;rw[Ym]at hF;have hp:=SP (wQ _ _) hF (zu 0);rw[hp]at hR;have hR:He I1 v ⟨[W6],[]⟩:=hR;obtain⟨vk,vd,rfl,hk,en,cj,es⟩:=id hR;obtain⟨ka,kc,rfl,_⟩:=id hk;obtain⟨da,dc,rfl,_⟩:=id cj;simp only[aaj,aaO]at hR hk cj |-;refine aT ?_;refine WZ rfl Lc (L5 (hR.le (cP cs)) rfl) fun v H2 hv=>?_;obtain⟨⟨c1,rfl,a5⟩,rfl⟩:=hv;obtain⟨pa,pc,pa2,pn,rfl,em,el⟩:=nj a5;refine lY ?_;refine WZ rfl mD (qZ (i:=0) a5 rfl bg) fun v H2 hv=>?_;obtain⟨⟨c2,rfl,cA⟩,rfl⟩:=hv;obtain⟨fa,fc,fa2,fn,rfl,eq,ep⟩:=nj cA;refine lY ?_;refine WZ rfl mD (qZ (i:=0) cA rfl bg) fun v H2 hv=>?_;obtain⟨⟨c3,rfl,cy⟩,rfl⟩:=hv;obtain⟨ba,bc,ba2,bn,rfl,ey,ex⟩:=nj cy;refine lY ?_;refine WZ rfl mD (qZ (i:=0) cy rfl bg) fun v H2 hv=>?_;obtain⟨⟨c4,rfl,cx⟩,rfl⟩:=hv;obtain⟨ra,rc,ra2,rn,rfl,eg,ef⟩:=nj cx;refine lY ?_;refine WZ rfl mD (qZ (i:=0) cx rfl bg) fun v H2 hv=>?_;obtain⟨⟨c5,rfl,b2⟩,rfl⟩:=hv;obtain⟨ia,ic,ia2,inn,rfl,eo,dk⟩:=nj b2;refine lY ?_;refine WZ rfl mD (qZ (i:=0) a5 rfl bg) fun v H2 hv=>?_;obtain⟨⟨c6,rfl,d3⟩,rfl⟩:=hv;obtain⟨xa6,xb6,xc6,xd6,rfl,_,_⟩:=nj d3;refine lY ?_;refine WZ rfl mD (qZ (i:=0) a5 rfl bg) fun v H2 hv=>?_;obtain⟨⟨c7,rfl,d0⟩,rfl⟩:=hv;obtain⟨xa7,xb7,xc7,xd7,rfl,_,_⟩:=nj d0;refine lY ?_;refine WZ rfl mD (qZ (i:=1) b2 rfl bg) fun v H2 hv=>?_;obtain⟨⟨c8,rfl,dT⟩,rfl⟩:=hv;obtain⟨xa8,xb8,xc8,xd8,rfl,_,_⟩:=nj dT;refine lY ?_;refine WZ rfl mD (qZ (i:=1) b2 rfl bg) fun v H2 hv=>?_;obtain⟨⟨c9,rfl,dI⟩,rfl⟩:=hv;obtain⟨xa9,xb9,xc9,xd9,rfl,_,_⟩:=nj dI;refine lY ?_;refine WZ rfl Kb (MV dk) fun v H2 hv=>?_;obtain⟨rfl,rfl⟩:=hv;refine lY ?_
 refine bV cs rfl HB (FD (on:=1) (off:=0) bg bg) fun v I2 qs dw ao hq=>?_;obtain⟨rfl,a3⟩:=hq;rw[VH]at a3;obtain⟨ua,uk,rfl⟩:=a3.shape2;refine lY ?_;refine bV dw rfl KG (Ho (s:=YI) bg (hV.le (abV aS ao)) XK) fun v I3 qs dv ag hq=>?_;obtain⟨A,lv,rfl,rfl,hA⟩:=hq;obtain⟨g,cap,cur,cc,rfl,rfl,dy,dx,et,_,a7⟩:=hA.part (fun{I} c a h=>dz.len c a h) (fun{I J c a} h k=>dz.le h k) (i:=3) (x:=cY (1,[105,110,116])) rfl 5 2 bg;have cd:(NS.map cY).length=6:=rfl;rw[cd]at dy;obtain⟨p1,f1,l1,a1,k1,rfl,dj,_⟩:=dx;apply RG;simp only[go_sem,sD,rD,iv,cd,abo];refine bw dv rfl rfl rfl rfl rfl (by exact Ds) (by simp;omega) fun cr=>?_;have b4:=a7 I3 [sD ua uk mU,rD mU] { cY (1,[105,110,116])with cond:=mU } (abW _) (by simp) ⟨p1,f1,l1,ua,uk,by simp[br,sD,rD,cY],dj,a3.le ag⟩;simp only[sD,rD,iv]at b4;generalize a6:sg g _=A2 at cr b4 |-;clear a6;refine lY ?_;refine eP [0,1,2,3,4,5,6] [] [] ?_;refine lE ?_;refine aE cr [0] [] [A2] rfl oT rfl (uX (a3.le ag)) fun v I4 qs cp ak hq=>?_;obtain⟨rfl,ct⟩:=hq;simp only[Z3]at cp |-;obtain⟨na,nk,rfl⟩:=ct.shape2;obtain⟨g2,cap2,cur2,cc2,ev,rfl,bx,bs,dA,_,am⟩:=Ow.part (R:=dz) (yJ.le b4 ak) (fun{I} c a h=>dz.len c a h) (fun{I J c a} h k=>dz.le h k) (i:=4) (x:=cY (1,[98,111,111,108])) rfl 5 2 bg;cases ev
 have a9:((NS.map cY).set 3 { cY (1,[105,110,116])with cond:=mU }).length=6:=rfl;rw[a9]at bx;obtain⟨p2,f2,l2,a2,k2,rfl,dd,_⟩:=bs;refine lE ?_;refine aQ cp rfl rfl rfl rfl rfl rfl (by exact Ds) (by simp;omega) fun cm=>?_;have b3:=am I4 [sD na nk mU.not,rD mU.not] { cY (1,[98,111,111,108])with cond:=mU.not } (abW _) (by simp) ⟨p2,f2,l2,na,nk,by simp[br,sD,rD,cY],dd,ct⟩;simp only[sD,rD,iv]at b3;generalize a6:sg _ _=A3 at cm b3 |-;clear a6;refine lE ?_;refine aw ?_;refine bf cm [0] fun bb=>?_;refine ae (c:=.st _) bb fun I5 bb aj eb=>?_;have hS:Sl dz I5 (.slice (some ⟨g,0,none⟩) 6 cap) Cd:=abX (R:=dz) (fun{I J c a} h k=>dz.le h k) b3 aj eb;have b5:=abV aS (abV ao (abV ag (abV ak aj)));have ea:uL I5 (.agg #[.slice (some ⟨g,0,none⟩) 6 cap,.slice none 0 0]) Cd:=by
  refine⟨⟨_,none,0,0,rfl,hS⟩,fun t ht=>?_,by decide,fun t ht=>?_⟩
  ·simp only[Cd,NS,cY,aaU,List.map_nil,List.set_cons_succ,abR,aad,aaB,or_false]at ht;rcases ht with h|h|h|h|h|h<;>subst h<;>first|exact trivial|exact⟨by decide,by decide,by decide,trivial,trivial⟩
  ·simp only[Cd,NS,cY,aaU,List.map_nil,List.set_cons_succ,abR,aad,aaB,or_false]at ht;rcases ht with h|h|h|h|h|h<;>subst h<;>decide
 refine lY ?_;refine eP [3,0,1,2,4] [] [] ?_;refine lE ?_;refine cv bb rfl FR (bO.keep (Fp _)) fun v I6 qs ds ac hq=>?_;obtain⟨rfl,rfl⟩:=hq;refine lE ?_;refine cv ds rfl L4 (DB (hV.le (abV b5 ac)) (ea.le ac) (K9 I6) (fun r er=>by rw[Xk,Xo]at er;cases er;decide)) fun v I7 qs cl an hq=>?_;obtain⟨rfl,t2,cB,a4,ez⟩:=hq;rw[Xk]at cB;have c0:=XP cB;subst c0;have a4:He I7 v ⟨[Yf],[]⟩:=a4;obtain⟨wk,wd,rfl,ca,_,cb,_⟩:=id a4;obtain⟨wka,wkc,rfl,_⟩:=id ca;obtain⟨wda,wdc,rfl,_⟩:=id cb;simp only[aaj,aaO]at a4 ca cb |-;refine lE ?_;refine aw ?_;refine lY ?_;refine WZ rfl Lc (L5 (a4.le (cP cl)) rfl) fun v H2 hv=>?_;obtain⟨⟨d1,rfl,hd1c⟩,rfl⟩:=hv;obtain⟨qa,qc,qa2,qn,rfl,ek,ei⟩:=nj hd1c;refine lY ?_;refine WZ rfl mD (qZ (i:=0) hd1c rfl bg) fun v H2 hv=>?_;obtain⟨⟨d2,rfl,hd2c⟩,rfl⟩:=hv;obtain⟨xa,xc,xa2,xn,rfl,b8,b7⟩:=nj hd2c;obtain⟨b0,o0,cs0,rfl,bF,ci⟩:=Sl.load bm.len b8 (i:=0) (x:=U4) rfl;obtain⟨b1,o1,cs1,e1,bC,cf⟩:=Sl.load bm.len b8 (i:=1) (x:=RK) rfl;cases e1
 obtain⟨ya,yc,ya2,yn,rfl,ee,b6⟩:=nj bF;obtain⟨za,zc,za2,zn,rfl,ed,ec⟩:=nj bC;have m1:=ci.get (i:=1) rfl;have m5:=ci.sub 5 2 (by simp);have w1:=cf.get (i:=1) rfl;have w2:=cf.get (i:=2) rfl;rw[lQ]at b6 b7 w1 w2;refine lY ?_;refine dN mixed [0,1,2,3,4,5,6,7,8,9,10,11,12,13,14,15,16,17,18,19,20,21,22,23,24,25,26,27,28,29,30,31,32,33,34,35,36,37,38,39,40,41,42,43,44,45,46,47,48,49,50,51,52,53,54,55,56,57,58,59] [26,34,43,51] [] (by kernel_rfl) rfl ?_;refine lE ?_;refine W7 (l:=[.string ⟨⟨[105,110,116]⟩⟩]) rfl (by simpa using m1) (.inr ⟨tL,rfl⟩) ?_;refine lE ?_;refine W7 (l:=[sD ya2 yn mU,rD mU]) (v:=.agg #[sD ya2 yn mU,rD mU]) rfl (by simpa using m5) (.inl ⟨r9,rfl⟩) ?_;refine lE ?_;refine cv cl rfl TI (bO.keep (Sv b6 (a3.le (abV ag (abV ak (abV aj (abV ac an))))))) fun v8 I8 qs al aa hq=>?_;obtain⟨rfl,rfl⟩:=hq;refine lE ?_;refine W7 (l:=[.string ⟨⟨[98,111,111,108]⟩⟩]) rfl (cellsU al (.head _) (by simpa using w1.le aa)) (.inr ⟨tL,rfl⟩) ?_;refine lE ?_;refine W7 (l:=[.int .i64 4]) rfl (cellsU al (.head _) (by simpa using w2.le aa)) (.inr ⟨jq,rfl⟩) ?_;refine lE ?_;refine cv al rfl Kb (bO.keep (MV (b7.le aa))) fun v9 I9 qs bd aq hq=>?_;obtain⟨rfl,rfl⟩:=hq;refine lE ?_;refine aw ?_;refine aT ?_;exact af rfl bd (r:=[.bool true]) rfl (abV b5 (abV ac (abV an (abV aa aq)))) ⟨rfl,rfl⟩
def W1(w:Value)(J:PH)(I:PH)(v:Value)(t:T):Prop:=v=w/\J.le I/\t=tt
def UK{w:Value}{J:PH}(hw:JF J w (eY 1 32)):WY (W1 w J) 1 where
 le:=fun⟨h1,h2,h3⟩ k=>⟨h1,abV h2 k,h3⟩
 sh:=fun⟨h1,_,_⟩=>by
  obtain⟨a,c,e,_⟩:=hw;exact⟨a,_,c,h1.trans e⟩
 al:=fun{I vd w' t} hr ⟨h1,h2,h3⟩=>by
  subst h1 h3;refine OG hr ?_ bg bg bg;have:((eY 1 32).filter fun c=>(tt:T).at' (ch c))=eY 1 32:=List.filter_eq_self.2 fun _ _=>rfl;rw[this];exact JF.le hw h2
mutual
def Mo:Nd->Prop
 |⟨_,_,_,_,ks,d⟩=>d=tt/\qR ks
def qR:List Nd->Prop
 | []=>True
 |n::l=>Mo n/\qR l
end
def Qo(n:Nd):Mo n=(n.cond=tt/\qR n.kids):=by cases n;simp only[Mo]
def Dr:∀{l:List Nd},qR l->∀n∈l,n.cond=tt/\qR n.kids
 |m::l,h,n,hn=>by
  unfold qR at h;rcases List.mem_cons.1 hn with rfl|hn
  ·rw[<-Qo];exact h.1
  ·exact Dr h.2 n hn
mutual
theorem Sc(c:bP):∀(n m:Nd),pN c n=some m->Mo m
 |⟨k,t,o,s,ks,d⟩,m,h=>by
  unfold pN at h
  split at h
  ·cases h
   unfold Mo
   exact⟨rfl,Br c ks⟩
  ·cases h
theorem Br (c:bP):∀l:List Nd,qR (pL c l)
 | []=>by unfold pL qR;trivial
 |n::l=>by
  unfold pL
  cases h:pN c n with
  |none=>exact Br c l
  |some m=>simp only;unfold qR;exact⟨Sc c n m h,Br c l⟩
end
def RF{w:Value}{J I:PH}{d:Nat}(hJ:J.le I)(ih:∀{v:Value} {l:List Nd},qR l->Sl (jK w d) I v l->Sl (m6 (W1 w J) d) I v l):∀{l:List Nd} {xs:List Value},qR l->LR (jK w (d+1) I) xs l->LR (m6 (W1 w J) (d+1) I) xs l
 | [],xs,_,h=>h
 |n::l,xs,he,⟨c',ys,e4,⟨vk,e5,hk⟩,e6⟩=>by
  have hn:=Dr he n (.head _);have aa:qR l:=by unfold qR at he;exact he.2
  exact⟨c',ys,e4,⟨vk,w,e5,⟨rfl,hJ,hn.1⟩,ih hn.2 hk⟩,RF hJ ih aa e6⟩
def Mt{w:Value}{J:PH}:∀(d:Nat) {I:PH} {v:Value} {l:List Nd},J.le I->qR l->Sl (jK w d) I v l->Sl (m6 (W1 w J) d) I v l
 |0,I,v,l,hJ,he,h=>h.monoR fun _ _ h=>h
 |d+1,I,v,l,hJ,he,h=>by
  obtain⟨a,c,e,h⟩:=h;exact⟨a,c,e,h.imp id fun⟨b,off,xs,e1,e2,e3⟩=>⟨b,off,xs,e1,e2,RF hJ (fun he h=>Mt d hJ he h) he e3⟩⟩
open Go Go.Sx Dg Syn
def Fo{W:PH->Value->T->Prop}(hW:WY W u){J:PH}{cx cy:List Value}{n:Nd}{d:Nat}(hz:du n.kids<=aN)(hx:bm J cx n)(hy:m6 W d J cy n):aK Tryz.prog 31 #[.agg cx.toArray,.agg cy.toArray,.int .u32 u] J [] fun r _ qs=>qs=[]/\r=.bool true:=by
 intro hd;obtain⟨vk,xa,xk,rfl,ak,aj,_⟩:=hx.shape;cases d with
 |zero=>exact hy.elim
 |succ d=>
 obtain⟨wk,w,rfl,hw,ag⟩:=hy;obtain⟨ka,kc,rfl,_⟩:=id aj;obtain⟨la,lc,rfl,_⟩:=id ag;obtain⟨wa,wn,wc,rfl⟩:=hW.sh hw;refine ah 49 Tryz.func31 fun w0=>?_
 try simp only[iv,sD,rD]
 apply RG;simp only[go_sem,iv,sD,rD,beq_self_eq_true];refine bV hd rfl KN (hW.al ak hw) fun v J2 qs an aa hq=>?_;obtain⟨rfl,rfl⟩:=hq;refine lY ?_;refine bV an rfl Lb (P9 hW (du n.kids+1) d (aba _) hz (eE.le aj aa) (Sl.le (R:=m6 W d) (fun{I J c a} h k=>m6.le hW h k) ag aa)) fun v J3 qs am ac hq=>?_;obtain⟨rfl,rfl⟩:=hq;refine dP ?_;exact af rfl am (r:=[_]) rfl (abV aa ac) ⟨rfl,rfl⟩
theorem BW(hV:ir I):aK Tryz.prog 6 #[.string ⟨⟨s⟩⟩] I [] fun r I2 qs=>qs=[]/\r=.bool true:=by
 intro hd;refine ah 76 Tryz.func6 fun w0=>?_;cases bF:decide ((s.length:Int)>3000)
 rotate_left
 ·apply RG;simp only[go_sem,bi,bF];refine bV hd rfl Nx (GQ hV) fun v I3 qs ao ag hq=>?_;obtain⟨rfl,rfl⟩:=hq;refine aT ?_;exact af rfl ao (r:=[_]) rfl ag ⟨rfl,rfl⟩
 have hl:s.length<2^40:=by have:=abN bF;omega
 apply RG;simp only[go_sem,bi,bF];refine bV hd rfl Gl (E1 hl hV) fun v I1 qs bx al hq=>?_;obtain⟨rfl,hq⟩:=hq;cases hx:wX s with
 |none=>
  rw[hx]at hq;obtain⟨rfl,cl⟩:=hq;have ci:(((qV s:Nat):Int) != 0)=true:=by simp;omega
  have cf:(((qV s:Nat):Int) == ((qV s:Nat):Int))=true:=beq_self_eq_true _;apply RG;simp only[go_sem,uY,iv];refine bV bx rfl x8 (yY hl) fun v I2 qs a3 aj am=>?_;unfold x0 at am;rw[hx]at am;obtain⟨rfl,rfl⟩:=am;apply RG;simp only[go_sem,uY,iv,ci,cf];refine bV a3 rfl Nx (GQ (hV.le (abV al aj))) fun v I3 qs ao ag hq=>?_;obtain⟨rfl,rfl⟩:=hq;refine aT ?_;exact af rfl ao (r:=[_]) rfl (abV al (abV aj ag)) ⟨rfl,rfl⟩
 |some l=>
  rw[hx]at hq;obtain⟨cp,r,hB,hv⟩:=hq;obtain⟨b3,b2,_⟩:=Is hl hx;obtain⟨m,q,hq,f1,f2,f3,f4,f5,f6⟩:=hB.q (ch 0);by_cases hp:q.p=some l.length
  ·have b6:q.e=[]:=by
    apply Classical.byContradiction;intro h;rw[f4.2 h]at hp;cases hp
   obtain⟨hg,nd,ba,_⟩:=hB.g (by rw[f2,hp];exact List.cons_ne_nil _ _);have a9:tO l.length r=true:=by unfold tO;rw[abU (f1.2 b6),abU (by rw[f2,hp];rfl),abU (by rw[ba];rfl)];rfl
   rw[aaq a9]at hv;obtain⟨nd',cs,a4,rfl,b4⟩:=hv;obtain rfl:nd'=nd:=by rw[a4]at ba;exact(List.cons.inj ba).1
   obtain⟨vk,na,nk,rfl,cj,ca,cm⟩:=id b4.shape;obtain⟨ya,yc,rfl,_⟩:=id ca;refine lY ?_;refine bV bx rfl x8 (yY hl) fun v I2 qs a3 aj am=>?_;unfold x0 at am;rw[hx]at am;obtain⟨A,va,rfl,rfl,hA⟩:=am;obtain⟨aa,ac,rfl⟩:=hA.shape;refine bf a3 [0] fun ao=>?_;refine ae ao fun I3 ao ag bC=>?_;have hS:Sl DT I3 (.slice aa (l.map cY).length ac) (l.map cY):=abX (R:=DT) (fun{I J c a} h k=>h) hA ag bC;refine lY ?_;refine bV ao rfl EO (uf (u:=1) bg bg) fun v I4 qs bs ak a7=>?_;obtain⟨rfl,hm⟩:=a7;obtain⟨ma,mc,rfl,_⟩:=id hm;refine lY ?_;refine bV bs rfl DQ (zx (Sl.le (R:=DT) (fun{I J c a} h k=>h) hS ak) b3 b2 hq f5) fun v I5 qs bd an aq=>?_;obtain⟨rfl,aq,_⟩:=aq;obtain⟨n,wk,b1,rfl,b0⟩:=aq hp;obtain rfl:n=nd':=by rw[f3,b1]at a4;exact(List.cons.inj a4).1
   have a2:=Br (ch 0) r.l;rw[f6,b1]at a2;obtain⟨cd,cb⟩:=Dr a2 n (.head _);have bb:∃d,Sl (jK (.slice ma (eY 1 32).length mc) d) I5 wk n.kids:=by
    obtain⟨a,b,e,h⟩:=id b0;rcases h with h|⟨b',off,xs,e1,e2,e3⟩
    ·exact⟨0,a,b,e,.inl h⟩
    ·obtain⟨d,h4⟩:=LR.depthR e3;exact⟨d,a,b,e,.inr ⟨b',off,xs,e1,e2,h4⟩⟩
   obtain⟨d,bb⟩:=bb;obtain⟨xa,xc,rfl,_⟩:=id b0;have b8:m6 (W1 (.slice ma (eY 1 32).length mc) I5) (d+1) I5 [.int .u8 n.kind,.string ⟨⟨n.text⟩⟩,.int .i64 n.tok,.int .i64 n.slot,.slice xa n.kids.length xc,.slice ma (eY 1 32).length mc] n:=⟨_,_,rfl,⟨rfl,abW _,cd⟩,Mt d (abW _) cb bb⟩;have b5:du n.kids<=aN:=by have:=hB.s;rw[a4]at this;simp only[du,SZ]at this;omega
   have a5:=abV aj (abV ag (abV ak an));apply RG;simp only[go_sem,iv,sD,rD,cG];refine bV bd rfl Sm (Fo (UK (w:=.slice ma (eY 1 32).length mc) (J:=I5) (JF.le hm an)) b5 (b4.le a5) b8) fun v I6 qs cc a1 b7=>?_;obtain⟨rfl,rfl⟩:=b7;refine dP ?_;refine bV cc rfl Nx (GQ (hV.le (abV al (abV a5 a1)))) fun v I7 qs bc aS hq=>?_;obtain⟨rfl,rfl⟩:=hq;refine aT ?_;exact af rfl bc (r:=[_]) rfl (abV al (abV a5 (abV a1 aS))) ⟨rfl,rfl⟩
  ·have a9:tO l.length r=false:=by
    cases hc:tO l.length r with
    |false=>rfl
    |true=>
     exfalso;unfold tO at hc;simp only[aao,aaC]at hc;have h2:=hc.1.2;rw[f2]at h2;cases a6:q.p with
     |none=>rw[a6]at h2;cases h2
     |some j=>rw[a6]at h2;simp at h2;exact hp (by rw[a6,h2])
   rw[ZV (by rw[a9];decide)]at hv;subst hv;apply RG;simp only[go_sem,iv,uY];refine bV bx rfl x8 (yY hl) fun v I2 qs a3 aj am=>?_;unfold x0 at am;rw[hx]at am;obtain⟨A,va,rfl,rfl,hA⟩:=am;obtain⟨aa,ac,rfl⟩:=hA.shape;refine bf a3 [0] fun ao=>?_;refine ae ao fun I3 ao ag bC=>?_;have hS:Sl DT I3 (.slice aa (l.map cY).length ac) (l.map cY):=abX (R:=DT) (fun{I J c a} h k=>h) hA ag bC;apply RG;simp only[go_sem,iv,uY];refine bV ao rfl EO (uf (u:=1) bg bg) fun v I4 qs bs ak a7=>?_;obtain⟨rfl,hm⟩:=a7;obtain⟨ma,mc,rfl,_⟩:=id hm;apply RG;simp only[go_sem,iv,uY];refine bV bs rfl DQ (zx (Sl.le (R:=DT) (fun{I J c a} h k=>h) hS ak) b3 b2 hq f5) fun v I5 qs bd an aq=>?_;obtain⟨rfl,_,aq⟩:=aq;obtain rfl:=aq hp;apply RG;simp only[go_sem,iv,uY,yK];refine bV bd rfl Nx (GQ (hV.le (abV al (abV aj (abV ag (abV ak an)))))) fun v I7 qs bc aS hq=>?_;obtain⟨rfl,rfl⟩:=hq;refine aT ?_;exact af rfl bc (r:=[_]) rfl (abV al (abV aj (abV ag (abV ak (abV an aS))))) ⟨rfl,rfl⟩
open Go.ChangeShapes (trodAll_one trodAll_two trodAll_three trodVars_none trodAll_mk1 trodAll_mk2 trodAll_mk3 trod_struct2)
open Go.RowKit (shut_bool)
def yT(W:World):PH:=fun b=>W.heap[b]?
theorem aK.calls{P:Program}{f:FuncId}{args:Array Value}{W:World}(h:aK P f args (yT W) [] fun r I2 qs=>qs=[]/\r=v):
  Calls P f args W fun e W'=>e=.returned v/\RowKit.Below W.heap.size W W':=by
 have hd:Dj [yT W]:=aaW _ _;have e0:U [yT W]=yT W:=PH.uni_no _;refine(h hd W (by rw[e0];exact fun b o hb=>hb)).mono fun e w2 he=>?_;cases e with
 |returned r=>
  obtain⟨H2,st,I2,qs,e1,_,ac,rfl,rfl⟩:=he;subst e1;refine⟨rfl,⟨st.os,st.tape,st.out,st.size,fun k hk=>?_⟩⟩;have aa:yT W k=some W.heap[k]:=aab hk;have:=st.sub k _ (PH.le_uni I2 _ k _ (ac k _ aa));rw[this];exact aa.symm
 |outgrown=>exact he.elim
 |panicked c=>exact he.elim
section
variable {H:Type} {enc:TypeId×Value->H} {W:World}
instance:Inhabited It:=⟨⟨0,[],[]⟩⟩
end
open Go Go.Sx Dg Syn
open Go.ChangeShapes (trodAll_one trodVars_none trodAll_mk1)
open Go.RowKit (shut_bool)
def qy{W:World}{n:String}{g:Nat}{cs:Array Value}(hg:Tryz.prog.globalNamed n=some g)(h:W.var? Tryz.prog n=some cs):∃ty fz,W.heap[g]?=some (.cells cs ty fz):=by
 unfold World.var? at h;rw[hg]at h;simp only[jO]at h;cases hb:W.heap[g]? with
 |none=>rw[hb]at h;cases h
 |some o=>
  rw[hb]at h;cases o with
  |cells c ty fz=>simp only[ZW]at h;subst h;exact⟨ty,fz,rfl⟩
  |_=>cases h
def Mv{H:Type}{enc:TypeId×Value->H}{W:World}{qg iW t n:Nat}{sp:Nat->Bool}{aa:Bool}{cs:List Value}{T:List bq}{p:List MemPlace}(ht:Tryz.prog.underlying t=some (.array n 9))(aj:Tryz.prog.cellsOf t=n)
  (h:DataW.trod enc Tryz.prog W qg sp aa iW t cs=some (.agg (T.map fun x=>.lit (.string x)),p)):cs=T.map fun x=>.string ⟨⟨x⟩⟩:=by
 obtain⟨xs,m,_,hx,hl,ak,ag⟩:=DataW.trod_array ht h;simp only[aaI,DataW.agg.injEq]at hx;obtain⟨hx,_⟩:=hx;rw[aj]at hl;have hT:T.length=n:=by
  have:=congrArg List.length hx;simp at this;omega
 apply List.ext_getElem?;intro i;rcases aaf i n with hi|hi
 ·have h1:=ag i hi;obtain⟨y,hy⟩:∃y,xs[i]?=some y:=⟨_,aak ab⟩;rw[EM,Nat.mul_one,hy]at h1;obtain⟨s,e1,e2,_⟩:=DataW.trod_string X5 h1;have h2:(xs.map (·.1))[i]?=some (.lit (.string s.data.toList)):=by rw[aai,hy,e2];rfl
  rw[<-hx,aai]at h2;obtain⟨x,ac⟩:∃x,T[i]?=some x:=⟨_,aak ab⟩;rw[ac]at h2;simp only[Z9,ZW,DataW.lit.injEq,Lit.string.injEq]at h2;have h3:cs[i]?=some (.string s):=by
   have:=congrArg (fun l:List Value=>l[0]?) e1;simpa[Z0,Z1]using this
  rw[h3,aai,ac,h2];rfl
 ·rw[aan ab,aan (by rw[aah];omega)]
theorem Wm:Tryz.prog.cellsOf 317=22:=by kernel_rfl
theorem Ys:Tryz.prog.globalNamed "motley/source.signs"=some 0:=by kernel_rfl
theorem Yv:Tryz.prog.globalNamed "strconv.ErrSyntax"=some 1:=by kernel_rfl
theorem Yy:Tryz.prog.globalNamed "strconv.ErrRange"=some 2:=by kernel_rfl
theorem ZC:(Tryz.prog.globals[0]?).map (·.type)=some 317:=by kernel_rfl
theorem YX:(Tryz.prog.globals[1]?).map (·.type)=some 284:=by kernel_rfl
theorem Zi:(Tryz.prog.globals[2]?).map (·.type)=some 284:=by kernel_rfl
theorem Y2:(Tryz.prog.globals[3]?).map (·.type)=some 406:=by kernel_rfl
theorem U5:Tryz.prog.underlying 406=some (.array 20 366):=by kernel_rfl
theorem US:Tryz.prog.underlying 366=some (.int .u64):=by kernel_rfl
theorem U7:Tryz.prog.cellsOf 366=1:=by kernel_rfl
theorem V0:Tryz.prog.cellsOf 406=20:=by kernel_rfl
def Py{W:World}(hL:laidMetH Tryz.prog Rows.syntaxExpressionRow.laid W):ir (yT W):=by
 rw[MakeChecks.laidMetH_plain _ _ _ (by kernel_rfl)]at hL;have r3:=Lib.laidMet.reads hL (.tail _ (.tail _ (.head _)));have r2:=Lib.laidMet.reads hL (.tail _ (.tail _ (.tail _ (.head _))));have r1:=Lib.laidMet.reads hL (.tail _ (.tail _ (.tail _ (.tail _ (.head _)))));have r0:=Lib.laidMet.reads hL (.tail _ (.tail _ (.tail _ (.tail _ (.tail _ (.head _))))));refine⟨?_,?_,?_,?_⟩
 ·obtain⟨g,t,cs,iW,p,hg,ht,hv,hd⟩:=r0;obtain rfl:=aaZ (Ys.symm.trans hg);obtain rfl:=aaZ (ZC.symm.trans ht);obtain⟨ty,fz,hb⟩:=qy Ys hv;have aa:=Mv (T:=f4) Rj Wm hd;refine⟨cs,ty,fz,hb,?_,?_⟩
  ·have:=congrArg List.length aa;simp only[hZ]at this;rw[this];simp[pQ]
  ·rw[aa1,aa];exact abG (by simp[pQ])
 ·obtain⟨g,t,cs,iW,p,hg,ht,hv,hd⟩:=r1;obtain rfl:=aaZ (Yv.symm.trans hg);obtain rfl:=aaZ (YX.symm.trans ht);obtain⟨ty,fz,hb⟩:=qy Yv hv;obtain⟨_,u,v,aa,_⟩:=iface_of_trod zN.choose_spec hd;exact⟨u,v,cs,ty,fz,hb,by have:=congrArg List.length aa;simp at this;simp[this],by simp[aa]⟩
 ·obtain⟨g,t,cs,iW,p,hg,ht,hv,hd⟩:=r2;obtain rfl:=aaZ (Yy.symm.trans hg);obtain rfl:=aaZ (Zi.symm.trans ht);obtain⟨ty,fz,hb⟩:=qy Yy hv;obtain⟨_,u,v,aa,_⟩:=iface_of_trod zN.choose_spec hd;exact⟨u,v,cs,ty,fz,hb,by have:=congrArg List.length aa;simp at this;simp[this],by simp[aa]⟩
 ·obtain⟨g,t,cs,iW,p,hg,ht,hv,hd⟩:=r3;obtain rfl:=aaZ (Mh.symm.trans hg);obtain rfl:=aaZ (Y2.symm.trans ht);obtain⟨ty,fz,hb⟩:=qy Mh hv;have aa:=Lib.cells_of_tab (zs:=Lib.pow10Tab) (k:=.u64) U5 US U7 V0 hd;refine⟨ty,fz,?_⟩;show W.heap[3]?=_;rw[hb,<-aa]
theorem U6:ownKnob Tryz.prog.godebug=none:=by kernel_rfl
def Kz(os:Os)(args:Array Value):laidMetH Tryz.prog Rows.syntaxExpressionRow.laid ((World.doorLaid Tryz.prog 67 os).forCall (fun _ _=>0) ⟨#[],args,[]⟩).memory:=
 (@laidMetH_of_parts3 _ _ _ 8 (laidMet_of_run' 8 (by kernel_rfl) (by kernel_rfl)) (by kernel_rfl) (by kernel_rfl))
def DG:Array Value:=#[.string ⟨⟨[]⟩⟩]
def Eg(os:Os){H:Type}(enc:TypeId×Value->H):
  (OpenSpec.ofChange Rows.syntaxExpressionSpec).preRow enc Tryz.prog Tryz.f6 Rows.syntaxExpressionRow.domain false Rows.syntaxExpressionRow.laid ((World.doorLaid Tryz.prog 67 os).forCall (fun _ _=>0) ⟨#[],DG,[]⟩).memory DG:=by
 have hw:(DataW.whole enc Tryz.prog ((World.doorLaid Tryz.prog 67 os).forCall (fun _ _=>0) ⟨#[],DG,[]⟩).memory Tryz.f6.params.toList (OpenSpec.ofChange Rows.syntaxExpressionSpec).vars false DG.toList 8).map (fun x=>(x.1,x.2.1)) =
   some ([.lit (.string [])],[]):=by kernel_rfl
 obtain⟨⟨x1,x2,x3⟩,hx,aa⟩:=Option.map_eq_some_iff.1 hw;simp only[aaI]at aa;obtain⟨rfl,rfl⟩:=aa;exact OpenSpec.preRow_of_cond 8 hx (by kernel_rfl) (fun k hk=>by cases hk) (by kernel_rfl) (Kz os _)
set_option maxRecDepth 100000 in
theorem xD(os:Os)(started:os.Started)(H:Type)(enc:TypeId×Value->H)(F:Stop.Interp):
  ReturnsInHanded {} Tryz.checked os 6 .any ((OpenSpec.ofChange Rows.syntaxExpressionSpec).preRow enc Tryz.prog Tryz.f6 Rows.syntaxExpressionRow.domain false Rows.syntaxExpressionRow.laid) (((OpenSpec.ofChange Rows.syntaxExpressionSpec).at F).post enc Tryz.prog Tryz.f6 false true false false):=by
 refine returnsInHanded_of_row (C:=Tryz.checked) (s:=OpenSpec.ofChange Rows.syntaxExpressionSpec) U6 started (by kernel_rfl) Tryz.func6
  (witness_row_atRef (enc:=enc) (C:=Tryz.checked) false (World.doorLaid Tryz.prog 67 os) DG rfl (by kernel_rfl) (by kernel_rfl) (by kernel_rfl) (Eg os enc)) ?_
 intro W qg args ds gs before aa hW _ ag _ hL _ _;have ac:∀(j:Nat) t v,Tryz.f6.params[j]?=some t->args[j]?=some v->Value.okWide Tryz.prog W .any qg t v:=aa;have aj:=hW;obtain⟨p,q,al,ak,rfl,_,_⟩:=hW;have hA:DataW.TrodAll enc Tryz.prog W 0 (fun _=>true) true Tryz.f6.params.toList args.toList ds p:=al;rw[Tryz.params6]at hA ac;obtain⟨v0,d0,rfl,rfl,h0⟩:=trodAll_one hA;obtain⟨rfl,rfl⟩:=trodVars_none ak;clear al ak aa;simp only[aa6]at aj;obtain⟨b,rfl,rfl,rfl,wb⟩:=Go.ChangeMaps.open_string X5 (ac 0 9 v0 rfl rfl) h0;have hV:=Py hL;have main:=BW (s:=b.data.toList) hV;refine(aK.calls main).mono ?_;rintro e W' ⟨rfl,bel⟩;have e1:((OpenSpec.ofChange Rows.syntaxExpressionSpec).at F).fn H ([.lit (.string b.data.toList)]++[])={ results:=[.lit (.bool true)],args:=[.lit (.string b.data.toList)] }:=rfl;refine⟨_,rfl,_,_,_,[],[],[],aj,?_,?_,?_,bel.frame _,fun h=>by cases h⟩
 ·rw[e1];exact trodAll_mk1 (shut_bool Tryz.underlying4 _)
 ·rw[e1];exact trodAll_mk1 (Go.ChangeMaps.shut_string X5 wb)
 ·rw[e1];rfl
end Go.Proofs.YtfaclfkpnmcmlaaGreatDoor
