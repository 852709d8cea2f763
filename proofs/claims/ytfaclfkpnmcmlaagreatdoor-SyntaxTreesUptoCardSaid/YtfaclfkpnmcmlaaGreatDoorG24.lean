import Derived.Test.YtfaclfkpnmcmlaaGreatDoorG10
import Derived.Test.YtfaclfkpnmcmlaaGreatDoorG18
import Derived.Test.YtfaclfkpnmcmlaaGreatDoorG21
import Derived.Test.YtfaclfkpnmcmlaaGreatDoorG22
import Derived.Test.YtfaclfkpnmcmlaaGreatDoorG23
set_option maxHeartbeats 8000000
set_option linter.all false
open Go.Proofs.Tryz
namespace Go.Proofs.YtfaclfkpnmcmlaaGreatDoor
open Go Go.Sx Dg Syn
def Cm:ay prog 111:=⟨_,func111,rfl,rfl⟩
def Gu{k s:Nat}{ru:Nat×List Nat}{z:Int}(a:z=(s:Int))(hr:(rl k)[s]?=some ru)(m:Nat)(H:PH):aJ prog 177 #[.int .u8 k,.int .i64 z,.int .u8 m] H fun v H2=>v=.bool (decide (m∈ru.2))/\H2=H:=by subst a;exact Oi hr m H
def VL{o:Int}{k:Nat}:((decide (o<0) != ((k:Int) == 1))=false/\¬o < -1)<->(-1<=o/\(o=-1<->k=1)):=by
 have e2:((k:Int) == 1)=decide (k=1):=by rw[Bool.eq_iff_iff,beq_iff_eq,cu];omega
 rw[e2];by_cases h1:o<0<;>by_cases h2:k=1<;>simp[h1,h2]<;>omega
variable{u:Nat}
def uD(a:u<2^32){s:T}(b:cQ u s):decide (((aF u s).length:Int)>0)=!decide (s=.lf false):=by
 have h:=sy a b;by_cases e:s=.lf false
 .rw[h.2 e,e];rfl
 .have h1:aF u s≠[]:=fun x=>e (h.1 x);have h2:=List.length_pos_iff.2 h1;rw[ar O,aS e];rfl
def xO(a:u<2^32){s:T}(b:cQ u s):(((aF u s).length:Int) == 0)=decide (s=.lf false):=by
 have h:=sy a b;by_cases e:s=.lf false
 .rw[h.2 e,e];rfl
 .have h1:aF u s≠[]:=fun x=>e (h.1 x);have h2:=List.length_pos_iff.2 h1;rw[beq_eq_false_iff_ne.2 O,aS e]
def po(b:List Value)(a:Value)(lev i:Nat):St:=⟨dn 175 [(1,.v a),(2,.v (E lev)),(3,.p 3 0),(6,.v (.bool false)),(7,.v (E i))],[⟨3,67,b⟩]⟩
def Qt(n:Nd)(a:PH)(i:Nat)(H:PH):Prop:=∃I,H=U [I]/\Dj [I]/\a.le I/\i<=n.kids.length/\∀j m,j<i->n.kids[j]?=some m->rK n j m/\VX FB n.cond m
def nD(a:List Value)(s:Nat):St:=⟨dn 175 [(3,.p 3 0),(6,.v (.bool false)),(9,.v (E s))],[⟨3,67,a⟩]⟩
def Qu(n:Nd)(a:PH)(s:Nat)(H:PH):Prop:=∃I,H=U [I]/\Dj [I]/\a.le I/\s<=(rl n.kind).length/\∀(i:Nat) r,i<s->(rl n.kind)[i]?=some r->r.1≠2->(∀j m,n.kids[j]?=some m->mZ n i j m)/\(r.1=0->cV n.kids i=n.cond)
def u4(a:List Value)(s:Nat)(x:Nat×Value):St:=⟨dn 175 [(3,.p 3 0),(6,.v (.bool false)),(9,.v (E s)),(10,.v x.2),(11,.v (E x.1))],[⟨3,67,a⟩]⟩
def Qv(u:Nat)(n:Nd)(s:Nat)(a:PH)(x:Nat×Value)(H:PH):Prop:=∃I,H=U [I]/\Dj [I]/\a.le I/\x.1<=n.kids.length/\aP u I x.2 (cV (n.kids.take x.1) s)/\∀j m,j<x.1->n.kids[j]?=some m->mZ n s j m
variable{w0:World}
def Wk(hu:u<2^32)(hp:bM u 32<=8){d:Nat}{n:Nd}(hz:aw n.kids<2^40){I:PH}{ka ia:Option Addr}{kc ic:Nat}{w:T}(hK:c7 u d I (.slice ka n.kids.length kc) n.kids)(hI:aP u I (.slice ia (aF u n.cond).length ic) n.cond)(a7:(1<=n.kind/\n.kind<=19)/\n6 FB n.kind n.text/\n.cond≠.lf false/\n.cond.and w.not=.lf false/\(-1<=n.tok/\(n.tok=-1<->n.kind=1))){I4:PH}(bc:Dj [I4])(ag:I.le I4)(hA:∀j m,j<n.kids.length->n.kids[j]?=some m->rK n j m/\VX FB n.cond m):
  RC ⟨prog,111,Tryz.f111,func111,U [I],w0,fun v H2=>∃I2 qs,H2=U (I2::qs)/\Dj (I2::qs)/\I.le I2/\qs=[]/\∃b:Bool,v=.bool b/\(b=true<->VX FB w n),none⟩ (.st ((pQ Tryz.f111 2).getD [])) (nD [.int .u8 n.kind,.string ⟨⟨n.text⟩⟩,.int .i64 n.tok,.int .i64 n.slot,.slice ka n.kids.length kc,.slice ia (aF u n.cond).length ic] 0) (U [I4]):=by
 obtain⟨⟨a0,aq⟩,a2,a4,aa,a3⟩:=a7;have hW:=js hu hp;have bo:=fJ n.kids;refine xf rfl ?_;refine bz (fun s=>(rl n.kind).length-s) (nD [.int .u8 n.kind,.string ⟨⟨n.text⟩⟩,.int .i64 n.tok,.int .i64 n.slot,.slice ka n.kids.length kc,.slice ia (aF u n.cond).length ic]) (Qu n I) 0 ae (by simp only[go_sem,ab,nD,E]) ⟨I4,rfl,bc,ag,bg _,fun i r h=>by omega⟩ ?_;rintro s H ⟨I5,rfl,W,D,hs,hB⟩ f;simp only[nD];refine av ?_;refine Xa rfl Ct (DY ⟨a0,aq⟩ _) ?_;rintro v H2⟨rfl,rfl⟩;have bd:=DE n.kind;rcases aB s (rl n.kind).length with q|ba
 rotate_left
 .have:s=(rl n.kind).length:=by omega
  subst this;have G:decide (((rl n.kind).length:Int)<((rl n.kind).length:Int))=false:=ai;refine aj G ?_;refine ao rfl W (r:=[_]) rfl D ⟨rfl,true,rfl,AG ((fD n).2 ⟨⟨⟨a0,aq⟩,a2,a4,aa,a3,fun j m Q=>(hA j m ?_ Q).1,fun i r hr h2=>(hB i r ?_ hr h2).1,fun i r hr h0=>(hB i r ?_ hr O).2 h0⟩,fun m hm=>?_⟩)⟩
  .exact(List.getElem?_eq_some_iff.1 Q).1
  .exact(List.getElem?_eq_some_iff.1 hr).1
  .exact(List.getElem?_eq_some_iff.1 hr).1
  .obtain⟨j,Q⟩:=List.getElem?_of_mem hm;exact(hA j m (List.getElem?_eq_some_iff.1 Q).1 Q).2
 have G:decide ((s:Int)<((rl n.kind).length:Int))=true:=ar O;have e2:=Z7 s;obtain⟨B,y⟩:∃B,(rl n.kind)[s]?=some B:=⟨_,aL q⟩;have a6:=(Ug y).1;have step:((B.1≠2->(∀j m,n.kids[j]?=some m->mZ n s j m)/\(B.1=0->cV n.kids s=n.cond))->∀(i:Nat) r,i<s+1->(rl n.kind)[i]?=some r->r.1≠2->(∀j m,n.kids[j]?=some m->mZ n i j m)/\(r.1=0->cV n.kids i=n.cond)):=fun h i r hi hr h2=>by
  rcases Nat.lt_or_eq_of_le (Nat.le_of_lt_succ hi)with h3|rfl
  .exact hB i r h3 hr h2
  .rw[y]at hr;cases hr;exact h h2
 refine aj G ?_;refine Xa rfl Pf (SF y _) ?_;rintro v H2⟨rfl,rfl⟩;by_cases L:B.1=2
 .have f129:decide (B.1=2)=true:=ar L;refine bW f129 e2 ?_;exact f (s+1) _ _ O ae (by simp only[go_sem,ab,nD,E]) ⟨I5,rfl,W,D,q,step fun h=>(h L).elim⟩
 have f129:decide (B.1=2)=false:=aS L;refine aj f129 ?_;refine bz (fun x=>n.kids.length-x.1) (u4 [.int .u8 n.kind,.string ⟨⟨n.text⟩⟩,.int .i64 n.tok,.int .i64 n.slot,.slice ka n.kids.length kc,.slice ia (aF u n.cond).length ic] s) (Qv u n s I) (0,.slice none 0 0) ae (by simp only[go_sem,ab,u4,E]) ⟨I5,rfl,W,D,bg _,wK u _,fun j m h=>by simp at h⟩ ?_;rintro⟨j,vs⟩ H ⟨I6,rfl,g,e,Q,P,hC⟩ p;simp only at Q P hC;simp only[u4];obtain⟨sa,sc,rfl,_⟩:=id P.2;rcases aB j n.kids.length with C|a9
 .have F:=Z5 j n.kids.length;have e3:=Z7 j;obtain⟨m,A⟩:∃m,n.kids[j]?=some m:=⟨_,aL C⟩;cases d with
  |zero=>obtain⟨b,off,cs,ev,X,k⟩:=Sl.load (R:=aU (aP u) 0) (fun{I} c a h=>aU.len (I:=I) c a h) (c7.le hu hp hK e) A;exact X.elim
  |succ d=>
  obtain⟨b,off,cs,ev,X,k⟩:=Sl.load (R:=aU (aP u) (d+1)) (fun{I} c a h=>aU.len (I:=I) c a h) (c7.le hu hp hK e) A;cases ev
  obtain⟨vkm,vim,rfl,S,bs⟩:=X;obtain⟨ima,imc,rfl,_⟩:=id S.2;have c3:=k.get (i:=3) rfl;have c5:=k.get (i:=5) rfl;have mH:mZ n s j m->∀Z x,Z<j+1->n.kids[Z]?=some x->mZ n s Z x:=fun h Z x a5 hx=>by
   rcases Nat.lt_or_eq_of_le (Nat.le_of_lt_succ a5)with h3|rfl
   .exact hC Z x h3 hx
   .rw[A]at hx;cases hx;exact h
  refine aj F ?_
  try refine⟨O,?_⟩
  refine Xb (l:=[.int .i64 m.slot]) rfl (cellsU g (.head _) (by simpa using c3)) (.inr ⟨dI,rfl⟩) ?_;by_cases z:m.slot=(s:Int)
  rotate_left
  .have K:(m.slot != (s:Int))=true:=iz z;refine bW K e3 ?_;exact p (j+1,.slice sa (aF u (cV (n.kids.take j) s)).length sc) _ _ bC ae (by simp only[go_sem,ab,u4,E]) ⟨I6,rfl,g,e,C,by simp only;rw[cw A,D0,ad z];exact P,mH fun h=>(z h).elim⟩
  have K:(m.slot != (s:Int))=false:=iU z;refine aj K ?_
  try refine⟨O,?_⟩
  refine Xb (l:=[.slice ima (aF u m.cond).length imc]) rfl (cellsU g (.head _) (by simpa using c5)) (.inr ⟨kO,rfl⟩) ?_;refine av ?_;refine dq g rfl pg (pB hp P S) ?_;rintro v7 I7 qs V o⟨rfl,am⟩;obtain⟨ma7,mc7,rfl,_⟩:=id am.2;have t:=uD hu am.1;by_cases M:(cV (n.kids.take j) s).and m.cond=.lf false
  rotate_left
  .rw[aS M]at t;apply RG;simp only[go_sem,E,t,cF];exact ao rfl V (r:=[_]) rfl (Y e o) ⟨rfl,false,rfl,cC fun h=>M (((fD n).1 h).1.2.2.2.2.2.2.1 s B y L j m A z)⟩
  rw[ar M]at t;apply RG;simp only[go_sem,E,t,bX]
  try refine⟨O,?_⟩
  refine Xb (l:=[.slice ima (aF u m.cond).length imc]) rfl (cellsU V (.head _) (by simpa using (k.le o).get (i:=5) rfl)) (.inr ⟨kO,rfl⟩) ?_;refine av ?_;refine dq V rfl uW (wP hp (P.le o) (S.le o)) ?_;rintro v8 I8 qs bb ac⟨rfl,al⟩;obtain⟨ma8,mc8,rfl,_⟩:=id al.2;refine aj e3 ?_;have esn:cV (n.kids.take (j+1)) s=(cV (n.kids.take j) s).or m.cond:=by rw[cw A,D0,ak z]
  exact p (j+1,.slice ma8 (aF u ((cV (n.kids.take j) s).or m.cond)).length mc8) _ _ bC ae (by simp only[go_sem,ab,u4,E]) ⟨I8,rfl,bb,Y e (Y o ac),C,by simp only;rw[esn];exact al,mH fun _=>M⟩
 .have:j=n.kids.length:=by omega
  subst this;have F:decide ((n.kids.length:Int)<(n.kids.length:Int))=false:=ai;rw[cB]at P |-;refine aj F ?_;refine Xa rfl Pg (SI y _) ?_;rintro v H2⟨rfl,rfl⟩;have N:∀j m,n.kids[j]?=some m->mZ n s j m:=fun j m h=>hC j m (List.getElem?_eq_some_iff.1 h).1 h;by_cases ap:B.1=1
  .have J:decide (B.1=1)=true:=ar ap;apply RG;simp only[go_sem,E,J,bX,e2];exact f (s+1) _ _ O ae (by simp only[go_sem,ab,nD,E]) ⟨I6,rfl,g,e,q,step fun _=>⟨N,fun h=>by omega⟩⟩
  have J:decide (B.1=1)=false:=aS ap;apply RG;simp only[go_sem,E,J,cF];refine Xa rfl GU (Jg (dh.le P.2 (eP g)) (dh.le (hI.le e).2 (eP g)) (jy (zx hp _) O)) ?_;rintro v H2⟨⟨b,rfl,hb⟩,rfl⟩;have a1:b=true<->cV n.kids s=n.cond:=by rw[hb,BD hu P.1 hI.1]
  cases b with
  |false=>apply RG;simp only[go_sem,E,cF];exact ao rfl g (r:=[_]) rfl e ⟨rfl,false,rfl,cC fun h=>by have h2:=a1.2 (((fD n).1 h).1.2.2.2.2.2.2.2 s B y O);cases h2⟩
  |true=>apply RG;simp only[go_sem,E,bX,e2];exact f (s+1) _ _ O ae (by simp only[go_sem,ab,nD,E]) ⟨I6,rfl,g,e,q,step fun _=>⟨N,fun _=>a1.1 rfl⟩⟩
def Wj(hu:u<2^32)(hp:bM u 32<=8){d:Nat}{n:Nd}(hz:aw n.kids<2^40){I:PH}{ka ia:Option Addr}{kc ic:Nat}{w:T}(hK:c7 u d I (.slice ka n.kids.length kc) n.kids)(hI:aP u I (.slice ia (aF u n.cond).length ic) n.cond)(bs:∀m∈n.kids,nf oL m){lev:Nat}(b1:lev+mo n<=16385){wa:Option Addr}{wc:Nat}(bo:(1<=n.kind/\n.kind<=19)/\n6 FB n.kind n.text/\n.cond≠.lf false/\n.cond.and w.not=.lf false/\(-1<=n.tok/\(n.tok=-1<->n.kind=1)))
  (ih:∀{J:PH} {m:Nd} {vk vi:Value},m∈n.kids->I.le J->c7 u (d-1) J vk m.kids->aP u J vi m.cond->aI prog 111 #[.agg #[.int .u8 m.kind,.string ⟨⟨m.text⟩⟩,.int .i64 m.tok,.int .i64 m.slot,vk,vi],.slice ia (aF u n.cond).length ic,E (lev+1)] J [] fun r I2 qs=>qs=[]/\∃b:Bool,r=.bool b/\(b=true<->VX FB n.cond m)) {I3:PH} (b5:Dj [I3]) (k3:I.le I3) :
  RC ⟨prog,111,Tryz.f111,func111,U [I],w0,fun v H2=>∃I2 qs,H2=U (I2::qs)/\Dj (I2::qs)/\I.le I2/\qs=[]/\∃b:Bool,v=.bool b/\(b=true<->VX FB w n),none⟩ (.st ((pQ Tryz.f111 0).getD [])) (po [.int .u8 n.kind,.string ⟨⟨n.text⟩⟩,.int .i64 n.tok,.int .i64 n.slot,.slice ka n.kids.length kc,.slice ia (aF u n.cond).length ic] (.slice wa (aF u w).length wc) lev 0) (U [I3]):=by
 have a2:=bo;obtain⟨⟨bb,ba⟩,b7,ca,bx,b8⟩:=bo;have hW:=js hu hp;have cb:=fJ n.kids;have ci:=nx n;refine xf rfl ?_;refine bz (fun i=>n.kids.length-i) (po [.int .u8 n.kind,.string ⟨⟨n.text⟩⟩,.int .i64 n.tok,.int .i64 n.slot,.slice ka n.kids.length kc,.slice ia (aF u n.cond).length ic] (.slice wa (aF u w).length wc) lev) (Qt n I) 0 ae (by simp only[go_sem,ab,po,E]) ⟨I3,rfl,b5,k3,bg _,fun j m h=>by omega⟩ ?_;rintro i H ⟨I4,rfl,F,f,hi,hA⟩ M;simp only[po];rcases aB i n.kids.length with a1|cc
 .have a6:=Z5 i n.kids.length;have e1:=Z7 i;have elev:=Z7 lev;obtain⟨m,D⟩:∃m,n.kids[i]?=some m:=⟨_,aL a1⟩;have N:=cH D;have t:VX FB w n->rK n i m:=fun h=>((fD n).1 h).1.2.2.2.2.2.1 i m D;have cf:=kS N;have b6:=iK N;cases d with
  |zero=>obtain⟨b,off,cs,rfl,a5,X⟩:=Sl.load (R:=aU (aP u) 0) (fun{I} c a h=>aU.len (I:=I) c a h) (c7.le hu hp hK f) D;exact a5.elim
  |succ d=>
  obtain⟨b,off,cs,ev,a5,X⟩:=Sl.load (R:=aU (aP u) (d+1)) (fun{I} c a h=>aU.len (I:=I) c a h) (c7.le hu hp hK f) D;cases ev
  obtain⟨vkm,vim,rfl,bd,a9⟩:=a5;obtain⟨kma,kmc,rfl,_⟩:=id a9;obtain⟨ima,imc,rfl,_⟩:=id bd.2;have G {J:PH} (hJ:I4.le J):=ih (J:=J) N (Y f hJ) (c7.le hu hp a9 hJ) (bd.le hJ);refine aj a6 ?_
  try refine⟨O,?_⟩
  refine Xb (l:=[.int .u8 m.kind,.string ⟨⟨m.text⟩⟩,.int .i64 m.tok,.int .i64 m.slot,.slice kma m.kids.length kmc,.slice ima (aF u m.cond).length imc]) (v:=.agg #[.int .u8 m.kind,.string ⟨⟨m.text⟩⟩,.int .i64 m.tok,.int .i64 m.slot,.slice kma m.kids.length kmc,.slice ima (aF u m.cond).length imc]) rfl (cellsU F (.head _) X) (.inl ⟨jK,rfl⟩) ?_;refine av ?_;refine aV [0,1,2,3,4,5,6,7,8,9,10,11,12,13,14,15,16,17,18,19,20,21,22,23,24,25,26,27,28,29,30,31,32,33,34,35,36,37,38,39,40,41,42,43,44] [8] [] ?_;rcases g9 i with h0|h0
  .have f75:decide ((i:Int)>0)=false:=aS O;by_cases L:m.slot<0
   .have A:decide (m.slot<0)=true:=ar L;refine eS f75 A ?_;apply an;refine af ?_;exact ao rfl F (r:=[_]) rfl (Y f (ax _)) ⟨rfl,false,rfl,cC fun h=>by obtain⟨⟨s,e,_⟩,_⟩:=t h;omega⟩
   have A:decide (m.slot<0)=false:=aS L;obtain⟨s,hs⟩:∃s:Nat,m.slot=(s:Int):=⟨m.slot.toNat,O⟩;refine eS f75 A ?_;refine cP F rfl Ct (aJ.keep (DY ⟨bb,ba⟩ _)) ?_;rintro va Ia qs W q⟨rfl,rfl⟩;by_cases al:s<(rl n.kind).length
   rotate_left
   .have z:decide (m.slot>=((rl n.kind).length:Int))=true:=ar O;refine aM z ?_;apply an;refine af ?_;exact ao rfl W (r:=[_]) rfl (Y f (Y (ax _) q)) ⟨rfl,false,rfl,cC fun h=>by obtain⟨⟨s2,e,r,hr,_⟩,_⟩:=t h;have h2:=(List.getElem?_eq_some_iff.1 hr).1;omega⟩
   have z:decide (m.slot>=((rl n.kind).length:Int))=false:=aS O;obtain⟨C,y⟩:∃C,(rl n.kind)[s]?=some C:=⟨_,aL al⟩;refine aM z ?_;refine cP W rfl GV (aJ.keep (Gu hs y m.kind _)) ?_;rintro vb Ib qs V Q⟨rfl,rfl⟩;have kb:=Y (ax _) (Y q Q);by_cases o:m.kind∈C.2
   rotate_left
   .have g:decide (m.kind∈C.2)=false:=aS o;refine aM g ?_;apply an;refine af ?_;exact ao rfl V (r:=[_]) rfl (Y f kb) ⟨rfl,false,rfl,cC fun h=>by obtain⟨⟨s2,e,r,hr,h3⟩,_⟩:=t h;rw[show s2=s from O,y]at hr;cases hr;exact o h3⟩
   have g:decide (m.kind∈C.2)=true:=ar o;refine eS g elev ?_;refine cP V rfl Cm (G kb) ?_;rintro vc Ic qs S P⟨rfl,bc,rfl,Z⟩;have K:=Y f (Y kb P);cases bc with
   |false=>refine aC ?_;apply an;refine af ?_;exact ao rfl S (r:=[_]) rfl K ⟨rfl,false,rfl,cC fun h=>by have h2:=Z.2 (((fD n).1 h).2 m N);cases h2⟩
   |true=>
    refine aC ?_;apply an;refine aj e1 ?_;refine M (i+1) _ _ O ae (by simp only[go_sem,ab,po,E]) ⟨Ic,rfl,S,K,a1,fun j x hj hx=>?_⟩;rcases Nat.lt_or_eq_of_le (Nat.le_of_lt_succ hj)with h|rfl
    .exact hA j x h hx
    .rw[D]at hx;cases hx;exact⟨⟨⟨s,hs,C,y,o⟩,fun _ h _=>by omega⟩,Z.1 rfl⟩
  .have f75:decide ((i:Int)>0)=true:=ar O;obtain⟨j,hj⟩:∃j,i=j+1:=⟨i-1,O⟩;have ej:IntKind.i64.wrap ((i:Int)-1)=(j:Int):=by rw[show (i:Int)-1=(j:Int) by omega];exact wrap64 O
   obtain⟨k,a0⟩:∃k,n.kids[j]?=some k:=⟨_,aL O⟩;obtain⟨b2,off2,cs2,ev2,a4,aa⟩:=Sl.load (R:=aU (aP u) (d+1)) (fun{I} c a h=>aU.len (I:=I) c a h) (c7.le hu hp hK f) a0;cases ev2
   obtain⟨vkp,vip,rfl,b4,b3⟩:=a4;obtain⟨kpa,kpc,rfl,_⟩:=id b3;obtain⟨ipa,ipc,rfl,_⟩:=id b4.2;refine eS f75 ej ?_
   try refine⟨O,?_⟩
   refine Xc (l:=[.int .u8 k.kind,.string ⟨⟨k.text⟩⟩,.int .i64 k.tok,.int .i64 k.slot,.slice kpa k.kids.length kpc,.slice ipa (aF u k.cond).length ipc]) (v:=.agg #[.int .u8 k.kind,.string ⟨⟨k.text⟩⟩,.int .i64 k.tok,.int .i64 k.slot,.slice kpa k.kids.length kpc,.slice ipa (aF u k.cond).length ipc]) rfl (cellsU F (.head _) aa) (.inl ⟨jK,rfl⟩) ?_;refine aC ?_;refine cP F rfl Cs (aJ.keep (Dr k.key m.key _ _ _ _ _ _ _ _ _ _ _ _ _)) ?_;rintro vo Io qs a3 B⟨rfl,rfl⟩;have ag:(decide (fT k.key m.key>=0)=false)<->dE k.key m.key=true:=by rw[<-vm,cu,pZ];omega
   have ac:∀p,0<i->n.kids[i-1]?=some p->p=k:=fun p _ a7=>by rw[show i-1=j by omega,a0]at a7;exact(df a7).symm
   cases f111:decide (fT k.key m.key>=0)
   rotate_left
   .skip
    refine aM f111 ?_;apply an;refine af ?_;exact ao rfl a3 (r:=[_]) rfl (Y f B) ⟨rfl,false,rfl,cC fun h=>by rw[ag.2 ((t h).2 k h0 (by rw[show i-1=j by omega];exact a0))]at f111;cases f111⟩
   by_cases L:m.slot<0
   .have A:decide (m.slot<0)=true:=ar L;refine eS f111 A ?_;apply an;refine af ?_;exact ao rfl a3 (r:=[_]) rfl (Y f B) ⟨rfl,false,rfl,cC fun h=>by obtain⟨⟨s,e,_⟩,_⟩:=t h;omega⟩
   have A:decide (m.slot<0)=false:=aS L;obtain⟨s,hs⟩:∃s:Nat,m.slot=(s:Int):=⟨m.slot.toNat,O⟩;refine eS f111 A ?_;refine cP a3 rfl Ct (aJ.keep (DY ⟨bb,ba⟩ _)) ?_;rintro va Ia qs W q⟨rfl,rfl⟩;by_cases al:s<(rl n.kind).length
   rotate_left
   .have z:decide (m.slot>=((rl n.kind).length:Int))=true:=ar O;refine aM z ?_;apply an;refine af ?_;exact ao rfl W (r:=[_]) rfl (Y f (Y B q)) ⟨rfl,false,rfl,cC fun h=>by obtain⟨⟨s2,e,r,hr,_⟩,_⟩:=t h;have h2:=(List.getElem?_eq_some_iff.1 hr).1;omega⟩
   have z:decide (m.slot>=((rl n.kind).length:Int))=false:=aS O;obtain⟨C,y⟩:∃C,(rl n.kind)[s]?=some C:=⟨_,aL al⟩;refine aM z ?_;refine cP W rfl GV (aJ.keep (Gu hs y m.kind _)) ?_;rintro vb Ib qs V Q⟨rfl,rfl⟩;have kb:=Y B (Y q Q);by_cases o:m.kind∈C.2
   rotate_left
   .have g:decide (m.kind∈C.2)=false:=aS o;refine aM g ?_;apply an;refine af ?_;exact ao rfl V (r:=[_]) rfl (Y f kb) ⟨rfl,false,rfl,cC fun h=>by obtain⟨⟨s2,e,r,hr,h3⟩,_⟩:=t h;rw[show s2=s from O,y]at hr;cases hr;exact o h3⟩
   have g:decide (m.kind∈C.2)=true:=ar o;refine eS g elev ?_;refine cP V rfl Cm (G kb) ?_;rintro vc Ic qs S P⟨rfl,bc,rfl,Z⟩;have K:=Y f (Y kb P);cases bc with
   |false=>refine aC ?_;apply an;refine af ?_;exact ao rfl S (r:=[_]) rfl K ⟨rfl,false,rfl,cC fun h=>by have h2:=Z.2 (((fD n).1 h).2 m N);cases h2⟩
   |true=>
    refine aC ?_;apply an;refine aj e1 ?_;refine M (i+1) _ _ O ae (by simp only[go_sem,ab,po,E]) ⟨Ic,rfl,S,K,a1,fun j x hj hx=>?_⟩;rcases Nat.lt_or_eq_of_le (Nat.le_of_lt_succ hj)with h|rfl
    .exact hA j x h hx
    .rw[D]at hx;cases hx;exact⟨⟨⟨s,hs,C,y,o⟩,fun p h2 h3=>by rw[ac p h2 h3];exact ag.1 f111⟩,Z.1 rfl⟩
 .have:i=n.kids.length:=by omega
  subst this;have a6:decide ((n.kids.length:Int)<(n.kids.length:Int))=false:=ai;refine aj a6 ?_;refine fd (σ':=nD [.int .u8 n.kind,.string ⟨⟨n.text⟩⟩,.int .i64 n.tok,.int .i64 n.slot,.slice ka n.kids.length kc,.slice ia (aF u n.cond).length ic] 0) ae (by simp only[go_sem,ab,nD,E]) ?_;exact xh rfl rfl (Wk hu hp hz hK hI a2 F f hA)
def Wi(Q:u<2^32)(hp:bM u 32<=8):∀(k d:Nat) {n:Nd},aw n.kids<k->aw n.kids<2^40->∀{I:PH} {vk vi vw:Value} {w:T} {lev:Nat},c7 u d I vk n.kids->aP u I vi n.cond->aP u I vw w->nf oL n->lev+mo n<=16385->
  aI prog 111 #[.agg #[.int .u8 n.kind,.string ⟨⟨n.text⟩⟩,.int .i64 n.tok,.int .i64 n.slot,vk,vi],vw,E lev] I [] fun r I2 qs=>qs=[]/\∃b:Bool,r=.bool b/\(b=true<->VX FB w n):=by
 have hW:=js Q hp;intro k
 induction k with
 |zero=>intro d n h;omega
 |succ k ih=>
 intro d n hk hz I vk vi vw w lev W t C R L hd;obtain⟨H,l⟩:=(EH n).1 R;obtain⟨ka,kc,rfl,_⟩:=id W;obtain⟨ia,ic,rfl,_⟩:=id t.2;obtain⟨Z,X,rfl,_⟩:=id C.2;have aa:=fJ n.kids;have ac:=nx n;refine aG 175 func111 fun w0=>?_;have G:decide ((lev:Int)>16384)=false:=aS O;refine av ?_;refine aV [0,1,2,3,4,5,6,7,8,9,10,11,12,13,14,15,16,17,18,19,20,21,22,23,24,25,26,27,28,29,31,32,30,33,34,35,36,37,38,39,40,41,42,43,44,45,46,47,48,49] [43] [] ?_;by_cases A:1<=n.kind
 rotate_left
 .have j:decide ((n.kind:Int)<1)=true:=ar O;refine eS G j ?_;apply an;refine af ?_;exact ao rfl hd (r:=[_]) rfl (ax _) ⟨rfl,false,rfl,cC fun h=>A ((fD n).1 h).1.1.1⟩
 have j:decide ((n.kind:Int)<1)=false:=aS O;by_cases z:n.kind<=19
 rotate_left
 .have F:decide ((n.kind:Int)>19)=true:=ar O;apply bp;simp only[go_sem,E,G,j,F];apply an;refine af ?_;exact ao rfl hd (r:=[_]) rfl (ax _) ⟨rfl,false,rfl,cC fun h=>z ((fD n).1 h).1.1.2⟩
 have F:decide ((n.kind:Int)>19)=false:=aS O;apply bp;simp only[go_sem,E,G,j,F];refine cP hd rfl Pe (W2 H ⟨A,z⟩) ?_;rintro v1 I1 qs B c⟨rfl,b1,rfl,P⟩;cases b1 with
 |false=>refine aC ?_;apply an;refine af ?_;exact ao rfl B (r:=[_]) rfl c ⟨rfl,false,rfl,cC fun h=>by have h2:=P.2 ((fD n).1 h).1.2.1;cases h2⟩
 |true=>
 have i:=xO Q t.1;by_cases f:n.cond=.lf false
 .rw[ar f]at i;refine aM i ?_;apply an;refine af ?_;exact ao rfl B (r:=[_]) rfl c ⟨rfl,false,rfl,cC fun h=>((fD n).1 h).1.2.2.1 f⟩
 rw[aS f]at i;refine aM i ?_;refine cP B rfl pg (pB hp (t.le c) (C.le c)) ?_;rintro v2 I2 qs U N⟨rfl,y⟩;obtain⟨ma,mc,rfl,_⟩:=id y.2;refine aC ?_;have k2:=Y c N;refine cP U rfl GU (aJ.keepE (Jg y.2 (t.le k2).2 (jy (zx hp _) O))) ?_;rintro v3 I3 qs g M⟨rfl,b2,rfl,V⟩;have k3:=Y k2 M;have s:b2=true<->n.cond.and w.not=.lf false:=by rw[V,BD Q y.1 t.1,L5 t.1.1 C.1.1]
 cases b2 with
 |false=>refine aC ?_;apply an;refine af ?_;exact ao rfl g (r:=[_]) rfl k3 ⟨rfl,false,rfl,cC fun h=>by have h2:=s.2 ((fD n).1 h).1.2.2.2.1;cases h2⟩
 |true=>
 obtain⟨p,x⟩:∃p,decide (n.tok<0)=p:=⟨_,rfl⟩;obtain⟨q,v⟩:∃q,((n.kind:Int) == 1)=q:=⟨_,rfl⟩;obtain⟨r,hr⟩:∃r,(p != q)=r:=⟨_,rfl⟩;have a:=VL (o:=n.tok) (k:=n.kind);rw[x,v,hr]at a;refine eS x v ?_;refine oF (.bool r) rfl rfl rfl rfl (fun w _=>by subst hr;clear a x v;cases p<;>cases q<;>kernel_rfl) ?_;cases r with
 |true=>refine aC ?_;apply an;refine af ?_;exact ao rfl g (r:=[_]) rfl k3 ⟨rfl,false,rfl,cC fun h=>by have h2:=(a.2 ((fD n).1 h).1.2.2.2.2.1).1;cases h2⟩
 |false=>
 by_cases e:n.tok < -1
 .have D:decide (n.tok < -1)=true:=ar e;refine aM D ?_;apply an;refine af ?_;exact ao rfl g (r:=[_]) rfl k3 ⟨rfl,false,rfl,cC fun h=>(a.2 ((fD n).1 h).1.2.2.2.2.1).2 e⟩
 have D:decide (n.tok < -1)=false:=aS e;have S:=a.1 ⟨rfl,e⟩;refine aM D ?_;apply an;refine av ?_;refine fd (σ':=po [.int .u8 n.kind,.string ⟨⟨n.text⟩⟩,.int .i64 n.tok,.int .i64 n.slot,.slice ka n.kids.length kc,.slice ia (aF u n.cond).length ic] (.slice Z (aF u w).length X) lev 0) ae (by simp only[go_sem,ab,po,E]) ?_;exact xh rfl rfl (Wj Q hp hz W t l L ⟨⟨A,z⟩,P.1 rfl,f,s.1 rfl,S⟩ (fun{J m vk vi} hm hJ h1 h2=>ih (d-1) (n:=m) (by have:=iK hm;omega) (by have:=iK hm;omega) h1 h2 (t.le hJ) (l m hm) (lev:=lev+1) (by have:=kS hm;omega)) g k3)
end Go.Proofs.YtfaclfkpnmcmlaaGreatDoor
namespace Syn
open Dg
def uJ:∀(k:Nat) (l:List Nd),aw l<k->eO l<=aw l
 |0,_,h=>by omega
 |_+1,[],_=>bg _
 |k+1,n::l,h=>by rw[eK]at h |-;have h1:=uJ k n.kids O;have h2:=uJ k l O;simp only[eO,nx];omega
end Syn
namespace Go.Proofs.YtfaclfkpnmcmlaaGreatDoor
open Go Go.Sx Dg Syn
def lC(a vd:Value)(b:List Value)(x:Nat×Value):St:=⟨dn 161 [(2,.p 2 0),(4,.v (.bool false)),(5,.v x.2),(7,.v (E x.1)),(8,.p 8 0)],[⟨2,41,[a,vd]⟩,⟨8,102,b⟩]⟩
def eB(a vd:Value)(c:List Value)(x:Nat×Value)(b:Bool):St:=⟨dn 161 [(2,.p 2 0),(4,.v (.bool false)),(5,.v x.2),(7,.v (E x.1)),(8,.p 8 0),(113,.v (.bool b))],[⟨2,41,[a,vd]⟩,⟨8,102,c⟩]⟩
variable{x:aN}{dc u:Nat}{da:Option Addr}{vk:Value}{I2 H0:PH}{t:Tr}{K:List Item}{rd:Option (Nat×(Option Code->PH->Prop))}{post:Value->PH->Prop}{w0:World}{fn:Func}{f:FuncId}
def Wq{hf:prog.funcs[f]?=some fn}
   (hu:u<2^32) (hp:bM u 32<=8)   (F:Dj [I2])  {xa w:Option Addr} {Z s i:Nat}  (hE:Sl (bB (aP u)) I2 (.slice da t.diags.length dc) t.diags) (al:t.diags.length<2^40) (hx:t.diags[i]?=some x) (P:aP u I2 (.slice xa (aF u x.cond).length Z) x.cond) (ac:aP u I2 (.slice w (aF u (dw (cM t.kids) (t.diags.take i))).length s) (dw (cM t.kids) (t.diags.take i)))
  (e:x.code=12)
  (N:∀(b:Bool) σ' H,(∃J,H=U [J]/\Dj [J]/\I2.le J/\(b=false->KD t i x)/\(b=true->¬KD t i x))->fj (eB vk (.slice da t.diags.length dc) [.int .u8 x.code,.int .i64 x.tok,.slice xa (aF u x.cond).length Z] (i,.slice w (aF u (dw (cM t.kids) (t.diags.take i))).length s) b).tm σ'.tm->gH (eB vk (.slice da t.diags.length dc) [.int .u8 x.code,.int .i64 x.tok,.slice xa (aF u x.cond).length Z] (i,.slice w (aF u (dw (cM t.kids) (t.diags.take i))).length s) b).bx σ'.bx->RC ⟨prog,f,fn,hf,H0,w0,post,rd⟩ (.st K) σ' H) :
  RC ⟨prog,f,fn,hf,H0,w0,post,rd⟩ (.st (.code ((nU f57 14).getD .skip)::K)) (lC vk (.slice da t.diags.length dc) [.int .u8 x.code,.int .i64 x.tok,.slice xa (aF u x.cond).length Z] (i,.slice w (aF u (dw (cM t.kids) (t.diags.take i))).length s)) (U [I2]):=by
 have ag:=(List.getElem?_eq_some_iff.1 hx).1;refine xj rfl ?_;simp only[lC];refine jI mixed [0,1,2,3,4,5,6,7,8,9,10,11,12,13,14,15,16,17,18,19,20,21,22,23,24,25,26,27,28,29,30,31,32,33,34,35,36,37,38,39,40,41,42,43,44,45,46] [41] [] (by as_aux_lemma=>kernel_rfl) rfl ?_;have o:10<=x.code/\x.code<=12:=O;have G:((x.code:Int) != 12)=false:=iU O;have M:True:=trivial;have L:True:=trivial;by_cases Q:x.tok<0
 .have B:decide (x.tok<0)=true:=ar Q;refine eM G M L B ?_;apply an;exact N true _ _ ⟨_,rfl,F,(ax _),fun h=>(by cases h),fun _ h=>by have:=h.2.1;omega⟩ ae (by simp only[go_sem,ab,eB,E])
 have B:decide (x.tok<0)=false:=aS Q;have A:=xO hu P.1;by_cases m:x.cond=.lf false
 .rw[ar m]at A;apply bp;simp only[go_sem,E,G,M,L,B,A];apply an;exact N true _ _ ⟨_,rfl,F,(ax _),fun h=>(by cases h),fun _ h=>h.2.2.1 m⟩ ae (by simp only[go_sem,ab,eB,E])
 rw[aS m]at A;apply bp;simp only[go_sem,E,G,M,L,B,A];refine cP F rfl pg (pB hp ac P) ?_;rintro v3 I3 qs y d⟨rfl,V⟩;obtain⟨ma,mc,rfl,_⟩:=id V.2;have q:=uD hu V.1;by_cases n:(dw (cM t.kids) (t.diags.take i)).and x.cond=.lf false
 rotate_left
 .rw[aS n]at q;apply bp;simp only[go_sem,E,q,cF];apply an;exact N true _ _ ⟨_,rfl,y,d,fun h=>(by cases h),fun _ h=>n h.2.2.2.1⟩ ae (by simp only[go_sem,ab,eB,E])
 rw[ar n]at q;rcases g9 i with h0|h0
 .have r:decide ((i:Int)>0)=false:=aS O;apply bp;simp only[go_sem,E,q,r,bX];apply an;exact N false _ _ ⟨I3,rfl,y,d,fun _=>⟨o,O,m,n,fun _ h _=>by omega⟩,fun h=>(by cases h)⟩ ae (by simp only[go_sem,ab,eB,E])
 have r:decide ((i:Int)>0)=true:=ar O;obtain⟨j,hj⟩:∃j,i=j+1:=⟨i-1,O⟩;have ej:IntKind.i64.wrap ((i:Int)-1)=(j:Int):=by rw[show (i:Int)-1=(j:Int) by omega];exact wrap64 O
 obtain⟨g,D⟩:∃g,t.diags[j]?=some g:=⟨_,aL O⟩;obtain⟨b2,off2,cs2,ev2,X,z⟩:=Sl.load (R:=bB (aP u)) (fun{I} c a h=>bB.len (I:=I) c a h) (Sl.le (R:=bB (aP u)) (fun{I J c a} h k=>gn h k) hE d) D;cases ev2
 obtain⟨vp,rfl,aa⟩:=X;obtain⟨pa,pc,rfl,_⟩:=id aa.2;apply bp;simp only[go_sem,E,q,r,ej,bX]
 try refine⟨O,?_⟩
 refine Xc (l:=[.int .u8 g.code,.int .i64 g.tok,.slice pa (aF u g.cond).length pc]) (v:=.agg #[.int .u8 g.code,.int .i64 g.tok,.slice pa (aF u g.cond).length pc]) rfl (cellsU y (.head _) z) (.inl ⟨l6,rfl⟩) ?_;refine aC ?_;refine cP y rfl uV (aJ.keep (vM g x _ _ _ _ _ _ _)) ?_;rintro v4 I4 qs W C⟨rfl,rfl⟩;by_cases T:eV g x>=0
 .have f111:decide (eV g x>=0)=true:=ar T;refine aM f111 ?_;apply an;exact N true _ _ ⟨_,rfl,W,(Y d C),fun h=>(by cases h),fun _ h=>by have:=h.2.2.2.2 g h0 (by rw[show i-1=j by omega];exact D);omega⟩ ae (by simp only[go_sem,ab,eB,E])
 have f111:decide (eV g x>=0)=false:=aS T;refine aM f111 ?_;apply an;exact N false _ _ ⟨I4,rfl,W,Y d C,fun _=>⟨o,O,m,n,fun p _ S=>by rw[show i-1=j by omega,D]at S;cases S;omega⟩,fun h=>(by cases h)⟩ ae (by simp only[go_sem,ab,eB,E])
def Wr{hf:prog.funcs[f]?=some fn}
   (hu:u<2^32) (hp:bM u 32<=8)   (F:Dj [I2])  {xa w:Option Addr} {Z s i:Nat}  (hE:Sl (bB (aP u)) I2 (.slice da t.diags.length dc) t.diags) (al:t.diags.length<2^40) (hx:t.diags[i]?=some x) (P:aP u I2 (.slice xa (aF u x.cond).length Z) x.cond) (ac:aP u I2 (.slice w (aF u (dw (cM t.kids) (t.diags.take i))).length s) (dw (cM t.kids) (t.diags.take i)))
  (e:x.code=10)
  (N:∀(b:Bool) σ' H,(∃J,H=U [J]/\Dj [J]/\I2.le J/\(b=false->KD t i x)/\(b=true->¬KD t i x))->fj (eB vk (.slice da t.diags.length dc) [.int .u8 x.code,.int .i64 x.tok,.slice xa (aF u x.cond).length Z] (i,.slice w (aF u (dw (cM t.kids) (t.diags.take i))).length s) b).tm σ'.tm->gH (eB vk (.slice da t.diags.length dc) [.int .u8 x.code,.int .i64 x.tok,.slice xa (aF u x.cond).length Z] (i,.slice w (aF u (dw (cM t.kids) (t.diags.take i))).length s) b).bx σ'.bx->RC ⟨prog,f,fn,hf,H0,w0,post,rd⟩ (.st K) σ' H) :
  RC ⟨prog,f,fn,hf,H0,w0,post,rd⟩ (.st (.code ((nU f57 14).getD .skip)::K)) (lC vk (.slice da t.diags.length dc) [.int .u8 x.code,.int .i64 x.tok,.slice xa (aF u x.cond).length Z] (i,.slice w (aF u (dw (cM t.kids) (t.diags.take i))).length s)) (U [I2]):=by
 have ag:=(List.getElem?_eq_some_iff.1 hx).1;refine xj rfl ?_;simp only[lC];refine jI mixed [0,1,2,3,4,5,6,7,8,9,10,11,12,13,14,15,16,17,18,19,20,21,22,23,24,25,26,27,28,29,30,31,32,33,34,35,36,37,38,39,40,41,42,43,44,45,46] [41] [] (by as_aux_lemma=>kernel_rfl) rfl ?_;have o:10<=x.code/\x.code<=12:=O;have G:((x.code:Int) != 12)=true:=iz O;have M:((x.code:Int) != 10)=false:=iU O;have L:True:=trivial;by_cases Q:x.tok<0
 .have B:decide (x.tok<0)=true:=ar Q;refine eM G M L B ?_;apply an;exact N true _ _ ⟨_,rfl,F,(ax _),fun h=>(by cases h),fun _ h=>by have:=h.2.1;omega⟩ ae (by simp only[go_sem,ab,eB,E])
 have B:decide (x.tok<0)=false:=aS Q;have A:=xO hu P.1;by_cases m:x.cond=.lf false
 .rw[ar m]at A;apply bp;simp only[go_sem,E,G,M,L,B,A];apply an;exact N true _ _ ⟨_,rfl,F,(ax _),fun h=>(by cases h),fun _ h=>h.2.2.1 m⟩ ae (by simp only[go_sem,ab,eB,E])
 rw[aS m]at A;apply bp;simp only[go_sem,E,G,M,L,B,A];refine cP F rfl pg (pB hp ac P) ?_;rintro v3 I3 qs y d⟨rfl,V⟩;obtain⟨ma,mc,rfl,_⟩:=id V.2;have q:=uD hu V.1;by_cases n:(dw (cM t.kids) (t.diags.take i)).and x.cond=.lf false
 rotate_left
 .rw[aS n]at q;apply bp;simp only[go_sem,E,q,cF];apply an;exact N true _ _ ⟨_,rfl,y,d,fun h=>(by cases h),fun _ h=>n h.2.2.2.1⟩ ae (by simp only[go_sem,ab,eB,E])
 rw[ar n]at q;rcases g9 i with h0|h0
 .have r:decide ((i:Int)>0)=false:=aS O;apply bp;simp only[go_sem,E,q,r,bX];apply an;exact N false _ _ ⟨I3,rfl,y,d,fun _=>⟨o,O,m,n,fun _ h _=>by omega⟩,fun h=>(by cases h)⟩ ae (by simp only[go_sem,ab,eB,E])
 have r:decide ((i:Int)>0)=true:=ar O;obtain⟨j,hj⟩:∃j,i=j+1:=⟨i-1,O⟩;have ej:IntKind.i64.wrap ((i:Int)-1)=(j:Int):=by rw[show (i:Int)-1=(j:Int) by omega];exact wrap64 O
 obtain⟨g,D⟩:∃g,t.diags[j]?=some g:=⟨_,aL O⟩;obtain⟨b2,off2,cs2,ev2,X,z⟩:=Sl.load (R:=bB (aP u)) (fun{I} c a h=>bB.len (I:=I) c a h) (Sl.le (R:=bB (aP u)) (fun{I J c a} h k=>gn h k) hE d) D;cases ev2
 obtain⟨vp,rfl,aa⟩:=X;obtain⟨pa,pc,rfl,_⟩:=id aa.2;apply bp;simp only[go_sem,E,q,r,ej,bX]
 try refine⟨O,?_⟩
 refine Xc (l:=[.int .u8 g.code,.int .i64 g.tok,.slice pa (aF u g.cond).length pc]) (v:=.agg #[.int .u8 g.code,.int .i64 g.tok,.slice pa (aF u g.cond).length pc]) rfl (cellsU y (.head _) z) (.inl ⟨l6,rfl⟩) ?_;refine aC ?_;refine cP y rfl uV (aJ.keep (vM g x _ _ _ _ _ _ _)) ?_;rintro v4 I4 qs W C⟨rfl,rfl⟩;by_cases T:eV g x>=0
 .have f111:decide (eV g x>=0)=true:=ar T;refine aM f111 ?_;apply an;exact N true _ _ ⟨_,rfl,W,(Y d C),fun h=>(by cases h),fun _ h=>by have:=h.2.2.2.2 g h0 (by rw[show i-1=j by omega];exact D);omega⟩ ae (by simp only[go_sem,ab,eB,E])
 have f111:decide (eV g x>=0)=false:=aS T;refine aM f111 ?_;apply an;exact N false _ _ ⟨I4,rfl,W,Y d C,fun _=>⟨o,O,m,n,fun p _ S=>by rw[show i-1=j by omega,D]at S;cases S;omega⟩,fun h=>(by cases h)⟩ ae (by simp only[go_sem,ab,eB,E])
def Ws{hf:prog.funcs[f]?=some fn}
   (hu:u<2^32) (hp:bM u 32<=8)   (F:Dj [I2])  {xa w:Option Addr} {Z s i:Nat}  (hE:Sl (bB (aP u)) I2 (.slice da t.diags.length dc) t.diags) (al:t.diags.length<2^40) (hx:t.diags[i]?=some x) (P:aP u I2 (.slice xa (aF u x.cond).length Z) x.cond) (ac:aP u I2 (.slice w (aF u (dw (cM t.kids) (t.diags.take i))).length s) (dw (cM t.kids) (t.diags.take i)))
  (e:x.code=11)
  (N:∀(b:Bool) σ' H,(∃J,H=U [J]/\Dj [J]/\I2.le J/\(b=false->KD t i x)/\(b=true->¬KD t i x))->fj (eB vk (.slice da t.diags.length dc) [.int .u8 x.code,.int .i64 x.tok,.slice xa (aF u x.cond).length Z] (i,.slice w (aF u (dw (cM t.kids) (t.diags.take i))).length s) b).tm σ'.tm->gH (eB vk (.slice da t.diags.length dc) [.int .u8 x.code,.int .i64 x.tok,.slice xa (aF u x.cond).length Z] (i,.slice w (aF u (dw (cM t.kids) (t.diags.take i))).length s) b).bx σ'.bx->RC ⟨prog,f,fn,hf,H0,w0,post,rd⟩ (.st K) σ' H) :
  RC ⟨prog,f,fn,hf,H0,w0,post,rd⟩ (.st (.code ((nU f57 14).getD .skip)::K)) (lC vk (.slice da t.diags.length dc) [.int .u8 x.code,.int .i64 x.tok,.slice xa (aF u x.cond).length Z] (i,.slice w (aF u (dw (cM t.kids) (t.diags.take i))).length s)) (U [I2]):=by
 have ag:=(List.getElem?_eq_some_iff.1 hx).1;refine xj rfl ?_;simp only[lC];refine jI mixed [0,1,2,3,4,5,6,7,8,9,10,11,12,13,14,15,16,17,18,19,20,21,22,23,24,25,26,27,28,29,30,31,32,33,34,35,36,37,38,39,40,41,42,43,44,45,46] [41] [] (by as_aux_lemma=>kernel_rfl) rfl ?_;have o:10<=x.code/\x.code<=12:=O;have G:((x.code:Int) != 12)=true:=iz O;have M:((x.code:Int) != 10)=true:=iz O;have L:((x.code:Int) != 11)=false:=iU O;by_cases Q:x.tok<0
 .have B:decide (x.tok<0)=true:=ar Q;refine eM G M L B ?_;apply an;exact N true _ _ ⟨_,rfl,F,(ax _),fun h=>(by cases h),fun _ h=>by have:=h.2.1;omega⟩ ae (by simp only[go_sem,ab,eB,E])
 have B:decide (x.tok<0)=false:=aS Q;have A:=xO hu P.1;by_cases m:x.cond=.lf false
 .rw[ar m]at A;apply bp;simp only[go_sem,E,G,M,L,B,A];apply an;exact N true _ _ ⟨_,rfl,F,(ax _),fun h=>(by cases h),fun _ h=>h.2.2.1 m⟩ ae (by simp only[go_sem,ab,eB,E])
 rw[aS m]at A;apply bp;simp only[go_sem,E,G,M,L,B,A];refine cP F rfl pg (pB hp ac P) ?_;rintro v3 I3 qs y d⟨rfl,V⟩;obtain⟨ma,mc,rfl,_⟩:=id V.2;have q:=uD hu V.1;by_cases n:(dw (cM t.kids) (t.diags.take i)).and x.cond=.lf false
 rotate_left
 .rw[aS n]at q;apply bp;simp only[go_sem,E,q,cF];apply an;exact N true _ _ ⟨_,rfl,y,d,fun h=>(by cases h),fun _ h=>n h.2.2.2.1⟩ ae (by simp only[go_sem,ab,eB,E])
 rw[ar n]at q;rcases g9 i with h0|h0
 .have r:decide ((i:Int)>0)=false:=aS O;apply bp;simp only[go_sem,E,q,r,bX];apply an;exact N false _ _ ⟨I3,rfl,y,d,fun _=>⟨o,O,m,n,fun _ h _=>by omega⟩,fun h=>(by cases h)⟩ ae (by simp only[go_sem,ab,eB,E])
 have r:decide ((i:Int)>0)=true:=ar O;obtain⟨j,hj⟩:∃j,i=j+1:=⟨i-1,O⟩;have ej:IntKind.i64.wrap ((i:Int)-1)=(j:Int):=by rw[show (i:Int)-1=(j:Int) by omega];exact wrap64 O
 obtain⟨g,D⟩:∃g,t.diags[j]?=some g:=⟨_,aL O⟩;obtain⟨b2,off2,cs2,ev2,X,z⟩:=Sl.load (R:=bB (aP u)) (fun{I} c a h=>bB.len (I:=I) c a h) (Sl.le (R:=bB (aP u)) (fun{I J c a} h k=>gn h k) hE d) D;cases ev2
 obtain⟨vp,rfl,aa⟩:=X;obtain⟨pa,pc,rfl,_⟩:=id aa.2;apply bp;simp only[go_sem,E,q,r,ej,bX]
 try refine⟨O,?_⟩
 refine Xc (l:=[.int .u8 g.code,.int .i64 g.tok,.slice pa (aF u g.cond).length pc]) (v:=.agg #[.int .u8 g.code,.int .i64 g.tok,.slice pa (aF u g.cond).length pc]) rfl (cellsU y (.head _) z) (.inl ⟨l6,rfl⟩) ?_;refine aC ?_;refine cP y rfl uV (aJ.keep (vM g x _ _ _ _ _ _ _)) ?_;rintro v4 I4 qs W C⟨rfl,rfl⟩;by_cases T:eV g x>=0
 .have f111:decide (eV g x>=0)=true:=ar T;refine aM f111 ?_;apply an;exact N true _ _ ⟨_,rfl,W,(Y d C),fun h=>(by cases h),fun _ h=>by have:=h.2.2.2.2 g h0 (by rw[show i-1=j by omega];exact D);omega⟩ ae (by simp only[go_sem,ab,eB,E])
 have f111:decide (eV g x>=0)=false:=aS T;refine aM f111 ?_;apply an;exact N false _ _ ⟨I4,rfl,W,Y d C,fun _=>⟨o,O,m,n,fun p _ S=>by rw[show i-1=j by omega,D]at S;cases S;omega⟩,fun h=>(by cases h)⟩ ae (by simp only[go_sem,ab,eB,E])
def Wt{hf:prog.funcs[f]?=some fn}
   (z:u<2^32) (hp:bM u 32<=8)   (m:Dj [I2]) {l:Value} {k g c:Option Addr} {j e a i:Nat}  (A:Sl (bB (aP u)) I2 (.slice k t.diags.length j) t.diags) (w:t.diags.length<2^40) (r:t.diags[i]?=some x) (q:aP u I2 (.slice g (aF u x.cond).length e) x.cond) (y:aP u I2 (.slice c (aF u (dw (cM t.kids) (t.diags.take i))).length a) (dw (cM t.kids) (t.diags.take i)))
  (d:¬(10<=x.code/\x.code<=12))
  (v:∀(b:Bool) σ' H,(∃J,H=U [J]/\Dj [J]/\I2.le J/\(b=false->KD t i x)/\(b=true->¬KD t i x))->fj (eB l (.slice k t.diags.length j) [.int .u8 x.code,.int .i64 x.tok,.slice g (aF u x.cond).length e] (i,.slice c (aF u (dw (cM t.kids) (t.diags.take i))).length a) b).tm σ'.tm->gH (eB l (.slice k t.diags.length j) [.int .u8 x.code,.int .i64 x.tok,.slice g (aF u x.cond).length e] (i,.slice c (aF u (dw (cM t.kids) (t.diags.take i))).length a) b).bx σ'.bx->RC ⟨prog,f,fn,hf,H0,w0,post,rd⟩ (.st K) σ' H) :
  RC ⟨prog,f,fn,hf,H0,w0,post,rd⟩ (.st (.code ((nU f57 14).getD .skip)::K)) (lC l (.slice k t.diags.length j) [.int .u8 x.code,.int .i64 x.tok,.slice g (aF u x.cond).length e] (i,.slice c (aF u (dw (cM t.kids) (t.diags.take i))).length a)) (U [I2]):=by
 have s:=(List.getElem?_eq_some_iff.1 r).1;refine xj rfl ?_;simp only[lC];refine jI mixed [0,1,2,3,4,5,6,7,8,9,10,11,12,13,14,15,16,17,18,19,20,21,22,23,24,25,26,27,28,29,30,31,32,33,34,35,36,37,38,39,40,41,42,43,44,45,46] [41] [] (by as_aux_lemma=>kernel_rfl) rfl ?_;have n:((x.code:Int) != 12)=true:=iz O;have p:((x.code:Int) != 10)=true:=iz O;have o:((x.code:Int) != 11)=true:=iz O;apply bp;simp only[go_sem,E,n,p,o];apply an;exact v true _ _ ⟨_,rfl,m,(ax _),fun h=>(by cases h),fun _ h=>d h.1⟩ ae (by simp only[go_sem,ab,eB,E])
variable{v:Value}
def Wp{hf:prog.funcs[f]?=some fn}
   (o:u<2^32) (hp:bM u 32<=8)   (h:Dj [I2])  {s m c:Option Addr} {r l a i:Nat}  (q:Sl (bB (aP u)) I2 (.slice s t.diags.length r) t.diags) (g:t.diags.length<2^40) (n:t.diags[i]?=some x) (d:aP u I2 (.slice m (aF u x.cond).length l) x.cond) (j:aP u I2 (.slice c (aF u (dw (cM t.kids) (t.diags.take i))).length a) (dw (cM t.kids) (t.diags.take i)))
  (p:∀(b:Bool) σ' H,(∃J,H=U [J]/\Dj [J]/\I2.le J/\(b=false->KD t i x)/\(b=true->¬KD t i x))->fj (eB v (.slice s t.diags.length r) [.int .u8 x.code,.int .i64 x.tok,.slice m (aF u x.cond).length l] (i,.slice c (aF u (dw (cM t.kids) (t.diags.take i))).length a) b).tm σ'.tm->gH (eB v (.slice s t.diags.length r) [.int .u8 x.code,.int .i64 x.tok,.slice m (aF u x.cond).length l] (i,.slice c (aF u (dw (cM t.kids) (t.diags.take i))).length a) b).bx σ'.bx->RC ⟨prog,f,fn,hf,H0,w0,post,rd⟩ (.st K) σ' H) :
  RC ⟨prog,f,fn,hf,H0,w0,post,rd⟩ (.st (.code ((nU f57 14).getD .skip)::K)) (lC v (.slice s t.diags.length r) [.int .u8 x.code,.int .i64 x.tok,.slice m (aF u x.cond).length l] (i,.slice c (aF u (dw (cM t.kids) (t.diags.take i))).length a)) (U [I2]):=by
 by_cases k:10<=x.code/\x.code<=12
 .rcases(by omega:x.code=12\/x.code=10\/x.code=11)with e|e|e
  .exact Wq o hp h q g n d j e p
  .exact Wr o hp h q g n d j e p
  .exact Ws o hp h q g n d j e p
 .exact Wt o hp h q g n d j k p
mutual
theorem Oq:∀(n:Nd) (p:List Nat),iE n=(rt p n).map fun x=>(x.2.tok,x.2.cond)
 |⟨k,s,t,o,ks,d⟩,p=>by rw[rt,jW,<-Cb ks p 0];rfl
theorem Cb:∀(l:List Nd) (p:List Nat) (i:Nat),dv l=(cq p i l).map fun x=>(x.2.tok,x.2.cond)
 | [],p,i=>by rw[cq];rfl
 |n::l,p,i=>by rw[cq,jV,<-Oq n (p++[i]),<-Cb l p (i+1)];rfl
end
def rL(x y:List Nat×Nd):Prop:=x.2.tok=y.2.tok->x.2.cond.and y.2.cond=.lf false
def TB(c:∀x∈cq [] 0 t.kids,x.2.cond.ok 0):(dv t.kids).Pairwise kH<->∀(b a:Nat) (x y:List Nat×Nd),a<b->(cq [] 0 t.kids)[a]?=some x->(cq [] 0 t.kids)[b]?=some y->rL x y:=by
 rw[Cb t.kids [] 0,List.pairwise_map,List.pairwise_iff_getElem];constructor
 .intro h b a x y d g f e;obtain⟨ha,j⟩:=List.getElem?_eq_some_iff.1 g;obtain⟨hb,i⟩:=List.getElem?_eq_some_iff.1 f;have h1:=h a b ha hb d;rw[j,i]at h1;exact(BP (c x (cH g)) (c y (cH f))).1 (h1 e)
 .intro h a b ha hb d e;have g:(cq [] 0 t.kids)[a]?=some _:=aL ha;have f:(cq [] 0 t.kids)[b]?=some _:=aL hb;exact(BP (c _ (cH g)) (c _ (cH f))).2 (h b a _ _ d g f e)
def yv(b vd a:Value)(x:Nat×Value):St:=⟨dn 161 [(1,.v a),(2,.p 2 0),(4,.v (.bool false)),(5,.v x.2),(6,.v (E x.1))],[⟨2,41,[b,vd]⟩]⟩
def Qf(u:Nat)(t:Tr)(a:PH)(x:Nat×Value)(H:PH):Prop:=∃I,H=U [I]/\Dj [I]/\a.le I/\x.1<=t.kids.length/\aP u I x.2 (cM (t.kids.take x.1))/\∀n∈t.kids.take x.1,n.kind=1/\n.slot=0/\VX FB (.lf true) n
def qD(a vd:Value)(x:Nat×Value):St:=⟨dn 161 [(2,.p 2 0),(4,.v (.bool false)),(5,.v x.2),(7,.v (E x.1))],[⟨2,41,[a,vd]⟩]⟩
def Qg(u:Nat)(t:Tr)(a:PH)(x:Nat×Value)(H:PH):Prop:=∃I,H=U [I]/\Dj [I]/\a.le I/\x.1<=t.diags.length/\aP u I x.2 (dw (cM t.kids) (t.diags.take x.1))/\∀i d,i<x.1->t.diags[i]?=some d->KD t i d
def qE(a:Value)(i:Nat):St:=⟨dn 161 [(4,.v (.bool false)),(9,.v a),(10,.v (E i))],[]⟩
def Qh(w:List (List Nat×Nd))(d c:PH)(i:Nat)(H:PH):Prop:=∃I,H=U [I]/\Dj [I]/\d.le I/\c.le I/\i<=w.length/\∀b a x y,b<i->a<b->w[a]?=some x->w[b]?=some y->rL x y
def u1(a:Value)(i k:Nat):St:=⟨dn 161 [(4,.v (.bool false)),(9,.v a),(10,.v (E i)),(11,.v (E k))],[]⟩
def Qi(w:List (List Nat×Nd))(i:Nat)(b:PH)(k:Nat)(H:PH):Prop:=∃I,H=U [I]/\Dj [I]/\b.le I/\k<=i/\∀a x y,a<k->w[a]?=some x->w[i]?=some y->rL x y
variable{I:PH}
def Ao(b:u<2^32)(hp:bM u 32<=8){J:PH}{t:Syn.Tr}(h:kL (dZ u) I v t)(k:I.le J):kL (dZ u) J v t:=by obtain⟨f,vd,d,e,h1,h2⟩:=h;exact⟨f,vd,d,e,lw.le b hp h1 k,Sl.le (R:=bB (dZ u)) (fun{I J c a} h k=>bB.le b hp h k) h2 k⟩
def Wg(hu:u<2^32)(hp:bM u 32<=8)(a5:t.kids.length<=1)(hA:∀n∈t.kids,n.kind=1/\n.slot=0/\VX FB (.lf true) n)(hB:∀i d,t.diags[i]?=some d->KD t i d){wa:Option Addr}{wc:Nat}{I3:PH}(a9:Dj [I3])(k3:I.le I3)(al:Sl (eH u) I3 (.slice wa (cq [] 0 t.kids).length wc) (cq [] 0 t.kids))(a3:(cq [] 0 t.kids).length<2^13):
  RC ⟨prog,57,f57,func57,U [I],w0,fun v H2=>∃I2 qs,H2=U (I2::qs)/\Dj (I2::qs)/\I.le I2/\qs=[]/\∃b:Bool,v=.bool b/\(b=true<->qk t),none⟩ (.st ((pQ f57 4).getD [])) (qE (.slice wa (cq [] 0 t.kids).length wc) 0) (U [I3]):=by
 have ag:=TB (t:=t);generalize cq [] 0 t.kids=w at al a3 ag |-;have a4:=ax I3;have Q:∀x∈w,x.2.cond.ok 0:=fun x hx=>by
  obtain⟨j,hj⟩:=List.getElem?_of_mem hx;obtain⟨b,off,cs,ev,⟨vp,cn,K,rfl,_,a2⟩,_⟩:=Sl.load (R:=eH u) (fun{I} c a h=>eH.len (I:=I) c a h) al hj;cases K with
  |zero=>exact a2.elim
  |succ K=>obtain⟨_,_,_,hw,_⟩:=a2;exact(aP.of hw).1.1
 refine xf rfl ?_;refine bz (fun i=>w.length-i) (qE (.slice wa w.length wc)) (Qh w I I3) 0 ae (by simp only[go_sem,ab,qE,E]) ⟨I3,rfl,a9,k3,ax _,bg _,fun b a x y h=>by omega⟩ ?_;rintro i H ⟨I4,rfl,a1,B,aq,bb,hC⟩ M;simp only[qE];rcases aB i w.length with S|a7
 rotate_left
 .have:i=w.length:=by omega
  subst this;have F:decide ((w.length:Int)<(w.length:Int))=false:=ai;refine aj F ?_;exact ao rfl a1 (r:=[_]) rfl B ⟨rfl,true,rfl,AG ⟨a5,hA,hB,(ag Q).2 fun b a x y C hx hy=>hC b a x y (List.getElem?_eq_some_iff.1 hy).1 C hx hy⟩⟩
 have F:=Z5 i w.length;have e1:=Z7 i;obtain⟨y,hy⟩:∃y,w[i]?=some y:=⟨_,aL S⟩;refine aj F ?_;refine bz (fun k=>i-k) (u1 (.slice wa w.length wc) i) (Qi w i I4) 0 ae (by simp only[go_sem,ab,u1,E]) ⟨I4,rfl,a1,ax _,bg _,fun a x y h=>by omega⟩ ?_;rintro k H ⟨I5,rfl,g,f,ba,hD⟩ m;simp only[u1];rcases aB k i with A|a6
 rotate_left
 .have:k=i:=by omega
  subst this;have D:decide ((k:Int)<(k:Int))=false:=ai;refine bW D e1 ?_;exact M (k+1) _ _ O ae (by simp only[go_sem,ab,qE,E]) ⟨I5,rfl,g,Y B f,Y aq f,S,fun b a x1 y1 hb C am Z=>by
   rcases(Nat.lt_or_eq_of_le (Nat.le_of_lt_succ hb):b<k\/b=k)with h|e
   .exact hC b a x1 y1 h C am Z
   .rw[e]at C Z;exact hD a x1 y1 C am Z⟩
 have D:=Z5 k i;have e2:=Z7 k;obtain⟨x,hx⟩:∃x,w[k]?=some x:=⟨_,aL O⟩;have X:Sl (eH u) I5 (.slice wa w.length wc) w:=Sl.le (R:=eH u) (fun{I J c a} h k=>eH.le hu hp h k) al (Y aq f);obtain⟨b1,o1,cs1,ev1,⟨vp1,cn1,dn1,rfl,_,W⟩,q⟩:=Sl.load (R:=eH u) (fun{I} c a h=>eH.len (I:=I) c a h) X hx;obtain⟨b2,o2,cs2,ev2,⟨vp2,cn2,K,rfl,_,V⟩,p⟩:=Sl.load (R:=eH u) (fun{I} c a h=>eH.len (I:=I) c a h) X hy;cases ev1
 cases ev2
 cases dn1 with
 |zero=>exact W.elim
 |succ dn1=>
 cases K with
 |zero=>exact V.elim
 |succ K=>
 obtain⟨vk1,vi1,rfl,N,_⟩:=W;obtain⟨vk2,vi2,rfl,o,_⟩:=V;have N:=aP.of N;have o:=aP.of o;obtain⟨x1a,x1c,rfl,_⟩:=id N.2;obtain⟨x2a,x2c,rfl,_⟩:=id o.2;have t1:=q.get (i:=3) rfl;have t2:=p.get (i:=3) rfl;have n1:=q.get (i:=6) rfl;have n2:=p.get (i:=6) rfl;have z:rL x y->∀a x' y',a<k+1->w[a]?=some x'->w[i]?=some y'->rL x' y':=fun h a x' y' ha ac aa=>by
  rcases Nat.lt_or_eq_of_le (Nat.le_of_lt_succ ha)with h2|rfl
  .exact hD a x' y' h2 ac aa
  .rw[hx]at ac;cases ac;rw[hy]at aa;cases aa;exact h
 have pd:qk t->rL x y:=fun h=>(ag Q).1 h.2.2.2 i k x y A hx hy;refine aj D ?_;refine aV [0,1,2,3,4,5,6,7,8,9,10,11,12,13,14,15,16,17,18,19,20,21,22,23,24,25,26,27,28,29] [5,11,19,25] [] ?_;refine aC ?_
 try refine⟨O,?_⟩
 refine Xc (l:=[.int .i64 x.2.tok]) rfl (cellsU g (.head _) (by simpa using t1)) (.inr ⟨dI,rfl⟩) ?_;refine aC ?_
 try refine⟨O,?_⟩
 refine Xc (l:=[.int .i64 y.2.tok]) rfl (cellsU g (.head _) (by simpa using t2)) (.inr ⟨dI,rfl⟩) ?_;by_cases L:x.2.tok=y.2.tok
 rotate_left
 .have G:(x.2.tok == y.2.tok)=false:=beq_eq_false_iff_ne.2 L;refine aM G ?_;apply an;refine aj e2 ?_;exact m (k+1) _ _ O ae (by simp only[go_sem,ab,u1,E]) ⟨I5,rfl,g,f,A,z fun h=>(L h).elim⟩
 have G:(x.2.tok == y.2.tok)=true:=beq_iff_eq.2 L;refine aM G ?_
 try refine⟨O,?_⟩
 refine Xc (l:=[.slice x1a (aF u x.2.cond).length x1c]) rfl (cellsU g (.head _) (by simpa using n1)) (.inr ⟨kO,rfl⟩) ?_;refine aC ?_
 try refine⟨O,?_⟩
 refine Xc (l:=[.slice x2a (aF u y.2.cond).length x2c]) rfl (cellsU g (.head _) (by simpa using n2)) (.inr ⟨kO,rfl⟩) ?_;refine aC ?_;refine cP g rfl pg (pB hp N o) ?_;rintro v7 I7 qs a0 T⟨rfl,ap⟩;obtain⟨ma,mc,rfl,_⟩:=id ap.2;have s:=uD hu ap.1;by_cases P:x.2.cond.and y.2.cond=.lf false
 rotate_left
 .rw[aS P]at s;apply bp;simp only[go_sem,E,s,cF];apply an;refine af ?_;exact ao rfl a0 (r:=[_]) rfl (Y B (Y f T)) ⟨rfl,false,rfl,cC fun h=>P (pd h L)⟩
 rw[ar P]at s;apply bp;simp only[go_sem,E,s,bX];apply an;refine aj e2 ?_;exact m (k+1) _ _ O ae (by simp only[go_sem,ab,u1,E]) ⟨I7,rfl,a0,Y f T,A,z fun _=>P⟩
def Wf(C:u<2^32)(hp:bM u 32<=8)(X:t.kids.length<=1)(hA:∀n∈t.kids,n.kind=1/\n.slot=0/\VX FB (.lf true) n){ka:Option Addr}{kc:Nat}(aq:kL (dZ u) I (.agg #[.slice ka t.kids.length kc,.slice da t.diags.length dc]) t)(hE:Sl (bB (aP u)) I (.slice da t.diags.length dc) t.diags)(hz:aw t.kids<2^13)(ac:t.diags.length<2^40){I1:PH}(am:Dj [I1])(L:I.le I1){sa:Option Addr}{sc:Nat}(hS:aP u I1 (.slice sa (aF u (cM t.kids)).length sc) (cM t.kids)):
  RC ⟨prog,57,f57,func57,U [I],w0,fun v H2=>∃I2 qs,H2=U (I2::qs)/\Dj (I2::qs)/\I.le I2/\qs=[]/\∃b:Bool,v=.bool b/\(b=true<->qk t),none⟩ (.st ((pQ f57 2).getD [])) (qD (.slice ka t.kids.length kc) (.slice da t.diags.length dc) (0,.slice sa (aF u (cM t.kids)).length sc)) (U [I1]):=by
 have hW:=js C hp;refine xf rfl ?_;refine bz (fun x=>t.diags.length-x.1) (qD (.slice ka t.kids.length kc) (.slice da t.diags.length dc)) (Qg u t I) (0,.slice sa (aF u (cM t.kids)).length sc) ae (by simp only[go_sem,ab,qD,E]) ⟨I1,rfl,am,L,bg _,hS,fun i d h=>by simp at h⟩ ?_;rintro⟨i,vs⟩ H ⟨I2,rfl,q,e,Z,o,hB⟩ m;simp only at Z o hB;simp only[qD];obtain⟨A,z,rfl,_⟩:=id o.2;rcases aB i t.diags.length with F|aa
 .have w:=Z5 i t.diags.length;have e1:=Z7 i;obtain⟨x,B⟩:∃x,t.diags[i]?=some x:=⟨_,aL F⟩;obtain⟨b,off,cs,ev,ap,s⟩:=Sl.load (R:=bB (aP u)) (fun{I} c a h=>bB.len (I:=I) c a h) (Sl.le (R:=bB (aP u)) (fun{I J c a} h k=>gn h k) hE e) B;cases ev
  obtain⟨vx,rfl,p⟩:=ap;obtain⟨Q,P,rfl,_⟩:=id p.2;have kd:qk t->KD t i x:=fun h=>h.2.2.1 i x B;refine aj w ?_
  try refine⟨O,?_⟩
  refine Xb (l:=[.int .u8 x.code,.int .i64 x.tok,.slice Q (aF u x.cond).length P]) (v:=.agg #[.int .u8 x.code,.int .i64 x.tok,.slice Q (aF u x.cond).length P]) rfl (cellsU q (.head _) s) (.inl ⟨l6,rfl⟩) ?_;refine av ?_;refine fd (σ':=lC (.slice ka t.kids.length kc) (.slice (some ⟨b,off,none⟩) t.diags.length dc) [.int .u8 x.code,.int .i64 x.tok,.slice Q (aF u x.cond).length P] (i,.slice A (aF u (dw (cM t.kids) (t.diags.take i))).length z)) ae (by simp only[go_sem,ab,lC,E]) ?_;refine KN (f:=f57) (id:=14) rfl ?_;refine KF (fun b':Bool=>eB (.slice ka t.kids.length kc) (.slice (some ⟨b,off,none⟩) t.diags.length dc) [.int .u8 x.code,.int .i64 x.tok,.slice Q (aF u x.cond).length P] (i,.slice A (aF u (dw (cM t.kids) (t.diags.take i))).length z) b') (fun b' H=>∃J,H=U [J]/\Dj [J]/\I2.le J/\(b'=false->KD t i x)/\(b'=true->¬KD t i x)) (fun hg=>Wp C hp q (Sl.le (R:=bB (aP u)) (fun{I J c a} h k=>gn h k) hE e) ac B p o hg) ?_;rintro b' H ⟨I5,rfl,M,g,a1,a0⟩;simp only[eB];cases b' with
  |true=>refine av ?_;exact ao rfl M (r:=[_]) rfl (Y e g) ⟨rfl,false,rfl,cC fun h=>a0 rfl (kd h)⟩
  |false=>
  have a2:=a1 rfl;refine av ?_;refine dq M rfl uW (wP hp (o.le g) (p.le g)) ?_;rintro v6 I6 qs ag G⟨rfl,D⟩;obtain⟨T,S,rfl,_⟩:=id D.2;refine aj e1 ?_;exact m (i+1,.slice T (aF u ((dw (cM t.kids) (t.diags.take i)).or x.cond)).length S) _ _ bC ae (by simp only[go_sem,ab,qD,E]) ⟨I6,rfl,ag,Y e (Y g G),F,by simp only;rw[cw B,Ji];exact D,fun j y hj V=>by
   rcases Nat.lt_or_eq_of_le (Nat.le_of_lt_succ hj)with h|rfl
   .exact hB j y h V
   .rw[B]at V;cases V;exact a2⟩
 have:i=t.diags.length:=O;subst this;have w:decide ((t.diags.length:Int)<(t.diags.length:Int))=false:=ai;refine aj w ?_;refine dq q rfl G8 (Kg C hp (Ao C hp aq e) O) ?_;rintro v3 I3 qs al K⟨rfl,N⟩;obtain⟨wa,wc,rfl,_⟩:=id N;have k3:=Y e K;refine av ?_;refine fd (σ':=qE (.slice wa (cq [] 0 t.kids).length wc) 0) ae (by simp only[go_sem,ab,qE,E]) ?_;exact xh rfl rfl (Wg C hp X hA (fun i d h=>hB i d (List.getElem?_eq_some_iff.1 h).1 h) al k3 N (by rw[mN];exact hz))
def We(K:u<2^32)(hp:bM u 32<=8){vall:Value}(hT:kL (dZ u) I v t)(s:dh I vall (cI u 32))(hz:aw t.kids<2^13)(W:t.diags.length<2^40)(V:ne oL t.kids):
  aI prog 57 #[v,vall] I [] fun r I2 qs=>qs=[]/\∃b:Bool,r=.bool b/\(b=true<->qk t):=by
 have hW:=js K hp;have X:=hT;obtain⟨vk,vd,d,rfl,Z,aa⟩:=hT;have hK:c7 u d I vk t.kids:=Sl.imp (fun c a _ h=>aU.toC h) Z;have hE:Sl (bB (aP u)) I vd t.diags:=Sl.imp (fun c a _ h=>bB.toC h) aa;obtain⟨ka,kc,rfl,_⟩:=id hK;obtain⟨da,dc,rfl,_⟩:=id hE;obtain⟨la,lc,rfl,_⟩:=id s;have ag:=fJ t.kids;have am:=uJ _ t.kids (iO _);intro hd;refine aG 161 func57 fun w0=>?_;by_cases N:t.kids.length<=1
 rotate_left
 .have F:decide ((t.kids.length:Int)>1)=true:=ar O;refine aj F ?_;exact ao rfl hd (r:=[_]) rfl (ax _) ⟨rfl,false,rfl,cC fun h=>N h.1⟩
 have F:decide ((t.kids.length:Int)>1)=false:=aS O;refine aj F ?_;refine bz (fun x=>t.kids.length-x.1) (yv (.slice ka t.kids.length kc) (.slice da t.diags.length dc) (.slice la (cI u 32).length lc)) (Qf u t I) (0,.slice none 0 0) ae (by simp only[go_sem,ab,yv,E]) ⟨I,rfl,hd,ax _,bg _,wK u I,fun n h=>by simp at h⟩ ?_;rintro⟨i,vs⟩ H ⟨I1,rfl,g,e,hi,T,U⟩ w;simp only at hi T U;simp only[yv];obtain⟨sa,sc,rfl,_⟩:=id T.2;rcases aB i t.kids.length with M|al
 .have B:=Z5 i t.kids.length;have e1:=Z7 i;obtain⟨n,L⟩:∃n,t.kids[i]?=some n:=⟨_,aL M⟩;have k:=cH L;cases d with
  |zero=>obtain⟨b,off,cs,ev,A,f⟩:=Sl.load (R:=aU (aP u) 0) (fun{I} c a h=>aU.len (I:=I) c a h) (c7.le K hp hK e) L;exact A.elim
  |succ d=>
  obtain⟨b,off,cs,ev,A,f⟩:=Sl.load (R:=aU (aP u) (d+1)) (fun{I} c a h=>aU.len (I:=I) c a h) (c7.le K hp hK e) L;cases ev
  obtain⟨vkn,vin,rfl,y,P⟩:=A;obtain⟨J,G,rfl,_⟩:=id P;obtain⟨p,o,rfl,_⟩:=id y.2;have c0:=f.get (i:=0) rfl;have c3:=f.get (i:=3) rfl;have ap:=kS k;have ac:=iK k;refine aj B ?_
  try refine⟨O,?_⟩
  refine Xb (l:=[.int .u8 n.kind]) rfl (cellsU g (.head _) (by simpa using c0)) (.inr ⟨qq,rfl⟩) ?_;by_cases Q:n.kind=1
  rotate_left
  .have D:((n.kind:Int) != 1)=true:=iz O;refine aj D ?_;exact ao rfl g (r:=[_]) rfl e ⟨rfl,false,rfl,cC fun h=>Q (h.2.1 n k).1⟩
  have D:((n.kind:Int) != 1)=false:=iU O;refine aj D ?_
  try refine⟨O,?_⟩
  refine Xb (l:=[.int .i64 n.slot]) rfl (cellsU g (.head _) (by simpa using c3)) (.inr ⟨dI,rfl⟩) ?_;by_cases q:n.slot=0
  rotate_left
  .have C:(n.slot != 0)=true:=iz q;refine aj C ?_;exact ao rfl g (r:=[_]) rfl e ⟨rfl,false,rfl,cC fun h=>q (h.2.1 n k).2.1⟩
  have C:(n.slot != 0)=false:=iU q;refine aj C ?_
  try refine⟨O,?_⟩
  refine Xb (l:=[.int .u8 n.kind,.string ⟨⟨n.text⟩⟩,.int .i64 n.tok,.int .i64 n.slot,.slice J n.kids.length G,.slice p (aF u n.cond).length o]) (v:=.agg #[.int .u8 n.kind,.string ⟨⟨n.text⟩⟩,.int .i64 n.tok,.int .i64 n.slot,.slice J n.kids.length G,.slice p (aF u n.cond).length o]) rfl (cellsU g (.head _) f) (.inl ⟨jK,rfl⟩) ?_;refine av ?_;refine dq g rfl Cm (Wi K hp (aw n.kids+1) d (n:=n) (iO _) O P y (JS (dh.le s e)) (AQ.1 V n k) (lev:=1) O) ?_;rintro v2 I2 qs z j⟨rfl,b2,rfl,S⟩;cases b2 with
  |false=>refine av ?_;exact ao rfl z (r:=[_]) rfl (Y e j) ⟨rfl,false,rfl,cC fun h=>by have h2:=S.2 (h.2.1 n k).2.2;cases h2⟩
  |true=>
  refine av ?_
  try refine⟨O,?_⟩
  refine Xb (l:=[.slice p (aF u n.cond).length o]) rfl (cellsU z (.head _) (by simpa using (f.le j).get (i:=5) rfl)) (.inr ⟨kO,rfl⟩) ?_;refine aj e1 ?_;exact w (i+1,.slice p (aF u n.cond).length o) _ _ bC ae (by simp only[go_sem,ab,yv,E]) ⟨I2,rfl,z,Y e j,M,by simp only;rw[cw L,Ux];exact y.le j,fun m hm=>by
   simp only at hm;rw[cw L,gS,List.mem_singleton]at hm;rcases hm with hm|rfl
   .exact U m hm
   .exact⟨Q,q,S.1 rfl⟩⟩
 have:i=t.kids.length:=O;subst this;have B:decide ((t.kids.length:Int)<(t.kids.length:Int))=false:=ai;rw[cB]at T U |-;refine aj B ?_;refine fd (σ':=qD (.slice ka t.kids.length kc) (.slice da t.diags.length dc) (0,.slice sa (aF u (cM t.kids)).length sc)) ae (by simp only[go_sem,ab,qD,E]) ?_;exact xh rfl rfl (Wf K hp N U X hE hz W g e T)
open Go Go.Sx Dg Syn
def Vw{x:aE}(d:x.length<2^40)(e:iR I):aI prog 237 #[.string ⟨⟨x⟩⟩] I [] fun r I2 qs=>qs=[]/\r=.bool (iD 1 x && !fG x):=by
 intro hd;refine aG 10 func237 fun w0=>?_;refine af ?_;refine dq hd rfl GN (Hr (k:=1) d e) ?_;rintro f g qs b a⟨rfl,rfl⟩;cases h1:iD 1 x
 .refine af ?_;exact ao rfl b (r:=[_]) rfl a ⟨rfl,rfl⟩
 .refine af ?_;refine Xa rfl Py Q2 ?_;rintro v H2⟨rfl,rfl⟩;refine af ?_;exact ao rfl b (r:=[.bool (!fG x)]) rfl a ⟨rfl,rfl⟩
def SH{k:Nat}{x:aE}(j:x.length<2^40)(l:iR I)(g:1<=k/\k<=19):aI prog 169 #[.int .u8 k,.string ⟨⟨x⟩⟩] I [] fun r I2 qs=>qs=[]/\∃b:Bool,r=.bool b/\(b=true<->n6 FB k x):=by
 have n:∀{k:Nat},(k=2\/k=3\/k=4\/k=7\/k=18\/k=19)->aI prog 169 #[.int .u8 k,.string ⟨⟨x⟩⟩] I [] fun r I2 qs=>qs=[]/\∃b:Bool,r=.bool b/\(b=true<->FB 1 x/\fG x=false):=by
  intro k g hd;refine aG 50 func169 fun w0=>?_;rcases g with rfl|rfl|rfl|rfl|rfl|rfl
  all_goals
   apply RG;simp only[go_sem,bG];refine dq hd rfl Pu (Vw j l) ?_;rintro m o qs c a⟨rfl,rfl⟩;refine af ?_;exact ao rfl c (r:=[.bool (iD 1 x && !fG x)]) rfl a ⟨rfl,_,rfl,by unfold FB;rw[bu,g8]⟩
 have rest:∀{k:Nat},(k=1\/k=6\/k=8\/k=9\/k=10\/k=11\/k=12\/k=17)->aI prog 169 #[.int .u8 k,.string ⟨⟨x⟩⟩] I [] fun r I2 qs=>qs=[]/\∃b:Bool,r=.bool b/\(b=true<->x=[]):=by
  intro k g hd;refine aG 50 func169 fun w0=>?_;rcases g with rfl|rfl|rfl|rfl|rfl|rfl|rfl|rfl
  all_goals
   apply RG;simp only[go_sem,bG];exact ao rfl hd (r:=[.bool (x == [])]) rfl (ax _) ⟨rfl,_,rfl,beq_iff_eq⟩
 have d:(k=2\/k=3\/k=4\/k=7\/k=18\/k=19)\/(k=1\/k=6\/k=8\/k=9\/k=10\/k=11\/k=12\/k=17)\/k=5\/k=13\/k=14\/k=15\/k=16:=O;have imp:∀{P Q:Prop},(P<->Q)->aI prog 169 #[.int .u8 k,.string ⟨⟨x⟩⟩] I [] (fun r I2 qs=>qs=[]/\∃b:Bool,r=.bool b/\(b=true<->P))->aI prog 169 #[.int .u8 k,.string ⟨⟨x⟩⟩] I [] (fun r I2 qs=>qs=[]/\∃b:Bool,r=.bool b/\(b=true<->Q)):=fun e h=>h.mono fun r I2 qs _ f=>let ⟨h1,b,h2,h3⟩:=f;⟨h1,b,h2,h3.trans e⟩
 rcases d with d|d|rfl|rfl|rfl|rfl|rfl
 .refine imp ?_ (n d);unfold n6;rw[ak d]
 .refine imp ?_ (rest d);unfold n6;rw[ad O,ad O,ad O,ad O,ad O,ad O]
 .show aI prog 169 #[.int .u8 (5:Nat),.string ⟨⟨x⟩⟩] I [] fun r I2 qs=>qs=[]/\∃b:Bool,r=.bool b/\(b=true<->x=q6\/x=qU);intro hd;refine aG 50 func169 fun w0=>?_;cases e:(x == [105,110,116])
  .apply RG;simp only[go_sem,bG,e];exact ao rfl hd (r:=[.bool (x == [98,111,111,108])]) rfl (ax _) ⟨rfl,_,rfl,fun h=>.inr (beq_iff_eq.1 h),fun h=>h.elim (fun h=>absurd (show (x == [105,110,116])=true from beq_iff_eq.2 h) (by rw[e];simp)) fun h=>beq_iff_eq.2 h⟩
  .apply RG;simp only[go_sem,bG,e];exact ao rfl hd (r:=[_]) rfl (ax _) ⟨rfl,true,rfl,fun _=>.inl (beq_iff_eq.1 e),fun _=>rfl⟩
 .show aI prog 169 #[.int .u8 (13:Nat),.string ⟨⟨x⟩⟩] I [] fun r I2 qs=>qs=[]/\∃b:Bool,r=.bool b/\(b=true<->fI x≠9);intro hd;refine aG 50 func169 fun w0=>?_;apply RG;simp only[go_sem,bG];refine Xa rfl Po Sn ?_;rintro v H2⟨rfl,rfl⟩;by_cases i:fI x=9
  .rw[ak i];refine af ?_;exact ao rfl hd (r:=[_]) rfl (ax _) ⟨rfl,false,rfl,fun h=>(by cases h),fun h=>absurd i h⟩
  .rw[ad i];have h3:decide ((fI x:Int)>=0)=true:=ar O;refine db h3 ?_;exact ao rfl hd (r:=[_]) rfl (ax _) ⟨rfl,true,rfl,fun _=>i,fun _=>rfl⟩
 .show aI prog 169 #[.int .u8 (14:Nat),.string ⟨⟨x⟩⟩] I [] fun r I2 qs=>qs=[]/\∃b:Bool,r=.bool b/\(b=true<->x=Ei\/x=mK);intro hd;refine aG 50 func169 fun w0=>?_;cases e:(x == [33])
  .apply RG;simp only[go_sem,bG,e];exact ao rfl hd (r:=[.bool (x == [45])]) rfl (ax _) ⟨rfl,_,rfl,fun h=>.inr (beq_iff_eq.1 h),fun h=>h.elim (fun h=>absurd (show (x == [33])=true from beq_iff_eq.2 h) (by rw[e];simp)) fun h=>beq_iff_eq.2 h⟩
  .apply RG;simp only[go_sem,bG,e];exact ao rfl hd (r:=[_]) rfl (ax _) ⟨rfl,true,rfl,fun _=>.inl (beq_iff_eq.1 e),fun _=>rfl⟩
 .show aI prog 169 #[.int .u8 (15:Nat),.string ⟨⟨x⟩⟩] I [] fun r I2 qs=>qs=[]/\∃b:Bool,r=.bool b/\(b=true<->iD 2 x=true);intro hd;refine aG 50 func169 fun w0=>?_;apply RG;simp only[go_sem,bG];refine dq hd rfl GN (Hr (k:=2) j l) ?_;rintro m o qs c a⟨rfl,rfl⟩;refine af ?_;exact ao rfl c (r:=[.bool (iD 2 x)]) rfl a ⟨rfl,_,rfl,Iff.rfl⟩
 .show aI prog 169 #[.int .u8 (16:Nat),.string ⟨⟨x⟩⟩] I [] fun r I2 qs=>qs=[]/\∃b:Bool,r=.bool b/\(b=true<->x=rk\/x=qX);intro hd;refine aG 50 func169 fun w0=>?_;cases e:(x == [116,114,117,101])
  .apply RG;simp only[go_sem,bG,e];exact ao rfl hd (r:=[.bool (x == [102,97,108,115,101])]) rfl (ax _) ⟨rfl,_,rfl,fun h=>.inr (beq_iff_eq.1 h),fun h=>h.elim (fun h=>absurd (show (x == [116,114,117,101])=true from beq_iff_eq.2 h) (by rw[e];simp)) fun h=>beq_iff_eq.2 h⟩
  .apply RG;simp only[go_sem,bG,e];exact ao rfl hd (r:=[_]) rfl (ax _) ⟨rfl,true,rfl,fun _=>.inl (beq_iff_eq.1 e),fun _=>rfl⟩
end Go.Proofs.YtfaclfkpnmcmlaaGreatDoor
