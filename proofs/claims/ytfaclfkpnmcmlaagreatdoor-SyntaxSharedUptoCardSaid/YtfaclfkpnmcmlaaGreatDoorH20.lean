import Derived.Test.YtfaclfkpnmcmlaaGreatDoorH13
import Derived.Test.YtfaclfkpnmcmlaaGreatDoorH17
import Derived.Test.YtfaclfkpnmcmlaaGreatDoorH18
import Derived.Test.YtfaclfkpnmcmlaaGreatDoorH19
set_option maxHeartbeats 8000000
set_option linter.all false
namespace Go.Proofs.YtfaclfkpnmcmlaaGreatDoor
open Go Go.Sx Dg Syn
open Go.Sort (PermIn SortedIn SWO permIn_refl permIn_trans permIn_mono swp_permIn)
def n7:aO Tryz.prog 284:=⟨_,Tryz.func284,rfl,rfl⟩
def JL(v va vc:Value)(x:Nat×Nat):St:=⟨dn 220 [(0,.v v),(1,.v va),(4,.v vc),(10,.v (iv x.1)),(11,.v (iv x.2))],[]⟩
def Sq(v vi:Value)(k:Nat):St:=⟨dn 220 [(0,.v v),(10,.v vi),(13,.v (iv k))],[]⟩
def J5(v vm vc:Value)(x:Nat×Nat):St:=⟨dn 220 [(0,.v v),(2,.v vm),(4,.v vc),(14,.v (iv x.1)),(15,.v (iv x.2))],[]⟩
def WQ(v vi:Value)(k:Nat):St:=⟨dn 220 [(0,.v v),(14,.v vi),(17,.v (iv k))],[]⟩
def nC(v va vm vb vc vd vn vp:Value)(x:Nat×Nat):St:=⟨dn 220 [(0,.v v),(1,.v va),(2,.v vm),(3,.v vb),(4,.v vc),(18,.v vd),(19,.v vn),(20,.v (iv x.1)),(21,.v (iv x.2)),(22,.v vp)],[]⟩
def MZ(v:Value)(d:Array cO)(a b:Nat):Value->PH->List PH->Prop:=fun _ I2 qs=>∃A2 e,qs=[A2]/\eF I2 A2 v e.toList/\PermIn a b d e/\SortedIn bF a b e
def QP(v va vb vc vd vs ve:Value):St:=⟨dn 220 [(0,.v v),(1,.v va),(3,.v vb),(4,.v vc),(18,.v vd),(20,.v vs),(24,.v ve)],[]⟩
def Ri(v vb vc vd ve:Value):St:=⟨dn 220 [(0,.v v),(3,.v vb),(4,.v vc),(18,.v vd),(24,.v ve)],[]⟩
def sA{C:Cx}{k:List Item}(σ0:St)(E:PH->Prop){P:Prop}(h1:(∀H,E H->RC C (.st k) σ0 H)->P)(h:∀H,E H->RC C (.st k) σ0 H):P:=h1 h
variable{i:Nat}{α:Type}
theorem AF.triv[Inhabited α]{m j:Nat}{d:Array α}(h:i=0\/j=0)(hi:i<=m):AF m i j d d:=fun k=>by
 by_cases h1:m-i<=k/\k<m-i+j
 ·rw[aaq h1];congr 1;omega
 ·rw[ZV h1];by_cases h2:m-i+j<=k/\k<m+j
  ·rw[aaq h2];congr 1;omega
  ·rw[ZV h2]
variable{a b:Nat}{d:Array cO}{v vc:Value}{I A:PH}
theorem aco{m:Nat}(hA:eF I A v d.toList)(hc:mC eG bF vc)(b5:m=a+1)(b6:m<b)(hb:b<=d.size)(hn:d.size<=aN)(hs:SortedIn bF m b d):
  aK Tryz.prog 284 #[v,iv a,iv m,iv b,vc] I [A] (MZ v d a b):=by
 intro hd;unfold aN at hn;obtain⟨f,fst,cap,rfl,gf,cf⟩:=id hc;obtain⟨g0,vk,rfl⟩:=Ow.addr hA ab;refine ah 220 Tryz.func284 fun w0=>?_
 try simp only[iv]
 have w1:IntKind.i64.wrap ((m:Int)-(a:Int))=1:=by
  rw[cH ab ab];omega
 have q1:((1:Int) == 1)=true:=rfl;apply RG;simp only[go_sem,w1,q1];apply dF (fun x=>x.2-x.1) (fun x=>JL (.slice (some ⟨g0,0,none⟩) d.size vk) (iv a) (.func (.func f) fst cap) x) (fun x H=>∃I2 A2,H=U [I2,A2]/\Dj [I2,A2]/\I.le I2/\eF I2 A2 (.slice (some ⟨g0,0,none⟩) d.size vk) d.toList/\m<=x.1/\x.1<=x.2/\x.2<=b/\(x.1=m\/bF d[x.1-1]! d[a]! = true)/\(x.2=b\/bF d[x.2]! d[a]! = false)) (fun x H=>∃I2 A2,H=U [I2,A2]/\Dj [I2,A2]/\I.le I2/\eF I2 A2 (.slice (some ⟨g0,0,none⟩) d.size vk) d.toList/\m<=x.1/\x.1<=b/\(x.1=m\/bF d[x.1-1]! d[a]! = true)/\(x.1=b\/bF d[x.1]! d[a]! = false)) (m,b)
 ·exact bM
 ·exact(by simp only[go_sem,aa6,JL])
 ·exact⟨I,A,rfl,hd,abW _,hA,ZR _,by simp only;omega,ZR _,.inl rfl,.inl rfl⟩
 ·rintro⟨i,j⟩ H ⟨I2,A2,rfl,ao,aa,aq,hi,b1,hj,hl,hr⟩ ak a0;simp only at hi b1 hj hl hr;simp only[JL];rcases aaf i j with bx|b2
  ·have ba:decide ((i:Int)<(j:Int))=true:=abU ab;have a1:(i:Int)+(j:Int)=((i+j:Nat):Int):=by omega
   have a2:=wrap64 (n:=i+j) ab;have a3:=qq (n:=i+j) ab;have a4:ut .u64 (((i+j:Nat)):Int) 1=(((i+j) / 2:Nat):Int):=by
    have:=C0 (a:=i+j) (i:=1) ab;rw[abs]at this;exact this
   obtain⟨h,eh⟩:∃h,h=(i+j) / 2:=⟨_,rfl⟩;rw[<-eh]at a4;have a5:=wrap64 (n:=h) ab;apply RG;simp only[go_sem,iv,ba,a1,a2,a3,a4,a5];obtain⟨g,cp,cur,ci,cj,ev,rfl,a7,ri,rj,li,lj,ki,kj,aS⟩:=Ow.two aq (fun{I} c a h=>eG.len c a h) (fun{I J c a} h k=>eG.le h k) (i:=h) (j:=a) ab ab;rw[(show d.size=d.size from rfl)]at ev a7;simp only[Value.slice.injEq,ZW,Addr.mk.injEq,abC,acT]at ev;obtain⟨eg,ek⟩:=ev;subst eg;subst ek;refine eP [0,1,2,3,4,5,6,7,8,9,10] [4,8] [] ?_;refine dS ?_;refine⟨ab,?_⟩;refine W7 (l:=ci) (v:=.agg ci.toArray) rfl (cellsU ao (.tail _ (.head _)) (by simpa using ki)) (.inl ⟨by rw[li];exact lW,rfl⟩) ?_;refine dS ?_;refine⟨ab,?_⟩;refine W7 (l:=cj) (v:=.agg cj.toArray) rfl (cellsU ao (.tail _ (.head _)) (by simpa using kj)) (.inl ⟨by rw[lj];exact lW,rfl⟩) ?_;refine dS ?_;refine aE ao [0] [] [_] rfl gf rfl (cf I2 _ _ _ _ ri rj) fun v I3 qs am aj hq=>?_;obtain⟨rfl,z,rfl,hz⟩:=hq;simp only[Z3]at am |-;refine dS ?_;refine aw ?_;cases ac:bF d[h]! d[a]! with
   |true=>
    rw[ac]at hz;have w3:IntKind.i64.wrap ((h:Int)+1)=((h+1:Nat):Int):=by
     have e0:(h:Int)+1=((h+1:Nat):Int):=by omega
     rw[e0];exact wrap64 ab
    apply RG;simp only[go_sem,iv,hz,w3];exact ak (h+1,j) _ _ dt bM (by simp only[go_sem,aa6,JL]) ⟨I3,_,rfl,am,abV aa aj,eF.le aq aj,by simp only;omega,by simp only;omega,hj,.inr ac,hr⟩
   |false=>
    rw[ac]at hz;apply RG;simp only[go_sem,iv,hz];exact ak (i,h) _ _ dt bM (by simp only[go_sem,aa6,JL]) ⟨I3,_,rfl,am,abV aa aj,eF.le aq aj,hi,by simp only;omega,by simp only;omega,hl,.inr ac⟩
  ·have ba:decide ((i:Int)<(j:Int))=false:=abT ab;have:i=j:=by omega
   subst this;apply bL 9;simp only[go_sem,iv,ba];exact a0 (i,i) _ _ bM (by simp only[go_sem,aa6,JL]) ⟨I2,A2,rfl,ao,aa,aq,hi,hj,hl,hr⟩
 rintro⟨i,j⟩ H ⟨I2,A2,rfl,ao,aa,aq,hi,bb,hl,hr⟩;simp only at hi bb hl hr;simp only[JL];refine dP ?_;have w4:IntKind.i64.wrap ((i:Int)-1)=((i-1:Nat):Int):=by rw[iX ab];omega
 refine aA (fun k=>i-k) (Sq (.slice (some ⟨g0,0,none⟩) d.size vk) (iv i)) (fun k H=>∃A3 e,H=U [I2,A3]/\Dj [I2,A3]/\a<=k/\k<=i-1/\e.size=d.size/\eF I2 A3 (.slice (some ⟨g0,0,none⟩) d.size vk) e.toList/\MvU a k d e/\PermIn a b d e) a bM (by simp only[go_sem,aa6,Sq]) ?_ ?_
 ·exact⟨A2,d,rfl,ao,ZR _,ab,rfl,aq,MvU.zero _ _,permIn_refl _ _ _⟩
 rintro k H ⟨A3,e,rfl,am,b0,ca,a6,bs,bd,bc⟩ an;simp only[Sq];rcases aaf k (i-1)with bx|b2
 ·have a9:decide ((k:Int)<((i-1:Nat):Int))=true:=abU ab;have w5:IntKind.i64.wrap ((k:Int)+1)=((k+1:Nat):Int):=by
   have e0:(k:Int)+1=((k+1:Nat):Int):=by omega
   rw[e0];exact wrap64 ab
  apply RG;simp only[go_sem,iv,w4,a9];obtain⟨g,cp,cur,ci,cj,ev,rfl,a7,ri,rj,li,lj,ki,kj,aS⟩:=Ow.two bs (fun{I} c a h=>eG.len c a h) (fun{I J c a} h k=>eG.le h k) (i:=k) (j:=k+1) ab ab;rw[a6]at ev a7;simp only[Value.slice.injEq,ZW,Addr.mk.injEq,abC,acT]at ev;obtain⟨eg,ek⟩:=ev;subst eg;subst ek;have mi:(k+1)*4<=d.size*4:=aaQ _ ab;have mj:((k+1)+1)*4<=d.size*4:=aaQ _ ab;refine eP [0,1,2,3,4,5,6,7,8,9,10,11,12,13,14,15,16,17] [9,13] [] ?_;apply au;simp only[go_sem,iv,w5];refine⟨ab,?_⟩;refine W7 (l:=cj) (v:=.agg cj.toArray) rfl (cellsU am (.tail _ (.head _)) (by simpa using kj)) (.inl ⟨by rw[lj];exact lW,rfl⟩) ?_;apply au;simp only[go_sem,iv,w5];refine⟨ab,?_⟩;refine W7 (l:=ci) (v:=.agg ci.toArray) rfl (cellsU am (.tail _ (.head _)) (by simpa using ki)) (.inl ⟨by rw[li];exact lW,rfl⟩) ?_;apply au;simp only[go_sem,iv,w5];refine⟨ab,?_⟩;refine aQ am rfl rfl rfl rfl rfl (ag (eG.ones rj)) (by rw[lj];exact yM) (by rw[lj];omega) fun b3=>?_;apply au;simp only[go_sem,iv,w5];refine⟨ab,?_⟩;refine aQ b3 rfl rfl rfl rfl rfl (ag (eG.ones ri)) (by rw[li];exact yM) (by rw[li];simp[aX];omega) fun b4=>?_;refine aw ?_;apply RG;simp only[go_sem,iv,w5];exact an (k+1) _ _ ab bM (by simp only[go_sem,aa6,Sq]) ⟨_,_,rfl,b4,ab,ab,by rw[al];exact a6,aS I2 (abW _),bd.step a6 b0 ab,permIn_trans _ _ _ a b bc (swp_permIn _ a b _ _ ab ab ab ab ab)⟩
 ·have a9:decide ((k:Int)<((i-1:Nat):Int))=false:=abT ab;have:k=i-1:=by omega
  subst this;apply RG;simp only[go_sem,iv,w4,a9];exact af rfl am (r:=[]) rfl aa ⟨A3,e,rfl,bs,bc,ack n8 b5 hs hi bb hl hr bd⟩
theorem acm{m:Nat}(hA:eF I A v d.toList)(hc:mC eG bF vc)(ca:a+1<m)(bx:b=m+1)(hb:b<=d.size)(hn:d.size<=aN)(hs:SortedIn bF a m d):
  aK Tryz.prog 284 #[v,iv a,iv m,iv b,vc] I [A] (MZ v d a b):=by
 intro hd;unfold aN at hn;obtain⟨f,fst,cap,rfl,gf,cf⟩:=id hc;obtain⟨g0,vk,rfl⟩:=Ow.addr hA ab;refine ah 220 Tryz.func284 fun w0=>?_
 try simp only[iv]
 have w1:IntKind.i64.wrap ((m:Int)-(a:Int))=((m-a:Nat):Int):=by
  rw[cH ab ab];omega
 have w2:IntKind.i64.wrap ((b:Int)-(m:Int))=1:=by
  rw[cH ab ab];omega
 have q1:(((m-a:Nat):Int) == 1)=false:=by rw[abS];omega
 have q2:((1:Int) == 1)=true:=rfl;apply RG;simp only[go_sem,w1,w2,q1,q2];apply dF (fun x=>x.2-x.1) (fun x=>J5 (.slice (some ⟨g0,0,none⟩) d.size vk) (iv m) (.func (.func f) fst cap) x) (fun x H=>∃I2 A2,H=U [I2,A2]/\Dj [I2,A2]/\I.le I2/\eF I2 A2 (.slice (some ⟨g0,0,none⟩) d.size vk) d.toList/\a<=x.1/\x.1<=x.2/\x.2<=m/\(x.1=a\/bF d[m]! d[x.1-1]! = false)/\(x.2=m\/bF d[m]! d[x.2]! = true)) (fun x H=>∃I2 A2,H=U [I2,A2]/\Dj [I2,A2]/\I.le I2/\eF I2 A2 (.slice (some ⟨g0,0,none⟩) d.size vk) d.toList/\a<=x.1/\x.1<=m/\(x.1=a\/bF d[m]! d[x.1-1]! = false)/\(x.1=m\/bF d[m]! d[x.1]! = true)) (a,m)
 ·exact bM
 ·exact(by simp only[go_sem,aa6,J5])
 ·exact⟨I,A,rfl,hd,abW _,hA,ZR _,by simp only;omega,ZR _,.inl rfl,.inl rfl⟩
 ·rintro⟨i,j⟩ H ⟨I2,A2,rfl,ao,aa,aq,hi,b2,hj,hl,hr⟩ ak a0;simp only at hi b2 hj hl hr;simp only[J5];rcases aaf i j with b0|b3
  ·have bb:decide ((i:Int)<(j:Int))=true:=abU ab;have a1:(i:Int)+(j:Int)=((i+j:Nat):Int):=by omega
   have a2:=wrap64 (n:=i+j) ab;have a3:=qq (n:=i+j) ab;have a4:ut .u64 (((i+j:Nat)):Int) 1=(((i+j) / 2:Nat):Int):=by
    have:=C0 (a:=i+j) (i:=1) ab;rw[abs]at this;exact this
   obtain⟨h,eh⟩:∃h,h=(i+j) / 2:=⟨_,rfl⟩;rw[<-eh]at a4;have a5:=wrap64 (n:=h) ab;apply RG;simp only[go_sem,iv,bb,a1,a2,a3,a4,a5];obtain⟨g,cp,cur,ci,cj,ev,rfl,a9,ri,rj,li,lj,ki,kj,aS⟩:=Ow.two aq (fun{I} c a h=>eG.len c a h) (fun{I J c a} h k=>eG.le h k) (i:=m) (j:=h) ab ab;rw[(show d.size=d.size from rfl)]at ev a9;simp only[Value.slice.injEq,ZW,Addr.mk.injEq,abC,acT]at ev;obtain⟨eg,ek⟩:=ev;subst eg;subst ek;refine eP [0,1,2,3,4,5,6,7,8,9,10,11] [4,8] [] ?_;refine dS ?_;refine⟨ab,?_⟩;refine W7 (l:=ci) (v:=.agg ci.toArray) rfl (cellsU ao (.tail _ (.head _)) (by simpa using ki)) (.inl ⟨by rw[li];exact lW,rfl⟩) ?_;refine dS ?_;refine⟨ab,?_⟩;refine W7 (l:=cj) (v:=.agg cj.toArray) rfl (cellsU ao (.tail _ (.head _)) (by simpa using kj)) (.inl ⟨by rw[lj];exact lW,rfl⟩) ?_;refine dS ?_;refine aE ao [0] [] [_] rfl gf rfl (cf I2 _ _ _ _ ri rj) fun v I3 qs am aj hq=>?_;obtain⟨rfl,z,rfl,hz⟩:=hq;simp only[Z3]at am |-;refine dS ?_;refine aw ?_;cases ac:bF d[m]! d[h]! with
   |false=>
    rw[ac]at hz;have w3:IntKind.i64.wrap ((h:Int)+1)=((h+1:Nat):Int):=by
     have e0:(h:Int)+1=((h+1:Nat):Int):=by omega
     rw[e0];exact wrap64 ab
    apply RG;simp only[go_sem,iv,hz,abK,w3];exact ak (h+1,j) _ _ dt bM (by simp only[go_sem,aa6,J5]) ⟨I3,_,rfl,am,abV aa aj,eF.le aq aj,by simp only;omega,by simp only;omega,hj,.inr ac,hr⟩
   |true=>
    rw[ac]at hz;apply RG;simp only[go_sem,iv,hz,abQ];exact ak (i,h) _ _ dt bM (by simp only[go_sem,aa6,J5]) ⟨I3,_,rfl,am,abV aa aj,eF.le aq aj,hi,by simp only;omega,by simp only;omega,hl,.inr ac⟩
  ·have bb:decide ((i:Int)<(j:Int))=false:=abT ab;have:i=j:=by omega
   subst this;apply bL 9;simp only[go_sem,iv,bb];exact a0 (i,i) _ _ bM (by simp only[go_sem,aa6,J5]) ⟨I2,A2,rfl,ao,aa,aq,hi,hj,hl,hr⟩
 rintro⟨i,j⟩ H ⟨I2,A2,rfl,ao,aa,aq,hi,a7,hl,hr⟩;simp only at hi a7 hl hr;simp only[J5];refine dP ?_;refine aA (fun k=>k) (WQ (.slice (some ⟨g0,0,none⟩) d.size vk) (iv i)) (fun k H=>∃A3 e,H=U [I2,A3]/\Dj [I2,A3]/\i<=k/\k<=m/\e.size=d.size/\eF I2 A3 (.slice (some ⟨g0,0,none⟩) d.size vk) e.toList/\MvD m k d e/\PermIn a b d e) m bM (by simp only[go_sem,aa6,WQ]) ?_ ?_
 ·exact⟨A2,d,rfl,ao,a7,ZR _,rfl,aq,MvD.zero _ _,permIn_refl _ _ _⟩
 rintro k H ⟨A3,e,rfl,am,b6,b1,a6,bs,bd,bc⟩ an;simp only[WQ];rcases aaf i k with b0|b3
 ·obtain⟨k,rfl⟩:∃k',k=k'+1:=⟨k-1,ab⟩;have ba:decide (((k+1:Nat):Int)>(i:Int))=true:=abU ab;have w5:=mG (j:=k) ab;apply RG;simp only[go_sem,iv,ba];obtain⟨g,cp,cur,ci,cj,ev,rfl,a9,ri,rj,li,lj,ki,kj,aS⟩:=Ow.two bs (fun{I} c a h=>eG.len c a h) (fun{I J c a} h k=>eG.le h k) (i:=k+1) (j:=k) ab ab;rw[a6]at ev a9;simp only[Value.slice.injEq,ZW,Addr.mk.injEq,abC,acT]at ev;obtain⟨eg,ek⟩:=ev;subst eg;subst ek;have mi:((k+1)+1)*4<=d.size*4:=aaQ _ ab;have mj:(k+1)*4<=d.size*4:=aaQ _ ab;refine eP [0,1,2,3,4,5,6,7,8,9,10,11,12,13,14,15,16,17] [9,13] [] ?_;apply au;simp only[go_sem,iv,w5];refine⟨ab,?_⟩;refine W7 (l:=cj) (v:=.agg cj.toArray) rfl (cellsU am (.tail _ (.head _)) (by simpa using kj)) (.inl ⟨by rw[lj];exact lW,rfl⟩) ?_;apply au;simp only[go_sem,iv,w5];refine⟨ab,?_⟩;refine W7 (l:=ci) (v:=.agg ci.toArray) rfl (cellsU am (.tail _ (.head _)) (by simpa using ki)) (.inl ⟨by rw[li];exact lW,rfl⟩) ?_;apply au;simp only[go_sem,iv,w5];refine⟨ab,?_⟩;refine aQ am rfl rfl rfl rfl rfl (ag (eG.ones rj)) (by rw[lj];exact yM) (by rw[lj];omega) fun b4=>?_;apply au;simp only[go_sem,iv,w5];refine⟨ab,?_⟩;refine aQ b4 rfl rfl rfl rfl rfl (ag (eG.ones ri)) (by rw[li];exact yM) (by rw[li];simp[aX];omega) fun b5=>?_;refine aw ?_;apply RG;simp only[go_sem,iv,w5];exact an k _ _ ab bM (by simp only[go_sem,aa6,WQ]) ⟨_,_,rfl,b5,ab,ab,by rw[al];exact a6,aS I2 (abW _),bd.step a6 b1 ab,permIn_trans _ _ _ a b bc (swp_permIn _ a b _ _ ab ab ab ab ab)⟩
 ·have ba:decide ((k:Int)>(i:Int))=false:=abT ab;have:k=i:=by omega
  subst this;apply RG;simp only[go_sem,iv,ba];exact af rfl am (r:=[]) rfl aa ⟨A3,e,rfl,bs,bc,P1 n8 bx hs hi a7 hl hr bd⟩
theorem ab1:∀(N:Nat) {I A:PH} {v vc:Value} {d:Array cO} {a m b:Nat},b-a<N->eF I A v d.toList->mC eG bF vc->a<m->m<b->b<=d.size->d.size<=aN->SortedIn bF a m d->SortedIn bF m b d->
  aK Tryz.prog 284 #[v,iv a,iv m,iv b,vc] I [A] (MZ v d a b):=by
 intro N
 induction N with
 |zero=>intro I A v vc d a m b h;omega
 |succ N ih=>
 intro I A v vc d a m b hN hA hc c9 cA hb hn cx ct;by_cases c1:m=a+1
 ·exact aco hA hc c1 cA hb hn ct
 by_cases c2:b=m+1
 ·exact acm hA hc ab c2 hb hn cx
 intro hd;have c5:=hn;unfold aN at c5;obtain⟨f,fst,cap,rfl,gf,cf⟩:=id hc;obtain⟨g0,vk,rfl⟩:=Ow.addr hA ab;refine ah 220 Tryz.func284 fun w0=>?_
 try simp only[iv]
 have w1:IntKind.i64.wrap ((m:Int)-(a:Int))=((m-a:Nat):Int):=by
  rw[cH ab ab];omega
 have w2:IntKind.i64.wrap ((b:Int)-(m:Int))=((b-m:Nat):Int):=by
  rw[cH ab ab];omega
 have q1:(((m-a:Nat):Int) == 1)=false:=by rw[abS];omega
 have q2:(((b-m:Nat):Int) == 1)=false:=by rw[abS];omega
 have a1:(a:Int)+(b:Int)=((a+b:Nat):Int):=by omega
 have a2:=wrap64 (n:=a+b) ab;have a3:=qq (n:=a+b) ab;have a4:ut .u64 (((a+b:Nat)):Int) 1=(((a+b) / 2:Nat):Int):=by
  have:=C0 (a:=a+b) (i:=1) ab;rw[abs]at this;exact this
 obtain⟨mid,emid⟩:∃mid,mid=(a+b) / 2:=⟨_,rfl⟩;rw[<-emid]at a4;have a5:=wrap64 (n:=mid) ab;have w3:IntKind.i64.wrap ((mid:Int)+(m:Int))=((mid+m:Nat):Int):=by
  have e0:(mid:Int)+(m:Int)=((mid+m:Nat):Int):=by omega
  rw[e0];exact wrap64 ab
 have w4:IntKind.i64.wrap (((mid+m:Nat):Int)-1)=((mid+m-1:Nat):Int):=by
  have e0:((mid+m:Nat):Int)-1=((mid+m-1:Nat):Int):=by omega
  rw[e0];exact wrap64 ab
 obtain⟨s0,r0,ds,dv⟩:∃s0 r0,(m>mid/\s0=mid+m-b\/m<=mid/\s0=a)/\(m>mid/\r0=mid\/m<=mid/\r0=m):=by
  rcases aaf mid m with h|h
  ·exact⟨mid+m-b,mid,.inl ⟨h,rfl⟩,.inl ⟨h,rfl⟩⟩
  ·exact⟨a,m,.inr ⟨h,rfl⟩,.inr ⟨h,rfl⟩⟩
 have b6:s0<=r0/\a<=s0/\r0<=m/\r0<=mid/\mid+m-s0<=b:=by omega
 apply sA (nC (.slice (some ⟨g0,0,none⟩) d.size vk) (iv a) (iv m) (iv b) (.func (.func f) fst cap) (iv mid) (iv (mid+m)) (iv (mid+m-1)) (s0,r0)) (fun H=>H=U [I,A])
 ·intro aa;rcases aaf mid m with c6|c6
  ·have bs:decide ((m:Int)>(mid:Int))=true:=abU ab;have es:s0=mid+m-b:=by omega
   have er:r0=mid:=by omega
   have w5:IntKind.i64.wrap (((mid+m:Nat):Int)-(b:Int))=((mid+m-b:Nat):Int):=by
    rw[cH ab ab];omega
   apply bL 67;simp only[go_sem,w1,w2,q1,q2,a1,a2,a3,a4,a5,w3,w4,bs,w5];refine fD ?_ ?_ (aa _ rfl)
   ·simp only[nC];rw[es,er];exact bM
   ·exact(by simp only[go_sem,aa6,nC])
  ·have bs:decide ((m:Int)>(mid:Int))=false:=abT ab;have es:s0=a:=by omega
   have er:r0=m:=by omega
   apply bL 65;simp only[go_sem,w1,w2,q1,q2,a1,a2,a3,a4,a5,w3,w4,bs];refine fD ?_ ?_ (aa _ rfl)
   ·simp only[nC];rw[es,er];exact bM
   ·exact(by simp only[go_sem,aa6,nC])
 rintro H rfl;simp only[nC];refine dP ?_;apply dF (fun x=>x.2-x.1) (fun x=>nC (.slice (some ⟨g0,0,none⟩) d.size vk) (iv a) (iv m) (iv b) (.func (.func f) fst cap) (iv mid) (iv (mid+m)) (iv (mid+m-1)) x) (fun x H=>∃I2 A2,H=U [I2,A2]/\Dj [I2,A2]/\I.le I2/\eF I2 A2 (.slice (some ⟨g0,0,none⟩) d.size vk) d.toList/\s0<=x.1/\x.1<=x.2/\x.2<=r0/\(x.1=s0\/bF d[mid+m-x.1]! d[x.1-1]! = false)/\(x.2=r0\/bF d[mid+m-x.2-1]! d[x.2]! = true)) (fun x H=>∃I2 A2,H=U [I2,A2]/\Dj [I2,A2]/\I.le I2/\eF I2 A2 (.slice (some ⟨g0,0,none⟩) d.size vk) d.toList/\s0<=x.1/\x.1<=r0/\(x.1=s0\/bF d[mid+m-x.1]! d[x.1-1]! = false)/\(x.1=r0\/bF d[mid+m-x.1-1]! d[x.1]! = true)) (s0,r0)
 ·exact bM
 ·exact(by simp only[go_sem,aa6,nC])
 ·exact⟨I,A,rfl,hd,abW _,hA,ZR _,b6.1,ZR _,.inl rfl,.inl rfl⟩
 ·rintro⟨i,j⟩ H ⟨I2,A2,rfl,a6,aj,a7,hi,c7,hj,hl,hr⟩ a0 ca;simp only at hi c7 hj hl hr;simp only[nC];rcases aaf i j with dw|dx
  ·have bd:decide ((i:Int)<(j:Int))=true:=abU ab;have b1:(i:Int)+(j:Int)=((i+j:Nat):Int):=by omega
   have b2:=wrap64 (n:=i+j) ab;have b3:=qq (n:=i+j) ab;have b4:ut .u64 (((i+j:Nat)):Int) 1=(((i+j) / 2:Nat):Int):=by
    have:=C0 (a:=i+j) (i:=1) ab;rw[abs]at this;exact this
   obtain⟨h,eh⟩:∃h,h=(i+j) / 2:=⟨_,rfl⟩;rw[<-eh]at b4;have b5:=wrap64 (n:=h) ab;have w7:IntKind.i64.wrap (((mid+m-1:Nat):Int)-(h:Int))=((mid+m-1-h:Nat):Int):=by
    rw[cH ab ab];omega
   apply RG;simp only[go_sem,iv,bd,b1,b2,b3,b4,b5];obtain⟨g,cp,cur,ci,cj,ev,rfl,c8,ri,rj,li,lj,ki,kj,c0⟩:=Ow.two a7 (fun{I} c a h=>eG.len c a h) (fun{I J c a} h k=>eG.le h k) (i:=mid+m-1-h) (j:=h) ab ab;rw[(show d.size=d.size from rfl)]at ev c8;simp only[Value.slice.injEq,ZW,Addr.mk.injEq,abC,acT]at ev;obtain⟨eg,ek⟩:=ev;subst eg;subst ek;refine eP [0,1,2,3,4,5,6,7,8,9,10,11,12,13] [6,10] [] ?_;apply au;simp only[go_sem,iv,w7];refine⟨ab,?_⟩;refine W7 (l:=ci) (v:=.agg ci.toArray) rfl (cellsU a6 (.tail _ (.head _)) (by simpa using ki)) (.inl ⟨by rw[li];exact lW,rfl⟩) ?_;apply au;simp only[go_sem,iv,w7];refine⟨ab,?_⟩;refine W7 (l:=cj) (v:=.agg cj.toArray) rfl (cellsU a6 (.tail _ (.head _)) (by simpa using kj)) (.inl ⟨by rw[lj];exact lW,rfl⟩) ?_;apply au;simp only[go_sem,iv,w7];refine aE a6 [0] [] [_] rfl gf rfl (cf I2 _ _ _ _ ri rj) fun v I3 qs aq ac hq=>?_;obtain⟨rfl,z,rfl,hz⟩:=hq;simp only[Z3]at aq |-;refine dS ?_;refine aw ?_;cases aS:bF d[mid+m-1-h]! d[h]! with
   |false=>
    rw[aS]at hz;have w8:IntKind.i64.wrap ((h:Int)+1)=((h+1:Nat):Int):=by
     have e0:(h:Int)+1=((h+1:Nat):Int):=by omega
     rw[e0];exact wrap64 ab
    apply RG;simp only[go_sem,iv,hz,abK,w8];exact a0 (h+1,j) _ _ dt bM (by simp only[go_sem,aa6,nC]) ⟨I3,_,rfl,aq,abV aj ac,eF.le a7 ac,by simp only;omega,by simp only;omega,hj,.inr (by simp only;rw[show mid+m-(h+1)=mid+m-1-h by omega];exact aS),hr⟩
   |true=>
    rw[aS]at hz;apply RG;simp only[go_sem,iv,hz,abQ];exact a0 (i,h) _ _ dt bM (by simp only[go_sem,aa6,nC]) ⟨I3,_,rfl,aq,abV aj ac,eF.le a7 ac,hi,by simp only;omega,by simp only;omega,hl,.inr (by simp only;rw[show mid+m-h-1=mid+m-1-h by omega];exact aS)⟩
  ·have bd:decide ((i:Int)<(j:Int))=false:=abT ab;have:i=j:=by omega
   subst this;apply bL 9;simp only[go_sem,iv,bd];exact ca (i,i) _ _ bM (by simp only[go_sem,aa6,nC]) ⟨I2,A2,rfl,a6,aj,a7,hi,hj,hl,hr⟩
 rintro⟨s,j⟩ H ⟨I2,A2,rfl,a6,aj,a7,hi,hj,hl,hr⟩;simp only at hi hj hl hr;simp only[nC];have cm:a<=s/\s<=m/\s<=mid/\m<=mid+m-s/\mid+m-s<=b/\mid<=mid+m-s:=by omega
 have w9:IntKind.i64.wrap (((mid+m:Nat):Int)-(s:Int))=((mid+m-s:Nat):Int):=by
  rw[cH ab ab];omega
 obtain⟨z,ez⟩:∃z,z=mid+m-s:=⟨_,rfl⟩;rw[<-ez]at w9 hl hr cm;apply sA (QP (.slice (some ⟨g0,0,none⟩) d.size vk) (iv a) (iv b) (.func (.func f) fst cap) (iv mid) (iv s) (iv z)) (fun H=>∃I3 A3 e,H=U [I3,A3]/\Dj [I3,A3]/\I.le I3/\eF I3 A3 (.slice (some ⟨g0,0,none⟩) d.size vk) e.toList/\PermIn a b d e/\AF m (m-s) (z-m) d e)
 ·intro aa;by_cases c3:s<m/\m<z
  ·have ao:decide ((s:Int)<(m:Int))=true:=abU ab;have bc:decide ((m:Int)<(z:Int))=true:=abU ab;apply RG;simp only[go_sem,iv,w9,ao,bc];refine ad a6 [0] [A2] [] rfl S9 rfl (acu (a:=s) (m:=m) (b:=z) a7 c3.1 c3.2 ab hn) fun v I3 qs aq ac hq=>?_;obtain⟨A3,e,rfl,cc,b0,cr⟩:=hq;simp only[Z3]at aq |-;apply bL 1;simp only[go_sem,iv];refine fD ?_ ?_ (aa _ ⟨I3,A3,e,rfl,aq,abV aj ac,cc,permIn_mono _ _ s z a b ab ab hb b0,cr⟩)
   ·exact bM
   ·exact(by simp only[go_sem,aa6,QP])
  ·have cy:m-s=0\/z-m=0:=by omega
   rcases aaf s m with c4|c4
   ·have ao:decide ((s:Int)<(m:Int))=true:=abU ab;have bc:decide ((m:Int)<(z:Int))=false:=abT ab;apply bL 21;simp only[go_sem,iv,w9,ao,bc];refine fD ?_ ?_ (aa _ ⟨I2,A2,d,rfl,a6,aj,a7,permIn_refl _ _ _,AF.triv cy ab⟩)
    ·exact bM
    ·exact(by simp only[go_sem,aa6,QP])
   ·have ao:decide ((s:Int)<(m:Int))=false:=abT ab;apply bL 21;simp only[go_sem,iv,w9,ao];refine fD ?_ ?_ (aa _ ⟨I2,A2,d,rfl,a6,aj,a7,permIn_refl _ _ _,AF.triv cy ab⟩)
    ·exact bM
    ·exact(by simp only[go_sem,aa6,QP])
 rintro H ⟨I3,A3,e,rfl,aq,ac,cc,b0,cr⟩;have dk:=b0.1;rw[ez]at cr hl hr;obtain⟨y1,y2,y3,y4,y5⟩:=SN n8 (aar c9) (aar cA) cx ct emid cm.1 cm.2.1 cm.2.2.1 ab ab ⟨fun hm=>by
  rcases hl with h|h
  ·exact .inl ab
  ·exact .inr (.inr h),fun hm=>by
  rcases hl with h|h
  ·exact .inl ab
  ·exact .inr h⟩ (by
  rcases hr with h|h
  ·refine .inl ?_;split<;>omega
  ·exact .inr h) cr
 rw[<-ez]at y3 y4;simp only[QP];apply sA (Ri (.slice (some ⟨g0,0,none⟩) d.size vk) (iv b) (.func (.func f) fst cap) (iv mid) (iv z)) (fun H=>∃I4 A4 e2,H=U [I4,A4]/\Dj [I4,A4]/\I.le I4/\eF I4 A4 (.slice (some ⟨g0,0,none⟩) d.size vk) e2.toList/\PermIn a mid e e2/\SortedIn bF a mid e2)
 ·intro aa;by_cases c3:a<s/\s<mid
  ·have an:decide ((a:Int)<(s:Int))=true:=abU ab;have bb:decide ((s:Int)<(mid:Int))=true:=abU ab;apply RG;simp only[go_sem,iv,an,bb];refine ad aq [0] [A3] [] rfl n7 rfl (ih (a:=a) (m:=s) (b:=mid) ab cc hc c3.1 c3.2 ab ab y1 y2) fun v I4 qs bx ak hq=>?_;obtain⟨A4,e2,rfl,cb,a9,cn⟩:=hq;simp only[Z3]at bx |-;apply bL 1;simp only[go_sem,iv];refine fD ?_ ?_ (aa _ ⟨I4,A4,e2,rfl,bx,abV ac ak,cb,a9,cn⟩)
   ·exact bM
   ·exact(by simp only[go_sem,aa6,Ri])
  ·have cl:SortedIn bF a mid e:=by
    rcases aaf a s with h|h
    ·have:s=mid:=by omega
     rw[<-this];exact y1
    ·have:s=a:=by omega
     rw[<-this];exact y2
   rcases aaf a s with c4|c4
   ·have an:decide ((a:Int)<(s:Int))=true:=abU ab;have bb:decide ((s:Int)<(mid:Int))=false:=abT ab;apply bL 14;simp only[go_sem,iv,an,bb];refine fD ?_ ?_ (aa _ ⟨I3,A3,e,rfl,aq,ac,cc,permIn_refl _ _ _,cl⟩)
    ·exact bM
    ·exact(by simp only[go_sem,aa6,Ri])
   ·have an:decide ((a:Int)<(s:Int))=false:=abT ab;apply bL 14;simp only[go_sem,iv,an];refine fD ?_ ?_ (aa _ ⟨I3,A3,e,rfl,aq,ac,cc,permIn_refl _ _ _,cl⟩)
    ·exact bM
    ·exact(by simp only[go_sem,aa6,Ri])
 rintro H ⟨I4,A4,e2,rfl,bx,ak,cb,a9,cn⟩;have dj:=a9.1;simp only[Ri];have tr:∀x y,mid<=x->SortedIn bF x y e->SortedIn bF x y e2:=fun x y hx h i j h1 h2 h3=>by
  rw[a9.2.1 i (.inr ab),a9.2.1 j (.inr ab)];exact h i j h1 h2 h3
 by_cases c3:mid<z/\z<b
 ·have am:decide ((mid:Int)<(z:Int))=true:=abU ab;have ba:decide ((z:Int)<(b:Int))=true:=abU ab;apply RG;simp only[go_sem,iv,am,ba];refine ad bx [0] [A4] [] rfl n7 rfl (ih (a:=mid) (m:=z) (b:=b) ab cb hc c3.1 c3.2 ab ab (tr _ _ (ZR _) y3) (tr _ _ ab y4)) fun v I5 qs cB cs hq=>?_;obtain⟨A5,e3,rfl,dd,dc,da⟩:=hq;simp only[Z3]at cB |-;refine dP ?_;obtain⟨p,q⟩:=GU ab ab ab y5 a9 cn dc da;exact d8 rfl cB (r:=[]) rfl (abV ak cs) ⟨A5,e3,rfl,dd,permIn_trans _ _ _ a b b0 p,q⟩
 ·have cl:SortedIn bF mid b e2:=by
   rcases aaf mid z with h|h
   ·have:z=b:=by omega
    rw[<-this];exact tr _ _ (ZR _) y3
   ·have:z=mid:=by omega
    exact tr _ _ (ZR _) (this▸y4)
  obtain⟨p,q⟩:=GU ab ab ab y5 a9 cn (permIn_refl _ _ _) cl;rcases aaf mid z with c4|c4
  ·have am:decide ((mid:Int)<(z:Int))=true:=abU ab;have ba:decide ((z:Int)<(b:Int))=false:=abT ab;apply RG;simp only[go_sem,iv,am,ba];exact d8 rfl bx (r:=[]) rfl ak ⟨A4,e2,rfl,cb,permIn_trans _ _ _ a b b0 p,q⟩
  ·have am:decide ((mid:Int)<(z:Int))=false:=abT ab;apply RG;simp only[go_sem,iv,am];exact d8 rfl bx (r:=[]) rfl ak ⟨A4,e2,rfl,cb,permIn_trans _ _ _ a b b0 p,q⟩
def PO:aO Tryz.prog 235:=⟨_,Tryz.func235,rfl,rfl⟩
def Q6:aO Tryz.prog 167:=⟨_,Tryz.func167,rfl,rfl⟩
def PS(hA:eF I A v d.toList)(hc:mC eG bF vc)(aa:a<=b)(hb:b<=d.size)(hn:d.size<=aN):
  aK Tryz.prog 283 #[v,iv a,iv b,vc] I [A] (MZ v d a b):=
 (aci hA hc hb hn ab).mono fun r I2 qs ac ⟨A2,e1,e2⟩=>⟨A2,_,e1,e2,Sort.insertionSort_holds n8 d a b aa hb⟩
def Jl(v vn vc:Value)(a:Nat):St:=⟨dn 63 [(0,.v v),(1,.v vn),(2,.v vc),(6,.v (.int .i64 20)),(7,.v (iv a)),(8,.v (iv (a+20)))],[]⟩
def MA(v vn vc:Value)(s:Nat):St:=⟨dn 63 [(0,.v v),(1,.v vn),(2,.v vc),(6,.v (iv s))],[]⟩
def Ma(v vn vc:Value)(s a:Nat):St:=⟨dn 63 [(0,.v v),(1,.v vn),(2,.v vc),(6,.v (iv s)),(7,.v (iv a)),(8,.v (iv (a+2*s)))],[]⟩
def VV(h:a+b<2^62):IntKind.i64.wrap ((a:Int)+(b:Int))=((a+b:Nat):Int):=by
 rw[<-wrap64 h];congr 1<;>omega
def acI{s:Nat}(h:2*s<2^62):IntKind.i64.wrap (2*(s:Int))=((2*s:Nat):Int):=by
 rw[<-wrap64 h];congr 1<;>omega
def acC{s:Nat}(h:2*s<2^62):IntKind.i64.wrap ((s:Int)*2)=((2*s:Nat):Int):=by
 rw[<-wrap64 h];congr 1<;>omega
theorem RE(hA:eF I A v d.toList)(hc:mC eG bF vc)(hn:d.size<=aN):
  aK Tryz.prog 235 #[v,iv d.size,vc] I [A] (MZ v d 0 d.size):=by
 intro hd;have cx:=hn;unfold aN at cx;obtain⟨f,fst,cap,rfl,gf,cf⟩:=id hc;obtain⟨va,vk,rfl⟩:=Ow.one' hA;refine ah 63 Tryz.func235 fun w0=>?_
 try simp only[iv]
 refine aT ?_;apply dF (fun a=>d.size-a) (fun a=>Jl (.slice va d.size vk) (iv d.size) (.func (.func f) fst cap) a) (fun a H=>∃q I2 A2 e,H=U [I2,A2]/\Dj [I2,A2]/\I.le I2/\eF I2 A2 (.slice va d.size vk) e.toList/\PermIn 0 d.size d e/\a=20*q/\a<=d.size/\aL bF 20 a e) (fun a H=>∃q I2 A2 e,H=U [I2,A2]/\Dj [I2,A2]/\I.le I2/\eF I2 A2 (.slice va d.size vk) e.toList/\PermIn 0 d.size d e/\a=20*q/\a<=d.size/\d.size<a+20/\aL bF 20 a e) 0
 ·exact bM
 ·exact(by simp only[go_sem,aa6,Jl])
 ·exact⟨0,I,A,d,rfl,hd,abW _,hA,permIn_refl _ _ _,rfl,aaL _,aL.zero _ _⟩
 ·rintro a H ⟨q,I2,A2,e,rfl,bx,ak,b4,a7,ac,a5,b2⟩ aa bb;have ct:=a7.1;simp only[Jl];rcases aaf d.size (a+20)with am|a4
  ·have cm:decide (((a+20:Nat):Int)<=(d.size:Int))=false:=abT ab;apply bL 9;simp only[go_sem,iv,cm];exact bb a _ _ bM (by simp only[go_sem,aa6,Jl]) ⟨q,I2,A2,e,rfl,bx,ak,b4,a7,ac,a5,am,b2⟩
  ·have cm:decide (((a+20:Nat):Int)<=(d.size:Int))=true:=abU ab;have w1:IntKind.i64.wrap (((a+20:Nat):Int)+20)=((a+20+20:Nat):Int):=VV (b:=20) ab;apply RG;simp only[go_sem,iv,cm];refine ad bx [0] [A2] [] rfl G0 rfl (PS (a:=a) (b:=a+20) b4 hc ab ab ab) fun v I3 qs bs a1 hq=>?_;obtain⟨A3,e3,rfl,cc,a6,b5⟩:=hq;simp only[Z3]at bs |-;apply RG;simp only[go_sem,iv,w1];subst ac;exact aa (20*q+20) _ _ ab bM (by simp only[go_sem,aa6,Jl]) ⟨q+1,I3,A3,e3,rfl,bs,abV ak a1,cc,permIn_trans _ _ _ 0 d.size a7 (permIn_mono _ _ (20*q) (20*q+20) 0 d.size ab a4 ab a6),ab,a4,b2.step ab (ZR _) a6 b5⟩
 rintro a H ⟨q,I2,A2,e,rfl,bx,ak,b4,a7,ac,a5,am,b2⟩;have ct:=a7.1;simp only[Jl];refine dP ?_;refine ad bx [0] [A2] [] rfl G0 rfl (PS (a:=a) (b:=d.size) b4 hc ab ab ab) fun v I3 qs bs a1 hq=>?_;obtain⟨A3,e3,rfl,cc,a6,b5⟩:=hq;simp only[Z3]at bs |-;refine dP ?_;subst ac;have c0:aL bF 20 d.size e3:=b2.step ab ab a6 b5;have ca:=permIn_trans _ _ _ 0 d.size a7 (permIn_mono _ _ (20*q) d.size 0 d.size ab (ZR _) ab a6);clear b2 a6 b5 b4 bx am a5;have k3:=abV ak a1;refine aA (fun s=>d.size-s) (fun s=>MA (.slice va d.size vk) (iv d.size) (.func (.func f) fst cap) s) (fun s H=>∃I4 A4 e4,H=U [I4,A4]/\Dj [I4,A4]/\I.le I4/\eF I4 A4 (.slice va d.size vk) e4.toList/\PermIn 0 d.size d e4/\0<s/\aL bF s d.size e4) 20 bM (by simp only[go_sem,aa6,MA]) ?_ ?_
 ·exact⟨I3,A3,e3,rfl,bs,k3,cc,ca,ab,c0⟩
 rintro s H ⟨I4,A4,e4,rfl,cn,ba,cr,b6,a9,cp⟩ aa;have c1:=b6.1;simp only[MA];rcases aaf s d.size with c2|cB
 rotate_left
 ·have cl:decide ((s:Int)<(d.size:Int))=false:=abT ab;apply RG;simp only[go_sem,iv,cl];exact d8 rfl cn (r:=[]) rfl ba ⟨A4,e4,rfl,cr,b6,cp.all cB⟩
 have cl:decide ((s:Int)<(d.size:Int))=true:=abU ab;have w2:=acI (s:=s) ab;have w3:=acC (s:=s) ab;apply RG;simp only[go_sem,iv,cl,w2];apply dF (fun a=>d.size-a) (fun a=>Ma (.slice va d.size vk) (iv d.size) (.func (.func f) fst cap) s a) (fun a H=>∃q I5 A5 e5,H=U [I5,A5]/\Dj [I5,A5]/\I.le I5/\eF I5 A5 (.slice va d.size vk) e5.toList/\PermIn 0 d.size d e5/\a=2*s*q/\a<=d.size/\aL bF (2*s) a e5/\IA bF s a d.size e5) (fun a H=>∃q I5 A5 e5,H=U [I5,A5]/\Dj [I5,A5]/\I.le I5/\eF I5 A5 (.slice va d.size vk) e5.toList/\PermIn 0 d.size d e5/\a=2*s*q/\a<=d.size/\d.size<a+2*s/\aL bF (2*s) a e5/\IA bF s a d.size e5) 0
 ·exact(bJ (by simp only[go_sem,aa6,iv,ZZ]))
 ·exact(by simp only[go_sem,aa6,Ma])
 ·exact⟨0,I4,A4,e4,rfl,cn,ba,cr,b6,by simp,aaL _,aL.zero _ _,cp.runs⟩
 ·rintro a H ⟨q,I5,A5,e5,rfl,bd,aj,b3,a3,ac,a5,an,aq⟩ aS a2;have cs:=a3.1;have p1:s*(2*q)=a:=by rw[ac,Nat.mul_left_comm,Nat.mul_assoc]
  have p2:s*(2*q+1)=a+s:=by rw[Nat.mul_add,Nat.mul_one,p1]
  simp only[Ma];rcases aaf d.size (a+2*s)with am|a4
  ·have cj:decide (((a+2*s:Nat):Int)<=(d.size:Int))=false:=abT ab;apply bL 9;simp only[go_sem,iv,cj];exact a2 a _ _ bM (by simp only[go_sem,aa6,Ma]) ⟨q,I5,A5,e5,rfl,bd,aj,b3,a3,ac,a5,am,an,aq⟩
  ·have cj:decide (((a+2*s:Nat):Int)<=(d.size:Int))=true:=abU ab;have w4:=VV (a:=a) (b:=s) ab;have w5:=VV (a:=a+2*s) (b:=2*s) ab;have y1:=aq.at' a9 ab (y:=a+s) (q:=2*q) ab ab;have y2:=aq.at' a9 ab (y:=a+2*s) (q:=2*q+1) ab a4;rw[p1]at y1;rw[p2]at y2;apply RG;simp only[go_sem,iv,cj,w4];refine ad bd [0] [A5] [] rfl n7 rfl (ab1 (a+2*s-a+1) (a:=a) (m:=a+s) (b:=a+2*s) ab b3 hc ab ab ab ab y1 y2) fun v I6 qs bc a0 hq=>?_;obtain⟨A6,e6,rfl,cb,ao,b0⟩:=hq;simp only[Z3]at bc |-;apply RG;simp only[go_sem,iv,w2,w5];have b1:aL bF (2*s) (a+2*s) e6:=by
    rw[ac]at an ao b0 |-;exact an.step ab (ZR _) ao b0
   exact aS (a+2*s) _ _ ab bM (by simp only[go_sem,aa6,Ma]) ⟨q+1,I6,A6,e6,rfl,bc,abV aj a0,cb,permIn_trans _ _ _ 0 d.size a3 (permIn_mono _ _ a (a+2*s) 0 d.size ab a4 ab ao),by rw[Nat.mul_add,Nat.mul_one,<-ac],a4,b1,aq.keep ab fun k hk=>ao.2.1 k (.inr hk)⟩
 rintro a H ⟨q,I5,A5,e5,rfl,bd,aj,b3,a3,ac,a5,am,an,aq⟩;have cs:=a3.1;have p1:s*(2*q)=a:=by rw[ac,Nat.mul_left_comm,Nat.mul_assoc]
 have p2:s*(2*q+1)=a+s:=by rw[Nat.mul_add,Nat.mul_one,p1]
 have w4:=VV (a:=a) (b:=s) ab;simp only[Ma];rcases aaf (a+s) d.size with cy|cA
 ·have ci:decide (((a+s:Nat):Int)<(d.size:Int))=true:=abU ab;have y1:=aq.at' a9 ab (y:=a+s) (q:=2*q) ab ab;have y2:=aq.at' a9 ab (y:=d.size) (q:=2*q+1) ab (ZR _);rw[p1]at y1;rw[p2]at y2;apply RG;simp only[go_sem,iv,w4,ci];refine ad bd [0] [A5] [] rfl n7 rfl (ab1 (d.size-a+1) (a:=a) (m:=a+s) (b:=d.size) ab b3 hc ab ab ab ab y1 y2) fun v I6 qs bc a0 hq=>?_;obtain⟨A6,e6,rfl,cb,ao,b0⟩:=hq;simp only[Z3]at bc |-;apply RG;simp only[go_sem,iv,w3];have b1:aL bF (2*s) d.size e6:=by
   rw[ac]at an ao b0 am;exact an.step ab ab ao b0
  exact aa (2*s) _ _ ab bM (by simp only[go_sem,aa6,MA]) ⟨I6,A6,e6,rfl,bc,abV aj a0,cb,permIn_trans _ _ _ 0 d.size a3 (permIn_mono _ _ a d.size 0 d.size ab (ZR _) ab ao),ab,b1⟩
 ·have ci:decide (((a+s:Nat):Int)<(d.size:Int))=false:=abT ab;have y1:=aq.at' a9 ab (y:=d.size) (q:=2*q) ab (ZR _);rw[p1]at y1;apply RG;simp only[go_sem,iv,w4,ci,w3];have b1:aL bF (2*s) d.size e5:=by
   rw[ac]at an y1 am;exact an.rest ab y1 ab
  exact aa (2*s) _ _ ab bM (by simp only[go_sem,aa6,MA]) ⟨I5,A5,e5,rfl,bd,aj,b3,a3,ab,b1⟩
def Cw(hA:eF I A v d.toList)(hc:mC eG bF vc)(hn:d.size<=aN):
  aK Tryz.prog 167 #[v,vc] I [A] (MZ v d 0 d.size):=by
 intro hd;obtain⟨f,fst,cap,rfl,gf,cf⟩:=id hc;obtain⟨va,vk,rfl⟩:=Ow.one' hA;refine ah 9 Tryz.func167 fun w0=>?_;refine aT ?_;refine ad hd [0] [A] [] rfl PO rfl (RE hA hc hn) fun v I2 qs ac aa hq=>?_;obtain⟨A2,e2,rfl,am,ak,aj⟩:=hq;simp only[Z3]at ac |-;refine aT ?_;exact d8 rfl ac (r:=[]) rfl aa ⟨A2,e2,rfl,am,ak,aj⟩
def Sr:aO Tryz.prog 95:=⟨_,Tryz.func95,rfl,rfl⟩
def PG:aO Tryz.prog 164:=⟨_,Tryz.func164,rfl,rfl⟩
def PQ:aO Tryz.prog 165:=⟨_,Tryz.func165,rfl,rfl⟩
def Gn:aO Tryz.prog 166:=⟨_,Tryz.func166,rfl,rfl⟩
def Pf:aO Tryz.prog 234:=⟨_,Tryz.func234,rfl,rfl⟩
variable{size:Nat}{e:TypeId}
def Ow.elem{R:PH->List Value->α->Prop}{l:List α}(h:Ow R e size I A v l)(hR:∀{I} c a,R I c a->c.length=size)(ak:∀{I J c a},R I c a->I.le J->R J c a){x:α}(hi:l[i]?=some x):
  ∃g cap cur c,v=.slice (some ⟨g,0,none⟩) l.length cap/\A=sg g (.cells cur e (0,0))/\l.length*size<=cur.size/\l.length<=cap/\R I c x/\c.length=size/\aP A g (i*size) c/\
   ∀J c' y,I.le J->R J c' y->Ow R e size J (sg g (.cells (br cur.toList (i*size) c').toArray e (0,0))) v (l.set i y):=by
 have ac:=(List.getElem?_eq_some_iff.1 hi).1;obtain⟨g,cap,cur,xs,ev,rfl,c1,c2,c3,c4,c5,aj⟩:=h.open' ab fun c a k=>hR c a k;have ao:l.length*size<=cap*size:=aaQ _ c1;have an:(i+1)*size<=l.length*size:=aaQ _ ac;rw[aaP,abj]at an;have hg:=aj.get (fun c a k=>hR c a k) hi;have aa:=hR _ _ hg;have hc:=gQ (k:=0) (m:=size) (e:=e) (g:=g) (cur:=cur) (fun c a k=>hR c a k) aj ac ab c4 rfl ab;refine⟨g,cap,cur,_,ev,rfl,ab,c1,hg,aa,?_,?_⟩
 ·simpa[aa,aa4]using hc
 ·intro J c' y hJ hy;have am:=hR _ _ hy;refine⟨br xs (i*size+0) c',?_,?_⟩
  ·rw[ev,aa0];exact oI c5 c1 c2 c3 c4 ab
  ·refine om (fun c a k=>hR c a k) (aj.mono fun _ _ h=>ak h hJ) ac rfl ab ?_;have:br ((xs.drop (i*size)).take size) 0 c'=c':=by
    rw[fE _ _ _ ab];simp[aa,am]
   rw[this];exact hy
def Mq:Tryz.prog.underlying 34=some (.slice 80):=by obtain⟨i,z,h,_⟩:=vP;exact h
variable{l:List cO}
def L8(hS:Sl eG I v l)(hl:l.length<=aN):aK Tryz.prog 165 #[v] I [] fun r I2 qs=>∃A,qs=[A]/\eF I2 A r l:=by
 intro hd;obtain⟨fa,fc,rfl,ak⟩:=id hS;unfold aN at hl;refine ah 8 Tryz.func165 fun w0=>?_;cases fa with
 |none=>
  have am:l=[]:=by
   rcases ak with h|⟨b,off,xs,e,_⟩
   ·exact h
   ·cases e
  subst am;refine aT ?_;refine nG rfl rfl (by exact Mq) rfl rfl ?_;apply RG;simp only[go_sem,Option.isNone];refine aR hd fun aj=>?_;exact af rfl aj (r:=[_]) rfl (abW _) ⟨_,rfl,Ow.nil _ _ _ _⟩
 |some a=>
  refine aT ?_;refine nG rfl rfl (by exact Mq) rfl rfl ?_;apply RG;simp only[go_sem,Option.isNone];refine fx hd (by exact vP) rfl rfl rfl rfl rfl bg fun b A aj aa=>?_;refine aT ?_;refine bl aj (by exact vP) (xs:=([]:List cO)) (R:=eG) ⟨[],aa,rfl⟩ hS (fun{I J c a} h k=>eG.le h k) (fun{I} c a h=>eG.len c a h) (fun{I} c a h=>eG.ones h) rfl rfl rfl rfl (by simp only[aaO];omega) (by simp only[aaO];unfold maxLen;omega) fun na nc I2 A2 an ac ao=>?_;apply RG;simp only[go_sem,aaA];exact af rfl an (r:=[_]) rfl ac ⟨_,rfl,ao⟩
variable{H:PH}
def NK{c:List Value}{d:cO}(h:eG I c d):bO Tryz.prog 166 #[.agg c.toArray] H fun v H2=>v=.bool (decide (d.cond=ff))/\H2=H:=by
 obtain⟨a,k,rfl,hr⟩:=h;refine ah 6 Tryz.func166 fun w0=>?_
 try simp only[sD,rD,iv]
 refine lY ?_;refine WZ rfl jt (gO hr) fun v H2 hv=>?_;obtain⟨rfl,rfl⟩:=hv;refine aT ?_;exact aJ (r:=[_]) rfl ⟨rfl,rfl⟩
def Wr(v vf:Value)(n i:Nat):St:=⟨dn 19 [(0,.v v),(1,.v vf),(6,.v v),(7,.v (iv n)),(8,.v (iv i))],[]⟩
def Y4(l:List cO)(r:Value):Prop:=(∀d∈l,d.cond≠ff)/\r=.int .i64 (-1)\/∃i d,l[i]?=some d/\d.cond=ff/\(∀x∈l.take i,x.cond≠ff)/\r=iv i
def Q5(hA:eF I A v l)(hl:l.length<=aN):aK Tryz.prog 234 #[v,.func (.func 166) #[] #[]] I [A] fun r I2 qs=>qs=[A]/\I2=I/\Y4 l r:=by
 intro hd;unfold aN at hl;obtain⟨va,vc,rfl⟩:=hA.shape;refine ah 19 Tryz.func234 fun w0=>?_;refine aT ?_;refine aA (fun i=>l.length-i) (Wr (.slice va l.length vc) (.func (.func 166) #[] #[]) l.length) (fun i H=>H=U [I,A]/\i<=l.length/\∀x∈l.take i,x.cond≠ff) 0 bM (by simp only[go_sem,aa6,Wr]) ?_ ?_
 ·exact⟨rfl,aaL _,fun x hx=>by simp at hx⟩
 rintro i H ⟨rfl,hi,hn⟩ aa;simp only[Wr];rcases aaf i l.length with ak|ao
 ·have h9:decide ((i:Int)<(l.length:Int))=true:=abU ab;have e1:IntKind.i64.wrap ((i:Int)+1)=((i+1:Nat):Int):=by rw[<-wrap64 (n:=i+1) ab];congr 1
  obtain⟨d,aj⟩:∃d,l[i]?=some d:=⟨_,aak ak⟩;obtain⟨g,cap,cur,c,ev,rfl,c1,c2,hc,an,ac,_⟩:=hA.elem (fun{I} c a h=>eG.len c a h) (fun{I J c a} h k=>eG.le h k) aj;cases ev
  apply RG;simp only[go_sem,iv,h9];refine⟨ab,?_⟩;refine XN (l:=c) (v:=.agg c.toArray) rfl (by simpa using cellsU hd (.tail _ (.head _)) ac) (.inl ⟨by rw[an];exact lW,rfl⟩) ?_;refine dP ?_;refine WZ rfl Gn (NK hc) fun v H2 hv=>?_;obtain⟨rfl,rfl⟩:=hv;cases hb:decide (d.cond=ff)
  ·apply RG;simp only[go_sem,iv,e1];have am:d.cond≠ff:=abN hb;exact aa (i+1) _ _ ab bM (by simp only[go_sem,aa6,Wr]) ⟨rfl,ak,fun x hx=>by
    rw[db aj]at hx;rcases List.mem_append.1 hx with h|h
    ·exact hn x h
    ·rw[List.mem_singleton.1 h];exact am⟩
  ·refine dP ?_;exact af rfl hd (r:=[iv i]) rfl (abW _) ⟨rfl,rfl,.inr ⟨i,d,aj,abl hb,hn,rfl⟩⟩
 ·have:i=l.length:=by omega
  subst this;have h9:=Z6 l.length;rw[aaS]at hn;apply RG;simp only[go_sem,iv,h9];exact af rfl hd (r:=[.int .i64 (-1)]) rfl (abW _) ⟨rfl,rfl,.inl ⟨hn,rfl⟩⟩
def mZ(l:List cO):List cO:=l.filter fun d=>decide (d.cond≠ff)
def uA(a b:List cO):mZ (a++b)=mZ a++mZ b:=List.filter_append ..
def zd(h:∀d∈l,d.cond≠ff):mZ l=l:=List.filter_eq_self.2 fun d hd=>abU (h d hd)
def V1(v vf:Value)(i j:Nat):St:=⟨dn 42 [(0,.v v),(1,.v vf),(5,.v (iv i)),(6,.v (iv j))],[]⟩
def Ow.short{R:PH->List Value->α->Prop}{g cap:Nat}{cur:Array Value}{l:List α}{ys:List Value}{n:Nat}(h:Ow R e size I (sg g (.cells cur e (0,0))) (.slice (some ⟨g,0,none⟩) n cap) l)(hR:∀{I} c a,R I c a->c.length=size)(ak:l.length=n)(hn:0<n)(hi:i<=n)(hy:ys.length=(n-i)*size):
  Ow R e size I (sg g (.cells (br cur.toList (i*size) ys).toArray e (0,0))) (.slice (some ⟨g,0,none⟩) i cap) (l.take i):=by
 subst ak;obtain⟨g',cap',cur',xs,ev,eA,c1,c2,c3,c4,c5,aj⟩:=h.open' hn fun c a k=>hR c a k;cases ev
 have eo:(.cells cur e (0,0):Obj)=.cells cur' e (0,0):=by
  have:=congrFun eA g;simp only[sg,ZT,ZW]at this;exact this
 cases eo
 have aq:l.length*size<=cap*size:=aaQ _ c1;have am:i*size<=l.length*size:=aaQ _ hi;have ac:=(LR.split (fun c a k=>hR c a k) i aj).1;have ao:i*size+(l.length-i)*size=l.length*size:=by rw[<-aaP];congr 1;omega
 have aa:(xs.take (i*size)).length=i*size:=by rw[abF,c5];omega
 have an:(br cur.toList (i*size) ys).toArray.size=cap*size:=by simp[aX,c3]
 refine⟨xs.take (i*size),?_,ac⟩;rw[abF,aaN hi];refine mh.of_sg aa ab c2 an ?_;show (br cur.toList (i*size) ys).take (i*size)=_;rw[fE _ _ _ (by simp only[hZ];omega),<-c4];rw[aaT,List.take_left' (by simp only[abF,hZ];omega),aa4,aaN am]
theorem ME(hA:eF I A v l)(hl:l.length<=aN):aK Tryz.prog 164 #[v,.func (.func 166) #[] #[]] I [A] fun r I2 qs=>∃A2,qs=[A2]/\I2=I/\eF I A2 r (mZ l):=by
 intro hd;have bc:=hl;unfold aN at bc;obtain⟨va,vc,rfl⟩:=hA.shape;refine ah 42 Tryz.func164 fun w0=>?_;refine aT ?_;refine ad hd [0] [A] [] rfl Pf rfl (Q5 hA hl) fun v I2 qs a2 bb hq=>?_;obtain⟨rfl,rfl,hq⟩:=hq;simp only[Z3]at a2 |-;rcases hq with ⟨hn,rfl⟩|⟨i0,d0,a5,bd,hn,rfl⟩
 ·refine aT ?_;exact af rfl a2 (r:=[_]) rfl (abW _) ⟨A,rfl,rfl,by rw[zd hn];exact hA⟩
 have aq:=(List.getElem?_eq_some_iff.1 a5).1;have q1:((i0:Int) == -1)=false:=by rw[abS];omega
 have e1:IntKind.i64.wrap ((i0:Int)+1)=((i0+1:Nat):Int):=by rw[<-wrap64 (n:=i0+1) ab];congr 1
 obtain⟨g0,rfl⟩:∃g0,va=some ⟨g0,0,none⟩:=by
  obtain⟨g,cap,cur,xs,ev,_⟩:=hA.open' ab fun c a k=>eG.len c a k;simp only[Value.slice.injEq]at ev;exact⟨g,ev.1⟩
 apply RG;simp only[go_sem,iv,q1,e1];refine aA (fun x=>l.length-x.2) (fun x=>V1 (.slice (some ⟨g0,0,none⟩) l.length vc) (.func (.func 166) #[] #[]) x.1 x.2) (fun(x:Nat×Nat) H=>∃B m,H=U [I2,B]/\Dj [I2,B]/\m.length=l.length/\eF I2 B (.slice (some ⟨g0,0,none⟩) l.length vc) m/\x.1<x.2/\x.2<=l.length/\m.take x.1=mZ (l.take x.2)/\m.drop x.2=l.drop x.2) (i0,i0+1) bM (by simp only[go_sem,aa6,V1]) ?_ ?_
 ·refine⟨A,l,rfl,a2,rfl,hA,aba _,aq,?_,rfl⟩;simp only;rw[db a5,uA,zd hn];simp[mZ,bd]
 rintro⟨i,j⟩ H ⟨B,m,rfl,am,ao,hB,a4,hj,ht,ak⟩ aa;simp only at a4 hj ht ak;simp only[V1];rcases aaf j l.length with aS|b2
 ·have a3:decide ((j:Int)<(l.length:Int))=true:=abU ab;have w1:IntKind.i64.wrap ((j:Int)+1)=((j+1:Nat):Int):=by rw[<-wrap64 (n:=j+1) ab];congr 1
  have w2:IntKind.i64.wrap ((i:Int)+1)=((i+1:Nat):Int):=by rw[<-wrap64 (n:=i+1) ab];congr 1
  obtain⟨d,a0⟩:∃d,l[j]?=some d:=⟨_,aak aS⟩;have ba:m[j]?=some d:=by
   have:=congrArg (fun x:List cO=>x[0]?) ak;simpa[a0]using this
  obtain⟨g,cap,cur,c,ev,rfl,c1,c2,hc,b5,aj,a9⟩:=hB.elem (fun{I} c a h=>eG.len c a h) (fun{I J c a} h k=>eG.le h k) ba;simp only[Value.slice.injEq,ZW,Addr.mk.injEq,abC]at ev;obtain⟨eg,_,ek⟩:=ev;subst eg;subst ek;obtain⟨ca,ck,rfl,b4⟩:=id hc;apply RG;simp only[go_sem,iv,a3];refine⟨ab,?_⟩;refine XN (l:=[.int .u8 d.code,.int .i64 d.tok,sD ca ck d.cond,rD d.cond]) (v:=.agg #[.int .u8 d.code,.int .i64 d.tok,sD ca ck d.cond,rD d.cond]) rfl (by simpa using cellsU am (.tail _ (.head _)) aj) (.inl ⟨lW,rfl⟩) ?_;refine lY ?_;refine WZ rfl Gn (NK hc) fun v H2 hv=>?_;obtain⟨rfl,rfl⟩:=hv;cases hb:decide (d.cond=ff)
  ·have an:d.cond≠ff:=abN hb;refine lY ?_;refine⟨ab,?_⟩;have mi:(i+1)*4<=m.length*4:=aaQ _ ab;refine bw am rfl rfl rfl rfl rfl (by exact yM) (by simp;omega) fun a1=>?_;apply RG;simp only[go_sem,iv,w1,w2];have hi:i<m.length:=by omega
   obtain⟨y,hy⟩:∃y,m[i]?=some y:=⟨_,aak hi⟩;obtain⟨g',cap',cur',c',ev',eA,_,_,_,_,_,ac⟩:=hB.elem (fun{I} c a h=>eG.len c a h) (fun{I J c a} h k=>eG.le h k) hy;simp only[Value.slice.injEq,ZW,Addr.mk.injEq,abC]at ev';obtain⟨eg',_,ek'⟩:=ev';subst eg';have ec:cur=cur':=by
    have:=congrFun eA g0;simp only[sg,ZT,ZW,Obj.cells.injEq,abC,acT]at this;exact this
   subst ec;have bs:=ac I2 [.int .u8 d.code,.int .i64 d.tok,sD ca ck d.cond,rD d.cond] d (abW _) hc;refine aa (i+1,j+1) _ _ dt bM (by simp only[go_sem,aa6,V1]) ⟨_,m.set i d,rfl,a1,by rw[aa0];exact ao,bs,by simp only;omega,aS,?_,?_⟩
   ·simp only;rw[db a0,uA,<-ht];have:(m.set i d)[i]?=some d:=List.getElem?_set_self hi;rw[db this,List.take_set_of_le (ZR i)];simp[mZ,an]
   ·simp only;rw[List.drop_set_of_lt ab];rw[<-aa3 (i:=1) (j:=j),<-aa3 (i:=1) (j:=j),ak]
  ·have an:d.cond=ff:=abl hb;apply RG;simp only[go_sem,iv,sD,rD,w1];refine aa (i,j+1) _ _ dt bM (by simp only[go_sem,aa6,V1]) ⟨_,m,rfl,am,ao,hB,by simp only;omega,aS,?_,?_⟩
   ·simp only;rw[db a0,uA,<-ht];simp[mZ,an]
   ·simp only;rw[<-aa3 (i:=1) (j:=j),<-aa3 (i:=1) (j:=j),ak]
 ·have:j=l.length:=by omega
  subst this;have a3:=Z6 l.length;rw[aaS]at ht;have bx:=hB;obtain⟨g,cap,cur,xs,ev,rfl,c1,c2,c3,c4,c5,b0⟩:=hB.open' ab fun c a k=>eG.len c a k;simp only[Value.slice.injEq,ZW,Addr.mk.injEq,abC]at ev;obtain⟨eg,_,ek⟩:=ev;subst eg;subst ek;have b3:l.length*4<=vc*4:=aaQ _ ab;have b1:i*4+(l.length-i)*4=l.length*4:=by rw[<-aaP];congr 1;omega
  have a7:sO (some ⟨g0,0,none⟩) 4 i vc=some ⟨g0,i*4,none⟩:=by
   have:¬vc=i:=by omega
   simp[sO,this,Addr.add];intro h;omega
  have sl0:sO (some ⟨g0,0,none⟩) 4 0 vc=some ⟨g0,0,none⟩:=by simp[sO,Addr.add]
  apply RG;simp only[go_sem,iv,a3,a7];refine⟨ab,?_⟩;refine Ir (off:=i*4) am (by exact Mq) (by exact Wh) (size:=4) rfl rfl rfl rfl (by rfl) ab fun ys a6 a1=>?_;apply RG;simp only[go_sem,iv,sl0];refine⟨ab,?_⟩;apply RG;simp only[go_sem,iv,sl0];have hS:=bx.short (fun{I} c a h=>eG.len c a h) ao ab (aar a4) a6;rw[ht]at hS;exact af rfl a1 (r:=[_]) rfl (abW _) ⟨_,rfl,rfl,hS⟩
def Qq:aO Tryz.prog 265:=⟨_,Tryz.func265,rfl,rfl⟩
def BS:aO Tryz.prog 266:=⟨_,Tryz.func266,rfl,rfl⟩
def GJ:aO Tryz.prog 212:=⟨_,Tryz.func212,rfl,rfl⟩
def PY:aO Tryz.prog 219:=⟨_,Tryz.func219,rfl,rfl⟩
def Ok:aO Tryz.prog 269:=⟨_,Tryz.func269,rfl,rfl⟩
def Hb:aO Tryz.prog 218:=⟨_,Tryz.func218,rfl,rfl⟩
def OA:aO Tryz.prog 210:=⟨_,Tryz.func210,rfl,rfl⟩
def Q3:aO Tryz.prog 214:=⟨_,Tryz.func214,rfl,rfl⟩
def Hs:aO Tryz.prog 211:=⟨_,Tryz.func211,rfl,rfl⟩
def OR:aO Tryz.prog 213:=⟨_,Tryz.func213,rfl,rfl⟩
def nD(n:Int):Bool:=(decide (97<=n) && decide (n<=122)) || (decide (65<=n) && decide (n<=90))
def lw(n:Int):Bool:=decide (48<=n) && decide (n<=57)
def gu(n:Int):Bool:=nD n || lw n || (n == 95)
def yO(n:Int):Bool:=(n == 32) || (n == 9)
def Er(n:Int):Bool:=!((n != 9) && (decide (n<32) || decide (n>126)))
def KY(n:Int)(H:PH):bO Tryz.prog 265 #[.int .u8 n] H fun v H2=>v=.bool (nD n)/\H2=H:=by
 refine ah 17 Tryz.func265 fun w0=>?_;cases h1:decide (97<=n)
 ·cases h3:decide (65<=n)
  ·apply RG;simp only[go_sem,h1,h3];exact aJ (r:=[_]) rfl ⟨by simp only[nD,h1,h3];rfl,rfl⟩
  ·cases h4:decide (n<=90)
   ·apply RG;simp only[go_sem,h1,h3,h4];exact aJ (r:=[_]) rfl ⟨by simp only[nD,h1,h3,h4];rfl,rfl⟩
   ·apply RG;simp only[go_sem,h1,h3,h4];exact aJ (r:=[_]) rfl ⟨by simp only[nD,h1,h3,h4];rfl,rfl⟩
 ·cases h2:decide (n<=122)
  ·cases h3:decide (65<=n)
   ·apply RG;simp only[go_sem,h1,h2,h3];exact aJ (r:=[_]) rfl ⟨by simp only[nD,h1,h2,h3];rfl,rfl⟩
   ·cases h4:decide (n<=90)
    ·apply RG;simp only[go_sem,h1,h2,h3,h4];exact aJ (r:=[_]) rfl ⟨by simp only[nD,h1,h2,h3,h4];rfl,rfl⟩
    ·apply RG;simp only[go_sem,h1,h2,h3,h4];exact aJ (r:=[_]) rfl ⟨by simp only[nD,h1,h2,h3,h4];rfl,rfl⟩
  ·apply RG;simp only[go_sem,h1,h2];exact aJ (r:=[_]) rfl ⟨by simp only[nD,h1,h2];rfl,rfl⟩
def Bc(n:Int)(H:PH):bO Tryz.prog 266 #[.int .u8 n] H fun v H2=>v=.bool (lw n)/\H2=H:=by
 refine ah 9 Tryz.func266 fun w0=>?_;cases h1:decide (48<=n)
 ·apply RG;simp only[go_sem,h1];exact aJ (r:=[_]) rfl ⟨by simp only[lw,h1];rfl,rfl⟩
 ·cases h2:decide (n<=57)
  ·apply RG;simp only[go_sem,h1,h2];exact aJ (r:=[_]) rfl ⟨by simp only[lw,h1,h2];rfl,rfl⟩
  ·apply RG;simp only[go_sem,h1,h2];exact aJ (r:=[_]) rfl ⟨by simp only[lw,h1,h2];rfl,rfl⟩
def LU(n:Int)(H:PH):bO Tryz.prog 212 #[.int .u8 n] H fun v H2=>v=.bool (gu n)/\H2=H:=by
 refine ah 13 Tryz.func212 fun w0=>?_;refine aT ?_;refine WZ rfl Qq (KY n H) fun v H2 hv=>?_;obtain⟨rfl,rfl⟩:=hv;cases h1:nD n
 ·refine aT ?_;refine WZ rfl BS (Bc n _) fun v H2 hv=>?_;obtain⟨rfl,rfl⟩:=hv;cases h2:lw n
  ·cases h3:(n == 95)
   ·apply RG;simp only[go_sem,h3];exact aJ (r:=[_]) rfl ⟨by simp only[gu,h1,h2,h3];rfl,rfl⟩
   ·apply RG;simp only[go_sem,h3];exact aJ (r:=[_]) rfl ⟨by simp only[gu,h1,h2,h3];rfl,rfl⟩
  ·refine aT ?_;exact aJ (r:=[_]) rfl ⟨by simp only[gu,h1,h2];rfl,rfl⟩
 ·refine aT ?_;exact aJ (r:=[_]) rfl ⟨by simp only[gu,h1];rfl,rfl⟩
def Oe(n:Int)(H:PH):bO Tryz.prog 219 #[.int .u8 n] H fun v H2=>v=.bool (yO n)/\H2=H:=by
 refine ah 9 Tryz.func219 fun w0=>?_;cases h1:(n == 32)
 ·cases h2:(n == 9)
  ·apply RG;simp only[go_sem,h1,h2];exact aJ (r:=[_]) rfl ⟨by simp only[yO,h1,h2];rfl,rfl⟩
  ·apply RG;simp only[go_sem,h1,h2];exact aJ (r:=[_]) rfl ⟨by simp only[yO,h1,h2];rfl,rfl⟩
 ·apply RG;simp only[go_sem,h1];exact aJ (r:=[_]) rfl ⟨by simp only[yO,h1];rfl,rfl⟩
theorem bi(s:bq):(⟨⟨s⟩⟩:ByteArray).size=s.length:=rfl
def oJ(s:bq)(i k:Nat):(⟨⟨s⟩⟩:ByteArray).extract i k=⟨⟨(s.drop i).take (k-i)⟩⟩:=by
 apply ByteArray.ext;rw[ByteArray.data_extract];apply Array.ext';simp[List.extract_eq_take_drop]
def HF(s t:bq)(H:PH):bO Tryz.prog 269 #[.string ⟨⟨s⟩⟩,.string ⟨⟨t⟩⟩] H fun v H2=>v=.bool (t.isPrefixOf s)/\H2=H:=by
 refine ah 18 Tryz.func269 fun w0=>?_;rcases aaf s.length t.length with h|h
 ·have h1:decide ((s.length:Int)>=(t.length:Int))=false:=abT ab;have h2:t.isPrefixOf s=false:=by
   rw[Bool.eq_false_iff];intro e;have:=(List.isPrefixOf_iff_prefix.1 e).length_le;omega
  apply RG;simp only[go_sem,bi,h1];exact aJ (r:=[_]) rfl ⟨by rw[h2];rfl,rfl⟩
 ·have h1:decide ((s.length:Int)>=(t.length:Int))=true:=abU ab;have h2:(s.take t.length == t)=t.isPrefixOf s:=by
   rw[Bool.eq_iff_iff,beq_iff_eq,List.isPrefixOf_iff_prefix,List.prefix_iff_eq_take];exact eq_comm
  apply RG;simp only[go_sem,bi,h1,oJ,Int.toNat_zero,Nat.sub_zero,h2];refine⟨ab,?_⟩;exact aJ (r:=[_]) rfl ⟨rfl,rfl⟩
def CF(s t:bq)(H:PH):bO Tryz.prog 218 #[.string ⟨⟨s⟩⟩,.string ⟨⟨t⟩⟩] H fun v H2=>v=.bool (t.isPrefixOf s)/\H2=H:=by
 refine ah 8 Tryz.func218 fun w0=>?_;refine aT ?_;refine WZ rfl Ok (HF s t H) fun v H2 hv=>?_;obtain⟨rfl,rfl⟩:=hv;refine aT ?_;exact aJ (r:=[_]) rfl ⟨rfl,rfl⟩
def bZ(c:UInt8):Int:=(c.toNat:Int)
variable{s:bq}
def jn{c:UInt8}(h:s[i]?=some c):((xW ⟨⟨s⟩⟩ i:Nat):Int)=bZ c:=by
 unfold xW bZ;rw[List.getD_eq_getElem?_getD,h];rfl
def Lf(s:bq)(i:Nat):St:=⟨dn 26 [(0,.v (.string ⟨⟨s⟩⟩)),(5,.v (iv s.length)),(6,.v (iv i))],[]⟩
def IH(s:bq)(hl:s.length<2^60)(H:PH):bO Tryz.prog 210 #[.string ⟨⟨s⟩⟩] H fun v H2=>v=.bool (s.all fun c=>Er (bZ c))/\H2=H:=by
 refine ah 26 Tryz.func210 fun w0=>?_;apply RG;simp only[go_sem,bi];refine aA (fun x=>s.length-x) (Lf s) (fun i H2=>H2=H/\i<=s.length/\((s.drop i).all fun c=>Er (bZ c))=(s.all fun c=>Er (bZ c))) 0 bM (by simp only[go_sem,aa6,Lf]) ⟨rfl,aaL _,rfl⟩ ?_;rintro i H2 ⟨rfl,hi,ha⟩ ac;simp only[Lf];rcases aaf i s.length with ak|am
 ·have h7:decide ((i:Int)<(s.length:Int))=true:=abU ab;have e1:IntKind.i64.wrap ((i:Int)+1)=((i+1:Nat):Int):=by rw[<-wrap64 (n:=i+1) ab];congr 1
  obtain⟨c,hc⟩:∃c,s[i]?=some c:=⟨_,aak ak⟩;have hb:=jn hc;have hd:s.drop i=c::s.drop (i+1):=by
   rw[aaK ak];rw[aak ak]at hc;rw[aaZ hc]
  rw[hd,List.all_cons]at ha;cases h9:(bZ c != 9)
  ·have hz:Er (bZ c)=true:=by simp only[Er,h9];rfl
   apply RG;simp only[go_sem,iv,h7,hb,h9,e1];refine⟨by (try simp only[bi]);omega,?_⟩;exact ac (i+1) _ _ ab bM (by simp only[go_sem,aa6,Lf]) ⟨rfl,ak,by rw[<-ha,hz,Bool.true_and]⟩
  ·cases aj:decide (bZ c<32)
   ·cases aa:decide (bZ c>126)
    ·have hz:Er (bZ c)=true:=by simp only[Er,h9,aj,aa];rfl
     apply RG;simp only[go_sem,iv,h7,hb,h9,aj,aa,e1];refine⟨by (try simp only[bi]);omega,?_⟩;exact ac (i+1) _ _ ab bM (by simp only[go_sem,aa6,Lf]) ⟨rfl,ak,by rw[<-ha,hz,Bool.true_and]⟩
    ·have hz:Er (bZ c)=false:=by simp only[Er,h9,aj,aa];rfl
     apply RG;simp only[go_sem,iv,h7,hb,h9,aj,aa];refine⟨by (try simp only[bi]);omega,?_⟩;exact aJ (r:=[_]) rfl ⟨by rw[<-ha,hz];rfl,rfl⟩
   ·have hz:Er (bZ c)=false:=by simp only[Er,h9,aj];rfl
    apply RG;simp only[go_sem,iv,h7,hb,h9,aj];refine⟨by (try simp only[bi]);omega,?_⟩;exact aJ (r:=[_]) rfl ⟨by rw[<-ha,hz];rfl,rfl⟩
 ·have:i=s.length:=by omega
  subst this;have h7:=Z6 s.length;rw[abH]at ha;apply RG;simp only[go_sem,iv,h7];exact aJ (r:=[_]) rfl ⟨by rw[<-ha];rfl,rfl⟩
def xJ(s:bq):Bool:=!(s.isEmpty || decide (s.length>32) || lw (bZ (s.getD 0 0))) && s.all fun c=>gu (bZ c)
def WA(s:bq)(i:Nat):St:=⟨dn 27 [(0,.v (.string ⟨⟨s⟩⟩)),(17,.v (iv s.length)),(18,.v (iv i))],[]⟩
def LJ(s:bq)(H:PH):bO Tryz.prog 214 #[.string ⟨⟨s⟩⟩] H fun v H2=>v=.bool (xJ s)/\H2=H:=by
 refine ah 27 Tryz.func214 fun w0=>?_;cases s with
 |nil=>
  refine aT ?_;exact aJ (r:=[_]) rfl ⟨rfl,rfl⟩
 |cons c0 s0=>
  generalize hs:c0::s0=s;have an:(s == [])=false:=by rw[<-hs];rfl
  have aq:0<s.length:=by rw[<-hs];simp
  have am:s.isEmpty=false:=by rw[<-hs];rfl
  have a0:s[0]?=some (s.getD 0 0):=by rw[<-hs];rfl
  clear hs c0 s0;have a2:=jn a0;have a1:(0:Int)<=0/\(0:Int)<((⟨⟨s⟩⟩:ByteArray).size:Int):=⟨ab,by rw[bi];omega⟩;cases aj:decide ((s.length:Int)>32)
  rotate_left
  ·have hz:xJ s=false:=by
    have:decide (s.length>32)=true:=abU (by have:=abl aj;omega);simp[xJ,this]
   apply RG;simp only[go_sem,an,bi,aj];exact aJ (r:=[_]) rfl ⟨by rw[hz];rfl,rfl⟩
  have aS:=abN aj;have ak:decide (s.length>32)=false:=abT ab;apply RG;simp only[go_sem,an,bi,aj,Int.toNat_zero,a2];refine⟨ab,?_⟩;refine WZ rfl BS (Bc _ _) fun v H2 hv=>?_;obtain⟨rfl,rfl⟩:=hv;cases ao:lw (bZ (s.getD 0 0))
  rotate_left
  ·have hz:xJ s=false:=by simp only[xJ,ao,Bool.or_true,abQ,Bool.false_and]
   refine aT ?_;exact aJ (r:=[_]) rfl ⟨by rw[hz];rfl,rfl⟩
  have hz:xJ s=s.all fun c=>gu (bZ c):=by simp only[xJ,am,ak,ao];simp
  rw[hz];apply RG;simp only[go_sem,bi];refine aA (fun x=>s.length-x) (WA s) (fun i H3=>H3=H2/\i<=s.length/\((s.drop i).all fun c=>gu (bZ c))=(s.all fun c=>gu (bZ c))) 0 bM (by simp only[go_sem,aa6,WA]) ⟨rfl,aaL _,rfl⟩ ?_;rintro i H3 ⟨rfl,hi,ha⟩ aa;simp only[WA];rcases aaf i s.length with ac|a3
  ·have h7:decide ((i:Int)<(s.length:Int))=true:=abU ab;have e1:IntKind.i64.wrap ((i:Int)+1)=((i+1:Nat):Int):=by rw[<-wrap64 (n:=i+1) ab];congr 1
   obtain⟨c,hc⟩:∃c,s[i]?=some c:=⟨_,aak ac⟩;have hb:=jn hc;have hd:s.drop i=c::s.drop (i+1):=by
    rw[aaK ac];rw[aak ac]at hc;rw[aaZ hc]
   rw[hd,List.all_cons]at ha;apply RG;simp only[go_sem,iv,h7,hb];refine⟨by (try simp only[bi]);omega,?_⟩;refine WZ rfl GJ (LU _ _) fun v H2 hv=>?_;obtain⟨rfl,rfl⟩:=hv;cases hp:gu (bZ c)
   ·apply RG;simp only[go_sem,abK];exact aJ (r:=[_]) rfl ⟨by rw[<-ha,hp];rfl,rfl⟩
   ·apply RG;simp only[go_sem,abQ,e1];exact aa (i+1) _ _ ab bM (by simp only[go_sem,aa6,WA]) ⟨rfl,ac,by rw[<-ha,hp,Bool.true_and]⟩
  ·have:i=s.length:=by omega
   subst this;have h7:=Z6 s.length;rw[abH]at ha;apply RG;simp only[go_sem,iv,h7];exact aJ (r:=[_]) rfl ⟨by rw[<-ha];rfl,rfl⟩
def dE:bq->Nat
 | []=>0
 |c::s=>if gu (bZ c)then dE s+1 else 0
def WI(i:Nat)(sb k:Nat):St:=⟨dn 22 [(0,.v (iv i)),(1,.v (pt sb)),(4,.v (iv k))],[]⟩
def Rd{sb:Nat}(hs:aP H sb 0 [.string ⟨⟨s⟩⟩])(hi:i<=s.length)(hl:s.length<2^60):bO Tryz.prog 211 #[iv i,pt sb] H fun v H2=>v=.string ⟨⟨(s.drop i).take (dE (s.drop i))⟩⟩/\H2=H:=by
 refine ah 22 Tryz.func211 fun w0=>?_
 try simp only[iv,pt]
 refine aT ?_;refine aA (fun x=>s.length-x) (WI i sb) (fun k H2=>H2=H/\i<=k/\k<=s.length/\dE (s.drop i)=(k-i)+dE (s.drop k)) i gP (by simp only[go_sem,aa6,WI]) ⟨rfl,ZR _,hi,by simp⟩ ?_;rintro k H2 ⟨rfl,ak,aj,hr⟩ aa;simp only[WI];have fin:dE (s.drop k)=0->k-i=dE (s.drop i):=fun h=>by omega
 rcases aaf k s.length with ac|am
 ·have h9:decide ((k:Int)<(s.length:Int))=true:=abU ab;have e1:IntKind.i64.wrap ((k:Int)+1)=((k+1:Nat):Int):=by rw[<-wrap64 (n:=k+1) ab];congr 1
  obtain⟨c,hc⟩:∃c,s[k]?=some c:=⟨_,aak ac⟩;have hb:=jn hc;have hd:s.drop k=c::s.drop (k+1):=by
   rw[aaK ac];rw[aak ac]at hc;rw[aaZ hc]
  refine ll ?_;refine XN (l:=[.string ⟨⟨s⟩⟩]) rfl hs (.inr ⟨tL,rfl⟩) ?_;apply RG;simp only[go_sem,bi,h9];refine XN (l:=[.string ⟨⟨s⟩⟩]) rfl hs (.inr ⟨tL,rfl⟩) ?_;apply RG;simp only[go_sem,hb];refine⟨by (try simp only[bi]);omega,?_⟩;refine WZ rfl GJ (LU _ _) fun v H2 hv=>?_;obtain⟨rfl,rfl⟩:=hv;cases hp:gu (bZ c)
  ·have h0:dE (s.drop k)=0:=by rw[hd,dE,hp];rfl
   refine ll ?_;refine XN (l:=[.string ⟨⟨s⟩⟩]) rfl hs (.inr ⟨tL,rfl⟩) ?_;apply RG;simp only[go_sem,oJ,fin h0];refine⟨by (try simp only[bi]);omega,?_⟩;exact aJ (r:=[_]) rfl ⟨rfl,rfl⟩
  ·apply RG;simp only[go_sem,e1];exact aa (k+1) _ _ ab gP (by simp only[go_sem,aa6,WI]) ⟨rfl,ab,ac,by rw[hr,hd,dE,hp];simp;omega⟩
 ·have:k=s.length:=by omega
  subst this;have h9:=Z6 s.length;have h0:dE (s.drop s.length)=0:=by rw[abH];rfl
  refine ll ?_;refine XN (l:=[.string ⟨⟨s⟩⟩]) rfl hs (.inr ⟨tL,rfl⟩) ?_;apply RG;simp only[go_sem,bi,h9];refine XN (l:=[.string ⟨⟨s⟩⟩]) rfl hs (.inr ⟨tL,rfl⟩) ?_;apply RG;simp only[go_sem,oJ,fin h0];refine⟨by (try simp only[bi]);omega,?_⟩;exact aJ (r:=[_]) rfl ⟨rfl,rfl⟩
def Tu{sb fb:Nat}(hs:aP H sb 0 [.string ⟨⟨s⟩⟩])(hf:aP H fb 0 [.func (.func 211) #[] #[pt sb]])(hi:i<=s.length)(hl:s.length<2^60):
  bO Tryz.prog 213 #[iv i,pt fb] H fun v H2=>v=(if xJ ((s.drop i).take (dE (s.drop i)))then .tuple #[.int .u8 1,.string ⟨⟨(s.drop i).take (dE (s.drop i))⟩⟩]else .tuple #[.int .u8 0,.string ⟨⟨[]⟩⟩])/\H2=H:=by
 refine ah 12 Tryz.func213 fun w0=>?_
 try simp only[iv,pt]
 refine aT ?_;refine XN (l:=[.func (.func 211) #[] #[pt sb]]) rfl hf (.inr ⟨Mm,rfl⟩) ?_;refine ll ?_;refine WZ rfl Hs (Rd hs hi hl) fun v H2 hv=>?_;obtain⟨rfl,rfl⟩:=hv;refine aT ?_;refine WZ rfl Q3 (LJ _ _) fun v H2 hv=>?_;obtain⟨rfl,rfl⟩:=hv;cases h:xJ ((s.drop i).take (dE (s.drop i)))
 ·refine aT ?_;exact aJ (r:=[_,_]) rfl ⟨rfl,rfl⟩
 ·refine aT ?_;exact aJ (r:=[_,_]) rfl ⟨rfl,rfl⟩
end Go.Proofs.YtfaclfkpnmcmlaaGreatDoor
