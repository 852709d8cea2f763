import Derived.Test.YtfaclfkpnmcmlaaGreatDoorQ06
import Derived.Test.YtfaclfkpnmcmlaaGreatDoorQ11
set_option maxHeartbeats 8000000
set_option linter.all false
namespace Go.Proofs.YtfaclfkpnmcmlaaGreatDoor
open Go Go.Sx Dg Syn
open Go.Sort (PermIn SortedIn SWO permIn_refl permIn_trans permIn_mono swp_permIn)
theorem Gw{K α:Type}{lt:K->K->Bool}(so:SO lt)(f:α->K):SWO fun x y:α=>lt (f x) (f y) where
 irrefl:=fun x=>so.irr _
 trans:=fun x y z=>so.tr _ _ _
 ntrans:=fun x y z h1 h2=>by
  cases h:lt (f x) (f z)with
  |false=>rfl
  |true=>
   cases h3:lt (f y) (f x)with
   |true=>rw[so.tr _ _ _ h3 h]at h2;cases h2
   |false=>rw[so.tri _ _ h1 h3,h2]at h;cases h
theorem rK:SWO g9:=Gw gQ bX.key
theorem oX:SWO cz:=Gw jN Nd.key
theorem xl:aP Tryz.prog 310:=⟨_,Tryz.func310,rfl,rfl⟩
theorem J9:aP Tryz.prog 301:=⟨_,Tryz.func301,rfl,rfl⟩
def O6(v va vb vn:Value)(i:Nat):St:=⟨dn 38 [(0,.v v),(1,.v va),(2,.v vb),(3,.v vn),(10,.v (iv i))],[]⟩
theorem GI{I A:PH}{v vc:Value}{d:Array bX}{a b n:Nat}(hA:dl I A v d.toList)(a3:a+n<=b)(hb:b+n<=d.size)(hn:d.size<=aF):
  aO Tryz.prog 310 #[v,iv a,iv b,iv n,vc] I [A] fun _ I2 qs=>∃A2 e,qs=[A2]/\dl I2 A2 v e.toList/\e.size=d.size/\Gu a b n d e/\∀lo hi,lo<=a->b+n<=hi->hi<=d.size->PermIn lo hi d e:=by
 intro hd;unfold aF at hn;obtain⟨va,vk,rfl⟩:=Ow.one' hA;refine Ot Tryz.func310 rfl fun w0=>?_;simp only[Tryz.ntmps310,iv];apply RG;simp only[go_sem];refine aB (fun k=>n-k) (O6 (.slice va d.size vk) (iv a) (iv b) (iv n)) (fun k H=>∃A2 e,H=U [I,A2]/\Dj [I,A2]/\k<=n/\e.size=d.size/\dl I A2 (.slice va d.size vk) e.toList/\Gu a b k d e/\∀lo hi,lo<=a->b+n<=hi->hi<=d.size->PermIn lo hi d e) 0 (ae (by simp only[go_sem,Tq,iv])) (by simp only[go_sem,Tq,O6]) ?_ ?_
 ·exact⟨A,d,rfl,hd,S6 _,rfl,hA,Gu.zero _ _ _,fun lo hi _ _ _=>permIn_refl _ _ _⟩
 rintro k H ⟨A2,e,rfl,aj,hk,ac,aS,ao,ap⟩ aa;simp only[O6];rcases Sw k n with an|a4
 ·have am:=Z5 (a:=k) (b:=n) (by omega);have w1:IntKind.i64.wrap ((a:Int)+(k:Int))=((a+k:Nat):Int):=by
   have e0:(a:Int)+(k:Int)=((a+k:Nat):Int):=by omega
   rw[e0];exact wrap64 (by omega)
  have w2:IntKind.i64.wrap ((b:Int)+(k:Int))=((b+k:Nat):Int):=by
   have e0:(b:Int)+(k:Int)=((b+k:Nat):Int):=by omega
   rw[e0];exact wrap64 (by omega)
  have w3:IntKind.i64.wrap ((k:Int)+1)=((k+1:Nat):Int):=by
   have e0:(k:Int)+1=((k+1:Nat):Int):=by omega
   rw[e0];exact wrap64 (by omega)
  apply RG;simp only[go_sem,iv,am];obtain⟨g,cp,cur,ci,cj,ev,rfl,a2,ri,rj,li,lj,ki,kj,ak⟩:=Ow.two aS (fun{I} c a h=>dg.len c a h) (fun{I J c a} h k=>dg.le h k) (i:=a+k) (j:=b+k) (by omega) (by omega);rw[ac]at ev a2;cases ev
  have mi:((a+k)+1)*4<=d.size*4:=Tb _ (by omega);have mj:((b+k)+1)*4<=d.size*4:=Tb _ (by omega);refine ax mixed [0,1,2,3,4,5,6,7,8,9,10,11,12,13,14,15,16,17,18,19,20,21,22,23] [13,19] [] rfl rfl ?_;apply af;simp only[go_sem,iv,w1,w2];refine⟨by omega,?_⟩;refine P7 (l:=cj) (v:=.agg cj.toArray) rfl (cellsU aj (.tail _ (.head _)) (by simpa using kj)) (.inl ⟨by rw[lj];exact iQ,rfl⟩) ?_;apply af;simp only[go_sem,iv,w1,w2];refine⟨by omega,?_⟩;refine P7 (l:=ci) (v:=.agg ci.toArray) rfl (cellsU aj (.tail _ (.head _)) (by simpa using ki)) (.inl ⟨by rw[li];exact iQ,rfl⟩) ?_;apply af;simp only[go_sem,iv,w1,w2];refine⟨by omega,?_⟩;refine aH aj rfl rfl rfl rfl rfl (aM (dg.ones rj)) (by rw[lj];exact um) (by rw[lj];omega) fun a0=>?_;apply af;simp only[go_sem,iv,w1,w2];refine⟨by omega,?_⟩;refine aH a0 rfl rfl rfl rfl rfl (aM (dg.ones ri)) (by rw[li];exact um) (by rw[li];simp[aJ];omega) fun a1=>?_;refine aw ?_;apply RG;simp only[go_sem,iv,w3];exact aa (k+1) _ _ (by omega) (ae (by simp only[go_sem,Tq,iv])) (by simp only[go_sem,Tq,O6]) ⟨_,_,rfl,a1,an,by rw[cH];exact ac,ak I (Uj _),ao.step ac an a3 hb,fun lo hi h1 h2 h3=>permIn_trans _ _ _ lo hi (ap lo hi h1 h2 h3) (swp_permIn _ lo hi _ _ (by omega) (by omega) (by omega) (by omega) (by omega))⟩
 ·have am:decide ((k:Int)<(n:Int))=false:=Ug (by omega);have:k=n:=by omega
  subst this;apply RG;simp only[go_sem,iv,am];exact eO rfl aj (r:=[]) rfl (Uj _) ⟨A2,e,rfl,aS,ac,ao,ap⟩
def OD(v vm vc:Value)(x:Nat×Nat):St:=⟨dn 58 [(0,.v v),(2,.v vm),(4,.v vc),(10,.v (iv x.1)),(11,.v (iv x.2))],[]⟩
theorem OQ{I A:PH}{v vc:Value}{d:Array bX}{a m b:Nat}(hA:dl I A v d.toList)(b1:a<m)(b0:m<b)(hb:b<=d.size)(hn:d.size<=aF):
  aO Tryz.prog 301 #[v,iv a,iv m,iv b,vc] I [A] fun _ I2 qs=>∃A2 e,qs=[A2]/\dl I2 A2 v e.toList/\PermIn a b d e/\xN m (m-a) (b-m) d e:=by
 intro hd;have ba:=hn;unfold aF at ba;obtain⟨va,vk,rfl⟩:=Ow.one' hA;obtain⟨t,bx,a5⟩:=xN.ex m (m-a) (b-m) d (by omega) (by omega);refine Ot Tryz.func301 rfl fun w0=>?_;simp only[Tryz.ntmps301,iv];have w1:IntKind.i64.wrap ((m:Int)-(a:Int))=((m-a:Nat):Int):=by
  rw[bQ (by omega) (by omega)];omega
 have w2:IntKind.i64.wrap ((b:Int)-(m:Int))=((b-m:Nat):Int):=by
  rw[bQ (by omega) (by omega)];omega
 apply RG;simp only[go_sem,w1,w2];refine aB (fun x=>x.1+x.2) (OD (.slice va d.size vk) (iv m) vc) (fun x H=>∃I2 A2 c,H=U [I2,A2]/\Dj [I2,A2]/\I.le I2/\dl I2 A2 (.slice va d.size vk) c.toList/\PermIn a b d c/\0<x.1/\0<x.2/\x.1<=m-a/\x.2<=b-m/\xN m x.1 x.2 c t) (m-a,b-m) (ae (by simp only[go_sem,Tq,iv])) (by simp only[go_sem,Tq,OD]) ?_ ?_
 ·exact⟨I,A,d,rfl,hd,Uj _,hA,permIn_refl _ _ _,by simp only;omega,by simp only;omega,R7 _,R7 _,a5⟩
 rintro⟨i,j⟩ H ⟨I2,A2,c,rfl,a1,ak,a2,a0,a7,a6,hi,hj,aS⟩ ac;simp only at a7 a6 hi hj aS;simp only[OD];have bs:=a0.1;have w3:IntKind.i64.wrap ((m:Int)-(i:Int))=((m-i:Nat):Int):=by
  rw[bQ (by omega) (by omega)];omega
 have w4:IntKind.i64.wrap ((m:Int)+(j:Int))=((m+j:Nat):Int):=by
  have e0:(m:Int)+(j:Int)=((m+j:Nat):Int):=by omega
  rw[e0];exact wrap64 (by omega)
 rcases SD i j with bb|bd|bc
 ·have ap:((i:Int) != (j:Int))=true:=by rw[bne_iff_ne];omega
  have a3:decide ((i:Int)>(j:Int))=false:=Ug (by omega);have w5:IntKind.i64.wrap (((m+j:Nat):Int)-(i:Int))=((m+j-i:Nat):Int):=by
   rw[bQ (by omega) (by omega)];omega
  have w6:IntKind.i64.wrap ((j:Int)-(i:Int))=((j-i:Nat):Int):=by
   rw[bQ (by omega) (by omega)];omega
  apply RG;simp only[go_sem,iv,ap,a3,w3,w4,w5];refine NB a1 [0] rfl xl (by rfl) (ps:=[A2]) (F:=[]) rfl (GI (a:=m-i) (b:=m+j-i) (n:=i) a2 (by omega) (by omega) (by omega)) fun v I3 qs aj aa hq=>?_;obtain⟨A3,e,rfl,ao,a4,am,an⟩:=hq;simp only[Z3]at aj |-;apply RG;simp only[go_sem,iv,w6];exact ac (i,j-i) _ _ (by simp only;omega) (ae (by simp only[go_sem,Tq,iv])) (by simp only[go_sem,Tq,OD]) ⟨I3,A3,e,rfl,aj,Ui ak aa,ao,permIn_trans _ _ _ a b a0 (an a b (by omega) (by omega) (by omega)),a7,by simp only;omega,hi,by simp only;omega,aS.right am bb (by omega)⟩
 ·subst bd;have ap:((i:Int) != (i:Int))=false:=by simp
  apply RG;simp only[go_sem,iv,ap,w3];refine NB a1 [0] rfl xl (by rfl) (ps:=[A2]) (F:=[]) rfl (GI (a:=m-i) (b:=m) (n:=i) a2 (by omega) (by omega) (by omega)) fun v I3 qs aj aa hq=>?_;obtain⟨A3,e,rfl,ao,a4,am,an⟩:=hq;simp only[Z3]at aj |-;apply RG;simp only[go_sem,iv];have a9:=aS.last am (by omega) (by omega);exact eO rfl aj (r:=[]) rfl (Ui ak aa) ⟨A3,e,rfl,ao,permIn_trans _ _ _ a b a0 (an a b (by omega) (by omega) (by omega)),by rw[<-a9];exact a5⟩
 ·have ap:((i:Int) != (j:Int))=true:=by rw[bne_iff_ne];omega
  have a3:decide ((i:Int)>(j:Int))=true:=Uh (by omega);have w6:IntKind.i64.wrap ((i:Int)-(j:Int))=((i-j:Nat):Int):=by
   rw[bQ (by omega) (by omega)];omega
  apply RG;simp only[go_sem,iv,ap,a3,w3];refine NB a1 [0] rfl xl (by rfl) (ps:=[A2]) (F:=[]) rfl (GI (a:=m-i) (b:=m) (n:=j) a2 (by omega) (by omega) (by omega)) fun v I3 qs aj aa hq=>?_;obtain⟨A3,e,rfl,ao,a4,am,an⟩:=hq;simp only[Z3]at aj |-;apply RG;simp only[go_sem,iv,w6];exact ac (i-j,j) _ _ (by simp only;omega) (ae (by simp only[go_sem,Tq,iv])) (by simp only[go_sem,Tq,OD]) ⟨I3,A3,e,rfl,aj,Ui ak aa,ao,permIn_trans _ _ _ a b a0 (an a b (by omega) (by omega) (by omega)),by simp only;omega,a6,by simp only;omega,hj,aS.left am bc (by omega)⟩
theorem Cd:aP Tryz.prog 296:=⟨_,Tryz.func296,rfl,rfl⟩
theorem HL:aP Tryz.prog 272:=⟨_,Tryz.func272,rfl,rfl⟩
def MQ(v vh vf vc:Value)(r:Nat):St:=⟨dn 82 [(0,.v v),(2,.v vh),(3,.v vf),(4,.v vc),(10,.v (iv r))],[]⟩
theorem EU{I A:PH}{v vc:Value}{d:Array Nd}{lo hi first:Nat}(hA:br I A v d.toList)(hc:jT aW cz vc)(hb:first+hi<=d.size)(hn:d.size<=aF)(b0:lo<=d.size):
  aO Tryz.prog 296 #[v,iv lo,iv hi,iv first,vc] I [A] fun _ I2 qs=>∃A2,qs=[A2]/\br I2 A2 v (Sort.siftDown cz hi first lo d).toList/\(Sort.siftDown cz hi first lo d).size=d.size:=by
 intro hd;unfold aF at hn;obtain⟨f,fst,cap,rfl,gf,cf⟩:=id hc;obtain⟨va,vk,rfl⟩:=Ow.one' hA;refine Ot Tryz.func296 rfl fun w0=>?_;simp only[Tryz.ntmps296,iv];apply RG;simp only[go_sem];refine aB (fun r=>hi-r) (MQ (.slice va d.size vk) (iv hi) (iv first) (.func (.func f) fst cap)) (fun r H=>∃I2 A2 d2,H=U [I2,A2]/\Dj [I2,A2]/\I.le I2/\r<=d.size/\d2.size=d.size/\br I2 A2 (.slice va d.size vk) d2.toList/\Sort.siftDown cz hi first r d2=Sort.siftDown cz hi first lo d) lo (ae (by simp only[go_sem,Tq,iv])) (by simp only[go_sem,Tq,MQ]) ?_ ?_
 ·exact⟨I,A,d,rfl,hd,Uj _,b0,rfl,hA,rfl⟩
 rintro r H ⟨I2,A2,d2,rfl,a9,an,hr,aS,a6,ac⟩ a0;simp only[MQ];have w1:IntKind.i64.wrap (2*(r:Int))=((2*r:Nat):Int):=by
  rw[<-wrap64 (n:=2*r) (by omega)];congr 1<;>omega
 have w2:IntKind.i64.wrap (((2*r:Nat):Int)+1)=((2*r+1:Nat):Int):=by
  rw[<-wrap64 (n:=2*r+1) (by omega)];congr 1<;>omega
 have w3:IntKind.i64.wrap (((2*r+1:Nat):Int)+1)=((2*r+2:Nat):Int):=by
  rw[<-wrap64 (n:=2*r+2) (by omega)];congr 1<;>omega
 rcases Sw (2*r+1) hi with b3|b1
 ·have bs:decide (((2*r+1:Nat):Int)>=(hi:Int))=false:=Ug (by omega);rw[Sort.siftDown,dif_neg (by omega)]at ac;have a1:IntKind.i64.wrap ((first:Int)+((2*r+1:Nat):Int))=((first+(2*r+1):Nat):Int):=by
   rw[<-wrap64 (n:=first+(2*r+1)) (by omega)];congr 1<;>omega
  have a2:IntKind.i64.wrap (((first+(2*r+1):Nat):Int)+1)=((first+(2*r+2):Nat):Int):=by
   rw[<-wrap64 (n:=first+(2*r+2)) (by omega)];congr 1<;>omega
  have a3:IntKind.i64.wrap ((first:Int)+(r:Int))=((first+r:Nat):Int):=by
   rw[<-wrap64 (n:=first+r) (by omega)];congr 1<;>omega
  have a4:IntKind.i64.wrap ((first:Int)+((2*r+2:Nat):Int))=((first+(2*r+2):Nat):Int):=by
   rw[<-wrap64 (n:=first+(2*r+2)) (by omega)];congr 1<;>omega
  apply RG;simp only[go_sem,iv,w1,w2,bs];rcases Sw (2*r+2) hi with h2|h2
  ·have bc:decide (((2*r+2:Nat):Int)<(hi:Int))=true:=Uh (by omega);obtain⟨g,cp,cur,ci,cj,ev,rfl,b2,ri,rj,li,lj,ki,kj,bx⟩:=Ow.two a6 (fun{I} c a h=>aW.len c a h) (fun{I J c a} h k=>aW.le h k) (i:=first+(2*r+1)) (j:=first+(2*r+2)) (by omega) (by omega);rw[aS]at ev b2;cases ev
   refine ax mixed [0,1,2,3,4,5,6,7,8,9,10,11,12,13,14,15,16,17,18,19,20,21] [11,18] [] rfl rfl ?_;apply af;simp only[go_sem,iv,w3,bc,a1,a2];refine⟨by omega,?_⟩;refine P7 (l:=ci) (v:=.agg ci.toArray) rfl (cellsU a9 (.tail _ (.head _)) (by simpa using ki)) (.inl ⟨by rw[li];exact bT,rfl⟩) ?_;apply af;simp only[go_sem,iv,w3,bc,a1,a2];refine⟨by omega,?_⟩;refine P7 (l:=cj) (v:=.agg cj.toArray) rfl (cellsU a9 (.tail _ (.head _)) (by simpa using kj)) (.inl ⟨by rw[lj];exact bT,rfl⟩) ?_;apply af;simp only[go_sem,iv,w3,bc,a1,a2];refine Og a9 [0] rfl (fun h=>by cases h) rfl gf (by rfl) (ps:=[]) (F:=[_]) rfl (cf I2 _ _ _ _ ri rj) fun v I3 qs a7 ak hq=>?_;obtain⟨rfl,z,rfl,hz⟩:=hq;simp only[Z3]at a7 |-;apply af;simp only[go_sem,iv];refine aw ?_;cases hl:cz d2[first+(2*r+1)]! d2[first+(2*r+2)]! with
   |true=>
    rw[hl]at hz;have bd:cz d2[first+(2*r+1)]! d2[first+(2*r+1)+1]! = true:=hl;rw[SI (by simp only[bd,TR,SX];omega)]at ac;apply RG;simp only[go_sem,iv,hz,w3];obtain⟨gq,cpq,curq,ciq,cjq,evq,eAq,a5,riq,rjq,liq,ljq,kiq,kjq,aj⟩:=Ow.two (br.le a6 ak) (fun{I} c a h=>aW.len c a h) (fun{I J c a} h k=>aW.le h k) (i:=first+r) (j:=first+(2*r+2)) (by omega) (by omega);rw[aS]at evq a5;cases evq
    obtain rfl:=pu eAq;clear eAq;refine ax mixed [0,1,2,3,4,5,6,7,8,9,10,11,12,13,14,15] [6,12] [] rfl rfl ?_;apply af;simp only[go_sem,iv,a1,a2,a3,a4];refine⟨by omega,?_⟩;refine P7 (l:=ciq) (v:=.agg ciq.toArray) rfl (cellsU a7 (.tail _ (.head _)) (by simpa using kiq)) (.inl ⟨by rw[liq];exact bT,rfl⟩) ?_;apply af;simp only[go_sem,iv,a1,a2,a3,a4];refine⟨by omega,?_⟩;refine P7 (l:=cjq) (v:=.agg cjq.toArray) rfl (cellsU a7 (.tail _ (.head _)) (by simpa using kjq)) (.inl ⟨by rw[ljq];exact bT,rfl⟩) ?_;apply af;simp only[go_sem,iv,a1,a2,a3,a4];refine Og a7 [0] rfl (fun h=>by cases h) rfl gf (by rfl) (ps:=[]) (F:=[_]) rfl (cf I3 _ _ _ _ riq rjq) fun v I6 qs am aa hq=>?_;obtain⟨rfl,z,rfl,ao⟩:=hq;simp only[Z3]at am |-;apply af;simp only[go_sem,iv];refine aw ?_;cases ap:cz d2[first+r]! d2[first+(2*r+2)]! with
    |false=>
     rw[ap]at ao;rw[SI (by simp[ap])]at ac;apply RG;simp only[go_sem,iv,ao,T7];exact ai rfl am (r:=[]) rfl (Ui an (Ui ak aa)) ⟨_,rfl,by rw[<-ac];exact br.le a6 (Ui ak aa),by rw[<-ac];exact aS⟩
    |true=>
     rw[ap]at ao;rw[Sb (by simp[ap])]at ac;rw[dif_pos h2]at ac;apply RG;simp only[go_sem,iv,ao,Ud];have mi:((first+r)+1)*7<=d.size*7:=Tb _ (by omega);have mj:((first+(2*r+2))+1)*7<=d.size*7:=Tb _ (by omega);refine ax mixed [0,1,2,3,4,5,6,7,8,9,10,11,12,13,14,15,16,17,18,19,20,21,22,23] [13,19] [] rfl rfl ?_;apply af;simp only[go_sem,iv,a1,a2,a3,a4];refine⟨by omega,?_⟩;refine P7 (l:=cjq) (v:=.agg cjq.toArray) rfl (cellsU am (.tail _ (.head _)) (by simpa using kjq)) (.inl ⟨by rw[ljq];exact bT,rfl⟩) ?_;apply af;simp only[go_sem,iv,a1,a2,a3,a4];refine⟨by omega,?_⟩;refine P7 (l:=ciq) (v:=.agg ciq.toArray) rfl (cellsU am (.tail _ (.head _)) (by simpa using kiq)) (.inl ⟨by rw[liq];exact bT,rfl⟩) ?_;apply af;simp only[go_sem,iv,a1,a2,a3,a4];refine⟨by omega,?_⟩;refine aH am rfl rfl rfl rfl rfl (aM (aW.ones rjq)) (by rw[ljq];exact fx) (by rw[ljq];omega) fun ba=>?_;apply af;simp only[go_sem,iv,a1,a2,a3,a4];refine⟨by omega,?_⟩;refine aH ba rfl rfl rfl rfl rfl (aM (aW.ones riq)) (by rw[liq];exact fx) (by rw[liq];simp[aJ];omega) fun bb=>?_;refine aw ?_;apply RG;simp only[go_sem,iv];exact a0 (2*r+2) _ _ (by omega) (ae (by simp only[go_sem,Tq,iv])) (by simp only[go_sem,Tq,MQ]) ⟨I6,_,_,rfl,bb,Ui an (Ui ak aa),by omega,by rw[cH];exact aS,aj I6 aa,ac⟩
   |false=>
    rw[hl]at hz;have bd:cz d2[first+(2*r+1)]! d2[first+(2*r+1)+1]! = false:=hl;rw[Sb (by simp only[bd,Bool.and_false];decide)]at ac;apply RG;simp only[go_sem,iv,hz];obtain⟨gq,cpq,curq,ciq,cjq,evq,eAq,a5,riq,rjq,liq,ljq,kiq,kjq,aj⟩:=Ow.two (br.le a6 ak) (fun{I} c a h=>aW.len c a h) (fun{I J c a} h k=>aW.le h k) (i:=first+r) (j:=first+(2*r+1)) (by omega) (by omega);rw[aS]at evq a5;cases evq
    obtain rfl:=pu eAq;clear eAq;refine ax mixed [0,1,2,3,4,5,6,7,8,9,10,11,12,13,14,15] [6,12] [] rfl rfl ?_;apply af;simp only[go_sem,iv,a1,a2,a3,a4];refine⟨by omega,?_⟩;refine P7 (l:=ciq) (v:=.agg ciq.toArray) rfl (cellsU a7 (.tail _ (.head _)) (by simpa using kiq)) (.inl ⟨by rw[liq];exact bT,rfl⟩) ?_;apply af;simp only[go_sem,iv,a1,a2,a3,a4];refine⟨by omega,?_⟩;refine P7 (l:=cjq) (v:=.agg cjq.toArray) rfl (cellsU a7 (.tail _ (.head _)) (by simpa using kjq)) (.inl ⟨by rw[ljq];exact bT,rfl⟩) ?_;apply af;simp only[go_sem,iv,a1,a2,a3,a4];refine Og a7 [0] rfl (fun h=>by cases h) rfl gf (by rfl) (ps:=[]) (F:=[_]) rfl (cf I3 _ _ _ _ riq rjq) fun v I6 qs am aa hq=>?_;obtain⟨rfl,z,rfl,ao⟩:=hq;simp only[Z3]at am |-;apply af;simp only[go_sem,iv];refine aw ?_;cases ap:cz d2[first+r]! d2[first+(2*r+1)]! with
    |false=>
     rw[ap]at ao;rw[SI (by simp[ap])]at ac;apply RG;simp only[go_sem,iv,ao,T7];exact ai rfl am (r:=[]) rfl (Ui an (Ui ak aa)) ⟨_,rfl,by rw[<-ac];exact br.le a6 (Ui ak aa),by rw[<-ac];exact aS⟩
    |true=>
     rw[ap]at ao;rw[Sb (by simp[ap])]at ac;apply RG;simp only[go_sem,iv,ao,Ud];have mi:((first+r)+1)*7<=d.size*7:=Tb _ (by omega);have mj:((first+(2*r+1))+1)*7<=d.size*7:=Tb _ (by omega);refine ax mixed [0,1,2,3,4,5,6,7,8,9,10,11,12,13,14,15,16,17,18,19,20,21,22,23] [13,19] [] rfl rfl ?_;apply af;simp only[go_sem,iv,a1,a2,a3,a4];refine⟨by omega,?_⟩;refine P7 (l:=cjq) (v:=.agg cjq.toArray) rfl (cellsU am (.tail _ (.head _)) (by simpa using kjq)) (.inl ⟨by rw[ljq];exact bT,rfl⟩) ?_;apply af;simp only[go_sem,iv,a1,a2,a3,a4];refine⟨by omega,?_⟩;refine P7 (l:=ciq) (v:=.agg ciq.toArray) rfl (cellsU am (.tail _ (.head _)) (by simpa using kiq)) (.inl ⟨by rw[liq];exact bT,rfl⟩) ?_;apply af;simp only[go_sem,iv,a1,a2,a3,a4];refine⟨by omega,?_⟩;refine aH am rfl rfl rfl rfl rfl (aM (aW.ones rjq)) (by rw[ljq];exact fx) (by rw[ljq];omega) fun ba=>?_;apply af;simp only[go_sem,iv,a1,a2,a3,a4];refine⟨by omega,?_⟩;refine aH ba rfl rfl rfl rfl rfl (aM (aW.ones riq)) (by rw[liq];exact fx) (by rw[liq];simp[aJ];omega) fun bb=>?_;refine aw ?_;apply RG;simp only[go_sem,iv];exact a0 (2*r+1) _ _ (by omega) (ae (by simp only[go_sem,Tq,iv])) (by simp only[go_sem,Tq,MQ]) ⟨I6,_,_,rfl,bb,Ui an (Ui ak aa),by omega,by rw[cH];exact aS,aj I6 aa,ac⟩
  ·have bc:decide (((2*r+2:Nat):Int)<(hi:Int))=false:=Ug (by omega);rw[Sb (by simp;omega)]at ac;refine ax mixed [0,1,2,3,4,5,6,7,8,9,10,11,12,13,14,15,16,17,18,19,20,21] [11,18] [] rfl rfl ?_;apply af;simp only[go_sem,iv,w3,bc];refine aw ?_;apply RG;simp only[go_sem,iv];obtain⟨gq,cpq,curq,ciq,cjq,evq,rfl,a5,riq,rjq,liq,ljq,kiq,kjq,aj⟩:=Ow.two (br.le a6 (Uj _)) (fun{I} c a h=>aW.len c a h) (fun{I J c a} h k=>aW.le h k) (i:=first+r) (j:=first+(2*r+1)) (by omega) (by omega);rw[aS]at evq a5;cases evq
   refine ax mixed [0,1,2,3,4,5,6,7,8,9,10,11,12,13,14,15] [6,12] [] rfl rfl ?_;apply af;simp only[go_sem,iv,a1,a2,a3,a4];refine⟨by omega,?_⟩;refine P7 (l:=ciq) (v:=.agg ciq.toArray) rfl (cellsU a9 (.tail _ (.head _)) (by simpa using kiq)) (.inl ⟨by rw[liq];exact bT,rfl⟩) ?_;apply af;simp only[go_sem,iv,a1,a2,a3,a4];refine⟨by omega,?_⟩;refine P7 (l:=cjq) (v:=.agg cjq.toArray) rfl (cellsU a9 (.tail _ (.head _)) (by simpa using kjq)) (.inl ⟨by rw[ljq];exact bT,rfl⟩) ?_;apply af;simp only[go_sem,iv,a1,a2,a3,a4];refine Og a9 [0] rfl (fun h=>by cases h) rfl gf (by rfl) (ps:=[]) (F:=[_]) rfl (cf I2 _ _ _ _ riq rjq) fun v I6 qs am aa hq=>?_;obtain⟨rfl,z,rfl,ao⟩:=hq;simp only[Z3]at am |-;apply af;simp only[go_sem,iv];refine aw ?_;cases ap:cz d2[first+r]! d2[first+(2*r+1)]! with
   |false=>
    rw[ap]at ao;rw[SI (by simp[ap])]at ac;apply RG;simp only[go_sem,iv,ao,T7];exact ai rfl am (r:=[]) rfl (Ui an (Ui (Uj _) aa)) ⟨_,rfl,by rw[<-ac];exact br.le a6 (Ui (Uj _) aa),by rw[<-ac];exact aS⟩
   |true=>
    rw[ap]at ao;rw[Sb (by simp[ap])]at ac;apply RG;simp only[go_sem,iv,ao,Ud];have mi:((first+r)+1)*7<=d.size*7:=Tb _ (by omega);have mj:((first+(2*r+1))+1)*7<=d.size*7:=Tb _ (by omega);refine ax mixed [0,1,2,3,4,5,6,7,8,9,10,11,12,13,14,15,16,17,18,19,20,21,22,23] [13,19] [] rfl rfl ?_;apply af;simp only[go_sem,iv,a1,a2,a3,a4];refine⟨by omega,?_⟩;refine P7 (l:=cjq) (v:=.agg cjq.toArray) rfl (cellsU am (.tail _ (.head _)) (by simpa using kjq)) (.inl ⟨by rw[ljq];exact bT,rfl⟩) ?_;apply af;simp only[go_sem,iv,a1,a2,a3,a4];refine⟨by omega,?_⟩;refine P7 (l:=ciq) (v:=.agg ciq.toArray) rfl (cellsU am (.tail _ (.head _)) (by simpa using kiq)) (.inl ⟨by rw[liq];exact bT,rfl⟩) ?_;apply af;simp only[go_sem,iv,a1,a2,a3,a4];refine⟨by omega,?_⟩;refine aH am rfl rfl rfl rfl rfl (aM (aW.ones rjq)) (by rw[ljq];exact fx) (by rw[ljq];omega) fun ba=>?_;apply af;simp only[go_sem,iv,a1,a2,a3,a4];refine⟨by omega,?_⟩;refine aH ba rfl rfl rfl rfl rfl (aM (aW.ones riq)) (by rw[liq];exact fx) (by rw[liq];simp[aJ];omega) fun bb=>?_;refine aw ?_;apply RG;simp only[go_sem,iv];exact a0 (2*r+1) _ _ (by omega) (ae (by simp only[go_sem,Tq,iv])) (by simp only[go_sem,Tq,MQ]) ⟨I6,_,_,rfl,bb,Ui an (Ui (Uj _) aa),by omega,by rw[cH];exact aS,aj I6 aa,ac⟩
 ·have bs:decide (((2*r+1:Nat):Int)>=(hi:Int))=true:=Uh (by omega);rw[Sort.siftDown,dif_pos b1]at ac;apply RG;simp only[go_sem,iv,w1,w2,bs];exact eO rfl a9 (r:=[]) rfl an ⟨A2,rfl,by rw[<-ac];exact a6,by rw[<-ac];exact aS⟩
theorem Iw:aP Tryz.prog 275:=⟨_,Tryz.func275,rfl,rfl⟩
theorem gd{k:Nat}(h:k<2^61):IntKind.i64.wrap ((k:Int)-1)=(k:Int)-1:=by
 have:=bQ (a:=k) (b:=1) (by omega) (by omega)
 rwa [show ((1:Nat):Int)=1 from rfl]at this
def Jw(v vf vh vc:Value)(k:Nat):St:=⟨dn 60 [(0,.v v),(3,.v vc),(8,.v vf),(9,.v (.int .i64 0)),(10,.v vh),(11,.v (.int .i64 ((k:Int)-1)))],[]⟩
def JN(v vf vc:Value)(k:Nat):St:=⟨dn 60 [(0,.v v),(3,.v vc),(8,.v vf),(9,.v (.int .i64 0)),(12,.v (.int .i64 ((k:Int)-1)))],[]⟩
theorem K2{I A:PH}{v vc:Value}{d:Array Nd}{a b:Nat}(hA:br I A v d.toList)(hc:jT aW cz vc)(b1:a<=b)(hb:b<=d.size)(hn:d.size<=aF):
  aO Tryz.prog 272 #[v,iv a,iv b,vc] I [A] fun _ I2 qs=>∃A2,qs=[A2]/\br I2 A2 v (Sort.heapSort cz d a b).toList:=by
 intro hd;unfold aF at hn;obtain⟨f,fst,cap,rfl,gf,cf⟩:=id hc;obtain⟨va,vk,rfl⟩:=Ow.one' hA;refine Ot Tryz.func272 rfl fun w0=>?_;simp only[Tryz.ntmps272,iv];have w1:IntKind.i64.wrap ((b:Int)-(a:Int))=((b-a:Nat):Int):=by
  rw[bQ (by omega) (by omega)];omega
 have w2:=gd (k:=b-a) (by omega);have w3:IntKind.i64.wrap ((((b-a:Nat):Int)-1).tdiv 2)=(((b-a-1) / 2+1:Nat):Int)-1:=by
  have e:(((b-a:Nat):Int)-1).tdiv 2=(((b-a-1) / 2:Nat):Int):=by
   rcases TI (b-a)with h|h
   ·rw[h];decide
   ·rw[show ((b-a:Nat):Int)-1=((b-a-1:Nat):Int) by omega];rfl
  rw[e,wrap64 (by omega)];omega
 apply RG;simp only[go_sem,w1,w2,w3];refine aB (fun k=>k) (Jw (.slice va d.size vk) (iv a) (iv (b-a)) (.func (.func f) fst cap)) (fun k H=>∃I2 A2 d2,H=U [I2,A2]/\Dj [I2,A2]/\I.le I2/\k<=d.size+1/\d2.size=d.size/\br I2 A2 (.slice va d.size vk) d2.toList/\Sort.heapBuild cz (b-a) a k d2=Sort.heapBuild cz (b-a) a ((b-a-1) / 2+1) d) ((b-a-1) / 2+1) (ae (by simp only[go_sem,Tq,iv])) (by simp only[go_sem,Tq,Jw]) ?_ ?_
 ·exact⟨I,A,d,rfl,hd,Uj _,by omega,rfl,hA,rfl⟩
 rintro k H ⟨I2,A2,d2,rfl,a7,am,hk,a1,a9,ap⟩ ak;simp only[Jw];cases k with
 |succ k=>
  have e:(((k+1:Nat):Int)-1)=(k:Int):=by omega
  have a5:decide ((k:Int)>=0)=true:=Uh (by omega);have w4:=gd (k:=k) (by omega);rw[Sort.heapBuild]at ap;apply RG;simp only[go_sem,iv,e,a5];refine NB a7 [0] rfl Cd (by rfl) (ps:=[A2]) (F:=[]) rfl (EU (d:=d2) (lo:=k) (hi:=b-a) (first:=a) a9 hc (by omega) (by rw[a1];exact hn) (by omega)) fun v I3 qs aj aa hq=>?_;obtain⟨A3,rfl,aS,an⟩:=hq;simp only[Z3]at aj |-;apply RG;simp only[go_sem,iv,w4];exact ak k _ _ (by omega) (ae (by simp only[go_sem,Tq,iv])) (by simp only[go_sem,Tq,Jw]) ⟨I3,A3,_,rfl,aj,Ui am aa,by omega,by rw[an];exact a1,aS,ap⟩
 |zero=>
  have a5:decide ((0:Int)-1>=0)=false:=rfl;rw[Sort.heapBuild]at ap;apply RG;simp only[go_sem,iv,a5,w2];refine aB (fun k=>k) (JN (.slice va d.size vk) (iv a) (.func (.func f) fst cap)) (fun k H=>∃I3 A3 d3,H=U [I3,A3]/\Dj [I3,A3]/\I2.le I3/\k<=b-a/\d3.size=d.size/\br I3 A3 (.slice va d.size vk) d3.toList/\Sort.heapPop cz a k d3=Sort.heapSort cz d a b) (b-a) (ae (by simp only[go_sem,Tq,iv])) (by simp only[go_sem,Tq,JN]) ?_ ?_
  ·exact⟨I2,A2,d2,rfl,a7,Uj _,R7 _,a1,a9,by rw[ap];rfl⟩
  rintro k H ⟨I3,A3,d3,rfl,aj,aa,b0,an,aS,ao⟩ ac;simp only[JN];cases k with
  |succ k=>
   have e:(((k+1:Nat):Int)-1)=(k:Int):=by omega
   have a4:decide ((k:Int)>=0)=true:=Uh (by omega);have w4:=gd (k:=k) (by omega);rw[Sort.heapPop]at ao;apply RG;simp only[go_sem,iv,e,a4];have w5:IntKind.i64.wrap ((a:Int)+(k:Int))=((a+k:Nat):Int):=by
    rw[<-wrap64 (n:=a+k) (by omega)];congr 1<;>omega
   obtain⟨g,cp,cur,ci,cj,ev,rfl,bd,ri,rj,li,lj,ki,kj,a2⟩:=Ow.two aS (fun{I} c a h=>aW.len c a h) (fun{I J c a} h k=>aW.le h k) (i:=a) (j:=a+k) (by omega) (by omega);rw[an]at ev bd;cases ev
   have mi:(a+1)*7<=d.size*7:=Tb _ (by omega);have mj:((a+k)+1)*7<=d.size*7:=Tb _ (by omega);refine ax mixed [0,1,2,3,4,5,6,7,8,9,10,11,12,13,14,15,16,17,18,19] [11,15] [] rfl rfl ?_;apply af;simp only[go_sem,iv,w5];refine⟨by omega,?_⟩;refine P7 (l:=cj) (v:=.agg cj.toArray) rfl (cellsU aj (.tail _ (.head _)) (by simpa using kj)) (.inl ⟨by rw[lj];exact bT,rfl⟩) ?_;apply af;simp only[go_sem,iv,w5];refine⟨by omega,?_⟩;refine P7 (l:=ci) (v:=.agg ci.toArray) rfl (cellsU aj (.tail _ (.head _)) (by simpa using ki)) (.inl ⟨by rw[li];exact bT,rfl⟩) ?_;apply af;simp only[go_sem,iv,w5];refine⟨by omega,?_⟩;refine aH aj rfl rfl rfl rfl rfl (aM (aW.ones rj)) (by rw[lj];exact fx) (by rw[lj];omega) fun bb=>?_;apply af;simp only[go_sem,iv,w5];refine⟨by omega,?_⟩;refine aH bb rfl rfl rfl rfl rfl (aM (aW.ones ri)) (by rw[li];exact fx) (by rw[li];simp[aJ];omega) fun bc=>?_;refine aw ?_;apply RG;simp only[go_sem,iv,e];have bx:=a2 I3 (Uj _);have a0:(Sort.swp d3 a (a+k)).size=d.size:=by rw[cH];exact an
   refine NB bc [0] rfl Cd (by rfl) (ps:=[sg g _]) (F:=[]) rfl (EU (lo:=0) (hi:=k) (first:=a) bx hc (by rw[a0];omega) (by rw[a0];exact hn) (S6 _)) fun v I5 qs a6 a3 hq=>?_;obtain⟨A5,rfl,bs,ba⟩:=hq;simp only[Z3]at a6 |-;apply RG;simp only[go_sem,iv,w4];exact ac k _ _ (by omega) (ae (by simp only[go_sem,Tq,iv])) (by simp only[go_sem,Tq,JN]) ⟨I5,A5,_,rfl,a6,Ui aa a3,by omega,by rw[ba];exact a0,bs,ao⟩
  |zero=>
   have a4:decide ((0:Int)-1>=0)=false:=rfl;rw[Sort.heapPop]at ao;apply RG;simp only[go_sem,iv,a4];exact eO rfl aj (r:=[]) rfl (Ui am aa) ⟨A3,rfl,by rw[<-ao];exact aS⟩
def O8(v:Value)(x:Nat×Nat):St:=⟨dn 34 [(0,.v v),(8,.v (iv x.1)),(9,.v (.int .i64 ((x.2:Int)-1)))],[]⟩
theorem OX{I A:PH}{v vc:Value}{d:Array Nd}{a b:Nat}(hA:br I A v d.toList)(a4:a<b)(hb:b<=d.size)(hn:d.size<=aF):
  aO Tryz.prog 275 #[v,iv a,iv b,vc] I [A] fun _ I2 qs=>∃A2,qs=[A2]/\br I2 A2 v (Sort.reverseRange d a b).toList:=by
 intro hd;unfold aF at hn;obtain⟨va,vk,rfl⟩:=Ow.one' hA;refine Ot Tryz.func275 rfl fun w0=>?_;simp only[Tryz.ntmps275,iv];have w2:=gd (k:=b) (by omega);apply RG;simp only[go_sem,w2];refine aB (fun x=>x.2-x.1) (O8 (.slice va d.size vk)) (fun x H=>∃A2 d2,H=U [I,A2]/\Dj [I,A2]/\x.1<=b/\1<=x.2/\x.2<=b/\d2.size=d.size/\br I A2 (.slice va d.size vk) d2.toList/\Sort.reverseLoop x.1 (x.2-1) d2=Sort.reverseRange d a b) (a,b) (ae (by simp only[go_sem,Tq,iv])) (by simp only[go_sem,Tq,O8]) ?_ ?_
 ·exact⟨A,d,rfl,hd,by simp only;omega,by simp only;omega,R7 _,rfl,hA,rfl⟩
 rintro⟨i,j⟩ H ⟨A2,d2,rfl,aj,hi,aS,hj,an,ao,aa⟩ ac;simp only at hi aS hj aa;simp only[O8];obtain⟨j,rfl⟩:∃j',j=j'+1:=⟨j-1,by omega⟩;have e:(((j+1:Nat):Int)-1)=(j:Int):=by omega
 rw[Tx]at aa;have w3:=gd (k:=j) (by omega);have w4:IntKind.i64.wrap ((i:Int)+1)=((i+1:Nat):Int):=by
  rw[<-wrap64 (n:=i+1) (by omega)];congr 1<;>omega
 rcases Sw i j with ap|a3
 ·have am:=Z5 (a:=i) (b:=j) (by omega);rw[Sort.reverseLoop,SI ap]at aa;apply RG;simp only[go_sem,iv,e,am];obtain⟨g,cp,cur,ci,cj,ev,rfl,a2,ri,rj,li,lj,ki,kj,ak⟩:=Ow.two ao (fun{I} c a h=>aW.len c a h) (fun{I J c a} h k=>aW.le h k) (i:=i) (j:=j) (by omega) (by omega);rw[an]at ev a2;cases ev
  have mi:(i+1)*7<=d.size*7:=Tb _ (by omega);have mj:(j+1)*7<=d.size*7:=Tb _ (by omega);refine ax mixed [0,1,2,3,4,5,6,7,8,9,10,11,12,13,14,15] [7,11] [] rfl rfl ?_;apply af;simp only[go_sem,iv,e];refine⟨by omega,?_⟩;refine P7 (l:=cj) (v:=.agg cj.toArray) rfl (cellsU aj (.tail _ (.head _)) (by simpa using kj)) (.inl ⟨by rw[lj];exact bT,rfl⟩) ?_;apply af;simp only[go_sem,iv,e];refine⟨by omega,?_⟩;refine P7 (l:=ci) (v:=.agg ci.toArray) rfl (cellsU aj (.tail _ (.head _)) (by simpa using ki)) (.inl ⟨by rw[li];exact bT,rfl⟩) ?_;apply af;simp only[go_sem,iv,e];refine⟨by omega,?_⟩;refine aH aj rfl rfl rfl rfl rfl (aM (aW.ones rj)) (by rw[lj];exact fx) (by rw[lj];omega) fun a0=>?_;apply af;simp only[go_sem,iv,e];refine⟨by omega,?_⟩;refine aH a0 rfl rfl rfl rfl rfl (aM (aW.ones ri)) (by rw[li];exact fx) (by rw[li];simp[aJ];omega) fun a1=>?_;refine aw ?_;apply RG;simp only[go_sem,iv,w3,w4];exact ac (i+1,j) _ _ (by simp only;omega) (ae (by simp only[go_sem,Tq,iv])) (by simp only[go_sem,Tq,O8]) ⟨_,_,rfl,a1,by simp only;omega,by simp only;omega,by simp only;omega,by rw[cH];exact an,ak I (Uj _),aa⟩
 ·have am:decide ((i:Int)<(j:Int))=false:=Ug (by omega);rw[Sort.reverseLoop,Sb (by omega)]at aa;apply RG;simp only[go_sem,iv,e,am];exact eO rfl aj (r:=[]) rfl (Uj _) ⟨A2,rfl,by rw[<-aa];exact ao⟩
theorem xL:aP Tryz.prog 309:=⟨_,Tryz.func309,rfl,rfl⟩
theorem ww:aP Tryz.prog 300:=⟨_,Tryz.func300,rfl,rfl⟩
theorem wO:aP Tryz.prog 299:=⟨_,Tryz.func299,rfl,rfl⟩
theorem IT:aP Tryz.prog 274:=⟨_,Tryz.func274,rfl,rfl⟩
abbrev zz(b n:Nat):PH:=sg b (.cells #[iv n] 3 (0,0))
theorem tH{I A:PH}{v vc:Value}{d:Array Nd}{a b n sb:Nat}(hA:br I A v d.toList)(hc:jT aW cz vc)(ha:a<d.size)(hb:b<d.size)(hn:d.size<=aF)(hs:n<2^20):
  aO Tryz.prog 309 #[v,iv a,iv b,pt sb,vc] I [A,zz sb n] fun r I2 qs=>qs=[A,zz sb (Sort.order2 cz d a b n).2.2]/\r=.tuple #[iv (Sort.order2 cz d a b n).1,iv (Sort.order2 cz d a b n).2.1]:=by
 intro hd;unfold aF at hn;obtain⟨f,fst,cap,rfl,gf,cf⟩:=id hc;obtain⟨va,vk,rfl⟩:=Ow.one' hA;refine Ot Tryz.func309 rfl fun w0=>?_;simp only[Tryz.ntmps309,iv,pt];have w1:IntKind.i64.wrap ((n:Int)+1)=((n+1:Nat):Int):=by
  have e0:(n:Int)+1=((n+1:Nat):Int):=by omega
  rw[e0];exact wrap64 (by omega)
 obtain⟨g,cp,cur,ci,cj,ev,rfl,ao,ri,rj,li,lj,ki,kj,am⟩:=Ow.two hA (fun{I} c a h=>aW.len c a h) (fun{I J c a} h k=>aW.le h k) (i:=b) (j:=a) (by omega) (by omega);cases ev
 apply RG;simp only[go_sem];refine ax mixed [0,1,2,3,4,5,6,7,8,9,10] [4,8] [] rfl rfl ?_;apply af;simp only[go_sem,iv,iv];refine⟨by omega,?_⟩;refine P7 (l:=ci) (v:=.agg ci.toArray) rfl (cellsU hd (.tail _ (.head _)) (by simpa using ki)) (.inl ⟨by rw[li];exact bT,rfl⟩) ?_;apply af;simp only[go_sem,iv,iv];refine⟨by omega,?_⟩;refine P7 (l:=cj) (v:=.agg cj.toArray) rfl (cellsU hd (.tail _ (.head _)) (by simpa using kj)) (.inl ⟨by rw[lj];exact bT,rfl⟩) ?_;apply af;simp only[go_sem,iv,iv];refine Og hd [0,1] rfl (fun h=>by cases h) rfl gf (by rfl) (ps:=[]) (F:=[_,_]) rfl (cf I _ _ _ _ ri rj) fun v I2 qs ac aa hq=>?_;obtain⟨rfl,z,rfl,hz⟩:=hq;simp only[Z3]at ac |-;apply af;simp only[go_sem,iv];refine aw ?_;cases hl:cz d[b]! d[a]! with
 |true=>
  rw[hl]at hz;have e:Sort.order2 cz d a b n=(b,a,n+1):=by simp[Sort.order2,hl]
  rw[e];apply RG;simp only[go_sem,iv,hz];refine Qz (l:=[iv n]) rfl (cellsU ac (.tail _ (.tail _ (.head _))) (aU (by simp) rfl)) (.inr ⟨mF,rfl⟩) ?_;apply RG;simp only[go_sem,iv,w1];refine ab ac [1,0] rfl fun ak=>?_;simp only[Z4]at ak |-;refine cG ak rfl rfl rfl rfl rfl (by exact Gn) (by simp) fun an=>?_;apply RG;simp only[go_sem,iv];refine ab an [1,0] rfl fun aj=>?_;simp only[Z4]at aj |-;exact ai rfl aj (r:=[iv b,iv a]) rfl aa ⟨rfl,rfl⟩
 |false=>
  rw[hl]at hz;have e:Sort.order2 cz d a b n=(a,b,n):=by simp[Sort.order2,hl]
  rw[e];apply RG;simp only[go_sem,iv,hz];exact ai rfl ac (r:=[iv a,iv b]) rfl aa ⟨rfl,rfl⟩
theorem pI(d:Array Nd)(a b n:Nat):((Sort.order2 cz d a b n).1=a/\(Sort.order2 cz d a b n).2.1=b\/(Sort.order2 cz d a b n).1=b/\(Sort.order2 cz d a b n).2.1=a)/\(Sort.order2 cz d a b n).2.2<=n+1:=by
 unfold Sort.order2;split
 ·exact⟨.inr ⟨rfl,rfl⟩,R7 _⟩
 ·exact⟨.inl ⟨rfl,rfl⟩,Nat.le_succ _⟩
theorem uf{I A:PH}{v vc:Value}{d:Array Nd}{a b c n sb:Nat}(hA:br I A v d.toList)(hc:jT aW cz vc)(ha:a<d.size)(hb:b<d.size)(ao:c<d.size)(hn:d.size<=aF)(hs:n<2^19):
  aO Tryz.prog 300 #[v,iv a,iv b,iv c,pt sb,vc] I [A,zz sb n] fun r I2 qs=>∃n2 m,n2<=n+3/\(m=a\/m=b\/m=c)/\qs=[A,zz sb n2]/\r=iv m:=by
 intro hd;obtain⟨f,fst,cap,rfl,gf,cf⟩:=id hc;obtain⟨va,vk,rfl⟩:=Ow.one' hA;refine Ot Tryz.func300 rfl fun w0=>?_;simp only[Tryz.ntmps300,iv,pt];apply RG;simp only[go_sem];refine NB hd [0,1] rfl xL (by rfl) (ps:=[A,zz sb n]) (F:=[]) rfl (tH (a:=a) (b:=b) hA hc ha hb hn (by omega)) fun v I2 qs an aa hq=>?_;obtain⟨rfl,rfl⟩:=hq;obtain⟨p1,p2⟩:=pI d a b n;generalize Sort.order2 cz d a b n=r1 at *;simp only[Z3]at an |-;apply RG;simp only[go_sem,iv,pt];have u1:r1.2.1<d.size/\r1.1<d.size:=by rcases p1 with p|p<;>omega
 refine NB an [0,1] rfl xL (by rfl) (ps:=[A,zz sb r1.2.2]) (F:=[]) rfl (tH (a:=r1.2.1) (b:=c) (br.le hA aa) hc u1.1 ao hn (by omega)) fun v I3 qs am ac hq=>?_;obtain⟨rfl,rfl⟩:=hq;obtain⟨q1,q2⟩:=pI d r1.2.1 c r1.2.2;generalize Sort.order2 cz d r1.2.1 c r1.2.2=r2 at *;simp only[Z3]at am |-;apply RG;simp only[go_sem,iv,pt];have u2:r2.1<d.size:=by rcases q1 with q|q<;>omega
 refine NB am [0,1] rfl xL (by rfl) (ps:=[A,zz sb r2.2.2]) (F:=[]) rfl (tH (a:=r1.1) (b:=r2.1) (br.le hA (Ui aa ac)) hc u1.2 u2 hn (by omega)) fun v I4 qs ak aj hq=>?_;obtain⟨rfl,rfl⟩:=hq;obtain⟨s1,s2⟩:=pI d r1.1 r2.1 r2.2.2;generalize Sort.order2 cz d r1.1 r2.1 r2.2.2=r3 at *;simp only[Z3]at ak |-;apply RG;simp only[go_sem,iv,pt];exact ai rfl ak (r:=[iv r3.2.1]) rfl (Ui aa (Ui ac aj)) ⟨r3.2.2,r3.2.1,by omega,by rcases p1 with p|p<;>rcases q1 with q|q<;>rcases s1 with s|s<;>omega,rfl,rfl⟩
theorem sG{I A:PH}{v vc:Value}{d:Array Nd}{a n sb:Nat}(hA:br I A v d.toList)(hc:jT aW cz vc)(h1:1<=a)(ha:a+1<d.size)(hn:d.size<=aF)(hs:n<2^19):
  aO Tryz.prog 299 #[v,iv a,pt sb,vc] I [A,zz sb n] fun r I2 qs=>∃n2 m,n2<=n+3/\a-1<=m/\m<=a+1/\qs=[A,zz sb n2]/\r=iv m:=by
 intro hd;have aj:=hn;unfold aF at aj;obtain⟨f,fst,cap,rfl,gf,cf⟩:=id hc;obtain⟨va,vk,rfl⟩:=Ow.one' hA;refine Ot Tryz.func299 rfl fun w0=>?_;simp only[Tryz.ntmps299,iv,pt];have w2:IntKind.i64.wrap ((a:Int)-1)=((a-1:Nat):Int):=by rw[gd (by omega)];omega
 have w1:IntKind.i64.wrap ((a:Int)+1)=((a+1:Nat):Int):=by
  have e0:(a:Int)+1=((a+1:Nat):Int):=by omega
  rw[e0];exact wrap64 (by omega)
 apply RG;simp only[go_sem,w1,w2];refine NB hd [0,1] rfl ww (by rfl) (ps:=[A,zz sb n]) (F:=[]) rfl (uf (a:=a-1) (b:=a) (c:=a+1) hA hc (by omega) (by omega) (by omega) hn hs) fun v I2 qs ac aa hq=>?_;obtain⟨n2,m,p1,p2,rfl,rfl⟩:=hq;simp only[Z3]at ac |-;apply RG;simp only[go_sem,iv,pt];exact ai rfl ac (r:=[iv m]) rfl aa ⟨n2,m,p1,by omega,by omega,rfl,rfl⟩
theorem JX{I A:PH}{v vc:Value}{d:Array Nd}{a b:Nat}(hA:br I A v d.toList)(hc:jT aW cz vc)(bc:12<b-a)(hb:b<=d.size)(hn:d.size<=aF):
  aO Tryz.prog 274 #[v,iv a,iv b,vc] I [A] fun r I2 qs=>∃m h,a<=m/\m<b/\h<=2/\qs=[A]/\r=.tuple #[iv m,iv h]:=by
 intro hd;have a7:=hn;unfold aF at a7;obtain⟨f,fst,cap,rfl,gf,cf⟩:=id hc;obtain⟨va,vk,rfl⟩:=Ow.one' hA;refine Ot Tryz.func274 rfl fun w0=>?_;simp only[Tryz.ntmps274,iv,pt];have w1:IntKind.i64.wrap ((b:Int)-(a:Int))=((b-a:Nat):Int):=by
  rw[bQ (by omega) (by omega)];omega
 obtain⟨q,hq⟩:∃q,q=(b-a) / 4:=⟨_,rfl⟩;have bb:4*q<=b-a:=by omega
 have ba:3<=q:=by omega
 have wq:IntKind.i64.wrap ((((b-a:Nat):Int)).tdiv 4)=(q:Int):=by
  rw[show (((b-a:Nat):Int)).tdiv 4=(((b-a) / 4:Nat):Int) from rfl,<-hq,wrap64 (by omega)]
 have m1:IntKind.i64.wrap ((q:Int)*1)=((q:Nat):Int):=by
  have e0:(q:Int)*1=((q:Nat):Int):=by omega
  rw[e0];exact wrap64 (by omega)
 have m2:IntKind.i64.wrap ((q:Int)*2)=((2*q:Nat):Int):=by
  have e0:(q:Int)*2=((2*q:Nat):Int):=by omega
  rw[e0];exact wrap64 (by omega)
 have m3:IntKind.i64.wrap ((q:Int)*3)=((3*q:Nat):Int):=by
  have e0:(q:Int)*3=((3*q:Nat):Int):=by omega
  rw[e0];exact wrap64 (by omega)
 have s1:IntKind.i64.wrap ((a:Int)+(q:Int))=((a+q:Nat):Int):=by
  have e0:(a:Int)+(q:Int)=((a+q:Nat):Int):=by omega
  rw[e0];exact wrap64 (by omega)
 have s2:IntKind.i64.wrap ((a:Int)+((2*q:Nat):Int))=((a+2*q:Nat):Int):=by
  have e0:(a:Int)+((2*q:Nat):Int)=((a+2*q:Nat):Int):=by omega
  rw[e0];exact wrap64 (by omega)
 have s3:IntKind.i64.wrap ((a:Int)+((3*q:Nat):Int))=((a+3*q:Nat):Int):=by
  have e0:(a:Int)+((3*q:Nat):Int)=((a+3*q:Nat):Int):=by omega
  rw[e0];exact wrap64 (by omega)
 have a6:decide (((b-a:Nat):Int)>=8)=true:=Uh (by omega);apply bq 15;simp only[go_sem,w1];refine eP 11 hd rfl fun sb a5=>?_;have a9:Dj [I,zz sb 0,A]:=a5
 change RC _ _ _ (U [I,zz sb 0,A])
 clear a5;refine ab a9 [1,0] rfl fun a1=>?_;simp only[Z4]at a1 |-;rcases Sw (b-a) 50 with h5|h5
 ·have a2:decide (((b-a:Nat):Int)>=50)=false:=Ug (by omega);apply RG;simp only[go_sem,kE,List.map,iv,pt,wq,m1,m2,m3,s1,s2,s3,a6,a2];refine NB a1 [0,1] rfl ww (by rfl) (ps:=[A,zz sb 0]) (F:=[]) rfl (uf (a:=a+q) (b:=a+2*q) (c:=a+3*q) (n:=0) hA hc (by omega) (by omega) (by omega) hn (by omega)) fun v I2 qs am aj hq=>?_;obtain⟨n2,m,p1,p2,rfl,rfl⟩:=hq;simp only[Z3]at am |-;apply RG;simp only[go_sem,iv,pt];refine Qz (l:=[iv n2]) rfl (cellsU am (.tail _ (.tail _ (.head _))) (aU (by simp) rfl)) (.inr ⟨mF,rfl⟩) ?_;have hm:a<=m/\m<b:=by omega
  by_cases z0:n2=0
  ·have q0:((n2:Int) == 0)=true:=by rw[z0];rfl
   apply RG;simp only[go_sem,iv,q0];refine ab am [1,0] rfl fun aa=>?_;simp only[Z4]at aa |-;refine ag aa fun I9 aa ac aS=>?_;exact ai rfl aa (r:=[iv m,iv 1]) rfl (Ui aj ac) ⟨m,1,hm.1,hm.2,by omega,rfl,rfl⟩
  ·have q0:((n2:Int) == 0)=false:=by rw[Uf];omega
   by_cases z1:n2=12
   ·have q1:((n2:Int) == 12)=true:=by rw[z1];rfl
    apply RG;simp only[go_sem,iv,q0,q1];refine ab am [1,0] rfl fun aa=>?_;simp only[Z4]at aa |-;refine ag aa fun I9 aa ac aS=>?_;exact ai rfl aa (r:=[iv m,iv 2]) rfl (Ui aj ac) ⟨m,2,hm.1,hm.2,by omega,rfl,rfl⟩
   ·have q1:((n2:Int) == 12)=false:=by rw[Uf];omega
    apply RG;simp only[go_sem,iv,q0,q1];refine ab am [1,0] rfl fun aa=>?_;simp only[Z4]at aa |-;refine ag aa fun I9 aa ac aS=>?_;exact ai rfl aa (r:=[iv m,iv 0]) rfl (Ui aj ac) ⟨m,0,hm.1,hm.2,by omega,rfl,rfl⟩
 ·have a2:decide (((b-a:Nat):Int)>=50)=true:=Uh (by omega);apply RG;simp only[go_sem,kE,List.map,iv,pt,wq,m1,m2,m3,s1,s2,s3,a6,a2];refine NB a1 [0,1] rfl wO (by rfl) (ps:=[A,zz sb 0]) (F:=[]) rfl (sG (a:=a+q) (n:=0) hA hc (by omega) (by omega) hn (by omega)) fun v I2 qs am aj hq=>?_;obtain⟨n2,x1,p1,p2,p3,rfl,rfl⟩:=hq;simp only[Z3]at am |-;apply RG;simp only[go_sem,iv,pt];refine NB am [0,1] rfl wO (by rfl) (ps:=[A,zz sb n2]) (F:=[]) rfl (sG (a:=a+2*q) (n:=n2) (br.le hA aj) hc (by omega) (by omega) hn (by omega)) fun v I3 qs a4 an hq=>?_;obtain⟨n3,x2,p4,p5,p6,rfl,rfl⟩:=hq;simp only[Z3]at a4 |-;apply RG;simp only[go_sem,iv,pt];refine NB a4 [0,1] rfl wO (by rfl) (ps:=[A,zz sb n3]) (F:=[]) rfl (sG (a:=a+3*q) (n:=n3) (br.le hA (Ui aj an)) hc (by omega) (by omega) hn (by omega)) fun v I4 qs a3 ao hq=>?_;obtain⟨n4,x3,p7,p8,p9,rfl,rfl⟩:=hq;simp only[Z3]at a3 |-;apply RG;simp only[go_sem,iv,pt];refine NB a3 [0,1] rfl ww (by rfl) (ps:=[A,zz sb n4]) (F:=[]) rfl (uf (a:=x1) (b:=x2) (c:=x3) (n:=n4) (br.le hA (Ui aj (Ui an ao))) hc (by omega) (by omega) (by omega) hn (by omega)) fun v I5 qs ap a0 hq=>?_;obtain⟨n5,m,p10,p11,rfl,rfl⟩:=hq;simp only[Z3]at ap |-;apply RG;simp only[go_sem,iv,pt];have ak:=Ui aj (Ui an (Ui ao a0));refine Qz (l:=[iv n5]) rfl (cellsU ap (.tail _ (.tail _ (.head _))) (aU (by simp) rfl)) (.inr ⟨mF,rfl⟩) ?_;have hm:a<=m/\m<b:=by omega
  by_cases z0:n5=0
  ·have q0:((n5:Int) == 0)=true:=by rw[z0];rfl
   apply RG;simp only[go_sem,iv,q0];refine ab ap [1,0] rfl fun aa=>?_;simp only[Z4]at aa |-;refine ag aa fun I9 aa ac aS=>?_;exact ai rfl aa (r:=[iv m,iv 1]) rfl (Ui ak ac) ⟨m,1,hm.1,hm.2,by omega,rfl,rfl⟩
  ·have q0:((n5:Int) == 0)=false:=by rw[Uf];omega
   by_cases z1:n5=12
   ·have q1:((n5:Int) == 12)=true:=by rw[z1];rfl
    apply RG;simp only[go_sem,iv,q0,q1];refine ab ap [1,0] rfl fun aa=>?_;simp only[Z4]at aa |-;refine ag aa fun I9 aa ac aS=>?_;exact ai rfl aa (r:=[iv m,iv 2]) rfl (Ui ak ac) ⟨m,2,hm.1,hm.2,by omega,rfl,rfl⟩
   ·have q1:((n5:Int) == 12)=false:=by rw[Uf];omega
    apply RG;simp only[go_sem,iv,q0,q1];refine ab ap [1,0] rfl fun aa=>?_;simp only[Z4]at aa |-;refine ag aa fun I9 aa ac aS=>?_;exact ai rfl aa (r:=[iv m,iv 0]) rfl (Ui ak ac) ⟨m,0,hm.1,hm.2,by omega,rfl,rfl⟩
end Go.Proofs.YtfaclfkpnmcmlaaGreatDoor
namespace Go.Sx
open Go
section
variable {C:Cx} {P:Program} {k:List Item} {σ:St} {H:PH}
theorem ul{zs:Array Value}{n:Nat}(h:zs.toList.all one=true):(Builtin.zeroCells zs n).toList.length=n*zs.size/\(Builtin.zeroCells zs n).toList.all one=true:=by
 constructor
 ·simp[Builtin.zeroCells]
 ·rw[SH];intro v hv;simp only[Builtin.zeroCells,Array.toList_map,SZ,Array.mem_toList_iff,Array.mem_range]at hv;obtain⟨i,hi,rfl⟩:=hv;have hz:0<zs.size:=by
   rcases TI zs.size with h0|h0
   ·rw[h0]at hi;simp at hi
   ·exact h0
  have hm:=Nat.mod_lt i hz;rw[getElem!_pos zs _ hm];exact List.all_eq_true.1 h _ (Array.mem_toList_iff.2 (Array.getElem_mem hm))
theorem Ay{t ty e:TypeId}{z:Value}{size:Nat}(hu:P.underlying t=some (.slice e))(hz:aI P e=some z)(ac:z.cells.size=size)(h1:z.cells.toList.all one=true){g o n c:Nat}{cur:Array Value}
  (hg:H g=some (.cells cur e (0,0))) (ak:o+n*size<=cur.size) (w:World) (hw:Sub H w) :
  ∃w2 ys,ys.length=n*size/\(Builtin.clear_ #[t] ty #[.slice (some ⟨g,o,none⟩) n c]).run P w=.ok (.tuple #[]) w2/\cS H w (H.put g (.cells (be cur.toList o ys).toArray e (0,0))) w2:=by
 cases n with
 |zero=>
  refine⟨w,[],by simp,by simp[Builtin.clear_,run_underlying hu],?_⟩;have e0:H.put g (.cells (be cur.toList o []).toArray e (0,0))=H:=by
   funext b;by_cases eb:b=g
   ·subst eb;simp[PH.put,be,hg]
   ·simp[PH.put,eb]
  rw[e0];exact cS.refl hw
 |succ n=>
 have aa:=hw _ _ hg;rw[show cur=cur.toList.toArray from by simp]at aa;obtain⟨q1,q2⟩:=ul (n:=n+1) h1;rw[ac]at q1;have aj:(zeroValue e).run P w=.ok z w:=by
  unfold aI at hz;cases hi:P.info? e with
  |none=>rw[hi]at hz;cases hz
  |some i=>
   rw[hi]at hz;have hz:i.zero=some z:=hz;simp[zeroValue,typeInfo,program,Sem.run,hi,hz,Result.andThen]
 obtain⟨w2,r1,r2,r3,r4,r5,r6,r7⟩:=fM (P:=P) g e (Builtin.zeroCells z.cells (n+1)).toList 0 o cur.toList w aa (by simp only[Sk]at *;omega) fun v hv=>List.all_eq_true.1 q2 v hv;refine⟨w2,_,q1,?_,?_⟩
 ·simp[Builtin.clear_,run_underlying hu,aj,Result.andThen,r1]
 ·refine⟨fun c o' h=>?_,by omega,fun c am hn=>r3 c (fun e=>by subst e;rw[hg]at hn;cases hn),fun c am hn=>?_,r5,r6,r7⟩
  ·by_cases e:c=g
   ·subst e;simp only[PH.put,R9]at h;cases h;simpa using r2
   ·simp only[PH.put,Sb e]at h;rw[r3 c e];exact hw _ _ h
  ·have:c≠g:=fun e=>by subst e;rw[hg]at hn;cases hn
   simp[PH.put,this,hn]
theorem Bf{o:Oper}{t e:TypeId}{z:Value}{size:Nat}{x:Operand}{g off n c:Nat}{cur:Array Value}(hu:P.underlying t=some (.slice e))(hz:aI P e=some z)(ak:z.cells.size=size)(h1:z.cells.toList.all one=true)(aj:o.op=.call ⟨.builtin .clear,#[x],#[t]⟩)
  (hx:ev σ x=.v (.slice (some ⟨g,off,none⟩) n c)) (hg:H g=some (.cells cur e (0,0))) (ac:off+n*size<=cur.size) :
  aR σ o.op=true/\co P (execOp (bp σ) o) H fun sv H2=>∃ys,sv=.v (.tuple #[])/\ys.length=n*size/\H2=H.put g (.cells (be cur.toList off ys).toArray e (0,0)):=by
 constructor
 ·simp[aR,aj,eL,Op.operands,Call.operands,hx,qy]
 ·intro w hw;obtain⟨w2,ys,hl,aa,st⟩:=Ay (ty:=o.type) (c:=c) hu hz ak h1 hg ac w hw;have:(execOp (bp σ) o).run P w=.ok (.value (.tuple #[])) w2:=by
   simp[execOp,aj,resolve,bp,hx,invoke,builtin,Result.andThen,aa]
  rw[this];exact⟨_,st,ys,rfl,hl,rfl⟩
theorem DL{ol rem:List Oper}{o:Oper}{t e:TypeId}{z:Value}{size:Nat}{x:Operand}{g off n c:Nat}{cur:Array Value}{I:PH}{l:List PH}(hd:Dj (I::sg g (.cells cur e (0,0))::l))(hu:C.P.underlying t=some (.slice e))(hz:aI C.P e=some z)(ac:z.cells.size=size)(h1:z.cells.toList.all one=true)
  (hw:aG ol σ o=some true) (aj:o.op=.call ⟨.builtin .clear,#[x],#[t]⟩) (hx:ev σ x=.v (.slice (some ⟨g,off,none⟩) n c)) (aa:off+n*size<=cur.size)
  (hk:∀ys,ys.length=n*size->Dj (I::sg g (.cells (be cur.toList off ys).toArray e (0,0))::l)->RC C (.op ol rem k) (σ.put o.dst (.v (.tuple #[]))) (U (I::sg g (.cells (be cur.toList off ys).toArray e (0,0))::l))):RC C (.op ol (o::rem) k) σ (U (I::sg g (.cells cur e (0,0))::l)):=by
 obtain⟨a,b⟩:=Bf (σ:=σ) hu hz ac h1 aj hx (cw hd _ _ (cP _ _)) aa;refine f9 hw a (b.mono fun sv H2 ⟨ys,e1,e2,e3⟩=>?_);subst e1;subst e3;obtain⟨e1,ak⟩:=nX (o':=.cells (be cur.toList off ys).toArray e (0,0)) hd;rw[e1];exact hk ys e2 ak
theorem iZ{ol:List Oper}{fr:gW}{str:gR}{r1 r2:List (Nat×Oper)}{i:Nat}{l':List (Nat×Oper)}{o:Oper}{T:TypeId}{x:Operand}{b off:Nat}{l:List Value}{v:Value}(hf:fr.j.contains i=true)(hJ:fr.J.le H)(hw:aG ol σ o=some true)(aa:o.op=.load T x)(hx:ev σ x=.v (.pointer (some ⟨b,off,none⟩)))(h:aQ fr.J b off l)
  (hT:aV C.P T=some (some l.length)/\v=.agg l.toArray\/aV C.P T=some none/\l=[v]) (hk:Hq C ol fr str r1 r2 l' k (σ.put o.dst (.v v)) H):Hq C ol fr str r1 r2 ((i,o)::l') k σ H:=by
 obtain⟨h1,h2⟩:=mW (P:=C.P) aa hx h hT;exact .inr ⟨hw,by rw[show nr o.op=.val by rw[aa];rfl];exact⟨_,.inr (.inr ⟨hf,hJ,v,rfl,h1,h2⟩),hk⟩⟩
theorem E6{α:Type}(S:α->St)(Q:α->PH->Prop){p:Prop}(h1:(∀a σ' H,Q a H->nh (S a).tm σ'.tm->od (S a).bx σ'.bx->RC C (.st k) σ' H)->p)(h2:∀a H,Q a H->RC C (.st k) (S a) H):p:=
 h1 fun a _ H hq ht hb=>dK ht hb (h2 a H hq)
theorem uD{id:Nat}{ops:Array Oper}(hm:C.P.follows .mixedOrders=true)(κ:List Nat)(p q:Nat)(r1 r2:List Nat)(fr str fj sj:List Nat)(J:PH)(aa:M8 ops.toList κ p q r1 r2 ⟨fr,fj,J,[],[]⟩ ⟨str,sj,[]⟩=true)(hs:wR σ.bx=true)
  (h:Hq C ops.toList ⟨fr,fj,J,[],[]⟩ ⟨str,sj,[]⟩ (pick ops.toList (p::q::r1)) (pick ops.toList (q::p::r2)) (pick ops.toList κ) k σ H):RC C (.st (.code (.region id ops true)::k)) σ H:=by
 have hk:=aa;simp only[M8,SG,SX,SR]at hk;obtain⟨⟨⟨⟨⟨⟨⟨⟨⟨⟨⟨⟨⟨⟨h1,h2⟩,aS⟩,aj⟩,ac⟩,ap⟩,ao⟩,an⟩,am⟩,ak⟩,a4⟩,a3⟩,a0⟩,a2⟩,a1⟩:=hk;have e1:=md am;have e2:=md ak;refine(show R C (.code (.region id ops true)::k) σ H from ro fun _ _ s g=>qD rfl hm aa (Aa hs) ?_ s g);refine qF κ (fun i hi=>e1 i (SM _ hi)) (sX (fun σ' H' hh=>⟨qF _ (fun i hi=>?_) hh.1,qF _ (fun i hi=>?_) hh.2⟩) _ h)
 ·rcases List.mem_cons.1 hi with rfl|hi
  ·exact aj
  ·exact e1 i (SN _ hi)
 ·rcases List.mem_cons.1 hi with rfl|hi
  ·exact ac
  ·exact e2 i (SN _ hi)
end
theorem cO{C:Cx}{k kx:List Item}{σ:St}{H:PH}{α:Type}{c:Code}(μ:α->Nat)(S:α->St)(Q E:α->PH->Prop)(a0:α)(hs:nh (S a0).tm σ.tm)(hb:od (S a0).bx σ.bx)(hq:Q a0 H)
  (h:∀a H,Q a H->(∀a' σ1 H',μ a'<μ a->nh (S a').tm σ1.tm->od (S a').bx σ1.bx->Q a' H'->RC C (.st (.inLoop c::k)) σ1 H')->(∀a' σ1 H',nh (S a').tm σ1.tm->od (S a').bx σ1.bx->E a' H'->RC C (.st kx) σ1 H')->RC C (.st (.code c::.inLoop c::k)) (S a) H)
  (rest:∀a H,E a H->RC C (.st kx) (S a) H):RC C (.st (.code (.loop c)::k)) σ H:=
 aB μ S Q a0 hs hb hq fun a H hq hn=>h a H hq hn fun a' σ1 H' h1 h2 h3=>dK h1 h2 (rest a' H' h3)
end Go.Sx
namespace Go.Proofs.YtfaclfkpnmcmlaaGreatDoor
open Go Go.Sx Dg Syn
theorem J8:aP Tryz.prog 278:=⟨_,Tryz.func278,rfl,rfl⟩
theorem HE:aP Tryz.prog 277:=⟨_,Tryz.func277,rfl,rfl⟩
def mZ(v va vc:Value)(x:Nat×Nat):St:=⟨dn 178 [(0,.v v),(1,.v va),(4,.v vc),(12,.v (iv x.1)),(13,.v (iv x.2))],[]⟩
def vu(v va vc:Value)(x:Nat×Nat):St:=⟨dn 90 [(0,.v v),(1,.v va),(4,.v vc),(11,.v (iv x.1)),(12,.v (iv x.2))],[]⟩
theorem Mj{I A:PH}{v vc:Value}{d:Array Nd}{a b pivot:Nat}(hA:br I A v d.toList)(hc:jT aW cz vc)(d3:a<=pivot)(ds:pivot<b)(hb:b<=d.size)(hn:d.size<=aF):
  aO Tryz.prog 278 #[v,iv a,iv b,iv pivot,vc] I [A] fun r I2 qs=>∃A2,qs=[A2]/\br I2 A2 v (Sort.partition cz d a b pivot).2.2.toList/\r=.tuple #[iv (Sort.partition cz d a b pivot).1,.bool (Sort.partition cz d a b pivot).2.1]:=by
 intro hd;unfold aF at hn;obtain⟨f,fst,cap,rfl,gf,cf⟩:=id hc;obtain⟨g0,vk,rfl⟩:=Ow.addr hA (by omega);refine Ot Tryz.func278 rfl fun w0=>?_;simp only[Tryz.ntmps278,iv];have w1:IntKind.i64.wrap ((a:Int)+1)=((a+1:Nat):Int):=by
  have e0:(a:Int)+1=((a+1:Nat):Int):=by omega
  rw[e0];exact wrap64 (by omega)
 have w2:IntKind.i64.wrap ((b:Int)-1)=((b-1:Nat):Int):=by rw[gd (by omega)];omega
 apply RG;simp only[go_sem];obtain⟨g,cp,cur,ci,cj,ev,rfl,a0,ri,rj,li,lj,ki,kj,am⟩:=Ow.two hA (fun{I} c a h=>aW.len c a h) (fun{I J c a} h k=>aW.le h k) (i:=a) (j:=pivot) (by omega) (by omega);simp only[Value.slice.injEq,Sc,Addr.mk.injEq,TY,SP]at ev;obtain⟨eg,ek⟩:=ev;subst eg;subst ek;have mi:(a+1)*7<=d.size*7:=Tb _ (by omega);have mj:(pivot+1)*7<=d.size*7:=Tb _ (by omega);refine ax mixed [0,1,2,3,4,5,6,7,8,9,10,11,12,13,14,15] [7,11] [] rfl rfl ?_;apply af;simp only[go_sem,iv,iv];refine⟨by omega,?_⟩;refine P7 (l:=cj) (v:=.agg cj.toArray) rfl (cellsU hd (.tail _ (.head _)) (by simpa using kj)) (.inl ⟨by rw[lj];exact bT,rfl⟩) ?_;apply af;simp only[go_sem,iv,iv];refine⟨by omega,?_⟩;refine P7 (l:=ci) (v:=.agg ci.toArray) rfl (cellsU hd (.tail _ (.head _)) (by simpa using ki)) (.inl ⟨by rw[li];exact bT,rfl⟩) ?_;apply af;simp only[go_sem,iv,iv];refine⟨by omega,?_⟩;refine aH hd rfl rfl rfl rfl rfl (aM (aW.ones rj)) (by rw[lj];exact fx) (by rw[lj];omega) fun a3=>?_;apply af;simp only[go_sem,iv,iv];refine⟨by omega,?_⟩;refine aH a3 rfl rfl rfl rfl rfl (aM (aW.ones ri)) (by rw[li];exact fx) (by rw[li];simp[aJ];omega) fun d2=>?_;refine aw ?_;have c3:=am I (Uj _);have a6:(Sort.swp d a pivot).size=d.size:=(cH _ _ _).trans rfl;obtain⟨d1,ed1⟩:∃d1,d1=Sort.swp d a pivot:=⟨_,rfl⟩;rw[<-ed1]at c3 a6;apply RG;simp only[go_sem,iv,w1,w2];have dk:=c3
 apply cO (fun x=>(b-1)+2-x) (fun x=>mZ (.slice (some ⟨g0,0,none⟩) d.size vk) (iv a) (.func (.func f) fst cap) (x,(b-1))) (fun x H=>∃Jz Az,H=U [Jz,Az]/\Dj [Jz,Az]/\I.le Jz/\br Jz Az (.slice (some ⟨g0,0,none⟩) d.size vk) d1.toList/\(a+1)<=x/\x<=(b-1)+2/\Sort.scanUp (fun y=>cz y d1[a]!) d1 (b-1) x=Sort.scanUp (fun y=>cz y d1[a]!) d1 (b-1) (a+1)) (fun x H=>∃Jz Az,H=U [Jz,Az]/\Dj [Jz,Az]/\I.le Jz/\br Jz Az (.slice (some ⟨g0,0,none⟩) d.size vk) d1.toList/\(a+1)<=x/\x<=(b-1)+2/\x=Sort.scanUp (fun y=>cz y d1[a]!) d1 (b-1) (a+1)) (a+1)
 ·exact(ae (by simp only[go_sem,Tq,iv]))
 ·exact(by simp only[go_sem,Tq,mZ])
 ·exact⟨I,_,rfl,‹_›,Uj _,‹_›,R7 _,by omega,rfl⟩
 ·rintro x H ⟨Jz,Az,rfl,ap,aj,aS,bc,a2,ak⟩ an ac;simp only[mZ];rcases Sw (b-1) x with cr|cc
  ·have ao:decide (((x:Nat):Int)<=(((b-1):Nat):Int))=false:=Ug (by omega);rw[Sort.scanUp,Sb (by simp;omega)]at ak;have a5:=ak;apply RG;simp only[go_sem,iv];refine ax mixed [0,1,2,3,4,5,6,7,8,9,10,11,12,13,14,15] [8,12] [] rfl rfl ?_;apply af;simp only[go_sem,iv,ao];refine aw ?_;apply bq 3;simp only[go_sem,iv];exact ac x _ _ (ae (by simp only[go_sem,Tq,iv])) (by simp only[go_sem,Tq,mZ]) ⟨Jz,Az,rfl,ap,aj,aS,bc,a2,a5⟩
  ·have ao:decide (((x:Nat):Int)<=(((b-1):Nat):Int))=true:=Uh (by omega);rw[Sort.scanUp]at ak;have p1:IntKind.i64.wrap ((x:Int)+1)=((x+1:Nat):Int):=by
    have e0:(x:Int)+1=((x+1:Nat):Int):=by omega
    rw[e0];exact wrap64 (by omega)
   obtain⟨g,cp,cur,ci,cj,ev,rfl,a0,ri,rj,li,lj,ki,kj,am⟩:=Ow.two aS (fun{I} c a h=>aW.len c a h) (fun{I J c a} h k=>aW.le h k) (i:=x) (j:=a) (by omega) (by omega);rw[a6]at ev a0;simp only[Value.slice.injEq,Sc,Addr.mk.injEq,TY,SP]at ev;obtain⟨eg,ek⟩:=ev;subst eg;subst ek;apply RG;simp only[go_sem,iv];refine ax mixed [0,1,2,3,4,5,6,7,8,9,10,11,12,13,14,15] [8,12] [] rfl rfl ?_;apply af;simp only[go_sem,iv,ao];refine⟨by omega,?_⟩;refine P7 (l:=ci) (v:=.agg ci.toArray) rfl (cellsU ap (.tail _ (.head _)) (by simpa using ki)) (.inl ⟨by rw[li];exact bT,rfl⟩) ?_;apply af;simp only[go_sem,iv,ao];refine⟨by omega,?_⟩;refine P7 (l:=cj) (v:=.agg cj.toArray) rfl (cellsU ap (.tail _ (.head _)) (by simpa using kj)) (.inl ⟨by rw[lj];exact bT,rfl⟩) ?_;apply af;simp only[go_sem,iv,ao];refine Og ap [0] rfl (fun h=>by cases h) rfl gf (by rfl) (ps:=[]) (F:=[_]) rfl (cf Jz _ _ _ _ ri rj) fun v Jy qs a1 aa hq=>?_;obtain⟨rfl,z,rfl,hz⟩:=hq;simp only[Z3]at a1 |-;apply af;simp only[go_sem,iv];refine aw ?_;cases hl:cz d1[x]! d1[a]! with
   |true=>
    rw[hl]at hz;rw[SI (by simp[hl];omega)]at ak;apply RG;simp only[go_sem,iv,hz,Ud,p1];exact an (x+1) _ _ (by omega) (ae (by simp only[go_sem,Tq,iv])) (by simp only[go_sem,Tq,mZ]) ⟨Jy,_,rfl,a1,Ui aj aa,br.le aS aa,by omega,by omega,ak⟩
   |false=>
    rw[hl]at hz;rw[Sb (by simp[hl])]at ak;apply bq 3;simp only[go_sem,iv,hz,T7];exact ac (x) _ _ (ae (by simp only[go_sem,Tq,iv])) (by simp only[go_sem,Tq,mZ]) ⟨Jy,_,rfl,a1,Ui aj aa,br.le aS aa,bc,a2,ak⟩
 rintro i H ⟨I2,A2,rfl,d0,cb,ea,dA,dy,c9⟩;simp only[mZ];apply RG;simp only[go_sem,iv];apply cO (fun x=>x) (fun x=>mZ (.slice (some ⟨g0,0,none⟩) d.size vk) (iv a) (.func (.func f) fst cap) (i,x)) (fun x H=>∃Jz Az,H=U [Jz,Az]/\Dj [Jz,Az]/\I2.le Jz/\br Jz Az (.slice (some ⟨g0,0,none⟩) d.size vk) d1.toList/\x<=(b-1)/\Sort.scanDown (fun y=>!cz y d1[a]!) d1 i x=Sort.scanDown (fun y=>!cz y d1[a]!) d1 i (b-1)) (fun x H=>∃Jz Az,H=U [Jz,Az]/\Dj [Jz,Az]/\I2.le Jz/\br Jz Az (.slice (some ⟨g0,0,none⟩) d.size vk) d1.toList/\x<=(b-1)/\x=Sort.scanDown (fun y=>!cz y d1[a]!) d1 i (b-1)) (b-1)
 ·exact(ae (by simp only[go_sem,Tq,iv]))
 ·exact(by simp only[go_sem,Tq,mZ])
 ·exact⟨I2,_,rfl,‹_›,Uj _,‹_›,R7 _,rfl⟩
 ·rintro x H ⟨Jz,Az,rfl,ap,aj,aS,a2,ak⟩ an ac;simp only[mZ];rcases Sw x i with cr|cc
  ·have ao:decide (((i:Nat):Int)<=((x:Nat):Int))=false:=Ug (by omega);have a5:x=Sort.scanDown (fun y=>!cz y d1[a]!) d1 i (b-1):=by
    rw[<-ak];cases x with
    |zero=>rw[Sort.scanDown]
    |succ x=>rw[Sort.scanDown,Sb (by simp;omega)]
   apply RG;simp only[go_sem,iv];refine ax mixed [0,1,2,3,4,5,6,7,8,9,10,11,12,13,14,15,16] [8,12] [] rfl rfl ?_;apply af;simp only[go_sem,iv,ao];refine aw ?_;apply bq 3;simp only[go_sem,iv];exact ac x _ _ (ae (by simp only[go_sem,Tq,iv])) (by simp only[go_sem,Tq,mZ]) ⟨Jz,Az,rfl,ap,aj,aS,a2,a5⟩
  ·have ao:decide (((i:Nat):Int)<=((x:Nat):Int))=true:=Uh (by omega);obtain⟨x,rfl⟩:∃x',x=x'+1:=⟨x-1,by omega⟩;have p1:=jM (j:=x) (by omega);rw[Sort.scanDown]at ak;obtain⟨g,cp,cur,ci,cj,ev,rfl,a0,ri,rj,li,lj,ki,kj,am⟩:=Ow.two aS (fun{I} c a h=>aW.len c a h) (fun{I J c a} h k=>aW.le h k) (i:=x+1) (j:=a) (by omega) (by omega);rw[a6]at ev a0;simp only[Value.slice.injEq,Sc,Addr.mk.injEq,TY,SP]at ev;obtain⟨eg,ek⟩:=ev;subst eg;subst ek;apply RG;simp only[go_sem,iv];refine ax mixed [0,1,2,3,4,5,6,7,8,9,10,11,12,13,14,15,16] [8,12] [] rfl rfl ?_;apply af;simp only[go_sem,iv,ao];refine⟨by omega,?_⟩;refine P7 (l:=ci) (v:=.agg ci.toArray) rfl (cellsU ap (.tail _ (.head _)) (by simpa using ki)) (.inl ⟨by rw[li];exact bT,rfl⟩) ?_;apply af;simp only[go_sem,iv,ao];refine⟨by omega,?_⟩;refine P7 (l:=cj) (v:=.agg cj.toArray) rfl (cellsU ap (.tail _ (.head _)) (by simpa using kj)) (.inl ⟨by rw[lj];exact bT,rfl⟩) ?_;apply af;simp only[go_sem,iv,ao];refine Og ap [0] rfl (fun h=>by cases h) rfl gf (by rfl) (ps:=[]) (F:=[_]) rfl (cf Jz _ _ _ _ ri rj) fun v Jy qs a1 aa hq=>?_;obtain⟨rfl,z,rfl,hz⟩:=hq;simp only[Z3]at a1 |-;apply af;simp only[go_sem,iv];refine aw ?_;cases hl:cz d1[x+1]! d1[a]! with
   |true=>
    rw[hl]at hz;rw[Sb (by simp[hl])]at ak;apply bq 3;simp only[go_sem,iv,hz,Ud];exact ac (x+1) _ _ (ae (by simp only[go_sem,Tq,iv])) (by simp only[go_sem,Tq,mZ]) ⟨Jy,_,rfl,a1,Ui aj aa,br.le aS aa,a2,ak⟩
   |false=>
    rw[hl]at hz;rw[SI (by simp[hl];omega)]at ak;apply RG;simp only[go_sem,iv,hz,T7,p1];exact an x _ _ (by omega) (ae (by simp only[go_sem,Tq,iv])) (by simp only[go_sem,Tq,mZ]) ⟨Jy,_,rfl,a1,Ui aj aa,br.le aS aa,by omega,ak⟩
 rintro j H ⟨I3,A3,rfl,bb,ca,c2,dw,c6⟩;simp only[mZ];have hP:Sort.partition cz d a b pivot=if i>j then (j,true,Sort.swp d1 j a)else ((Sort.partLoop cz a (i+1) (j-1) (Sort.swp d1 i j)).1,false,Sort.swp (Sort.partLoop cz a (i+1) (j-1) (Sort.swp d1 i j)).2 (Sort.partLoop cz a (i+1) (j-1) (Sort.swp d1 i j)).1 a):=by
  unfold Sort.partition;simp only[<-ed1,<-c9,<-c6]
 have k3:=Ui cb ca;by_cases c0:i>j
 ·have ba:decide ((i:Int)>(j:Int))=true:=Uh (by omega);rw[SI c0]at hP;rw[hP];apply RG;simp only[go_sem,iv,ba];obtain⟨g,cp,cur,ci,cj,ev,rfl,a0,ri,rj,li,lj,ki,kj,am⟩:=Ow.two c2 (fun{I} c a h=>aW.len c a h) (fun{I J c a} h k=>aW.le h k) (i:=j) (j:=a) (by omega) (by omega);rw[a6]at ev a0;simp only[Value.slice.injEq,Sc,Addr.mk.injEq,TY,SP]at ev;obtain⟨eg,ek⟩:=ev;subst eg;subst ek;have mi:(j+1)*7<=d.size*7:=Tb _ (by omega);have mj:(a+1)*7<=d.size*7:=Tb _ (by omega);refine ax mixed [0,1,2,3,4,5,6,7,8,9,10,11,12,13,14,15] [7,11] [] rfl rfl ?_;apply af;simp only[go_sem,iv,iv];refine⟨by omega,?_⟩;refine P7 (l:=cj) (v:=.agg cj.toArray) rfl (cellsU bb (.tail _ (.head _)) (by simpa using kj)) (.inl ⟨by rw[lj];exact bT,rfl⟩) ?_;apply af;simp only[go_sem,iv,iv];refine⟨by omega,?_⟩;refine P7 (l:=ci) (v:=.agg ci.toArray) rfl (cellsU bb (.tail _ (.head _)) (by simpa using ki)) (.inl ⟨by rw[li];exact bT,rfl⟩) ?_;apply af;simp only[go_sem,iv,iv];refine⟨by omega,?_⟩;refine aH bb rfl rfl rfl rfl rfl (aM (aW.ones rj)) (by rw[lj];exact fx) (by rw[lj];omega) fun a3=>?_;apply af;simp only[go_sem,iv,iv];refine⟨by omega,?_⟩;refine aH a3 rfl rfl rfl rfl rfl (aM (aW.ones ri)) (by rw[li];exact fx) (by rw[li];simp[aJ];omega) fun ct=>?_;refine aw ?_;have b1:=am I3 (Uj _);have b2:(Sort.swp d1 j a).size=d.size:=(cH _ _ _).trans a6;apply RG;simp only[go_sem,iv];exact ai rfl ct (r:=[iv j,.bool true]) rfl k3 ⟨_,rfl,b1,rfl⟩
 have ba:decide ((i:Int)>(j:Int))=false:=Ug (by omega);rw[Sb c0]at hP;rw[hP];clear hP;apply RG;simp only[go_sem,iv,ba];obtain⟨g,cp,cur,ci,cj,ev,rfl,a0,ri,rj,li,lj,ki,kj,am⟩:=Ow.two c2 (fun{I} c a h=>aW.len c a h) (fun{I J c a} h k=>aW.le h k) (i:=i) (j:=j) (by omega) (by omega);rw[a6]at ev a0;simp only[Value.slice.injEq,Sc,Addr.mk.injEq,TY,SP]at ev;obtain⟨eg,ek⟩:=ev;subst eg;subst ek;have mi:(i+1)*7<=d.size*7:=Tb _ (by omega);have mj:(j+1)*7<=d.size*7:=Tb _ (by omega);refine ax mixed [0,1,2,3,4,5,6,7,8,9,10,11,12,13,14,15] [7,11] [] rfl rfl ?_;apply af;simp only[go_sem,iv,iv];refine⟨by omega,?_⟩;refine P7 (l:=cj) (v:=.agg cj.toArray) rfl (cellsU bb (.tail _ (.head _)) (by simpa using kj)) (.inl ⟨by rw[lj];exact bT,rfl⟩) ?_;apply af;simp only[go_sem,iv,iv];refine⟨by omega,?_⟩;refine P7 (l:=ci) (v:=.agg ci.toArray) rfl (cellsU bb (.tail _ (.head _)) (by simpa using ki)) (.inl ⟨by rw[li];exact bT,rfl⟩) ?_;apply af;simp only[go_sem,iv,iv];refine⟨by omega,?_⟩;refine aH bb rfl rfl rfl rfl rfl (aM (aW.ones rj)) (by rw[lj];exact fx) (by rw[lj];omega) fun a3=>?_;apply af;simp only[go_sem,iv,iv];refine⟨by omega,?_⟩;refine aH a3 rfl rfl rfl rfl rfl (aM (aW.ones ri)) (by rw[li];exact fx) (by rw[li];simp[aJ];omega) fun ct=>?_;refine aw ?_;have b1:=am I3 (Uj _);have b2:(Sort.swp d1 i j).size=d.size:=(cH _ _ _).trans a6;obtain⟨d4,ed4⟩:∃d4,d4=Sort.swp d1 i j:=⟨_,rfl⟩;rw[<-ed4]at b1 b2 |-;have w3:IntKind.i64.wrap ((i:Int)+1)=((i+1:Nat):Int):=by
  have e0:(i:Int)+1=((i+1:Nat):Int):=by omega
  rw[e0];exact wrap64 (by omega)
 have w4:IntKind.i64.wrap ((j:Int)-1)=((j-1:Nat):Int):=by rw[gd (by omega)];omega
 apply RG;simp only[go_sem,iv,w3,w4];apply cO (fun x=>x.2+3-x.1) (fun x=>mZ (.slice (some ⟨g0,0,none⟩) d.size vk) (iv a) (.func (.func f) fst cap) x) (fun x H=>∃I5 A5 d5,H=U [I5,A5]/\Dj [I5,A5]/\I3.le I5/\d5.size=d.size/\br I5 A5 (.slice (some ⟨g0,0,none⟩) d.size vk) d5.toList/\1<=x.1/\x.1<=x.2+2/\x.2<=b-1/\Sort.partLoop cz a x.1 x.2 d5=Sort.partLoop cz a (i+1) (j-1) d4) (fun x H=>∃I5 A5,H=U [I5,A5]/\Dj [I5,A5]/\I3.le I5/\(Sort.partLoop cz a (i+1) (j-1) d4).2.size=d.size/\br I5 A5 (.slice (some ⟨g0,0,none⟩) d.size vk) (Sort.partLoop cz a (i+1) (j-1) d4).2.toList/\x.2<=b-1/\x.2=(Sort.partLoop cz a (i+1) (j-1) d4).1) (i+1,j-1)
 ·exact(ae (by simp only[go_sem,Tq,iv]))
 ·exact(by simp only[go_sem,Tq,mZ])
 ·exact⟨I3,_,d4,rfl,ct,Uj _,b2,b1,by simp only;omega,by simp only;omega,by simp only;omega,rfl⟩
 ·rintro⟨i5,j5⟩ H ⟨I5,A5,d5,rfl,dT,b6,bd,d7,da,cm,c8,a4⟩ a7 a9;simp only at da cm c8 a4;simp only[mZ];apply RG;simp only[go_sem,iv];apply cO (fun x=>j5+2-x) (fun x=>mZ (.slice (some ⟨g0,0,none⟩) d.size vk) (iv a) (.func (.func f) fst cap) (x,j5)) (fun x H=>∃Jz Az,H=U [Jz,Az]/\Dj [Jz,Az]/\I5.le Jz/\br Jz Az (.slice (some ⟨g0,0,none⟩) d.size vk) d5.toList/\i5<=x/\x<=j5+2/\Sort.scanUp (fun y=>cz y d5[a]!) d5 j5 x=Sort.scanUp (fun y=>cz y d5[a]!) d5 j5 i5) (fun x H=>∃Jz Az,H=U [Jz,Az]/\Dj [Jz,Az]/\I5.le Jz/\br Jz Az (.slice (some ⟨g0,0,none⟩) d.size vk) d5.toList/\i5<=x/\x<=j5+2/\x=Sort.scanUp (fun y=>cz y d5[a]!) d5 j5 i5) i5
  ·exact(ae (by simp only[go_sem,Tq,iv]))
  ·exact(by simp only[go_sem,Tq,mZ])
  ·exact⟨I5,_,rfl,‹_›,Uj _,‹_›,R7 _,by omega,rfl⟩
  ·rintro x H ⟨Jz,Az,rfl,ap,aj,aS,bc,a2,ak⟩ an ac;simp only[mZ];rcases Sw j5 x with cr|cc
   ·have ao:decide (((x:Nat):Int)<=((j5:Nat):Int))=false:=Ug (by omega);rw[Sort.scanUp,Sb (by simp;omega)]at ak;have a5:=ak;apply RG;simp only[go_sem,iv];refine ax mixed [0,1,2,3,4,5,6,7,8,9,10,11,12,13,14,15] [8,12] [] rfl rfl ?_;apply af;simp only[go_sem,iv,ao];refine aw ?_;apply bq 3;simp only[go_sem,iv];exact ac x _ _ (ae (by simp only[go_sem,Tq,iv])) (by simp only[go_sem,Tq,mZ]) ⟨Jz,Az,rfl,ap,aj,aS,bc,a2,a5⟩
   ·have ao:decide (((x:Nat):Int)<=((j5:Nat):Int))=true:=Uh (by omega);rw[Sort.scanUp]at ak;have p1:IntKind.i64.wrap ((x:Int)+1)=((x+1:Nat):Int):=by
     have e0:(x:Int)+1=((x+1:Nat):Int):=by omega
     rw[e0];exact wrap64 (by omega)
    obtain⟨g,cp,cur,ci,cj,ev,rfl,a0,ri,rj,li,lj,ki,kj,am⟩:=Ow.two aS (fun{I} c a h=>aW.len c a h) (fun{I J c a} h k=>aW.le h k) (i:=x) (j:=a) (by omega) (by omega);rw[bd]at ev a0;simp only[Value.slice.injEq,Sc,Addr.mk.injEq,TY,SP]at ev;obtain⟨eg,ek⟩:=ev;subst eg;subst ek;apply RG;simp only[go_sem,iv];refine ax mixed [0,1,2,3,4,5,6,7,8,9,10,11,12,13,14,15] [8,12] [] rfl rfl ?_;apply af;simp only[go_sem,iv,ao];refine⟨by omega,?_⟩;refine P7 (l:=ci) (v:=.agg ci.toArray) rfl (cellsU ap (.tail _ (.head _)) (by simpa using ki)) (.inl ⟨by rw[li];exact bT,rfl⟩) ?_;apply af;simp only[go_sem,iv,ao];refine⟨by omega,?_⟩;refine P7 (l:=cj) (v:=.agg cj.toArray) rfl (cellsU ap (.tail _ (.head _)) (by simpa using kj)) (.inl ⟨by rw[lj];exact bT,rfl⟩) ?_;apply af;simp only[go_sem,iv,ao];refine Og ap [0] rfl (fun h=>by cases h) rfl gf (by rfl) (ps:=[]) (F:=[_]) rfl (cf Jz _ _ _ _ ri rj) fun v Jy qs a1 aa hq=>?_;obtain⟨rfl,z,rfl,hz⟩:=hq;simp only[Z3]at a1 |-;apply af;simp only[go_sem,iv];refine aw ?_;cases hl:cz d5[x]! d5[a]! with
    |true=>
     rw[hl]at hz;rw[SI (by simp[hl];omega)]at ak;apply RG;simp only[go_sem,iv,hz,Ud,p1];exact an (x+1) _ _ (by omega) (ae (by simp only[go_sem,Tq,iv])) (by simp only[go_sem,Tq,mZ]) ⟨Jy,_,rfl,a1,Ui aj aa,br.le aS aa,by omega,by omega,ak⟩
    |false=>
     rw[hl]at hz;rw[Sb (by simp[hl])]at ak;apply bq 3;simp only[go_sem,iv,hz,T7];exact ac (x) _ _ (ae (by simp only[go_sem,Tq,iv])) (by simp only[go_sem,Tq,mZ]) ⟨Jy,_,rfl,a1,Ui aj aa,br.le aS aa,bc,a2,ak⟩
  rintro i6 H ⟨I6,A6,rfl,dI,b5,d6,dx,hi6b,cn⟩;simp only[mZ];apply RG;simp only[go_sem,iv];apply cO (fun x=>x) (fun x=>mZ (.slice (some ⟨g0,0,none⟩) d.size vk) (iv a) (.func (.func f) fst cap) (i6,x)) (fun x H=>∃Jz Az,H=U [Jz,Az]/\Dj [Jz,Az]/\I6.le Jz/\br Jz Az (.slice (some ⟨g0,0,none⟩) d.size vk) d5.toList/\x<=j5/\Sort.scanDown (fun y=>!cz y d5[a]!) d5 i6 x=Sort.scanDown (fun y=>!cz y d5[a]!) d5 i6 j5) (fun x H=>∃Jz Az,H=U [Jz,Az]/\Dj [Jz,Az]/\I6.le Jz/\br Jz Az (.slice (some ⟨g0,0,none⟩) d.size vk) d5.toList/\x<=j5/\x=Sort.scanDown (fun y=>!cz y d5[a]!) d5 i6 j5) j5
  ·exact(ae (by simp only[go_sem,Tq,iv]))
  ·exact(by simp only[go_sem,Tq,mZ])
  ·exact⟨I6,_,rfl,‹_›,Uj _,‹_›,R7 _,rfl⟩
  ·rintro x H ⟨Jz,Az,rfl,ap,aj,aS,a2,ak⟩ an ac;simp only[mZ];rcases Sw x i6 with cr|cc
   ·have ao:decide (((i6:Nat):Int)<=((x:Nat):Int))=false:=Ug (by omega);have a5:x=Sort.scanDown (fun y=>!cz y d5[a]!) d5 i6 j5:=by
     rw[<-ak];cases x with
     |zero=>rw[Sort.scanDown]
     |succ x=>rw[Sort.scanDown,Sb (by simp;omega)]
    apply RG;simp only[go_sem,iv];refine ax mixed [0,1,2,3,4,5,6,7,8,9,10,11,12,13,14,15,16] [8,12] [] rfl rfl ?_;apply af;simp only[go_sem,iv,ao];refine aw ?_;apply bq 3;simp only[go_sem,iv];exact ac x _ _ (ae (by simp only[go_sem,Tq,iv])) (by simp only[go_sem,Tq,mZ]) ⟨Jz,Az,rfl,ap,aj,aS,a2,a5⟩
   ·have ao:decide (((i6:Nat):Int)<=((x:Nat):Int))=true:=Uh (by omega);obtain⟨x,rfl⟩:∃x',x=x'+1:=⟨x-1,by omega⟩;have p1:=jM (j:=x) (by omega);rw[Sort.scanDown]at ak;obtain⟨g,cp,cur,ci,cj,ev,rfl,a0,ri,rj,li,lj,ki,kj,am⟩:=Ow.two aS (fun{I} c a h=>aW.len c a h) (fun{I J c a} h k=>aW.le h k) (i:=x+1) (j:=a) (by omega) (by omega);rw[bd]at ev a0;simp only[Value.slice.injEq,Sc,Addr.mk.injEq,TY,SP]at ev;obtain⟨eg,ek⟩:=ev;subst eg;subst ek;apply RG;simp only[go_sem,iv];refine ax mixed [0,1,2,3,4,5,6,7,8,9,10,11,12,13,14,15,16] [8,12] [] rfl rfl ?_;apply af;simp only[go_sem,iv,ao];refine⟨by omega,?_⟩;refine P7 (l:=ci) (v:=.agg ci.toArray) rfl (cellsU ap (.tail _ (.head _)) (by simpa using ki)) (.inl ⟨by rw[li];exact bT,rfl⟩) ?_;apply af;simp only[go_sem,iv,ao];refine⟨by omega,?_⟩;refine P7 (l:=cj) (v:=.agg cj.toArray) rfl (cellsU ap (.tail _ (.head _)) (by simpa using kj)) (.inl ⟨by rw[lj];exact bT,rfl⟩) ?_;apply af;simp only[go_sem,iv,ao];refine Og ap [0] rfl (fun h=>by cases h) rfl gf (by rfl) (ps:=[]) (F:=[_]) rfl (cf Jz _ _ _ _ ri rj) fun v Jy qs a1 aa hq=>?_;obtain⟨rfl,z,rfl,hz⟩:=hq;simp only[Z3]at a1 |-;apply af;simp only[go_sem,iv];refine aw ?_;cases hl:cz d5[x+1]! d5[a]! with
    |true=>
     rw[hl]at hz;rw[Sb (by simp[hl])]at ak;apply bq 3;simp only[go_sem,iv,hz,Ud];exact ac (x+1) _ _ (ae (by simp only[go_sem,Tq,iv])) (by simp only[go_sem,Tq,mZ]) ⟨Jy,_,rfl,a1,Ui aj aa,br.le aS aa,a2,ak⟩
    |false=>
     rw[hl]at hz;rw[SI (by simp[hl];omega)]at ak;apply RG;simp only[go_sem,iv,hz,T7,p1];exact an x _ _ (by omega) (ae (by simp only[go_sem,Tq,iv])) (by simp only[go_sem,Tq,mZ]) ⟨Jy,_,rfl,a1,Ui aj aa,br.le aS aa,by omega,ak⟩
  rintro j7 H ⟨I7,A7,rfl,b0,b4,c1,dv,cl⟩;simp only[mZ];rw[Sort.partLoop_eq,<-cn,<-cl]at a4;have cA:=Ui b6 (Ui b5 b4);by_cases bx:i6>j7
  ·have ba:decide ((i6:Int)>(j7:Int))=true:=Uh (by omega);rw[SI bx]at a4;apply bq 8;simp only[go_sem,iv,ba];exact a9 (i6,j7) _ _ (ae (by simp only[go_sem,Tq,iv])) (by simp only[go_sem,Tq,mZ]) ⟨I7,A7,rfl,b0,cA,by rw[<-a4];exact bd,by rw[<-a4];exact c1,by simp only;omega,by rw[<-a4]⟩
  have ba:decide ((i6:Int)>(j7:Int))=false:=Ug (by omega);rw[Sb bx]at a4;apply RG;simp only[go_sem,iv,ba];obtain⟨g,cp,cur,ci,cj,ev,rfl,a0,ri,rj,li,lj,ki,kj,am⟩:=Ow.two c1 (fun{I} c a h=>aW.len c a h) (fun{I J c a} h k=>aW.le h k) (i:=i6) (j:=j7) (by omega) (by omega);rw[bd]at ev a0;simp only[Value.slice.injEq,Sc,Addr.mk.injEq,TY,SP]at ev;obtain⟨eg,ek⟩:=ev;subst eg;subst ek;have mi:(i6+1)*7<=d.size*7:=Tb _ (by omega);have mj:(j7+1)*7<=d.size*7:=Tb _ (by omega);refine ax mixed [0,1,2,3,4,5,6,7,8,9,10,11,12,13,14,15] [7,11] [] rfl rfl ?_;apply af;simp only[go_sem,iv,iv];refine⟨by omega,?_⟩;refine P7 (l:=cj) (v:=.agg cj.toArray) rfl (cellsU b0 (.tail _ (.head _)) (by simpa using kj)) (.inl ⟨by rw[lj];exact bT,rfl⟩) ?_;apply af;simp only[go_sem,iv,iv];refine⟨by omega,?_⟩;refine P7 (l:=ci) (v:=.agg ci.toArray) rfl (cellsU b0 (.tail _ (.head _)) (by simpa using ki)) (.inl ⟨by rw[li];exact bT,rfl⟩) ?_;apply af;simp only[go_sem,iv,iv];refine⟨by omega,?_⟩;refine aH b0 rfl rfl rfl rfl rfl (aM (aW.ones rj)) (by rw[lj];exact fx) (by rw[lj];omega) fun a3=>?_;apply af;simp only[go_sem,iv,iv];refine⟨by omega,?_⟩;refine aH a3 rfl rfl rfl rfl rfl (aM (aW.ones ri)) (by rw[li];exact fx) (by rw[li];simp[aJ];omega) fun dc=>?_;refine aw ?_;have dj:=am I7 (Uj _);have c4:(Sort.swp d5 i6 j7).size=d.size:=(cH _ _ _).trans bd;have w8:IntKind.i64.wrap ((i6:Int)+1)=((i6+1:Nat):Int):=by
   have e0:(i6:Int)+1=((i6+1:Nat):Int):=by omega
   rw[e0];exact wrap64 (by omega)
  have w9:IntKind.i64.wrap ((j7:Int)-1)=((j7-1:Nat):Int):=by rw[gd (by omega)];omega
  apply RG;simp only[go_sem,iv,w8,w9];exact a7 (i6+1,j7-1) _ _ (by simp only;omega) (ae (by simp only[go_sem,Tq,iv])) (by simp only[go_sem,Tq,mZ]) ⟨I7,_,_,rfl,dc,cA,c4,dj,by simp only;omega,by simp only;omega,by simp only;omega,a4⟩
 rintro⟨i9,j9⟩ H ⟨I9,A9,rfl,cs,b3,cB,dd,c7,bs⟩;simp only at c7 bs;simp only[mZ];rw[<-bs];generalize (Sort.partLoop cz a (i+1) (j-1) d4).2=d9 at *;apply RG;simp only[go_sem,iv];obtain⟨g,cp,cur,ci,cj,ev,rfl,a0,ri,rj,li,lj,ki,kj,am⟩:=Ow.two dd (fun{I} c a h=>aW.len c a h) (fun{I J c a} h k=>aW.le h k) (i:=j9) (j:=a) (by omega) (by omega);rw[cB]at ev a0;simp only[Value.slice.injEq,Sc,Addr.mk.injEq,TY,SP]at ev;obtain⟨eg,ek⟩:=ev;subst eg;subst ek;have mi:(j9+1)*7<=d.size*7:=Tb _ (by omega);have mj:(a+1)*7<=d.size*7:=Tb _ (by omega);refine ax mixed [0,1,2,3,4,5,6,7,8,9,10,11,12,13,14,15] [7,11] [] rfl rfl ?_;apply af;simp only[go_sem,iv,iv];refine⟨by omega,?_⟩;refine P7 (l:=cj) (v:=.agg cj.toArray) rfl (cellsU cs (.tail _ (.head _)) (by simpa using kj)) (.inl ⟨by rw[lj];exact bT,rfl⟩) ?_;apply af;simp only[go_sem,iv,iv];refine⟨by omega,?_⟩;refine P7 (l:=ci) (v:=.agg ci.toArray) rfl (cellsU cs (.tail _ (.head _)) (by simpa using ki)) (.inl ⟨by rw[li];exact bT,rfl⟩) ?_;apply af;simp only[go_sem,iv,iv];refine⟨by omega,?_⟩;refine aH cs rfl rfl rfl rfl rfl (aM (aW.ones rj)) (by rw[lj];exact fx) (by rw[lj];omega) fun a3=>?_;apply af;simp only[go_sem,iv,iv];refine⟨by omega,?_⟩;refine aH a3 rfl rfl rfl rfl rfl (aM (aW.ones ri)) (by rw[li];exact fx) (by rw[li];simp[aJ];omega) fun cx=>?_;refine aw ?_;have cy:=am I9 (Uj _);have c5:(Sort.swp d9 j9 a).size=d.size:=(cH _ _ _).trans cB;apply RG;simp only[go_sem,iv];exact ai rfl cx (r:=[iv j9,.bool false]) rfl (Ui k3 b3) ⟨_,rfl,cy,rfl⟩
end Go.Proofs.YtfaclfkpnmcmlaaGreatDoor
