import Derived.Test.YtfaclfkpnmcmlaaGreatDoorH18
import Derived.Test.YtfaclfkpnmcmlaaGreatDoorH19
import Derived.Test.YtfaclfkpnmcmlaaGreatDoorH22
set_option maxHeartbeats 8000000
set_option linter.all false
namespace Go.Proofs.YtfaclfkpnmcmlaaGreatDoor
open Go Go.Sx Dg Syn
def KZ{C:Cx}{kx:List Item}{c:Cf}{σ:St}{H:PH}{α:Type}(S:α->St)(E:α->PH->Prop)
  (first:(∀a σ1 H',nm (S a).tm σ1.tm->rN (S a).bx σ1.bx->E a H'->RC C (.st kx) σ1 H')->RC C c σ H)
  (rest:∀a H,E a H->RC C (.st kx) (S a) H):RC C c σ H:=first fun a σ1 H' h1 h2 h3=>fD h1 h2 (rest a H' h3)
def Pz:aO Tryz.prog 276:=⟨_,Tryz.func276,rfl,rfl⟩
def nQ(v va vb vc:Value)(x:Nat×Nat):St:=⟨dn 141 [(0,.v v),(1,.v va),(2,.v vb),(3,.v vc),(9,.v (iv x.2)),(10,.v (iv x.1))],[]⟩
def GV(v va vb vc:Value)(st i j:Nat):St:=⟨dn 141 [(0,.v v),(1,.v va),(2,.v vb),(3,.v vc),(9,.v (iv i)),(10,.v (iv st)),(11,.v (iv j))],[]⟩
def ID(v va vb vc:Value)(st i j:Nat):St:=⟨dn 141 [(0,.v v),(1,.v va),(2,.v vb),(3,.v vc),(9,.v (iv i)),(10,.v (iv st)),(12,.v (iv j))],[]⟩
variable{d:Array Nd}{vc:Value}
theorem acb{I A:PH}{v:Value}{a b:Nat}(hA:bQ I A v d.toList)(hc:mC bm dp vc)(ds:a<b)(hb:b<=d.size)(hn:d.size<=aN):
  aK Tryz.prog 276 #[v,iv a,iv b,vc] I [A] fun r I2 qs=>∃A2,qs=[A2]/\bQ I2 A2 v (Sort.partialInsertionSort dp d a b).1.toList/\r=.bool (Sort.partialInsertionSort dp d a b).2:=by
 intro hd;unfold aN at hn;obtain⟨f,fst,cap,rfl,gf,cf⟩:=id hc;obtain⟨g0,vk,rfl⟩:=Ow.addr hA ab;refine ah 141 Tryz.func276 fun w0=>?_
 try simp only[iv]
 have w1:IntKind.i64.wrap ((a:Int)+1)=((a+1:Nat):Int):=by
  have e0:(a:Int)+1=((a+1:Nat):Int):=by omega
  rw[e0];exact wrap64 ab
 apply RG;simp only[go_sem,w1];refine aA (fun x=>5-x.1) (nQ (.slice (some ⟨g0,0,none⟩) d.size vk) (iv a) (iv b) (.func (.func f) fst cap)) (fun x H=>∃I2 A2 d2,H=U [I2,A2]/\Dj [I2,A2]/\I.le I2/\x.1<=5/\a+1<=x.2/\x.2<=b/\d2.size=d.size/\bQ I2 A2 (.slice (some ⟨g0,0,none⟩) d.size vk) d2.toList/\Sort.partialIns dp a b (5-x.1) x.2 d2=Sort.partialInsertionSort dp d a b) (0,a+1) bM (by simp only[go_sem,aa6,nQ]) ?_ ?_
 ·exact⟨I,A,d,rfl,hd,abW _,aaL _,ZR _,ds,rfl,hA,rfl⟩
 rintro⟨st,i0⟩ H ⟨I2,A2,d2,rfl,c8,b2,dc,dk,c5,ct,c9,ak⟩ b1;simp only at dc dk c5 ak;simp only[nQ];rcases aaf st 5 with dv|dy
 ·have c3:decide ((st:Int)<5)=true:=abU ab;have ws:IntKind.i64.wrap ((st:Int)+1)=((st+1:Nat):Int):=by
   have e0:(st:Int)+1=((st+1:Nat):Int):=by omega
   rw[e0];exact wrap64 ab
  obtain⟨s,hs⟩:∃s,5-st=s+1:=⟨5-st-1,ab⟩;rw[hs,Sort.partialIns]at ak;have dd:5-(st+1)=s:=by omega
  apply RG;simp only[go_sem,iv,c3];apply dF (fun x=>b-x) (fun x=>nQ (.slice (some ⟨g0,0,none⟩) d.size vk) (iv a) (iv b) (.func (.func f) fst cap) (st,x)) (fun x H=>∃I3 A3,H=U [I3,A3]/\Dj [I3,A3]/\I2.le I3/\bQ I3 A3 (.slice (some ⟨g0,0,none⟩) d.size vk) d2.toList/\i0<=x/\x<=b/\Sort.scanSorted dp d2 b x=Sort.scanSorted dp d2 b i0) (fun x H=>∃I3 A3,H=U [I3,A3]/\Dj [I3,A3]/\I2.le I3/\bQ I3 A3 (.slice (some ⟨g0,0,none⟩) d.size vk) d2.toList/\i0<=x/\x<=b/\x=Sort.scanSorted dp d2 b i0) i0
  ·exact bM
  ·exact(by simp only[go_sem,aa6,nQ])
  ·exact⟨I2,A2,rfl,c8,abW _,c9,ZR _,c5,rfl⟩
  ·rintro x H ⟨I3,A3,rfl,a0,aS,a6,c4,cn,ac⟩ a9 a7;simp only[nQ];rw[Sort.scanSorted]at ac;rcases aaf x b with b6|b6
   ·have b5:decide ((x:Int)<(b:Int))=true:=abU ab;obtain⟨x,rfl⟩:∃x',x=x'+1:=⟨x-1,ab⟩;have p1:=mG (j:=x) ab;have p2:IntKind.i64.wrap (((x+1:Nat):Int)+1)=((x+1+1:Nat):Int):=by
     have e0:((x+1:Nat):Int)+1=((x+1+1:Nat):Int):=by omega
     rw[e0];exact wrap64 ab
    obtain⟨g,cp,cur,ci,cj,ev,rfl,cA,ri,rj,li,lj,ki,kj,b0⟩:=Ow.two a6 (fun{I} c a h=>bm.len c a h) (fun{I J c a} h k=>bm.le h k) (i:=x+1) (j:=x) ab ab;rw[ct]at ev cA;simp only[Value.slice.injEq,ZW,Addr.mk.injEq,abC,acT]at ev;obtain⟨eg,ek⟩:=ev;subst eg;subst ek;refine dP ?_;refine eP [0,1,2,3,4,5,6,7,8,9,10,11,12,13,14,15,16,17] [8,13] [] ?_;apply au;simp only[go_sem,iv,b5,p1];refine⟨ab,?_⟩;refine W7 (l:=ci) (v:=.agg ci.toArray) rfl (cellsU a0 (.tail _ (.head _)) (by simpa using ki)) (.inl ⟨by rw[li];exact cL,rfl⟩) ?_;apply au;simp only[go_sem,iv,b5,p1];refine⟨ab,?_⟩;refine W7 (l:=cj) (v:=.agg cj.toArray) rfl (cellsU a0 (.tail _ (.head _)) (by simpa using kj)) (.inl ⟨by rw[lj];exact cL,rfl⟩) ?_;apply au;simp only[go_sem,iv,b5,p1];refine aE a0 [0] [] [_] rfl gf rfl (cf I3 _ _ _ _ ri rj) fun v I4 qs bb a3 hq=>?_;obtain⟨rfl,z,rfl,hz⟩:=hq;simp only[Z3]at bb |-;refine dS ?_;refine aw ?_;rw[acU]at ac;cases hl:dp d2[x+1]! d2[x]! with
    |true=>
     rw[hl]at hz;rw[ZV (by simp[hl])]at ac;apply bL 3;simp only[go_sem,iv,hz,abQ];exact a7 (x+1) _ _ bM (by simp only[go_sem,aa6,nQ]) ⟨I4,_,rfl,bb,abV aS a3,bQ.le a6 a3,c4,cn,ac⟩
    |false=>
     rw[hl]at hz;rw[aaq (by simp[hl];omega)]at ac;apply RG;simp only[go_sem,iv,hz,abK,p2];exact a9 (x+1+1) _ _ ab bM (by simp only[go_sem,aa6,nQ]) ⟨I4,_,rfl,bb,abV aS a3,bQ.le a6 a3,ab,ab,ac⟩
   ·have b5:decide ((x:Int)<(b:Int))=false:=abT ab;rw[ZV (by simp;omega)]at ac;refine dP ?_;refine eP [0,1,2,3,4,5,6,7,8,9,10,11,12,13,14,15,16,17] [8,13] [] ?_;apply au;simp only[go_sem,iv,b5];refine aw ?_;apply bL 3;simp only[go_sem,iv];exact a7 x _ _ bM (by simp only[go_sem,aa6,nQ]) ⟨I3,A3,rfl,a0,aS,a6,c4,cn,ac⟩
  rintro i H ⟨I3,A3,rfl,a0,aS,a6,dx,dw,dj⟩;simp only[nQ];rw[<-dj]at ak;simp only at ak;have k3:=abV b2 aS;by_cases cx:i=b
  ·have cm:((i:Int) == (b:Int))=true:=by rw[cx];simp
   rw[aaq cx]at ak;apply RG;simp only[go_sem,iv,cm];exact af rfl a0 (r:=[.bool true]) rfl k3 ⟨A3,rfl,by rw[<-ak];exact a6,by rw[<-ak];rfl⟩
  have cm:((i:Int) == (b:Int))=false:=by rw[abS];omega
  rw[ZV cx]at ak;have w3:IntKind.i64.wrap ((b:Int)-(a:Int))=((b-a:Nat):Int):=by
   rw[cH ab ab];omega
  by_cases da:b-a<50
  ·have c2:decide (((b-a:Nat):Int)<50)=true:=abU ab;rw[aaq da]at ak;apply RG;simp only[go_sem,iv,cm,w3,c2];exact af rfl a0 (r:=[.bool false]) rfl k3 ⟨A3,rfl,by rw[<-ak];exact a6,by rw[<-ak];rfl⟩
  have c2:decide (((b-a:Nat):Int)<50)=false:=abT ab;rw[ZV da]at ak;obtain⟨i,rfl⟩:∃x',i=x'+1:=⟨i-1,ab⟩;have p1:=mG (j:=i) ab;rw[acU]at ak;apply RG;simp only[go_sem,iv,cm,w3,c2];obtain⟨g,cp,cur,ci,cj,ev,rfl,cA,ri,rj,li,lj,ki,kj,b0⟩:=Ow.two a6 (fun{I} c a h=>bm.len c a h) (fun{I J c a} h k=>bm.le h k) (i:=i+1) (j:=i) ab ab;rw[ct]at ev cA;simp only[Value.slice.injEq,ZW,Addr.mk.injEq,abC,acT]at ev;obtain⟨eg,ek⟩:=ev;subst eg;subst ek;have mi:((i+1)+1)*7<=d.size*7:=aaQ _ ab;have mj:(i+1)*7<=d.size*7:=aaQ _ ab;refine eP [0,1,2,3,4,5,6,7,8,9,10,11,12,13,14,15,16,17] [9,13] [] ?_;apply au;simp only[go_sem,iv,p1];refine⟨ab,?_⟩;refine W7 (l:=cj) (v:=.agg cj.toArray) rfl (cellsU a0 (.tail _ (.head _)) (by simpa using kj)) (.inl ⟨by rw[lj];exact cL,rfl⟩) ?_;apply au;simp only[go_sem,iv,p1];refine⟨ab,?_⟩;refine W7 (l:=ci) (v:=.agg ci.toArray) rfl (cellsU a0 (.tail _ (.head _)) (by simpa using ki)) (.inl ⟨by rw[li];exact cL,rfl⟩) ?_;apply au;simp only[go_sem,iv,p1];refine⟨ab,?_⟩;refine aQ a0 rfl rfl rfl rfl rfl (ag (bm.ones rj)) (by rw[lj];exact aU) (by rw[lj];omega) fun b3=>?_;apply au;simp only[go_sem,iv,p1];refine⟨ab,?_⟩;refine aQ b3 rfl rfl rfl rfl rfl (ag (bm.ones ri)) (by rw[li];exact aU) (by rw[li];simp[aX];omega) fun bb=>?_;refine aw ?_;have cl:=b0 I3 (abW _);obtain⟨d4,ed4⟩:∃d4,d4=Sort.swp d2 (i+1) i:=⟨_,rfl⟩;have cs:d4.size=d.size:=by rw[ed4,al];exact ct
  rw[<-ed4]at cl ak;have w5:IntKind.i64.wrap (((i+1:Nat):Int)-(a:Int))=((i+1-a:Nat):Int):=by
   rw[cH ab ab];omega
  have w6:IntKind.i64.wrap ((b:Int)-((i+1:Nat):Int))=((b-(i+1):Nat):Int):=by
   rw[cH ab ab];omega
  have w7:IntKind.i64.wrap (((i+1:Nat):Int)+1)=((i+1+1:Nat):Int):=by
   have e0:((i+1:Nat):Int)+1=((i+1+1:Nat):Int):=by omega
   rw[e0];exact wrap64 ab
  obtain⟨d5,hd5e⟩:∃d5,d5=if i+1-a>=2 then Sort.shiftDown dp i d4 else d4:=⟨_,rfl⟩
  rw[<-hd5e]at ak;obtain⟨d6,hd6e⟩:∃d6,d6=if b-(i+1)>=2 then Sort.shiftUp dp b (i+1+1) d5 else d5:=⟨_,rfl⟩
  rw[<-hd6e]at ak;apply KZ (fun _:Unit=>nQ (.slice (some ⟨g0,0,none⟩) d.size vk) (iv a) (iv b) (.func (.func f) fst cap) (st,i+1)) (fun _ H=>∃I5 A5,H=U [I5,A5]/\Dj [I5,A5]/\I3.le I5/\d5.size=d.size/\bQ I5 A5 (.slice (some ⟨g0,0,none⟩) d.size vk) d5.toList)
  ·intro hm;rcases aaf (i+1-a) 2 with b4|b4
   ·have c1:decide (((i+1-a:Nat):Int)>=2)=false:=abT ab;rw[ZV (show ¬(i+1-a>=2) by omega)]at hd5e;apply bL 10;simp only[go_sem,iv,w5,c1];exact hm () _ _ bM (by simp only[go_sem,aa6,nQ]) ⟨I3,_,rfl,bb,abW _,by rw[hd5e];exact cs,by rw[hd5e];exact cl⟩
   ·have c1:decide (((i+1-a:Nat):Int)>=2)=true:=abU ab;rw[aaq (show i+1-a>=2 from b4)]at hd5e;apply RG;simp only[go_sem,iv,w5,c1,p1];apply dF (fun x=>x) (fun x=>GV (.slice (some ⟨g0,0,none⟩) d.size vk) (iv a) (iv b) (.func (.func f) fst cap) st (i+1) x) (fun x H=>∃I6 A6 d6,H=U [I6,A6]/\Dj [I6,A6]/\I3.le I6/\x<=i/\d6.size=d.size/\bQ I6 A6 (.slice (some ⟨g0,0,none⟩) d.size vk) d6.toList/\Sort.shiftDown dp x d6=Sort.shiftDown dp i d4) (fun x H=>∃I6 A6 d6,H=U [I6,A6]/\Dj [I6,A6]/\I3.le I6/\d6.size=d.size/\bQ I6 A6 (.slice (some ⟨g0,0,none⟩) d.size vk) d6.toList/\d6=Sort.shiftDown dp i d4) (i)
    ·exact bM
    ·exact(by simp only[go_sem,aa6,GV])
    ·exact⟨I3,_,d4,rfl,bb,abW _,ZR _,cs,cl,rfl⟩
    ·rintro x H ⟨I6,A6,d6,rfl,a5,an,hx,a2,bd,ac⟩ am aj;simp only[GV];cases x with
     |zero=>
      have c0:decide ((0:Int)>=1)=false:=rfl;rw[Sort.shiftDown]at ac;apply bL 8;simp only[go_sem,iv,c0];exact aj 0 _ _ bM (by simp only[go_sem,aa6,GV]) ⟨I6,A6,d6,rfl,a5,an,a2,bd,ac⟩
     |succ x=>
      have c0:decide (((x+1:Nat):Int)>=1)=true:=abU ab;rw[Sort.shiftDown]at ac;have q1:=mG (j:=x) ab;apply RG;simp only[go_sem,iv,c0];obtain⟨gs,cps,curs,cis,cjs,evs,rfl,bc,ris,rjs,lis,ljs,kis,kjs,aq⟩:=Ow.two bd (fun{I} c a h=>bm.len c a h) (fun{I J c a} h k=>bm.le h k) (i:=x+1) (j:=x) ab ab;rw[a2]at evs bc;simp only[Value.slice.injEq,ZW,Addr.mk.injEq,abC,acT]at evs;obtain⟨egs,eks⟩:=evs;subst egs;subst eks;refine eP [0,1,2,3,4,5,6,7,8,9,10,11,12] [4,9] [] ?_;apply au;simp only[go_sem,iv,q1];refine⟨ab,?_⟩;refine W7 (l:=cis) (v:=.agg cis.toArray) rfl (cellsU a5 (.tail _ (.head _)) (by simpa using kis)) (.inl ⟨by rw[lis];exact cL,rfl⟩) ?_;apply au;simp only[go_sem,iv,q1];refine⟨ab,?_⟩;refine W7 (l:=cjs) (v:=.agg cjs.toArray) rfl (cellsU a5 (.tail _ (.head _)) (by simpa using kjs)) (.inl ⟨by rw[ljs];exact cL,rfl⟩) ?_;apply au;simp only[go_sem,iv,q1];refine aE a5 [0] [] [_] rfl gf rfl (cf I6 _ _ _ _ ris rjs) fun v I7 qs ao aa hq=>?_;obtain⟨rfl,z,rfl,a1⟩:=hq;simp only[Z3]at ao |-;refine dS ?_;refine aw ?_;cases a4:dp d6[x+1]! d6[x]! with
      |false=>
       rw[a4]at a1;rw[aaq (by simp[a4])]at ac;apply bL 2;simp only[go_sem,iv,a1,abK];exact aj (x+1) _ _ bM (by simp only[go_sem,aa6,GV]) ⟨I7,_,d6,rfl,ao,abV an aa,a2,bQ.le bd aa,ac⟩
      |true=>
       rw[a4]at a1;rw[ZV (by simp[a4])]at ac;apply RG;simp only[go_sem,iv,a1,abQ];have mi:((x+1)+1)*7<=d.size*7:=aaQ _ ab;have mj:(x+1)*7<=d.size*7:=aaQ _ ab;refine eP [0,1,2,3,4,5,6,7,8,9,10,11,12,13,14,15,16,17] [9,13] [] ?_;apply au;simp only[go_sem,iv,q1];refine⟨ab,?_⟩;refine W7 (l:=cjs) (v:=.agg cjs.toArray) rfl (cellsU ao (.tail _ (.head _)) (by simpa using kjs)) (.inl ⟨by rw[ljs];exact cL,rfl⟩) ?_;apply au;simp only[go_sem,iv,q1];refine⟨ab,?_⟩;refine W7 (l:=cis) (v:=.agg cis.toArray) rfl (cellsU ao (.tail _ (.head _)) (by simpa using kis)) (.inl ⟨by rw[lis];exact cL,rfl⟩) ?_;apply au;simp only[go_sem,iv,q1];refine⟨ab,?_⟩;refine aQ ao rfl rfl rfl rfl rfl (ag (bm.ones rjs)) (by rw[ljs];exact aU) (by rw[ljs];omega) fun b3=>?_;apply au;simp only[go_sem,iv,q1];refine⟨ab,?_⟩;refine aQ b3 rfl rfl rfl rfl rfl (ag (bm.ones ris)) (by rw[lis];exact aU) (by rw[lis];simp[aX];omega) fun cy=>?_;refine aw ?_;apply RG;simp only[go_sem,iv,q1];exact am x _ _ ab bM (by simp only[go_sem,aa6,GV]) ⟨I7,_,_,rfl,cy,abV an aa,ab,by rw[al];exact a2,aq I7 aa,ac⟩
    rintro y H ⟨I5,A5,d5',rfl,cb,ba,ca,cc,c7⟩;exact hm () _ _ (bJ (by simp only[go_sem,aa6,GV,iv])) (by simp only[go_sem,aa6,nQ,GV]) ⟨I5,A5,rfl,cb,ba,by rw[hd5e,<-c7];exact ca,by rw[hd5e,<-c7];exact cc⟩
  rintro _ H ⟨I5,A5,rfl,cb,ba,ca,cc⟩;simp only[nQ];have k5:=abV k3 ba;clear bb cl cs a0 a6;apply KZ (fun _:Unit=>nQ (.slice (some ⟨g0,0,none⟩) d.size vk) (iv a) (iv b) (.func (.func f) fst cap) (st,i+1)) (fun _ H=>∃I7 A7,H=U [I7,A7]/\Dj [I7,A7]/\I5.le I7/\d6.size=d.size/\bQ I7 A7 (.slice (some ⟨g0,0,none⟩) d.size vk) d6.toList)
  ·intro hm;rcases aaf (b-(i+1)) 2 with b4|b4
   ·have bx:decide (((b-(i+1):Nat):Int)>=2)=false:=abT ab;rw[ZV (show ¬(b-(i+1)>=2) by omega)]at hd6e;apply bL 9;simp only[go_sem,iv,w6,bx];exact hm () _ _ bM (by simp only[go_sem,aa6,nQ]) ⟨I5,_,rfl,cb,abW _,by rw[hd6e];exact ca,by rw[hd6e];exact cc⟩
   ·have bx:decide (((b-(i+1):Nat):Int)>=2)=true:=abU ab;rw[aaq (show b-(i+1)>=2 from b4)]at hd6e;apply RG;simp only[go_sem,iv,w6,bx,w7];apply dF (fun x=>b-x) (fun x=>ID (.slice (some ⟨g0,0,none⟩) d.size vk) (iv a) (iv b) (.func (.func f) fst cap) st (i+1) x) (fun x H=>∃I6 A6 d6,H=U [I6,A6]/\Dj [I6,A6]/\I5.le I6/\i+1+1<=x/\x<=b/\d6.size=d.size/\bQ I6 A6 (.slice (some ⟨g0,0,none⟩) d.size vk) d6.toList/\Sort.shiftUp dp b x d6=Sort.shiftUp dp b (i+1+1) d5) (fun x H=>∃I6 A6 d6,H=U [I6,A6]/\Dj [I6,A6]/\I5.le I6/\d6.size=d.size/\bQ I6 A6 (.slice (some ⟨g0,0,none⟩) d.size vk) d6.toList/\d6=Sort.shiftUp dp b (i+1+1) d5) (i+1+1)
    ·exact bM
    ·exact(by simp only[go_sem,aa6,ID])
    ·exact⟨I5,_,d5,rfl,cb,abW _,ZR _,ab,ca,cc,rfl⟩
    ·rintro x H ⟨I6,A6,d6,rfl,a5,an,hx,cn,a2,bd,ac⟩ am aj;simp only[ID];rw[Sort.shiftUp]at ac;rcases aaf x b with b6|b6
     rotate_left
     ·have bs:decide ((x:Int)<(b:Int))=false:=abT ab;rw[ZV ab]at ac;apply bL 9;simp only[go_sem,iv,bs];exact aj x _ _ bM (by simp only[go_sem,aa6,ID]) ⟨I6,A6,d6,rfl,a5,an,a2,bd,ac⟩
     ·have bs:decide ((x:Int)<(b:Int))=true:=abU ab;obtain⟨x,rfl⟩:∃x',x=x'+1:=⟨x-1,ab⟩;rw[aaq b6,acU]at ac;have q1:=mG (j:=x) ab;have q2:IntKind.i64.wrap (((x+1:Nat):Int)+1)=((x+1+1:Nat):Int):=by
       have e0:((x+1:Nat):Int)+1=((x+1+1:Nat):Int):=by omega
       rw[e0];exact wrap64 ab
      apply RG;simp only[go_sem,iv,bs];obtain⟨gs,cps,curs,cis,cjs,evs,rfl,bc,ris,rjs,lis,ljs,kis,kjs,aq⟩:=Ow.two bd (fun{I} c a h=>bm.len c a h) (fun{I J c a} h k=>bm.le h k) (i:=x+1) (j:=x) ab ab;rw[a2]at evs bc;simp only[Value.slice.injEq,ZW,Addr.mk.injEq,abC,acT]at evs;obtain⟨egs,eks⟩:=evs;subst egs;subst eks;refine eP [0,1,2,3,4,5,6,7,8,9,10,11,12] [4,9] [] ?_;apply au;simp only[go_sem,iv,q1];refine⟨ab,?_⟩;refine W7 (l:=cis) (v:=.agg cis.toArray) rfl (cellsU a5 (.tail _ (.head _)) (by simpa using kis)) (.inl ⟨by rw[lis];exact cL,rfl⟩) ?_;apply au;simp only[go_sem,iv,q1];refine⟨ab,?_⟩;refine W7 (l:=cjs) (v:=.agg cjs.toArray) rfl (cellsU a5 (.tail _ (.head _)) (by simpa using kjs)) (.inl ⟨by rw[ljs];exact cL,rfl⟩) ?_;apply au;simp only[go_sem,iv,q1];refine aE a5 [0] [] [_] rfl gf rfl (cf I6 _ _ _ _ ris rjs) fun v I7 qs ao aa hq=>?_;obtain⟨rfl,z,rfl,a1⟩:=hq;simp only[Z3]at ao |-;refine dS ?_;refine aw ?_;cases a4:dp d6[x+1]! d6[x]! with
      |false=>
       rw[a4]at a1;rw[aaq (by simp[a4])]at ac;apply bL 2;simp only[go_sem,iv,a1,abK];exact aj (x+1) _ _ bM (by simp only[go_sem,aa6,ID]) ⟨I7,_,d6,rfl,ao,abV an aa,a2,bQ.le bd aa,ac⟩
      |true=>
       rw[a4]at a1;rw[ZV (by simp[a4])]at ac;apply RG;simp only[go_sem,iv,a1,abQ];have mi:((x+1)+1)*7<=d.size*7:=aaQ _ ab;have mj:(x+1)*7<=d.size*7:=aaQ _ ab;refine eP [0,1,2,3,4,5,6,7,8,9,10,11,12,13,14,15,16,17] [9,13] [] ?_;apply au;simp only[go_sem,iv,q1];refine⟨ab,?_⟩;refine W7 (l:=cjs) (v:=.agg cjs.toArray) rfl (cellsU ao (.tail _ (.head _)) (by simpa using kjs)) (.inl ⟨by rw[ljs];exact cL,rfl⟩) ?_;apply au;simp only[go_sem,iv,q1];refine⟨ab,?_⟩;refine W7 (l:=cis) (v:=.agg cis.toArray) rfl (cellsU ao (.tail _ (.head _)) (by simpa using kis)) (.inl ⟨by rw[lis];exact cL,rfl⟩) ?_;apply au;simp only[go_sem,iv,q1];refine⟨ab,?_⟩;refine aQ ao rfl rfl rfl rfl rfl (ag (bm.ones rjs)) (by rw[ljs];exact aU) (by rw[ljs];omega) fun b3=>?_;apply au;simp only[go_sem,iv,q1];refine⟨ab,?_⟩;refine aQ b3 rfl rfl rfl rfl rfl (ag (bm.ones ris)) (by rw[lis];exact aU) (by rw[lis];simp[aX];omega) fun cy=>?_;refine aw ?_;apply RG;simp only[go_sem,iv,q2];exact am (x+1+1) _ _ ab bM (by simp only[go_sem,aa6,ID]) ⟨I7,_,_,rfl,cy,abV an aa,ab,ab,by rw[al];exact a2,aq I7 aa,ac⟩
    rintro y H ⟨I7,A7,d7,rfl,ao,aa,cr,cB,c6⟩;exact hm () _ _ (bJ (by simp only[go_sem,aa6,ID,iv])) (by simp only[go_sem,aa6,nQ,ID]) ⟨I7,A7,rfl,ao,aa,by rw[hd6e,<-c6];exact cr,by rw[hd6e,<-c6];exact cB⟩
  rintro _ H ⟨I7,A7,rfl,ao,aa,cr,cB⟩;simp only[nQ];apply RG;simp only[go_sem,iv,ws];exact b1 (st+1,i+1) _ _ dt bM (by simp only[go_sem,aa6,nQ]) ⟨I7,A7,d6,rfl,ao,abV k5 aa,by simp only;omega,by simp only;omega,by simp only;omega,cr,cB,by simp only;rw[dd];exact ak⟩
 ·have c3:decide ((st:Int)<5)=false:=abT ab;have:st=5:=by omega
  subst this;rw[Nat.sub_self,Sort.partialIns]at ak;apply RG;simp only[go_sem,iv,c3];exact af rfl c8 (r:=[.bool false]) rfl b2 ⟨A2,rfl,by rw[<-ak];exact c9,by rw[<-ak];rfl⟩
theorem Q2{I A:PH}{v:Value}{a b pivot:Nat}(hA:bQ I A v d.toList)(hc:mC bm dp vc)(c5:a<=pivot)(c0:pivot<b)(hb:b<=d.size)(hn:d.size<=aN):
  aK Tryz.prog 277 #[v,iv a,iv b,iv pivot,vc] I [A] fun r I2 qs=>∃A2,qs=[A2]/\bQ I2 A2 v (Sort.partitionEqual dp d a b pivot).2.toList/\r=iv (Sort.partitionEqual dp d a b pivot).1:=by
 intro hd;unfold aN at hn;obtain⟨f,fst,cap,rfl,gf,cf⟩:=id hc;obtain⟨g0,vk,rfl⟩:=Ow.addr hA ab;refine ah 90 Tryz.func277 fun w0=>?_
 try simp only[iv]
 have w1:IntKind.i64.wrap ((a:Int)+1)=((a+1:Nat):Int):=by
  have e0:(a:Int)+1=((a+1:Nat):Int):=by omega
  rw[e0];exact wrap64 ab
 have w2:IntKind.i64.wrap ((b:Int)-1)=((b-1:Nat):Int):=by rw[iX ab];omega
 refine aT ?_;obtain⟨g,cp,cur,ci,cj,ev,rfl,a4,ri,rj,li,lj,ki,kj,am⟩:=Ow.two hA (fun{I} c a h=>bm.len c a h) (fun{I J c a} h k=>bm.le h k) (i:=a) (j:=pivot) ab ab;simp only[Value.slice.injEq,ZW,Addr.mk.injEq,abC,acT]at ev;obtain⟨eg,ek⟩:=ev;subst eg;subst ek;have mi:(a+1)*7<=d.size*7:=aaQ _ ab;have mj:(pivot+1)*7<=d.size*7:=aaQ _ ab;refine eP [0,1,2,3,4,5,6,7,8,9,10,11,12,13,14,15] [7,11] [] ?_;refine dS ?_;refine⟨ab,?_⟩;refine W7 (l:=cj) (v:=.agg cj.toArray) rfl (cellsU hd (.tail _ (.head _)) (by simpa using kj)) (.inl ⟨by rw[lj];exact cL,rfl⟩) ?_;refine dS ?_;refine⟨ab,?_⟩;refine W7 (l:=ci) (v:=.agg ci.toArray) rfl (cellsU hd (.tail _ (.head _)) (by simpa using ki)) (.inl ⟨by rw[li];exact cL,rfl⟩) ?_;refine dS ?_;refine⟨ab,?_⟩;refine aQ hd rfl rfl rfl rfl rfl (ag (bm.ones rj)) (by rw[lj];exact aU) (by rw[lj];omega) fun b3=>?_;refine dS ?_;refine⟨ab,?_⟩;refine aQ b3 rfl rfl rfl rfl rfl (ag (bm.ones ri)) (by rw[li];exact aU) (by rw[li];simp[aX];omega) fun cy=>?_;refine aw ?_;have cc:=am I (abW _);have ca:(Sort.swp d a pivot).size=d.size:=(al _ _ _).trans rfl;obtain⟨d4,ed4⟩:∃d4,d4=Sort.swp d a pivot:=⟨_,rfl⟩;have hP:Sort.partitionEqual dp d a b pivot=Sort.partEqLoop dp a (a+1) (b-1) d4:=by rw[ed4];rfl
 rw[<-ed4]at cc ca;rw[hP];clear hP;apply RG;simp only[go_sem,iv,w1,w2];apply dF (fun x=>x.2+3-x.1) (fun x=>y6 (.slice (some ⟨g0,0,none⟩) d.size vk) (iv a) (.func (.func f) fst cap) x) (fun x H=>∃I5 A5 d5,H=U [I5,A5]/\Dj [I5,A5]/\I.le I5/\d5.size=d.size/\bQ I5 A5 (.slice (some ⟨g0,0,none⟩) d.size vk) d5.toList/\1<=x.1/\x.1<=x.2+2/\x.2<=b-1/\Sort.partEqLoop dp a x.1 x.2 d5=Sort.partEqLoop dp a (a+1) (b-1) d4) (fun x H=>∃I5 A5,H=U [I5,A5]/\Dj [I5,A5]/\I.le I5/\bQ I5 A5 (.slice (some ⟨g0,0,none⟩) d.size vk) (Sort.partEqLoop dp a (a+1) (b-1) d4).2.toList/\x.1=(Sort.partEqLoop dp a (a+1) (b-1) d4).1) (a+1,b-1)
 ·exact bM
 ·exact(by simp only[go_sem,aa6,y6])
 ·exact⟨I,_,d4,rfl,cy,abW _,ca,cc,by simp only;omega,by simp only;omega,by simp only;omega,rfl⟩
 ·rintro⟨i5,j5⟩ H ⟨I5,A5,d5,rfl,c4,bx,a9,c7,cr,b1,cn,a3⟩ a0 a1;simp only at cr b1 cn a3;simp only[y6];refine dP ?_;apply dF (fun x=>j5+2-x) (fun x=>y6 (.slice (some ⟨g0,0,none⟩) d.size vk) (iv a) (.func (.func f) fst cap) (x,j5)) (fun x H=>∃Jz Az,H=U [Jz,Az]/\Dj [Jz,Az]/\I5.le Jz/\bQ Jz Az (.slice (some ⟨g0,0,none⟩) d.size vk) d5.toList/\i5<=x/\x<=j5+2/\Sort.scanUp (fun y=>!dp d5[a]! y) d5 j5 x=Sort.scanUp (fun y=>!dp d5[a]! y) d5 j5 i5) (fun x H=>∃Jz Az,H=U [Jz,Az]/\Dj [Jz,Az]/\I5.le Jz/\bQ Jz Az (.slice (some ⟨g0,0,none⟩) d.size vk) d5.toList/\i5<=x/\x<=j5+2/\x=Sort.scanUp (fun y=>!dp d5[a]! y) d5 j5 i5) i5
  ·exact bM
  ·exact(by simp only[go_sem,aa6,y6])
  ·exact⟨I5,_,rfl,‹_›,abW _,‹_›,ZR _,ab,rfl⟩
  ·rintro x H ⟨Jz,Az,rfl,aq,aj,aS,b6,a5,ak⟩ an ac;simp only[y6];rcases aaf j5 x with cs|cm
   ·have ao:decide (((x:Nat):Int)<=((j5:Nat):Int))=false:=abT ab;rw[Sort.scanUp,ZV (by simp;omega)]at ak;have bb:=ak;refine dP ?_;refine eP [0,1,2,3,4,5,6,7,8,9,10,11,12,13,14,15,16] [8,12] [] ?_;apply au;simp only[go_sem,iv,ao];refine aw ?_;apply bL 3;simp only[go_sem,iv];exact ac x _ _ bM (by simp only[go_sem,aa6,y6]) ⟨Jz,Az,rfl,aq,aj,aS,b6,a5,bb⟩
   ·have ao:decide (((x:Nat):Int)<=((j5:Nat):Int))=true:=abU ab;rw[Sort.scanUp]at ak;have p1:IntKind.i64.wrap ((x:Int)+1)=((x+1:Nat):Int):=by
     have e0:(x:Int)+1=((x+1:Nat):Int):=by omega
     rw[e0];exact wrap64 ab
    obtain⟨g,cp,cur,ci,cj,ev,rfl,a4,ri,rj,li,lj,ki,kj,am⟩:=Ow.two aS (fun{I} c a h=>bm.len c a h) (fun{I J c a} h k=>bm.le h k) (i:=x) (j:=a) ab ab;rw[a9]at ev a4;simp only[Value.slice.injEq,ZW,Addr.mk.injEq,abC,acT]at ev;obtain⟨eg,ek⟩:=ev;subst eg;subst ek;refine dP ?_;refine eP [0,1,2,3,4,5,6,7,8,9,10,11,12,13,14,15,16] [8,12] [] ?_;apply au;simp only[go_sem,iv,ao];refine⟨ab,?_⟩;refine W7 (l:=cj) (v:=.agg cj.toArray) rfl (cellsU aq (.tail _ (.head _)) (by simpa using kj)) (.inl ⟨by rw[lj];exact cL,rfl⟩) ?_;apply au;simp only[go_sem,iv,ao];refine⟨ab,?_⟩;refine W7 (l:=ci) (v:=.agg ci.toArray) rfl (cellsU aq (.tail _ (.head _)) (by simpa using ki)) (.inl ⟨by rw[li];exact cL,rfl⟩) ?_;apply au;simp only[go_sem,iv,ao];refine aE aq [0] [] [_] rfl gf rfl (cf Jz _ _ _ _ rj ri) fun v Jy qs a2 aa hq=>?_;obtain⟨rfl,z,rfl,hz⟩:=hq;simp only[Z3]at a2 |-;refine dS ?_;refine aw ?_;cases hl:dp d5[a]! d5[x]! with
    |true=>
     rw[hl]at hz;rw[ZV (by simp[hl])]at ak;apply bL 3;simp only[go_sem,iv,hz,abQ];exact ac (x) _ _ bM (by simp only[go_sem,aa6,y6]) ⟨Jy,_,rfl,a2,abV aj aa,bQ.le aS aa,b6,a5,ak⟩
    |false=>
     rw[hl]at hz;rw[aaq (by simp[hl];omega)]at ak;apply RG;simp only[go_sem,iv,hz,abK,p1];exact an (x+1) _ _ ab bM (by simp only[go_sem,aa6,y6]) ⟨Jy,_,rfl,a2,abV aj aa,bQ.le aS aa,ab,ab,ak⟩
  rintro i6 H ⟨I6,A6,rfl,c3,bs,c6,c2,hi6b,b2⟩;simp only[y6];refine dP ?_;apply dF (fun x=>x) (fun x=>y6 (.slice (some ⟨g0,0,none⟩) d.size vk) (iv a) (.func (.func f) fst cap) (i6,x)) (fun x H=>∃Jz Az,H=U [Jz,Az]/\Dj [Jz,Az]/\I6.le Jz/\bQ Jz Az (.slice (some ⟨g0,0,none⟩) d.size vk) d5.toList/\x<=j5/\Sort.scanDown (fun y=>dp d5[a]! y) d5 i6 x=Sort.scanDown (fun y=>dp d5[a]! y) d5 i6 j5) (fun x H=>∃Jz Az,H=U [Jz,Az]/\Dj [Jz,Az]/\I6.le Jz/\bQ Jz Az (.slice (some ⟨g0,0,none⟩) d.size vk) d5.toList/\x<=j5/\x=Sort.scanDown (fun y=>dp d5[a]! y) d5 i6 j5) j5
  ·exact bM
  ·exact(by simp only[go_sem,aa6,y6])
  ·exact⟨I6,_,rfl,‹_›,abW _,‹_›,ZR _,rfl⟩
  ·rintro x H ⟨Jz,Az,rfl,aq,aj,aS,a5,ak⟩ an ac;simp only[y6];rcases aaf x i6 with cs|cm
   ·have ao:decide (((i6:Nat):Int)<=((x:Nat):Int))=false:=abT ab;have bb:x=Sort.scanDown (fun y=>dp d5[a]! y) d5 i6 j5:=by
     rw[<-ak];cases x with
     |zero=>rw[Sort.scanDown]
     |succ x=>rw[Sort.scanDown,ZV (by simp;omega)]
    refine dP ?_;refine eP [0,1,2,3,4,5,6,7,8,9,10,11,12,13,14,15] [8,12] [] ?_;apply au;simp only[go_sem,iv,ao];refine aw ?_;apply bL 3;simp only[go_sem,iv];exact ac x _ _ bM (by simp only[go_sem,aa6,y6]) ⟨Jz,Az,rfl,aq,aj,aS,a5,bb⟩
   ·have ao:decide (((i6:Nat):Int)<=((x:Nat):Int))=true:=abU ab;obtain⟨x,rfl⟩:∃x',x=x'+1:=⟨x-1,ab⟩;have p1:=mG (j:=x) ab;rw[Sort.scanDown]at ak;obtain⟨g,cp,cur,ci,cj,ev,rfl,a4,ri,rj,li,lj,ki,kj,am⟩:=Ow.two aS (fun{I} c a h=>bm.len c a h) (fun{I J c a} h k=>bm.le h k) (i:=x+1) (j:=a) ab ab;rw[a9]at ev a4;simp only[Value.slice.injEq,ZW,Addr.mk.injEq,abC,acT]at ev;obtain⟨eg,ek⟩:=ev;subst eg;subst ek;refine dP ?_;refine eP [0,1,2,3,4,5,6,7,8,9,10,11,12,13,14,15] [8,12] [] ?_;apply au;simp only[go_sem,iv,ao];refine⟨ab,?_⟩;refine W7 (l:=cj) (v:=.agg cj.toArray) rfl (cellsU aq (.tail _ (.head _)) (by simpa using kj)) (.inl ⟨by rw[lj];exact cL,rfl⟩) ?_;apply au;simp only[go_sem,iv,ao];refine⟨ab,?_⟩;refine W7 (l:=ci) (v:=.agg ci.toArray) rfl (cellsU aq (.tail _ (.head _)) (by simpa using ki)) (.inl ⟨by rw[li];exact cL,rfl⟩) ?_;apply au;simp only[go_sem,iv,ao];refine aE aq [0] [] [_] rfl gf rfl (cf Jz _ _ _ _ rj ri) fun v Jy qs a2 aa hq=>?_;obtain⟨rfl,z,rfl,hz⟩:=hq;simp only[Z3]at a2 |-;refine dS ?_;refine aw ?_;cases hl:dp d5[a]! d5[x+1]! with
    |true=>
     rw[hl]at hz;rw[aaq (by simp[hl];omega)]at ak;apply RG;simp only[go_sem,iv,hz,abQ,p1];exact an x _ _ ab bM (by simp only[go_sem,aa6,y6]) ⟨Jy,_,rfl,a2,abV aj aa,bQ.le aS aa,ab,ak⟩
    |false=>
     rw[hl]at hz;rw[ZV (by simp[hl])]at ak;apply bL 3;simp only[go_sem,iv,hz,abK];exact ac (x+1) _ _ bM (by simp only[go_sem,aa6,y6]) ⟨Jy,_,rfl,a2,abV aj aa,bQ.le aS aa,a5,ak⟩
  rintro j7 H ⟨I7,A7,rfl,ba,bd,cb,c1,b0⟩;simp only[y6];rw[Sort.partEqLoop_eq,<-b2,<-b0]at a3;have b5:=abV bx (abV bs bd);by_cases a6:i6>j7
  ·have b4:decide ((i6:Int)>(j7:Int))=true:=abU ab;rw[aaq a6]at a3;apply bL 8;simp only[go_sem,iv,b4];exact a1 (i6,j7) _ _ bM (by simp only[go_sem,aa6,y6]) ⟨I7,A7,rfl,ba,b5,by rw[<-a3];exact cb,by rw[<-a3]⟩
  have b4:decide ((i6:Int)>(j7:Int))=false:=abT ab;rw[ZV a6]at a3;apply RG;simp only[go_sem,iv,b4];obtain⟨g,cp,cur,ci,cj,ev,rfl,a4,ri,rj,li,lj,ki,kj,am⟩:=Ow.two cb (fun{I} c a h=>bm.len c a h) (fun{I J c a} h k=>bm.le h k) (i:=i6) (j:=j7) ab ab;rw[a9]at ev a4;simp only[Value.slice.injEq,ZW,Addr.mk.injEq,abC,acT]at ev;obtain⟨eg,ek⟩:=ev;subst eg;subst ek;have mi:(i6+1)*7<=d.size*7:=aaQ _ ab;have mj:(j7+1)*7<=d.size*7:=aaQ _ ab;refine eP [0,1,2,3,4,5,6,7,8,9,10,11,12,13,14,15] [7,11] [] ?_;refine dS ?_;refine⟨ab,?_⟩;refine W7 (l:=cj) (v:=.agg cj.toArray) rfl (cellsU ba (.tail _ (.head _)) (by simpa using kj)) (.inl ⟨by rw[lj];exact cL,rfl⟩) ?_;refine dS ?_;refine⟨ab,?_⟩;refine W7 (l:=ci) (v:=.agg ci.toArray) rfl (cellsU ba (.tail _ (.head _)) (by simpa using ki)) (.inl ⟨by rw[li];exact cL,rfl⟩) ?_;refine dS ?_;refine⟨ab,?_⟩;refine aQ ba rfl rfl rfl rfl rfl (ag (bm.ones rj)) (by rw[lj];exact aU) (by rw[lj];omega) fun b3=>?_;refine dS ?_;refine⟨ab,?_⟩;refine aQ b3 rfl rfl rfl rfl rfl (ag (bm.ones ri)) (by rw[li];exact aU) (by rw[li];simp[aX];omega) fun cx=>?_;refine aw ?_;have cB:=am I7 (abW _);have cl:(Sort.swp d5 i6 j7).size=d.size:=(al _ _ _).trans a9;have w8:IntKind.i64.wrap ((i6:Int)+1)=((i6+1:Nat):Int):=by
   have e0:(i6:Int)+1=((i6+1:Nat):Int):=by omega
   rw[e0];exact wrap64 ab
  have w9:IntKind.i64.wrap ((j7:Int)-1)=((j7-1:Nat):Int):=by rw[iX ab];omega
  apply RG;simp only[go_sem,iv,w8,w9];exact a0 (i6+1,j7-1) _ _ dt bM (by simp only[go_sem,aa6,y6]) ⟨I7,_,_,rfl,cx,b5,cl,cB,by simp only;omega,by simp only;omega,by simp only;omega,a3⟩
 rintro⟨i9,j9⟩ H ⟨I9,A9,rfl,ct,bc,cA,a7⟩;simp only at a7;simp only[y6];rw[<-a7];refine dP ?_;exact af rfl ct (r:=[iv i9]) rfl bc ⟨A9,rfl,cA,rfl⟩
open Go.Sort (PermIn SortedIn SWO permIn_refl permIn_trans permIn_mono swp_permIn)
def AU:aO Tryz.prog 224:=⟨_,Tryz.func224,rfl,rfl⟩
def P4:aO Tryz.prog 147:=⟨_,Tryz.func147,rfl,rfl⟩
def ge{α:Type}{C:Cx}{k:List Item}(S:α->St)(E:α->PH->Prop){P:Prop}(h1:(∀a H,E a H->RC C (.st k) (S a) H)->P)(h:∀a H,E a H->RC C (.st k) (S a) H):P:=h1 h
structure UV where
 a:Nat
 b:Nat
 lim:Nat
 wb:Bool
 wp:Bool
def IS(v vc:Value)(x:UV):St:=⟨dn 148 [(0,.v v),(1,.v (iv x.a)),(2,.v (iv x.b)),(3,.v (iv x.lim)),(4,.v vc),(10,.v (.bool x.wb)),(11,.v (.bool x.wp))],[]⟩
def Mf(v vc:Value)(x:UV)(lim:Nat):St:=⟨dn 148 [(0,.v v),(1,.v (iv x.a)),(2,.v (iv x.b)),(3,.v (iv lim)),(4,.v vc),(10,.v (.bool x.wb)),(11,.v (.bool x.wp)),(12,.v (iv (x.b-x.a)))],[]⟩
def SB(v vc:Value)(x:UV)(lim:Nat)(y:Nat×Nat):St:=⟨dn 148 [(0,.v v),(1,.v (iv x.a)),(2,.v (iv x.b)),(3,.v (iv lim)),(4,.v vc),(10,.v (.bool x.wb)),(11,.v (.bool x.wp)),(12,.v (iv (x.b-x.a))),(13,.v (iv y.1)),(14,.v (iv y.2))],[]⟩
def gC(v vc:Value)(x:UV)(lim p:Nat):St:=⟨dn 148 [(0,.v v),(1,.v (iv x.a)),(2,.v (iv x.b)),(3,.v (iv lim)),(4,.v vc),(10,.v (.bool x.wb)),(11,.v (.bool x.wp)),(12,.v (iv (x.b-x.a))),(13,.v (iv p))],[]⟩
def pqP(v:Value)(d:Array Nd)(a b:Nat):Value->PH->List PH->Prop:=fun _ I2 qs=>∃A2 e,qs=[A2]/\bQ I2 A2 v e.toList/\PermIn a b d e/\SortedIn dp a b e
theorem acA:∀(N:Nat) {I A:PH} {v vc:Value} {d:Array Nd} {a b lim:Nat},b-a<N->bQ I A v d.toList->mC bm dp vc->a<=b->b<=d.size->d.size<=aN->Sort.Below dp a b d->lim<2^60->
  aK Tryz.prog 224 #[v,iv a,iv b,iv lim,vc] I [A] (pqP v d a b):=by
 intro N
 induction N with
 |zero=>intro I A v vc d a b lim h;omega
 |succ N ih=>
 intro I A v vc d a b lim hN hA hc dx hb hn hB cs hd;have dd:=hn;unfold aN at dd;obtain⟨f,fst,cap,rfl,gf,cf⟩:=id hc;obtain⟨va,vk,rfl⟩:=Ow.one' hA;refine ah 148 Tryz.func224 fun w0=>?_
 try simp only[iv]
 refine aT ?_;refine aA (fun x=>x.b-x.a) (IS (.slice va d.size vk) (.func (.func f) fst cap)) (fun x H=>∃I2 A2 c,H=U [I2,A2]/\Dj [I2,A2]/\I.le I2/\bQ I2 A2 (.slice va d.size vk) c.toList/\c.size=d.size/\x.a<=x.b/\a<=x.a/\x.b<=b/\x.lim<2^60/\Sort.Below dp x.a x.b c/\∀R,PermIn x.a x.b c R->SortedIn dp x.a x.b R->PermIn a b d R/\SortedIn dp a b R) ⟨a,b,lim,true,true⟩ bM (by simp only[go_sem,aa6,IS]) ?_ ?_
 ·exact⟨I,A,d,rfl,hd,abW _,hA,rfl,dx,ZR _,ZR _,cs,hB,fun R h1 h2=>⟨h1,h2⟩⟩
 rintro x H ⟨I2,A2,c,rfl,ca,a2,cb,c8,b0,da,c0,c9,c4,hG⟩ aS;simp only[IS];have a7:x.b<=c.size:=by omega
 have cm:c.size<=aN:=by omega
 have w1:IntKind.i64.wrap ((x.b:Int)-(x.a:Int))=((x.b-x.a:Nat):Int):=by
  rw[cH ab ab];omega
 rcases aaf 12 (x.b-x.a)with dw|cn
 rotate_left
 ·have b4:decide (((x.b-x.a:Nat):Int)<=12)=true:=abU ab;apply RG;simp only[go_sem,iv,w1,b4];refine ad ca [0] [A2] [] rfl Of rfl (acf (a:=x.a) (b:=x.b) cb hc a7 cm ab) fun v I3 qs a0 ak hq=>?_;obtain⟨A3,rfl,a4⟩:=hq;simp only[Z3]at a0 |-;refine dP ?_;obtain⟨q1,q2⟩:=Sort.insertionSort_holds ix c x.a x.b b0 a7;obtain⟨q3,q4⟩:=hG _ q1 q2;exact af rfl a0 (r:=[]) rfl (abV a2 ak) ⟨A3,_,rfl,a4,q3,q4⟩
 have b4:decide (((x.b-x.a:Nat):Int)<=12)=false:=abT ab;by_cases dk:x.lim=0
 ·have cc:((x.lim:Int) == 0)=true:=by rw[dk];rfl
  apply RG;simp only[go_sem,iv,w1,b4,cc];refine ad ca [0] [A2] [] rfl Sk rfl (acj (a:=x.a) (b:=x.b) cb hc b0 a7 cm) fun v I3 qs a0 ak hq=>?_;obtain⟨A3,rfl,a4⟩:=hq;simp only[Z3]at a0 |-;refine dP ?_;obtain⟨q1,q2⟩:=Sort.heapSort_holds ix c x.a x.b b0 a7;obtain⟨q3,q4⟩:=hG _ q1 q2;exact af rfl a0 (r:=[]) rfl (abV a2 ak) ⟨A3,_,rfl,a4,q3,q4⟩
 have cc:((x.lim:Int) == 0)=false:=by rw[abS];omega
 apply ge (Mf (.slice va d.size vk) (.func (.func f) fst cap) x) (fun lim2 H=>∃I3 A3 e,H=U [I3,A3]/\Dj [I3,A3]/\I2.le I3/\bQ I3 A3 (.slice va d.size vk) e.toList/\PermIn x.a x.b c e/\lim2<2^60)
 ·intro aa;cases b5:x.wb
  ·apply RG;simp only[go_sem,iv,w1,b4,cc,b5,abK];refine ad ca [0] [A2] [] rfl Yu rfl (Ud (a:=x.a) (b:=x.b) cb b0 a7 cm) fun v I3 qs a0 ak hq=>?_;obtain⟨A3,e,rfl,bx,a4⟩:=hq;simp only[Z3]at a0 |-;have w2:IntKind.i64.wrap ((x.lim:Int)-1)=((x.lim-1:Nat):Int):=by rw[iX ab];omega
   apply bL 6;simp only[go_sem,iv,w2];refine fD ?_ ?_ (aa (x.lim-1) _ ⟨I3,A3,e,rfl,a0,ak,a4,bx,ab⟩)
   ·simp only[Mf,b5];exact bM
   ·exact(by simp only[go_sem,aa6,Mf])
  ·apply bL 32;simp only[go_sem,iv,w1,b4,cc,b5,abQ];refine fD ?_ ?_ (aa x.lim _ ⟨I2,A2,c,rfl,ca,abW _,cb,permIn_refl _ _ _,c9⟩)
   ·simp only[Mf,b5];exact bM
   ·exact(by simp only[go_sem,aa6,Mf])
 rintro lim2 H ⟨I3,A3,e3,rfl,a0,ak,a4,bx,am⟩;have c7:=bx.1;simp only[Mf];refine dP ?_;refine ad a0 [0] [A3] [] rfl QA rfl (Ug (a:=x.a) (b:=x.b) a4 hc ab ab ab) fun v I4 qs b6 a1 hq=>?_;obtain⟨p,h,a6,a5,hh,rfl,rfl⟩:=hq;simp only[Z3]at b6 |-;have cy:=bQ.le a4 a1;apply ge (SB (.slice va d.size vk) (.func (.func f) fst cap) x lim2) (fun y H=>∃I3 A3 e,H=U [I3,A3]/\Dj [I3,A3]/\I2.le I3/\bQ I3 A3 (.slice va d.size vk) e.toList/\PermIn x.a x.b c e/\x.a<=y.1/\y.1<x.b/\y.2<=2)
 ·intro aa;by_cases ds:h=2
  ·have cB:((h:Int) == 2)=true:=by rw[ds];rfl
   apply RG;simp only[go_sem,iv,cB];refine ad b6 [0] [A3] [] rfl TM rfl (acD (vc:=(.func (.func f) fst cap)) (a:=x.a) (b:=x.b) cy ab ab ab) fun v I5 qs ao ac hq=>?_;obtain⟨A5,rfl,aq⟩:=hq;simp only[Z3]at ao |-;have w3:IntKind.i64.wrap ((x.b:Int)-1)=((x.b-1:Nat):Int):=by rw[iX ab];omega
   have w4:IntKind.i64.wrap ((p:Int)-(x.a:Int))=((p-x.a:Nat):Int):=by
    rw[cH ab ab];omega
   have w5:IntKind.i64.wrap (((x.b-1:Nat):Int)-((p-x.a:Nat):Int))=((x.b-1-(p-x.a):Nat):Int):=by
    rw[cH ab ab];omega
   apply bL 14;simp only[go_sem,iv,w3,w4,w5];refine fD ?_ ?_ (aa (x.b-1-(p-x.a),1) _ ⟨I5,A5,_,rfl,ao,abV ak (abV a1 ac),aq,permIn_trans _ _ _ x.a x.b bx (Sort.reverseRange_holds e3 x.a x.b b0 ab),by simp only;omega,by simp only;omega,by simp only;omega⟩)
   ·exact bM
   ·exact(by simp only[go_sem,aa6,SB])
  ·have cB:((h:Int) == 2)=false:=by rw[abS];omega
   apply bL 14;simp only[go_sem,iv,cB];refine fD ?_ ?_ (aa (p,h) _ ⟨I4,A3,e3,rfl,b6,abV ak a1,cy,bx,a6,a5,hh⟩)
   ·exact bM
   ·exact(by simp only[go_sem,aa6,SB])
 clear a6 a5 hh b6 cy a1 a0 a4 bx ak c7;clear p h I4 I3 A3 e3;rintro⟨p,h⟩ H ⟨I5,A5,e5,rfl,ao,ac,aq,an,a6,a5,hh⟩;have cl:=an.1;simp only at a6 a5 hh;simp only[SB];apply ge (gC (.slice va d.size vk) (.func (.func f) fst cap) x lim2) (fun y H=>∃I3 A3 e,H=U [I3,A3]/\Dj [I3,A3]/\I2.le I3/\bQ I3 A3 (.slice va d.size vk) e.toList/\PermIn x.a x.b c e/\y=p)
 ·intro aa;by_cases c1:x.wb=true/\x.wp=true/\h=1
  ·obtain⟨g1,g2,g3⟩:=c1;have cA:((h:Int) == 1)=true:=by rw[g3];rfl
   apply RG;simp only[go_sem,iv,g1,g2,cA];refine ad ao [0] [A5] [] rfl Pz rfl (acb (a:=x.a) (b:=x.b) aq hc ab ab ab) fun v I6 qs a3 aj hq=>?_;obtain⟨A6,rfl,c5,rfl⟩:=hq;simp only[Z3]at a3 |-;obtain⟨q1,q2⟩:=Sort.partialInsertionSort_holds ix e5 x.a x.b ab ab (c4.perm a7 an);have k6:=abV a2 (abV ac aj);cases cr:(Sort.partialInsertionSort dp e5 x.a x.b).2
   ·apply bL 3;simp only[go_sem,iv,cr];refine fD ?_ ?_ (aa p _ ⟨I6,A6,_,rfl,a3,abV ac aj,c5,permIn_trans _ _ _ x.a x.b an q1,rfl⟩)
    ·simp only[gC,g1,g2];exact bM
    ·exact(by simp only[go_sem,aa6,gC])
   ·apply RG;simp only[go_sem,iv,cr];obtain⟨q3,q4⟩:=hG _ (permIn_trans _ _ _ x.a x.b an q1) (q2 cr);exact af rfl a3 (r:=[]) rfl k6 ⟨A6,_,rfl,c5,q3,q4⟩
  ·cases g1:x.wb
   ·apply bL 14;simp only[go_sem,iv,g1];refine fD ?_ ?_ (aa p _ ⟨I5,A5,e5,rfl,ao,ac,aq,an,rfl⟩)
    ·simp only[gC,g1];exact bM
    ·exact(by simp only[go_sem,aa6,gC])
   ·cases g2:x.wp
    ·apply bL 14;simp only[go_sem,iv,g1,g2];refine fD ?_ ?_ (aa p _ ⟨I5,A5,e5,rfl,ao,ac,aq,an,rfl⟩)
     ·simp only[gC,g1,g2];exact bM
     ·exact(by simp only[go_sem,aa6,gC])
    ·have cA:((h:Int) == 1)=false:=by rw[abS];intro e;exact c1 ⟨g1,g2,ab⟩
     apply bL 14;simp only[go_sem,iv,g1,g2,cA];refine fD ?_ ?_ (aa p _ ⟨I5,A5,e5,rfl,ao,ac,aq,an,rfl⟩)
     ·simp only[gC,g1,g2];exact bM
     ·exact(by simp only[go_sem,aa6,gC])
 clear ao aq an ac cl;clear I5 A5 e5;rintro y H ⟨I5,A5,e5,rfl,ao,ac,aq,an,rfl⟩;have cl:=an.1;have c3:=c4.perm a7 an;have k5:=abV a2 ac;simp only[gC];have part:∀(C:Cx) (k:List Item),True:=fun _ _=>trivial;clear part;obtain⟨g0,rfl⟩:∃g0,va=some ⟨g0,0,none⟩:=by
  obtain⟨g,c',ev⟩:=Ow.addr aq ab;simp only[Value.slice.injEq]at ev;exact⟨g,ev.1⟩
 apply ge (α:=Unit) (fun _=>gC (.slice (some ⟨g0,0,none⟩) d.size vk) (.func (.func f) fst cap) x lim2 y) (fun _ H=>∃I6,H=U [I6,A5]/\Dj [I6,A5]/\I5.le I6)
 ·intro aa;rcases abn x.a with c2|c2
  ·have b3:decide ((x.a:Int)>0)=false:=abT ab;refine dP ?_;refine eP [0,1,2,3,4,5,6,7,8,9,10,11,12,13,14,15,16] [8,12] [] ?_;apply au;simp only[go_sem,iv,b3];refine aw ?_;apply bL 2;simp only[go_sem,iv];refine fD ?_ ?_ (aa () _ ⟨I5,rfl,ao,abW _⟩)
   ·exact bM
   ·exact(by simp only[go_sem,aa6,gC])
  ·have b3:decide ((x.a:Int)>0)=true:=abU ab;have w6:IntKind.i64.wrap ((x.a:Int)-1)=((x.a-1:Nat):Int):=by rw[iX ab];omega
   obtain⟨g,cp,cur,ci,cj,ev,rfl,dv,ri,rj,li,lj,ki,kj,dc⟩:=Ow.two aq (fun{I} c a h=>bm.len c a h) (fun{I J c a} h k=>bm.le h k) (i:=x.a-1) (j:=y) ab ab;rw[cl.trans c8]at ev dv;simp only[Value.slice.injEq,ZW,Addr.mk.injEq,abC,acT]at ev;obtain⟨eg,ek⟩:=ev;subst eg;subst ek;refine dP ?_;refine eP [0,1,2,3,4,5,6,7,8,9,10,11,12,13,14,15,16] [8,12] [] ?_;apply au;simp only[go_sem,iv,b3,w6];refine⟨ab,?_⟩;refine W7 (l:=ci) (v:=.agg ci.toArray) rfl (cellsU ao (.tail _ (.head _)) (by simpa using ki)) (.inl ⟨by rw[li];exact cL,rfl⟩) ?_;apply au;simp only[go_sem,iv,b3,w6];refine⟨ab,?_⟩;refine W7 (l:=cj) (v:=.agg cj.toArray) rfl (cellsU ao (.tail _ (.head _)) (by simpa using kj)) (.inl ⟨by rw[lj];exact cL,rfl⟩) ?_;apply au;simp only[go_sem,iv,b3,w6];refine aE ao [0] [] [_] rfl gf rfl (cf I5 _ _ _ _ ri rj) fun v I6 qs a3 aj hq=>?_;obtain⟨rfl,z,rfl,hz⟩:=hq;simp only[Z3]at a3 |-;refine dS ?_;refine aw ?_;cases a9:dp e5[x.a-1]! e5[y]! with
   |true=>
    rw[a9]at hz;apply bL 2;simp only[go_sem,iv,hz,abQ];refine fD ?_ ?_ (aa () _ ⟨I6,rfl,a3,aj⟩)
    ·exact bM
    ·exact(by simp only[go_sem,aa6,gC])
   |false=>
    rw[a9]at hz;apply RG;simp only[go_sem,iv,hz,abK];refine ad a3 [0] [_] [] rfl UX rfl (Q2 (a:=x.a) (b:=x.b) (pivot:=y) (bQ.le aq aj) hc a6 a5 ab ab) fun v I7 qs bs bb hq=>?_;obtain⟨A7,rfl,bc,rfl⟩:=hq;simp only[Z3]at bs |-;obtain⟨mid,e7,hx⟩:∃mid e7,Sort.partitionEqual dp e5 x.a x.b y=(mid,e7):=⟨_,_,rfl⟩;rw[hx]at bc |-;obtain⟨r1,r2,r3,r4,r5⟩:=Sort.round_eq ix (Sort.partitionEqual_holds dp) c2 a6 a5 ab c3 a9 hx;refine dP ?_;exact aS ⟨mid,x.b,lim2,x.wb,x.wp⟩ _ _ dt bM (by simp only[go_sem,aa6,IS]) ⟨I7,A7,e7,rfl,bs,abV k5 (abV aj bb),bc,ab,r2,by simp only;omega,c0,am,r4,fun R p q=>by
     obtain⟨s1,s2⟩:=r5 R p q;exact hG R (permIn_trans _ _ _ x.a x.b an s1) s2⟩
 rintro⟨⟩ H ⟨I6,rfl,a3,aj⟩;simp only[gC];refine dP ?_;refine ad a3 [0] [A5] [] rfl TW rfl (acq (a:=x.a) (b:=x.b) (pivot:=y) (bQ.le aq aj) hc a6 a5 ab ab) fun v I7 qs bs bb hq=>?_;obtain⟨A7,rfl,bc,rfl⟩:=hq;simp only[Z3]at bs |-;obtain⟨mid,ap,e7,hx⟩:∃mid ap e7,Sort.partition dp e5 x.a x.b y=(mid,ap,e7):=⟨_,_,_,rfl⟩;rw[hx]at bc |-;obtain⟨r1,r2,r3,r4,r5,r6,r7⟩:=Sort.round_part ix (Sort.partition_holds dp) a6 a5 ab c3 hx;have k7:=abV k5 (abV aj bb);simp only at bc;have w7:IntKind.i64.wrap ((mid:Int)-(x.a:Int))=((mid-x.a:Nat):Int):=by
  rw[cH ab ab];omega
 have w8:IntKind.i64.wrap ((x.b:Int)-(mid:Int))=((x.b-mid:Nat):Int):=by
  rw[cH ab ab];omega
 have w9:IntKind.i64.wrap ((((x.b-x.a:Nat):Int)).tdiv 8)=(((x.b-x.a) / 8:Nat):Int):=by
  rw[show (((x.b-x.a:Nat):Int)).tdiv 8=(((x.b-x.a) / 8:Nat):Int) from rfl,wrap64 ab]
 have w10:IntKind.i64.wrap ((mid:Int)+1)=((mid+1:Nat):Int):=by
  have e0:(mid:Int)+1=((mid+1:Nat):Int):=by omega
  rw[e0];exact wrap64 ab
 rcases aaf (mid-x.a) (x.b-mid)with dj|dj
 ·have bd:decide (((mid-x.a:Nat):Int)<((x.b-mid:Nat):Int))=true:=abU ab;apply RG;simp only[go_sem,iv,w7,w8,w9,bd];refine ad bs [0] [A7] [] rfl AU rfl (ih (a:=x.a) (b:=mid) (lim:=lim2) ab bc hc r1 ab ab r4 am) fun v I8 qs b1 ba hq=>?_;obtain⟨A8,e8,rfl,cx,b2,ct⟩:=hq;simp only[Z3]at b1 |-;obtain⟨t1,t2⟩:=r6 e8 b2 ct;have c6:=b2.1;apply RG;simp only[go_sem,iv,w10];exact aS ⟨mid+1,x.b,lim2,decide (((mid-x.a:Nat):Int)>=(((x.b-x.a) / 8:Nat):Int)),ap⟩ _ _ dt bM (by simp only[go_sem,aa6,IS]) ⟨I8,A8,e8,rfl,b1,abV k7 ba,cx,ab,by simp only;omega,by simp only;omega,c0,am,t1,fun R p q=>by
   obtain⟨s1,s2⟩:=t2 R p q;exact hG R (permIn_trans _ _ _ x.a x.b an s1) s2⟩
 ·have bd:decide (((mid-x.a:Nat):Int)<((x.b-mid:Nat):Int))=false:=abT ab;apply RG;simp only[go_sem,iv,w7,w8,w9,bd,w10];refine ad bs [0] [A7] [] rfl AU rfl (ih (a:=mid+1) (b:=x.b) (lim:=lim2) ab bc hc ab ab ab r5 am) fun v I8 qs b1 ba hq=>?_;obtain⟨A8,e8,rfl,cx,b2,ct⟩:=hq;simp only[Z3]at b1 |-;obtain⟨t1,t2⟩:=r7 e8 b2 ct;have c6:=b2.1;refine dP ?_;exact aS ⟨x.a,mid,lim2,decide (((x.b-mid:Nat):Int)>=(((x.b-x.a) / 8:Nat):Int)),ap⟩ _ _ dt bM (by simp only[go_sem,aa6,IS]) ⟨I8,A8,e8,rfl,b1,abV k7 ba,cx,ab,r1,da,by simp only;omega,am,t1,fun R p q=>by
   obtain⟨s1,s2⟩:=t2 R p q;exact hG R (permIn_trans _ _ _ x.a x.b an s1) s2⟩
def acl{I A:PH}{v:Value}(hA:bQ I A v d.toList)(hc:mC bm dp vc)(hn:d.size<=aN):
  aK Tryz.prog 147 #[v,vc] I [A] (pqP v d 0 d.size):=by
 intro hd;have aj:=hn;unfold aN at aj;obtain⟨f,fst,cap,rfl,gf,cf⟩:=id hc;obtain⟨va,vk,rfl⟩:=Ow.one' hA;have ao:Sort.bitsLen d.size<=41:=(Sort.bitsLen_le_iff d.size 41).2 ab;have u1:=qq (n:=d.size) ab;refine ah 14 Tryz.func147 fun w0=>?_;apply RG;simp only[go_sem,u1];refine WZ rfl GC (RZ ab _) fun v H2 hv=>?_;obtain⟨rfl,rfl⟩:=hv;refine dP ?_;refine ad hd [0] [A] [] rfl AU rfl (acA (d.size-0+1) (a:=0) (b:=d.size) (lim:=Sort.bitsLen d.size) ab hA hc (aaL _) (ZR _) hn (.inl rfl) ab) fun v I2 qs ac aa hq=>?_;obtain⟨A2,e2,rfl,an,am,ak⟩:=hq;simp only[Z3]at ac |-;refine dP ?_;exact d8 rfl ac (r:=[]) rfl aa ⟨A2,e2,rfl,an,am,ak⟩
end Go.Proofs.YtfaclfkpnmcmlaaGreatDoor
