import Derived.Test.YtfaclfkpnmcmlaaGreatDoorS00
import Derived.Test.YtfaclfkpnmcmlaaGreatDoorS06
import Derived.Test.YtfaclfkpnmcmlaaGreatDoorS10
import Derived.Test.YtfaclfkpnmcmlaaGreatDoorS11
import Derived.Shelf.LaysM
import Derived.Shelf.Strconv.Itoa3
import Derived.Shelf.LaysC
import Derived.Shelf.Strconv.AtoiAll
import Derived.Test.YtfaclfkpnmcmlaaGreatDoorProg
set_option maxHeartbeats 8000000
set_option linter.all false
namespace Go.Proofs.YtfaclfkpnmcmlaaGreatDoor
open Go Go.Sx Dg Syn
theorem J8:aP Tryz.prog 278:=⟨_,Tryz.func278,rfl,rfl⟩
theorem HE:aP Tryz.prog 277:=⟨_,Tryz.func277,rfl,rfl⟩
def mZ(v va vc:Value)(x:Nat×Nat):St:=⟨dn 178 [(0,.v v),(1,.v va),(4,.v vc),(12,.v (iv x.1)),(13,.v (iv x.2))],[]⟩
def vu(v va vc:Value)(x:Nat×Nat):St:=⟨dn 90 [(0,.v v),(1,.v va),(4,.v vc),(11,.v (iv x.1)),(12,.v (iv x.2))],[]⟩
theorem Mj{I A:PH}{v vc:Value}{d:Array Nd}{a b pivot:Nat}(hA:br I A v d.toList)(hc:jT aW cz vc)(d6:a<=pivot)(dv:pivot<b)(hb:b<=d.size)(hn:d.size<=aF):
  aO Tryz.prog 278 #[v,iv a,iv b,iv pivot,vc] I [A] fun r I2 qs=>∃A2,qs=[A2]/\br I2 A2 v (Sort.partition cz d a b pivot).2.2.toList/\r=.tuple #[iv (Sort.partition cz d a b pivot).1,.bool (Sort.partition cz d a b pivot).2.1]:=by
 intro hd;unfold aF at hn;obtain⟨f,fst,cap,rfl,gf,cf⟩:=id hc;obtain⟨g0,vk,rfl⟩:=Ow.addr hA Vi;refine ir 178 Tryz.func278 fun w0=>?_
 try simp only[iv]
 have w1:IntKind.i64.wrap ((a:Int)+1)=((a+1:Nat):Int):=by
  have e0:(a:Int)+1=((a+1:Nat):Int):=by omega
  rw[e0];exact wrap64 Vi
 have w2:IntKind.i64.wrap ((b:Int)-1)=((b-1:Nat):Int):=by rw[gd Vi];omega
 refine Un ?_;obtain⟨g,cp,cur,ci,cj,ev,rfl,a0,ri,rj,li,lj,ki,kj,am⟩:=Ow.two hA (fun{I} c a h=>aW.len c a h) (fun{I J c a} h k=>aW.le h k) (i:=a) (j:=pivot) Vi Vi;simp only[Value.slice.injEq,Sc,Addr.mk.injEq,TY,SP]at ev;obtain⟨eg,ek⟩:=ev;subst eg;subst ek;have mi:(a+1)*7<=d.size*7:=Tb _ Vi;have mj:(pivot+1)*7<=d.size*7:=Tb _ Vi;refine V8 [0,1,2,3,4,5,6,7,8,9,10,11,12,13,14,15] [7,11] [] ?_;refine Ur ?_;refine⟨Vi,?_⟩;refine P7 (l:=cj) (v:=.agg cj.toArray) rfl (cellsU hd (.tail _ (.head _)) (by simpa using kj)) (.inl ⟨by rw[lj];exact bT,rfl⟩) ?_;refine Ur ?_;refine⟨Vi,?_⟩;refine P7 (l:=ci) (v:=.agg ci.toArray) rfl (cellsU hd (.tail _ (.head _)) (by simpa using ki)) (.inl ⟨by rw[li];exact bT,rfl⟩) ?_;refine Ur ?_;refine⟨Vi,?_⟩;refine aH hd rfl rfl rfl rfl rfl (aM (aW.ones rj)) (by rw[lj];exact fx) (by rw[lj];omega) fun a3=>?_;refine Ur ?_;refine⟨Vi,?_⟩;refine aH a3 rfl rfl rfl rfl rfl (aM (aW.ones ri)) (by rw[li];exact fx) (by rw[li];simp[aJ];omega) fun d3=>?_;refine aw ?_;have c4:=am I (Uj _);have a6:(Sort.swp d a pivot).size=d.size:=(cH _ _ _).trans rfl;obtain⟨d1,ed1⟩:∃d1,d1=Sort.swp d a pivot:=⟨_,rfl⟩;rw[<-ed1]at c4 a6;apply RG;simp only[go_sem,iv,w1,w2];have ds:=c4
 apply cO (fun x=>(b-1)+2-x) (fun x=>mZ (.slice (some ⟨g0,0,none⟩) d.size vk) (iv a) (.func (.func f) fst cap) (x,(b-1))) (fun x H=>∃Jz Az,H=U [Jz,Az]/\Dj [Jz,Az]/\I.le Jz/\br Jz Az (.slice (some ⟨g0,0,none⟩) d.size vk) d1.toList/\(a+1)<=x/\x<=(b-1)+2/\Sort.scanUp (fun y=>cz y d1[a]!) d1 (b-1) x=Sort.scanUp (fun y=>cz y d1[a]!) d1 (b-1) (a+1)) (fun x H=>∃Jz Az,H=U [Jz,Az]/\Dj [Jz,Az]/\I.le Jz/\br Jz Az (.slice (some ⟨g0,0,none⟩) d.size vk) d1.toList/\(a+1)<=x/\x<=(b-1)+2/\x=Sort.scanUp (fun y=>cz y d1[a]!) d1 (b-1) (a+1)) (a+1)
 ·exact Uo
 ·exact(by simp only[go_sem,Tq,mZ])
 ·exact⟨I,_,rfl,‹_›,Uj _,‹_›,R7 _,Vi,rfl⟩
 ·rintro x H ⟨Jz,Az,rfl,ap,aj,aS,bc,a2,ak⟩ an ac;simp only[mZ];rcases Sw (b-1) x with cs|cl
  ·have ao:decide (((x:Nat):Int)<=(((b-1):Nat):Int))=false:=Ug Vi;rw[Sort.scanUp,Sb (by simp;omega)]at ak;have a5:=ak;refine Uq ?_;refine V8 [0,1,2,3,4,5,6,7,8,9,10,11,12,13,14,15] [8,12] [] ?_;apply af;simp only[go_sem,iv,ao];refine aw ?_;apply bq 3;simp only[go_sem,iv];exact ac x _ _ Uo (by simp only[go_sem,Tq,mZ]) ⟨Jz,Az,rfl,ap,aj,aS,bc,a2,a5⟩
  ·have ao:decide (((x:Nat):Int)<=(((b-1):Nat):Int))=true:=Uh Vi;rw[Sort.scanUp]at ak;have p1:IntKind.i64.wrap ((x:Int)+1)=((x+1:Nat):Int):=by
    have e0:(x:Int)+1=((x+1:Nat):Int):=by omega
    rw[e0];exact wrap64 Vi
   obtain⟨g,cp,cur,ci,cj,ev,rfl,a0,ri,rj,li,lj,ki,kj,am⟩:=Ow.two aS (fun{I} c a h=>aW.len c a h) (fun{I J c a} h k=>aW.le h k) (i:=x) (j:=a) Vi Vi;rw[a6]at ev a0;simp only[Value.slice.injEq,Sc,Addr.mk.injEq,TY,SP]at ev;obtain⟨eg,ek⟩:=ev;subst eg;subst ek;refine Uq ?_;refine V8 [0,1,2,3,4,5,6,7,8,9,10,11,12,13,14,15] [8,12] [] ?_;apply af;simp only[go_sem,iv,ao];refine⟨Vi,?_⟩;refine P7 (l:=ci) (v:=.agg ci.toArray) rfl (cellsU ap (.tail _ (.head _)) (by simpa using ki)) (.inl ⟨by rw[li];exact bT,rfl⟩) ?_;apply af;simp only[go_sem,iv,ao];refine⟨Vi,?_⟩;refine P7 (l:=cj) (v:=.agg cj.toArray) rfl (cellsU ap (.tail _ (.head _)) (by simpa using kj)) (.inl ⟨by rw[lj];exact bT,rfl⟩) ?_;apply af;simp only[go_sem,iv,ao];refine i7 ap [0] [] [_] rfl gf rfl (cf Jz _ _ _ _ ri rj) fun v Jy qs a1 aa hq=>?_;obtain⟨rfl,z,rfl,hz⟩:=hq;simp only[Z3]at a1 |-;refine Ur ?_;refine aw ?_;cases hl:cz d1[x]! d1[a]! with
   |true=>
    rw[hl]at hz;rw[SI (by simp[hl];omega)]at ak;apply RG;simp only[go_sem,iv,hz,Ud,p1];exact an (x+1) _ _ Vi Uo (by simp only[go_sem,Tq,mZ]) ⟨Jy,_,rfl,a1,Ui aj aa,br.le aS aa,Vi,Vi,ak⟩
   |false=>
    rw[hl]at hz;rw[Sb (by simp[hl])]at ak;apply bq 3;simp only[go_sem,iv,hz,T7];exact ac (x) _ _ Uo (by simp only[go_sem,Tq,mZ]) ⟨Jy,_,rfl,a1,Ui aj aa,br.le aS aa,bc,a2,ak⟩
 rintro i H ⟨I2,A2,rfl,d2,cc,eb,dI,dA,da⟩;simp only[mZ];refine Uq ?_;apply cO (fun x=>x) (fun x=>mZ (.slice (some ⟨g0,0,none⟩) d.size vk) (iv a) (.func (.func f) fst cap) (i,x)) (fun x H=>∃Jz Az,H=U [Jz,Az]/\Dj [Jz,Az]/\I2.le Jz/\br Jz Az (.slice (some ⟨g0,0,none⟩) d.size vk) d1.toList/\x<=(b-1)/\Sort.scanDown (fun y=>!cz y d1[a]!) d1 i x=Sort.scanDown (fun y=>!cz y d1[a]!) d1 i (b-1)) (fun x H=>∃Jz Az,H=U [Jz,Az]/\Dj [Jz,Az]/\I2.le Jz/\br Jz Az (.slice (some ⟨g0,0,none⟩) d.size vk) d1.toList/\x<=(b-1)/\x=Sort.scanDown (fun y=>!cz y d1[a]!) d1 i (b-1)) (b-1)
 ·exact Uo
 ·exact(by simp only[go_sem,Tq,mZ])
 ·exact⟨I2,_,rfl,‹_›,Uj _,‹_›,R7 _,rfl⟩
 ·rintro x H ⟨Jz,Az,rfl,ap,aj,aS,a2,ak⟩ an ac;simp only[mZ];rcases Sw x i with cs|cl
  ·have ao:decide (((i:Nat):Int)<=((x:Nat):Int))=false:=Ug Vi;have a5:x=Sort.scanDown (fun y=>!cz y d1[a]!) d1 i (b-1):=by
    rw[<-ak];cases x with
    |zero=>rw[Sort.scanDown]
    |succ x=>rw[Sort.scanDown,Sb (by simp;omega)]
   refine Uq ?_;refine V8 [0,1,2,3,4,5,6,7,8,9,10,11,12,13,14,15,16] [8,12] [] ?_;apply af;simp only[go_sem,iv,ao];refine aw ?_;apply bq 3;simp only[go_sem,iv];exact ac x _ _ Uo (by simp only[go_sem,Tq,mZ]) ⟨Jz,Az,rfl,ap,aj,aS,a2,a5⟩
  ·have ao:decide (((i:Nat):Int)<=((x:Nat):Int))=true:=Uh Vi;obtain⟨x,rfl⟩:∃x',x=x'+1:=⟨x-1,Vi⟩;have p1:=jM (j:=x) Vi;rw[Sort.scanDown]at ak;obtain⟨g,cp,cur,ci,cj,ev,rfl,a0,ri,rj,li,lj,ki,kj,am⟩:=Ow.two aS (fun{I} c a h=>aW.len c a h) (fun{I J c a} h k=>aW.le h k) (i:=x+1) (j:=a) Vi Vi;rw[a6]at ev a0;simp only[Value.slice.injEq,Sc,Addr.mk.injEq,TY,SP]at ev;obtain⟨eg,ek⟩:=ev;subst eg;subst ek;refine Uq ?_;refine V8 [0,1,2,3,4,5,6,7,8,9,10,11,12,13,14,15,16] [8,12] [] ?_;apply af;simp only[go_sem,iv,ao];refine⟨Vi,?_⟩;refine P7 (l:=ci) (v:=.agg ci.toArray) rfl (cellsU ap (.tail _ (.head _)) (by simpa using ki)) (.inl ⟨by rw[li];exact bT,rfl⟩) ?_;apply af;simp only[go_sem,iv,ao];refine⟨Vi,?_⟩;refine P7 (l:=cj) (v:=.agg cj.toArray) rfl (cellsU ap (.tail _ (.head _)) (by simpa using kj)) (.inl ⟨by rw[lj];exact bT,rfl⟩) ?_;apply af;simp only[go_sem,iv,ao];refine i7 ap [0] [] [_] rfl gf rfl (cf Jz _ _ _ _ ri rj) fun v Jy qs a1 aa hq=>?_;obtain⟨rfl,z,rfl,hz⟩:=hq;simp only[Z3]at a1 |-;refine Ur ?_;refine aw ?_;cases hl:cz d1[x+1]! d1[a]! with
   |true=>
    rw[hl]at hz;rw[Sb (by simp[hl])]at ak;apply bq 3;simp only[go_sem,iv,hz,Ud];exact ac (x+1) _ _ Uo (by simp only[go_sem,Tq,mZ]) ⟨Jy,_,rfl,a1,Ui aj aa,br.le aS aa,a2,ak⟩
   |false=>
    rw[hl]at hz;rw[SI (by simp[hl];omega)]at ak;apply RG;simp only[go_sem,iv,hz,T7,p1];exact an x _ _ Vi Uo (by simp only[go_sem,Tq,mZ]) ⟨Jy,_,rfl,a1,Ui aj aa,br.le aS aa,Vi,ak⟩
 rintro j H ⟨I3,A3,rfl,bb,cb,c3,dx,c7⟩;simp only[mZ];have hP:Sort.partition cz d a b pivot=if i>j then (j,true,Sort.swp d1 j a)else ((Sort.partLoop cz a (i+1) (j-1) (Sort.swp d1 i j)).1,false,Sort.swp (Sort.partLoop cz a (i+1) (j-1) (Sort.swp d1 i j)).2 (Sort.partLoop cz a (i+1) (j-1) (Sort.swp d1 i j)).1 a):=by
  unfold Sort.partition;simp only[<-ed1,<-da,<-c7]
 have k3:=Ui cc cb;by_cases c1:i>j
 ·have ba:decide ((i:Int)>(j:Int))=true:=Uh Vi;rw[SI c1]at hP;rw[hP];apply RG;simp only[go_sem,iv,ba];obtain⟨g,cp,cur,ci,cj,ev,rfl,a0,ri,rj,li,lj,ki,kj,am⟩:=Ow.two c3 (fun{I} c a h=>aW.len c a h) (fun{I J c a} h k=>aW.le h k) (i:=j) (j:=a) Vi Vi;rw[a6]at ev a0;simp only[Value.slice.injEq,Sc,Addr.mk.injEq,TY,SP]at ev;obtain⟨eg,ek⟩:=ev;subst eg;subst ek;have mi:(j+1)*7<=d.size*7:=Tb _ Vi;have mj:(a+1)*7<=d.size*7:=Tb _ Vi;refine V8 [0,1,2,3,4,5,6,7,8,9,10,11,12,13,14,15] [7,11] [] ?_;refine Ur ?_;refine⟨Vi,?_⟩;refine P7 (l:=cj) (v:=.agg cj.toArray) rfl (cellsU bb (.tail _ (.head _)) (by simpa using kj)) (.inl ⟨by rw[lj];exact bT,rfl⟩) ?_;refine Ur ?_;refine⟨Vi,?_⟩;refine P7 (l:=ci) (v:=.agg ci.toArray) rfl (cellsU bb (.tail _ (.head _)) (by simpa using ki)) (.inl ⟨by rw[li];exact bT,rfl⟩) ?_;refine Ur ?_;refine⟨Vi,?_⟩;refine aH bb rfl rfl rfl rfl rfl (aM (aW.ones rj)) (by rw[lj];exact fx) (by rw[lj];omega) fun a3=>?_;refine Ur ?_;refine⟨Vi,?_⟩;refine aH a3 rfl rfl rfl rfl rfl (aM (aW.ones ri)) (by rw[li];exact fx) (by rw[li];simp[aJ];omega) fun cx=>?_;refine aw ?_;have b2:=am I3 (Uj _);have b3:(Sort.swp d1 j a).size=d.size:=(cH _ _ _).trans a6;refine Uq ?_;exact ai rfl cx (r:=[iv j,.bool true]) rfl k3 ⟨_,rfl,b2,rfl⟩
 have ba:decide ((i:Int)>(j:Int))=false:=Ug Vi;rw[Sb c1]at hP;rw[hP];clear hP;apply RG;simp only[go_sem,iv,ba];obtain⟨g,cp,cur,ci,cj,ev,rfl,a0,ri,rj,li,lj,ki,kj,am⟩:=Ow.two c3 (fun{I} c a h=>aW.len c a h) (fun{I J c a} h k=>aW.le h k) (i:=i) (j:=j) Vi Vi;rw[a6]at ev a0;simp only[Value.slice.injEq,Sc,Addr.mk.injEq,TY,SP]at ev;obtain⟨eg,ek⟩:=ev;subst eg;subst ek;have mi:(i+1)*7<=d.size*7:=Tb _ Vi;have mj:(j+1)*7<=d.size*7:=Tb _ Vi;refine V8 [0,1,2,3,4,5,6,7,8,9,10,11,12,13,14,15] [7,11] [] ?_;refine Ur ?_;refine⟨Vi,?_⟩;refine P7 (l:=cj) (v:=.agg cj.toArray) rfl (cellsU bb (.tail _ (.head _)) (by simpa using kj)) (.inl ⟨by rw[lj];exact bT,rfl⟩) ?_;refine Ur ?_;refine⟨Vi,?_⟩;refine P7 (l:=ci) (v:=.agg ci.toArray) rfl (cellsU bb (.tail _ (.head _)) (by simpa using ki)) (.inl ⟨by rw[li];exact bT,rfl⟩) ?_;refine Ur ?_;refine⟨Vi,?_⟩;refine aH bb rfl rfl rfl rfl rfl (aM (aW.ones rj)) (by rw[lj];exact fx) (by rw[lj];omega) fun a3=>?_;refine Ur ?_;refine⟨Vi,?_⟩;refine aH a3 rfl rfl rfl rfl rfl (aM (aW.ones ri)) (by rw[li];exact fx) (by rw[li];simp[aJ];omega) fun cx=>?_;refine aw ?_;have b2:=am I3 (Uj _);have b3:(Sort.swp d1 i j).size=d.size:=(cH _ _ _).trans a6;obtain⟨d4,ed4⟩:∃d4,d4=Sort.swp d1 i j:=⟨_,rfl⟩;rw[<-ed4]at b2 b3 |-;have w3:IntKind.i64.wrap ((i:Int)+1)=((i+1:Nat):Int):=by
  have e0:(i:Int)+1=((i+1:Nat):Int):=by omega
  rw[e0];exact wrap64 Vi
 have w4:IntKind.i64.wrap ((j:Int)-1)=((j-1:Nat):Int):=by rw[gd Vi];omega
 apply RG;simp only[go_sem,iv,w3,w4];apply cO (fun x=>x.2+3-x.1) (fun x=>mZ (.slice (some ⟨g0,0,none⟩) d.size vk) (iv a) (.func (.func f) fst cap) x) (fun x H=>∃I5 A5 d5,H=U [I5,A5]/\Dj [I5,A5]/\I3.le I5/\d5.size=d.size/\br I5 A5 (.slice (some ⟨g0,0,none⟩) d.size vk) d5.toList/\1<=x.1/\x.1<=x.2+2/\x.2<=b-1/\Sort.partLoop cz a x.1 x.2 d5=Sort.partLoop cz a (i+1) (j-1) d4) (fun x H=>∃I5 A5,H=U [I5,A5]/\Dj [I5,A5]/\I3.le I5/\(Sort.partLoop cz a (i+1) (j-1) d4).2.size=d.size/\br I5 A5 (.slice (some ⟨g0,0,none⟩) d.size vk) (Sort.partLoop cz a (i+1) (j-1) d4).2.toList/\x.2<=b-1/\x.2=(Sort.partLoop cz a (i+1) (j-1) d4).1) (i+1,j-1)
 ·exact Uo
 ·exact(by simp only[go_sem,Tq,mZ])
 ·exact⟨I3,_,d4,rfl,cx,Uj _,b3,b2,by simp only;omega,by simp only;omega,by simp only;omega,rfl⟩
 ·rintro⟨i5,j5⟩ H ⟨I5,A5,d5,rfl,d0,ca,bd,ea,dc,cn,c9,a4⟩ a7 a9;simp only at dc cn c9 a4;simp only[mZ];refine Uq ?_;apply cO (fun x=>j5+2-x) (fun x=>mZ (.slice (some ⟨g0,0,none⟩) d.size vk) (iv a) (.func (.func f) fst cap) (x,j5)) (fun x H=>∃Jz Az,H=U [Jz,Az]/\Dj [Jz,Az]/\I5.le Jz/\br Jz Az (.slice (some ⟨g0,0,none⟩) d.size vk) d5.toList/\i5<=x/\x<=j5+2/\Sort.scanUp (fun y=>cz y d5[a]!) d5 j5 x=Sort.scanUp (fun y=>cz y d5[a]!) d5 j5 i5) (fun x H=>∃Jz Az,H=U [Jz,Az]/\Dj [Jz,Az]/\I5.le Jz/\br Jz Az (.slice (some ⟨g0,0,none⟩) d.size vk) d5.toList/\i5<=x/\x<=j5+2/\x=Sort.scanUp (fun y=>cz y d5[a]!) d5 j5 i5) i5
  ·exact Uo
  ·exact(by simp only[go_sem,Tq,mZ])
  ·exact⟨I5,_,rfl,‹_›,Uj _,‹_›,R7 _,Vi,rfl⟩
  ·rintro x H ⟨Jz,Az,rfl,ap,aj,aS,bc,a2,ak⟩ an ac;simp only[mZ];rcases Sw j5 x with cs|cl
   ·have ao:decide (((x:Nat):Int)<=((j5:Nat):Int))=false:=Ug Vi;rw[Sort.scanUp,Sb (by simp;omega)]at ak;have a5:=ak;refine Uq ?_;refine V8 [0,1,2,3,4,5,6,7,8,9,10,11,12,13,14,15] [8,12] [] ?_;apply af;simp only[go_sem,iv,ao];refine aw ?_;apply bq 3;simp only[go_sem,iv];exact ac x _ _ Uo (by simp only[go_sem,Tq,mZ]) ⟨Jz,Az,rfl,ap,aj,aS,bc,a2,a5⟩
   ·have ao:decide (((x:Nat):Int)<=((j5:Nat):Int))=true:=Uh Vi;rw[Sort.scanUp]at ak;have p1:IntKind.i64.wrap ((x:Int)+1)=((x+1:Nat):Int):=by
     have e0:(x:Int)+1=((x+1:Nat):Int):=by omega
     rw[e0];exact wrap64 Vi
    obtain⟨g,cp,cur,ci,cj,ev,rfl,a0,ri,rj,li,lj,ki,kj,am⟩:=Ow.two aS (fun{I} c a h=>aW.len c a h) (fun{I J c a} h k=>aW.le h k) (i:=x) (j:=a) Vi Vi;rw[bd]at ev a0;simp only[Value.slice.injEq,Sc,Addr.mk.injEq,TY,SP]at ev;obtain⟨eg,ek⟩:=ev;subst eg;subst ek;refine Uq ?_;refine V8 [0,1,2,3,4,5,6,7,8,9,10,11,12,13,14,15] [8,12] [] ?_;apply af;simp only[go_sem,iv,ao];refine⟨Vi,?_⟩;refine P7 (l:=ci) (v:=.agg ci.toArray) rfl (cellsU ap (.tail _ (.head _)) (by simpa using ki)) (.inl ⟨by rw[li];exact bT,rfl⟩) ?_;apply af;simp only[go_sem,iv,ao];refine⟨Vi,?_⟩;refine P7 (l:=cj) (v:=.agg cj.toArray) rfl (cellsU ap (.tail _ (.head _)) (by simpa using kj)) (.inl ⟨by rw[lj];exact bT,rfl⟩) ?_;apply af;simp only[go_sem,iv,ao];refine i7 ap [0] [] [_] rfl gf rfl (cf Jz _ _ _ _ ri rj) fun v Jy qs a1 aa hq=>?_;obtain⟨rfl,z,rfl,hz⟩:=hq;simp only[Z3]at a1 |-;refine Ur ?_;refine aw ?_;cases hl:cz d5[x]! d5[a]! with
    |true=>
     rw[hl]at hz;rw[SI (by simp[hl];omega)]at ak;apply RG;simp only[go_sem,iv,hz,Ud,p1];exact an (x+1) _ _ Vi Uo (by simp only[go_sem,Tq,mZ]) ⟨Jy,_,rfl,a1,Ui aj aa,br.le aS aa,Vi,Vi,ak⟩
    |false=>
     rw[hl]at hz;rw[Sb (by simp[hl])]at ak;apply bq 3;simp only[go_sem,iv,hz,T7];exact ac (x) _ _ Uo (by simp only[go_sem,Tq,mZ]) ⟨Jy,_,rfl,a1,Ui aj aa,br.le aS aa,bc,a2,ak⟩
  rintro i6 H ⟨I6,A6,rfl,dT,b6,d7,dy,hi6b,cr⟩;simp only[mZ];refine Uq ?_;apply cO (fun x=>x) (fun x=>mZ (.slice (some ⟨g0,0,none⟩) d.size vk) (iv a) (.func (.func f) fst cap) (i6,x)) (fun x H=>∃Jz Az,H=U [Jz,Az]/\Dj [Jz,Az]/\I6.le Jz/\br Jz Az (.slice (some ⟨g0,0,none⟩) d.size vk) d5.toList/\x<=j5/\Sort.scanDown (fun y=>!cz y d5[a]!) d5 i6 x=Sort.scanDown (fun y=>!cz y d5[a]!) d5 i6 j5) (fun x H=>∃Jz Az,H=U [Jz,Az]/\Dj [Jz,Az]/\I6.le Jz/\br Jz Az (.slice (some ⟨g0,0,none⟩) d.size vk) d5.toList/\x<=j5/\x=Sort.scanDown (fun y=>!cz y d5[a]!) d5 i6 j5) j5
  ·exact Uo
  ·exact(by simp only[go_sem,Tq,mZ])
  ·exact⟨I6,_,rfl,‹_›,Uj _,‹_›,R7 _,rfl⟩
  ·rintro x H ⟨Jz,Az,rfl,ap,aj,aS,a2,ak⟩ an ac;simp only[mZ];rcases Sw x i6 with cs|cl
   ·have ao:decide (((i6:Nat):Int)<=((x:Nat):Int))=false:=Ug Vi;have a5:x=Sort.scanDown (fun y=>!cz y d5[a]!) d5 i6 j5:=by
     rw[<-ak];cases x with
     |zero=>rw[Sort.scanDown]
     |succ x=>rw[Sort.scanDown,Sb (by simp;omega)]
    refine Uq ?_;refine V8 [0,1,2,3,4,5,6,7,8,9,10,11,12,13,14,15,16] [8,12] [] ?_;apply af;simp only[go_sem,iv,ao];refine aw ?_;apply bq 3;simp only[go_sem,iv];exact ac x _ _ Uo (by simp only[go_sem,Tq,mZ]) ⟨Jz,Az,rfl,ap,aj,aS,a2,a5⟩
   ·have ao:decide (((i6:Nat):Int)<=((x:Nat):Int))=true:=Uh Vi;obtain⟨x,rfl⟩:∃x',x=x'+1:=⟨x-1,Vi⟩;have p1:=jM (j:=x) Vi;rw[Sort.scanDown]at ak;obtain⟨g,cp,cur,ci,cj,ev,rfl,a0,ri,rj,li,lj,ki,kj,am⟩:=Ow.two aS (fun{I} c a h=>aW.len c a h) (fun{I J c a} h k=>aW.le h k) (i:=x+1) (j:=a) Vi Vi;rw[bd]at ev a0;simp only[Value.slice.injEq,Sc,Addr.mk.injEq,TY,SP]at ev;obtain⟨eg,ek⟩:=ev;subst eg;subst ek;refine Uq ?_;refine V8 [0,1,2,3,4,5,6,7,8,9,10,11,12,13,14,15,16] [8,12] [] ?_;apply af;simp only[go_sem,iv,ao];refine⟨Vi,?_⟩;refine P7 (l:=ci) (v:=.agg ci.toArray) rfl (cellsU ap (.tail _ (.head _)) (by simpa using ki)) (.inl ⟨by rw[li];exact bT,rfl⟩) ?_;apply af;simp only[go_sem,iv,ao];refine⟨Vi,?_⟩;refine P7 (l:=cj) (v:=.agg cj.toArray) rfl (cellsU ap (.tail _ (.head _)) (by simpa using kj)) (.inl ⟨by rw[lj];exact bT,rfl⟩) ?_;apply af;simp only[go_sem,iv,ao];refine i7 ap [0] [] [_] rfl gf rfl (cf Jz _ _ _ _ ri rj) fun v Jy qs a1 aa hq=>?_;obtain⟨rfl,z,rfl,hz⟩:=hq;simp only[Z3]at a1 |-;refine Ur ?_;refine aw ?_;cases hl:cz d5[x+1]! d5[a]! with
    |true=>
     rw[hl]at hz;rw[Sb (by simp[hl])]at ak;apply bq 3;simp only[go_sem,iv,hz,Ud];exact ac (x+1) _ _ Uo (by simp only[go_sem,Tq,mZ]) ⟨Jy,_,rfl,a1,Ui aj aa,br.le aS aa,a2,ak⟩
    |false=>
     rw[hl]at hz;rw[SI (by simp[hl];omega)]at ak;apply RG;simp only[go_sem,iv,hz,T7,p1];exact an x _ _ Vi Uo (by simp only[go_sem,Tq,mZ]) ⟨Jy,_,rfl,a1,Ui aj aa,br.le aS aa,Vi,ak⟩
  rintro j7 H ⟨I7,A7,rfl,b1,b5,c2,dw,cm⟩;simp only[mZ];rw[Sort.partLoop_eq,<-cr,<-cm]at a4;have cB:=Ui ca (Ui b6 b5);by_cases b0:i6>j7
  ·have ba:decide ((i6:Int)>(j7:Int))=true:=Uh Vi;rw[SI b0]at a4;apply bq 8;simp only[go_sem,iv,ba];exact a9 (i6,j7) _ _ Uo (by simp only[go_sem,Tq,mZ]) ⟨I7,A7,rfl,b1,cB,by rw[<-a4];exact bd,by rw[<-a4];exact c2,by simp only;omega,by rw[<-a4]⟩
  have ba:decide ((i6:Int)>(j7:Int))=false:=Ug Vi;rw[Sb b0]at a4;apply RG;simp only[go_sem,iv,ba];obtain⟨g,cp,cur,ci,cj,ev,rfl,a0,ri,rj,li,lj,ki,kj,am⟩:=Ow.two c2 (fun{I} c a h=>aW.len c a h) (fun{I J c a} h k=>aW.le h k) (i:=i6) (j:=j7) Vi Vi;rw[bd]at ev a0;simp only[Value.slice.injEq,Sc,Addr.mk.injEq,TY,SP]at ev;obtain⟨eg,ek⟩:=ev;subst eg;subst ek;have mi:(i6+1)*7<=d.size*7:=Tb _ Vi;have mj:(j7+1)*7<=d.size*7:=Tb _ Vi;refine V8 [0,1,2,3,4,5,6,7,8,9,10,11,12,13,14,15] [7,11] [] ?_;refine Ur ?_;refine⟨Vi,?_⟩;refine P7 (l:=cj) (v:=.agg cj.toArray) rfl (cellsU b1 (.tail _ (.head _)) (by simpa using kj)) (.inl ⟨by rw[lj];exact bT,rfl⟩) ?_;refine Ur ?_;refine⟨Vi,?_⟩;refine P7 (l:=ci) (v:=.agg ci.toArray) rfl (cellsU b1 (.tail _ (.head _)) (by simpa using ki)) (.inl ⟨by rw[li];exact bT,rfl⟩) ?_;refine Ur ?_;refine⟨Vi,?_⟩;refine aH b1 rfl rfl rfl rfl rfl (aM (aW.ones rj)) (by rw[lj];exact fx) (by rw[lj];omega) fun a3=>?_;refine Ur ?_;refine⟨Vi,?_⟩;refine aH a3 rfl rfl rfl rfl rfl (aM (aW.ones ri)) (by rw[li];exact fx) (by rw[li];simp[aJ];omega) fun dd=>?_;refine aw ?_;have dk:=am I7 (Uj _);have c5:(Sort.swp d5 i6 j7).size=d.size:=(cH _ _ _).trans bd;have w8:IntKind.i64.wrap ((i6:Int)+1)=((i6+1:Nat):Int):=by
   have e0:(i6:Int)+1=((i6+1:Nat):Int):=by omega
   rw[e0];exact wrap64 Vi
  have w9:IntKind.i64.wrap ((j7:Int)-1)=((j7-1:Nat):Int):=by rw[gd Vi];omega
  apply RG;simp only[go_sem,iv,w8,w9];exact a7 (i6+1,j7-1) _ _ V9 Uo (by simp only[go_sem,Tq,mZ]) ⟨I7,_,_,rfl,dd,cB,c5,dk,by simp only;omega,by simp only;omega,by simp only;omega,a4⟩
 rintro⟨i9,j9⟩ H ⟨I9,A9,rfl,ct,b4,c0,dj,c8,bx⟩;simp only at c8 bx;simp only[mZ];rw[<-bx];generalize (Sort.partLoop cz a (i+1) (j-1) d4).2=d9 at *;refine Uq ?_;obtain⟨g,cp,cur,ci,cj,ev,rfl,a0,ri,rj,li,lj,ki,kj,am⟩:=Ow.two dj (fun{I} c a h=>aW.len c a h) (fun{I J c a} h k=>aW.le h k) (i:=j9) (j:=a) Vi Vi;rw[c0]at ev a0;simp only[Value.slice.injEq,Sc,Addr.mk.injEq,TY,SP]at ev;obtain⟨eg,ek⟩:=ev;subst eg;subst ek;have mi:(j9+1)*7<=d.size*7:=Tb _ Vi;have mj:(a+1)*7<=d.size*7:=Tb _ Vi;refine V8 [0,1,2,3,4,5,6,7,8,9,10,11,12,13,14,15] [7,11] [] ?_;refine Ur ?_;refine⟨Vi,?_⟩;refine P7 (l:=cj) (v:=.agg cj.toArray) rfl (cellsU ct (.tail _ (.head _)) (by simpa using kj)) (.inl ⟨by rw[lj];exact bT,rfl⟩) ?_;refine Ur ?_;refine⟨Vi,?_⟩;refine P7 (l:=ci) (v:=.agg ci.toArray) rfl (cellsU ct (.tail _ (.head _)) (by simpa using ki)) (.inl ⟨by rw[li];exact bT,rfl⟩) ?_;refine Ur ?_;refine⟨Vi,?_⟩;refine aH ct rfl rfl rfl rfl rfl (aM (aW.ones rj)) (by rw[lj];exact fx) (by rw[lj];omega) fun a3=>?_;refine Ur ?_;refine⟨Vi,?_⟩;refine aH a3 rfl rfl rfl rfl rfl (aM (aW.ones ri)) (by rw[li];exact fx) (by rw[li];simp[aJ];omega) fun cy=>?_;refine aw ?_;have cA:=am I9 (Uj _);have c6:(Sort.swp d9 j9 a).size=d.size:=(cH _ _ _).trans c0;refine Uq ?_;exact ai rfl cy (r:=[iv j9,.bool false]) rfl (Ui k3 b4) ⟨_,rfl,cA,rfl⟩
open Go.Sort (PermIn SortedIn SWO permIn_refl permIn_trans permIn_mono swp_permIn)
theorem rH:aP Tryz.prog 284:=⟨_,Tryz.func284,rfl,rfl⟩
def An(v va vc:Value)(x:Nat×Nat):St:=⟨dn 220 [(0,.v v),(1,.v va),(4,.v vc),(10,.v (iv x.1)),(11,.v (iv x.2))],[]⟩
def H8(v vi:Value)(k:Nat):St:=⟨dn 220 [(0,.v v),(10,.v vi),(13,.v (iv k))],[]⟩
def Ba(v vm vc:Value)(x:Nat×Nat):St:=⟨dn 220 [(0,.v v),(2,.v vm),(4,.v vc),(14,.v (iv x.1)),(15,.v (iv x.2))],[]⟩
def J1(v vi:Value)(k:Nat):St:=⟨dn 220 [(0,.v v),(14,.v vi),(17,.v (iv k))],[]⟩
def pZ(v va vm vb vc vd vn vp:Value)(x:Nat×Nat):St:=⟨dn 220 [(0,.v v),(1,.v va),(2,.v vm),(3,.v vb),(4,.v vc),(18,.v vd),(19,.v vn),(20,.v (iv x.1)),(21,.v (iv x.2)),(22,.v vp)],[]⟩
def CY(v:Value)(d:Array bX)(a b:Nat):Value->PH->List PH->Prop:=fun _ I2 qs=>∃A2 e,qs=[A2]/\dl I2 A2 v e.toList/\PermIn a b d e/\SortedIn g9 a b e
def E8(v va vb vc vd vs ve:Value):St:=⟨dn 220 [(0,.v v),(1,.v va),(3,.v vb),(4,.v vc),(18,.v vd),(20,.v vs),(24,.v ve)],[]⟩
def EX(v vb vc vd ve:Value):St:=⟨dn 220 [(0,.v v),(3,.v vb),(4,.v vc),(18,.v vd),(24,.v ve)],[]⟩
theorem sY{C:Cx}{k:List Item}(σ0:St)(E:PH->Prop){P:Prop}(h1:(∀H,E H->RC C (.st k) σ0 H)->P)(h:∀H,E H->RC C (.st k) σ0 H):P:=h1 h
theorem xN.triv{α:Type}[Inhabited α]{m i j:Nat}{d:Array α}(h:i=0\/j=0)(hi:i<=m):xN m i j d d:=fun k=>by
 by_cases h1:m-i<=k/\k<m-i+j
 ·rw[SI h1];congr 1;omega
 ·rw[Sb h1];by_cases h2:m-i+j<=k/\k<m+j
  ·rw[SI h2];congr 1;omega
  ·rw[Sb h2]
theorem L9{I A:PH}{v vc:Value}{d:Array bX}{a m b:Nat}(hA:dl I A v d.toList)(hc:jT dg g9 vc)(b6:m=a+1)(ca:m<b)(hb:b<=d.size)(hn:d.size<=aF)(hs:SortedIn g9 m b d):
  aO Tryz.prog 284 #[v,iv a,iv m,iv b,vc] I [A] (CY v d a b):=by
 intro hd;unfold aF at hn;obtain⟨f,fst,cap,rfl,gf,cf⟩:=id hc;obtain⟨g0,vk,rfl⟩:=Ow.addr hA Vi;refine ir 220 Tryz.func284 fun w0=>?_
 try simp only[iv]
 have w1:IntKind.i64.wrap ((m:Int)-(a:Int))=1:=by
  rw[bQ Vi Vi];omega
 have q1:((1:Int) == 1)=true:=rfl;apply RG;simp only[go_sem,w1,q1];apply cO (fun x=>x.2-x.1) (fun x=>An (.slice (some ⟨g0,0,none⟩) d.size vk) (iv a) (.func (.func f) fst cap) x) (fun x H=>∃I2 A2,H=U [I2,A2]/\Dj [I2,A2]/\I.le I2/\dl I2 A2 (.slice (some ⟨g0,0,none⟩) d.size vk) d.toList/\m<=x.1/\x.1<=x.2/\x.2<=b/\(x.1=m\/g9 d[x.1-1]! d[a]! = true)/\(x.2=b\/g9 d[x.2]! d[a]! = false)) (fun x H=>∃I2 A2,H=U [I2,A2]/\Dj [I2,A2]/\I.le I2/\dl I2 A2 (.slice (some ⟨g0,0,none⟩) d.size vk) d.toList/\m<=x.1/\x.1<=b/\(x.1=m\/g9 d[x.1-1]! d[a]! = true)/\(x.1=b\/g9 d[x.1]! d[a]! = false)) (m,b)
 ·exact Uo
 ·exact(by simp only[go_sem,Tq,An])
 ·exact⟨I,A,rfl,hd,Uj _,hA,R7 _,by simp only;omega,R7 _,.inl rfl,.inl rfl⟩
 ·rintro⟨i,j⟩ H ⟨I2,A2,rfl,ao,aa,ap,hi,b2,hj,hl,hr⟩ ak a0;simp only at hi b2 hj hl hr;simp only[An];rcases Sw i j with b0|b3
  ·have ba:decide ((i:Int)<(j:Int))=true:=Uh Vi;have a1:(i:Int)+(j:Int)=((i+j:Nat):Int):=by omega
   have a2:=wrap64 (n:=i+j) Vi;have a3:=mE (n:=i+j) Vi;have a4:qj .u64 (((i+j:Nat)):Int) 1=(((i+j) / 2:Nat):Int):=by
    have:=yL (a:=i+j) (i:=1) Vi;rw[TO]at this;exact this
   obtain⟨h,eh⟩:∃h,h=(i+j) / 2:=⟨_,rfl⟩;rw[<-eh]at a4;have a5:=wrap64 (n:=h) Vi;apply RG;simp only[go_sem,iv,ba,a1,a2,a3,a4,a5];obtain⟨g,cp,cur,ci,cj,ev,rfl,a7,ri,rj,li,lj,ki,kj,aS⟩:=Ow.two ap (fun{I} c a h=>dg.len c a h) (fun{I J c a} h k=>dg.le h k) (i:=h) (j:=a) Vi Vi;rw[(show d.size=d.size from rfl)]at ev a7;simp only[Value.slice.injEq,Sc,Addr.mk.injEq,TY,SP]at ev;obtain⟨eg,ek⟩:=ev;subst eg;subst ek;refine V8 [0,1,2,3,4,5,6,7,8,9,10] [4,8] [] ?_;refine Ur ?_;refine⟨Vi,?_⟩;refine P7 (l:=ci) (v:=.agg ci.toArray) rfl (cellsU ao (.tail _ (.head _)) (by simpa using ki)) (.inl ⟨by rw[li];exact iQ,rfl⟩) ?_;refine Ur ?_;refine⟨Vi,?_⟩;refine P7 (l:=cj) (v:=.agg cj.toArray) rfl (cellsU ao (.tail _ (.head _)) (by simpa using kj)) (.inl ⟨by rw[lj];exact iQ,rfl⟩) ?_;refine Ur ?_;refine i7 ao [0] [] [_] rfl gf rfl (cf I2 _ _ _ _ ri rj) fun v I3 qs am aj hq=>?_;obtain⟨rfl,z,rfl,hz⟩:=hq;simp only[Z3]at am |-;refine Ur ?_;refine aw ?_;cases ac:g9 d[h]! d[a]! with
   |true=>
    rw[ac]at hz;have w3:IntKind.i64.wrap ((h:Int)+1)=((h+1:Nat):Int):=by
     have e0:(h:Int)+1=((h+1:Nat):Int):=by omega
     rw[e0];exact wrap64 Vi
    apply RG;simp only[go_sem,iv,hz,w3];exact ak (h+1,j) _ _ V9 Uo (by simp only[go_sem,Tq,An]) ⟨I3,_,rfl,am,Ui aa aj,dl.le ap aj,by simp only;omega,by simp only;omega,hj,.inr ac,hr⟩
   |false=>
    rw[ac]at hz;apply RG;simp only[go_sem,iv,hz];exact ak (i,h) _ _ V9 Uo (by simp only[go_sem,Tq,An]) ⟨I3,_,rfl,am,Ui aa aj,dl.le ap aj,hi,by simp only;omega,by simp only;omega,hl,.inr ac⟩
  ·have ba:decide ((i:Int)<(j:Int))=false:=Ug Vi;have:i=j:=by omega
   subst this;apply bq 9;simp only[go_sem,iv,ba];exact a0 (i,i) _ _ Uo (by simp only[go_sem,Tq,An]) ⟨I2,A2,rfl,ao,aa,ap,hi,hj,hl,hr⟩
 rintro⟨i,j⟩ H ⟨I2,A2,rfl,ao,aa,ap,hi,bb,hl,hr⟩;simp only at hi bb hl hr;simp only[An];refine Uq ?_;have w4:IntKind.i64.wrap ((i:Int)-1)=((i-1:Nat):Int):=by rw[gd Vi];omega
 refine aB (fun k=>i-k) (H8 (.slice (some ⟨g0,0,none⟩) d.size vk) (iv i)) (fun k H=>∃A3 e,H=U [I2,A3]/\Dj [I2,A3]/\a<=k/\k<=i-1/\e.size=d.size/\dl I2 A3 (.slice (some ⟨g0,0,none⟩) d.size vk) e.toList/\Kf a k d e/\PermIn a b d e) a Uo (by simp only[go_sem,Tq,H8]) ?_ ?_
 ·exact⟨A2,d,rfl,ao,R7 _,Vi,rfl,ap,Kf.zero _ _,permIn_refl _ _ _⟩
 rintro k H ⟨A3,e,rfl,am,b1,cb,a6,bx,bd,bc⟩ an;simp only[H8];rcases Sw k (i-1)with b0|b3
 ·have a9:decide ((k:Int)<((i-1:Nat):Int))=true:=Uh Vi;have w5:IntKind.i64.wrap ((k:Int)+1)=((k+1:Nat):Int):=by
   have e0:(k:Int)+1=((k+1:Nat):Int):=by omega
   rw[e0];exact wrap64 Vi
  apply RG;simp only[go_sem,iv,w4,a9];obtain⟨g,cp,cur,ci,cj,ev,rfl,a7,ri,rj,li,lj,ki,kj,aS⟩:=Ow.two bx (fun{I} c a h=>dg.len c a h) (fun{I J c a} h k=>dg.le h k) (i:=k) (j:=k+1) Vi Vi;rw[a6]at ev a7;simp only[Value.slice.injEq,Sc,Addr.mk.injEq,TY,SP]at ev;obtain⟨eg,ek⟩:=ev;subst eg;subst ek;have mi:(k+1)*4<=d.size*4:=Tb _ Vi;have mj:((k+1)+1)*4<=d.size*4:=Tb _ Vi;refine V8 [0,1,2,3,4,5,6,7,8,9,10,11,12,13,14,15,16,17] [9,13] [] ?_;apply af;simp only[go_sem,iv,w5];refine⟨Vi,?_⟩;refine P7 (l:=cj) (v:=.agg cj.toArray) rfl (cellsU am (.tail _ (.head _)) (by simpa using kj)) (.inl ⟨by rw[lj];exact iQ,rfl⟩) ?_;apply af;simp only[go_sem,iv,w5];refine⟨Vi,?_⟩;refine P7 (l:=ci) (v:=.agg ci.toArray) rfl (cellsU am (.tail _ (.head _)) (by simpa using ki)) (.inl ⟨by rw[li];exact iQ,rfl⟩) ?_;apply af;simp only[go_sem,iv,w5];refine⟨Vi,?_⟩;refine aH am rfl rfl rfl rfl rfl (aM (dg.ones rj)) (by rw[lj];exact um) (by rw[lj];omega) fun b4=>?_;apply af;simp only[go_sem,iv,w5];refine⟨Vi,?_⟩;refine aH b4 rfl rfl rfl rfl rfl (aM (dg.ones ri)) (by rw[li];exact um) (by rw[li];simp[aJ];omega) fun b5=>?_;refine aw ?_;apply RG;simp only[go_sem,iv,w5];exact an (k+1) _ _ Vi Uo (by simp only[go_sem,Tq,H8]) ⟨_,_,rfl,b5,Vi,Vi,by rw[cH];exact a6,aS I2 (Uj _),bd.step a6 b1 Vi,permIn_trans _ _ _ a b bc (swp_permIn _ a b _ _ Vi Vi Vi Vi Vi)⟩
 ·have a9:decide ((k:Int)<((i-1:Nat):Int))=false:=Ug Vi;have:k=i-1:=by omega
  subst this;apply RG;simp only[go_sem,iv,w4,a9];exact ai rfl am (r:=[]) rfl aa ⟨A3,e,rfl,bx,bc,La rK b6 hs hi bb hl hr bd⟩
theorem Mm{I A:PH}{v vc:Value}{d:Array bX}{a m b:Nat}(hA:dl I A v d.toList)(hc:jT dg g9 vc)(cb:a+1<m)(b0:b=m+1)(hb:b<=d.size)(hn:d.size<=aF)(hs:SortedIn g9 a m d):
  aO Tryz.prog 284 #[v,iv a,iv m,iv b,vc] I [A] (CY v d a b):=by
 intro hd;unfold aF at hn;obtain⟨f,fst,cap,rfl,gf,cf⟩:=id hc;obtain⟨g0,vk,rfl⟩:=Ow.addr hA Vi;refine ir 220 Tryz.func284 fun w0=>?_
 try simp only[iv]
 have w1:IntKind.i64.wrap ((m:Int)-(a:Int))=((m-a:Nat):Int):=by
  rw[bQ Vi Vi];omega
 have w2:IntKind.i64.wrap ((b:Int)-(m:Int))=1:=by
  rw[bQ Vi Vi];omega
 have q1:(((m-a:Nat):Int) == 1)=false:=by rw[Uf];omega
 have q2:((1:Int) == 1)=true:=rfl;apply RG;simp only[go_sem,w1,w2,q1,q2];apply cO (fun x=>x.2-x.1) (fun x=>Ba (.slice (some ⟨g0,0,none⟩) d.size vk) (iv m) (.func (.func f) fst cap) x) (fun x H=>∃I2 A2,H=U [I2,A2]/\Dj [I2,A2]/\I.le I2/\dl I2 A2 (.slice (some ⟨g0,0,none⟩) d.size vk) d.toList/\a<=x.1/\x.1<=x.2/\x.2<=m/\(x.1=a\/g9 d[m]! d[x.1-1]! = false)/\(x.2=m\/g9 d[m]! d[x.2]! = true)) (fun x H=>∃I2 A2,H=U [I2,A2]/\Dj [I2,A2]/\I.le I2/\dl I2 A2 (.slice (some ⟨g0,0,none⟩) d.size vk) d.toList/\a<=x.1/\x.1<=m/\(x.1=a\/g9 d[m]! d[x.1-1]! = false)/\(x.1=m\/g9 d[m]! d[x.1]! = true)) (a,m)
 ·exact Uo
 ·exact(by simp only[go_sem,Tq,Ba])
 ·exact⟨I,A,rfl,hd,Uj _,hA,R7 _,by simp only;omega,R7 _,.inl rfl,.inl rfl⟩
 ·rintro⟨i,j⟩ H ⟨I2,A2,rfl,ao,aa,ap,hi,b3,hj,hl,hr⟩ ak a0;simp only at hi b3 hj hl hr;simp only[Ba];rcases Sw i j with b1|b4
  ·have bb:decide ((i:Int)<(j:Int))=true:=Uh Vi;have a1:(i:Int)+(j:Int)=((i+j:Nat):Int):=by omega
   have a2:=wrap64 (n:=i+j) Vi;have a3:=mE (n:=i+j) Vi;have a4:qj .u64 (((i+j:Nat)):Int) 1=(((i+j) / 2:Nat):Int):=by
    have:=yL (a:=i+j) (i:=1) Vi;rw[TO]at this;exact this
   obtain⟨h,eh⟩:∃h,h=(i+j) / 2:=⟨_,rfl⟩;rw[<-eh]at a4;have a5:=wrap64 (n:=h) Vi;apply RG;simp only[go_sem,iv,bb,a1,a2,a3,a4,a5];obtain⟨g,cp,cur,ci,cj,ev,rfl,a9,ri,rj,li,lj,ki,kj,aS⟩:=Ow.two ap (fun{I} c a h=>dg.len c a h) (fun{I J c a} h k=>dg.le h k) (i:=m) (j:=h) Vi Vi;rw[(show d.size=d.size from rfl)]at ev a9;simp only[Value.slice.injEq,Sc,Addr.mk.injEq,TY,SP]at ev;obtain⟨eg,ek⟩:=ev;subst eg;subst ek;refine V8 [0,1,2,3,4,5,6,7,8,9,10,11] [4,8] [] ?_;refine Ur ?_;refine⟨Vi,?_⟩;refine P7 (l:=ci) (v:=.agg ci.toArray) rfl (cellsU ao (.tail _ (.head _)) (by simpa using ki)) (.inl ⟨by rw[li];exact iQ,rfl⟩) ?_;refine Ur ?_;refine⟨Vi,?_⟩;refine P7 (l:=cj) (v:=.agg cj.toArray) rfl (cellsU ao (.tail _ (.head _)) (by simpa using kj)) (.inl ⟨by rw[lj];exact iQ,rfl⟩) ?_;refine Ur ?_;refine i7 ao [0] [] [_] rfl gf rfl (cf I2 _ _ _ _ ri rj) fun v I3 qs am aj hq=>?_;obtain⟨rfl,z,rfl,hz⟩:=hq;simp only[Z3]at am |-;refine Ur ?_;refine aw ?_;cases ac:g9 d[m]! d[h]! with
   |false=>
    rw[ac]at hz;have w3:IntKind.i64.wrap ((h:Int)+1)=((h+1:Nat):Int):=by
     have e0:(h:Int)+1=((h+1:Nat):Int):=by omega
     rw[e0];exact wrap64 Vi
    apply RG;simp only[go_sem,iv,hz,T7,w3];exact ak (h+1,j) _ _ V9 Uo (by simp only[go_sem,Tq,Ba]) ⟨I3,_,rfl,am,Ui aa aj,dl.le ap aj,by simp only;omega,by simp only;omega,hj,.inr ac,hr⟩
   |true=>
    rw[ac]at hz;apply RG;simp only[go_sem,iv,hz,Ud];exact ak (i,h) _ _ V9 Uo (by simp only[go_sem,Tq,Ba]) ⟨I3,_,rfl,am,Ui aa aj,dl.le ap aj,hi,by simp only;omega,by simp only;omega,hl,.inr ac⟩
  ·have bb:decide ((i:Int)<(j:Int))=false:=Ug Vi;have:i=j:=by omega
   subst this;apply bq 9;simp only[go_sem,iv,bb];exact a0 (i,i) _ _ Uo (by simp only[go_sem,Tq,Ba]) ⟨I2,A2,rfl,ao,aa,ap,hi,hj,hl,hr⟩
 rintro⟨i,j⟩ H ⟨I2,A2,rfl,ao,aa,ap,hi,a7,hl,hr⟩;simp only at hi a7 hl hr;simp only[Ba];refine Uq ?_;refine aB (fun k=>k) (J1 (.slice (some ⟨g0,0,none⟩) d.size vk) (iv i)) (fun k H=>∃A3 e,H=U [I2,A3]/\Dj [I2,A3]/\i<=k/\k<=m/\e.size=d.size/\dl I2 A3 (.slice (some ⟨g0,0,none⟩) d.size vk) e.toList/\KZ m k d e/\PermIn a b d e) m Uo (by simp only[go_sem,Tq,J1]) ?_ ?_
 ·exact⟨A2,d,rfl,ao,a7,R7 _,rfl,ap,KZ.zero _ _,permIn_refl _ _ _⟩
 rintro k H ⟨A3,e,rfl,am,ca,b2,a6,bx,bd,bc⟩ an;simp only[J1];rcases Sw i k with b1|b4
 ·obtain⟨k,rfl⟩:∃k',k=k'+1:=⟨k-1,Vi⟩;have ba:decide (((k+1:Nat):Int)>(i:Int))=true:=Uh Vi;have w5:=jM (j:=k) Vi;apply RG;simp only[go_sem,iv,ba];obtain⟨g,cp,cur,ci,cj,ev,rfl,a9,ri,rj,li,lj,ki,kj,aS⟩:=Ow.two bx (fun{I} c a h=>dg.len c a h) (fun{I J c a} h k=>dg.le h k) (i:=k+1) (j:=k) Vi Vi;rw[a6]at ev a9;simp only[Value.slice.injEq,Sc,Addr.mk.injEq,TY,SP]at ev;obtain⟨eg,ek⟩:=ev;subst eg;subst ek;have mi:((k+1)+1)*4<=d.size*4:=Tb _ Vi;have mj:(k+1)*4<=d.size*4:=Tb _ Vi;refine V8 [0,1,2,3,4,5,6,7,8,9,10,11,12,13,14,15,16,17] [9,13] [] ?_;apply af;simp only[go_sem,iv,w5];refine⟨Vi,?_⟩;refine P7 (l:=cj) (v:=.agg cj.toArray) rfl (cellsU am (.tail _ (.head _)) (by simpa using kj)) (.inl ⟨by rw[lj];exact iQ,rfl⟩) ?_;apply af;simp only[go_sem,iv,w5];refine⟨Vi,?_⟩;refine P7 (l:=ci) (v:=.agg ci.toArray) rfl (cellsU am (.tail _ (.head _)) (by simpa using ki)) (.inl ⟨by rw[li];exact iQ,rfl⟩) ?_;apply af;simp only[go_sem,iv,w5];refine⟨Vi,?_⟩;refine aH am rfl rfl rfl rfl rfl (aM (dg.ones rj)) (by rw[lj];exact um) (by rw[lj];omega) fun b5=>?_;apply af;simp only[go_sem,iv,w5];refine⟨Vi,?_⟩;refine aH b5 rfl rfl rfl rfl rfl (aM (dg.ones ri)) (by rw[li];exact um) (by rw[li];simp[aJ];omega) fun b6=>?_;refine aw ?_;apply RG;simp only[go_sem,iv,w5];exact an k _ _ Vi Uo (by simp only[go_sem,Tq,J1]) ⟨_,_,rfl,b6,Vi,Vi,by rw[cH];exact a6,aS I2 (Uj _),bd.step a6 b2 Vi,permIn_trans _ _ _ a b bc (swp_permIn _ a b _ _ Vi Vi Vi Vi Vi)⟩
 ·have ba:decide ((k:Int)>(i:Int))=false:=Ug Vi;have:k=i:=by omega
  subst this;apply RG;simp only[go_sem,iv,ba];exact ai rfl am (r:=[]) rfl aa ⟨A3,e,rfl,bx,bc,GL rK b0 hs hi a7 hl hr bd⟩
theorem KL:∀(N:Nat) {I A:PH} {v vc:Value} {d:Array bX} {a m b:Nat},b-a<N->dl I A v d.toList->jT dg g9 vc->a<m->m<b->b<=d.size->d.size<=aF->SortedIn g9 a m d->SortedIn g9 m b d->
  aO Tryz.prog 284 #[v,iv a,iv m,iv b,vc] I [A] (CY v d a b):=by
 intro N
 induction N with
 |zero=>intro I A v vc d a m b h;omega
 |succ N ih=>
 intro I A v vc d a m b hN hA hc da cB hb hn cy cx;by_cases c1:m=a+1
 ·exact L9 hA hc c1 cB hb hn cx
 by_cases c2:b=m+1
 ·exact Mm hA hc Vi c2 hb hn cy
 intro hd;have c6:=hn;unfold aF at c6;obtain⟨f,fst,cap,rfl,gf,cf⟩:=id hc;obtain⟨g0,vk,rfl⟩:=Ow.addr hA Vi;refine ir 220 Tryz.func284 fun w0=>?_
 try simp only[iv]
 have w1:IntKind.i64.wrap ((m:Int)-(a:Int))=((m-a:Nat):Int):=by
  rw[bQ Vi Vi];omega
 have w2:IntKind.i64.wrap ((b:Int)-(m:Int))=((b-m:Nat):Int):=by
  rw[bQ Vi Vi];omega
 have q1:(((m-a:Nat):Int) == 1)=false:=by rw[Uf];omega
 have q2:(((b-m:Nat):Int) == 1)=false:=by rw[Uf];omega
 have a1:(a:Int)+(b:Int)=((a+b:Nat):Int):=by omega
 have a2:=wrap64 (n:=a+b) Vi;have a3:=mE (n:=a+b) Vi;have a4:qj .u64 (((a+b:Nat)):Int) 1=(((a+b) / 2:Nat):Int):=by
  have:=yL (a:=a+b) (i:=1) Vi;rw[TO]at this;exact this
 obtain⟨mid,emid⟩:∃mid,mid=(a+b) / 2:=⟨_,rfl⟩;rw[<-emid]at a4;have a5:=wrap64 (n:=mid) Vi;have w3:IntKind.i64.wrap ((mid:Int)+(m:Int))=((mid+m:Nat):Int):=by
  have e0:(mid:Int)+(m:Int)=((mid+m:Nat):Int):=by omega
  rw[e0];exact wrap64 Vi
 have w4:IntKind.i64.wrap (((mid+m:Nat):Int)-1)=((mid+m-1:Nat):Int):=by
  have e0:((mid+m:Nat):Int)-1=((mid+m-1:Nat):Int):=by omega
  rw[e0];exact wrap64 Vi
 obtain⟨s0,r0,dv,dw⟩:∃s0 r0,(m>mid/\s0=mid+m-b\/m<=mid/\s0=a)/\(m>mid/\r0=mid\/m<=mid/\r0=m):=by
  rcases Sw mid m with h|h
  ·exact⟨mid+m-b,mid,.inl ⟨h,rfl⟩,.inl ⟨h,rfl⟩⟩
  ·exact⟨a,m,.inr ⟨h,rfl⟩,.inr ⟨h,rfl⟩⟩
 have ca:s0<=r0/\a<=s0/\r0<=m/\r0<=mid/\mid+m-s0<=b:=by omega
 apply sY (pZ (.slice (some ⟨g0,0,none⟩) d.size vk) (iv a) (iv m) (iv b) (.func (.func f) fst cap) (iv mid) (iv (mid+m)) (iv (mid+m-1)) (s0,r0)) (fun H=>H=U [I,A])
 ·intro aa;rcases Sw mid m with c7|c7
  ·have bx:decide ((m:Int)>(mid:Int))=true:=Uh Vi;have es:s0=mid+m-b:=by omega
   have er:r0=mid:=by omega
   have w5:IntKind.i64.wrap (((mid+m:Nat):Int)-(b:Int))=((mid+m-b:Nat):Int):=by
    rw[bQ Vi Vi];omega
   apply bq 67;simp only[go_sem,w1,w2,q1,q2,a1,a2,a3,a4,a5,w3,w4,bx,w5];refine dK ?_ ?_ (aa _ rfl)
   ·simp only[pZ];rw[es,er];exact Uo
   ·exact(by simp only[go_sem,Tq,pZ])
  ·have bx:decide ((m:Int)>(mid:Int))=false:=Ug Vi;have es:s0=a:=by omega
   have er:r0=m:=by omega
   apply bq 65;simp only[go_sem,w1,w2,q1,q2,a1,a2,a3,a4,a5,w3,w4,bx];refine dK ?_ ?_ (aa _ rfl)
   ·simp only[pZ];rw[es,er];exact Uo
   ·exact(by simp only[go_sem,Tq,pZ])
 rintro H rfl;simp only[pZ];refine Uq ?_;apply cO (fun x=>x.2-x.1) (fun x=>pZ (.slice (some ⟨g0,0,none⟩) d.size vk) (iv a) (iv m) (iv b) (.func (.func f) fst cap) (iv mid) (iv (mid+m)) (iv (mid+m-1)) x) (fun x H=>∃I2 A2,H=U [I2,A2]/\Dj [I2,A2]/\I.le I2/\dl I2 A2 (.slice (some ⟨g0,0,none⟩) d.size vk) d.toList/\s0<=x.1/\x.1<=x.2/\x.2<=r0/\(x.1=s0\/g9 d[mid+m-x.1]! d[x.1-1]! = false)/\(x.2=r0\/g9 d[mid+m-x.2-1]! d[x.2]! = true)) (fun x H=>∃I2 A2,H=U [I2,A2]/\Dj [I2,A2]/\I.le I2/\dl I2 A2 (.slice (some ⟨g0,0,none⟩) d.size vk) d.toList/\s0<=x.1/\x.1<=r0/\(x.1=s0\/g9 d[mid+m-x.1]! d[x.1-1]! = false)/\(x.1=r0\/g9 d[mid+m-x.1-1]! d[x.1]! = true)) (s0,r0)
 ·exact Uo
 ·exact(by simp only[go_sem,Tq,pZ])
 ·exact⟨I,A,rfl,hd,Uj _,hA,R7 _,ca.1,R7 _,.inl rfl,.inl rfl⟩
 ·rintro⟨i,j⟩ H ⟨I2,A2,rfl,a6,aj,a7,hi,c8,hj,hl,hr⟩ a0 cb;simp only at hi c8 hj hl hr;simp only[pZ];rcases Sw i j with dx|dy
  ·have bd:decide ((i:Int)<(j:Int))=true:=Uh Vi;have b1:(i:Int)+(j:Int)=((i+j:Nat):Int):=by omega
   have b2:=wrap64 (n:=i+j) Vi;have b3:=mE (n:=i+j) Vi;have b4:qj .u64 (((i+j:Nat)):Int) 1=(((i+j) / 2:Nat):Int):=by
    have:=yL (a:=i+j) (i:=1) Vi;rw[TO]at this;exact this
   obtain⟨h,eh⟩:∃h,h=(i+j) / 2:=⟨_,rfl⟩;rw[<-eh]at b4;have b5:=wrap64 (n:=h) Vi;have w7:IntKind.i64.wrap (((mid+m-1:Nat):Int)-(h:Int))=((mid+m-1-h:Nat):Int):=by
    rw[bQ Vi Vi];omega
   apply RG;simp only[go_sem,iv,bd,b1,b2,b3,b4,b5];obtain⟨g,cp,cur,ci,cj,ev,rfl,c9,ri,rj,li,lj,ki,kj,c5⟩:=Ow.two a7 (fun{I} c a h=>dg.len c a h) (fun{I J c a} h k=>dg.le h k) (i:=mid+m-1-h) (j:=h) Vi Vi;rw[(show d.size=d.size from rfl)]at ev c9;simp only[Value.slice.injEq,Sc,Addr.mk.injEq,TY,SP]at ev;obtain⟨eg,ek⟩:=ev;subst eg;subst ek;refine V8 [0,1,2,3,4,5,6,7,8,9,10,11,12,13] [6,10] [] ?_;apply af;simp only[go_sem,iv,w7];refine⟨Vi,?_⟩;refine P7 (l:=ci) (v:=.agg ci.toArray) rfl (cellsU a6 (.tail _ (.head _)) (by simpa using ki)) (.inl ⟨by rw[li];exact iQ,rfl⟩) ?_;apply af;simp only[go_sem,iv,w7];refine⟨Vi,?_⟩;refine P7 (l:=cj) (v:=.agg cj.toArray) rfl (cellsU a6 (.tail _ (.head _)) (by simpa using kj)) (.inl ⟨by rw[lj];exact iQ,rfl⟩) ?_;apply af;simp only[go_sem,iv,w7];refine i7 a6 [0] [] [_] rfl gf rfl (cf I2 _ _ _ _ ri rj) fun v I3 qs ap ac hq=>?_;obtain⟨rfl,z,rfl,hz⟩:=hq;simp only[Z3]at ap |-;refine Ur ?_;refine aw ?_;cases aS:g9 d[mid+m-1-h]! d[h]! with
   |false=>
    rw[aS]at hz;have w8:IntKind.i64.wrap ((h:Int)+1)=((h+1:Nat):Int):=by
     have e0:(h:Int)+1=((h+1:Nat):Int):=by omega
     rw[e0];exact wrap64 Vi
    apply RG;simp only[go_sem,iv,hz,T7,w8];exact a0 (h+1,j) _ _ V9 Uo (by simp only[go_sem,Tq,pZ]) ⟨I3,_,rfl,ap,Ui aj ac,dl.le a7 ac,by simp only;omega,by simp only;omega,hj,.inr (by simp only;rw[show mid+m-(h+1)=mid+m-1-h by omega];exact aS),hr⟩
   |true=>
    rw[aS]at hz;apply RG;simp only[go_sem,iv,hz,Ud];exact a0 (i,h) _ _ V9 Uo (by simp only[go_sem,Tq,pZ]) ⟨I3,_,rfl,ap,Ui aj ac,dl.le a7 ac,hi,by simp only;omega,by simp only;omega,hl,.inr (by simp only;rw[show mid+m-h-1=mid+m-1-h by omega];exact aS)⟩
  ·have bd:decide ((i:Int)<(j:Int))=false:=Ug Vi;have:i=j:=by omega
   subst this;apply bq 9;simp only[go_sem,iv,bd];exact cb (i,i) _ _ Uo (by simp only[go_sem,Tq,pZ]) ⟨I2,A2,rfl,a6,aj,a7,hi,hj,hl,hr⟩
 rintro⟨s,j⟩ H ⟨I2,A2,rfl,a6,aj,a7,hi,hj,hl,hr⟩;simp only at hi hj hl hr;simp only[pZ];have cn:a<=s/\s<=m/\s<=mid/\m<=mid+m-s/\mid+m-s<=b/\mid<=mid+m-s:=by omega
 have w9:IntKind.i64.wrap (((mid+m:Nat):Int)-(s:Int))=((mid+m-s:Nat):Int):=by
  rw[bQ Vi Vi];omega
 obtain⟨z,ez⟩:∃z,z=mid+m-s:=⟨_,rfl⟩;rw[<-ez]at w9 hl hr cn;apply sY (E8 (.slice (some ⟨g0,0,none⟩) d.size vk) (iv a) (iv b) (.func (.func f) fst cap) (iv mid) (iv s) (iv z)) (fun H=>∃I3 A3 e,H=U [I3,A3]/\Dj [I3,A3]/\I.le I3/\dl I3 A3 (.slice (some ⟨g0,0,none⟩) d.size vk) e.toList/\PermIn a b d e/\xN m (m-s) (z-m) d e)
 ·intro aa;by_cases c3:s<m/\m<z
  ·have ao:decide ((s:Int)<(m:Int))=true:=Uh Vi;have bc:decide ((m:Int)<(z:Int))=true:=Uh Vi;apply RG;simp only[go_sem,iv,w9,ao,bc];refine f6 a6 [0] [A2] [] rfl J9 rfl (OQ (a:=s) (m:=m) (b:=z) a7 c3.1 c3.2 Vi hn) fun v I3 qs ap ac hq=>?_;obtain⟨A3,e,rfl,cl,b6,cs⟩:=hq;simp only[Z3]at ap |-;apply bq 1;simp only[go_sem,iv];refine dK ?_ ?_ (aa _ ⟨I3,A3,e,rfl,ap,Ui aj ac,cl,permIn_mono _ _ s z a b Vi Vi hb b6,cs⟩)
   ·exact Uo
   ·exact(by simp only[go_sem,Tq,E8])
  ·have cA:m-s=0\/z-m=0:=by omega
   rcases Sw s m with c4|c4
   ·have ao:decide ((s:Int)<(m:Int))=true:=Uh Vi;have bc:decide ((m:Int)<(z:Int))=false:=Ug Vi;apply bq 21;simp only[go_sem,iv,w9,ao,bc];refine dK ?_ ?_ (aa _ ⟨I2,A2,d,rfl,a6,aj,a7,permIn_refl _ _ _,xN.triv cA Vi⟩)
    ·exact Uo
    ·exact(by simp only[go_sem,Tq,E8])
   ·have ao:decide ((s:Int)<(m:Int))=false:=Ug Vi;apply bq 21;simp only[go_sem,iv,w9,ao];refine dK ?_ ?_ (aa _ ⟨I2,A2,d,rfl,a6,aj,a7,permIn_refl _ _ _,xN.triv cA Vi⟩)
    ·exact Uo
    ·exact(by simp only[go_sem,Tq,E8])
 rintro H ⟨I3,A3,e,rfl,ap,ac,cl,b6,cs⟩;have ds:=b6.1;rw[ez]at cs hl hr;obtain⟨y1,y2,y3,y4,y5⟩:=Ig rK (SJ da) (SJ cB) cy cx emid cn.1 cn.2.1 cn.2.2.1 Vi Vi ⟨fun hm=>by
  rcases hl with h|h
  ·exact .inl Vi
  ·exact .inr (.inr h),fun hm=>by
  rcases hl with h|h
  ·exact .inl Vi
  ·exact .inr h⟩ (by
  rcases hr with h|h
  ·refine .inl ?_;split<;>omega
  ·exact .inr h) cs
 rw[<-ez]at y3 y4;simp only[E8];apply sY (EX (.slice (some ⟨g0,0,none⟩) d.size vk) (iv b) (.func (.func f) fst cap) (iv mid) (iv z)) (fun H=>∃I4 A4 e2,H=U [I4,A4]/\Dj [I4,A4]/\I.le I4/\dl I4 A4 (.slice (some ⟨g0,0,none⟩) d.size vk) e2.toList/\PermIn a mid e e2/\SortedIn g9 a mid e2)
 ·intro aa;by_cases c3:a<s/\s<mid
  ·have an:decide ((a:Int)<(s:Int))=true:=Uh Vi;have bb:decide ((s:Int)<(mid:Int))=true:=Uh Vi;apply RG;simp only[go_sem,iv,an,bb];refine f6 ap [0] [A3] [] rfl rH rfl (ih (a:=a) (m:=s) (b:=mid) Vi cl hc c3.1 c3.2 Vi Vi y1 y2) fun v I4 qs b0 ak hq=>?_;obtain⟨A4,e2,rfl,cc,a9,cr⟩:=hq;simp only[Z3]at b0 |-;apply bq 1;simp only[go_sem,iv];refine dK ?_ ?_ (aa _ ⟨I4,A4,e2,rfl,b0,Ui ac ak,cc,a9,cr⟩)
   ·exact Uo
   ·exact(by simp only[go_sem,Tq,EX])
  ·have cm:SortedIn g9 a mid e:=by
    rcases Sw a s with h|h
    ·have:s=mid:=by omega
     rw[<-this];exact y1
    ·have:s=a:=by omega
     rw[<-this];exact y2
   rcases Sw a s with c4|c4
   ·have an:decide ((a:Int)<(s:Int))=true:=Uh Vi;have bb:decide ((s:Int)<(mid:Int))=false:=Ug Vi;apply bq 14;simp only[go_sem,iv,an,bb];refine dK ?_ ?_ (aa _ ⟨I3,A3,e,rfl,ap,ac,cl,permIn_refl _ _ _,cm⟩)
    ·exact Uo
    ·exact(by simp only[go_sem,Tq,EX])
   ·have an:decide ((a:Int)<(s:Int))=false:=Ug Vi;apply bq 14;simp only[go_sem,iv,an];refine dK ?_ ?_ (aa _ ⟨I3,A3,e,rfl,ap,ac,cl,permIn_refl _ _ _,cm⟩)
    ·exact Uo
    ·exact(by simp only[go_sem,Tq,EX])
 rintro H ⟨I4,A4,e2,rfl,b0,ak,cc,a9,cr⟩;have dk:=a9.1;simp only[EX];have tr:∀x y,mid<=x->SortedIn g9 x y e->SortedIn g9 x y e2:=fun x y hx h i j h1 h2 h3=>by
  rw[a9.2.1 i (.inr Vi),a9.2.1 j (.inr Vi)];exact h i j h1 h2 h3
 by_cases c3:mid<z/\z<b
 ·have am:decide ((mid:Int)<(z:Int))=true:=Uh Vi;have ba:decide ((z:Int)<(b:Int))=true:=Uh Vi;apply RG;simp only[go_sem,iv,am,ba];refine f6 b0 [0] [A4] [] rfl rH rfl (ih (a:=mid) (m:=z) (b:=b) Vi cc hc c3.1 c3.2 Vi Vi (tr _ _ (R7 _) y3) (tr _ _ Vi y4)) fun v I5 qs c0 ct hq=>?_;obtain⟨A5,e3,rfl,dj,dd,dc⟩:=hq;simp only[Z3]at c0 |-;refine Uq ?_;obtain⟨p,q⟩:=zu Vi Vi Vi y5 a9 cr dd dc;exact eO rfl c0 (r:=[]) rfl (Ui ak ct) ⟨A5,e3,rfl,dj,permIn_trans _ _ _ a b b6 p,q⟩
 ·have cm:SortedIn g9 mid b e2:=by
   rcases Sw mid z with h|h
   ·have:z=b:=by omega
    rw[<-this];exact tr _ _ (R7 _) y3
   ·have:z=mid:=by omega
    exact tr _ _ (R7 _) (this▸y4)
  obtain⟨p,q⟩:=zu Vi Vi Vi y5 a9 cr (permIn_refl _ _ _) cm;rcases Sw mid z with c4|c4
  ·have am:decide ((mid:Int)<(z:Int))=true:=Uh Vi;have ba:decide ((z:Int)<(b:Int))=false:=Ug Vi;apply RG;simp only[go_sem,iv,am,ba];exact eO rfl b0 (r:=[]) rfl ak ⟨A4,e2,rfl,cc,permIn_trans _ _ _ a b b6 p,q⟩
  ·have am:decide ((mid:Int)<(z:Int))=false:=Ug Vi;apply RG;simp only[go_sem,iv,am];exact eO rfl b0 (r:=[]) rfl ak ⟨A4,e2,rfl,cc,permIn_trans _ _ _ a b b6 p,q⟩
theorem HB:aP Tryz.prog 235:=⟨_,Tryz.func235,rfl,rfl⟩
theorem JT:aP Tryz.prog 167:=⟨_,Tryz.func167,rfl,rfl⟩
theorem E2{I A:PH}{v vc:Value}{d:Array bX}{a b:Nat}(hA:dl I A v d.toList)(hc:jT dg g9 vc)(aa:a<=b)(hb:b<=d.size)(hn:d.size<=aF):
  aO Tryz.prog 283 #[v,iv a,iv b,vc] I [A] (CY v d a b):=
 (Lr hA hc hb hn Vi).mono fun r I2 qs ac ⟨A2,e1,e2⟩=>⟨A2,_,e1,e2,Sort.insertionSort_holds rK d a b aa hb⟩
def Ej(v vn vc:Value)(a:Nat):St:=⟨dn 63 [(0,.v v),(1,.v vn),(2,.v vc),(6,.v (.int .i64 20)),(7,.v (iv a)),(8,.v (iv (a+20)))],[]⟩
def G5(v vn vc:Value)(s:Nat):St:=⟨dn 63 [(0,.v v),(1,.v vn),(2,.v vc),(6,.v (iv s))],[]⟩
def CP(v vn vc:Value)(s a:Nat):St:=⟨dn 63 [(0,.v v),(1,.v vn),(2,.v vc),(6,.v (iv s)),(7,.v (iv a)),(8,.v (iv (a+2*s)))],[]⟩
theorem IK{a b:Nat}(h:a+b<2^62):IntKind.i64.wrap ((a:Int)+(b:Int))=((a+b:Nat):Int):=by
 rw[<-wrap64 h];congr 1<;>omega
theorem PL{s:Nat}(h:2*s<2^62):IntKind.i64.wrap (2*(s:Int))=((2*s:Nat):Int):=by
 rw[<-wrap64 h];congr 1<;>omega
theorem NZ{s:Nat}(h:2*s<2^62):IntKind.i64.wrap ((s:Int)*2)=((2*s:Nat):Int):=by
 rw[<-wrap64 h];congr 1<;>omega
theorem Hj{I A:PH}{v vc:Value}{d:Array bX}(hA:dl I A v d.toList)(hc:jT dg g9 vc)(hn:d.size<=aF):
  aO Tryz.prog 235 #[v,iv d.size,vc] I [A] (CY v d 0 d.size):=by
 intro hd;have cy:=hn;unfold aF at cy;obtain⟨f,fst,cap,rfl,gf,cf⟩:=id hc;obtain⟨va,vk,rfl⟩:=Ow.one' hA;refine ir 63 Tryz.func235 fun w0=>?_
 try simp only[iv]
 refine Un ?_;apply cO (fun a=>d.size-a) (fun a=>Ej (.slice va d.size vk) (iv d.size) (.func (.func f) fst cap) a) (fun a H=>∃q I2 A2 e,H=U [I2,A2]/\Dj [I2,A2]/\I.le I2/\dl I2 A2 (.slice va d.size vk) e.toList/\PermIn 0 d.size d e/\a=20*q/\a<=d.size/\dM g9 20 a e) (fun a H=>∃q I2 A2 e,H=U [I2,A2]/\Dj [I2,A2]/\I.le I2/\dl I2 A2 (.slice va d.size vk) e.toList/\PermIn 0 d.size d e/\a=20*q/\a<=d.size/\d.size<a+20/\dM g9 20 a e) 0
 ·exact Uo
 ·exact(by simp only[go_sem,Tq,Ej])
 ·exact⟨0,I,A,d,rfl,hd,Uj _,hA,permIn_refl _ _ _,rfl,S6 _,dM.zero _ _⟩
 ·rintro a H ⟨q,I2,A2,e,rfl,b0,ak,b5,a7,ac,a5,b3⟩ aa bb;have cx:=a7.1;simp only[Ej];rcases Sw d.size (a+20)with am|a4
  ·have cn:decide (((a+20:Nat):Int)<=(d.size:Int))=false:=Ug Vi;apply bq 9;simp only[go_sem,iv,cn];exact bb a _ _ Uo (by simp only[go_sem,Tq,Ej]) ⟨q,I2,A2,e,rfl,b0,ak,b5,a7,ac,a5,am,b3⟩
  ·have cn:decide (((a+20:Nat):Int)<=(d.size:Int))=true:=Uh Vi;have w1:IntKind.i64.wrap (((a+20:Nat):Int)+20)=((a+20+20:Nat):Int):=IK (b:=20) Vi;apply RG;simp only[go_sem,iv,cn];refine f6 b0 [0] [A2] [] rfl BY rfl (E2 (a:=a) (b:=a+20) b5 hc Vi Vi Vi) fun v I3 qs bx a1 hq=>?_;obtain⟨A3,e3,rfl,ci,a6,b6⟩:=hq;simp only[Z3]at bx |-;apply RG;simp only[go_sem,iv,w1];subst ac;exact aa (20*q+20) _ _ Vi Uo (by simp only[go_sem,Tq,Ej]) ⟨q+1,I3,A3,e3,rfl,bx,Ui ak a1,ci,permIn_trans _ _ _ 0 d.size a7 (permIn_mono _ _ (20*q) (20*q+20) 0 d.size Vi a4 Vi a6),Vi,a4,b3.step Vi (R7 _) a6 b6⟩
 rintro a H ⟨q,I2,A2,e,rfl,b0,ak,b5,a7,ac,a5,am,b3⟩;have cx:=a7.1;simp only[Ej];refine Uq ?_;refine f6 b0 [0] [A2] [] rfl BY rfl (E2 (a:=a) (b:=d.size) b5 hc Vi Vi Vi) fun v I3 qs bx a1 hq=>?_;obtain⟨A3,e3,rfl,ci,a6,b6⟩:=hq;simp only[Z3]at bx |-;refine Uq ?_;subst ac;have c1:dM g9 20 d.size e3:=b3.step Vi Vi a6 b6;have cb:=permIn_trans _ _ _ 0 d.size a7 (permIn_mono _ _ (20*q) d.size 0 d.size Vi (R7 _) Vi a6);clear b3 a6 b6 b5 b0 am a5;have k3:=Ui ak a1;refine aB (fun s=>d.size-s) (fun s=>G5 (.slice va d.size vk) (iv d.size) (.func (.func f) fst cap) s) (fun s H=>∃I4 A4 e4,H=U [I4,A4]/\Dj [I4,A4]/\I.le I4/\dl I4 A4 (.slice va d.size vk) e4.toList/\PermIn 0 d.size d e4/\0<s/\dM g9 s d.size e4) 20 Uo (by simp only[go_sem,Tq,G5]) ?_ ?_
 ·exact⟨I3,A3,e3,rfl,bx,k3,ci,cb,Vi,c1⟩
 rintro s H ⟨I4,A4,e4,rfl,cp,ba,cs,ca,a9,cr⟩ aa;have c2:=ca.1;simp only[G5];rcases Sw s d.size with c3|c0
 rotate_left
 ·have cm:decide ((s:Int)<(d.size:Int))=false:=Ug Vi;apply RG;simp only[go_sem,iv,cm];exact eO rfl cp (r:=[]) rfl ba ⟨A4,e4,rfl,cs,ca,cr.all c0⟩
 have cm:decide ((s:Int)<(d.size:Int))=true:=Uh Vi;have w2:=PL (s:=s) Vi;have w3:=NZ (s:=s) Vi;apply RG;simp only[go_sem,iv,cm,w2];apply cO (fun a=>d.size-a) (fun a=>CP (.slice va d.size vk) (iv d.size) (.func (.func f) fst cap) s a) (fun a H=>∃q I5 A5 e5,H=U [I5,A5]/\Dj [I5,A5]/\I.le I5/\dl I5 A5 (.slice va d.size vk) e5.toList/\PermIn 0 d.size d e5/\a=2*s*q/\a<=d.size/\dM g9 (2*s) a e5/\yD g9 s a d.size e5) (fun a H=>∃q I5 A5 e5,H=U [I5,A5]/\Dj [I5,A5]/\I.le I5/\dl I5 A5 (.slice va d.size vk) e5.toList/\PermIn 0 d.size d e5/\a=2*s*q/\a<=d.size/\d.size<a+2*s/\dM g9 (2*s) a e5/\yD g9 s a d.size e5) 0
 ·exact(ae (by simp only[go_sem,Tq,iv,Sf]))
 ·exact(by simp only[go_sem,Tq,CP])
 ·exact⟨0,I4,A4,e4,rfl,cp,ba,cs,ca,by simp,S6 _,dM.zero _ _,cr.runs⟩
 ·rintro a H ⟨q,I5,A5,e5,rfl,bd,aj,b4,a3,ac,a5,an,ap⟩ aS a2;have ct:=a3.1;have p1:s*(2*q)=a:=by rw[ac,Nat.mul_left_comm,Nat.mul_assoc]
  have p2:s*(2*q+1)=a+s:=by rw[Nat.mul_add,Nat.mul_one,p1]
  simp only[CP];rcases Sw d.size (a+2*s)with am|a4
  ·have cl:decide (((a+2*s:Nat):Int)<=(d.size:Int))=false:=Ug Vi;apply bq 9;simp only[go_sem,iv,cl];exact a2 a _ _ Uo (by simp only[go_sem,Tq,CP]) ⟨q,I5,A5,e5,rfl,bd,aj,b4,a3,ac,a5,am,an,ap⟩
  ·have cl:decide (((a+2*s:Nat):Int)<=(d.size:Int))=true:=Uh Vi;have w4:=IK (a:=a) (b:=s) Vi;have w5:=IK (a:=a+2*s) (b:=2*s) Vi;have y1:=ap.at' a9 Vi (y:=a+s) (q:=2*q) Vi Vi;have y2:=ap.at' a9 Vi (y:=a+2*s) (q:=2*q+1) Vi a4;rw[p1]at y1;rw[p2]at y2;apply RG;simp only[go_sem,iv,cl,w4];refine f6 bd [0] [A5] [] rfl rH rfl (KL (a+2*s-a+1) (a:=a) (m:=a+s) (b:=a+2*s) Vi b4 hc Vi Vi Vi Vi y1 y2) fun v I6 qs bc a0 hq=>?_;obtain⟨A6,e6,rfl,cc,ao,b1⟩:=hq;simp only[Z3]at bc |-;apply RG;simp only[go_sem,iv,w2,w5];have b2:dM g9 (2*s) (a+2*s) e6:=by
    rw[ac]at an ao b1 |-;exact an.step Vi (R7 _) ao b1
   exact aS (a+2*s) _ _ Vi Uo (by simp only[go_sem,Tq,CP]) ⟨q+1,I6,A6,e6,rfl,bc,Ui aj a0,cc,permIn_trans _ _ _ 0 d.size a3 (permIn_mono _ _ a (a+2*s) 0 d.size Vi a4 Vi ao),by rw[Nat.mul_add,Nat.mul_one,<-ac],a4,b2,ap.keep Vi fun k hk=>ao.2.1 k (.inr hk)⟩
 rintro a H ⟨q,I5,A5,e5,rfl,bd,aj,b4,a3,ac,a5,am,an,ap⟩;have ct:=a3.1;have p1:s*(2*q)=a:=by rw[ac,Nat.mul_left_comm,Nat.mul_assoc]
 have p2:s*(2*q+1)=a+s:=by rw[Nat.mul_add,Nat.mul_one,p1]
 have w4:=IK (a:=a) (b:=s) Vi;simp only[CP];rcases Sw (a+s) d.size with cA|cB
 ·have cj:decide (((a+s:Nat):Int)<(d.size:Int))=true:=Uh Vi;have y1:=ap.at' a9 Vi (y:=a+s) (q:=2*q) Vi Vi;have y2:=ap.at' a9 Vi (y:=d.size) (q:=2*q+1) Vi (R7 _);rw[p1]at y1;rw[p2]at y2;apply RG;simp only[go_sem,iv,w4,cj];refine f6 bd [0] [A5] [] rfl rH rfl (KL (d.size-a+1) (a:=a) (m:=a+s) (b:=d.size) Vi b4 hc Vi Vi Vi Vi y1 y2) fun v I6 qs bc a0 hq=>?_;obtain⟨A6,e6,rfl,cc,ao,b1⟩:=hq;simp only[Z3]at bc |-;apply RG;simp only[go_sem,iv,w3];have b2:dM g9 (2*s) d.size e6:=by
   rw[ac]at an ao b1 am;exact an.step Vi Vi ao b1
  exact aa (2*s) _ _ Vi Uo (by simp only[go_sem,Tq,G5]) ⟨I6,A6,e6,rfl,bc,Ui aj a0,cc,permIn_trans _ _ _ 0 d.size a3 (permIn_mono _ _ a d.size 0 d.size Vi (R7 _) Vi ao),Vi,b2⟩
 ·have cj:decide (((a+s:Nat):Int)<(d.size:Int))=false:=Ug Vi;have y1:=ap.at' a9 Vi (y:=d.size) (q:=2*q) Vi (R7 _);rw[p1]at y1;apply RG;simp only[go_sem,iv,w4,cj,w3];have b2:dM g9 (2*s) d.size e5:=by
   rw[ac]at an y1 am;exact an.rest Vi y1 Vi
  exact aa (2*s) _ _ Vi Uo (by simp only[go_sem,Tq,G5]) ⟨I5,A5,e5,rfl,bd,aj,b4,a3,Vi,b2⟩
theorem xm{I A:PH}{v vc:Value}{d:Array bX}(hA:dl I A v d.toList)(hc:jT dg g9 vc)(hn:d.size<=aF):
  aO Tryz.prog 167 #[v,vc] I [A] (CY v d 0 d.size):=by
 intro hd;obtain⟨f,fst,cap,rfl,gf,cf⟩:=id hc;obtain⟨va,vk,rfl⟩:=Ow.one' hA;refine ir 9 Tryz.func167 fun w0=>?_;refine Un ?_;refine f6 hd [0] [A] [] rfl HB rfl (Hj hA hc hn) fun v I2 qs ac aa hq=>?_;obtain⟨A2,e2,rfl,am,ak,aj⟩:=hq;simp only[Z3]at ac |-;refine Un ?_;exact eO rfl ac (r:=[]) rfl aa ⟨A2,e2,rfl,am,ak,aj⟩
theorem Lh:aP Tryz.prog 95:=⟨_,Tryz.func95,rfl,rfl⟩
theorem JL:aP Tryz.prog 164:=⟨_,Tryz.func164,rfl,rfl⟩
theorem Iq:aP Tryz.prog 165:=⟨_,Tryz.func165,rfl,rfl⟩
theorem BQ:aP Tryz.prog 166:=⟨_,Tryz.func166,rfl,rfl⟩
theorem IJ:aP Tryz.prog 234:=⟨_,Tryz.func234,rfl,rfl⟩
theorem Ow.elem{α:Type}{R:PH->List Value->α->Prop}{e:TypeId}{size:Nat}{I A:PH}{v:Value}{l:List α}(h:Ow R e size I A v l)(hR:∀{I} c a,R I c a->c.length=size)(ak:∀{I J c a},R I c a->I.le J->R J c a){i:Nat}{x:α}(hi:l[i]?=some x):
  ∃g cap cur c,v=.slice (some ⟨g,0,none⟩) l.length cap/\A=sg g (.cells cur e (0,0))/\l.length*size<=cur.size/\l.length<=cap/\R I c x/\c.length=size/\aQ A g (i*size) c/\
   ∀J c' y,I.le J->R J c' y->Ow R e size J (sg g (.cells (be cur.toList (i*size) c').toArray e (0,0))) v (l.set i y):=by
 have ac:=(List.getElem?_eq_some_iff.1 hi).1;obtain⟨g,cap,cur,xs,ev,rfl,c1,c2,c3,c4,c5,aj⟩:=h.open' Vi fun c a k=>hR c a k;have ao:l.length*size<=cap*size:=Tb _ c1;have an:(i+1)*size<=l.length*size:=Tb _ ac;rw[Ta,TE]at an;have hg:=aj.get (fun c a k=>hR c a k) hi;have aa:=hR _ _ hg;have hc:=fp (k:=0) (m:=size) (e:=e) (g:=g) (cur:=cur) (fun c a k=>hR c a k) aj ac Vi c4 rfl Vi;refine⟨g,cap,cur,_,ev,rfl,Vi,c1,hg,aa,?_,?_⟩
 ·simpa[aa,To]using hc
 ·intro J c' y hJ hy;have am:=hR _ _ hy;refine⟨be xs (i*size+0) c',?_,?_⟩
  ·rw[ev,Tl];exact kI c5 c1 c2 c3 c4 Vi
  ·refine lz (fun c a k=>hR c a k) (aj.mono fun _ _ h=>ak h hJ) ac rfl Vi ?_;have:be ((xs.drop (i*size)).take size) 0 c'=c':=by
    rw[dR _ _ _ Vi];simp[aa,am]
   rw[this];exact hy
theorem Fy:Tryz.prog.underlying 34=some (.slice 80):=by obtain⟨i,z,h,_⟩:=qR;exact h
theorem F2{I:PH}{v:Value}{l:List bX}(hS:Sl dg I v l)(hl:l.length<=aF):aO Tryz.prog 165 #[v] I [] fun r I2 qs=>∃A,qs=[A]/\dl I2 A r l:=by
 intro hd;obtain⟨fa,fc,rfl,ak⟩:=id hS;unfold aF at hl;refine ir 8 Tryz.func165 fun w0=>?_;cases fa with
 |none=>
  have am:l=[]:=by
   rcases ak with h|⟨b,off,xs,e,_⟩
   ·exact h
   ·cases e
  subst am;refine Un ?_;refine kw rfl rfl (by exact Fy) rfl rfl ?_;apply RG;simp only[go_sem,Option.isNone];refine aT hd fun aj=>?_;exact ai rfl aj (r:=[_]) rfl (Uj _) ⟨_,rfl,Ow.nil _ _ _ _⟩
 |some a=>
  refine Un ?_;refine kw rfl rfl (by exact Fy) rfl rfl ?_;apply RG;simp only[go_sem,Option.isNone];refine dP hd (by exact qR) rfl rfl rfl rfl rfl Vm fun b A aj aa=>?_;refine Un ?_;refine aY aj (by exact qR) (xs:=([]:List bX)) (R:=dg) ⟨[],aa,rfl⟩ hS (fun{I J c a} h k=>dg.le h k) (fun{I} c a h=>dg.len c a h) (fun{I} c a h=>dg.ones h) rfl rfl rfl rfl (by simp only[S9];omega) (by simp only[S9];unfold maxLen;omega) fun na nc I2 A2 an ac ao=>?_;apply RG;simp only[go_sem,SU];exact ai rfl an (r:=[_]) rfl ac ⟨_,rfl,ao⟩
theorem FH{I H:PH}{c:List Value}{d:bX}(h:dg I c d):bv Tryz.prog 166 #[.agg c.toArray] H fun v H2=>v=.bool (decide (d.cond=ff))/\H2=H:=by
 obtain⟨a,k,rfl,hr⟩:=h;refine ir 6 Tryz.func166 fun w0=>?_
 try simp only[sD,rD,iv]
 refine Uv ?_;refine Pf rfl gK (fq hr) fun v H2 hv=>?_;obtain⟨rfl,rfl⟩:=hv;refine Un ?_;exact aK (r:=[_]) rfl ⟨rfl,rfl⟩
def Pb(v vf:Value)(n i:Nat):St:=⟨dn 19 [(0,.v v),(1,.v vf),(6,.v v),(7,.v (iv n)),(8,.v (iv i))],[]⟩
def Rr(l:List bX)(r:Value):Prop:=(∀d∈l,d.cond≠ff)/\r=.int .i64 (-1)\/∃i d,l[i]?=some d/\d.cond=ff/\(∀x∈l.take i,x.cond≠ff)/\r=iv i
theorem JI{I A:PH}{v:Value}{l:List bX}(hA:dl I A v l)(hl:l.length<=aF):aO Tryz.prog 234 #[v,.func (.func 166) #[] #[]] I [A] fun r I2 qs=>qs=[A]/\I2=I/\Rr l r:=by
 intro hd;unfold aF at hl;obtain⟨va,vc,rfl⟩:=hA.shape;refine ir 19 Tryz.func234 fun w0=>?_;refine Un ?_;refine aB (fun i=>l.length-i) (Pb (.slice va l.length vc) (.func (.func 166) #[] #[]) l.length) (fun i H=>H=U [I,A]/\i<=l.length/\∀x∈l.take i,x.cond≠ff) 0 Uo (by simp only[go_sem,Tq,Pb]) ?_ ?_
 ·exact⟨rfl,S6 _,fun x hx=>by simp at hx⟩
 rintro i H ⟨rfl,hi,hn⟩ aa;simp only[Pb];rcases Sw i l.length with ak|ao
 ·have h9:decide ((i:Int)<(l.length:Int))=true:=Uh Vi;have e1:IntKind.i64.wrap ((i:Int)+1)=((i+1:Nat):Int):=by rw[<-wrap64 (n:=i+1) Vi];congr 1
  obtain⟨d,aj⟩:∃d,l[i]?=some d:=⟨_,SC ak⟩;obtain⟨g,cap,cur,c,ev,rfl,c1,c2,hc,an,ac,_⟩:=hA.elem (fun{I} c a h=>dg.len c a h) (fun{I J c a} h k=>dg.le h k) aj;cases ev
  apply RG;simp only[go_sem,iv,h9];refine⟨Vi,?_⟩;refine Qz (l:=c) (v:=.agg c.toArray) rfl (by simpa using cellsU hd (.tail _ (.head _)) ac) (.inl ⟨by rw[an];exact iQ,rfl⟩) ?_;refine Uq ?_;refine Pf rfl BQ (FH hc) fun v H2 hv=>?_;obtain⟨rfl,rfl⟩:=hv;cases hb:decide (d.cond=ff)
  ·apply RG;simp only[go_sem,iv,e1];have am:d.cond≠ff:=Ua hb;exact aa (i+1) _ _ Vi Uo (by simp only[go_sem,Tq,Pb]) ⟨rfl,ak,fun x hx=>by
    rw[cv aj]at hx;rcases List.mem_append.1 hx with h|h
    ·exact hn x h
    ·rw[List.mem_singleton.1 h];exact am⟩
  ·refine Uq ?_;exact ai rfl hd (r:=[iv i]) rfl (Uj _) ⟨rfl,rfl,.inr ⟨i,d,aj,TG hb,hn,rfl⟩⟩
 ·have:i=l.length:=by omega
  subst this;have h9:=Z6 l.length;rw[Td]at hn;apply RG;simp only[go_sem,iv,h9];exact ai rfl hd (r:=[.int .i64 (-1)]) rfl (Uj _) ⟨rfl,rfl,.inl ⟨hn,rfl⟩⟩
def kB(l:List bX):List bX:=l.filter fun d=>decide (d.cond≠ff)
theorem pT(a b:List bX):kB (a++b)=kB a++kB b:=List.filter_append ..
theorem vB{l:List bX}(h:∀d∈l,d.cond≠ff):kB l=l:=List.filter_eq_self.2 fun d hd=>Uh (h d hd)
def Nc(v vf:Value)(i j:Nat):St:=⟨dn 42 [(0,.v v),(1,.v vf),(5,.v (iv i)),(6,.v (iv j))],[]⟩
theorem Ow.short{α:Type}{R:PH->List Value->α->Prop}{e:TypeId}{size:Nat}{I:PH}{g cap:Nat}{cur:Array Value}{l:List α}{ys:List Value}{i n:Nat}(h:Ow R e size I (sg g (.cells cur e (0,0))) (.slice (some ⟨g,0,none⟩) n cap) l)(hR:∀{I} c a,R I c a->c.length=size)(ak:l.length=n)(hn:0<n)(hi:i<=n)(hy:ys.length=(n-i)*size):
  Ow R e size I (sg g (.cells (be cur.toList (i*size) ys).toArray e (0,0))) (.slice (some ⟨g,0,none⟩) i cap) (l.take i):=by
 subst ak;obtain⟨g',cap',cur',xs,ev,eA,c1,c2,c3,c4,c5,aj⟩:=h.open' hn fun c a k=>hR c a k;cases ev
 have eo:(.cells cur e (0,0):Obj)=.cells cur' e (0,0):=by
  have:=congrFun eA g;simp only[sg,R9,Sc]at this;exact this
 cases eo
 have ap:l.length*size<=cap*size:=Tb _ c1;have am:i*size<=l.length*size:=Tb _ hi;have ac:=(LR.split (fun c a k=>hR c a k) i aj).1;have ao:i*size+(l.length-i)*size=l.length*size:=by rw[<-Ta];congr 1;omega
 have aa:(xs.take (i*size)).length=i*size:=by rw[T1,c5];omega
 have an:(be cur.toList (i*size) ys).toArray.size=cap*size:=by simp[aJ,c3]
 refine⟨xs.take (i*size),?_,ac⟩;rw[T1,S8 hi];refine jF.of_sg aa Vi c2 an ?_;show (be cur.toList (i*size) ys).take (i*size)=_;rw[dR _ _ _ (by simp only[Sk];omega),<-c4];rw[Te,List.take_left' (by simp only[T1,Sk];omega),To,S8 am]
theorem F3{I A:PH}{v:Value}{l:List bX}(hA:dl I A v l)(hl:l.length<=aF):aO Tryz.prog 164 #[v,.func (.func 166) #[] #[]] I [A] fun r I2 qs=>∃A2,qs=[A2]/\I2=I/\dl I A2 r (kB l):=by
 intro hd;have bc:=hl;unfold aF at bc;obtain⟨va,vc,rfl⟩:=hA.shape;refine ir 42 Tryz.func164 fun w0=>?_;refine Un ?_;refine f6 hd [0] [A] [] rfl IJ rfl (JI hA hl) fun v I2 qs a2 bb hq=>?_;obtain⟨rfl,rfl,hq⟩:=hq;simp only[Z3]at a2 |-;rcases hq with ⟨hn,rfl⟩|⟨i0,d0,a5,bd,hn,rfl⟩
 ·refine Un ?_;exact ai rfl a2 (r:=[_]) rfl (Uj _) ⟨A,rfl,rfl,by rw[vB hn];exact hA⟩
 have ap:=(List.getElem?_eq_some_iff.1 a5).1;have q1:((i0:Int) == -1)=false:=by rw[Uf];omega
 have e1:IntKind.i64.wrap ((i0:Int)+1)=((i0+1:Nat):Int):=by rw[<-wrap64 (n:=i0+1) Vi];congr 1
 obtain⟨g0,rfl⟩:∃g0,va=some ⟨g0,0,none⟩:=by
  obtain⟨g,cap,cur,xs,ev,_⟩:=hA.open' Vi fun c a k=>dg.len c a k;simp only[Value.slice.injEq]at ev;exact⟨g,ev.1⟩
 apply RG;simp only[go_sem,iv,q1,e1];refine aB (fun x=>l.length-x.2) (fun x=>Nc (.slice (some ⟨g0,0,none⟩) l.length vc) (.func (.func 166) #[] #[]) x.1 x.2) (fun(x:Nat×Nat) H=>∃B m,H=U [I2,B]/\Dj [I2,B]/\m.length=l.length/\dl I2 B (.slice (some ⟨g0,0,none⟩) l.length vc) m/\x.1<x.2/\x.2<=l.length/\m.take x.1=kB (l.take x.2)/\m.drop x.2=l.drop x.2) (i0,i0+1) Uo (by simp only[go_sem,Tq,Nc]) ?_ ?_
 ·refine⟨A,l,rfl,a2,rfl,hA,Tv _,ap,?_,rfl⟩;simp only;rw[cv a5,pT,vB hn];simp[kB,bd]
 rintro⟨i,j⟩ H ⟨B,m,rfl,am,ao,hB,a4,hj,ht,ak⟩ aa;simp only at a4 hj ht ak;simp only[Nc];rcases Sw j l.length with aS|b3
 ·have a3:decide ((j:Int)<(l.length:Int))=true:=Uh Vi;have w1:IntKind.i64.wrap ((j:Int)+1)=((j+1:Nat):Int):=by rw[<-wrap64 (n:=j+1) Vi];congr 1
  have w2:IntKind.i64.wrap ((i:Int)+1)=((i+1:Nat):Int):=by rw[<-wrap64 (n:=i+1) Vi];congr 1
  obtain⟨d,a0⟩:∃d,l[j]?=some d:=⟨_,SC aS⟩;have ba:m[j]?=some d:=by
   have:=congrArg (fun x:List bX=>x[0]?) ak;simpa[a0]using this
  obtain⟨g,cap,cur,c,ev,rfl,c1,c2,hc,b6,aj,a9⟩:=hB.elem (fun{I} c a h=>dg.len c a h) (fun{I J c a} h k=>dg.le h k) ba;simp only[Value.slice.injEq,Sc,Addr.mk.injEq,TY]at ev;obtain⟨eg,_,ek⟩:=ev;subst eg;subst ek;obtain⟨ca,ck,rfl,b5⟩:=id hc;apply RG;simp only[go_sem,iv,a3];refine⟨Vi,?_⟩;refine Qz (l:=[.int .u8 d.code,.int .i64 d.tok,sD ca ck d.cond,rD d.cond]) (v:=.agg #[.int .u8 d.code,.int .i64 d.tok,sD ca ck d.cond,rD d.cond]) rfl (by simpa using cellsU am (.tail _ (.head _)) aj) (.inl ⟨iQ,rfl⟩) ?_;refine Uv ?_;refine Pf rfl BQ (FH hc) fun v H2 hv=>?_;obtain⟨rfl,rfl⟩:=hv;cases hb:decide (d.cond=ff)
  ·have an:d.cond≠ff:=Ua hb;refine Uv ?_;refine⟨Vi,?_⟩;have mi:(i+1)*4<=m.length*4:=Tb _ Vi;refine cG am rfl rfl rfl rfl rfl (by exact um) (by simp;omega) fun a1=>?_;apply RG;simp only[go_sem,iv,w1,w2];have hi:i<m.length:=by omega
   obtain⟨y,hy⟩:∃y,m[i]?=some y:=⟨_,SC hi⟩;obtain⟨g',cap',cur',c',ev',eA,_,_,_,_,_,ac⟩:=hB.elem (fun{I} c a h=>dg.len c a h) (fun{I J c a} h k=>dg.le h k) hy;simp only[Value.slice.injEq,Sc,Addr.mk.injEq,TY]at ev';obtain⟨eg',_,ek'⟩:=ev';subst eg';have ec:cur=cur':=by
    have:=congrFun eA g0;simp only[sg,R9,Sc,Obj.cells.injEq,TY,SP]at this;exact this
   subst ec;have bx:=ac I2 [.int .u8 d.code,.int .i64 d.tok,sD ca ck d.cond,rD d.cond] d (Uj _) hc;refine aa (i+1,j+1) _ _ V9 Uo (by simp only[go_sem,Tq,Nc]) ⟨_,m.set i d,rfl,a1,by rw[Tl];exact ao,bx,by simp only;omega,aS,?_,?_⟩
   ·simp only;rw[cv a0,pT,<-ht];have:(m.set i d)[i]?=some d:=List.getElem?_set_self hi;rw[cv this,List.take_set_of_le (R7 i)];simp[kB,an]
   ·simp only;rw[List.drop_set_of_lt Vi];rw[<-Tn (i:=1) (j:=j),<-Tn (i:=1) (j:=j),ak]
  ·have an:d.cond=ff:=TG hb;apply RG;simp only[go_sem,iv,sD,rD,w1];refine aa (i,j+1) _ _ V9 Uo (by simp only[go_sem,Tq,Nc]) ⟨_,m,rfl,am,ao,hB,by simp only;omega,aS,?_,?_⟩
   ·simp only;rw[cv a0,pT,<-ht];simp[kB,an]
   ·simp only;rw[<-Tn (i:=1) (j:=j),<-Tn (i:=1) (j:=j),ak]
 ·have:j=l.length:=by omega
  subst this;have a3:=Z6 l.length;rw[Td]at ht;have b0:=hB;obtain⟨g,cap,cur,xs,ev,rfl,c1,c2,c3,c4,c5,b1⟩:=hB.open' Vi fun c a k=>dg.len c a k;simp only[Value.slice.injEq,Sc,Addr.mk.injEq,TY]at ev;obtain⟨eg,_,ek⟩:=ev;subst eg;subst ek;have b4:l.length*4<=vc*4:=Tb _ Vi;have b2:i*4+(l.length-i)*4=l.length*4:=by rw[<-Ta];congr 1;omega
  have a7:oz (some ⟨g0,0,none⟩) 4 i vc=some ⟨g0,i*4,none⟩:=by
   have:¬vc=i:=by omega
   simp[oz,this,Addr.add];intro h;omega
  have sl0:oz (some ⟨g0,0,none⟩) 4 0 vc=some ⟨g0,0,none⟩:=by simp[oz,Addr.add]
  apply RG;simp only[go_sem,iv,a3,a7];refine⟨Vi,?_⟩;refine DL (off:=i*4) am (by exact Fy) (by exact Nh) (size:=4) rfl rfl rfl rfl (by rfl) Vi fun ys a6 a1=>?_;apply RG;simp only[go_sem,iv,sl0];refine⟨Vi,?_⟩;apply RG;simp only[go_sem,iv,sl0];have hS:=b0.short (fun{I} c a h=>dg.len c a h) ao Vi (SJ a4) a6;rw[ht]at hS;exact ai rfl a1 (r:=[_]) rfl (Uj _) ⟨_,rfl,rfl,hS⟩
theorem H9:aP Tryz.prog 265:=⟨_,Tryz.func265,rfl,rfl⟩
theorem vZ:aP Tryz.prog 266:=⟨_,Tryz.func266,rfl,rfl⟩
theorem BW:aP Tryz.prog 212:=⟨_,Tryz.func212,rfl,rfl⟩
theorem Ke:aP Tryz.prog 219:=⟨_,Tryz.func219,rfl,rfl⟩
theorem Ja:aP Tryz.prog 269:=⟨_,Tryz.func269,rfl,rfl⟩
theorem Cu:aP Tryz.prog 218:=⟨_,Tryz.func218,rfl,rfl⟩
theorem Ix:aP Tryz.prog 210:=⟨_,Tryz.func210,rfl,rfl⟩
theorem Jb:aP Tryz.prog 214:=⟨_,Tryz.func214,rfl,rfl⟩
theorem Cj:aP Tryz.prog 211:=⟨_,Tryz.func211,rfl,rfl⟩
theorem Jo:aP Tryz.prog 213:=⟨_,Tryz.func213,rfl,rfl⟩
def uw(n:Int):Bool:=(decide (97<=n) && decide (n<=122)) || (decide (65<=n) && decide (n<=90))
def xp(n:Int):Bool:=decide (48<=n) && decide (n<=57)
def lF(n:Int):Bool:=uw n || xp n || (n == 95)
def AH(n:Int):Bool:=(n == 32) || (n == 9)
def CW(n:Int):Bool:=!((n != 9) && (decide (n<32) || decide (n>126)))
theorem GK(n:Int)(H:PH):bv Tryz.prog 265 #[.int .u8 n] H fun v H2=>v=.bool (uw n)/\H2=H:=by
 refine ir 17 Tryz.func265 fun w0=>?_;cases h1:decide (97<=n)
 ·cases h3:decide (65<=n)
  ·apply RG;simp only[go_sem,h1,h3];exact aK (r:=[_]) rfl ⟨by simp only[uw,h1,h3];rfl,rfl⟩
  ·cases h4:decide (n<=90)
   ·apply RG;simp only[go_sem,h1,h3,h4];exact aK (r:=[_]) rfl ⟨by simp only[uw,h1,h3,h4];rfl,rfl⟩
   ·apply RG;simp only[go_sem,h1,h3,h4];exact aK (r:=[_]) rfl ⟨by simp only[uw,h1,h3,h4];rfl,rfl⟩
 ·cases h2:decide (n<=122)
  ·cases h3:decide (65<=n)
   ·apply RG;simp only[go_sem,h1,h2,h3];exact aK (r:=[_]) rfl ⟨by simp only[uw,h1,h2,h3];rfl,rfl⟩
   ·cases h4:decide (n<=90)
    ·apply RG;simp only[go_sem,h1,h2,h3,h4];exact aK (r:=[_]) rfl ⟨by simp only[uw,h1,h2,h3,h4];rfl,rfl⟩
    ·apply RG;simp only[go_sem,h1,h2,h3,h4];exact aK (r:=[_]) rfl ⟨by simp only[uw,h1,h2,h3,h4];rfl,rfl⟩
  ·apply RG;simp only[go_sem,h1,h2];exact aK (r:=[_]) rfl ⟨by simp only[uw,h1,h2];rfl,rfl⟩
theorem wH(n:Int)(H:PH):bv Tryz.prog 266 #[.int .u8 n] H fun v H2=>v=.bool (xp n)/\H2=H:=by
 refine ir 9 Tryz.func266 fun w0=>?_;cases h1:decide (48<=n)
 ·apply RG;simp only[go_sem,h1];exact aK (r:=[_]) rfl ⟨by simp only[xp,h1];rfl,rfl⟩
 ·cases h2:decide (n<=57)
  ·apply RG;simp only[go_sem,h1,h2];exact aK (r:=[_]) rfl ⟨by simp only[xp,h1,h2];rfl,rfl⟩
  ·apply RG;simp only[go_sem,h1,h2];exact aK (r:=[_]) rfl ⟨by simp only[xp,h1,h2];rfl,rfl⟩
theorem FR(n:Int)(H:PH):bv Tryz.prog 212 #[.int .u8 n] H fun v H2=>v=.bool (lF n)/\H2=H:=by
 refine ir 13 Tryz.func212 fun w0=>?_;refine Un ?_;refine Pf rfl H9 (GK n H) fun v H2 hv=>?_;obtain⟨rfl,rfl⟩:=hv;cases h1:uw n
 ·refine Un ?_;refine Pf rfl vZ (wH n _) fun v H2 hv=>?_;obtain⟨rfl,rfl⟩:=hv;cases h2:xp n
  ·cases h3:(n == 95)
   ·apply RG;simp only[go_sem,h3];exact aK (r:=[_]) rfl ⟨by simp only[lF,h1,h2,h3];rfl,rfl⟩
   ·apply RG;simp only[go_sem,h3];exact aK (r:=[_]) rfl ⟨by simp only[lF,h1,h2,h3];rfl,rfl⟩
  ·refine Un ?_;exact aK (r:=[_]) rfl ⟨by simp only[lF,h1,h2];rfl,rfl⟩
 ·refine Un ?_;exact aK (r:=[_]) rfl ⟨by simp only[lF,h1];rfl,rfl⟩
theorem JY(n:Int)(H:PH):bv Tryz.prog 219 #[.int .u8 n] H fun v H2=>v=.bool (AH n)/\H2=H:=by
 refine ir 9 Tryz.func219 fun w0=>?_;cases h1:(n == 32)
 ·cases h2:(n == 9)
  ·apply RG;simp only[go_sem,h1,h2];exact aK (r:=[_]) rfl ⟨by simp only[AH,h1,h2];rfl,rfl⟩
  ·apply RG;simp only[go_sem,h1,h2];exact aK (r:=[_]) rfl ⟨by simp only[AH,h1,h2];rfl,rfl⟩
 ·apply RG;simp only[go_sem,h1];exact aK (r:=[_]) rfl ⟨by simp only[AH,h1];rfl,rfl⟩
theorem bJ(s:bM):(⟨⟨s⟩⟩:ByteArray).size=s.length:=rfl
theorem o6(s:bM)(i k:Nat):(⟨⟨s⟩⟩:ByteArray).extract i k=⟨⟨(s.drop i).take (k-i)⟩⟩:=by
 apply ByteArray.ext;rw[ByteArray.data_extract];apply Array.ext';simp[List.extract_eq_take_drop]
theorem Dl(s t:bM)(H:PH):bv Tryz.prog 269 #[.string ⟨⟨s⟩⟩,.string ⟨⟨t⟩⟩] H fun v H2=>v=.bool (t.isPrefixOf s)/\H2=H:=by
 refine ir 18 Tryz.func269 fun w0=>?_;rcases Sw s.length t.length with h|h
 ·have h1:decide ((s.length:Int)>=(t.length:Int))=false:=Ug Vi;have h2:t.isPrefixOf s=false:=by
   rw[Bool.eq_false_iff];intro e;have:=(List.isPrefixOf_iff_prefix.1 e).length_le;omega
  apply RG;simp only[go_sem,bJ,h1];exact aK (r:=[_]) rfl ⟨by rw[h2];rfl,rfl⟩
 ·have h1:decide ((s.length:Int)>=(t.length:Int))=true:=Uh Vi;have h2:(s.take t.length == t)=t.isPrefixOf s:=by
   rw[Bool.eq_iff_iff,beq_iff_eq,List.isPrefixOf_iff_prefix,List.prefix_iff_eq_take];exact eq_comm
  apply RG;simp only[go_sem,bJ,h1,o6,Int.toNat_zero,Nat.sub_zero,h2];refine⟨Vi,?_⟩;exact aK (r:=[_]) rfl ⟨rfl,rfl⟩
theorem zx(s t:bM)(H:PH):bv Tryz.prog 218 #[.string ⟨⟨s⟩⟩,.string ⟨⟨t⟩⟩] H fun v H2=>v=.bool (t.isPrefixOf s)/\H2=H:=by
 refine ir 8 Tryz.func218 fun w0=>?_;refine Un ?_;refine Pf rfl Ja (Dl s t H) fun v H2 hv=>?_;obtain⟨rfl,rfl⟩:=hv;refine Un ?_;exact aK (r:=[_]) rfl ⟨rfl,rfl⟩
def bZ(c:UInt8):Int:=(c.toNat:Int)
theorem mU{s:bM}{i:Nat}{c:UInt8}(h:s[i]?=some c):((wC ⟨⟨s⟩⟩ i:Nat):Int)=bZ c:=by
 unfold wC bZ;rw[List.getD_eq_getElem?_getD,h];rfl
def G9(s:bM)(i:Nat):St:=⟨dn 26 [(0,.v (.string ⟨⟨s⟩⟩)),(5,.v (iv s.length)),(6,.v (iv i))],[]⟩
theorem Eh(s:bM)(hl:s.length<2^60)(H:PH):bv Tryz.prog 210 #[.string ⟨⟨s⟩⟩] H fun v H2=>v=.bool (s.all fun c=>CW (bZ c))/\H2=H:=by
 refine ir 26 Tryz.func210 fun w0=>?_;apply RG;simp only[go_sem,bJ];refine aB (fun x=>s.length-x) (G9 s) (fun i H2=>H2=H/\i<=s.length/\((s.drop i).all fun c=>CW (bZ c))=(s.all fun c=>CW (bZ c))) 0 Uo (by simp only[go_sem,Tq,G9]) ⟨rfl,S6 _,rfl⟩ ?_;rintro i H2 ⟨rfl,hi,ha⟩ ac;simp only[G9];rcases Sw i s.length with ak|am
 ·have h7:decide ((i:Int)<(s.length:Int))=true:=Uh Vi;have e1:IntKind.i64.wrap ((i:Int)+1)=((i+1:Nat):Int):=by rw[<-wrap64 (n:=i+1) Vi];congr 1
  obtain⟨c,hc⟩:∃c,s[i]?=some c:=⟨_,SC ak⟩;have hb:=mU hc;have hd:s.drop i=c::s.drop (i+1):=by
   rw[S5 ak];rw[SC ak]at hc;rw[Tk hc]
  rw[hd,List.all_cons]at ha;cases h9:(bZ c != 9)
  ·have hz:CW (bZ c)=true:=by simp only[CW,h9];rfl
   apply RG;simp only[go_sem,iv,h7,hb,h9,e1];refine⟨by (try simp only[bJ]);omega,?_⟩;exact ac (i+1) _ _ Vi Uo (by simp only[go_sem,Tq,G9]) ⟨rfl,ak,by rw[<-ha,hz,Bool.true_and]⟩
  ·cases aj:decide (bZ c<32)
   ·cases aa:decide (bZ c>126)
    ·have hz:CW (bZ c)=true:=by simp only[CW,h9,aj,aa];rfl
     apply RG;simp only[go_sem,iv,h7,hb,h9,aj,aa,e1];refine⟨by (try simp only[bJ]);omega,?_⟩;exact ac (i+1) _ _ Vi Uo (by simp only[go_sem,Tq,G9]) ⟨rfl,ak,by rw[<-ha,hz,Bool.true_and]⟩
    ·have hz:CW (bZ c)=false:=by simp only[CW,h9,aj,aa];rfl
     apply RG;simp only[go_sem,iv,h7,hb,h9,aj,aa];refine⟨by (try simp only[bJ]);omega,?_⟩;exact aK (r:=[_]) rfl ⟨by rw[<-ha,hz];rfl,rfl⟩
   ·have hz:CW (bZ c)=false:=by simp only[CW,h9,aj];rfl
    apply RG;simp only[go_sem,iv,h7,hb,h9,aj];refine⟨by (try simp only[bJ]);omega,?_⟩;exact aK (r:=[_]) rfl ⟨by rw[<-ha,hz];rfl,rfl⟩
 ·have:i=s.length:=by omega
  subst this;have h7:=Z6 s.length;rw[T4]at ha;apply RG;simp only[go_sem,iv,h7];exact aK (r:=[_]) rfl ⟨by rw[<-ha];rfl,rfl⟩
def Er(s:bM):Bool:=!(s.isEmpty || decide (s.length>32) || xp (bZ (s.getD 0 0))) && s.all fun c=>lF (bZ c)
def Pc(s:bM)(i:Nat):St:=⟨dn 27 [(0,.v (.string ⟨⟨s⟩⟩)),(17,.v (iv s.length)),(18,.v (iv i))],[]⟩
theorem F1(s:bM)(H:PH):bv Tryz.prog 214 #[.string ⟨⟨s⟩⟩] H fun v H2=>v=.bool (Er s)/\H2=H:=by
 refine ir 27 Tryz.func214 fun w0=>?_;cases s with
 |nil=>
  refine Un ?_;exact aK (r:=[_]) rfl ⟨rfl,rfl⟩
 |cons c0 s0=>
  generalize hs:c0::s0=s;have an:(s == [])=false:=by rw[<-hs];rfl
  have ap:0<s.length:=by rw[<-hs];simp
  have am:s.isEmpty=false:=by rw[<-hs];rfl
  have a0:s[0]?=some (s.getD 0 0):=by rw[<-hs];rfl
  clear hs c0 s0;have a2:=mU a0;have a1:(0:Int)<=0/\(0:Int)<((⟨⟨s⟩⟩:ByteArray).size:Int):=⟨Vi,by rw[bJ];omega⟩;cases aj:decide ((s.length:Int)>32)
  rotate_left
  ·have hz:Er s=false:=by
    have:decide (s.length>32)=true:=Uh (by have:=TG aj;omega);simp[Er,this]
   apply RG;simp only[go_sem,an,bJ,aj];exact aK (r:=[_]) rfl ⟨by rw[hz];rfl,rfl⟩
  have aS:=Ua aj;have ak:decide (s.length>32)=false:=Ug Vi;apply RG;simp only[go_sem,an,bJ,aj,Int.toNat_zero,a2];refine⟨Vi,?_⟩;refine Pf rfl vZ (wH _ _) fun v H2 hv=>?_;obtain⟨rfl,rfl⟩:=hv;cases ao:xp (bZ (s.getD 0 0))
  rotate_left
  ·have hz:Er s=false:=by simp only[Er,ao,Bool.or_true,Ud,Bool.false_and]
   refine Un ?_;exact aK (r:=[_]) rfl ⟨by rw[hz];rfl,rfl⟩
  have hz:Er s=s.all fun c=>lF (bZ c):=by simp only[Er,am,ak,ao];simp
  rw[hz];apply RG;simp only[go_sem,bJ];refine aB (fun x=>s.length-x) (Pc s) (fun i H3=>H3=H2/\i<=s.length/\((s.drop i).all fun c=>lF (bZ c))=(s.all fun c=>lF (bZ c))) 0 Uo (by simp only[go_sem,Tq,Pc]) ⟨rfl,S6 _,rfl⟩ ?_;rintro i H3 ⟨rfl,hi,ha⟩ aa;simp only[Pc];rcases Sw i s.length with ac|a3
  ·have h7:decide ((i:Int)<(s.length:Int))=true:=Uh Vi;have e1:IntKind.i64.wrap ((i:Int)+1)=((i+1:Nat):Int):=by rw[<-wrap64 (n:=i+1) Vi];congr 1
   obtain⟨c,hc⟩:∃c,s[i]?=some c:=⟨_,SC ac⟩;have hb:=mU hc;have hd:s.drop i=c::s.drop (i+1):=by
    rw[S5 ac];rw[SC ac]at hc;rw[Tk hc]
   rw[hd,List.all_cons]at ha;apply RG;simp only[go_sem,iv,h7,hb];refine⟨by (try simp only[bJ]);omega,?_⟩;refine Pf rfl BW (FR _ _) fun v H2 hv=>?_;obtain⟨rfl,rfl⟩:=hv;cases hp:lF (bZ c)
   ·apply RG;simp only[go_sem,T7];exact aK (r:=[_]) rfl ⟨by rw[<-ha,hp];rfl,rfl⟩
   ·apply RG;simp only[go_sem,Ud,e1];exact aa (i+1) _ _ Vi Uo (by simp only[go_sem,Tq,Pc]) ⟨rfl,ac,by rw[<-ha,hp,Bool.true_and]⟩
  ·have:i=s.length:=by omega
   subst this;have h7:=Z6 s.length;rw[T4]at ha;apply RG;simp only[go_sem,iv,h7];exact aK (r:=[_]) rfl ⟨by rw[<-ha];rfl,rfl⟩
def cV:bM->Nat
 | []=>0
 |c::s=>if lF (bZ c)then cV s+1 else 0
def Ps(i:Nat)(sb k:Nat):St:=⟨dn 22 [(0,.v (iv i)),(1,.v (pt sb)),(4,.v (iv k))],[]⟩
theorem KO{H:PH}{sb i:Nat}{s:bM}(hs:aQ H sb 0 [.string ⟨⟨s⟩⟩])(hi:i<=s.length)(hl:s.length<2^60):bv Tryz.prog 211 #[iv i,pt sb] H fun v H2=>v=.string ⟨⟨(s.drop i).take (cV (s.drop i))⟩⟩/\H2=H:=by
 refine ir 22 Tryz.func211 fun w0=>?_
 try simp only[iv,pt]
 refine Un ?_;refine aB (fun x=>s.length-x) (Ps i sb) (fun k H2=>H2=H/\i<=k/\k<=s.length/\cV (s.drop i)=(k-i)+cV (s.drop k)) i Us (by simp only[go_sem,Tq,Ps]) ⟨rfl,R7 _,hi,by simp⟩ ?_;rintro k H2 ⟨rfl,ak,aj,hr⟩ aa;simp only[Ps];have fin:cV (s.drop k)=0->k-i=cV (s.drop i):=fun h=>by omega
 rcases Sw k s.length with ac|am
 ·have h9:decide ((k:Int)<(s.length:Int))=true:=Uh Vi;have e1:IntKind.i64.wrap ((k:Int)+1)=((k+1:Nat):Int):=by rw[<-wrap64 (n:=k+1) Vi];congr 1
  obtain⟨c,hc⟩:∃c,s[k]?=some c:=⟨_,SC ac⟩;have hb:=mU hc;have hd:s.drop k=c::s.drop (k+1):=by
   rw[S5 ac];rw[SC ac]at hc;rw[Tk hc]
  refine Uz ?_;refine Qz (l:=[.string ⟨⟨s⟩⟩]) rfl hs (.inr ⟨rz,rfl⟩) ?_;apply RG;simp only[go_sem,bJ,h9];refine Qz (l:=[.string ⟨⟨s⟩⟩]) rfl hs (.inr ⟨rz,rfl⟩) ?_;apply RG;simp only[go_sem,hb];refine⟨by (try simp only[bJ]);omega,?_⟩;refine Pf rfl BW (FR _ _) fun v H2 hv=>?_;obtain⟨rfl,rfl⟩:=hv;cases hp:lF (bZ c)
  ·have h0:cV (s.drop k)=0:=by rw[hd,cV,hp];rfl
   refine Uz ?_;refine Qz (l:=[.string ⟨⟨s⟩⟩]) rfl hs (.inr ⟨rz,rfl⟩) ?_;apply RG;simp only[go_sem,o6,fin h0];refine⟨by (try simp only[bJ]);omega,?_⟩;exact aK (r:=[_]) rfl ⟨rfl,rfl⟩
  ·apply RG;simp only[go_sem,e1];exact aa (k+1) _ _ Vi Us (by simp only[go_sem,Tq,Ps]) ⟨rfl,Vi,ac,by rw[hr,hd,cV,hp];simp;omega⟩
 ·have:k=s.length:=by omega
  subst this;have h9:=Z6 s.length;have h0:cV (s.drop s.length)=0:=by rw[T4];rfl
  refine Uz ?_;refine Qz (l:=[.string ⟨⟨s⟩⟩]) rfl hs (.inr ⟨rz,rfl⟩) ?_;apply RG;simp only[go_sem,bJ,h9];refine Qz (l:=[.string ⟨⟨s⟩⟩]) rfl hs (.inr ⟨rz,rfl⟩) ?_;apply RG;simp only[go_sem,o6,fin h0];refine⟨by (try simp only[bJ]);omega,?_⟩;exact aK (r:=[_]) rfl ⟨rfl,rfl⟩
theorem Mu{H:PH}{sb fb i:Nat}{s:bM}(hs:aQ H sb 0 [.string ⟨⟨s⟩⟩])(hf:aQ H fb 0 [.func (.func 211) #[] #[pt sb]])(hi:i<=s.length)(hl:s.length<2^60):
  bv Tryz.prog 213 #[iv i,pt fb] H fun v H2=>v=(if Er ((s.drop i).take (cV (s.drop i)))then .tuple #[.int .u8 1,.string ⟨⟨(s.drop i).take (cV (s.drop i))⟩⟩]else .tuple #[.int .u8 0,.string ⟨⟨[]⟩⟩])/\H2=H:=by
 refine ir 12 Tryz.func213 fun w0=>?_
 try simp only[iv,pt]
 refine Un ?_;refine Qz (l:=[.func (.func 211) #[] #[pt sb]]) rfl hf (.inr ⟨Fu,rfl⟩) ?_;refine Uz ?_;refine Pf rfl Cj (KO hs hi hl) fun v H2 hv=>?_;obtain⟨rfl,rfl⟩:=hv;refine Un ?_;refine Pf rfl Jb (F1 _ _) fun v H2 hv=>?_;obtain⟨rfl,rfl⟩:=hv;cases h:Er ((s.drop i).take (cV (s.drop i)))
 ·refine Un ?_;exact aK (r:=[_,_]) rfl ⟨rfl,rfl⟩
 ·refine Un ?_;exact aK (r:=[_,_]) rfl ⟨rfl,rfl⟩
theorem Jp:aP Tryz.prog 217:=⟨_,Tryz.func217,rfl,rfl⟩
section
variable {C:Cx} {P:Program} {k:List Item} {σ:St} {H:PH}
theorem y6{o:Oper}{T e:TypeId}{len n:Nat}{kk:IntKind}{x y:Operand}{cs:Array Value}{v:Value}(ac:o.op=.index T x y)(hu:P.underlying T=some (.array len e))(hi:∃i,P.info? e=some i/\i.size=1)(ha:aV P e=some none)
  (hx:ev σ x=.v (.agg cs)) (hy:ev σ y=.v (.int kk n)) (hn:n<len) (hv:cs.toList[n]?=some v):aR σ o.op=true/\co P (execOp (bp σ) o) H fun sv H2=>sv=.v v/\H2=H:=by
 constructor
 ·simp[aR,ac,eL,Op.operands,hx,hy,qy]
 ·intro w hw;obtain⟨i,hi,hs⟩:=hi;have aj:(sizeOf e).run P w=.ok 1 w:=by simp[sizeOf,typeInfo,program,Sem.run,hi,hs]
  have hp:=gS (P:=P) (w:=w) (T:=e) (cs:=cs) (n:=n) (v:=v) (by unfold eD;rw[ha];exact hv);have h0:(0:Int)<=(n:Int)/\(n:Int)<(len:Int):=⟨Vi,Vi⟩;have aa:(execOp (bp σ) o).run P w=.ok (.value v) w:=by
   simp[execOp,ac,bp,hx,hy,Instr.index,asIntOf,bf hu,run_underlying hu,Result.andThen,aj,h0,hp,SI hn]
  rw[aa];exact⟨H,cS.refl hw,rfl,rfl⟩
theorem Dr{ol rem:List Oper}{o:Oper}{T e:TypeId}{len n:Nat}{kk:IntKind}{x y:Operand}{cs:Array Value}{v:Value}(hw:aG ol σ o=some true)(aa:o.op=.index T x y)(hu:C.P.underlying T=some (.array len e))(hi:∃i,C.P.info? e=some i/\i.size=1)(ha:aV C.P e=some none)
  (hx:ev σ x=.v (.agg cs)) (hy:ev σ y=.v (.int kk n)) (hn:n<len) (hv:cs.toList[n]?=some v) (hk:RC C (.op ol rem k) (σ.put o.dst (.v v)) H):RC C (.op ol (o::rem) k) σ H:=by
 obtain⟨a,b⟩:=y6 (H:=H) aa hu hi ha hx hy hn hv;exact f9 hw a (b.mono fun sv H2 ⟨e1,e2⟩=>by subst e1;subst e2;exact hk)
end
def gI:List bM:=[[60,61],[62,61],[61,61],[33,61],[38,38],[124,124],[43],[45],[42],[47],[37],[60],[62],[61],[33],[40],[41],[123],[125],[44],[59],[58]]
def lP:List Value:=gI.map fun x=>.string ⟨⟨x⟩⟩
def oZ(H:PH):Prop:=aQ H 0 0 lP
theorem oZ.le{I J:PH}(h:oZ I)(k:I.le J):oZ J:=aQ.le h k
theorem Kg:Tryz.prog.underlying 317=some (.array 22 9):=by kernel_rfl
theorem Qa:(Tryz.prog.info? 9).map (·.size)=some 1:=by kernel_rfl
theorem RL:∃i,Tryz.prog.info? 9=some i/\i.size=1:=by
 have h:=Qa;cases e:Tryz.prog.info? 9 with
 |none=>rw[e]at h;cases h
 |some i=>rw[e]at h;exact⟨i,rfl,Tk h⟩
def Pu(i sb k:Nat):St:=⟨dn 18 [(0,.v (iv i)),(1,.v (pt sb)),(7,.v (.agg lP.toArray)),(8,.v (iv k))],[]⟩
def xF(s:bM)(i:Nat):Value:=match gI.find? fun x=>x.isPrefixOf (s.drop i)with
 |some x=>.tuple #[.int .u8 3,.string ⟨⟨x⟩⟩]
 |none=>.tuple #[.int .u8 0,.string ⟨⟨[]⟩⟩]
theorem K0{H:PH}{sb i:Nat}{s:bM}(hG:oZ H)(hs:aQ H sb 0 [.string ⟨⟨s⟩⟩])(hi:i<=s.length)(hl:s.length<2^60):
  bv Tryz.prog 217 #[iv i,pt sb] H fun v H2=>v=xF s i/\H2=H:=by
 refine ir 18 Tryz.func217 fun w0=>?_
 try simp only[iv,pt]
 refine Un ?_;refine Qz (l:=lP) (v:=.agg lP.toArray) rfl hG (.inl ⟨Kv,rfl⟩) ?_;refine Un ?_;refine aB (fun k=>22-k) (Pu i sb) (fun k H2=>H2=H/\k<=22/\gI.find? (fun x=>x.isPrefixOf (s.drop i))=(gI.drop k).find? fun x=>x.isPrefixOf (s.drop i)) 0 Us (by simp only[go_sem,Tq,Pu]) ⟨rfl,S6 _,rfl⟩ ?_;rintro k H2 ⟨rfl,hk,hf⟩ aa;simp only[Pu];rcases Sw k 22 with ac|ak
 ·have h9:decide ((k:Int)<22)=true:=Uh Vi;have e1:IntKind.i64.wrap ((k:Int)+1)=((k+1:Nat):Int):=by rw[<-wrap64 (n:=k+1) Vi];congr 1
  obtain⟨x,hx⟩:∃x,gI[k]?=some x:=⟨_,SC (by simpa[gI]using ac)⟩;have hd:gI.drop k=x::gI.drop (k+1):=by
   have aj:k<gI.length:=by simpa[gI]using ac
   rw[S5 aj];rw[SC aj]at hx;rw[Tk hx]
  have hv:lP.toArray.toList[k]?=some (.string ⟨⟨x⟩⟩):=by simp[lP,hx]
  have tk:(s.drop i).take (s.length-i)=s.drop i:=T3 (by simp);rw[hd,List.find?_cons]at hf;apply RG;simp only[go_sem,iv,pt,h9];refine Dr (n:=k) rfl rfl (by exact Kg) RL (by exact rz) rfl rfl ac hv ?_;refine Uz ?_;refine Qz (l:=[.string ⟨⟨s⟩⟩]) rfl hs (.inr ⟨rz,rfl⟩) ?_;apply RG;simp only[go_sem,bJ,o6,tk];refine⟨Vi,?_⟩;refine Pf rfl Cu (zx _ _ _) fun v H2 hv=>?_;obtain⟨rfl,rfl⟩:=hv;cases hp:x.isPrefixOf (s.drop i)
  ·rw[hp]at hf;apply RG;simp only[go_sem,e1];exact aa (k+1) _ _ Vi Us (by simp only[go_sem,Tq,Pu]) ⟨rfl,ac,hf⟩
  ·rw[hp]at hf;refine Un ?_;exact aK (r:=[_,_]) rfl ⟨by unfold xF;rw[hf];rfl,rfl⟩
 ·have:k=22:=by omega
  subst this;have h9:decide ((22:Int)<22)=false:=by decide
  apply RG;simp only[go_sem,iv,pt,TJ,h9];exact aK (r:=[_,_]) rfl ⟨by unfold xF;rw[hf];rfl,rfl⟩
end Go.Proofs.YtfaclfkpnmcmlaaGreatDoor
namespace Go.Proofs
open Go.Shelf
def Tryz.lays171_ren:Go.Shelf.Ren:=⟨fun|171=>268|243=>295|246=>308|283=>315|284=>316|285=>317|286=>318|129=>280|317=>321|318=>322|319=>323|320=>324|337=>325|338=>326|n=>n,fun|3=>3|9=>9|2=>2|4=>4|171=>398|0=>0|53=>366|37=>268|5=>5|173=>400|212=>406|51=>23|20=>20|213=>407|46=>325|232=>408|233=>409|n=>n,fun|17=>3|18=>4|19=>5|n=>n⟩
theorem Tryz.lays171:Go.Proofs.Lays.n171 Tryz.prog Tryz.lays171_ren:={
 mixed:=by kernel_rfl
 f129:=Tryz.func280.trans (congrArg some (by kernel_rfl))
 f171:=Tryz.func268.trans (congrArg some (by kernel_rfl))
 f243:=Tryz.func295.trans (congrArg some (by kernel_rfl))
 f246:=Tryz.func308.trans (congrArg some (by kernel_rfl))
 f283:=Tryz.func315.trans (congrArg some (by kernel_rfl))
 f284:=Tryz.func316.trans (congrArg some (by kernel_rfl))
 f285:=Tryz.func317.trans (congrArg some (by kernel_rfl))
 f286:=Tryz.func318.trans (congrArg some (by kernel_rfl))
 f317:=Tryz.func321.trans (congrArg some (by kernel_rfl))
 f318:=Tryz.func322.trans (congrArg some (by kernel_rfl))
 f319:=Tryz.func323.trans (congrArg some (by kernel_rfl))
 f320:=Tryz.func324.trans (congrArg some (by kernel_rfl))
 f337:=Tryz.func325.trans (congrArg some (by kernel_rfl))
 f338:=Tryz.func326.trans (congrArg some (by kernel_rfl))
 t0:=Tryz.underlying0
 a0:=Tryz.isAgg0
 z0:=Tryz.sizeOf0
 v0:=Tryz.zeroValue0
 t2:=Tryz.underlying2
 a2:=Tryz.isAgg2
 z2:=Tryz.sizeOf2
 v2:=Tryz.zeroValue2
 t3:=Tryz.underlying3
 a3:=Tryz.isAgg3
 z3:=Tryz.sizeOf3
 v3:=Tryz.zeroValue3
 t4:=Tryz.underlying4
 a4:=Tryz.isAgg4
 z4:=Tryz.sizeOf4
 v4:=Tryz.zeroValue4
 t5:=Tryz.underlying5
 a5:=Tryz.isAgg5
 z5:=Tryz.sizeOf5
 v5:=Tryz.zeroValue5
 t9:=Tryz.underlying9
 a9:=Tryz.isAgg9
 z9:=Tryz.sizeOf9
 v9:=Tryz.zeroValue9
 t20:=Tryz.underlying20
 a20:=Tryz.isAgg20
 z20:=Tryz.sizeOf20
 v20:=Tryz.zeroValue20
 t37:=Tryz.underlying268
 a37:=Tryz.isAgg268
 z37:=Tryz.sizeOf268
 v37:=Tryz.zeroValue268
 t46:=Tryz.underlying325
 a46:=Tryz.isAgg325
 z46:=Tryz.sizeOf325
 v46:=Tryz.zeroValue325
 t51:=Tryz.underlying23
 a51:=Tryz.isAgg23
 z51:=Tryz.sizeOf23
 v51:=Tryz.zeroValue23
 t53:=Tryz.underlying366
 a53:=Tryz.isAgg366
 z53:=Tryz.sizeOf366
 v53:=Tryz.zeroValue366
 t171:=Tryz.underlying398
 a171:=Tryz.isAgg398
 z171:=Tryz.sizeOf398
 v171:=Tryz.zeroValue398
 t173:=Tryz.underlying400
 a173:=Tryz.isAgg400
 z173:=Tryz.sizeOf400
 v173:=Tryz.zeroValue400
 t212:=Tryz.underlying406
 a212:=Tryz.isAgg406
 z212:=Tryz.sizeOf406
 v212:=Tryz.zeroValue406
 t213:=Tryz.underlying407
 a213:=Tryz.isAgg407
 z213:=Tryz.sizeOf407
 t232:=Tryz.underlying408
 a232:=Tryz.isAgg408
 z232:=Tryz.sizeOf408
 v232:=Tryz.zeroValue408
 t233:=Tryz.underlying409
 a233:=Tryz.isAgg409
 z233:=Tryz.sizeOf409
 v233:=Tryz.zeroValue409
 g17:=by kernel_rfl
 g18:=by kernel_rfl
 g19:=by kernel_rfl }
def Tryz.laysC172_ren:Go.Shelf.Ren:=⟨fun|172=>267|244=>293|245=>294|247=>303|279=>304|280=>305|281=>306|282=>307|287=>312|316=>313|171=>268|205=>314|321=>319|322=>320|243=>295|246=>308|283=>315|284=>316|285=>317|286=>318|129=>280|317=>321|318=>322|319=>323|320=>324|337=>325|338=>326|n=>n,fun|9=>9|3=>3|75=>284|76=>285|4=>4|5=>5|167=>383|37=>268|0=>0|85=>384|2=>2|168=>386|53=>366|175=>393|46=>325|210=>396|127=>343|145=>405|143=>403|21=>21|171=>398|173=>400|212=>406|51=>23|20=>20|213=>407|232=>408|233=>409|80=>223|n=>n,fun|15=>1|16=>2|17=>3|18=>4|19=>5|n=>n⟩
theorem Tryz.laysC172:Go.Proofs.LaysC.n172 Tryz.prog Tryz.laysC172_ren:={
 mixed:=by kernel_rfl
 f129:=Tryz.func280.trans (congrArg some (by kernel_rfl))
 f171:=Tryz.func268.trans (congrArg some (by kernel_rfl))
 f172:=Tryz.func267.trans (congrArg some (by kernel_rfl))
 f205:=Tryz.func314.trans (congrArg some (by kernel_rfl))
 f243:=Tryz.func295.trans (congrArg some (by kernel_rfl))
 f244:=Tryz.func293.trans (congrArg some (by kernel_rfl))
 f245:=Tryz.func294.trans (congrArg some (by kernel_rfl))
 f246:=Tryz.func308.trans (congrArg some (by kernel_rfl))
 f247:=Tryz.func303.trans (congrArg some (by kernel_rfl))
 f279:=Tryz.func304.trans (congrArg some (by kernel_rfl))
 f280:=Tryz.func305.trans (congrArg some (by kernel_rfl))
 f281:=Tryz.func306.trans (congrArg some (by kernel_rfl))
 f282:=Tryz.func307.trans (congrArg some (by kernel_rfl))
 f283:=Tryz.func315.trans (congrArg some (by kernel_rfl))
 f284:=Tryz.func316.trans (congrArg some (by kernel_rfl))
 f285:=Tryz.func317.trans (congrArg some (by kernel_rfl))
 f286:=Tryz.func318.trans (congrArg some (by kernel_rfl))
 f287:=Tryz.func312.trans (congrArg some (by kernel_rfl))
 f316:=Tryz.func313.trans (congrArg some (by kernel_rfl))
 f317:=Tryz.func321.trans (congrArg some (by kernel_rfl))
 f318:=Tryz.func322.trans (congrArg some (by kernel_rfl))
 f319:=Tryz.func323.trans (congrArg some (by kernel_rfl))
 f320:=Tryz.func324.trans (congrArg some (by kernel_rfl))
 f321:=Tryz.func319.trans (congrArg some (by kernel_rfl))
 f322:=Tryz.func320.trans (congrArg some (by kernel_rfl))
 f337:=Tryz.func325.trans (congrArg some (by kernel_rfl))
 f338:=Tryz.func326.trans (congrArg some (by kernel_rfl))
 t0:=Tryz.underlying0
 a0:=Tryz.isAgg0
 z0:=Tryz.sizeOf0
 v0:=Tryz.zeroValue0
 t2:=Tryz.underlying2
 a2:=Tryz.isAgg2
 z2:=Tryz.sizeOf2
 v2:=Tryz.zeroValue2
 t3:=Tryz.underlying3
 a3:=Tryz.isAgg3
 z3:=Tryz.sizeOf3
 v3:=Tryz.zeroValue3
 t4:=Tryz.underlying4
 a4:=Tryz.isAgg4
 z4:=Tryz.sizeOf4
 v4:=Tryz.zeroValue4
 t5:=Tryz.underlying5
 a5:=Tryz.isAgg5
 z5:=Tryz.sizeOf5
 v5:=Tryz.zeroValue5
 t9:=Tryz.underlying9
 a9:=Tryz.isAgg9
 z9:=Tryz.sizeOf9
 v9:=Tryz.zeroValue9
 t20:=Tryz.underlying20
 a20:=Tryz.isAgg20
 z20:=Tryz.sizeOf20
 v20:=Tryz.zeroValue20
 t21:=Tryz.underlying21
 a21:=Tryz.isAgg21
 z21:=Tryz.sizeOf21
 v21:=Tryz.zeroValue21
 t37:=Tryz.underlying268
 a37:=Tryz.isAgg268
 z37:=Tryz.sizeOf268
 v37:=Tryz.zeroValue268
 t46:=Tryz.underlying325
 a46:=Tryz.isAgg325
 z46:=Tryz.sizeOf325
 v46:=Tryz.zeroValue325
 t51:=Tryz.underlying23
 a51:=Tryz.isAgg23
 z51:=Tryz.sizeOf23
 v51:=Tryz.zeroValue23
 t53:=Tryz.underlying366
 a53:=Tryz.isAgg366
 z53:=Tryz.sizeOf366
 v53:=Tryz.zeroValue366
 t75:=Tryz.underlying284
 a75:=Tryz.isAgg284
 z75:=Tryz.sizeOf284
 v75:=Tryz.zeroValue284
 t76:=Tryz.underlying285
 a76:=Tryz.isAgg285
 z76:=Tryz.sizeOf285
 v76:=Tryz.zeroValue285
 t85:=Tryz.underlying384
 a85:=Tryz.isAgg384
 z85:=Tryz.sizeOf384
 v85:=Tryz.zeroValue384
 t127:=Tryz.underlying343
 a127:=Tryz.isAgg343
 z127:=Tryz.sizeOf343
 v127:=Tryz.zeroValue343
 t143:=Tryz.underlying403
 a143:=Tryz.isAgg403
 z143:=Tryz.sizeOf403
 v143:=Tryz.zeroValue403
 t145:=Tryz.underlying405
 a145:=Tryz.isAgg405
 z145:=Tryz.sizeOf405
 v145:=Tryz.zeroValue405
 t167:=Tryz.underlying383
 a167:=Tryz.isAgg383
 z167:=Tryz.sizeOf383
 v167:=Tryz.zeroValue383
 t168:=Tryz.underlying386
 a168:=Tryz.isAgg386
 z168:=Tryz.sizeOf386
 v168:=Tryz.zeroValue386
 t171:=Tryz.underlying398
 a171:=Tryz.isAgg398
 z171:=Tryz.sizeOf398
 v171:=Tryz.zeroValue398
 t173:=Tryz.underlying400
 a173:=Tryz.isAgg400
 z173:=Tryz.sizeOf400
 v173:=Tryz.zeroValue400
 t175:=Tryz.underlying393
 a175:=Tryz.isAgg393
 z175:=Tryz.sizeOf393
 v175:=Tryz.zeroValue393
 t210:=Tryz.underlying396
 a210:=Tryz.isAgg396
 z210:=Tryz.sizeOf396
 v210:=Tryz.zeroValue396
 t212:=Tryz.underlying406
 a212:=Tryz.isAgg406
 z212:=Tryz.sizeOf406
 v212:=Tryz.zeroValue406
 t213:=Tryz.underlying407
 a213:=Tryz.isAgg407
 z213:=Tryz.sizeOf407
 t232:=Tryz.underlying408
 a232:=Tryz.isAgg408
 z232:=Tryz.sizeOf408
 v232:=Tryz.zeroValue408
 t233:=Tryz.underlying409
 a233:=Tryz.isAgg409
 z233:=Tryz.sizeOf409
 v233:=Tryz.zeroValue409
 g15:=by kernel_rfl
 g16:=by kernel_rfl
 g17:=by kernel_rfl
 g18:=by kernel_rfl
 g19:=by kernel_rfl
 t80:=Tryz.underlying223
 a80:=Tryz.isAgg223
 z80:=Tryz.sizeOf223
 v80:=Tryz.zeroValue223
 i0:=by kernel_rfl
 i2:=by kernel_rfl
 i3:=by kernel_rfl
 i4:=by kernel_rfl
 i5:=by kernel_rfl
 i9:=by kernel_rfl
 i20:=by kernel_rfl
 i21:=by kernel_rfl
 i37:=by kernel_rfl
 i46:=by kernel_rfl
 i51:=by kernel_rfl
 i53:=by kernel_rfl
 i75:=by kernel_rfl
 i76:=by kernel_rfl
 i80:=by kernel_rfl
 i85:=by kernel_rfl
 i127:=by kernel_rfl
 i143:=by kernel_rfl
 i145:=by kernel_rfl
 i167:=by kernel_rfl
 i168:=by kernel_rfl
 i171:=by kernel_rfl
 i173:=by kernel_rfl
 i175:=by kernel_rfl
 i210:=by kernel_rfl
 i212:=by kernel_rfl
 i232:=by kernel_rfl
 i233:=by kernel_rfl
 m15:=by kernel_rfl
 m16:=by kernel_rfl
 m17:=by kernel_rfl
 m18:=by kernel_rfl
 m19:=by kernel_rfl
 c0:=by kernel_rfl
 c2:=by kernel_rfl
 c3:=by kernel_rfl
 c4:=by kernel_rfl
 c5:=by kernel_rfl
 c9:=by kernel_rfl
 c20:=by kernel_rfl
 c21:=by kernel_rfl
 c37:=by kernel_rfl
 c46:=by kernel_rfl
 c51:=by kernel_rfl
 c53:=by kernel_rfl
 c75:=by kernel_rfl
 c76:=by kernel_rfl
 c80:=by kernel_rfl
 c85:=by kernel_rfl
 c127:=by kernel_rfl
 c143:=by kernel_rfl
 c145:=by kernel_rfl
 c167:=by kernel_rfl
 c168:=by kernel_rfl
 c171:=by kernel_rfl
 c173:=by kernel_rfl
 c175:=by kernel_rfl
 c210:=by kernel_rfl
 c212:=by kernel_rfl
 c213:=by kernel_rfl
 c232:=by kernel_rfl
 c233:=by kernel_rfl }
open Go.RowKit in
theorem Tryz.strconv_Atoi_ok(s:ByteArray)(aa:s.size<=9223372036854775806)(v:Int)(h:Lib.atoiAll s.data.toList=.ok v)(w:World):
  Calls Tryz.prog 267 #[.string s] w fun e w'=>e=.returned (.tuple #[.int .i64 v,.nilIface])/\(w'=w\/∃t,w'=Lib.bytesWorld w 5 t):=Any.strconv_Atoi_ok Tryz.laysC172 s aa v h w
open Go.RowKit in
theorem Tryz.strconv_Atoi_syntax(s:ByteArray)(aa:s.size<=281474976710656)(h:Lib.atoiAll s.data.toList=Lib.NumEnd.syntax)(ev:Value)(w:World)(hv:w.cell? ⟨1,0,none⟩=some ev)(ac:ev=.nilIface\/∃te pe,ev=.iface te pe):
  Calls Tryz.prog 267 #[.string s] w fun e w'=>∃N,e=.returned (.tuple #[.int .i64 (0),.iface 386 (.pointer (some ⟨N,0,none⟩))])/\w.heap.size<=N/\w'.heap[N]?=some (.cells #[.string ⟨#[65,116,111,105]⟩,.string s,ev] 396 (0,0))/\Below w.heap.size w w':=Any.strconv_Atoi_syntax Tryz.laysC172 s aa h ev w hv ac
theorem Tryz.laysM171:Go.Proofs.LaysM.n171 Tryz.prog Tryz.lays171_ren:={ Tryz.lays171 with
 i0:=by kernel_rfl
 i2:=by kernel_rfl
 i3:=by kernel_rfl
 i4:=by kernel_rfl
 i5:=by kernel_rfl
 i9:=by kernel_rfl
 i20:=by kernel_rfl
 i37:=by kernel_rfl
 i46:=by kernel_rfl
 i51:=by kernel_rfl
 i53:=by kernel_rfl
 i171:=by kernel_rfl
 i173:=by kernel_rfl
 i212:=by kernel_rfl
 i232:=by kernel_rfl
 i233:=by kernel_rfl
 m17:=by kernel_rfl
 m18:=by kernel_rfl
 m19:=by kernel_rfl }
open Go.RowKit in
theorem Tryz.strconv_Atoi_range(s:ByteArray)(aa:s.size<=281474976710656)(h:Lib.atoiAll s.data.toList=.range)(ev:Value)(w:World)(hv:w.cell? ⟨2,0,none⟩=some ev)(ac:ev=.nilIface\/∃te pe,ev=.iface te pe):
  Calls Tryz.prog 267 #[.string s] w fun e w'=>∃N,e=.returned (.tuple #[.int .i64 (Lib.atoiSat s.data.toList),.iface 386 (.pointer (some ⟨N,0,none⟩))])/\w.heap.size<=N/\w'.heap[N]?=some (.cells #[.string ⟨#[65,116,111,105]⟩,.string s,ev] 396 (0,0))/\Below w.heap.size w w':=Any.strconv_Atoi_range Tryz.laysC172 s aa h ev w hv ac
open Go.Sort in
theorem Tryz.strconv_Itoa (n:Int) (h0:-9223372036854775808<=n) (h1:n<=9223372036854775807) (w:World) (aa:Lib.TabIs Tryz.prog w "internal/strconv.uint64pow10" .u64 Lib.pow10Tab) :
  Calls Tryz.prog 268 #[.int .i64 n] w fun e w'=>e=.returned (.string ⟨(Lib.itoa n).toArray⟩)/\∃k os,w'=grow (w.drewN k) os:=Any.strconv_Itoa Tryz.laysM171 n h0 h1 w aa
end Go.Proofs
