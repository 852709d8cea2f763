import Derived.Test.YtfaclfkpnmcmlaaGreatDoorJ15
import Derived.Test.YtfaclfkpnmcmlaaGreatDoorJ20
set_option maxHeartbeats 8000000
set_option linter.all false
open Go.Proofs.Tryz
namespace Go.Proofs.YtfaclfkpnmcmlaaGreatDoor
open Go Go.Sx Dg Syn
def Qc:ax prog 278:=⟨_,func278,rfl,rfl⟩
def Qb:ax prog 277:=⟨_,func277,rfl,rfl⟩
def eK(v a vc:Value)(x:Nat×Nat):St:=⟨dn 178 [(0,.v v),(1,.v a),(4,.v vc),(12,.v (E x.1)),(13,.v (E x.2))],[]⟩
def iM(v a vc:Value)(x:Nat×Nat):St:=⟨dn 90 [(0,.v v),(1,.v a),(4,.v vc),(11,.v (E x.1)),(12,.v (E x.2))],[]⟩
variable{a b:Nat}{v vc:Value}{I A:PH}
theorem Uy{d:Array M}{pivot:Nat}(hA:ar I A v d.toList)(hc:ik ae aQ vc)(dd:a<=pivot)(c2:pivot<b)(hb:b<=d.size)(hn:d.size<=ao):
  aT prog 278 #[v,E a,E b,E pivot,vc] I [A] fun r I2 qs=>∃A2,qs=[A2]/\ar I2 A2 v (Sort.partition aQ d a b pivot).2.2.toList/\r=.tuple #[E (Sort.partition aQ d a b pivot).1,.bool (Sort.partition aQ d a b pivot).2.1]:=by
 intro hd;unfold ao at hn;obtain⟨f,fst,cap,rfl,gf,cf⟩:=id hc;obtain⟨g0,vk,rfl⟩:=Ow.addr hA O;refine aP 178 func278 fun w0=>?_
 try simp only[E]
 have w1:IntKind.i64.wrap ((a:Int)+1)=((a+1:Nat):Int):=by
  have e0:(a:Int)+1=((a+1:Nat):Int):=by omega
  rw[e0];exact wrap64 O
 have w2:IntKind.i64.wrap ((b:Int)-1)=((b-1:Nat):Int):=by rw[jX O];omega
 refine ai ?_;obtain⟨g,cp,cur,Q,P,ev,rfl,B,Z,X,L,K,ki,kj,s⟩:=Ow.two hA (fun{I} c a h=>ae.len c a h) (fun{I J c a} h k=>ae.le h k) (i:=a) (j:=pivot) O O;simp only[Value.slice.injEq,a8,Addr.mk.injEq,dV,eW]at ev;obtain⟨eg,ek⟩:=ev;subst eg;subst ek;have mi:(a+1)*7<=d.size*7:=ch _ O;have mj:(pivot+1)*7<=d.size*7:=ch _ O;refine bE [0,1,2,3,4,5,6,7,8,9,10,11,12,13,14,15] [7,11] [] ?_;refine bR ?_;refine⟨O,?_⟩;refine X6 (l:=P) (v:=.agg P.toArray) rfl (cellsU hd (.tail _ (.head _)) (by simpa using kj)) (.inl ⟨by rw[K];exact b9,rfl⟩) ?_;refine bR ?_;refine⟨O,?_⟩;refine X6 (l:=Q) (v:=.agg Q.toArray) rfl (cellsU hd (.tail _ (.head _)) (by simpa using ki)) (.inl ⟨by rw[L];exact b9,rfl⟩) ?_;refine bR ?_;refine⟨O,?_⟩;refine cT hd rfl rfl rfl rfl rfl (dF (ae.ones X)) (by rw[K];exact ep) (by rw[K];omega) fun W=>?_;refine bR ?_;refine⟨O,?_⟩;refine cT W rfl rfl rfl rfl rfl (dF (ae.ones Z)) (by rw[L];exact ep) (by rw[L];simp[eC];omega) fun dc=>?_;apply aL;have cj:=s I (aC _);have am:(Sort.swp d a pivot).size=d.size:=(iP _ _ _).trans rfl;obtain⟨G,ed1⟩:∃G,G=Sort.swp d a pivot:=⟨_,rfl⟩;rw[<-ed1]at cj am;refine dW w1 w2 ?_;have c1:=cj;apply il (fun x=>(b-1)+2-x) (fun x=>eK (.slice (some ⟨g0,0,none⟩) d.size vk) (E a) (.func (.func f) fst cap) (x,(b-1))) (fun x H=>∃n w,H=U [n,w]/\Dj [n,w]/\I.le n/\ar n w (.slice (some ⟨g0,0,none⟩) d.size vk) G.toList/\(a+1)<=x/\x<=(b-1)+2/\Sort.scanUp (fun y=>aQ y G[a]!) G (b-1) x=Sort.scanUp (fun y=>aQ y G[a]!) G (b-1) (a+1)) (fun x H=>∃n w,H=U [n,w]/\Dj [n,w]/\I.le n/\ar n w (.slice (some ⟨g0,0,none⟩) d.size vk) G.toList/\(a+1)<=x/\x<=(b-1)+2/\x=Sort.scanUp (fun y=>aQ y G[a]!) G (b-1) (a+1)) (a+1)
 .exact ak
 .exact(by simp only[go_sem,Y,eK])
 .exact⟨I,_,rfl,‹_›,aC _,‹_›,aR _,O,rfl⟩
 .rintro x H ⟨n,w,rfl,t,o,u,a0,R,e⟩ C p;simp only[eK];rcases aI (b-1) x with b3|bx
  .have q:decide (((x:Nat):Int)<=(((b-1):Nat):Int))=false:=cd O;rw[Sort.scanUp,ab (by simp;omega)]at e;have ac:=e;refine bF ?_;refine bE [0,1,2,3,4,5,6,7,8,9,10,11,12,13,14,15] [8,12] [] ?_;refine bJ q ?_;apply aL;apply cD 3;simp only[go_sem,E];exact p x _ _ ak (by simp only[go_sem,Y,eK]) ⟨n,w,rfl,t,o,u,a0,R,ac⟩
  .have q:decide (((x:Nat):Int)<=(((b-1):Nat):Int))=true:=bl O;rw[Sort.scanUp]at e;have p1:IntKind.i64.wrap ((x:Int)+1)=((x+1:Nat):Int):=by
    have e0:(x:Int)+1=((x+1:Nat):Int):=by omega
    rw[e0];exact wrap64 O
   obtain⟨g,cp,cur,Q,P,ev,rfl,B,Z,X,L,K,ki,kj,s⟩:=Ow.two u (fun{I} c a h=>ae.len c a h) (fun{I J c a} h k=>ae.le h k) (i:=x) (j:=a) O O;rw[am]at ev B;simp only[Value.slice.injEq,a8,Addr.mk.injEq,dV,eW]at ev;obtain⟨eg,ek⟩:=ev;subst eg;subst ek;refine bF ?_;refine bE [0,1,2,3,4,5,6,7,8,9,10,11,12,13,14,15] [8,12] [] ?_;refine bJ q ?_;refine⟨O,?_⟩;refine X6 (l:=Q) (v:=.agg Q.toArray) rfl (cellsU t (.tail _ (.head _)) (by simpa using ki)) (.inl ⟨by rw[L];exact b9,rfl⟩) ?_;refine bJ q ?_;refine⟨O,?_⟩;refine X6 (l:=P) (v:=.agg P.toArray) rfl (cellsU t (.tail _ (.head _)) (by simpa using kj)) (.inl ⟨by rw[K];exact b9,rfl⟩) ?_;refine bJ q ?_;refine cE t [0] [] [_] rfl gf rfl (cf n _ _ _ _ Z X) ?_;rintro v Jy qs F m⟨rfl,z,rfl,T⟩;simp only[Z3]at F |-;refine bR ?_;apply aL;cases V:aQ G[x]! G[a]! with
   |true=>rw[V]at T;rw[ag (by simp[V];omega)]at e;apply RG;simp only[go_sem,E,T,cP,p1];exact C (x+1) _ _ O ak (by simp only[go_sem,Y,eK]) ⟨Jy,_,rfl,F,D o m,ar.le u m,O,O,e⟩
   |false=>rw[V]at T;rw[ab (by simp[V])]at e;apply cD 3;simp only[go_sem,E,T,ds];exact p (x) _ _ ak (by simp only[go_sem,Y,eK]) ⟨Jy,_,rfl,F,D o m,ar.le u m,a0,R,e⟩
 rintro i H ⟨I2,A2,rfl,da,bs,dw,c7,c6,cx⟩;simp only[eK];refine bF ?_;apply il (fun x=>x) (fun x=>eK (.slice (some ⟨g0,0,none⟩) d.size vk) (E a) (.func (.func f) fst cap) (i,x)) (fun x H=>∃n w,H=U [n,w]/\Dj [n,w]/\I2.le n/\ar n w (.slice (some ⟨g0,0,none⟩) d.size vk) G.toList/\x<=(b-1)/\Sort.scanDown (fun y=>!aQ y G[a]!) G i x=Sort.scanDown (fun y=>!aQ y G[a]!) G i (b-1)) (fun x H=>∃n w,H=U [n,w]/\Dj [n,w]/\I2.le n/\ar n w (.slice (some ⟨g0,0,none⟩) d.size vk) G.toList/\x<=(b-1)/\x=Sort.scanDown (fun y=>!aQ y G[a]!) G i (b-1)) (b-1)
 .exact ak
 .exact(by simp only[go_sem,Y,eK])
 .exact⟨I2,_,rfl,‹_›,aC _,‹_›,aR _,rfl⟩
 .rintro x H ⟨n,w,rfl,t,o,u,R,e⟩ C p;simp only[eK];rcases aI x i with b3|bx
  .have q:decide (((i:Nat):Int)<=((x:Nat):Int))=false:=cd O;have ac:x=Sort.scanDown (fun y=>!aQ y G[a]!) G i (b-1):=by
    rw[<-e];cases x with
    |zero=>rw[Sort.scanDown]
    |succ x=>rw[Sort.scanDown,ab (by simp;omega)]
   refine bF ?_;refine bE [0,1,2,3,4,5,6,7,8,9,10,11,12,13,14,15,16] [8,12] [] ?_;refine bJ q ?_;apply aL;apply cD 3;simp only[go_sem,E];exact p x _ _ ak (by simp only[go_sem,Y,eK]) ⟨n,w,rfl,t,o,u,R,ac⟩
  .have q:decide (((i:Nat):Int)<=((x:Nat):Int))=true:=bl O;obtain⟨x,rfl⟩:∃x',x=x'+1:=⟨x-1,O⟩;have p1:=pd (j:=x) O;rw[Sort.scanDown]at e;obtain⟨g,cp,cur,Q,P,ev,rfl,B,Z,X,L,K,ki,kj,s⟩:=Ow.two u (fun{I} c a h=>ae.len c a h) (fun{I J c a} h k=>ae.le h k) (i:=x+1) (j:=a) O O;rw[am]at ev B;simp only[Value.slice.injEq,a8,Addr.mk.injEq,dV,eW]at ev;obtain⟨eg,ek⟩:=ev;subst eg;subst ek;refine bF ?_;refine bE [0,1,2,3,4,5,6,7,8,9,10,11,12,13,14,15,16] [8,12] [] ?_;refine bJ q ?_;refine⟨O,?_⟩;refine X6 (l:=Q) (v:=.agg Q.toArray) rfl (cellsU t (.tail _ (.head _)) (by simpa using ki)) (.inl ⟨by rw[L];exact b9,rfl⟩) ?_;refine bJ q ?_;refine⟨O,?_⟩;refine X6 (l:=P) (v:=.agg P.toArray) rfl (cellsU t (.tail _ (.head _)) (by simpa using kj)) (.inl ⟨by rw[K];exact b9,rfl⟩) ?_;refine bJ q ?_;refine cE t [0] [] [_] rfl gf rfl (cf n _ _ _ _ Z X) ?_;rintro v Jy qs F m⟨rfl,z,rfl,T⟩;simp only[Z3]at F |-;refine bR ?_;apply aL;cases V:aQ G[x+1]! G[a]! with
   |true=>rw[V]at T;rw[ab (by simp[V])]at e;apply cD 3;simp only[go_sem,E,T,cP];exact p (x+1) _ _ ak (by simp only[go_sem,Y,eK]) ⟨Jy,_,rfl,F,D o m,ar.le u m,R,e⟩
   |false=>rw[V]at T;rw[ag (by simp[V];omega)]at e;apply RG;simp only[go_sem,E,T,ds,p1];exact C x _ _ O ak (by simp only[go_sem,Y,eK]) ⟨Jy,_,rfl,F,D o m,ar.le u m,O,e⟩
 rintro j H ⟨I3,A3,rfl,aS,bc,ci,c4,cn⟩;simp only[eK];have hP:Sort.partition aQ d a b pivot=if i>j then (j,true,Sort.swp G j a)else ((Sort.partLoop aQ a (i+1) (j-1) (Sort.swp G i j)).1,false,Sort.swp (Sort.partLoop aQ a (i+1) (j-1) (Sort.swp G i j)).2 (Sort.partLoop aQ a (i+1) (j-1) (Sort.swp G i j)).1 a):=by unfold Sort.partition;simp only[<-ed1,<-cx,<-cn]
 have k3:=D bs bc;by_cases cb:i>j
 .have aq:decide ((i:Int)>(j:Int))=true:=bl O;rw[ag cb]at hP;rw[hP];refine be aq ?_;obtain⟨g,cp,cur,Q,P,ev,rfl,B,Z,X,L,K,ki,kj,s⟩:=Ow.two ci (fun{I} c a h=>ae.len c a h) (fun{I J c a} h k=>ae.le h k) (i:=j) (j:=a) O O;rw[am]at ev B;simp only[Value.slice.injEq,a8,Addr.mk.injEq,dV,eW]at ev;obtain⟨eg,ek⟩:=ev;subst eg;subst ek;have mi:(j+1)*7<=d.size*7:=ch _ O;have mj:(a+1)*7<=d.size*7:=ch _ O;refine bE [0,1,2,3,4,5,6,7,8,9,10,11,12,13,14,15] [7,11] [] ?_;refine bR ?_;refine⟨O,?_⟩;refine X6 (l:=P) (v:=.agg P.toArray) rfl (cellsU aS (.tail _ (.head _)) (by simpa using kj)) (.inl ⟨by rw[K];exact b9,rfl⟩) ?_;refine bR ?_;refine⟨O,?_⟩;refine X6 (l:=Q) (v:=.agg Q.toArray) rfl (cellsU aS (.tail _ (.head _)) (by simpa using ki)) (.inl ⟨by rw[L];exact b9,rfl⟩) ?_;refine bR ?_;refine⟨O,?_⟩;refine cT aS rfl rfl rfl rfl rfl (dF (ae.ones X)) (by rw[K];exact ep) (by rw[K];omega) fun W=>?_;refine bR ?_;refine⟨O,?_⟩;refine cT W rfl rfl rfl rfl rfl (dF (ae.ones Z)) (by rw[L];exact ep) (by rw[L];simp[eC];omega) fun b5=>?_;apply aL;have a5:=s I3 (aC _);have a6:(Sort.swp G j a).size=d.size:=(iP _ _ _).trans am;refine bF ?_;exact az rfl b5 (r:=[E j,.bool true]) rfl k3 ⟨_,rfl,a5,rfl⟩
 have aq:decide ((i:Int)>(j:Int))=false:=cd O;rw[ab cb]at hP;rw[hP];clear hP;refine be aq ?_;obtain⟨g,cp,cur,Q,P,ev,rfl,B,Z,X,L,K,ki,kj,s⟩:=Ow.two ci (fun{I} c a h=>ae.len c a h) (fun{I J c a} h k=>ae.le h k) (i:=i) (j:=j) O O;rw[am]at ev B;simp only[Value.slice.injEq,a8,Addr.mk.injEq,dV,eW]at ev;obtain⟨eg,ek⟩:=ev;subst eg;subst ek;have mi:(i+1)*7<=d.size*7:=ch _ O;have mj:(j+1)*7<=d.size*7:=ch _ O;refine bE [0,1,2,3,4,5,6,7,8,9,10,11,12,13,14,15] [7,11] [] ?_;refine bR ?_;refine⟨O,?_⟩;refine X6 (l:=P) (v:=.agg P.toArray) rfl (cellsU aS (.tail _ (.head _)) (by simpa using kj)) (.inl ⟨by rw[K];exact b9,rfl⟩) ?_;refine bR ?_;refine⟨O,?_⟩;refine X6 (l:=Q) (v:=.agg Q.toArray) rfl (cellsU aS (.tail _ (.head _)) (by simpa using ki)) (.inl ⟨by rw[L];exact b9,rfl⟩) ?_;refine bR ?_;refine⟨O,?_⟩;refine cT aS rfl rfl rfl rfl rfl (dF (ae.ones X)) (by rw[K];exact ep) (by rw[K];omega) fun W=>?_;refine bR ?_;refine⟨O,?_⟩;refine cT W rfl rfl rfl rfl rfl (dF (ae.ones Z)) (by rw[L];exact ep) (by rw[L];simp[eC];omega) fun b5=>?_;apply aL;have a5:=s I3 (aC _);have a6:(Sort.swp G i j).size=d.size:=(iP _ _ _).trans am;obtain⟨d4,ed4⟩:∃d4,d4=Sort.swp G i j:=⟨_,rfl⟩;rw[<-ed4]at a5 a6 |-;have w3:IntKind.i64.wrap ((i:Int)+1)=((i+1:Nat):Int):=by
  have e0:(i:Int)+1=((i+1:Nat):Int):=by omega
  rw[e0];exact wrap64 O
 have w4:IntKind.i64.wrap ((j:Int)-1)=((j-1:Nat):Int):=by rw[jX O];omega
 refine dW w3 w4 ?_;apply il (fun x=>x.2+3-x.1) (fun x=>eK (.slice (some ⟨g0,0,none⟩) d.size vk) (E a) (.func (.func f) fst cap) x) (fun x H=>∃I5 A5 N,H=U [I5,A5]/\Dj [I5,A5]/\I3.le I5/\N.size=d.size/\ar I5 A5 (.slice (some ⟨g0,0,none⟩) d.size vk) N.toList/\1<=x.1/\x.1<=x.2+2/\x.2<=b-1/\Sort.partLoop aQ a x.1 x.2 N=Sort.partLoop aQ a (i+1) (j-1) d4) (fun x H=>∃I5 A5,H=U [I5,A5]/\Dj [I5,A5]/\I3.le I5/\(Sort.partLoop aQ a (i+1) (j-1) d4).2.size=d.size/\ar I5 A5 (.slice (some ⟨g0,0,none⟩) d.size vk) (Sort.partLoop aQ a (i+1) (j-1) d4).2.toList/\x.2<=b-1/\x.2=(Sort.partLoop aQ a (i+1) (j-1) d4).1) (i+1,j-1)
 .exact ak
 .exact(by simp only[go_sem,Y,eK])
 .exact⟨I3,_,d4,rfl,b5,aC _,a6,a5,by simp only;omega,by simp only;omega,by simp only;omega,rfl⟩
 .rintro⟨i5,j5⟩ H ⟨I5,A5,N,rfl,c9,bb,a1,dv,cy,b1,cs,aa⟩ an ap;simp only at cy b1 cs aa;simp only[eK];refine bF ?_;apply il (fun x=>j5+2-x) (fun x=>eK (.slice (some ⟨g0,0,none⟩) d.size vk) (E a) (.func (.func f) fst cap) (x,j5)) (fun x H=>∃n w,H=U [n,w]/\Dj [n,w]/\I5.le n/\ar n w (.slice (some ⟨g0,0,none⟩) d.size vk) N.toList/\i5<=x/\x<=j5+2/\Sort.scanUp (fun y=>aQ y N[a]!) N j5 x=Sort.scanUp (fun y=>aQ y N[a]!) N j5 i5) (fun x H=>∃n w,H=U [n,w]/\Dj [n,w]/\I5.le n/\ar n w (.slice (some ⟨g0,0,none⟩) d.size vk) N.toList/\i5<=x/\x<=j5+2/\x=Sort.scanUp (fun y=>aQ y N[a]!) N j5 i5) i5
  .exact ak
  .exact(by simp only[go_sem,Y,eK])
  .exact⟨I5,_,rfl,‹_›,aC _,‹_›,aR _,O,rfl⟩
  .rintro x H ⟨n,w,rfl,t,o,u,a0,R,e⟩ C p;simp only[eK];rcases aI j5 x with b3|bx
   .have q:decide (((x:Nat):Int)<=((j5:Nat):Int))=false:=cd O;rw[Sort.scanUp,ab (by simp;omega)]at e;have ac:=e;refine bF ?_;refine bE [0,1,2,3,4,5,6,7,8,9,10,11,12,13,14,15] [8,12] [] ?_;refine bJ q ?_;apply aL;apply cD 3;simp only[go_sem,E];exact p x _ _ ak (by simp only[go_sem,Y,eK]) ⟨n,w,rfl,t,o,u,a0,R,ac⟩
   .have q:decide (((x:Nat):Int)<=((j5:Nat):Int))=true:=bl O;rw[Sort.scanUp]at e;have p1:IntKind.i64.wrap ((x:Int)+1)=((x+1:Nat):Int):=by
     have e0:(x:Int)+1=((x+1:Nat):Int):=by omega
     rw[e0];exact wrap64 O
    obtain⟨g,cp,cur,Q,P,ev,rfl,B,Z,X,L,K,ki,kj,s⟩:=Ow.two u (fun{I} c a h=>ae.len c a h) (fun{I J c a} h k=>ae.le h k) (i:=x) (j:=a) O O;rw[a1]at ev B;simp only[Value.slice.injEq,a8,Addr.mk.injEq,dV,eW]at ev;obtain⟨eg,ek⟩:=ev;subst eg;subst ek;refine bF ?_;refine bE [0,1,2,3,4,5,6,7,8,9,10,11,12,13,14,15] [8,12] [] ?_;refine bJ q ?_;refine⟨O,?_⟩;refine X6 (l:=Q) (v:=.agg Q.toArray) rfl (cellsU t (.tail _ (.head _)) (by simpa using ki)) (.inl ⟨by rw[L];exact b9,rfl⟩) ?_;refine bJ q ?_;refine⟨O,?_⟩;refine X6 (l:=P) (v:=.agg P.toArray) rfl (cellsU t (.tail _ (.head _)) (by simpa using kj)) (.inl ⟨by rw[K];exact b9,rfl⟩) ?_;refine bJ q ?_;refine cE t [0] [] [_] rfl gf rfl (cf n _ _ _ _ Z X) ?_;rintro v Jy qs F m⟨rfl,z,rfl,T⟩;simp only[Z3]at F |-;refine bR ?_;apply aL;cases V:aQ N[x]! N[a]! with
    |true=>rw[V]at T;rw[ag (by simp[V];omega)]at e;apply RG;simp only[go_sem,E,T,cP,p1];exact C (x+1) _ _ O ak (by simp only[go_sem,Y,eK]) ⟨Jy,_,rfl,F,D o m,ar.le u m,O,O,e⟩
    |false=>rw[V]at T;rw[ab (by simp[V])]at e;apply cD 3;simp only[go_sem,E,T,ds];exact p (x) _ _ ak (by simp only[go_sem,Y,eK]) ⟨Jy,_,rfl,F,D o m,ar.le u m,a0,R,e⟩
  rintro S H ⟨I6,A6,rfl,c8,ba,dk,c5,hi6b,b2⟩;simp only[eK];refine bF ?_;apply il (fun x=>x) (fun x=>eK (.slice (some ⟨g0,0,none⟩) d.size vk) (E a) (.func (.func f) fst cap) (S,x)) (fun x H=>∃n w,H=U [n,w]/\Dj [n,w]/\I6.le n/\ar n w (.slice (some ⟨g0,0,none⟩) d.size vk) N.toList/\x<=j5/\Sort.scanDown (fun y=>!aQ y N[a]!) N S x=Sort.scanDown (fun y=>!aQ y N[a]!) N S j5) (fun x H=>∃n w,H=U [n,w]/\Dj [n,w]/\I6.le n/\ar n w (.slice (some ⟨g0,0,none⟩) d.size vk) N.toList/\x<=j5/\x=Sort.scanDown (fun y=>!aQ y N[a]!) N S j5) j5
  .exact ak
  .exact(by simp only[go_sem,Y,eK])
  .exact⟨I6,_,rfl,‹_›,aC _,‹_›,aR _,rfl⟩
  .rintro x H ⟨n,w,rfl,t,o,u,R,e⟩ C p;simp only[eK];rcases aI x S with b3|bx
   .have q:decide (((S:Nat):Int)<=((x:Nat):Int))=false:=cd O;have ac:x=Sort.scanDown (fun y=>!aQ y N[a]!) N S j5:=by
     rw[<-e];cases x with
     |zero=>rw[Sort.scanDown]
     |succ x=>rw[Sort.scanDown,ab (by simp;omega)]
    refine bF ?_;refine bE [0,1,2,3,4,5,6,7,8,9,10,11,12,13,14,15,16] [8,12] [] ?_;refine bJ q ?_;apply aL;apply cD 3;simp only[go_sem,E];exact p x _ _ ak (by simp only[go_sem,Y,eK]) ⟨n,w,rfl,t,o,u,R,ac⟩
   .have q:decide (((S:Nat):Int)<=((x:Nat):Int))=true:=bl O;obtain⟨x,rfl⟩:∃x',x=x'+1:=⟨x-1,O⟩;have p1:=pd (j:=x) O;rw[Sort.scanDown]at e;obtain⟨g,cp,cur,Q,P,ev,rfl,B,Z,X,L,K,ki,kj,s⟩:=Ow.two u (fun{I} c a h=>ae.len c a h) (fun{I J c a} h k=>ae.le h k) (i:=x+1) (j:=a) O O;rw[a1]at ev B;simp only[Value.slice.injEq,a8,Addr.mk.injEq,dV,eW]at ev;obtain⟨eg,ek⟩:=ev;subst eg;subst ek;refine bF ?_;refine bE [0,1,2,3,4,5,6,7,8,9,10,11,12,13,14,15,16] [8,12] [] ?_;refine bJ q ?_;refine⟨O,?_⟩;refine X6 (l:=Q) (v:=.agg Q.toArray) rfl (cellsU t (.tail _ (.head _)) (by simpa using ki)) (.inl ⟨by rw[L];exact b9,rfl⟩) ?_;refine bJ q ?_;refine⟨O,?_⟩;refine X6 (l:=P) (v:=.agg P.toArray) rfl (cellsU t (.tail _ (.head _)) (by simpa using kj)) (.inl ⟨by rw[K];exact b9,rfl⟩) ?_;refine bJ q ?_;refine cE t [0] [] [_] rfl gf rfl (cf n _ _ _ _ Z X) ?_;rintro v Jy qs F m⟨rfl,z,rfl,T⟩;simp only[Z3]at F |-;refine bR ?_;apply aL;cases V:aQ N[x+1]! N[a]! with
    |true=>rw[V]at T;rw[ab (by simp[V])]at e;apply cD 3;simp only[go_sem,E,T,cP];exact p (x+1) _ _ ak (by simp only[go_sem,Y,eK]) ⟨Jy,_,rfl,F,D o m,ar.le u m,R,e⟩
    |false=>rw[V]at T;rw[ag (by simp[V];omega)]at e;apply RG;simp only[go_sem,E,T,ds,p1];exact C x _ _ O ak (by simp only[go_sem,Y,eK]) ⟨Jy,_,rfl,F,D o m,ar.le u m,O,e⟩
  rintro j7 H ⟨I7,A7,rfl,a4,a9,cc,c3,b0⟩;simp only[eK];rw[Sort.partLoop_eq,<-b2,<-b0]at aa;have b8:=D bb (D ba a9);by_cases a3:S>j7
  .have aq:decide ((S:Int)>(j7:Int))=true:=bl O;rw[ag a3]at aa;apply cD 8;simp only[go_sem,E,aq];exact ap (S,j7) _ _ ak (by simp only[go_sem,Y,eK]) ⟨I7,A7,rfl,a4,b8,by rw[<-aa];exact a1,by rw[<-aa];exact cc,by simp only;omega,by rw[<-aa]⟩
  have aq:decide ((S:Int)>(j7:Int))=false:=cd O;rw[ab a3]at aa;refine be aq ?_;obtain⟨g,cp,cur,Q,P,ev,rfl,B,Z,X,L,K,ki,kj,s⟩:=Ow.two cc (fun{I} c a h=>ae.len c a h) (fun{I J c a} h k=>ae.le h k) (i:=S) (j:=j7) O O;rw[a1]at ev B;simp only[Value.slice.injEq,a8,Addr.mk.injEq,dV,eW]at ev;obtain⟨eg,ek⟩:=ev;subst eg;subst ek;have mi:(S+1)*7<=d.size*7:=ch _ O;have mj:(j7+1)*7<=d.size*7:=ch _ O;refine bE [0,1,2,3,4,5,6,7,8,9,10,11,12,13,14,15] [7,11] [] ?_;refine bR ?_;refine⟨O,?_⟩;refine X6 (l:=P) (v:=.agg P.toArray) rfl (cellsU a4 (.tail _ (.head _)) (by simpa using kj)) (.inl ⟨by rw[K];exact b9,rfl⟩) ?_;refine bR ?_;refine⟨O,?_⟩;refine X6 (l:=Q) (v:=.agg Q.toArray) rfl (cellsU a4 (.tail _ (.head _)) (by simpa using ki)) (.inl ⟨by rw[L];exact b9,rfl⟩) ?_;refine bR ?_;refine⟨O,?_⟩;refine cT a4 rfl rfl rfl rfl rfl (dF (ae.ones X)) (by rw[K];exact ep) (by rw[K];omega) fun W=>?_;refine bR ?_;refine⟨O,?_⟩;refine cT W rfl rfl rfl rfl rfl (dF (ae.ones Z)) (by rw[L];exact ep) (by rw[L];simp[eC];omega) fun cA=>?_;apply aL;have c0:=s I7 (aC _);have cl:(Sort.swp N S j7).size=d.size:=(iP _ _ _).trans a1;have w8:IntKind.i64.wrap ((S:Int)+1)=((S+1:Nat):Int):=by
   have e0:(S:Int)+1=((S+1:Nat):Int):=by omega
   rw[e0];exact wrap64 O
  have w9:IntKind.i64.wrap ((j7:Int)-1)=((j7-1:Nat):Int):=by rw[jX O];omega
  refine dW w8 w9 ?_;exact an (S+1,j7-1) _ _ bh ak (by simp only[go_sem,Y,eK]) ⟨I7,_,_,rfl,cA,b8,cl,c0,by simp only;omega,by simp only;omega,by simp only;omega,aa⟩
 rintro⟨i9,j9⟩ H ⟨I9,A9,rfl,b4,a7,ca,cB,cr,a2⟩;simp only at cr a2;simp only[eK];rw[<-a2];generalize (Sort.partLoop aQ a (i+1) (j-1) d4).2=d9 at *;refine bF ?_;obtain⟨g,cp,cur,Q,P,ev,rfl,B,Z,X,L,K,ki,kj,s⟩:=Ow.two cB (fun{I} c a h=>ae.len c a h) (fun{I J c a} h k=>ae.le h k) (i:=j9) (j:=a) O O;rw[ca]at ev B;simp only[Value.slice.injEq,a8,Addr.mk.injEq,dV,eW]at ev;obtain⟨eg,ek⟩:=ev;subst eg;subst ek;have mi:(j9+1)*7<=d.size*7:=ch _ O;have mj:(a+1)*7<=d.size*7:=ch _ O;refine bE [0,1,2,3,4,5,6,7,8,9,10,11,12,13,14,15] [7,11] [] ?_;refine bR ?_;refine⟨O,?_⟩;refine X6 (l:=P) (v:=.agg P.toArray) rfl (cellsU b4 (.tail _ (.head _)) (by simpa using kj)) (.inl ⟨by rw[K];exact b9,rfl⟩) ?_;refine bR ?_;refine⟨O,?_⟩;refine X6 (l:=Q) (v:=.agg Q.toArray) rfl (cellsU b4 (.tail _ (.head _)) (by simpa using ki)) (.inl ⟨by rw[L];exact b9,rfl⟩) ?_;refine bR ?_;refine⟨O,?_⟩;refine cT b4 rfl rfl rfl rfl rfl (dF (ae.ones X)) (by rw[K];exact ep) (by rw[K];omega) fun W=>?_;refine bR ?_;refine⟨O,?_⟩;refine cT W rfl rfl rfl rfl rfl (dF (ae.ones Z)) (by rw[L];exact ep) (by rw[L];simp[eC];omega) fun b6=>?_;apply aL;have b7:=s I9 (aC _);have cm:(Sort.swp d9 j9 a).size=d.size:=(iP _ _ _).trans ca;refine bF ?_;exact az rfl b6 (r:=[E j9,.bool false]) rfl (D k3 a7) ⟨_,rfl,b7,rfl⟩
open Go.Sort (PermIn SortedIn SWO permIn_refl permIn_trans permIn_mono swp_permIn)
def Aa:ax prog 284:=⟨_,func284,rfl,rfl⟩
def tw(v a vc:Value)(x:Nat×Nat):St:=⟨dn 220 [(0,.v v),(1,.v a),(4,.v vc),(10,.v (E x.1)),(11,.v (E x.2))],[]⟩
def BF(v vi:Value)(k:Nat):St:=⟨dn 220 [(0,.v v),(10,.v vi),(13,.v (E k))],[]⟩
def tx(v a vc:Value)(x:Nat×Nat):St:=⟨dn 220 [(0,.v v),(2,.v a),(4,.v vc),(14,.v (E x.1)),(15,.v (E x.2))],[]⟩
def BG(v vi:Value)(k:Nat):St:=⟨dn 220 [(0,.v v),(14,.v vi),(17,.v (E k))],[]⟩
def l9(v e c vb vc d b a:Value)(x:Nat×Nat):St:=⟨dn 220 [(0,.v v),(1,.v e),(2,.v c),(3,.v vb),(4,.v vc),(18,.v d),(19,.v b),(20,.v (E x.1)),(21,.v (E x.2)),(22,.v a)],[]⟩
def vJ(v:Value)(d:Array aG)(a b:Nat):Value->PH->List PH->Prop:=fun _ g f=>∃c e,f=[c]/\bj g c v e.toList/\PermIn a b d e/\SortedIn cQ a b e
def yx(v d vb vc c a b:Value):St:=⟨dn 220 [(0,.v v),(1,.v d),(3,.v vb),(4,.v vc),(18,.v c),(20,.v a),(24,.v b)],[]⟩
def yy(v vb vc b a:Value):St:=⟨dn 220 [(0,.v v),(3,.v vb),(4,.v vc),(18,.v b),(24,.v a)],[]⟩
def Cr{C:Cx}{k:List Item}(σ0:St)(Z:PH->Prop){P:Prop}(h1:(∀H,Z H->RC C (.st k) σ0 H)->P)(h:∀H,Z H->RC C (.st k) σ0 H):P:=h1 h
theorem iX.triv{α:Type}[Inhabited α]{m i j:Nat}{d:Array α}(h:i=0\/j=0)(hi:i<=m):iX m i j d d:=fun k=>by
 by_cases h1:m-i<=k/\k<m-i+j
 .rw[ag h1];congr 1;omega
 .rw[ab h1];by_cases h2:m-i+j<=k/\k<m+j
  .rw[ag h2];congr 1;omega
  .rw[ab h2]
variable{d:Array aG}
theorem Wy{m:Nat}(hA:bj I A v d.toList)(hc:ik bi cQ vc)(a0:m=a+1)(a6:m<b)(hb:b<=d.size)(hn:d.size<=ao)(hs:SortedIn cQ m b d):
  aT prog 284 #[v,E a,E m,E b,vc] I [A] (vJ v d a b):=by
 intro hd;unfold ao at hn;obtain⟨f,fst,cap,rfl,gf,cf⟩:=id hc;obtain⟨g0,S,rfl⟩:=Ow.addr hA O;refine aP 220 func284 fun w0=>?_
 try simp only[E]
 have w1:IntKind.i64.wrap ((m:Int)-(a:Int))=1:=by rw[fu O O];omega
 have q1:((1:Int) == 1)=true:=rfl;refine lI w1 q1 ?_;apply il (fun x=>x.2-x.1) (fun x=>tw (.slice (some ⟨g0,0,none⟩) d.size S) (E a) (.func (.func f) fst cap) x) (fun x H=>∃q B,H=U [q,B]/\Dj [q,B]/\I.le q/\bj q B (.slice (some ⟨g0,0,none⟩) d.size S) d.toList/\m<=x.1/\x.1<=x.2/\x.2<=b/\(x.1=m\/cQ d[x.1-1]! d[a]! = true)/\(x.2=b\/cQ d[x.2]! d[a]! = false)) (fun x H=>∃q B,H=U [q,B]/\Dj [q,B]/\I.le q/\bj q B (.slice (some ⟨g0,0,none⟩) d.size S) d.toList/\m<=x.1/\x.1<=b/\(x.1=m\/cQ d[x.1-1]! d[a]! = true)/\(x.1=b\/cQ d[x.1]! d[a]! = false)) (m,b)
 .exact ak
 .exact(by simp only[go_sem,Y,tw])
 .exact⟨I,A,rfl,hd,aC _,hA,aR _,by simp only;omega,aR _,.inl rfl,.inl rfl⟩
 .rintro⟨i,j⟩ H ⟨q,B,rfl,u,o,w,hi,an,hj,Q,hr⟩ y K;simp only at hi an hj Q hr;simp only[tw];rcases aI i j with ac|ap
  .have P:=Z5 i j;have a1:(i:Int)+(j:Int)=((i+j:Nat):Int):=by omega
   have a2:=wrap64 (n:=i+j) O;have a3:=vU (n:=i+j) O;have a4:l8 .u64 (((i+j:Nat)):Int) 1=(((i+j) / 2:Nat):Int):=by have:=ye (a:=i+j) (i:=1) O;rw[qK]at this;exact this
   obtain⟨h,eh⟩:∃h,h=(i+j) / 2:=⟨_,rfl⟩;rw[<-eh]at a4;have a5:=wrap64 (n:=h) O;apply RG;simp only[go_sem,E,P,a1,a2,a3,a4,a5];obtain⟨g,cp,cur,ci,cj,ev,rfl,L,ri,rj,V,T,ki,kj,F⟩:=Ow.two w (fun{I} c a h=>bi.len c a h) (fun{I J c a} h k=>bi.le h k) (i:=h) (j:=a) O O;rw[(show d.size=d.size from rfl)]at ev L;simp only[Value.slice.injEq,a8,Addr.mk.injEq,dV,eW]at ev;obtain⟨eg,ek⟩:=ev;subst eg;subst ek;refine bE [0,1,2,3,4,5,6,7,8,9,10] [4,8] [] ?_;refine bR ?_;refine⟨O,?_⟩;refine X6 (l:=ci) (v:=.agg ci.toArray) rfl (cellsU u (.tail _ (.head _)) (by simpa using ki)) (.inl ⟨by rw[V];exact gA,rfl⟩) ?_;refine bR ?_;refine⟨O,?_⟩;refine X6 (l:=cj) (v:=.agg cj.toArray) rfl (cellsU u (.tail _ (.head _)) (by simpa using kj)) (.inl ⟨by rw[T];exact gA,rfl⟩) ?_;refine bR ?_;refine cE u [0] [] [_] rfl gf rfl (cf q _ _ _ _ ri rj) ?_;rintro v I3 qs p t⟨rfl,z,rfl,hz⟩;simp only[Z3]at p |-;refine bR ?_;apply aL;cases s:cQ d[h]! d[a]! with
   |true=>
    rw[s]at hz;have w3:IntKind.i64.wrap ((h:Int)+1)=((h+1:Nat):Int):=by
     have e0:(h:Int)+1=((h+1:Nat):Int):=by omega
     rw[e0];exact wrap64 O
    refine dW hz w3 ?_;exact y (h+1,j) _ _ bh ak (by simp only[go_sem,Y,tw]) ⟨I3,_,rfl,p,D o t,bj.le w t,by simp only;omega,by simp only;omega,hj,.inr s,hr⟩
   |false=>rw[s]at hz;refine be hz ?_;exact y (i,h) _ _ bh ak (by simp only[go_sem,Y,tw]) ⟨I3,_,rfl,p,D o t,bj.le w t,hi,by simp only;omega,by simp only;omega,Q,.inr s⟩
  .have P:decide ((i:Int)<(j:Int))=false:=cd O;have:i=j:=by omega
   subst this;apply cD 9;simp only[go_sem,E,P];exact K (i,i) _ _ ak (by simp only[go_sem,Y,tw]) ⟨q,B,rfl,u,o,w,hi,hj,Q,hr⟩
 rintro⟨i,j⟩ H ⟨q,B,rfl,u,o,w,hi,W,Q,hr⟩;simp only at hi W Q hr;simp only[tw];refine bF ?_;have w4:IntKind.i64.wrap ((i:Int)-1)=((i-1:Nat):Int):=by rw[jX O];omega
 refine bY (fun k=>i-k) (BF (.slice (some ⟨g0,0,none⟩) d.size S) (E i)) (fun k H=>∃A3 e,H=U [q,A3]/\Dj [q,A3]/\a<=k/\k<=i-1/\e.size=d.size/\bj q A3 (.slice (some ⟨g0,0,none⟩) d.size S) e.toList/\qT a k d e/\PermIn a b d e) a ak (by simp only[go_sem,Y,BF]) ?_ ?_
 .exact⟨B,d,rfl,u,aR _,O,rfl,w,qT.zero _ _,permIn_refl _ _ _⟩
 rintro k H ⟨A3,e,rfl,p,am,a7,G,aa,Z,X⟩ C;simp only[BF];rcases aI k (i-1)with ac|ap
 .have N:=Z5 k (i-1);have R:IntKind.i64.wrap ((k:Int)+1)=((k+1:Nat):Int):=by
   have e0:(k:Int)+1=((k+1:Nat):Int):=by omega
   rw[e0];exact wrap64 O
  refine dW w4 N ?_;obtain⟨g,cp,cur,ci,cj,ev,rfl,L,ri,rj,V,T,ki,kj,F⟩:=Ow.two aa (fun{I} c a h=>bi.len c a h) (fun{I J c a} h k=>bi.le h k) (i:=k) (j:=k+1) O O;rw[G]at ev L;simp only[Value.slice.injEq,a8,Addr.mk.injEq,dV,eW]at ev;obtain⟨eg,ek⟩:=ev;subst eg;subst ek;have mi:(k+1)*4<=d.size*4:=ch _ O;have mj:((k+1)+1)*4<=d.size*4:=ch _ O;refine bE [0,1,2,3,4,5,6,7,8,9,10,11,12,13,14,15,16,17] [9,13] [] ?_;refine bJ R ?_;refine⟨O,?_⟩;refine X6 (l:=cj) (v:=.agg cj.toArray) rfl (cellsU p (.tail _ (.head _)) (by simpa using kj)) (.inl ⟨by rw[T];exact gA,rfl⟩) ?_;refine bJ R ?_;refine⟨O,?_⟩;refine X6 (l:=ci) (v:=.agg ci.toArray) rfl (cellsU p (.tail _ (.head _)) (by simpa using ki)) (.inl ⟨by rw[V];exact gA,rfl⟩) ?_;refine bJ R ?_;refine⟨O,?_⟩;refine cT p rfl rfl rfl rfl rfl (dF (bi.ones rj)) (by rw[T];exact o4) (by rw[T];omega) fun aq=>?_;refine bJ R ?_;refine⟨O,?_⟩;refine cT aq rfl rfl rfl rfl rfl (dF (bi.ones ri)) (by rw[V];exact o4) (by rw[V];simp[eC];omega) fun aS=>?_;apply aL;refine be R ?_;exact C (k+1) _ _ O ak (by simp only[go_sem,Y,BF]) ⟨_,_,rfl,aS,O,O,by rw[iP];exact G,F q (aC _),Z.step G am O,permIn_trans _ _ _ a b X (swp_permIn _ a b _ _ O O O O O)⟩
 .have N:decide ((k:Int)<((i-1:Nat):Int))=false:=cd O;have:k=i-1:=by omega
  subst this;refine dW w4 N ?_;exact az rfl p (r:=[]) rfl o ⟨A3,e,rfl,aa,X,Rs BE a0 hs hi W Q hr Z⟩
theorem Wz{m:Nat}(hA:bj I A v d.toList)(hc:ik bi cQ vc)(a7:a+1<m)(ac:b=m+1)(hb:b<=d.size)(hn:d.size<=ao)(hs:SortedIn cQ a m d):
  aT prog 284 #[v,E a,E m,E b,vc] I [A] (vJ v d a b):=by
 intro hd;unfold ao at hn;obtain⟨f,fst,cap,rfl,gf,cf⟩:=id hc;obtain⟨g0,T,rfl⟩:=Ow.addr hA O;refine aP 220 func284 fun w0=>?_
 try simp only[E]
 have w1:IntKind.i64.wrap ((m:Int)-(a:Int))=((m-a:Nat):Int):=by rw[fu O O];omega
 have w2:IntKind.i64.wrap ((b:Int)-(m:Int))=1:=by rw[fu O O];omega
 have q1:(((m-a:Nat):Int) == 1)=false:=by rw[iU];omega
 have q2:((1:Int) == 1)=true:=rfl;apply RG;simp only[go_sem,w1,w2,q1,q2];apply il (fun x=>x.2-x.1) (fun x=>tx (.slice (some ⟨g0,0,none⟩) d.size T) (E m) (.func (.func f) fst cap) x) (fun x H=>∃q B,H=U [q,B]/\Dj [q,B]/\I.le q/\bj q B (.slice (some ⟨g0,0,none⟩) d.size T) d.toList/\a<=x.1/\x.1<=x.2/\x.2<=m/\(x.1=a\/cQ d[m]! d[x.1-1]! = false)/\(x.2=m\/cQ d[m]! d[x.2]! = true)) (fun x H=>∃q B,H=U [q,B]/\Dj [q,B]/\I.le q/\bj q B (.slice (some ⟨g0,0,none⟩) d.size T) d.toList/\a<=x.1/\x.1<=m/\(x.1=a\/cQ d[m]! d[x.1-1]! = false)/\(x.1=m\/cQ d[m]! d[x.1]! = true)) (a,m)
 .exact ak
 .exact(by simp only[go_sem,Y,tx])
 .exact⟨I,A,rfl,hd,aC _,hA,aR _,by simp only;omega,aR _,.inl rfl,.inl rfl⟩
 .rintro⟨i,j⟩ H ⟨q,B,rfl,u,o,w,hi,ap,hj,R,hr⟩ y L;simp only at hi ap hj R hr;simp only[tx];rcases aI i j with am|aq
  .have Q:=Z5 i j;have a1:(i:Int)+(j:Int)=((i+j:Nat):Int):=by omega
   have a2:=wrap64 (n:=i+j) O;have a3:=vU (n:=i+j) O;have a4:l8 .u64 (((i+j:Nat)):Int) 1=(((i+j) / 2:Nat):Int):=by have:=ye (a:=i+j) (i:=1) O;rw[qK]at this;exact this
   obtain⟨h,eh⟩:∃h,h=(i+j) / 2:=⟨_,rfl⟩;rw[<-eh]at a4;have a5:=wrap64 (n:=h) O;apply RG;simp only[go_sem,E,Q,a1,a2,a3,a4,a5];obtain⟨g,cp,cur,ci,cj,ev,rfl,N,ri,rj,W,V,ki,kj,F⟩:=Ow.two w (fun{I} c a h=>bi.len c a h) (fun{I J c a} h k=>bi.le h k) (i:=m) (j:=h) O O;rw[(show d.size=d.size from rfl)]at ev N;simp only[Value.slice.injEq,a8,Addr.mk.injEq,dV,eW]at ev;obtain⟨eg,ek⟩:=ev;subst eg;subst ek;refine bE [0,1,2,3,4,5,6,7,8,9,10,11] [4,8] [] ?_;refine bR ?_;refine⟨O,?_⟩;refine X6 (l:=ci) (v:=.agg ci.toArray) rfl (cellsU u (.tail _ (.head _)) (by simpa using ki)) (.inl ⟨by rw[W];exact gA,rfl⟩) ?_;refine bR ?_;refine⟨O,?_⟩;refine X6 (l:=cj) (v:=.agg cj.toArray) rfl (cellsU u (.tail _ (.head _)) (by simpa using kj)) (.inl ⟨by rw[V];exact gA,rfl⟩) ?_;refine bR ?_;refine cE u [0] [] [_] rfl gf rfl (cf q _ _ _ _ ri rj) ?_;rintro v I3 qs p t⟨rfl,z,rfl,hz⟩;simp only[Z3]at p |-;refine bR ?_;apply aL;cases s:cQ d[m]! d[h]! with
   |false=>
    rw[s]at hz;have w3:IntKind.i64.wrap ((h:Int)+1)=((h+1:Nat):Int):=by
     have e0:(h:Int)+1=((h+1:Nat):Int):=by omega
     rw[e0];exact wrap64 O
    apply RG;simp only[go_sem,E,hz,ds,w3];exact y (h+1,j) _ _ bh ak (by simp only[go_sem,Y,tx]) ⟨I3,_,rfl,p,D o t,bj.le w t,by simp only;omega,by simp only;omega,hj,.inr s,hr⟩
   |true=>rw[s]at hz;apply RG;simp only[go_sem,E,hz,cP];exact y (i,h) _ _ bh ak (by simp only[go_sem,Y,tx]) ⟨I3,_,rfl,p,D o t,bj.le w t,hi,by simp only;omega,by simp only;omega,R,.inr s⟩
  .have Q:decide ((i:Int)<(j:Int))=false:=cd O;have:i=j:=by omega
   subst this;apply cD 9;simp only[go_sem,E,Q];exact L (i,i) _ _ ak (by simp only[go_sem,Y,tx]) ⟨q,B,rfl,u,o,w,hi,hj,R,hr⟩
 rintro⟨i,j⟩ H ⟨q,B,rfl,u,o,w,hi,K,R,hr⟩;simp only at hi K R hr;simp only[tx];refine bF ?_;refine bY (fun k=>k) (BG (.slice (some ⟨g0,0,none⟩) d.size T) (E i)) (fun k H=>∃A3 e,H=U [q,A3]/\Dj [q,A3]/\i<=k/\k<=m/\e.size=d.size/\bj q A3 (.slice (some ⟨g0,0,none⟩) d.size T) e.toList/\qS m k d e/\PermIn a b d e) m ak (by simp only[go_sem,Y,BG]) ?_ ?_
 .exact⟨B,d,rfl,u,K,aR _,rfl,w,qS.zero _ _,permIn_refl _ _ _⟩
 rintro k H ⟨A3,e,rfl,p,a6,an,G,aa,Z,X⟩ C;simp only[BG];rcases aI i k with am|aq
 .obtain⟨k,rfl⟩:∃k',k=k'+1:=⟨k-1,O⟩;have P:decide (((k+1:Nat):Int)>(i:Int))=true:=bl O;have S:=pd (j:=k) O;refine be P ?_;obtain⟨g,cp,cur,ci,cj,ev,rfl,N,ri,rj,W,V,ki,kj,F⟩:=Ow.two aa (fun{I} c a h=>bi.len c a h) (fun{I J c a} h k=>bi.le h k) (i:=k+1) (j:=k) O O;rw[G]at ev N;simp only[Value.slice.injEq,a8,Addr.mk.injEq,dV,eW]at ev;obtain⟨eg,ek⟩:=ev;subst eg;subst ek;have mi:((k+1)+1)*4<=d.size*4:=ch _ O;have mj:(k+1)*4<=d.size*4:=ch _ O;refine bE [0,1,2,3,4,5,6,7,8,9,10,11,12,13,14,15,16,17] [9,13] [] ?_;refine bJ S ?_;refine⟨O,?_⟩;refine X6 (l:=cj) (v:=.agg cj.toArray) rfl (cellsU p (.tail _ (.head _)) (by simpa using kj)) (.inl ⟨by rw[V];exact gA,rfl⟩) ?_;refine bJ S ?_;refine⟨O,?_⟩;refine X6 (l:=ci) (v:=.agg ci.toArray) rfl (cellsU p (.tail _ (.head _)) (by simpa using ki)) (.inl ⟨by rw[W];exact gA,rfl⟩) ?_;refine bJ S ?_;refine⟨O,?_⟩;refine cT p rfl rfl rfl rfl rfl (dF (bi.ones rj)) (by rw[V];exact o4) (by rw[V];omega) fun aS=>?_;refine bJ S ?_;refine⟨O,?_⟩;refine cT aS rfl rfl rfl rfl rfl (dF (bi.ones ri)) (by rw[W];exact o4) (by rw[W];simp[eC];omega) fun a0=>?_;apply aL;refine be S ?_;exact C k _ _ O ak (by simp only[go_sem,Y,BG]) ⟨_,_,rfl,a0,O,O,by rw[iP];exact G,F q (aC _),Z.step G an O,permIn_trans _ _ _ a b X (swp_permIn _ a b _ _ O O O O O)⟩
 .have P:decide ((k:Int)>(i:Int))=false:=cd O;have:k=i:=by omega
  subst this;refine be P ?_;exact az rfl p (r:=[]) rfl o ⟨A3,e,rfl,aa,X,Ro BE ac hs hi K R hr Z⟩
theorem K0:∀(N:Nat) {I A:PH} {v vc:Value} {d:Array aG} {a m b:Nat},b-a<N->bj I A v d.toList->ik bi cQ vc->a<m->m<b->b<=d.size->d.size<=ao->SortedIn cQ a m d->SortedIn cQ m b d->
  aT prog 284 #[v,E a,E m,E b,vc] I [A] (vJ v d a b):=by
 intro N
 induction N with
 |zero=>intro I A v vc d a m b h;omega
 |succ N ih=>
 intro I A v vc d a m b hN hA hc cn b7 hb hn b0 bx;by_cases c1:m=a+1
 .exact Wy hA hc c1 b7 hb hn bx
 by_cases c2:b=m+1
 .exact Wz hA hc O c2 hb hn b0
 intro hd;have cb:=hn;unfold ao at cb;obtain⟨f,fst,cap,rfl,gf,cf⟩:=id hc;obtain⟨g0,vk,rfl⟩:=Ow.addr hA O;refine aP 220 func284 fun w0=>?_
 try simp only[E]
 have w1:IntKind.i64.wrap ((m:Int)-(a:Int))=((m-a:Nat):Int):=by rw[fu O O];omega
 have w2:IntKind.i64.wrap ((b:Int)-(m:Int))=((b-m:Nat):Int):=by rw[fu O O];omega
 have q1:(((m-a:Nat):Int) == 1)=false:=by rw[iU];omega
 have q2:(((b-m:Nat):Int) == 1)=false:=by rw[iU];omega
 have a1:(a:Int)+(b:Int)=((a+b:Nat):Int):=by omega
 have a2:=wrap64 (n:=a+b) O;have a3:=vU (n:=a+b) O;have a4:l8 .u64 (((a+b:Nat)):Int) 1=(((a+b) / 2:Nat):Int):=by have:=ye (a:=a+b) (i:=1) O;rw[qK]at this;exact this
 obtain⟨o,emid⟩:∃o,o=(a+b) / 2:=⟨_,rfl⟩;rw[<-emid]at a4;have a5:=wrap64 (n:=o) O;have w3:IntKind.i64.wrap ((o:Int)+(m:Int))=((o+m:Nat):Int):=by
  have e0:(o:Int)+(m:Int)=((o+m:Nat):Int):=by omega
  rw[e0];exact wrap64 O
 have w4:IntKind.i64.wrap (((o+m:Nat):Int)-1)=((o+m-1:Nat):Int):=by
  have e0:((o+m:Nat):Int)-1=((o+m-1:Nat):Int):=by omega
  rw[e0];exact wrap64 O
 obtain⟨S,T,cB,c0⟩:∃S T,(m>o/\S=o+m-b\/m<=o/\S=a)/\(m>o/\T=o\/m<=o/\T=m):=by
  rcases aI o m with h|h
  .exact⟨o+m-b,o,.inl ⟨h,rfl⟩,.inl ⟨h,rfl⟩⟩
  .exact⟨a,m,.inr ⟨h,rfl⟩,.inr ⟨h,rfl⟩⟩
 have aS:S<=T/\a<=S/\T<=m/\T<=o/\o+m-S<=b:=by omega
 apply Cr (l9 (.slice (some ⟨g0,0,none⟩) d.size vk) (E a) (E m) (E b) (.func (.func f) fst cap) (E o) (E (o+m)) (E (o+m-1)) (S,T)) (fun H=>H=U [I,A])
 .intro t;rcases aI o m with cc|cc
  .have aq:decide ((m:Int)>(o:Int))=true:=bl O;have es:S=o+m-b:=by omega
   have er:T=o:=by omega
   have w5:IntKind.i64.wrap (((o+m:Nat):Int)-(b:Int))=((o+m-b:Nat):Int):=by rw[fu O O];omega
   apply cD 67;simp only[go_sem,w1,w2,q1,q2,a1,a2,a3,a4,a5,w3,w4,aq,w5];refine gI ?_ ?_ (t _ rfl)
   .simp only[l9];rw[es,er];exact ak
   .exact(by simp only[go_sem,Y,l9])
  .have aq:decide ((m:Int)>(o:Int))=false:=cd O;have es:S=a:=by omega
   have er:T=m:=by omega
   apply cD 65;simp only[go_sem,w1,w2,q1,q2,a1,a2,a3,a4,a5,w3,w4,aq];refine gI ?_ ?_ (t _ rfl)
   .simp only[l9];rw[es,er];exact ak
   .exact(by simp only[go_sem,Y,l9])
 rintro H rfl;simp only[l9];refine bF ?_;apply il (fun x=>x.2-x.1) (fun x=>l9 (.slice (some ⟨g0,0,none⟩) d.size vk) (E a) (E m) (E b) (.func (.func f) fst cap) (E o) (E (o+m)) (E (o+m-1)) x) (fun x H=>∃R Z,H=U [R,Z]/\Dj [R,Z]/\I.le R/\bj R Z (.slice (some ⟨g0,0,none⟩) d.size vk) d.toList/\S<=x.1/\x.1<=x.2/\x.2<=T/\(x.1=S\/cQ d[o+m-x.1]! d[x.1-1]! = false)/\(x.2=T\/cQ d[o+m-x.2-1]! d[x.2]! = true)) (fun x H=>∃R Z,H=U [R,Z]/\Dj [R,Z]/\I.le R/\bj R Z (.slice (some ⟨g0,0,none⟩) d.size vk) d.toList/\S<=x.1/\x.1<=T/\(x.1=S\/cQ d[o+m-x.1]! d[x.1-1]! = false)/\(x.1=T\/cQ d[o+m-x.1-1]! d[x.1]! = true)) (S,T)
 .exact ak
 .exact(by simp only[go_sem,Y,l9])
 .exact⟨I,A,rfl,hd,aC _,hA,aR _,aS.1,aR _,.inl rfl,.inl rfl⟩
 .rintro⟨i,j⟩ H ⟨R,Z,rfl,F,w,G,hi,cl,hj,hl,hr⟩ aa a0;simp only at hi cl hj hl hr;simp only[l9];rcases aI i j with c5|c6
  .have ap:=Z5 i j;have b1:(i:Int)+(j:Int)=((i+j:Nat):Int):=by omega
   have b2:=wrap64 (n:=i+j) O;have b3:=vU (n:=i+j) O;have b4:l8 .u64 (((i+j:Nat)):Int) 1=(((i+j) / 2:Nat):Int):=by have:=ye (a:=i+j) (i:=1) O;rw[qK]at this;exact this
   obtain⟨h,eh⟩:∃h,h=(i+j) / 2:=⟨_,rfl⟩;rw[<-eh]at b4;have b5:=wrap64 (n:=h) O;have w7:IntKind.i64.wrap (((o+m-1:Nat):Int)-(h:Int))=((o+m-1-h:Nat):Int):=by rw[fu O O];omega
   apply RG;simp only[go_sem,E,ap,b1,b2,b3,b4,b5];obtain⟨g,cp,cur,ci,cj,ev,rfl,cm,ri,rj,li,lj,ki,kj,ca⟩:=Ow.two G (fun{I} c a h=>bi.len c a h) (fun{I J c a} h k=>bi.le h k) (i:=o+m-1-h) (j:=h) O O;rw[(show d.size=d.size from rfl)]at ev cm;simp only[Value.slice.injEq,a8,Addr.mk.injEq,dV,eW]at ev;obtain⟨eg,ek⟩:=ev;subst eg;subst ek;refine bE [0,1,2,3,4,5,6,7,8,9,10,11,12,13] [6,10] [] ?_;refine bJ w7 ?_;refine⟨O,?_⟩;refine X6 (l:=ci) (v:=.agg ci.toArray) rfl (cellsU F (.tail _ (.head _)) (by simpa using ki)) (.inl ⟨by rw[li];exact gA,rfl⟩) ?_;refine bJ w7 ?_;refine⟨O,?_⟩;refine X6 (l:=cj) (v:=.agg cj.toArray) rfl (cellsU F (.tail _ (.head _)) (by simpa using kj)) (.inl ⟨by rw[lj];exact gA,rfl⟩) ?_;refine bJ w7 ?_;refine cE F [0] [] [_] rfl gf rfl (cf R _ _ _ _ ri rj) ?_;rintro v I3 qs B u⟨rfl,z,rfl,hz⟩;simp only[Z3]at B |-;refine bR ?_;apply aL;cases V:cQ d[o+m-1-h]! d[h]! with
   |false=>
    rw[V]at hz;have w8:IntKind.i64.wrap ((h:Int)+1)=((h+1:Nat):Int):=by
     have e0:(h:Int)+1=((h+1:Nat):Int):=by omega
     rw[e0];exact wrap64 O
    apply RG;simp only[go_sem,E,hz,ds,w8];exact aa (h+1,j) _ _ bh ak (by simp only[go_sem,Y,l9]) ⟨I3,_,rfl,B,D w u,bj.le G u,by simp only;omega,by simp only;omega,hj,.inr (by simp only;rw[show o+m-(h+1)=o+m-1-h by omega];exact V),hr⟩
   |true=>rw[V]at hz;apply RG;simp only[go_sem,E,hz,cP];exact aa (i,h) _ _ bh ak (by simp only[go_sem,Y,l9]) ⟨I3,_,rfl,B,D w u,bj.le G u,hi,by simp only;omega,by simp only;omega,hl,.inr (by simp only;rw[show o+m-h-1=o+m-1-h by omega];exact V)⟩
  .have ap:decide ((i:Int)<(j:Int))=false:=cd O;have:i=j:=by omega
   subst this;apply cD 9;simp only[go_sem,E,ap];exact a0 (i,i) _ _ ak (by simp only[go_sem,Y,l9]) ⟨R,Z,rfl,F,w,G,hi,hj,hl,hr⟩
 rintro⟨s,j⟩ H ⟨R,Z,rfl,F,w,G,hi,hj,hl,hr⟩;simp only at hi hj hl hr;simp only[l9];have ba:a<=s/\s<=m/\s<=o/\m<=o+m-s/\o+m-s<=b/\o<=o+m-s:=by omega
 have w9:IntKind.i64.wrap (((o+m:Nat):Int)-(s:Int))=((o+m-s:Nat):Int):=by rw[fu O O];omega
 obtain⟨z,ez⟩:∃z,z=o+m-s:=⟨_,rfl⟩;rw[<-ez]at w9 hl hr ba;apply Cr (yx (.slice (some ⟨g0,0,none⟩) d.size vk) (E a) (E b) (.func (.func f) fst cap) (E o) (E s) (E z)) (fun H=>∃I3 A3 e,H=U [I3,A3]/\Dj [I3,A3]/\I.le I3/\bj I3 A3 (.slice (some ⟨g0,0,none⟩) d.size vk) e.toList/\PermIn a b d e/\iX m (m-s) (z-m) d e)
 .intro t;by_cases c3:s<m/\m<z
  .have P:=Z5 s m;have an:=Z5 m z;refine nm w9 P an ?_;refine au F [0] [Z] [] rfl Qh rfl (Vf (a:=s) (m:=m) (b:=z) G c3.1 c3.2 O hn) ?_;rintro v I3 qs B u⟨A3,e,rfl,a7,X,bc⟩;simp only[Z3]at B |-;apply cD 1;simp only[go_sem,E];refine gI ?_ ?_ (t _ ⟨I3,A3,e,rfl,B,D w u,a7,permIn_mono _ _ s z a b O O hb X,bc⟩)
   .exact ak
   .exact(by simp only[go_sem,Y,yx])
  .have b6:m-s=0\/z-m=0:=by omega
   rcases aI s m with c4|c4
   .have P:=Z5 s m;have an:decide ((m:Int)<(z:Int))=false:=cd O;apply cD 21;simp only[go_sem,E,w9,P,an];refine gI ?_ ?_ (t _ ⟨R,Z,d,rfl,F,w,G,permIn_refl _ _ _,iX.triv b6 O⟩)
    .exact ak
    .exact(by simp only[go_sem,Y,yx])
   .have P:decide ((s:Int)<(m:Int))=false:=cd O;apply cD 21;simp only[go_sem,E,w9,P];refine gI ?_ ?_ (t _ ⟨R,Z,d,rfl,F,w,G,permIn_refl _ _ _,iX.triv b6 O⟩)
    .exact ak
    .exact(by simp only[go_sem,Y,yx])
 rintro H ⟨I3,A3,e,rfl,B,u,a7,X,bc⟩;have cA:=X.1;rw[ez]at bc hl hr;obtain⟨y1,y2,y3,y4,y5⟩:=WA BE (lC cn) (lC b7) b0 bx emid ba.1 ba.2.1 ba.2.2.1 O O ⟨fun hm=>by
  rcases hl with h|h
  .exact .inl O
  .exact .inr (.inr h),fun hm=>by
  rcases hl with h|h
  .exact .inl O
  .exact .inr h⟩ (by
  rcases hr with h|h
  .refine .inl ?_;split<;>omega
  .exact .inr h) bc
 rw[<-ez]at y3 y4;simp only[yx];apply Cr (yy (.slice (some ⟨g0,0,none⟩) d.size vk) (E b) (.func (.func f) fst cap) (E o) (E z)) (fun H=>∃I4 A4 e2,H=U [I4,A4]/\Dj [I4,A4]/\I.le I4/\bj I4 A4 (.slice (some ⟨g0,0,none⟩) d.size vk) e2.toList/\PermIn a o e e2/\SortedIn cQ a o e2)
 .intro t;by_cases c3:a<s/\s<o
  .have L:=Z5 a s;have am:=Z5 s o;refine dW L am ?_;refine au B [0] [A3] [] rfl Aa rfl (ih (a:=a) (m:=s) (b:=o) O a7 hc c3.1 c3.2 O O y1 y2) ?_;rintro v I4 qs W C⟨A4,e2,rfl,a6,Q,bb⟩;simp only[Z3]at W |-;apply cD 1;simp only[go_sem,E];refine gI ?_ ?_ (t _ ⟨I4,A4,e2,rfl,W,D u C,a6,Q,bb⟩)
   .exact ak
   .exact(by simp only[go_sem,Y,yy])
  .have a9:SortedIn cQ a o e:=by
    rcases aI a s with h|h
    .have:s=o:=by omega
     rw[<-this];exact y1
    .have:s=a:=by omega
     rw[<-this];exact y2
   rcases aI a s with c4|c4
   .have L:=Z5 a s;have am:decide ((s:Int)<(o:Int))=false:=cd O;apply cD 14;simp only[go_sem,E,L,am];refine gI ?_ ?_ (t _ ⟨I3,A3,e,rfl,B,u,a7,permIn_refl _ _ _,a9⟩)
    .exact ak
    .exact(by simp only[go_sem,Y,yy])
   .have L:decide ((a:Int)<(s:Int))=false:=cd O;apply cD 14;simp only[go_sem,E,L];refine gI ?_ ?_ (t _ ⟨I3,A3,e,rfl,B,u,a7,permIn_refl _ _ _,a9⟩)
    .exact ak
    .exact(by simp only[go_sem,Y,yy])
 rintro H ⟨I4,A4,e2,rfl,W,C,a6,Q,bb⟩;have cy:=Q.1;simp only[yy];have tr:∀x y,o<=x->SortedIn cQ x y e->SortedIn cQ x y e2:=fun x y hx h i j h1 h2 h3=>by rw[Q.2.1 i (.inr O),Q.2.1 j (.inr O)];exact h i j h1 h2 h3
 by_cases c3:o<z/\z<b
 .have K:=Z5 o z;have ac:=Z5 z b;refine dW K ac ?_;refine au W [0] [A4] [] rfl Aa rfl (ih (a:=o) (m:=z) (b:=b) O a6 hc c3.1 c3.2 O O (tr _ _ (aR _) y3) (tr _ _ O y4)) ?_;rintro v I5 qs b8 bs⟨A5,e3,rfl,cx,cs,cr⟩;simp only[Z3]at b8 |-;refine bF ?_;obtain⟨p,q⟩:=K1 O O O y5 Q bb cs cr;exact jM rfl b8 (r:=[]) rfl (D C bs) ⟨A5,e3,rfl,cx,permIn_trans _ _ _ a b X p,q⟩
 .have a9:SortedIn cQ o b e2:=by
   rcases aI o z with h|h
   .have:z=b:=by omega
    rw[<-this];exact tr _ _ (aR _) y3
   .have:z=o:=by omega
    exact tr _ _ (aR _) (this▸y4)
  obtain⟨p,q⟩:=K1 O O O y5 Q bb (permIn_refl _ _ _) a9;rcases aI o z with c4|c4
  .have K:=Z5 o z;have ac:decide ((z:Int)<(b:Int))=false:=cd O;refine dW K ac ?_;exact jM rfl W (r:=[]) rfl C ⟨A4,e2,rfl,a6,permIn_trans _ _ _ a b X p,q⟩
  .have K:decide ((o:Int)<(z:Int))=false:=cd O;refine be K ?_;exact jM rfl W (r:=[]) rfl C ⟨A4,e2,rfl,a6,permIn_trans _ _ _ a b X p,q⟩
def PT:ax prog 235:=⟨_,func235,rfl,rfl⟩
def Px:ax prog 167:=⟨_,func167,rfl,rfl⟩
def Ip(h:bj I A v d.toList)(g:ik bi cQ vc)(c:a<=b)(hb:b<=d.size)(e:d.size<=ao):
  aT prog 283 #[v,E a,E b,vc] I [A] (vJ v d a b):=
 (Rm h g hb e O).mono fun r k j f ⟨i,e1,e2⟩=>⟨i,_,e1,e2,Sort.insertionSort_holds BE d a b c hb⟩
def vC(v b vc:Value)(a:Nat):St:=⟨dn 63 [(0,.v v),(1,.v b),(2,.v vc),(6,.v (.int .i64 20)),(7,.v (E a)),(8,.v (E (a+20)))],[]⟩
def yb(v a vc:Value)(s:Nat):St:=⟨dn 63 [(0,.v v),(1,.v a),(2,.v vc),(6,.v (E s))],[]⟩
def vD(v b vc:Value)(s a:Nat):St:=⟨dn 63 [(0,.v v),(1,.v b),(2,.v vc),(6,.v (E s)),(7,.v (E a)),(8,.v (E (a+2*s)))],[]⟩
def BV(h:a+b<2^62):IntKind.i64.wrap ((a:Int)+(b:Int))=((a+b:Nat):Int):=by rw[<-wrap64 h];congr 1<;>omega
def XE{s:Nat}(h:2*s<2^62):IntKind.i64.wrap (2*(s:Int))=((2*s:Nat):Int):=by rw[<-wrap64 h];congr 1<;>omega
def XF{s:Nat}(h:2*s<2^62):IntKind.i64.wrap ((s:Int)*2)=((2*s:Nat):Int):=by rw[<-wrap64 h];congr 1<;>omega
theorem Wk(hA:bj I A v d.toList)(hc:ik bi cQ vc)(hn:d.size<=ao):
  aT prog 235 #[v,E d.size,vc] I [A] (vJ v d 0 d.size):=by
 intro hd;have bc:=hn;unfold ao at bc;obtain⟨f,fst,cap,rfl,gf,cf⟩:=id hc;obtain⟨va,vk,rfl⟩:=Ow.one' hA;refine aP 63 func235 fun w0=>?_
 try simp only[E]
 refine ai ?_;apply il (fun a=>d.size-a) (fun a=>vC (.slice va d.size vk) (E d.size) (.func (.func f) fst cap) a) (fun a H=>∃q F G e,H=U [F,G]/\Dj [F,G]/\I.le F/\bj F G (.slice va d.size vk) e.toList/\PermIn 0 d.size d e/\a=20*q/\a<=d.size/\gK cQ 20 a e) (fun a H=>∃q F G e,H=U [F,G]/\Dj [F,G]/\I.le F/\bj F G (.slice va d.size vk) e.toList/\PermIn 0 d.size d e/\a=20*q/\a<=d.size/\d.size<a+20/\gK cQ 20 a e) 0
 .exact ak
 .exact(by simp only[go_sem,Y,vC])
 .exact⟨0,I,A,d,rfl,hd,aC _,hA,permIn_refl _ _ _,rfl,aF _,gK.zero _ _⟩
 .rintro a H ⟨q,F,G,e,rfl,R,p,X,z,c,w,V⟩ g an;have bb:=z.1;simp only[vC];rcases aI d.size (a+20)with i|u
  .have a5:decide (((a+20:Nat):Int)<=(d.size:Int))=false:=cd O;apply cD 9;simp only[go_sem,E,a5];exact an a _ _ ak (by simp only[go_sem,Y,vC]) ⟨q,F,G,e,rfl,R,p,X,z,c,w,i,V⟩
  .have a5:decide (((a+20:Nat):Int)<=(d.size:Int))=true:=bl O;have w1:IntKind.i64.wrap (((a+20:Nat):Int)+20)=((a+20+20:Nat):Int):=BV (b:=20) O;refine be a5 ?_;refine au R [0] [G] [] rfl H5 rfl (Ip (a:=a) (b:=a+20) X hc O O O) ?_;rintro v I3 qs Q L⟨A3,e3,rfl,a1,x,ap⟩;simp only[Z3]at Q |-;refine be w1 ?_;subst c;exact g (20*q+20) _ _ O ak (by simp only[go_sem,Y,vC]) ⟨q+1,I3,A3,e3,rfl,Q,D p L,a1,permIn_trans _ _ _ 0 d.size z (permIn_mono _ _ (20*q) (20*q+20) 0 d.size O u O x),O,u,V.step O (aR _) x ap⟩
 rintro a H ⟨q,F,G,e,rfl,R,p,X,z,c,w,i,V⟩;have bb:=z.1;simp only[vC];refine bF ?_;refine au R [0] [G] [] rfl H5 rfl (Ip (a:=a) (b:=d.size) X hc O O O) ?_;rintro v I3 qs Q L⟨A3,e3,rfl,a1,x,ap⟩;simp only[Z3]at Q |-;refine bF ?_;subst c;have b1:gK cQ 20 d.size e3:=V.step O O x ap;have aS:=permIn_trans _ _ _ 0 d.size z (permIn_mono _ _ (20*q) d.size 0 d.size O (aR _) O x);clear V x ap X R i w;have k3:=D p L;refine bY (fun s=>d.size-s) (fun s=>yb (.slice va d.size vk) (E d.size) (.func (.func f) fst cap) s) (fun s H=>∃I4 A4 e4,H=U [I4,A4]/\Dj [I4,A4]/\I.le I4/\bj I4 A4 (.slice va d.size vk) e4.toList/\PermIn 0 d.size d e4/\0<s/\gK cQ s d.size e4) 20 ak (by simp only[go_sem,Y,yb]) ?_ ?_
 .exact⟨I3,A3,e3,rfl,Q,k3,a1,aS,O,b1⟩
 rintro s H ⟨I4,A4,e4,rfl,a6,am,a9,aq,J,a7⟩ g;have b2:=aq.1;simp only[yb];rcases aI s d.size with b3|b0
 rotate_left
 .have a4:decide ((s:Int)<(d.size:Int))=false:=cd O;refine be a4 ?_;exact jM rfl a6 (r:=[]) rfl am ⟨A4,e4,rfl,a9,aq,a7.all b0⟩
 have a4:=Z5 s d.size;have w2:=XE (s:=s) O;have w3:=XF (s:=s) O;refine dW a4 w2 ?_;apply il (fun a=>d.size-a) (fun a=>vD (.slice va d.size vk) (E d.size) (.func (.func f) fst cap) s a) (fun a H=>∃q B C t,H=U [B,C]/\Dj [B,C]/\I.le B/\bj B C (.slice va d.size vk) t.toList/\PermIn 0 d.size d t/\a=2*s*q/\a<=d.size/\gK cQ (2*s) a t/\q9 cQ s a d.size t) (fun a H=>∃q B C t,H=U [B,C]/\Dj [B,C]/\I.le B/\bj B C (.slice va d.size vk) t.toList/\PermIn 0 d.size d t/\a=2*s*q/\a<=d.size/\d.size<a+2*s/\gK cQ (2*s) a t/\q9 cQ s a d.size t) 0
 .exact(ft (by simp only[go_sem,Y,E,ii]))
 .exact(by simp only[go_sem,Y,vD])
 .exact⟨0,I4,A4,e4,rfl,a6,am,a9,aq,by simp,aF _,gK.zero _ _,a7.runs⟩
 .rintro a H ⟨q,B,C,t,rfl,P,h,W,o,c,w,j,n⟩ aa ac;have ba:=o.1;have p1:s*(2*q)=a:=by rw[c,Nat.mul_left_comm,Nat.mul_assoc]
  have p2:s*(2*q+1)=a+s:=by rw[Nat.mul_add,Nat.mul_one,p1]
  simp only[vD];rcases aI d.size (a+2*s)with i|u
  .have a3:decide (((a+2*s:Nat):Int)<=(d.size:Int))=false:=cd O;apply cD 9;simp only[go_sem,E,a3];exact ac a _ _ ak (by simp only[go_sem,Y,vD]) ⟨q,B,C,t,rfl,P,h,W,o,c,w,i,j,n⟩
  .have a3:decide (((a+2*s:Nat):Int)<=(d.size:Int))=true:=bl O;have w4:=BV (a:=a) (b:=s) O;have w5:=BV (a:=a+2*s) (b:=2*s) O;have Z:=n.at' J O (y:=a+s) (q:=2*q) O O;have y2:=n.at' J O (y:=a+2*s) (q:=2*q+1) O u;rw[p1]at Z;rw[p2]at y2;refine dW a3 w4 ?_;refine au P [0] [C] [] rfl Aa rfl (K0 (a+2*s-a+1) (a:=a) (m:=a+s) (b:=a+2*s) O W hc O O O O Z y2) ?_;rintro v I6 qs N K⟨A6,e6,rfl,a0,l,S⟩;simp only[Z3]at N |-;refine dW w2 w5 ?_;have T:gK cQ (2*s) (a+2*s) e6:=by rw[c]at j l S |-;exact j.step O (aR _) l S
   exact aa (a+2*s) _ _ O ak (by simp only[go_sem,Y,vD]) ⟨q+1,I6,A6,e6,rfl,N,D h K,a0,permIn_trans _ _ _ 0 d.size o (permIn_mono _ _ a (a+2*s) 0 d.size O u O l),by rw[Nat.mul_add,Nat.mul_one,<-c],u,T,n.keep O fun k hk=>l.2.1 k (.inr hk)⟩
 rintro a H ⟨q,B,C,t,rfl,P,h,W,o,c,w,i,j,n⟩;have ba:=o.1;have p1:s*(2*q)=a:=by rw[c,Nat.mul_left_comm,Nat.mul_assoc]
 have p2:s*(2*q+1)=a+s:=by rw[Nat.mul_add,Nat.mul_one,p1]
 have w4:=BV (a:=a) (b:=s) O;simp only[vD];rcases aI (a+s) d.size with bs|bx
 .have a2:=Z5 (a+s) d.size;have Z:=n.at' J O (y:=a+s) (q:=2*q) O O;have y2:=n.at' J O (y:=d.size) (q:=2*q+1) O (aR _);rw[p1]at Z;rw[p2]at y2;refine dW w4 a2 ?_;refine au P [0] [C] [] rfl Aa rfl (K0 (d.size-a+1) (a:=a) (m:=a+s) (b:=d.size) O W hc O O O O Z y2) ?_;rintro v I6 qs N K⟨A6,e6,rfl,a0,l,S⟩;simp only[Z3]at N |-;refine be w3 ?_;have T:gK cQ (2*s) d.size e6:=by rw[c]at j l S i;exact j.step O O l S
  exact g (2*s) _ _ O ak (by simp only[go_sem,Y,yb]) ⟨I6,A6,e6,rfl,N,D h K,a0,permIn_trans _ _ _ 0 d.size o (permIn_mono _ _ a d.size 0 d.size O (aR _) O l),O,T⟩
 .have a2:decide (((a+s:Nat):Int)<(d.size:Int))=false:=cd O;have Z:=n.at' J O (y:=d.size) (q:=2*q) O (aR _);rw[p1]at Z;refine nm w4 a2 w3 ?_;have T:gK cQ (2*s) d.size t:=by rw[c]at j Z i;exact j.rest O Z O
  exact g (2*s) _ _ O ak (by simp only[go_sem,Y,yb]) ⟨B,C,t,rfl,P,h,W,o,O,T⟩
def VW(i:bj I A v d.toList)(h:ik bi cQ vc)(k:d.size<=ao):
  aT prog 167 #[v,vc] I [A] (vJ v d 0 d.size):=by
 intro hd;obtain⟨f,fst,cap,rfl,p,q⟩:=id h;obtain⟨n,m,rfl⟩:=Ow.one' i;refine aP 9 func167 fun w0=>?_;refine ai ?_;refine au hd [0] [A] [] rfl PT rfl (Wk i h k) ?_;rintro v s o b a⟨l,e2,rfl,g,e,c⟩;simp only[Z3]at b |-;refine ai ?_;exact jM rfl b (r:=[]) rfl a ⟨l,e2,rfl,g,e,c⟩
end Go.Proofs.YtfaclfkpnmcmlaaGreatDoor
