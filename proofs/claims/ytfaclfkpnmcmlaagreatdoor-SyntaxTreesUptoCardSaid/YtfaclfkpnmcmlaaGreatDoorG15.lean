import Derived.Test.YtfaclfkpnmcmlaaGreatDoorG04
import Derived.Test.YtfaclfkpnmcmlaaGreatDoorG14
set_option maxHeartbeats 8000000
set_option linter.all false
open Go.Proofs.Tryz hiding f9
namespace Go.Proofs.YtfaclfkpnmcmlaaGreatDoor
open Go Go.Sx Dg Syn
def CF:ay prog 309:=⟨_,func309,rfl,rfl⟩
def CE:ay prog 300:=⟨_,func300,rfl,rfl⟩
def CD:ay prog 299:=⟨_,func299,rfl,rfl⟩
def PG:ay prog 274:=⟨_,func274,rfl,rfl⟩
abbrev iJ(b n:Nat):PH:=sg b (.cells #[E n] 3 (0,0))
variable{a b:Nat}{d:Array Nd}{v vc:Value}{I A:PH}
def Dp{n sb:Nat}(x:aT I A v d.toList)(Q:gu az aO vc)(ha:a<d.size)(hb:b<d.size)(N:d.size<=bF)(V:n<2^20):
  aI prog 309 #[v,E a,E b,pt sb,vc] I [A,iJ sb n] fun r I2 qs=>qs=[A,iJ sb (Sort.order2 aO d a b n).2.2]/\r=.tuple #[E (Sort.order2 aO d a b n).1,E (Sort.order2 aO d a b n).2.1]:=by
 intro hd;unfold bF at N;obtain⟨f,fst,cap,rfl,R,S⟩:=id Q;obtain⟨U,T,rfl⟩:=Ow.one' x;refine aG 32 func309 fun w0=>?_
 try simp only[E,pt]
 have C:IntKind.i64.wrap ((n:Int)+1)=((n+1:Nat):Int):=by have e0:(n:Int)+1=((n+1:Nat):Int):=O;rw[e0];exact wrap64 O
 obtain⟨g,W,cur,B,y,ev,rfl,P,F,D,H,G,L,K,w⟩:=Ow.two x (fun{I} c a h=>az.len c a h) (fun{I J c a} h k=>az.le h k) (i:=b) (j:=a) O O;cases ev
 refine af ?_;refine aV [0,1,2,3,4,5,6,7,8,9,10] [4,8] [] ?_;refine aC ?_;refine⟨O,?_⟩;refine Xc (l:=B) (v:=.agg B.toArray) rfl (cellsU hd (.tail _ (.head _)) (by simpa using L)) (.inl ⟨by rw[H];exact bK,rfl⟩) ?_;refine aC ?_;refine⟨O,?_⟩;refine Xc (l:=y) (v:=.agg y.toArray) rfl (cellsU hd (.tail _ (.head _)) (by simpa using K)) (.inl ⟨by rw[G];exact bK,rfl⟩) ?_;refine aC ?_;refine cv hd [0,1] [] [_,_] rfl R rfl (S I _ _ _ _ F D) ?_;rintro v I2 qs m o⟨rfl,z,rfl,p⟩;simp only[Z3]at m |-;refine aC ?_;apply an;cases q:aO d[b]! d[a]! with
 |true=>
  rw[q]at p;have e:Sort.order2 aO d a b n=(b,a,n+1):=by simp[Sort.order2,q]
  rw[e];refine aj p ?_;refine Xb (l:=[E n]) rfl (cellsU m (.tail _ (.tail _ (.head _))) (gX ai rfl)) (.inr ⟨dI,rfl⟩) ?_;refine aj C ?_;refine bq m [1,0] fun u=>?_;refine oB u rfl rfl rfl rfl rfl (by exact mI) ai fun t=>?_;refine av ?_;refine bq t [1,0] fun s=>?_;exact ao rfl s (r:=[E b,E a]) rfl o ⟨rfl,rfl⟩
 |false=>
  rw[q]at p;have e:Sort.order2 aO d a b n=(a,b,n):=by simp[Sort.order2,q]
  rw[e];refine aj p ?_;exact ao rfl m (r:=[E a,E b]) rfl o ⟨rfl,rfl⟩
def Dq(d:Array Nd)(a b n:Nat):((Sort.order2 aO d a b n).1=a/\(Sort.order2 aO d a b n).2.1=b\/(Sort.order2 aO d a b n).1=b/\(Sort.order2 aO d a b n).2.1=a)/\(Sort.order2 aO d a b n).2.2<=n+1:=by
 unfold Sort.order2;split
 .exact⟨.inr ⟨rfl,rfl⟩,aW _⟩
 .exact⟨.inl ⟨rfl,rfl⟩,Nat.le_succ _⟩
def C8{c n sb:Nat}(w:aT I A v d.toList)(u:gu az aO vc)(ha:a<d.size)(hb:b<d.size)(z:c<d.size)(y:d.size<=bF)(P:n<2^19):
  aI prog 300 #[v,E a,E b,E c,pt sb,vc] I [A,iJ sb n] fun r I2 qs=>∃F m,F<=n+3/\(m=a\/m=b\/m=c)/\qs=[A,iJ sb F]/\r=E m:=by
 intro hd;obtain⟨f,fst,cap,rfl,Q,R⟩:=id u;obtain⟨K,J,rfl⟩:=Ow.one' w;refine aG 41 func300 fun w0=>?_
 try simp only[E,pt]
 refine af ?_;refine ce hd [0,1] [A,iJ sb n] [] rfl CF rfl (Dp (a:=a) (b:=b) w u ha hb y O) ?_;rintro v I2 qs t g⟨rfl,rfl⟩;obtain⟨D,N⟩:=Dq d a b n;generalize Sort.order2 aO d a b n=e at *;simp only[Z3]at t |-;refine hZ ?_;have B:e.2.1<d.size/\e.1<d.size:=by rcases D with p|p<;>omega
 refine ce t [0,1] [A,iJ sb e.2.2] [] rfl CF rfl (Dp (a:=e.2.1) (b:=c) (aT.le w g) u B.1 z y O) ?_;rintro v T qs o h⟨rfl,rfl⟩;obtain⟨C,M⟩:=Dq d e.2.1 c e.2.2;generalize Sort.order2 aO d e.2.1 c e.2.2=i at *;simp only[Z3]at o |-;refine hZ ?_;have G:i.1<d.size:=by rcases C with q|q<;>omega
 refine ce o [0,1] [A,iJ sb i.2.2] [] rfl CF rfl (Dp (a:=e.1) (b:=i.1) (aT.le w (Y g h)) u B.2 G y O) ?_;rintro v S qs l k⟨rfl,rfl⟩;obtain⟨H,L⟩:=Dq d e.1 i.1 i.2.2;generalize Sort.order2 aO d e.1 i.1 i.2.2=x at *;simp only[Z3]at l |-;refine hZ ?_;exact ao rfl l (r:=[E x.2.1]) rfl (Y g (Y h k)) ⟨x.2.2,x.2.1,O,by rcases D with p|p<;>rcases C with q|q<;>rcases H with s|s<;>omega,rfl,rfl⟩
def C7{n sb:Nat}(l:aT I A v d.toList)(k:gu az aO vc)(h1:1<=a)(ha:a+1<d.size)(j:d.size<=bF)(q:n<2^19):
  aI prog 299 #[v,E a,pt sb,vc] I [A,iJ sb n] fun r I2 qs=>∃h m,h<=n+3/\a-1<=m/\m<=a+1/\qs=[A,iJ sb h]/\r=E m:=by
 intro hd;have i:=j;unfold bF at i;obtain⟨f,fst,cap,rfl,x,y⟩:=id k;obtain⟨u,t,rfl⟩:=Ow.one' l;refine aG 18 func299 fun w0=>?_
 try simp only[E,pt]
 have w2:IntKind.i64.wrap ((a:Int)-1)=((a-1:Nat):Int):=by rw[ja O];omega
 have o:IntKind.i64.wrap ((a:Int)+1)=((a+1:Nat):Int):=by have e0:(a:Int)+1=((a+1:Nat):Int):=O;rw[e0];exact wrap64 O
 refine je o w2 ?_;refine ce hd [0,1] [A,iJ sb n] [] rfl CE rfl (C8 (a:=a-1) (b:=a) (c:=a+1) l k O O O j q) ?_;rintro v I2 qs g e⟨h,m,p,w,rfl,rfl⟩;simp only[Z3]at g |-;refine hZ ?_;exact ao rfl g (r:=[E m]) rfl e ⟨h,m,p,O,O,rfl,rfl⟩
def TH(F:aT I A v d.toList)(D:gu az aO vc)(ag:12<b-a)(hb:b<=d.size)(C:d.size<=bF):
  aI prog 274 #[v,E a,E b,vc] I [A] fun r I2 qs=>∃m h,a<=m/\m<b/\h<=2/\qs=[A]/\r=.tuple #[E m,E h]:=by
 intro hd;have Q:=C;unfold bF at Q;obtain⟨f,fst,cap,rfl,gf,cf⟩:=id D;obtain⟨va,vk,rfl⟩:=Ow.one' F;refine aG 63 func274 fun w0=>?_
 try simp only[E,pt]
 have w1:IntKind.i64.wrap ((b:Int)-(a:Int))=((b-a:Nat):Int):=by rw[fa O O];omega
 obtain⟨q,o⟩:∃q,q=(b-a) / 4:=⟨_,rfl⟩;have ac:4*q<=b-a:=O;have aa:3<=q:=O;have S:IntKind.i64.wrap ((((b-a:Nat):Int)).tdiv 4)=(q:Int):=by rw[show (((b-a:Nat):Int)).tdiv 4=(((b-a) / 4:Nat):Int) from rfl,<-o,wrap64 O]
 have m1:IntKind.i64.wrap ((q:Int)*1)=((q:Nat):Int):=by have e0:(q:Int)*1=((q:Nat):Int):=O;rw[e0];exact wrap64 O
 have m2:IntKind.i64.wrap ((q:Int)*2)=((2*q:Nat):Int):=by have e0:(q:Int)*2=((2*q:Nat):Int):=O;rw[e0];exact wrap64 O
 have m3:IntKind.i64.wrap ((q:Int)*3)=((3*q:Nat):Int):=by have e0:(q:Int)*3=((3*q:Nat):Int):=O;rw[e0];exact wrap64 O
 have W:IntKind.i64.wrap ((a:Int)+(q:Int))=((a+q:Nat):Int):=by have e0:(a:Int)+(q:Int)=((a+q:Nat):Int):=O;rw[e0];exact wrap64 O
 have V:IntKind.i64.wrap ((a:Int)+((2*q:Nat):Int))=((a+2*q:Nat):Int):=by have e0:(a:Int)+((2*q:Nat):Int)=((a+2*q:Nat):Int):=O;rw[e0];exact wrap64 O
 have T:IntKind.i64.wrap ((a:Int)+((3*q:Nat):Int))=((a+3*q:Nat):Int):=by have e0:(a:Int)+((3*q:Nat):Int)=((a+3*q:Nat):Int):=O;rw[e0];exact wrap64 O
 have M:decide (((b-a:Nat):Int)>=8)=true:=ar O;apply bU 15;simp only[go_sem,w1];refine jE 11 hd rfl fun sb L=>?_;have R:Dj [I,iJ sb 0,A]:=L
 change RC _ _ _ (U [I,iJ sb 0,A])
 clear L;refine bq R [1,0] fun K=>?_;rcases aB (b-a) 50 with h5|h5
 .have B:decide (((b-a:Nat):Int)>=50)=false:=aS O;apply RG;simp only[go_sem,iH,List.map,E,pt,S,m1,m2,m3,W,V,T,M,B];refine ce K [0,1] [A,iJ sb 0] [] rfl CE rfl (C8 (a:=a+q) (b:=a+2*q) (c:=a+3*q) (n:=0) F D O O O C O) ?_;rintro v I2 qs j i⟨u,m,p1,p2,rfl,rfl⟩;simp only[Z3]at j |-;refine hZ ?_;refine Xb (l:=[E u]) rfl (cellsU j (.tail _ (.tail _ (.head _))) (gX ai rfl)) (.inr ⟨dI,rfl⟩) ?_;have hm:a<=m/\m<b:=O;by_cases z0:u=0
  .have w:((u:Int) == 0)=true:=by rw[z0];rfl
   refine aj w ?_;refine bq j [1,0] fun e=>?_;refine bH e fun N e g t=>?_;exact ao rfl e (r:=[E m,E 1]) rfl (Y i g) ⟨m,1,hm.1,hm.2,O,rfl,rfl⟩
  .have w:((u:Int) == 0)=false:=by rw[hU];omega
   by_cases P:u=12
   .have y:((u:Int) == 12)=true:=by rw[P];rfl
    refine bW w y ?_;refine bq j [1,0] fun e=>?_;refine bH e fun N e g t=>?_;exact ao rfl e (r:=[E m,E 2]) rfl (Y i g) ⟨m,2,hm.1,hm.2,O,rfl,rfl⟩
   .have y:((u:Int) == 12)=false:=by rw[hU];omega
    refine bW w y ?_;refine bq j [1,0] fun e=>?_;refine bH e fun N e g t=>?_;exact ao rfl e (r:=[E m,E 0]) rfl (Y i g) ⟨m,0,hm.1,hm.2,O,rfl,rfl⟩
 .have B:decide (((b-a:Nat):Int)>=50)=true:=ar O;apply RG;simp only[go_sem,iH,List.map,E,pt,S,m1,m2,m3,W,V,T,M,B];refine ce K [0,1] [A,iJ sb 0] [] rfl CD rfl (C7 (a:=a+q) (n:=0) F D O O C O) ?_;rintro v I2 qs j i⟨u,x1,p1,p2,p3,rfl,rfl⟩;simp only[Z3]at j |-;refine hZ ?_;refine ce j [0,1] [A,iJ sb u] [] rfl CD rfl (C7 (a:=a+2*q) (n:=u) (aT.le F i) D O O C O) ?_;rintro v I3 qs J p⟨Z,x2,p4,p5,p6,rfl,rfl⟩;simp only[Z3]at J |-;refine hZ ?_;refine ce J [0,1] [A,iJ sb Z] [] rfl CD rfl (C7 (a:=a+3*q) (n:=Z) (aT.le F (Y i p)) D O O C O) ?_;rintro v I4 qs H x⟨X,x3,p7,p8,p9,rfl,rfl⟩;simp only[Z3]at H |-;refine hZ ?_;refine ce H [0,1] [A,iJ sb X] [] rfl CE rfl (C8 (a:=x1) (b:=x2) (c:=x3) (n:=X) (aT.le F (Y i (Y p x))) D O O O C O) ?_;rintro v I5 qs s G⟨z,m,p10,p11,rfl,rfl⟩;simp only[Z3]at s |-;refine hZ ?_;have k:=Y i (Y p (Y x G));refine Xb (l:=[E z]) rfl (cellsU s (.tail _ (.tail _ (.head _))) (gX ai rfl)) (.inr ⟨dI,rfl⟩) ?_;have hm:a<=m/\m<b:=O;by_cases z0:z=0
  .have w:((z:Int) == 0)=true:=by rw[z0];rfl
   refine aj w ?_;refine bq s [1,0] fun e=>?_;refine bH e fun N e g t=>?_;exact ao rfl e (r:=[E m,E 1]) rfl (Y k g) ⟨m,1,hm.1,hm.2,O,rfl,rfl⟩
  .have w:((z:Int) == 0)=false:=by rw[hU];omega
   by_cases P:z=12
   .have y:((z:Int) == 12)=true:=by rw[P];rfl
    refine bW w y ?_;refine bq s [1,0] fun e=>?_;refine bH e fun N e g t=>?_;exact ao rfl e (r:=[E m,E 2]) rfl (Y k g) ⟨m,2,hm.1,hm.2,O,rfl,rfl⟩
   .have y:((z:Int) == 12)=false:=by rw[hU];omega
    refine bW w y ?_;refine bq s [1,0] fun e=>?_;refine bH e fun N e g t=>?_;exact ao rfl e (r:=[E m,E 0]) rfl (Y k g) ⟨m,0,hm.1,hm.2,O,rfl,rfl⟩
def PL:ay prog 278:=⟨_,func278,rfl,rfl⟩
def PK:ay prog 277:=⟨_,func277,rfl,rfl⟩
def dN(v a vc:Value)(x:Nat×Nat):St:=⟨dn 178 [(0,.v v),(1,.v a),(4,.v vc),(12,.v (E x.1)),(13,.v (E x.2))],[]⟩
def gP(v a vc:Value)(x:Nat×Nat):St:=⟨dn 90 [(0,.v v),(1,.v a),(4,.v vc),(11,.v (E x.1)),(12,.v (E x.2))],[]⟩
def TC{pivot:Nat}(hA:aT I A v d.toList)(hc:gu az aO vc)(dc:a<=pivot)(cy:pivot<b)(hb:b<=d.size)(hn:d.size<=bF):
  aI prog 278 #[v,E a,E b,E pivot,vc] I [A] fun r I2 qs=>∃A2,qs=[A2]/\aT I2 A2 v (Sort.partition aO d a b pivot).2.2.toList/\r=.tuple #[E (Sort.partition aO d a b pivot).1,.bool (Sort.partition aO d a b pivot).2.1]:=by
 intro hd;unfold bF at hn;obtain⟨f,fst,cap,rfl,gf,cf⟩:=id hc;obtain⟨g0,vk,rfl⟩:=Ow.addr hA O;refine aG 178 func278 fun w0=>?_
 try simp only[E]
 have w1:IntKind.i64.wrap ((a:Int)+1)=((a+1:Nat):Int):=by have e0:(a:Int)+1=((a+1:Nat):Int):=O;rw[e0];exact wrap64 O
 have w2:IntKind.i64.wrap ((b:Int)-1)=((b-1:Nat):Int):=by rw[ja O];omega
 refine af ?_;obtain⟨g,cp,cur,M,L,ev,rfl,B,V,T,G,F,X,W,s⟩:=Ow.two hA (fun{I} c a h=>az.len c a h) (fun{I J c a} h k=>az.le h k) (i:=a) (j:=pivot) O O;simp only[Value.slice.injEq,bv,Addr.mk.injEq,dm,dP]at ev;obtain⟨eg,ek⟩:=ev;subst eg;subst ek;have mi:(a+1)*7<=d.size*7:=bS _ O;have mj:(pivot+1)*7<=d.size*7:=bS _ O;refine aV [0,1,2,3,4,5,6,7,8,9,10,11,12,13,14,15] [7,11] [] ?_;refine aC ?_;refine⟨O,?_⟩;refine Xc (l:=L) (v:=.agg L.toArray) rfl (cellsU hd (.tail _ (.head _)) (by simpa using W)) (.inl ⟨by rw[F];exact bK,rfl⟩) ?_;refine aC ?_;refine⟨O,?_⟩;refine Xc (l:=M) (v:=.agg M.toArray) rfl (cellsU hd (.tail _ (.head _)) (by simpa using X)) (.inl ⟨by rw[G];exact bK,rfl⟩) ?_;refine aC ?_;refine⟨O,?_⟩;refine cg hd rfl rfl rfl rfl rfl (cR (az.ones T)) (by rw[F];exact dF) (by rw[F];omega) fun S=>?_;refine aC ?_;refine⟨O,?_⟩;refine cg S rfl rfl rfl rfl rfl (cR (az.ones V)) (by rw[G];exact dF) (by rw[G];simp[eJ];omega) fun da=>?_;apply an;have cb:=s I (ax _);have ac:(Sort.swp d a pivot).size=d.size:=(gQ _ _ _).trans rfl;obtain⟨d1,ed1⟩:∃d1,d1=Sort.swp d a pivot:=⟨_,rfl⟩;rw[<-ed1]at cb ac;refine bW w1 w2 ?_;have cx:=cb;apply gl (fun x=>(b-1)+2-x) (fun x=>dN (.slice (some ⟨g0,0,none⟩) d.size vk) (E a) (.func (.func f) fst cap) (x,(b-1))) (fun x H=>∃n w,H=U [n,w]/\Dj [n,w]/\I.le n/\aT n w (.slice (some ⟨g0,0,none⟩) d.size vk) d1.toList/\(a+1)<=x/\x<=(b-1)+2/\Sort.scanUp (fun y=>aO y d1[a]!) d1 (b-1) x=Sort.scanUp (fun y=>aO y d1[a]!) d1 (b-1) (a+1)) (fun x H=>∃n w,H=U [n,w]/\Dj [n,w]/\I.le n/\aT n w (.slice (some ⟨g0,0,none⟩) d.size vk) d1.toList/\(a+1)<=x/\x<=(b-1)+2/\x=Sort.scanUp (fun y=>aO y d1[a]!) d1 (b-1) (a+1)) (a+1)
 .exact ae
 .exact(by simp only[go_sem,ab,dN])
 .exact⟨I,_,rfl,‹_›,ax _,‹_›,aW _,O,rfl⟩
 .rintro x H ⟨n,w,rfl,t,o,u,aq,N,e⟩ C p;simp only[dN];rcases aB (b-1) x with b0|bd
  .have q:decide (((x:Nat):Int)<=(((b-1):Nat):Int))=false:=aS O;rw[Sort.scanUp,ad (by simp;omega)]at e;have aa:=e;refine av ?_;refine aV [0,1,2,3,4,5,6,7,8,9,10,11,12,13,14,15] [8,12] [] ?_;refine aM q ?_;apply an;apply bU 3;simp only[go_sem,E];exact p x _ _ ae (by simp only[go_sem,ab,dN]) ⟨n,w,rfl,t,o,u,aq,N,aa⟩
  .have q:decide (((x:Nat):Int)<=(((b-1):Nat):Int))=true:=ar O;rw[Sort.scanUp]at e;have p1:IntKind.i64.wrap ((x:Int)+1)=((x+1:Nat):Int):=by have e0:(x:Int)+1=((x+1:Nat):Int):=O;rw[e0];exact wrap64 O
   obtain⟨g,cp,cur,M,L,ev,rfl,B,V,T,G,F,X,W,s⟩:=Ow.two u (fun{I} c a h=>az.len c a h) (fun{I J c a} h k=>az.le h k) (i:=x) (j:=a) O O;rw[ac]at ev B;simp only[Value.slice.injEq,bv,Addr.mk.injEq,dm,dP]at ev;obtain⟨eg,ek⟩:=ev;subst eg;subst ek;refine av ?_;refine aV [0,1,2,3,4,5,6,7,8,9,10,11,12,13,14,15] [8,12] [] ?_;refine aM q ?_;refine⟨O,?_⟩;refine Xc (l:=M) (v:=.agg M.toArray) rfl (cellsU t (.tail _ (.head _)) (by simpa using X)) (.inl ⟨by rw[G];exact bK,rfl⟩) ?_;refine aM q ?_;refine⟨O,?_⟩;refine Xc (l:=L) (v:=.agg L.toArray) rfl (cellsU t (.tail _ (.head _)) (by simpa using W)) (.inl ⟨by rw[F];exact bK,rfl⟩) ?_;refine aM q ?_;refine cv t [0] [] [_] rfl gf rfl (cf n _ _ _ _ V T) ?_;rintro v Jy qs D m⟨rfl,z,rfl,Q⟩;simp only[Z3]at D |-;refine aC ?_;apply an;cases R:aO d1[x]! d1[a]! with
   |true=>rw[R]at Q;rw[ak (by simp[R];omega)]at e;apply RG;simp only[go_sem,E,Q,bX,p1];exact C (x+1) _ _ O ae (by simp only[go_sem,ab,dN]) ⟨Jy,_,rfl,D,Y o m,aT.le u m,O,O,e⟩
   |false=>rw[R]at Q;rw[ad (by simp[R])]at e;apply bU 3;simp only[go_sem,E,Q,cF];exact p (x) _ _ ae (by simp only[go_sem,ab,dN]) ⟨Jy,_,rfl,D,Y o m,aT.le u m,aq,N,e⟩
 rintro i H ⟨I2,A2,rfl,c9,bc,ds,c4,c3,cm⟩;simp only[dN];refine av ?_;apply gl (fun x=>x) (fun x=>dN (.slice (some ⟨g0,0,none⟩) d.size vk) (E a) (.func (.func f) fst cap) (i,x)) (fun x H=>∃n w,H=U [n,w]/\Dj [n,w]/\I2.le n/\aT n w (.slice (some ⟨g0,0,none⟩) d.size vk) d1.toList/\x<=(b-1)/\Sort.scanDown (fun y=>!aO y d1[a]!) d1 i x=Sort.scanDown (fun y=>!aO y d1[a]!) d1 i (b-1)) (fun x H=>∃n w,H=U [n,w]/\Dj [n,w]/\I2.le n/\aT n w (.slice (some ⟨g0,0,none⟩) d.size vk) d1.toList/\x<=(b-1)/\x=Sort.scanDown (fun y=>!aO y d1[a]!) d1 i (b-1)) (b-1)
 .exact ae
 .exact(by simp only[go_sem,ab,dN])
 .exact⟨I2,_,rfl,‹_›,ax _,‹_›,aW _,rfl⟩
 .rintro x H ⟨n,w,rfl,t,o,u,N,e⟩ C p;simp only[dN];rcases aB x i with b0|bd
  .have q:decide (((i:Nat):Int)<=((x:Nat):Int))=false:=aS O;have aa:x=Sort.scanDown (fun y=>!aO y d1[a]!) d1 i (b-1):=by
    rw[<-e];cases x with
    |zero=>rw[Sort.scanDown]
    |succ x=>rw[Sort.scanDown,ad (by simp;omega)]
   refine av ?_;refine aV [0,1,2,3,4,5,6,7,8,9,10,11,12,13,14,15,16] [8,12] [] ?_;refine aM q ?_;apply an;apply bU 3;simp only[go_sem,E];exact p x _ _ ae (by simp only[go_sem,ab,dN]) ⟨n,w,rfl,t,o,u,N,aa⟩
  .have q:decide (((i:Nat):Int)<=((x:Nat):Int))=true:=ar O;obtain⟨x,rfl⟩:∃x',x=x'+1:=⟨x-1,O⟩;have p1:=mP (j:=x) O;rw[Sort.scanDown]at e;obtain⟨g,cp,cur,M,L,ev,rfl,B,V,T,G,F,X,W,s⟩:=Ow.two u (fun{I} c a h=>az.len c a h) (fun{I J c a} h k=>az.le h k) (i:=x+1) (j:=a) O O;rw[ac]at ev B;simp only[Value.slice.injEq,bv,Addr.mk.injEq,dm,dP]at ev;obtain⟨eg,ek⟩:=ev;subst eg;subst ek;refine av ?_;refine aV [0,1,2,3,4,5,6,7,8,9,10,11,12,13,14,15,16] [8,12] [] ?_;refine aM q ?_;refine⟨O,?_⟩;refine Xc (l:=M) (v:=.agg M.toArray) rfl (cellsU t (.tail _ (.head _)) (by simpa using X)) (.inl ⟨by rw[G];exact bK,rfl⟩) ?_;refine aM q ?_;refine⟨O,?_⟩;refine Xc (l:=L) (v:=.agg L.toArray) rfl (cellsU t (.tail _ (.head _)) (by simpa using W)) (.inl ⟨by rw[F];exact bK,rfl⟩) ?_;refine aM q ?_;refine cv t [0] [] [_] rfl gf rfl (cf n _ _ _ _ V T) ?_;rintro v Jy qs D m⟨rfl,z,rfl,Q⟩;simp only[Z3]at D |-;refine aC ?_;apply an;cases R:aO d1[x+1]! d1[a]! with
   |true=>rw[R]at Q;rw[ad (by simp[R])]at e;apply bU 3;simp only[go_sem,E,Q,bX];exact p (x+1) _ _ ae (by simp only[go_sem,ab,dN]) ⟨Jy,_,rfl,D,Y o m,aT.le u m,N,e⟩
   |false=>rw[R]at Q;rw[ak (by simp[R];omega)]at e;apply RG;simp only[go_sem,E,Q,cF,p1];exact C x _ _ O ae (by simp only[go_sem,ab,dN]) ⟨Jy,_,rfl,D,Y o m,aT.le u m,O,e⟩
 rintro j H ⟨I3,A3,rfl,ap,bb,ca,c1,cj⟩;simp only[dN];have hP:Sort.partition aO d a b pivot=if i>j then (j,true,Sort.swp d1 j a)else ((Sort.partLoop aO a (i+1) (j-1) (Sort.swp d1 i j)).1,false,Sort.swp (Sort.partLoop aO a (i+1) (j-1) (Sort.swp d1 i j)).2 (Sort.partLoop aO a (i+1) (j-1) (Sort.swp d1 i j)).1 a):=by unfold Sort.partition;simp only[<-ed1,<-cm,<-cj]
 have k3:=Y bc bb;by_cases b7:i>j
 .have am:decide ((i:Int)>(j:Int))=true:=ar O;rw[ak b7]at hP;rw[hP];refine aj am ?_;obtain⟨g,cp,cur,M,L,ev,rfl,B,V,T,G,F,X,W,s⟩:=Ow.two ca (fun{I} c a h=>az.len c a h) (fun{I J c a} h k=>az.le h k) (i:=j) (j:=a) O O;rw[ac]at ev B;simp only[Value.slice.injEq,bv,Addr.mk.injEq,dm,dP]at ev;obtain⟨eg,ek⟩:=ev;subst eg;subst ek;have mi:(j+1)*7<=d.size*7:=bS _ O;have mj:(a+1)*7<=d.size*7:=bS _ O;refine aV [0,1,2,3,4,5,6,7,8,9,10,11,12,13,14,15] [7,11] [] ?_;refine aC ?_;refine⟨O,?_⟩;refine Xc (l:=L) (v:=.agg L.toArray) rfl (cellsU ap (.tail _ (.head _)) (by simpa using W)) (.inl ⟨by rw[F];exact bK,rfl⟩) ?_;refine aC ?_;refine⟨O,?_⟩;refine Xc (l:=M) (v:=.agg M.toArray) rfl (cellsU ap (.tail _ (.head _)) (by simpa using X)) (.inl ⟨by rw[G];exact bK,rfl⟩) ?_;refine aC ?_;refine⟨O,?_⟩;refine cg ap rfl rfl rfl rfl rfl (cR (az.ones T)) (by rw[F];exact dF) (by rw[F];omega) fun S=>?_;refine aC ?_;refine⟨O,?_⟩;refine cg S rfl rfl rfl rfl rfl (cR (az.ones V)) (by rw[G];exact dF) (by rw[G];simp[eJ];omega) fun b2=>?_;apply an;have a4:=s I3 (ax _);have a5:(Sort.swp d1 j a).size=d.size:=(gQ _ _ _).trans ac;refine av ?_;exact ao rfl b2 (r:=[E j,.bool true]) rfl k3 ⟨_,rfl,a4,rfl⟩
 have am:decide ((i:Int)>(j:Int))=false:=aS O;rw[ad b7]at hP;rw[hP];clear hP;refine aj am ?_;obtain⟨g,cp,cur,M,L,ev,rfl,B,V,T,G,F,X,W,s⟩:=Ow.two ca (fun{I} c a h=>az.len c a h) (fun{I J c a} h k=>az.le h k) (i:=i) (j:=j) O O;rw[ac]at ev B;simp only[Value.slice.injEq,bv,Addr.mk.injEq,dm,dP]at ev;obtain⟨eg,ek⟩:=ev;subst eg;subst ek;have mi:(i+1)*7<=d.size*7:=bS _ O;have mj:(j+1)*7<=d.size*7:=bS _ O;refine aV [0,1,2,3,4,5,6,7,8,9,10,11,12,13,14,15] [7,11] [] ?_;refine aC ?_;refine⟨O,?_⟩;refine Xc (l:=L) (v:=.agg L.toArray) rfl (cellsU ap (.tail _ (.head _)) (by simpa using W)) (.inl ⟨by rw[F];exact bK,rfl⟩) ?_;refine aC ?_;refine⟨O,?_⟩;refine Xc (l:=M) (v:=.agg M.toArray) rfl (cellsU ap (.tail _ (.head _)) (by simpa using X)) (.inl ⟨by rw[G];exact bK,rfl⟩) ?_;refine aC ?_;refine⟨O,?_⟩;refine cg ap rfl rfl rfl rfl rfl (cR (az.ones T)) (by rw[F];exact dF) (by rw[F];omega) fun S=>?_;refine aC ?_;refine⟨O,?_⟩;refine cg S rfl rfl rfl rfl rfl (cR (az.ones V)) (by rw[G];exact dF) (by rw[G];simp[eJ];omega) fun b2=>?_;apply an;have a4:=s I3 (ax _);have a5:(Sort.swp d1 i j).size=d.size:=(gQ _ _ _).trans ac;obtain⟨d4,ed4⟩:∃d4,d4=Sort.swp d1 i j:=⟨_,rfl⟩;rw[<-ed4]at a4 a5 |-;have w3:IntKind.i64.wrap ((i:Int)+1)=((i+1:Nat):Int):=by have e0:(i:Int)+1=((i+1:Nat):Int):=O;rw[e0];exact wrap64 O
 have w4:IntKind.i64.wrap ((j:Int)-1)=((j-1:Nat):Int):=by rw[ja O];omega
 refine bW w3 w4 ?_;apply gl (fun x=>x.2+3-x.1) (fun x=>dN (.slice (some ⟨g0,0,none⟩) d.size vk) (E a) (.func (.func f) fst cap) x) (fun x H=>∃I5 A5 K,H=U [I5,A5]/\Dj [I5,A5]/\I3.le I5/\K.size=d.size/\aT I5 A5 (.slice (some ⟨g0,0,none⟩) d.size vk) K.toList/\1<=x.1/\x.1<=x.2+2/\x.2<=b-1/\Sort.partLoop aO a x.1 x.2 K=Sort.partLoop aO a (i+1) (j-1) d4) (fun x H=>∃I5 A5,H=U [I5,A5]/\Dj [I5,A5]/\I3.le I5/\(Sort.partLoop aO a (i+1) (j-1) d4).2.size=d.size/\aT I5 A5 (.slice (some ⟨g0,0,none⟩) d.size vk) (Sort.partLoop aO a (i+1) (j-1) d4).2.toList/\x.2<=b-1/\x.2=(Sort.partLoop aO a (i+1) (j-1) d4).1) (i+1,j-1)
 .exact ae
 .exact(by simp only[go_sem,ab,dN])
 .exact⟨I3,_,d4,rfl,b2,ax _,a5,a4,by simp only;omega,by simp only;omega,by simp only;omega,rfl⟩
 .rintro⟨i5,j5⟩ H ⟨I5,A5,K,rfl,c6,ba,a0,dl,cn,bs,cl,Z⟩ ag al;simp only at cn bs cl Z;simp only[dN];refine av ?_;apply gl (fun x=>j5+2-x) (fun x=>dN (.slice (some ⟨g0,0,none⟩) d.size vk) (E a) (.func (.func f) fst cap) (x,j5)) (fun x H=>∃n w,H=U [n,w]/\Dj [n,w]/\I5.le n/\aT n w (.slice (some ⟨g0,0,none⟩) d.size vk) K.toList/\i5<=x/\x<=j5+2/\Sort.scanUp (fun y=>aO y K[a]!) K j5 x=Sort.scanUp (fun y=>aO y K[a]!) K j5 i5) (fun x H=>∃n w,H=U [n,w]/\Dj [n,w]/\I5.le n/\aT n w (.slice (some ⟨g0,0,none⟩) d.size vk) K.toList/\i5<=x/\x<=j5+2/\x=Sort.scanUp (fun y=>aO y K[a]!) K j5 i5) i5
  .exact ae
  .exact(by simp only[go_sem,ab,dN])
  .exact⟨I5,_,rfl,‹_›,ax _,‹_›,aW _,O,rfl⟩
  .rintro x H ⟨n,w,rfl,t,o,u,aq,N,e⟩ C p;simp only[dN];rcases aB j5 x with b0|bd
   .have q:decide (((x:Nat):Int)<=((j5:Nat):Int))=false:=aS O;rw[Sort.scanUp,ad (by simp;omega)]at e;have aa:=e;refine av ?_;refine aV [0,1,2,3,4,5,6,7,8,9,10,11,12,13,14,15] [8,12] [] ?_;refine aM q ?_;apply an;apply bU 3;simp only[go_sem,E];exact p x _ _ ae (by simp only[go_sem,ab,dN]) ⟨n,w,rfl,t,o,u,aq,N,aa⟩
   .have q:decide (((x:Nat):Int)<=((j5:Nat):Int))=true:=ar O;rw[Sort.scanUp]at e;have p1:IntKind.i64.wrap ((x:Int)+1)=((x+1:Nat):Int):=by have e0:(x:Int)+1=((x+1:Nat):Int):=O;rw[e0];exact wrap64 O
    obtain⟨g,cp,cur,M,L,ev,rfl,B,V,T,G,F,X,W,s⟩:=Ow.two u (fun{I} c a h=>az.len c a h) (fun{I J c a} h k=>az.le h k) (i:=x) (j:=a) O O;rw[a0]at ev B;simp only[Value.slice.injEq,bv,Addr.mk.injEq,dm,dP]at ev;obtain⟨eg,ek⟩:=ev;subst eg;subst ek;refine av ?_;refine aV [0,1,2,3,4,5,6,7,8,9,10,11,12,13,14,15] [8,12] [] ?_;refine aM q ?_;refine⟨O,?_⟩;refine Xc (l:=M) (v:=.agg M.toArray) rfl (cellsU t (.tail _ (.head _)) (by simpa using X)) (.inl ⟨by rw[G];exact bK,rfl⟩) ?_;refine aM q ?_;refine⟨O,?_⟩;refine Xc (l:=L) (v:=.agg L.toArray) rfl (cellsU t (.tail _ (.head _)) (by simpa using W)) (.inl ⟨by rw[F];exact bK,rfl⟩) ?_;refine aM q ?_;refine cv t [0] [] [_] rfl gf rfl (cf n _ _ _ _ V T) ?_;rintro v Jy qs D m⟨rfl,z,rfl,Q⟩;simp only[Z3]at D |-;refine aC ?_;apply an;cases R:aO K[x]! K[a]! with
    |true=>rw[R]at Q;rw[ak (by simp[R];omega)]at e;apply RG;simp only[go_sem,E,Q,bX,p1];exact C (x+1) _ _ O ae (by simp only[go_sem,ab,dN]) ⟨Jy,_,rfl,D,Y o m,aT.le u m,O,O,e⟩
    |false=>rw[R]at Q;rw[ad (by simp[R])]at e;apply bU 3;simp only[go_sem,E,Q,cF];exact p (x) _ _ ae (by simp only[go_sem,ab,dN]) ⟨Jy,_,rfl,D,Y o m,aT.le u m,aq,N,e⟩
  rintro P H ⟨I6,A6,rfl,c5,a9,dd,c2,hi6b,bx⟩;simp only[dN];refine av ?_;apply gl (fun x=>x) (fun x=>dN (.slice (some ⟨g0,0,none⟩) d.size vk) (E a) (.func (.func f) fst cap) (P,x)) (fun x H=>∃n w,H=U [n,w]/\Dj [n,w]/\I6.le n/\aT n w (.slice (some ⟨g0,0,none⟩) d.size vk) K.toList/\x<=j5/\Sort.scanDown (fun y=>!aO y K[a]!) K P x=Sort.scanDown (fun y=>!aO y K[a]!) K P j5) (fun x H=>∃n w,H=U [n,w]/\Dj [n,w]/\I6.le n/\aT n w (.slice (some ⟨g0,0,none⟩) d.size vk) K.toList/\x<=j5/\x=Sort.scanDown (fun y=>!aO y K[a]!) K P j5) j5
  .exact ae
  .exact(by simp only[go_sem,ab,dN])
  .exact⟨I6,_,rfl,‹_›,ax _,‹_›,aW _,rfl⟩
  .rintro x H ⟨n,w,rfl,t,o,u,N,e⟩ C p;simp only[dN];rcases aB x P with b0|bd
   .have q:decide (((P:Nat):Int)<=((x:Nat):Int))=false:=aS O;have aa:x=Sort.scanDown (fun y=>!aO y K[a]!) K P j5:=by
     rw[<-e];cases x with
     |zero=>rw[Sort.scanDown]
     |succ x=>rw[Sort.scanDown,ad (by simp;omega)]
    refine av ?_;refine aV [0,1,2,3,4,5,6,7,8,9,10,11,12,13,14,15,16] [8,12] [] ?_;refine aM q ?_;apply an;apply bU 3;simp only[go_sem,E];exact p x _ _ ae (by simp only[go_sem,ab,dN]) ⟨n,w,rfl,t,o,u,N,aa⟩
   .have q:decide (((P:Nat):Int)<=((x:Nat):Int))=true:=ar O;obtain⟨x,rfl⟩:∃x',x=x'+1:=⟨x-1,O⟩;have p1:=mP (j:=x) O;rw[Sort.scanDown]at e;obtain⟨g,cp,cur,M,L,ev,rfl,B,V,T,G,F,X,W,s⟩:=Ow.two u (fun{I} c a h=>az.len c a h) (fun{I J c a} h k=>az.le h k) (i:=x+1) (j:=a) O O;rw[a0]at ev B;simp only[Value.slice.injEq,bv,Addr.mk.injEq,dm,dP]at ev;obtain⟨eg,ek⟩:=ev;subst eg;subst ek;refine av ?_;refine aV [0,1,2,3,4,5,6,7,8,9,10,11,12,13,14,15,16] [8,12] [] ?_;refine aM q ?_;refine⟨O,?_⟩;refine Xc (l:=M) (v:=.agg M.toArray) rfl (cellsU t (.tail _ (.head _)) (by simpa using X)) (.inl ⟨by rw[G];exact bK,rfl⟩) ?_;refine aM q ?_;refine⟨O,?_⟩;refine Xc (l:=L) (v:=.agg L.toArray) rfl (cellsU t (.tail _ (.head _)) (by simpa using W)) (.inl ⟨by rw[F];exact bK,rfl⟩) ?_;refine aM q ?_;refine cv t [0] [] [_] rfl gf rfl (cf n _ _ _ _ V T) ?_;rintro v Jy qs D m⟨rfl,z,rfl,Q⟩;simp only[Z3]at D |-;refine aC ?_;apply an;cases R:aO K[x+1]! K[a]! with
    |true=>rw[R]at Q;rw[ad (by simp[R])]at e;apply bU 3;simp only[go_sem,E,Q,bX];exact p (x+1) _ _ ae (by simp only[go_sem,ab,dN]) ⟨Jy,_,rfl,D,Y o m,aT.le u m,N,e⟩
    |false=>rw[R]at Q;rw[ak (by simp[R];omega)]at e;apply RG;simp only[go_sem,E,Q,cF,p1];exact C x _ _ O ae (by simp only[go_sem,ab,dN]) ⟨Jy,_,rfl,D,Y o m,aT.le u m,O,e⟩
  rintro j7 H ⟨I7,A7,rfl,a3,a7,b8,c0,bo⟩;simp only[dN];rw[Sort.partLoop_eq,<-bx,<-bo]at Z;have b5:=Y ba (Y a9 a7);by_cases a2:P>j7
  .have am:decide ((P:Int)>(j7:Int))=true:=ar O;rw[ak a2]at Z;apply bU 8;simp only[go_sem,E,am];exact al (P,j7) _ _ ae (by simp only[go_sem,ab,dN]) ⟨I7,A7,rfl,a3,b5,by rw[<-Z];exact a0,by rw[<-Z];exact b8,by simp only;omega,by rw[<-Z]⟩
  have am:decide ((P:Int)>(j7:Int))=false:=aS O;rw[ad a2]at Z;refine aj am ?_;obtain⟨g,cp,cur,M,L,ev,rfl,B,V,T,G,F,X,W,s⟩:=Ow.two b8 (fun{I} c a h=>az.len c a h) (fun{I J c a} h k=>az.le h k) (i:=P) (j:=j7) O O;rw[a0]at ev B;simp only[Value.slice.injEq,bv,Addr.mk.injEq,dm,dP]at ev;obtain⟨eg,ek⟩:=ev;subst eg;subst ek;have mi:(P+1)*7<=d.size*7:=bS _ O;have mj:(j7+1)*7<=d.size*7:=bS _ O;refine aV [0,1,2,3,4,5,6,7,8,9,10,11,12,13,14,15] [7,11] [] ?_;refine aC ?_;refine⟨O,?_⟩;refine Xc (l:=L) (v:=.agg L.toArray) rfl (cellsU a3 (.tail _ (.head _)) (by simpa using W)) (.inl ⟨by rw[F];exact bK,rfl⟩) ?_;refine aC ?_;refine⟨O,?_⟩;refine Xc (l:=M) (v:=.agg M.toArray) rfl (cellsU a3 (.tail _ (.head _)) (by simpa using X)) (.inl ⟨by rw[G];exact bK,rfl⟩) ?_;refine aC ?_;refine⟨O,?_⟩;refine cg a3 rfl rfl rfl rfl rfl (cR (az.ones T)) (by rw[F];exact dF) (by rw[F];omega) fun S=>?_;refine aC ?_;refine⟨O,?_⟩;refine cg S rfl rfl rfl rfl rfl (cR (az.ones V)) (by rw[G];exact dF) (by rw[G];simp[eJ];omega) fun cr=>?_;apply an;have ct:=s I7 (ax _);have cc:(Sort.swp K P j7).size=d.size:=(gQ _ _ _).trans a0;have w8:IntKind.i64.wrap ((P:Int)+1)=((P+1:Nat):Int):=by have e0:(P:Int)+1=((P+1:Nat):Int):=O;rw[e0];exact wrap64 O
  have w9:IntKind.i64.wrap ((j7:Int)-1)=((j7-1:Nat):Int):=by rw[ja O];omega
  refine bW w8 w9 ?_;exact ag (P+1,j7-1) _ _ bC ae (by simp only[go_sem,ab,dN]) ⟨I7,_,_,rfl,cr,b5,cc,ct,by simp only;omega,by simp only;omega,by simp only;omega,Z⟩
 rintro⟨i9,j9⟩ H ⟨I9,A9,rfl,b1,a6,b6,cs,ck,a1⟩;simp only at ck a1;simp only[dN];rw[<-a1];generalize (Sort.partLoop aO a (i+1) (j-1) d4).2=d9 at *;refine av ?_;obtain⟨g,cp,cur,M,L,ev,rfl,B,V,T,G,F,X,W,s⟩:=Ow.two cs (fun{I} c a h=>az.len c a h) (fun{I J c a} h k=>az.le h k) (i:=j9) (j:=a) O O;rw[b6]at ev B;simp only[Value.slice.injEq,bv,Addr.mk.injEq,dm,dP]at ev;obtain⟨eg,ek⟩:=ev;subst eg;subst ek;have mi:(j9+1)*7<=d.size*7:=bS _ O;have mj:(a+1)*7<=d.size*7:=bS _ O;refine aV [0,1,2,3,4,5,6,7,8,9,10,11,12,13,14,15] [7,11] [] ?_;refine aC ?_;refine⟨O,?_⟩;refine Xc (l:=L) (v:=.agg L.toArray) rfl (cellsU b1 (.tail _ (.head _)) (by simpa using W)) (.inl ⟨by rw[F];exact bK,rfl⟩) ?_;refine aC ?_;refine⟨O,?_⟩;refine Xc (l:=M) (v:=.agg M.toArray) rfl (cellsU b1 (.tail _ (.head _)) (by simpa using X)) (.inl ⟨by rw[G];exact bK,rfl⟩) ?_;refine aC ?_;refine⟨O,?_⟩;refine cg b1 rfl rfl rfl rfl rfl (cR (az.ones T)) (by rw[F];exact dF) (by rw[F];omega) fun S=>?_;refine aC ?_;refine⟨O,?_⟩;refine cg S rfl rfl rfl rfl rfl (cR (az.ones V)) (by rw[G];exact dF) (by rw[G];simp[eJ];omega) fun b3=>?_;apply an;have b4:=s I9 (ax _);have ci:(Sort.swp d9 j9 a).size=d.size:=(gQ _ _ _).trans b6;refine av ?_;exact ao rfl b3 (r:=[E j9,.bool false]) rfl (Y k3 a6) ⟨_,rfl,b4,rfl⟩
open Go.Sort (PermIn SortedIn SWO permIn_refl permIn_trans permIn_mono swp_permIn)
def yt:ay prog 284:=⟨_,func284,rfl,rfl⟩
def qR(v a vc:Value)(x:Nat×Nat):St:=⟨dn 220 [(0,.v v),(1,.v a),(4,.v vc),(10,.v (E x.1)),(11,.v (E x.2))],[]⟩
def z8(v a:Value)(k:Nat):St:=⟨dn 220 [(0,.v v),(10,.v a),(13,.v (E k))],[]⟩
def qS(v a vc:Value)(x:Nat×Nat):St:=⟨dn 220 [(0,.v v),(2,.v a),(4,.v vc),(14,.v (E x.1)),(15,.v (E x.2))],[]⟩
def Aa(v a:Value)(k:Nat):St:=⟨dn 220 [(0,.v v),(14,.v a),(17,.v (E k))],[]⟩
def kz(v d c vb vc vd b a:Value)(x:Nat×Nat):St:=⟨dn 220 [(0,.v v),(1,.v d),(2,.v c),(3,.v vb),(4,.v vc),(18,.v vd),(19,.v b),(20,.v (E x.1)),(21,.v (E x.2)),(22,.v a)],[]⟩
def tA(v:Value)(d:Array aN)(a b:Nat):Value->PH->List PH->Prop:=fun _ I2 qs=>∃c e,qs=[c]/\bL I2 c v e.toList/\PermIn a b d e/\SortedIn bP a b e
def wG(v c vb vc vd a b:Value):St:=⟨dn 220 [(0,.v v),(1,.v c),(3,.v vb),(4,.v vc),(18,.v vd),(20,.v a),(24,.v b)],[]⟩
def wH(v vb vc vd a:Value):St:=⟨dn 220 [(0,.v v),(3,.v vb),(4,.v vc),(18,.v vd),(24,.v a)],[]⟩
def AS{C:Cx}{k:List Item}(a:St)(Z:PH->Prop){P:Prop}(h1:(∀H,Z H->RC C (.st k) a H)->P)(h:∀H,Z H->RC C (.st k) a H):P:=h1 h
def gU.triv{α:Type}[Inhabited α]{m i j:Nat}{d:Array α}(h:i=0\/j=0)(hi:i<=m):gU m i j d d:=fun k=>by
 by_cases h1:m-i<=k/\k<m-i+j
 .rw[ak h1];congr 1;omega
 .rw[ad h1];by_cases h2:m-i+j<=k/\k<m+j
  .rw[ak h2];congr 1;omega
  .rw[ad h2]
def Vt{d:Array aN}{m:Nat}(hA:bL I A v d.toList)(hc:gu aY bP vc)(aq:m=a+1)(a0:m<b)(hb:b<=d.size)(hn:d.size<=bF)(hs:SortedIn bP m b d):
  aI prog 284 #[v,E a,E m,E b,vc] I [A] (tA v d a b):=by
 intro hd;unfold bF at hn;obtain⟨f,fst,cap,rfl,gf,cf⟩:=id hc;obtain⟨X,P,rfl⟩:=Ow.addr hA O;refine aG 220 func284 fun w0=>?_
 try simp only[E]
 have w1:IntKind.i64.wrap ((m:Int)-(a:Int))=1:=by rw[fa O O];omega
 have q1:((1:Int) == 1)=true:=rfl;refine je w1 q1 ?_;apply gl (fun x=>x.2-x.1) (fun x=>qR (.slice (some ⟨X,0,none⟩) d.size P) (E a) (.func (.func f) fst cap) x) (fun x H=>∃I2 y,H=U [I2,y]/\Dj [I2,y]/\I.le I2/\bL I2 y (.slice (some ⟨X,0,none⟩) d.size P) d.toList/\m<=x.1/\x.1<=x.2/\x.2<=b/\(x.1=m\/bP d[x.1-1]! d[a]! = true)/\(x.2=b\/bP d[x.2]! d[a]! = false)) (fun x H=>∃I2 y,H=U [I2,y]/\Dj [I2,y]/\I.le I2/\bL I2 y (.slice (some ⟨X,0,none⟩) d.size P) d.toList/\m<=x.1/\x.1<=b/\(x.1=m\/bP d[x.1-1]! d[a]! = true)/\(x.1=b\/bP d[x.1]! d[a]! = false)) (m,b)
 .exact ae
 .exact(by simp only[go_sem,ab,qR])
 .exact⟨I,A,rfl,hd,ax _,hA,aW _,by simp only;omega,aW _,.inl rfl,.inl rfl⟩
 .rintro⟨i,j⟩ H ⟨I2,y,rfl,t,o,u,hi,ag,hj,M,hr⟩ w F;simp only at hi ag hj M hr;simp only[qR];rcases aB i j with aa|al
  .have L:=Z5 i j;have a1:(i:Int)+(j:Int)=((i+j:Nat):Int):=O;have a2:=wrap64 (n:=i+j) O;have a3:=wS (n:=i+j) O;have a4:kw .u64 (((i+j:Nat)):Int) 1=(((i+j) / 2:Nat):Int):=by have:=zJ (a:=i+j) (i:=1) O;rw[oh]at this;exact this
   obtain⟨h,eh⟩:∃h,h=(i+j) / 2:=⟨_,rfl⟩;rw[<-eh]at a4;have a5:=wrap64 (n:=h) O;apply RG;simp only[go_sem,E,L,a1,a2,a3,a4,a5];obtain⟨g,cp,cur,ci,Z,ev,rfl,G,ri,rj,R,Q,ki,kj,C⟩:=Ow.two u (fun{I} c a h=>aY.len c a h) (fun{I J c a} h k=>aY.le h k) (i:=h) (j:=a) O O;rw[(show d.size=d.size from rfl)]at ev G;simp only[Value.slice.injEq,bv,Addr.mk.injEq,dm,dP]at ev;obtain⟨eg,ek⟩:=ev;subst eg;subst ek;refine aV [0,1,2,3,4,5,6,7,8,9,10] [4,8] [] ?_;refine aC ?_;refine⟨O,?_⟩;refine Xc (l:=ci) (v:=.agg ci.toArray) rfl (cellsU t (.tail _ (.head _)) (by simpa using ki)) (.inl ⟨by rw[R];exact fQ,rfl⟩) ?_;refine aC ?_;refine⟨O,?_⟩;refine Xc (l:=Z) (v:=.agg Z.toArray) rfl (cellsU t (.tail _ (.head _)) (by simpa using kj)) (.inl ⟨by rw[Q];exact fQ,rfl⟩) ?_;refine aC ?_;refine cv t [0] [] [_] rfl gf rfl (cf I2 _ _ _ _ ri rj) ?_;rintro v I3 qs p s⟨rfl,z,rfl,hz⟩;simp only[Z3]at p |-;refine aC ?_;apply an;cases q:bP d[h]! d[a]! with
   |true=>
    rw[q]at hz;have w3:IntKind.i64.wrap ((h:Int)+1)=((h+1:Nat):Int):=by have e0:(h:Int)+1=((h+1:Nat):Int):=O;rw[e0];exact wrap64 O
    refine bW hz w3 ?_;exact w (h+1,j) _ _ bC ae (by simp only[go_sem,ab,qR]) ⟨I3,_,rfl,p,Y o s,bL.le u s,by simp only;omega,by simp only;omega,hj,.inr q,hr⟩
   |false=>rw[q]at hz;refine aj hz ?_;exact w (i,h) _ _ bC ae (by simp only[go_sem,ab,qR]) ⟨I3,_,rfl,p,Y o s,bL.le u s,hi,by simp only;omega,by simp only;omega,M,.inr q⟩
  .have L:decide ((i:Int)<(j:Int))=false:=aS O;have:i=j:=O;subst this;apply bU 9;simp only[go_sem,E,L];exact F (i,i) _ _ ae (by simp only[go_sem,ab,qR]) ⟨I2,y,rfl,t,o,u,hi,hj,M,hr⟩
 rintro⟨i,j⟩ H ⟨I2,y,rfl,t,o,u,hi,S,M,hr⟩;simp only at hi S M hr;simp only[qR];refine av ?_;have w4:IntKind.i64.wrap ((i:Int)-1)=((i-1:Nat):Int):=by rw[ja O];omega
 refine bz (fun k=>i-k) (z8 (.slice (some ⟨X,0,none⟩) d.size P) (E i)) (fun k H=>∃A3 e,H=U [I2,A3]/\Dj [I2,A3]/\a<=k/\k<=i-1/\e.size=d.size/\bL I2 A3 (.slice (some ⟨X,0,none⟩) d.size P) e.toList/\ou a k d e/\PermIn a b d e) a ae (by simp only[go_sem,ab,z8]) ?_ ?_
 .exact⟨y,d,rfl,t,aW _,O,rfl,u,ou.zero _ _,permIn_refl _ _ _⟩
 rintro k H ⟨A3,e,rfl,p,ac,a6,D,W,V,T⟩ B;simp only[z8];rcases aB k (i-1)with aa|al
 .have K:=Z5 k (i-1);have N:IntKind.i64.wrap ((k:Int)+1)=((k+1:Nat):Int):=by have e0:(k:Int)+1=((k+1:Nat):Int):=O;rw[e0];exact wrap64 O
  refine bW w4 K ?_;obtain⟨g,cp,cur,ci,Z,ev,rfl,G,ri,rj,R,Q,ki,kj,C⟩:=Ow.two W (fun{I} c a h=>aY.len c a h) (fun{I J c a} h k=>aY.le h k) (i:=k) (j:=k+1) O O;rw[D]at ev G;simp only[Value.slice.injEq,bv,Addr.mk.injEq,dm,dP]at ev;obtain⟨eg,ek⟩:=ev;subst eg;subst ek;have mi:(k+1)*4<=d.size*4:=bS _ O;have mj:((k+1)+1)*4<=d.size*4:=bS _ O;refine aV [0,1,2,3,4,5,6,7,8,9,10,11,12,13,14,15,16,17] [9,13] [] ?_;refine aM N ?_;refine⟨O,?_⟩;refine Xc (l:=Z) (v:=.agg Z.toArray) rfl (cellsU p (.tail _ (.head _)) (by simpa using kj)) (.inl ⟨by rw[Q];exact fQ,rfl⟩) ?_;refine aM N ?_;refine⟨O,?_⟩;refine Xc (l:=ci) (v:=.agg ci.toArray) rfl (cellsU p (.tail _ (.head _)) (by simpa using ki)) (.inl ⟨by rw[R];exact fQ,rfl⟩) ?_;refine aM N ?_;refine⟨O,?_⟩;refine cg p rfl rfl rfl rfl rfl (cR (aY.ones rj)) (by rw[Q];exact mJ) (by rw[Q];omega) fun am=>?_;refine aM N ?_;refine⟨O,?_⟩;refine cg am rfl rfl rfl rfl rfl (cR (aY.ones ri)) (by rw[R];exact mJ) (by rw[R];simp[eJ];omega) fun ap=>?_;apply an;refine aj N ?_;exact B (k+1) _ _ O ae (by simp only[go_sem,ab,z8]) ⟨_,_,rfl,ap,O,O,by rw[gQ];exact D,C I2 (ax _),V.step D ac O,permIn_trans _ _ _ a b T (swp_permIn _ a b _ _ O O O O O)⟩
 .have K:decide ((k:Int)<((i-1:Nat):Int))=false:=aS O;have:k=i-1:=O;subst this;refine bW w4 K ?_;exact ao rfl p (r:=[]) rfl o ⟨A3,e,rfl,W,T,QT z7 aq hs hi S M hr V⟩
def Vu{d:Array aN}{m:Nat}(hA:bL I A v d.toList)(hc:gu aY bP vc)(a6:a+1<m)(aa:b=m+1)(hb:b<=d.size)(hn:d.size<=bF)(hs:SortedIn bP a m d):
  aI prog 284 #[v,E a,E m,E b,vc] I [A] (tA v d a b):=by
 intro hd;unfold bF at hn;obtain⟨f,fst,cap,rfl,gf,cf⟩:=id hc;obtain⟨X,Q,rfl⟩:=Ow.addr hA O;refine aG 220 func284 fun w0=>?_
 try simp only[E]
 have w1:IntKind.i64.wrap ((m:Int)-(a:Int))=((m-a:Nat):Int):=by rw[fa O O];omega
 have w2:IntKind.i64.wrap ((b:Int)-(m:Int))=1:=by rw[fa O O];omega
 have q1:(((m-a:Nat):Int) == 1)=false:=by rw[hU];omega
 have q2:((1:Int) == 1)=true:=rfl;apply RG;simp only[go_sem,w1,w2,q1,q2];apply gl (fun x=>x.2-x.1) (fun x=>qS (.slice (some ⟨X,0,none⟩) d.size Q) (E m) (.func (.func f) fst cap) x) (fun x H=>∃I2 y,H=U [I2,y]/\Dj [I2,y]/\I.le I2/\bL I2 y (.slice (some ⟨X,0,none⟩) d.size Q) d.toList/\a<=x.1/\x.1<=x.2/\x.2<=m/\(x.1=a\/bP d[m]! d[x.1-1]! = false)/\(x.2=m\/bP d[m]! d[x.2]! = true)) (fun x H=>∃I2 y,H=U [I2,y]/\Dj [I2,y]/\I.le I2/\bL I2 y (.slice (some ⟨X,0,none⟩) d.size Q) d.toList/\a<=x.1/\x.1<=m/\(x.1=a\/bP d[m]! d[x.1-1]! = false)/\(x.1=m\/bP d[m]! d[x.1]! = true)) (a,m)
 .exact ae
 .exact(by simp only[go_sem,ab,qS])
 .exact⟨I,A,rfl,hd,ax _,hA,aW _,by simp only;omega,aW _,.inl rfl,.inl rfl⟩
 .rintro⟨i,j⟩ H ⟨I2,y,rfl,t,o,u,hi,al,hj,N,hr⟩ w G;simp only at hi al hj N hr;simp only[qS];rcases aB i j with ac|am
  .have M:=Z5 i j;have a1:(i:Int)+(j:Int)=((i+j:Nat):Int):=O;have a2:=wrap64 (n:=i+j) O;have a3:=wS (n:=i+j) O;have a4:kw .u64 (((i+j:Nat)):Int) 1=(((i+j) / 2:Nat):Int):=by have:=zJ (a:=i+j) (i:=1) O;rw[oh]at this;exact this
   obtain⟨h,eh⟩:∃h,h=(i+j) / 2:=⟨_,rfl⟩;rw[<-eh]at a4;have a5:=wrap64 (n:=h) O;apply RG;simp only[go_sem,E,M,a1,a2,a3,a4,a5];obtain⟨g,cp,cur,ci,Z,ev,rfl,K,ri,rj,S,R,ki,kj,C⟩:=Ow.two u (fun{I} c a h=>aY.len c a h) (fun{I J c a} h k=>aY.le h k) (i:=m) (j:=h) O O;rw[(show d.size=d.size from rfl)]at ev K;simp only[Value.slice.injEq,bv,Addr.mk.injEq,dm,dP]at ev;obtain⟨eg,ek⟩:=ev;subst eg;subst ek;refine aV [0,1,2,3,4,5,6,7,8,9,10,11] [4,8] [] ?_;refine aC ?_;refine⟨O,?_⟩;refine Xc (l:=ci) (v:=.agg ci.toArray) rfl (cellsU t (.tail _ (.head _)) (by simpa using ki)) (.inl ⟨by rw[S];exact fQ,rfl⟩) ?_;refine aC ?_;refine⟨O,?_⟩;refine Xc (l:=Z) (v:=.agg Z.toArray) rfl (cellsU t (.tail _ (.head _)) (by simpa using kj)) (.inl ⟨by rw[R];exact fQ,rfl⟩) ?_;refine aC ?_;refine cv t [0] [] [_] rfl gf rfl (cf I2 _ _ _ _ ri rj) ?_;rintro v I3 qs p s⟨rfl,z,rfl,hz⟩;simp only[Z3]at p |-;refine aC ?_;apply an;cases q:bP d[m]! d[h]! with
   |false=>
    rw[q]at hz;have w3:IntKind.i64.wrap ((h:Int)+1)=((h+1:Nat):Int):=by have e0:(h:Int)+1=((h+1:Nat):Int):=O;rw[e0];exact wrap64 O
    apply RG;simp only[go_sem,E,hz,cF,w3];exact w (h+1,j) _ _ bC ae (by simp only[go_sem,ab,qS]) ⟨I3,_,rfl,p,Y o s,bL.le u s,by simp only;omega,by simp only;omega,hj,.inr q,hr⟩
   |true=>rw[q]at hz;apply RG;simp only[go_sem,E,hz,bX];exact w (i,h) _ _ bC ae (by simp only[go_sem,ab,qS]) ⟨I3,_,rfl,p,Y o s,bL.le u s,hi,by simp only;omega,by simp only;omega,N,.inr q⟩
  .have M:decide ((i:Int)<(j:Int))=false:=aS O;have:i=j:=O;subst this;apply bU 9;simp only[go_sem,E,M];exact G (i,i) _ _ ae (by simp only[go_sem,ab,qS]) ⟨I2,y,rfl,t,o,u,hi,hj,N,hr⟩
 rintro⟨i,j⟩ H ⟨I2,y,rfl,t,o,u,hi,F,N,hr⟩;simp only at hi F N hr;simp only[qS];refine av ?_;refine bz (fun k=>k) (Aa (.slice (some ⟨X,0,none⟩) d.size Q) (E i)) (fun k H=>∃A3 e,H=U [I2,A3]/\Dj [I2,A3]/\i<=k/\k<=m/\e.size=d.size/\bL I2 A3 (.slice (some ⟨X,0,none⟩) d.size Q) e.toList/\ot m k d e/\PermIn a b d e) m ae (by simp only[go_sem,ab,Aa]) ?_ ?_
 .exact⟨y,d,rfl,t,F,aW _,rfl,u,ot.zero _ _,permIn_refl _ _ _⟩
 rintro k H ⟨A3,e,rfl,p,a0,ag,D,W,V,T⟩ B;simp only[Aa];rcases aB i k with ac|am
 .obtain⟨k,rfl⟩:∃k',k=k'+1:=⟨k-1,O⟩;have L:decide (((k+1:Nat):Int)>(i:Int))=true:=ar O;have P:=mP (j:=k) O;refine aj L ?_;obtain⟨g,cp,cur,ci,Z,ev,rfl,K,ri,rj,S,R,ki,kj,C⟩:=Ow.two W (fun{I} c a h=>aY.len c a h) (fun{I J c a} h k=>aY.le h k) (i:=k+1) (j:=k) O O;rw[D]at ev K;simp only[Value.slice.injEq,bv,Addr.mk.injEq,dm,dP]at ev;obtain⟨eg,ek⟩:=ev;subst eg;subst ek;have mi:((k+1)+1)*4<=d.size*4:=bS _ O;have mj:(k+1)*4<=d.size*4:=bS _ O;refine aV [0,1,2,3,4,5,6,7,8,9,10,11,12,13,14,15,16,17] [9,13] [] ?_;refine aM P ?_;refine⟨O,?_⟩;refine Xc (l:=Z) (v:=.agg Z.toArray) rfl (cellsU p (.tail _ (.head _)) (by simpa using kj)) (.inl ⟨by rw[R];exact fQ,rfl⟩) ?_;refine aM P ?_;refine⟨O,?_⟩;refine Xc (l:=ci) (v:=.agg ci.toArray) rfl (cellsU p (.tail _ (.head _)) (by simpa using ki)) (.inl ⟨by rw[S];exact fQ,rfl⟩) ?_;refine aM P ?_;refine⟨O,?_⟩;refine cg p rfl rfl rfl rfl rfl (cR (aY.ones rj)) (by rw[R];exact mJ) (by rw[R];omega) fun ap=>?_;refine aM P ?_;refine⟨O,?_⟩;refine cg ap rfl rfl rfl rfl rfl (cR (aY.ones ri)) (by rw[S];exact mJ) (by rw[S];simp[eJ];omega) fun aq=>?_;apply an;refine aj P ?_;exact B k _ _ O ae (by simp only[go_sem,ab,Aa]) ⟨_,_,rfl,aq,O,O,by rw[gQ];exact D,C I2 (ax _),V.step D ag O,permIn_trans _ _ _ a b T (swp_permIn _ a b _ _ O O O O O)⟩
 .have L:decide ((k:Int)>(i:Int))=false:=aS O;have:k=i:=O;subst this;refine aj L ?_;exact ao rfl p (r:=[]) rfl o ⟨A3,e,rfl,W,T,QS z7 aa hs hi F N hr V⟩
def JF:∀(N:Nat) {I A:PH} {v vc:Value} {d:Array aN} {a m b:Nat},b-a<N->bL I A v d.toList->gu aY bP vc->a<m->m<b->b<=d.size->d.size<=bF->SortedIn bP a m d->SortedIn bP m b d->
  aI prog 284 #[v,E a,E m,E b,vc] I [A] (tA v d a b):=by
 intro N
 induction N with
 |zero=>intro I A v vc d a m b h;omega
 |succ N ih=>
 intro I A v vc d a m b hN hA hc cb bs hb hn bd bc;by_cases c1:m=a+1
 .exact Vt hA hc c1 bs hb hn bc
 by_cases c2:b=m+1
 .exact Vu hA hc O c2 hb hn bd
 intro hd;have b6:=hn;unfold bF at b6;obtain⟨f,fst,cap,rfl,gf,cf⟩:=id hc;obtain⟨g0,vk,rfl⟩:=Ow.addr hA O;refine aG 220 func284 fun w0=>?_
 try simp only[E]
 have w1:IntKind.i64.wrap ((m:Int)-(a:Int))=((m-a:Nat):Int):=by rw[fa O O];omega
 have w2:IntKind.i64.wrap ((b:Int)-(m:Int))=((b-m:Nat):Int):=by rw[fa O O];omega
 have q1:(((m-a:Nat):Int) == 1)=false:=by rw[hU];omega
 have q2:(((b-m:Nat):Int) == 1)=false:=by rw[hU];omega
 have a1:(a:Int)+(b:Int)=((a+b:Nat):Int):=O;have a2:=wrap64 (n:=a+b) O;have a3:=wS (n:=a+b) O;have a4:kw .u64 (((a+b:Nat)):Int) 1=(((a+b) / 2:Nat):Int):=by have:=zJ (a:=a+b) (i:=1) O;rw[oh]at this;exact this
 obtain⟨o,emid⟩:∃o,o=(a+b) / 2:=⟨_,rfl⟩;rw[<-emid]at a4;have a5:=wrap64 (n:=o) O;have w3:IntKind.i64.wrap ((o:Int)+(m:Int))=((o+m:Nat):Int):=by have e0:(o:Int)+(m:Int)=((o+m:Nat):Int):=O;rw[e0];exact wrap64 O
 have w4:IntKind.i64.wrap (((o+m:Nat):Int)-1)=((o+m-1:Nat):Int):=by have e0:((o+m:Nat):Int)-1=((o+m-1:Nat):Int):=O;rw[e0];exact wrap64 O
 obtain⟨P,Q,cr,cs⟩:∃P Q,(m>o/\P=o+m-b\/m<=o/\P=a)/\(m>o/\Q=o\/m<=o/\Q=m):=by
  rcases aB o m with h|h
  .exact⟨o+m-b,o,.inl ⟨h,rfl⟩,.inl ⟨h,rfl⟩⟩
  .exact⟨a,m,.inr ⟨h,rfl⟩,.inr ⟨h,rfl⟩⟩
 have ap:P<=Q/\a<=P/\Q<=m/\Q<=o/\o+m-P<=b:=O;apply AS (kz (.slice (some ⟨g0,0,none⟩) d.size vk) (E a) (E m) (E b) (.func (.func f) fst cap) (E o) (E (o+m)) (E (o+m-1)) (P,Q)) (fun H=>H=U [I,A])
 .intro t;rcases aB o m with b7|b7
  .have am:decide ((m:Int)>(o:Int))=true:=ar O;have es:P=o+m-b:=O;have er:Q=o:=O;have w5:IntKind.i64.wrap (((o+m:Nat):Int)-(b:Int))=((o+m-b:Nat):Int):=by rw[fa O O];omega
   apply bU 67;simp only[go_sem,w1,w2,q1,q2,a1,a2,a3,a4,a5,w3,w4,am,w5];refine fd ?_ ?_ (t _ rfl)
   .simp only[kz];rw[es,er];exact ae
   .exact(by simp only[go_sem,ab,kz])
  .have am:decide ((m:Int)>(o:Int))=false:=aS O;have es:P=a:=O;have er:Q=m:=O;apply bU 65;simp only[go_sem,w1,w2,q1,q2,a1,a2,a3,a4,a5,w3,w4,am];refine fd ?_ ?_ (t _ rfl)
   .simp only[kz];rw[es,er];exact ae
   .exact(by simp only[go_sem,ab,kz])
 rintro H rfl;simp only[kz];refine av ?_;apply gl (fun x=>x.2-x.1) (fun x=>kz (.slice (some ⟨g0,0,none⟩) d.size vk) (E a) (E m) (E b) (.func (.func f) fst cap) (E o) (E (o+m)) (E (o+m-1)) x) (fun x H=>∃I2 V,H=U [I2,V]/\Dj [I2,V]/\I.le I2/\bL I2 V (.slice (some ⟨g0,0,none⟩) d.size vk) d.toList/\P<=x.1/\x.1<=x.2/\x.2<=Q/\(x.1=P\/bP d[o+m-x.1]! d[x.1-1]! = false)/\(x.2=Q\/bP d[o+m-x.2-1]! d[x.2]! = true)) (fun x H=>∃I2 V,H=U [I2,V]/\Dj [I2,V]/\I.le I2/\bL I2 V (.slice (some ⟨g0,0,none⟩) d.size vk) d.toList/\P<=x.1/\x.1<=Q/\(x.1=P\/bP d[o+m-x.1]! d[x.1-1]! = false)/\(x.1=Q\/bP d[o+m-x.1-1]! d[x.1]! = true)) (P,Q)
 .exact ae
 .exact(by simp only[go_sem,ab,kz])
 .exact⟨I,A,rfl,hd,ax _,hA,aW _,ap.1,aW _,.inl rfl,.inl rfl⟩
 .rintro⟨i,j⟩ H ⟨I2,V,rfl,D,w,F,hi,b8,hj,hl,hr⟩ X aq;simp only at hi b8 hj hl hr;simp only[kz];rcases aB i j with ct|cx
  .have al:=Z5 i j;have b1:(i:Int)+(j:Int)=((i+j:Nat):Int):=O;have b2:=wrap64 (n:=i+j) O;have b3:=wS (n:=i+j) O;have b4:kw .u64 (((i+j:Nat)):Int) 1=(((i+j) / 2:Nat):Int):=by have:=zJ (a:=i+j) (i:=1) O;rw[oh]at this;exact this
   obtain⟨h,eh⟩:∃h,h=(i+j) / 2:=⟨_,rfl⟩;rw[<-eh]at b4;have b5:=wrap64 (n:=h) O;have w7:IntKind.i64.wrap (((o+m-1:Nat):Int)-(h:Int))=((o+m-1-h:Nat):Int):=by rw[fa O O];omega
   apply RG;simp only[go_sem,E,al,b1,b2,b3,b4,b5];obtain⟨g,cp,cur,ci,cj,ev,rfl,ca,ri,rj,li,lj,ki,kj,b0⟩:=Ow.two F (fun{I} c a h=>aY.len c a h) (fun{I J c a} h k=>aY.le h k) (i:=o+m-1-h) (j:=h) O O;rw[(show d.size=d.size from rfl)]at ev ca;simp only[Value.slice.injEq,bv,Addr.mk.injEq,dm,dP]at ev;obtain⟨eg,ek⟩:=ev;subst eg;subst ek;refine aV [0,1,2,3,4,5,6,7,8,9,10,11,12,13] [6,10] [] ?_;refine aM w7 ?_;refine⟨O,?_⟩;refine Xc (l:=ci) (v:=.agg ci.toArray) rfl (cellsU D (.tail _ (.head _)) (by simpa using ki)) (.inl ⟨by rw[li];exact fQ,rfl⟩) ?_;refine aM w7 ?_;refine⟨O,?_⟩;refine Xc (l:=cj) (v:=.agg cj.toArray) rfl (cellsU D (.tail _ (.head _)) (by simpa using kj)) (.inl ⟨by rw[lj];exact fQ,rfl⟩) ?_;refine aM w7 ?_;refine cv D [0] [] [_] rfl gf rfl (cf I2 _ _ _ _ ri rj) ?_;rintro v W qs B u⟨rfl,z,rfl,hz⟩;simp only[Z3]at B |-;refine aC ?_;apply an;cases R:bP d[o+m-1-h]! d[h]! with
   |false=>
    rw[R]at hz;have w8:IntKind.i64.wrap ((h:Int)+1)=((h+1:Nat):Int):=by have e0:(h:Int)+1=((h+1:Nat):Int):=O;rw[e0];exact wrap64 O
    apply RG;simp only[go_sem,E,hz,cF,w8];exact X (h+1,j) _ _ bC ae (by simp only[go_sem,ab,kz]) ⟨W,_,rfl,B,Y w u,bL.le F u,by simp only;omega,by simp only;omega,hj,.inr (by simp only;rw[show o+m-(h+1)=o+m-1-h by omega];exact R),hr⟩
   |true=>rw[R]at hz;apply RG;simp only[go_sem,E,hz,bX];exact X (i,h) _ _ bC ae (by simp only[go_sem,ab,kz]) ⟨W,_,rfl,B,Y w u,bL.le F u,hi,by simp only;omega,by simp only;omega,hl,.inr (by simp only;rw[show o+m-h-1=o+m-1-h by omega];exact R)⟩
  .have al:decide ((i:Int)<(j:Int))=false:=aS O;have:i=j:=O;subst this;apply bU 9;simp only[go_sem,E,al];exact aq (i,i) _ _ ae (by simp only[go_sem,ab,kz]) ⟨I2,V,rfl,D,w,F,hi,hj,hl,hr⟩
 rintro⟨s,j⟩ H ⟨I2,V,rfl,D,w,F,hi,hj,hl,hr⟩;simp only at hi hj hl hr;simp only[kz];have a7:a<=s/\s<=m/\s<=o/\m<=o+m-s/\o+m-s<=b/\o<=o+m-s:=O;have w9:IntKind.i64.wrap (((o+m:Nat):Int)-(s:Int))=((o+m-s:Nat):Int):=by rw[fa O O];omega
 obtain⟨z,ez⟩:∃z,z=o+m-s:=⟨_,rfl⟩;rw[<-ez]at w9 hl hr a7;apply AS (wG (.slice (some ⟨g0,0,none⟩) d.size vk) (E a) (E b) (.func (.func f) fst cap) (E o) (E s) (E z)) (fun H=>∃W A3 e,H=U [W,A3]/\Dj [W,A3]/\I.le W/\bL W A3 (.slice (some ⟨g0,0,none⟩) d.size vk) e.toList/\PermIn a b d e/\gU m (m-s) (z-m) d e)
 .intro t;by_cases c3:s<m/\m<z
  .have L:=Z5 s m;have ag:=Z5 m z;refine lr w9 L ag ?_;refine ce D [0] [V] [] rfl PP rfl (Ui (a:=s) (m:=m) (b:=z) F c3.1 c3.2 O hn) ?_;rintro v W qs B u⟨A3,e,rfl,a0,T,ba⟩;simp only[Z3]at B |-;apply bU 1;simp only[go_sem,E];refine fd ?_ ?_ (t _ ⟨W,A3,e,rfl,B,Y w u,a0,permIn_mono _ _ s z a b O O hb T,ba⟩)
   .exact ae
   .exact(by simp only[go_sem,ab,wG])
  .have bo:m-s=0\/z-m=0:=by omega
   rcases aB s m with c4|c4
   .have L:=Z5 s m;have ag:decide ((m:Int)<(z:Int))=false:=aS O;apply bU 21;simp only[go_sem,E,w9,L,ag];refine fd ?_ ?_ (t _ ⟨I2,V,d,rfl,D,w,F,permIn_refl _ _ _,gU.triv bo O⟩)
    .exact ae
    .exact(by simp only[go_sem,ab,wG])
   .have L:decide ((s:Int)<(m:Int))=false:=aS O;apply bU 21;simp only[go_sem,E,w9,L];refine fd ?_ ?_ (t _ ⟨I2,V,d,rfl,D,w,F,permIn_refl _ _ _,gU.triv bo O⟩)
    .exact ae
    .exact(by simp only[go_sem,ab,wG])
 rintro H ⟨W,A3,e,rfl,B,u,a0,T,ba⟩;have cn:=T.1;rw[ez]at ba hl hr;obtain⟨y1,y2,y3,y4,y5⟩:=Vv z7 (fo cb) (fo bs) bd bc emid a7.1 a7.2.1 a7.2.2.1 O O ⟨fun hm=>by
  rcases hl with h|h
  .exact .inl O
  .exact .inr (.inr h),fun hm=>by
  rcases hl with h|h
  .exact .inl O
  .exact .inr h⟩ (by
  rcases hr with h|h
  .refine .inl ?_;split<;>omega
  .exact .inr h) ba
 rw[<-ez]at y3 y4;simp only[wG];apply AS (wH (.slice (some ⟨g0,0,none⟩) d.size vk) (E b) (.func (.func f) fst cap) (E o) (E z)) (fun H=>∃I4 A4 e2,H=U [I4,A4]/\Dj [I4,A4]/\I.le I4/\bL I4 A4 (.slice (some ⟨g0,0,none⟩) d.size vk) e2.toList/\PermIn a o e e2/\SortedIn bP a o e2)
 .intro t;by_cases c3:a<s/\s<o
  .have K:=Z5 a s;have ac:=Z5 s o;refine bW K ac ?_;refine ce B [0] [A3] [] rfl yt rfl (ih (a:=a) (m:=s) (b:=o) O a0 hc c3.1 c3.2 O O y1 y2) ?_;rintro v I4 qs S C⟨A4,e2,rfl,Z,M,a9⟩;simp only[Z3]at S |-;apply bU 1;simp only[go_sem,E];refine fd ?_ ?_ (t _ ⟨I4,A4,e2,rfl,S,Y u C,Z,M,a9⟩)
   .exact ae
   .exact(by simp only[go_sem,ab,wH])
  .have a6:SortedIn bP a o e:=by
    rcases aB a s with h|h
    .have:s=o:=by omega
     rw[<-this];exact y1
    .have:s=a:=by omega
     rw[<-this];exact y2
   rcases aB a s with c4|c4
   .have K:=Z5 a s;have ac:decide ((s:Int)<(o:Int))=false:=aS O;apply bU 14;simp only[go_sem,E,K,ac];refine fd ?_ ?_ (t _ ⟨W,A3,e,rfl,B,u,a0,permIn_refl _ _ _,a6⟩)
    .exact ae
    .exact(by simp only[go_sem,ab,wH])
   .have K:decide ((a:Int)<(s:Int))=false:=aS O;apply bU 14;simp only[go_sem,E,K];refine fd ?_ ?_ (t _ ⟨W,A3,e,rfl,B,u,a0,permIn_refl _ _ _,a6⟩)
    .exact ae
    .exact(by simp only[go_sem,ab,wH])
 rintro H ⟨I4,A4,e2,rfl,S,C,Z,M,a9⟩;have cm:=M.1;simp only[wH];have tr:∀x y,o<=x->SortedIn bP x y e->SortedIn bP x y e2:=fun x y hx h i j h1 h2 h3=>by rw[M.2.1 i (.inr O),M.2.1 j (.inr O)];exact h i j h1 h2 h3
 by_cases c3:o<z/\z<b
 .have G:=Z5 o z;have aa:=Z5 z b;refine bW G aa ?_;refine ce S [0] [A4] [] rfl yt rfl (ih (a:=o) (m:=z) (b:=b) O Z hc c3.1 c3.2 O O (tr _ _ (aW _) y3) (tr _ _ O y4)) ?_;rintro v I5 qs bx bb⟨A5,e3,rfl,cl,ck,cc⟩;simp only[Z3]at bx |-;refine av ?_;obtain⟨p,q⟩:=JG O O O y5 M a9 ck cc;exact iu rfl bx (r:=[]) rfl (Y C bb) ⟨A5,e3,rfl,cl,permIn_trans _ _ _ a b T p,q⟩
 .have a6:SortedIn bP o b e2:=by
   rcases aB o z with h|h
   .have:z=b:=by omega
    rw[<-this];exact tr _ _ (aW _) y3
   .have:z=o:=by omega
    exact tr _ _ (aW _) (this▸y4)
  obtain⟨p,q⟩:=JG O O O y5 M a9 (permIn_refl _ _ _) a6;rcases aB o z with c4|c4
  .have G:=Z5 o z;have aa:decide ((z:Int)<(b:Int))=false:=aS O;refine bW G aa ?_;exact iu rfl S (r:=[]) rfl C ⟨A4,e2,rfl,Z,permIn_trans _ _ _ a b T p,q⟩
  .have G:decide ((o:Int)<(z:Int))=false:=aS O;refine aj G ?_;exact iu rfl S (r:=[]) rfl C ⟨A4,e2,rfl,Z,permIn_trans _ _ _ a b T p,q⟩
def Pt:ay prog 235:=⟨_,func235,rfl,rfl⟩
def O9:ay prog 167:=⟨_,func167,rfl,rfl⟩
def Ho{d:Array aN}(h:bL I A v d.toList)(g:gu aY bP vc)(c:a<=b)(hb:b<=d.size)(e:d.size<=bF):
  aI prog 283 #[v,E a,E b,vc] I [A] (tA v d a b):=
 (QQ h g hb e O).mono fun r I2 qs f ⟨j,i,e2⟩=>⟨j,_,i,e2,Sort.insertionSort_holds z7 d a b c hb⟩
def tj(v b vc:Value)(a:Nat):St:=⟨dn 63 [(0,.v v),(1,.v b),(2,.v vc),(6,.v (.int .i64 20)),(7,.v (E a)),(8,.v (E (a+20)))],[]⟩
def wu(v a vc:Value)(s:Nat):St:=⟨dn 63 [(0,.v v),(1,.v a),(2,.v vc),(6,.v (E s))],[]⟩
def tp(v b vc:Value)(s a:Nat):St:=⟨dn 63 [(0,.v v),(1,.v b),(2,.v vc),(6,.v (E s)),(7,.v (E a)),(8,.v (E (a+2*s)))],[]⟩
def Ay(h:a+b<2^62):IntKind.i64.wrap ((a:Int)+(b:Int))=((a+b:Nat):Int):=by rw[<-wrap64 h];congr 1<;>omega
def Wx{s:Nat}(h:2*s<2^62):IntKind.i64.wrap (2*(s:Int))=((2*s:Nat):Int):=by rw[<-wrap64 h];congr 1<;>omega
def Wy{s:Nat}(h:2*s<2^62):IntKind.i64.wrap ((s:Int)*2)=((2*s:Nat):Int):=by rw[<-wrap64 h];congr 1<;>omega
def Vb{d:Array aN}(hA:bL I A v d.toList)(hc:gu aY bP vc)(hn:d.size<=bF):
  aI prog 235 #[v,E d.size,vc] I [A] (tA v d 0 d.size):=by
 intro hd;have a9:=hn;unfold bF at a9;obtain⟨f,fst,cap,rfl,gf,cf⟩:=id hc;obtain⟨va,vk,rfl⟩:=Ow.one' hA;refine aG 63 func235 fun w0=>?_
 try simp only[E]
 refine af ?_;apply gl (fun a=>d.size-a) (fun a=>tj (.slice va d.size vk) (E d.size) (.func (.func f) fst cap) a) (fun a H=>∃q I2 D e,H=U [I2,D]/\Dj [I2,D]/\I.le I2/\bL I2 D (.slice va d.size vk) e.toList/\PermIn 0 d.size d e/\a=20*q/\a<=d.size/\f9 bP 20 a e) (fun a H=>∃q I2 D e,H=U [I2,D]/\Dj [I2,D]/\I.le I2/\bL I2 D (.slice va d.size vk) e.toList/\PermIn 0 d.size d e/\a=20*q/\a<=d.size/\d.size<a+20/\f9 bP 20 a e) 0
 .exact ae
 .exact(by simp only[go_sem,ab,tj])
 .exact⟨0,I,A,d,rfl,hd,ax _,hA,permIn_refl _ _ _,rfl,bg _,f9.zero _ _⟩
 .rintro a H ⟨q,I2,D,e,rfl,N,p,T,z,c,w,R⟩ g ac;have a7:=z.1;simp only[tj];rcases aB d.size (a+20)with i|u
  .have a2:decide (((a+20:Nat):Int)<=(d.size:Int))=false:=aS O;apply bU 9;simp only[go_sem,E,a2];exact ac a _ _ ae (by simp only[go_sem,ab,tj]) ⟨q,I2,D,e,rfl,N,p,T,z,c,w,i,R⟩
  .have a2:decide (((a+20:Nat):Int)<=(d.size:Int))=true:=ar O;have w1:IntKind.i64.wrap (((a+20:Nat):Int)+20)=((a+20+20:Nat):Int):=Ay (b:=20) O;refine aj a2 ?_;refine ce N [0] [D] [] rfl G6 rfl (Ho (a:=a) (b:=a+20) T hc O O O) ?_;rintro v I3 qs M J⟨A3,e3,rfl,ap,x,Z⟩;simp only[Z3]at M |-;refine aj w1 ?_;subst c;exact g (20*q+20) _ _ O ae (by simp only[go_sem,ab,tj]) ⟨q+1,I3,A3,e3,rfl,M,Y p J,ap,permIn_trans _ _ _ 0 d.size z (permIn_mono _ _ (20*q) (20*q+20) 0 d.size O u O x),O,u,R.step O (aW _) x Z⟩
 rintro a H ⟨q,I2,D,e,rfl,N,p,T,z,c,w,i,R⟩;have a7:=z.1;simp only[tj];refine av ?_;refine ce N [0] [D] [] rfl G6 rfl (Ho (a:=a) (b:=d.size) T hc O O O) ?_;rintro v I3 qs M J⟨A3,e3,rfl,ap,x,Z⟩;simp only[Z3]at M |-;refine av ?_;subst c;have bd:f9 bP 20 d.size e3:=R.step O O x Z;have al:=permIn_trans _ _ _ 0 d.size z (permIn_mono _ _ (20*q) d.size 0 d.size O (aW _) O x);clear R x Z T N i w;have k3:=Y p J;refine bz (fun s=>d.size-s) (fun s=>wu (.slice va d.size vk) (E d.size) (.func (.func f) fst cap) s) (fun s H=>∃I4 A4 e4,H=U [I4,A4]/\Dj [I4,A4]/\I.le I4/\bL I4 A4 (.slice va d.size vk) e4.toList/\PermIn 0 d.size d e4/\0<s/\f9 bP s d.size e4) 20 ae (by simp only[go_sem,ab,wu]) ?_ ?_
 .exact⟨I3,A3,e3,rfl,M,k3,ap,al,O,bd⟩
 rintro s H ⟨I4,A4,e4,rfl,a3,aa,a5,ag,F,a4⟩ g;have bo:=ag.1;simp only[wu];rcases aB s d.size with bs|bc
 rotate_left
 .have a1:decide ((s:Int)<(d.size:Int))=false:=aS O;refine aj a1 ?_;exact iu rfl a3 (r:=[]) rfl aa ⟨A4,e4,rfl,a5,ag,a4.all bc⟩
 have a1:=Z5 s d.size;have w2:=Wx (s:=s) O;have w3:=Wy (s:=s) O;refine bW a1 w2 ?_;apply gl (fun a=>d.size-a) (fun a=>tp (.slice va d.size vk) (E d.size) (.func (.func f) fst cap) s a) (fun a H=>∃q B C t,H=U [B,C]/\Dj [B,C]/\I.le B/\bL B C (.slice va d.size vk) t.toList/\PermIn 0 d.size d t/\a=2*s*q/\a<=d.size/\f9 bP (2*s) a t/\oI bP s a d.size t) (fun a H=>∃q B C t,H=U [B,C]/\Dj [B,C]/\I.le B/\bL B C (.slice va d.size vk) t.toList/\PermIn 0 d.size d t/\a=2*s*q/\a<=d.size/\d.size<a+2*s/\f9 bP (2*s) a t/\oI bP s a d.size t) 0
 .exact(n4 (by simp only[go_sem,ab,E,eR]))
 .exact(by simp only[go_sem,ab,tp])
 .exact⟨0,I4,A4,e4,rfl,a3,aa,a5,ag,by simp,bg _,f9.zero _ _,a4.runs⟩
 .rintro a H ⟨q,B,C,t,rfl,L,h,S,o,c,w,j,n⟩ W X;have a6:=o.1;have p1:s*(2*q)=a:=by rw[c,Nat.mul_left_comm,Nat.mul_assoc]
  have p2:s*(2*q+1)=a+s:=by rw[Nat.mul_add,Nat.mul_one,p1]
  simp only[tp];rcases aB d.size (a+2*s)with i|u
  .have a0:decide (((a+2*s:Nat):Int)<=(d.size:Int))=false:=aS O;apply bU 9;simp only[go_sem,E,a0];exact X a _ _ ae (by simp only[go_sem,ab,tp]) ⟨q,B,C,t,rfl,L,h,S,o,c,w,i,j,n⟩
  .have a0:decide (((a+2*s:Nat):Int)<=(d.size:Int))=true:=ar O;have w4:=Ay (a:=a) (b:=s) O;have w5:=Ay (a:=a+2*s) (b:=2*s) O;have V:=n.at' F O (y:=a+s) (q:=2*q) O O;have y2:=n.at' F O (y:=a+2*s) (q:=2*q+1) O u;rw[p1]at V;rw[p2]at y2;refine bW a0 w4 ?_;refine ce L [0] [C] [] rfl yt rfl (JF (a+2*s-a+1) (a:=a) (m:=a+s) (b:=a+2*s) O S hc O O O O V y2) ?_;rintro v I6 qs K G⟨A6,e6,rfl,am,l,P⟩;simp only[Z3]at K |-;refine bW w2 w5 ?_;have Q:f9 bP (2*s) (a+2*s) e6:=by rw[c]at j l P |-;exact j.step O (aW _) l P
   exact W (a+2*s) _ _ O ae (by simp only[go_sem,ab,tp]) ⟨q+1,I6,A6,e6,rfl,K,Y h G,am,permIn_trans _ _ _ 0 d.size o (permIn_mono _ _ a (a+2*s) 0 d.size O u O l),by rw[Nat.mul_add,Nat.mul_one,<-c],u,Q,n.keep O fun k hk=>l.2.1 k (.inr hk)⟩
 rintro a H ⟨q,B,C,t,rfl,L,h,S,o,c,w,i,j,n⟩;have a6:=o.1;have p1:s*(2*q)=a:=by rw[c,Nat.mul_left_comm,Nat.mul_assoc]
 have p2:s*(2*q+1)=a+s:=by rw[Nat.mul_add,Nat.mul_one,p1]
 have w4:=Ay (a:=a) (b:=s) O;simp only[tp];rcases aB (a+s) d.size with ba|bb
 .have aq:=Z5 (a+s) d.size;have V:=n.at' F O (y:=a+s) (q:=2*q) O O;have y2:=n.at' F O (y:=d.size) (q:=2*q+1) O (aW _);rw[p1]at V;rw[p2]at y2;refine bW w4 aq ?_;refine ce L [0] [C] [] rfl yt rfl (JF (d.size-a+1) (a:=a) (m:=a+s) (b:=d.size) O S hc O O O O V y2) ?_;rintro v I6 qs K G⟨A6,e6,rfl,am,l,P⟩;simp only[Z3]at K |-;refine aj w3 ?_;have Q:f9 bP (2*s) d.size e6:=by rw[c]at j l P i;exact j.step O O l P
  exact g (2*s) _ _ O ae (by simp only[go_sem,ab,wu]) ⟨I6,A6,e6,rfl,K,Y h G,am,permIn_trans _ _ _ 0 d.size o (permIn_mono _ _ a d.size 0 d.size O (aW _) O l),O,Q⟩
 .have aq:decide (((a+s:Nat):Int)<(d.size:Int))=false:=aS O;have V:=n.at' F O (y:=d.size) (q:=2*q) O (aW _);rw[p1]at V;refine lr w4 aq w3 ?_;have Q:f9 bP (2*s) d.size t:=by rw[c]at j V i;exact j.rest O V O
  exact g (2*s) _ _ O ae (by simp only[go_sem,ab,wu]) ⟨B,C,t,rfl,L,h,S,o,O,Q⟩
def UY{d:Array aN}(i:bL I A v d.toList)(h:gu aY bP vc)(k:d.size<=bF):
  aI prog 167 #[v,vc] I [A] (tA v d 0 d.size):=by
 intro hd;obtain⟨f,fst,cap,rfl,o,p⟩:=id h;obtain⟨n,m,rfl⟩:=Ow.one' i;refine aG 9 func167 fun w0=>?_;refine af ?_;refine ce hd [0] [A] [] rfl Pt rfl (Vb i h k) ?_;rintro v I2 qs b a⟨l,e2,rfl,g,e,c⟩;simp only[Z3]at b |-;refine af ?_;exact iu rfl b (r:=[]) rfl a ⟨l,e2,rfl,g,e,c⟩
end Go.Proofs.YtfaclfkpnmcmlaaGreatDoor
