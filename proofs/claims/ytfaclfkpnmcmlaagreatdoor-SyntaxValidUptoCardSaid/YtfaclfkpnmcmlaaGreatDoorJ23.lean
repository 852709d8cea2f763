import Derived.Test.YtfaclfkpnmcmlaaGreatDoorJ14
import Derived.Test.YtfaclfkpnmcmlaaGreatDoorJ20
import Derived.Test.YtfaclfkpnmcmlaaGreatDoorJ21
set_option maxHeartbeats 8000000
set_option linter.all false
open Go.Proofs.Tryz
namespace Go.Proofs.YtfaclfkpnmcmlaaGreatDoor
open Go Go.Sx Dg Syn
def Qd:ax prog 280:=⟨_,func280,rfl,rfl⟩
def HT:ax prog 225:=⟨_,func225,rfl,rfl⟩
def Qf:ax prog 297:=⟨_,func297,rfl,rfl⟩
def Qg:ax prog 298:=⟨_,func298,rfl,rfl⟩
def P7:ax prog 273:=⟨_,func273,rfl,rfl⟩
def CT:∀(f x k:Nat),x<2^f->(Lib.bitLenAux f x<=k<->x<2^k)
 |0,x,k,h=>by
  have:x=0:=by simpa using h
  subst this;simp[Lib.bitLenAux,Nat.two_pow_pos]
 |f+1,x,k,h=>by
  rw[Lib.bitLenAux];by_cases a:x=0
  .subst a;simp[Nat.two_pow_pos]
  .rw[ab a];cases k with
   |zero=>simp;omega
   |succ k=>have:=CT f (x / 2) k (by rw[tN]at h;omega);rw[tN];omega
variable{n:Nat}
def Nr(h:n<2^64):Lib.bitLen n=Sort.bitsLen n:=by
 apply Nat.le_antisymm
 .exact(CT 64 n _ h).2 (Sort.lt_two_pow_bitsLen n)
 .exact(Sort.bitsLen_le_iff n _).2 ((CT 64 n _ h).1 (aR _))
def Te(b:n<2^63)(H:PH):br prog 280 #[.int .u64 n] H fun v H2=>v=E (Sort.bitsLen n)/\H2=H:=by intro w a;refine(Any.bits_Len64 { lays171 with } (n:Int) w O O).mono ?_;rintro e w2 ⟨rfl,rfl⟩;exact⟨H,cM.refl a,by rw[Int.toNat_natCast,Nr O];rfl,rfl⟩
def IQ(a:n<2^63)(H:PH):br prog 225 #[.int .u64 n] H fun v H2=>v=E (Sort.bitsLen n)/\H2=H:=by refine aP 8 func225 fun w0=>?_;refine ai ?_;refine X4 rfl Qd (Te a H) ?_;rintro v H2⟨rfl,rfl⟩;refine ai ?_;exact aU (r:=[_]) rfl ⟨rfl,rfl⟩
def yK(h:n<2^64):IntKind.u64.wrap (n:Int)=(n:Int):=by simp only[IntKind.wrap,show IntKind.bits .u64=64 from rfl,show IntKind.signed .u64=false from rfl];simp;omega
def Uf(b:n<2^41)(H:PH):br prog 297 #[E n] H fun v H2=>v=.int .u64 ((2^Sort.bitsLen n:Nat):Int)/\H2=H:=by
 have hb:Sort.bitsLen n<=41:=(Sort.bitsLen_le_iff n 41).2 b;refine aP 7 func297 fun w0=>?_
 try simp only[E]
 have a:=yK (n:=n) O;refine dq a ?_;refine X4 rfl HT (IQ O H) ?_;rintro v H2⟨rfl,rfl⟩;have h0:(0:Int)<=(Sort.bitsLen n:Int):=gH _;have w2:qz .u64 1 (Sort.bitsLen n:Int)=((2^Sort.bitsLen n:Nat):Int):=by unfold qz;rw[show IntKind.bits .u64=64 from rfl,Int.toNat_natCast,ju O];have h2:2^Sort.bitsLen n<=2^41:=we O hb;have:=yK (n:=2^Sort.bitsLen n) O;rw[show (1:Int)*2^Sort.bitsLen n=((2^Sort.bitsLen n:Nat):Int) by simp];exact this
 apply RG;simp only[go_sem,E,h0,w2];exact aU (r:=[_]) rfl ⟨rfl,rfl⟩
abbrev rY(b:Nat)(x:Int):PH:=sg b (.cells #[.int .u64 x] 377 (0,0))
variable{I:PH}
def T9{rb:Nat}{x:Int}:aT prog 298 #[pt rb] I [rY rb x] fun r e d=>e=I/\∃y,d=[rY rb y]/\r=.int .u64 y:=by
 intro hd;refine aP 33 func298 fun w0=>?_
 try simp only[pt]
 have c:∀x,aX (rY rb x) rb 0 [.int .u64 x]:=fun x=>dt (by simp) rfl;refine ai ?_;refine bE [0,1,2,3,4,5,6,7,8,9] [2,5] [9] ?_;refine pq ?_;refine X6 (l:=[.int .u64 x]) rfl (cellsU hd (.tail _ (.head _)) (c x)) (.inr ⟨rh,rfl⟩) ?_;refine pq ?_;refine X6 (l:=[.int .u64 x]) rfl (cellsU hd (.tail _ (.head _)) (c x)) (.inr ⟨rh,rfl⟩) ?_;refine pq ?_;refine cT hd rfl rfl rfl rfl rfl rfl (by exact BH) (by simp) fun a=>?_;apply aL;clear hd;simp only[bL,List.set]at a |-;obtain⟨x,b⟩:∃y,y=qH .u64 x (qz .u64 x 13):=⟨_,rfl⟩;rw[<-b]at a |-;clear b;have hd:=a;clear a;refine qZ ?_;refine bE [0,1,2,3,4,5,6,7,8,9] [2,5] [9] ?_;refine pq ?_;refine X6 (l:=[.int .u64 x]) rfl (cellsU hd (.tail _ (.head _)) (c x)) (.inr ⟨rh,rfl⟩) ?_;refine pq ?_;refine X6 (l:=[.int .u64 x]) rfl (cellsU hd (.tail _ (.head _)) (c x)) (.inr ⟨rh,rfl⟩) ?_;refine pq ?_;refine cT hd rfl rfl rfl rfl rfl rfl (by exact BH) (by simp) fun a=>?_;apply aL;clear hd;simp only[bL,List.set]at a |-;obtain⟨x,b⟩:∃y,y=qH .u64 x (l8 .u64 x 7):=⟨_,rfl⟩;rw[<-b]at a |-;clear b;have hd:=a;clear a;refine qZ ?_;refine bE [0,1,2,3,4,5,6,7,8,9] [2,5] [9] ?_;refine pq ?_;refine X6 (l:=[.int .u64 x]) rfl (cellsU hd (.tail _ (.head _)) (c x)) (.inr ⟨rh,rfl⟩) ?_;refine pq ?_;refine X6 (l:=[.int .u64 x]) rfl (cellsU hd (.tail _ (.head _)) (c x)) (.inr ⟨rh,rfl⟩) ?_;refine pq ?_;refine cT hd rfl rfl rfl rfl rfl rfl (by exact BH) (by simp) fun a=>?_;apply aL;clear hd;simp only[bL,List.set]at a |-;obtain⟨x,b⟩:∃y,y=qH .u64 x (qz .u64 x 17):=⟨_,rfl⟩;rw[<-b]at a |-;clear b;have hd:=a;clear a;refine qZ ?_;refine X5 (l:=[.int .u64 x]) rfl (cellsU hd (.tail _ (.head _)) (c x)) (.inr ⟨rh,rfl⟩) ?_;refine qZ ?_;exact az rfl hd (r:=[_]) rfl (aC _) ⟨rfl,x,rfl,rfl⟩
def Nf{x:Int}{m:Nat}(hm:m<2^62):∃z:Nat,mz .u64 x (m:Int)=(z:Int)/\z<=m:=by
 unfold mz;rw[show IntKind.bits .u64=64 from rfl,BitVec.toNat_and];have h2:(BitVec.ofInt 64 (m:Int)).toNat=m:=by rw[BitVec.toNat_ofInt];omega
 rw[h2];have h3:(BitVec.ofInt 64 x).toNat&&&m<=m:=Nat.and_le_right;exact⟨_,yK O,h3⟩
def wO(v:Value)(a n m rb b:Nat):St:=⟨dn 67 [(0,.v v),(1,.v (E a)),(8,.v (E n)),(9,.v (pt rb)),(10,.v (.int .u64 m)),(11,.v (E b))],[]⟩
variable{d:Array M}{v vc:Value}{A:PH}
theorem Nz{a b:Nat}(hA:ar I A v d.toList)(a5:a<=b)(hb:b<=d.size)(hn:d.size<=ao):
  aT prog 273 #[v,E a,E b,vc] I [A] fun _ I2 qs=>∃B u,qs=[B]/\Sort.PermIn a b d u/\ar I2 B v u.toList:=by
 intro hd;unfold ao at hn;obtain⟨va,vk,rfl⟩:=Ow.one' hA;refine aP 67 func273 fun w0=>?_
 try simp only[E]
 have w1:IntKind.i64.wrap ((b:Int)-(a:Int))=((b-a:Nat):Int):=by rw[fu O O];omega
 rcases aI (b-a) 8 with h8|h8
 .have V:decide (((b-a:Nat):Int)>=8)=false:=cd O;refine lI w1 V ?_;exact jM rfl hd (r:=[]) rfl (aC _) ⟨A,d,rfl,Sort.permIn_refl d a b,hA⟩
 have V:decide (((b-a:Nat):Int)>=8)=true:=bl O;have w2:IntKind.u64.wrap ((b-a:Nat):Int)=((b-a:Nat):Int):=yK O;apply cD 20;simp only[go_sem,w1,V,w2];refine jL 9 hd rfl fun rb am=>?_;have ac:Dj [I,rY rb ((b-a:Nat):Int),A]:=am
 change RC _ _ _ (U [I,rY rb ((b-a:Nat):Int),A])
 clear am hd;refine aj ac [1,0] fun a2=>?_;clear ac;have N:(((b-a:Nat):Int)).tdiv 4=(((b-a) / 4:Nat):Int):=rfl;obtain⟨q,aq⟩:∃q,q=(b-a) / 4:=⟨_,rfl⟩;have F:IntKind.i64.wrap ((((b-a) / 4:Nat):Int))=(q:Int):=by rw[<-aq];exact wrap64 O
 have w3:IntKind.i64.wrap ((q:Int)*2)=((2*q:Nat):Int):=by rw[<-wrap64 (n:=2*q) O];congr 1;omega
 have w4:IntKind.i64.wrap ((a:Int)+((2*q:Nat):Int))=((a+2*q:Nat):Int):=by rw[<-wrap64 (n:=a+2*q) O];congr 1
 have w5:IntKind.i64.wrap (((a+2*q:Nat):Int)-1)=((a+2*q-1:Nat):Int):=by rw[<-wrap64 (n:=a+2*q-1) O];congr 1;omega
 have w6:IntKind.i64.wrap (((a+2*q:Nat):Int)+1)=((a+2*q+1:Nat):Int):=by rw[<-wrap64 (n:=a+2*q+1) O];congr 1
 apply RG;simp only[go_sem,iN,List.map,E,pt];refine X4 rfl Qf (Uf (n:=b-a) O _) ?_;rintro r H2⟨rfl,rfl⟩;have a0:=Sort.two_pow_bitsLen_le (n:=b-a) O;have aS:0<2^Sort.bitsLen (b-a):=Nat.two_pow_pos _;generalize 2^Sort.bitsLen (b-a)=m at a0 aS |-;have w7:IntKind.u64.wrap ((m:Int)-1)=((m-1:Nat):Int):=by rw[<-yK (n:=m-1) O];congr 1;omega
 apply RG;simp only[go_sem,iN,List.map,E,pt,N,F,w3,w4,w5];refine bY (fun x=>a+2*q+2-x) (wO (.slice va d.size vk) a (b-a) m rb) (fun x H=>∃y B u,H=U [I,B,rY rb y]/\Dj [I,B,rY rb y]/\a<=x/\x<=a+2*q+2/\Sort.PermIn a b d u/\ar I B (.slice va d.size vk) u.toList) (a+2*q-1) cJ (by simp only[go_sem,Y,wO,E,pt]) ?_ ?_
 .exact⟨_,A,d,rfl,a2,O,O,Sort.permIn_refl d a b,hA⟩
 rintro x H ⟨y,B,u,rfl,aa,W,a4,w,S⟩ t;simp only[wO];have X:u.size=d.size:=w.1;have an:decide ((x:Int)<=((a+2*q+1:Nat):Int))=decide (x<=a+2*q+1):=by simp only[Int.ofNat_le]
 by_cases hx:x<=a+2*q+1
 .have L:decide (x<=a+2*q+1)=true:=bl hx;have w8:=Z7 x;apply RG;simp only[go_sem,E,pt,N,F,w3,w4,w6,an,L];refine au aa [1,0] [rY rb y] [B] rfl Qg rfl (T9) ?_;rintro r I3 qs Z a1⟨rfl,y2,rfl,rfl⟩;simp only[Z3]at Z |-;obtain⟨z,hz,a3⟩:=Nf (x:=y2) (m:=m-1) O;have w9:IntKind.i64.wrap (z:Int)=(z:Int):=wrap64 O;refine aj Z [1,0] fun p=>?_;rcases aI z (b-a)with ap|ap
  .have T:decide ((z:Int)>=((b-a:Nat):Int))=false:=cd O;apply RG;simp only[go_sem,E,pt,w7,hz,w9,T];have ho:z<b-a:=by omega
   have e:IntKind.i64.wrap ((a:Int)+((z:Nat):Int))=((a+(z):Nat):Int):=by rw[<-wrap64 (n:=a+(z)) O];congr 1
   generalize z=o at ho e |-;obtain⟨g,cp,cur,ci,cj,ev,rfl,Q,ri,rj,K,G,ki,kj,s⟩:=Ow.two S (fun{I} c a h=>ae.len c a h) (fun{I J c a} h k=>ae.le h k) (i:=x) (j:=a+o) O O;rw[X]at ev Q;cases ev
   have mi:(x+1)*7<=d.size*7:=ch _ O;have mj:((a+o)+1)*7<=d.size*7:=ch _ O;refine bE [0,1,2,3,4,5,6,7,8,9,10,11,12,13,14,15,16,17,18,19] [11,15] [] ?_;refine bJ e ?_;refine⟨O,?_⟩;refine X6 (l:=cj) (v:=.agg cj.toArray) rfl (cellsU p (.tail _ (.head _)) (by simpa using kj)) (.inl ⟨by rw[G];exact b9,rfl⟩) ?_;refine bJ e ?_;refine⟨O,?_⟩;refine X6 (l:=ci) (v:=.agg ci.toArray) rfl (cellsU p (.tail _ (.head _)) (by simpa using ki)) (.inl ⟨by rw[K];exact b9,rfl⟩) ?_;refine bJ e ?_;refine⟨O,?_⟩;refine cT p rfl rfl rfl rfl rfl (dF (ae.ones rj)) (by rw[G];exact ep) (by rw[G];omega) fun P=>?_;refine bJ e ?_;refine⟨O,?_⟩;refine cT P rfl rfl rfl rfl rfl (dF (ae.ones ri)) (by rw[K];exact ep) (by rw[K];simp[eC];omega) fun f=>?_;apply aL;refine be w8 ?_;have R:=s I3 (aC _);exact t (x+1) _ _ O cJ (by simp only[go_sem,Y,wO,E,pt]) ⟨y2,_,_,rfl,f,O,O,Sort.permIn_trans _ _ _ _ _ w (Sort.swp_permIn u a b x (a+o) W O O O O),R⟩
  .have T:decide ((z:Int)>=((b-a:Nat):Int))=true:=bl O;have w11:IntKind.i64.wrap ((z:Int)-((b-a:Nat):Int))=((z-(b-a):Nat):Int):=by rw[fu O O];omega
   apply RG;simp only[go_sem,E,pt,w7,hz,w9,T,w11];have ho:z-(b-a)<b-a:=by omega
   have e:IntKind.i64.wrap ((a:Int)+((z-(b-a):Nat):Int))=((a+(z-(b-a)):Nat):Int):=by rw[<-wrap64 (n:=a+(z-(b-a))) O];congr 1
   generalize z-(b-a)=o at ho e |-;obtain⟨g,cp,cur,ci,cj,ev,rfl,Q,ri,rj,K,G,ki,kj,s⟩:=Ow.two S (fun{I} c a h=>ae.len c a h) (fun{I J c a} h k=>ae.le h k) (i:=x) (j:=a+o) O O;rw[X]at ev Q;cases ev
   have mi:(x+1)*7<=d.size*7:=ch _ O;have mj:((a+o)+1)*7<=d.size*7:=ch _ O;refine bE [0,1,2,3,4,5,6,7,8,9,10,11,12,13,14,15,16,17,18,19] [11,15] [] ?_;refine bJ e ?_;refine⟨O,?_⟩;refine X6 (l:=cj) (v:=.agg cj.toArray) rfl (cellsU p (.tail _ (.head _)) (by simpa using kj)) (.inl ⟨by rw[G];exact b9,rfl⟩) ?_;refine bJ e ?_;refine⟨O,?_⟩;refine X6 (l:=ci) (v:=.agg ci.toArray) rfl (cellsU p (.tail _ (.head _)) (by simpa using ki)) (.inl ⟨by rw[K];exact b9,rfl⟩) ?_;refine bJ e ?_;refine⟨O,?_⟩;refine cT p rfl rfl rfl rfl rfl (dF (ae.ones rj)) (by rw[G];exact ep) (by rw[G];omega) fun P=>?_;refine bJ e ?_;refine⟨O,?_⟩;refine cT P rfl rfl rfl rfl rfl (dF (ae.ones ri)) (by rw[K];exact ep) (by rw[K];simp[eC];omega) fun f=>?_;apply aL;refine be w8 ?_;have R:=s I3 (aC _);exact t (x+1) _ _ O cJ (by simp only[go_sem,Y,wO,E,pt]) ⟨y2,_,_,rfl,f,O,O,Sort.permIn_trans _ _ _ _ _ w (Sort.swp_permIn u a b x (a+o) W O O O O),R⟩
 .have L:decide (x<=a+2*q+1)=false:=cd hx;apply RG;simp only[go_sem,E,pt,N,F,w3,w4,w6,an,L];refine aj aa [1,0] fun f=>?_;refine aH (c:=.st _) f fun I9 f C a6=>?_;exact jM rfl f (r:=[]) rfl C ⟨B,u,rfl,w,ar.le S C⟩
def F4{C:Cx}{kx:List Item}{c:Cf}{σ:St}{H:PH}{α:Type}(S:α->St)(Z:α->PH->Prop)
  (first:(∀a b H',iO (S a).tm b.tm->kC (S a).bx b.bx->Z a H'->RC C (.st kx) b H')->RC C c σ H)
  (rest:∀a H,Z a H->RC C (.st kx) (S a) H):RC C c σ H:=first fun a b H' h1 h2 h3=>gI h1 h2 (rest a H' h3)
def Qa:ax prog 276:=⟨_,func276,rfl,rfl⟩
def jh(v a vb vc:Value)(x:Nat×Nat):St:=⟨dn 141 [(0,.v v),(1,.v a),(2,.v vb),(3,.v vc),(9,.v (E x.2)),(10,.v (E x.1))],[]⟩
def rU(v a vb vc:Value)(st i j:Nat):St:=⟨dn 141 [(0,.v v),(1,.v a),(2,.v vb),(3,.v vc),(9,.v (E i)),(10,.v (E st)),(11,.v (E j))],[]⟩
def rV(v a vb vc:Value)(st i j:Nat):St:=⟨dn 141 [(0,.v v),(1,.v a),(2,.v vb),(3,.v vc),(9,.v (E i)),(10,.v (E st)),(12,.v (E j))],[]⟩
theorem UC{a b:Nat}(hA:ar I A v d.toList)(hc:ik ae aQ vc)(c3:a<b)(hb:b<=d.size)(hn:d.size<=ao):
  aT prog 276 #[v,E a,E b,vc] I [A] fun r I2 qs=>∃A2,qs=[A2]/\ar I2 A2 v (Sort.partialInsertionSort aQ d a b).1.toList/\r=.bool (Sort.partialInsertionSort aQ d a b).2:=by
 intro hd;unfold ao at hn;obtain⟨f,fst,cap,rfl,gf,cf⟩:=id hc;obtain⟨g0,vk,rfl⟩:=Ow.addr hA O;refine aP 141 func276 fun w0=>?_
 try simp only[E]
 have w1:IntKind.i64.wrap ((a:Int)+1)=((a+1:Nat):Int):=by
  have e0:(a:Int)+1=((a+1:Nat):Int):=by omega
  rw[e0];exact wrap64 O
 refine dq w1 ?_;refine bY (fun x=>5-x.1) (jh (.slice (some ⟨g0,0,none⟩) d.size vk) (E a) (E b) (.func (.func f) fst cap)) (fun x H=>∃I2 A2 d2,H=U [I2,A2]/\Dj [I2,A2]/\I.le I2/\x.1<=5/\a+1<=x.2/\x.2<=b/\d2.size=d.size/\ar I2 A2 (.slice (some ⟨g0,0,none⟩) d.size vk) d2.toList/\Sort.partialIns aQ a b (5-x.1) x.2 d2=Sort.partialInsertionSort aQ d a b) (0,a+1) ak (by simp only[go_sem,Y,jh]) ?_ ?_
 .exact⟨I,A,d,rfl,hd,aC _,aF _,aR _,c3,rfl,hA,rfl⟩
 rintro⟨st,i0⟩ H ⟨I2,A2,d2,rfl,cx,a5,cB,c2,cn,b4,cy,n⟩ a4;simp only at cB c2 cn n;simp only[jh];rcases aI st 5 with c4|c7
 .have cl:decide ((st:Int)<5)=true:=bl O;have ws:IntKind.i64.wrap ((st:Int)+1)=((st+1:Nat):Int):=by
   have e0:(st:Int)+1=((st+1:Nat):Int):=by omega
   rw[e0];exact wrap64 O
  obtain⟨s,hs⟩:∃s,5-st=s+1:=⟨5-st-1,O⟩;rw[hs,Sort.partialIns]at n;have c0:5-(st+1)=s:=by omega
  refine be cl ?_;apply il (fun x=>b-x) (fun x=>jh (.slice (some ⟨g0,0,none⟩) d.size vk) (E a) (E b) (.func (.func f) fst cap) (st,x)) (fun x H=>∃V A3,H=U [V,A3]/\Dj [V,A3]/\I2.le V/\ar V A3 (.slice (some ⟨g0,0,none⟩) d.size vk) d2.toList/\i0<=x/\x<=b/\Sort.scanSorted aQ d2 b x=Sort.scanSorted aQ d2 b i0) (fun x H=>∃V A3,H=U [V,A3]/\Dj [V,A3]/\I2.le V/\ar V A3 (.slice (some ⟨g0,0,none⟩) d.size vk) d2.toList/\i0<=x/\x<=b/\x=Sort.scanSorted aQ d2 b i0) i0
  .exact ak
  .exact(by simp only[go_sem,Y,jh])
  .exact⟨I2,A2,rfl,cx,aC _,cy,aR _,cn,rfl⟩
  .rintro x H ⟨V,A3,rfl,C,X,R,cm,b1,e⟩ an am;simp only[jh];rw[Sort.scanSorted]at e;rcases aI x b with ba|ba
   .have a9:=Z5 x b;obtain⟨x,rfl⟩:∃x',x=x'+1:=⟨x-1,O⟩;have p1:=pd (j:=x) O;have p2:IntKind.i64.wrap (((x+1:Nat):Int)+1)=((x+1+1:Nat):Int):=by
     have e0:((x+1:Nat):Int)+1=((x+1+1:Nat):Int):=by omega
     rw[e0];exact wrap64 O
    obtain⟨g,cp,cur,ci,cj,ev,rfl,b7,ri,rj,li,lj,ki,kj,a3⟩:=Ow.two R (fun{I} c a h=>ae.len c a h) (fun{I J c a} h k=>ae.le h k) (i:=x+1) (j:=x) O O;rw[b4]at ev b7;simp only[Value.slice.injEq,a8,Addr.mk.injEq,dV,eW]at ev;obtain⟨eg,ek⟩:=ev;subst eg;subst ek;refine bF ?_;refine bE [0,1,2,3,4,5,6,7,8,9,10,11,12,13,14,15,16,17] [8,13] [] ?_;refine kL a9 p1 ?_;refine⟨O,?_⟩;refine X6 (l:=ci) (v:=.agg ci.toArray) rfl (cellsU C (.tail _ (.head _)) (by simpa using ki)) (.inl ⟨by rw[li];exact b9,rfl⟩) ?_;refine kL a9 p1 ?_;refine⟨O,?_⟩;refine X6 (l:=cj) (v:=.agg cj.toArray) rfl (cellsU C (.tail _ (.head _)) (by simpa using kj)) (.inl ⟨by rw[lj];exact b9,rfl⟩) ?_;refine kL a9 p1 ?_;refine cE C [0] [] [_] rfl gf rfl (cf V _ _ _ _ ri rj) ?_;rintro v I4 qs aq ac⟨rfl,z,rfl,hz⟩;simp only[Z3]at aq |-;refine bR ?_;apply aL;rw[tM]at e;cases hl:aQ d2[x+1]! d2[x]! with
    |true=>rw[hl]at hz;rw[ab (by simp[hl])]at e;apply cD 3;simp only[go_sem,E,hz,cP];exact am (x+1) _ _ ak (by simp only[go_sem,Y,jh]) ⟨I4,_,rfl,aq,D X ac,ar.le R ac,cm,b1,e⟩
    |false=>rw[hl]at hz;rw[ag (by simp[hl];omega)]at e;apply RG;simp only[go_sem,E,hz,ds,p2];exact an (x+1+1) _ _ O ak (by simp only[go_sem,Y,jh]) ⟨I4,_,rfl,aq,D X ac,ar.le R ac,O,O,e⟩
   .have a9:decide ((x:Int)<(b:Int))=false:=cd O;rw[ab (by simp;omega)]at e;refine bF ?_;refine bE [0,1,2,3,4,5,6,7,8,9,10,11,12,13,14,15,16,17] [8,13] [] ?_;refine bJ a9 ?_;apply aL;apply cD 3;simp only[go_sem,E];exact am x _ _ ak (by simp only[go_sem,Y,jh]) ⟨V,A3,rfl,C,X,R,cm,b1,e⟩
  rintro i H ⟨V,A3,rfl,C,X,R,c6,c5,c1⟩;simp only[jh];rw[<-c1]at n;simp only at n;have k3:=D a5 X;by_cases b5:i=b
  .have b0:((i:Int) == (b:Int))=true:=by rw[b5];simp
   rw[ag b5]at n;refine be b0 ?_;exact az rfl C (r:=[.bool true]) rfl k3 ⟨A3,rfl,by rw[<-n];exact R,by rw[<-n];rfl⟩
  have b0:((i:Int) == (b:Int))=false:=by rw[iU];omega
  rw[ab b5]at n;have w3:IntKind.i64.wrap ((b:Int)-(a:Int))=((b-a:Nat):Int):=by rw[fu O O];omega
  by_cases cA:b-a<50
  .have cc:decide (((b-a:Nat):Int)<50)=true:=bl O;rw[ag cA]at n;refine nm b0 w3 cc ?_;exact az rfl C (r:=[.bool false]) rfl k3 ⟨A3,rfl,by rw[<-n];exact R,by rw[<-n];rfl⟩
  have cc:decide (((b-a:Nat):Int)<50)=false:=cd O;rw[ab cA]at n;obtain⟨i,rfl⟩:∃x',i=x'+1:=⟨i-1,O⟩;have p1:=pd (j:=i) O;rw[tM]at n;refine nm b0 w3 cc ?_;obtain⟨g,cp,cur,ci,cj,ev,rfl,b7,ri,rj,li,lj,ki,kj,a3⟩:=Ow.two R (fun{I} c a h=>ae.len c a h) (fun{I J c a} h k=>ae.le h k) (i:=i+1) (j:=i) O O;rw[b4]at ev b7;simp only[Value.slice.injEq,a8,Addr.mk.injEq,dV,eW]at ev;obtain⟨eg,ek⟩:=ev;subst eg;subst ek;have mi:((i+1)+1)*7<=d.size*7:=ch _ O;have mj:(i+1)*7<=d.size*7:=ch _ O;refine bE [0,1,2,3,4,5,6,7,8,9,10,11,12,13,14,15,16,17] [9,13] [] ?_;refine bJ p1 ?_;refine⟨O,?_⟩;refine X6 (l:=cj) (v:=.agg cj.toArray) rfl (cellsU C (.tail _ (.head _)) (by simpa using kj)) (.inl ⟨by rw[lj];exact b9,rfl⟩) ?_;refine bJ p1 ?_;refine⟨O,?_⟩;refine X6 (l:=ci) (v:=.agg ci.toArray) rfl (cellsU C (.tail _ (.head _)) (by simpa using ki)) (.inl ⟨by rw[li];exact b9,rfl⟩) ?_;refine bJ p1 ?_;refine⟨O,?_⟩;refine cT C rfl rfl rfl rfl rfl (dF (ae.ones rj)) (by rw[lj];exact ep) (by rw[lj];omega) fun a6=>?_;refine bJ p1 ?_;refine⟨O,?_⟩;refine cT a6 rfl rfl rfl rfl rfl (dF (ae.ones ri)) (by rw[li];exact ep) (by rw[li];simp[eC];omega) fun aq=>?_;apply aL;have bx:=a3 V (aC _);obtain⟨d4,ed4⟩:∃d4,d4=Sort.swp d2 (i+1) i:=⟨_,rfl⟩;have b3:d4.size=d.size:=by rw[ed4,iP];exact b4
  rw[<-ed4]at bx n;have w5:IntKind.i64.wrap (((i+1:Nat):Int)-(a:Int))=((i+1-a:Nat):Int):=by rw[fu O O];omega
  have w6:IntKind.i64.wrap ((b:Int)-((i+1:Nat):Int))=((b-(i+1):Nat):Int):=by rw[fu O O];omega
  have w7:IntKind.i64.wrap (((i+1:Nat):Int)+1)=((i+1+1:Nat):Int):=by
   have e0:((i+1:Nat):Int)+1=((i+1+1:Nat):Int):=by omega
   rw[e0];exact wrap64 O
  obtain⟨d5,B⟩:∃d5,d5=if i+1-a>=2 then Sort.shiftDown aQ i d4 else d4:=⟨_,rfl⟩
  rw[<-B]at n;obtain⟨p,w⟩:∃p,p=if b-(i+1)>=2 then Sort.shiftUp aQ b (i+1+1) d5 else d5:=⟨_,rfl⟩
  rw[<-w]at n;apply F4 (fun _:Unit=>jh (.slice (some ⟨g0,0,none⟩) d.size vk) (E a) (E b) (.func (.func f) fst cap) (st,i+1)) (fun _ H=>∃I5 A5,H=U [I5,A5]/\Dj [I5,A5]/\V.le I5/\d5.size=d.size/\ar I5 A5 (.slice (some ⟨g0,0,none⟩) d.size vk) d5.toList)
  .intro hm;rcases aI (i+1-a) 2 with a7|a7
   .have cb:decide (((i+1-a:Nat):Int)>=2)=false:=cd O;rw[ab (show ¬(i+1-a>=2) by omega)]at B;apply cD 10;simp only[go_sem,E,w5,cb];exact hm () _ _ ak (by simp only[go_sem,Y,jh]) ⟨V,_,rfl,aq,aC _,by rw[B];exact b3,by rw[B];exact bx⟩
   .have cb:decide (((i+1-a:Nat):Int)>=2)=true:=bl O;rw[ag (show i+1-a>=2 from a7)]at B;refine nm w5 cb p1 ?_;apply il (fun x=>x) (fun x=>rU (.slice (some ⟨g0,0,none⟩) d.size vk) (E a) (E b) (.func (.func f) fst cap) st (i+1) x) (fun x H=>∃t W p,H=U [t,W]/\Dj [t,W]/\V.le t/\x<=i/\p.size=d.size/\ar t W (.slice (some ⟨g0,0,none⟩) d.size vk) p.toList/\Sort.shiftDown aQ x p=Sort.shiftDown aQ i d4) (fun x H=>∃t W p,H=U [t,W]/\Dj [t,W]/\V.le t/\p.size=d.size/\ar t W (.slice (some ⟨g0,0,none⟩) d.size vk) p.toList/\p=Sort.shiftDown aQ i d4) (i)
    .exact ak
    .exact(by simp only[go_sem,Y,rU])
    .exact⟨V,_,d4,rfl,aq,aC _,aR _,b3,bx,rfl⟩
    .rintro x H ⟨t,W,p,rfl,Q,u,hx,L,a0,e⟩ N q;simp only[rU];cases x with
     |zero=>have ca:decide ((0:Int)>=1)=false:=rfl;rw[Sort.shiftDown]at e;apply cD 8;simp only[go_sem,E,ca];exact q 0 _ _ ak (by simp only[go_sem,Y,rU]) ⟨t,W,p,rfl,Q,u,L,a0,e⟩
     |succ x=>
      have ca:decide (((x+1:Nat):Int)>=1)=true:=bl O;rw[Sort.shiftDown]at e;have Z:=pd (j:=x) O;refine be ca ?_;obtain⟨gs,cps,curs,T,S,evs,rfl,aS,ris,rjs,G,F,kis,kjs,aa⟩:=Ow.two a0 (fun{I} c a h=>ae.len c a h) (fun{I J c a} h k=>ae.le h k) (i:=x+1) (j:=x) O O;rw[L]at evs aS;simp only[Value.slice.injEq,a8,Addr.mk.injEq,dV,eW]at evs;obtain⟨egs,eks⟩:=evs;subst egs;subst eks;refine bE [0,1,2,3,4,5,6,7,8,9,10,11,12] [4,9] [] ?_;refine bJ Z ?_;refine⟨O,?_⟩;refine X6 (l:=T) (v:=.agg T.toArray) rfl (cellsU Q (.tail _ (.head _)) (by simpa using kis)) (.inl ⟨by rw[G];exact b9,rfl⟩) ?_;refine bJ Z ?_;refine⟨O,?_⟩;refine X6 (l:=S) (v:=.agg S.toArray) rfl (cellsU Q (.tail _ (.head _)) (by simpa using kjs)) (.inl ⟨by rw[F];exact b9,rfl⟩) ?_;refine bJ Z ?_;refine cE Q [0] [] [_] rfl gf rfl (cf t _ _ _ _ ris rjs) ?_;rintro v I7 qs o m⟨rfl,z,rfl,K⟩;simp only[Z3]at o |-;refine bR ?_;apply aL;cases P:aQ p[x+1]! p[x]! with
      |false=>rw[P]at K;rw[ag (by simp[P])]at e;apply cD 2;simp only[go_sem,E,K,ds];exact q (x+1) _ _ ak (by simp only[go_sem,Y,rU]) ⟨I7,_,p,rfl,o,D u m,L,ar.le a0 m,e⟩
      |true=>rw[P]at K;rw[ab (by simp[P])]at e;apply RG;simp only[go_sem,E,K,cP];have mi:((x+1)+1)*7<=d.size*7:=ch _ O;have mj:(x+1)*7<=d.size*7:=ch _ O;refine bE [0,1,2,3,4,5,6,7,8,9,10,11,12,13,14,15,16,17] [9,13] [] ?_;refine bJ Z ?_;refine⟨O,?_⟩;refine X6 (l:=S) (v:=.agg S.toArray) rfl (cellsU o (.tail _ (.head _)) (by simpa using kjs)) (.inl ⟨by rw[F];exact b9,rfl⟩) ?_;refine bJ Z ?_;refine⟨O,?_⟩;refine X6 (l:=T) (v:=.agg T.toArray) rfl (cellsU o (.tail _ (.head _)) (by simpa using kis)) (.inl ⟨by rw[G];exact b9,rfl⟩) ?_;refine bJ Z ?_;refine⟨O,?_⟩;refine cT o rfl rfl rfl rfl rfl (dF (ae.ones rjs)) (by rw[F];exact ep) (by rw[F];omega) fun a6=>?_;refine bJ Z ?_;refine⟨O,?_⟩;refine cT a6 rfl rfl rfl rfl rfl (dF (ae.ones ris)) (by rw[G];exact ep) (by rw[G];simp[eC];omega) fun b6=>?_;apply aL;refine be Z ?_;exact N x _ _ O ak (by simp only[go_sem,Y,rU]) ⟨I7,_,_,rfl,b6,D u m,O,by rw[iP];exact L,aa I7 m,e⟩
    rintro y H ⟨I5,A5,d5',rfl,bc,ap,bb,bs,cs⟩;exact hm () _ _ (ft (by simp only[go_sem,Y,rU,E])) (by simp only[go_sem,Y,jh,rU]) ⟨I5,A5,rfl,bc,ap,by rw[B,<-cs];exact bb,by rw[B,<-cs];exact bs⟩
  rintro _ H ⟨I5,A5,rfl,bc,ap,bb,bs⟩;simp only[jh];have k5:=D k3 ap;clear aq bx b3 C R;apply F4 (fun _:Unit=>jh (.slice (some ⟨g0,0,none⟩) d.size vk) (E a) (E b) (.func (.func f) fst cap) (st,i+1)) (fun _ H=>∃I7 A7,H=U [I7,A7]/\Dj [I7,A7]/\I5.le I7/\p.size=d.size/\ar I7 A7 (.slice (some ⟨g0,0,none⟩) d.size vk) p.toList)
  .intro hm;rcases aI (b-(i+1)) 2 with a7|a7
   .have a2:decide (((b-(i+1):Nat):Int)>=2)=false:=cd O;rw[ab (show ¬(b-(i+1)>=2) by omega)]at w;apply cD 9;simp only[go_sem,E,w6,a2];exact hm () _ _ ak (by simp only[go_sem,Y,jh]) ⟨I5,_,rfl,bc,aC _,by rw[w];exact bb,by rw[w];exact bs⟩
   .have a2:decide (((b-(i+1):Nat):Int)>=2)=true:=bl O;rw[ag (show b-(i+1)>=2 from a7)]at w;refine nm w6 a2 w7 ?_;apply il (fun x=>b-x) (fun x=>rV (.slice (some ⟨g0,0,none⟩) d.size vk) (E a) (E b) (.func (.func f) fst cap) st (i+1) x) (fun x H=>∃t W p,H=U [t,W]/\Dj [t,W]/\I5.le t/\i+1+1<=x/\x<=b/\p.size=d.size/\ar t W (.slice (some ⟨g0,0,none⟩) d.size vk) p.toList/\Sort.shiftUp aQ b x p=Sort.shiftUp aQ b (i+1+1) d5) (fun x H=>∃t W p,H=U [t,W]/\Dj [t,W]/\I5.le t/\p.size=d.size/\ar t W (.slice (some ⟨g0,0,none⟩) d.size vk) p.toList/\p=Sort.shiftUp aQ b (i+1+1) d5) (i+1+1)
    .exact ak
    .exact(by simp only[go_sem,Y,rV])
    .exact⟨I5,_,d5,rfl,bc,aC _,aR _,O,bb,bs,rfl⟩
    .rintro x H ⟨t,W,p,rfl,Q,u,hx,b1,L,a0,e⟩ N q;simp only[rV];rw[Sort.shiftUp]at e;rcases aI x b with ba|ba
     rotate_left
     .have a1:decide ((x:Int)<(b:Int))=false:=cd O;rw[ab O]at e;apply cD 9;simp only[go_sem,E,a1];exact q x _ _ ak (by simp only[go_sem,Y,rV]) ⟨t,W,p,rfl,Q,u,L,a0,e⟩
     .have a1:=Z5 x b;obtain⟨x,rfl⟩:∃x',x=x'+1:=⟨x-1,O⟩;rw[ag ba,tM]at e;have Z:=pd (j:=x) O;have q2:IntKind.i64.wrap (((x+1:Nat):Int)+1)=((x+1+1:Nat):Int):=by
       have e0:((x+1:Nat):Int)+1=((x+1+1:Nat):Int):=by omega
       rw[e0];exact wrap64 O
      refine be a1 ?_;obtain⟨gs,cps,curs,T,S,evs,rfl,aS,ris,rjs,G,F,kis,kjs,aa⟩:=Ow.two a0 (fun{I} c a h=>ae.len c a h) (fun{I J c a} h k=>ae.le h k) (i:=x+1) (j:=x) O O;rw[L]at evs aS;simp only[Value.slice.injEq,a8,Addr.mk.injEq,dV,eW]at evs;obtain⟨egs,eks⟩:=evs;subst egs;subst eks;refine bE [0,1,2,3,4,5,6,7,8,9,10,11,12] [4,9] [] ?_;refine bJ Z ?_;refine⟨O,?_⟩;refine X6 (l:=T) (v:=.agg T.toArray) rfl (cellsU Q (.tail _ (.head _)) (by simpa using kis)) (.inl ⟨by rw[G];exact b9,rfl⟩) ?_;refine bJ Z ?_;refine⟨O,?_⟩;refine X6 (l:=S) (v:=.agg S.toArray) rfl (cellsU Q (.tail _ (.head _)) (by simpa using kjs)) (.inl ⟨by rw[F];exact b9,rfl⟩) ?_;refine bJ Z ?_;refine cE Q [0] [] [_] rfl gf rfl (cf t _ _ _ _ ris rjs) ?_;rintro v I7 qs o m⟨rfl,z,rfl,K⟩;simp only[Z3]at o |-;refine bR ?_;apply aL;cases P:aQ p[x+1]! p[x]! with
      |false=>rw[P]at K;rw[ag (by simp[P])]at e;apply cD 2;simp only[go_sem,E,K,ds];exact q (x+1) _ _ ak (by simp only[go_sem,Y,rV]) ⟨I7,_,p,rfl,o,D u m,L,ar.le a0 m,e⟩
      |true=>rw[P]at K;rw[ab (by simp[P])]at e;apply RG;simp only[go_sem,E,K,cP];have mi:((x+1)+1)*7<=d.size*7:=ch _ O;have mj:(x+1)*7<=d.size*7:=ch _ O;refine bE [0,1,2,3,4,5,6,7,8,9,10,11,12,13,14,15,16,17] [9,13] [] ?_;refine bJ Z ?_;refine⟨O,?_⟩;refine X6 (l:=S) (v:=.agg S.toArray) rfl (cellsU o (.tail _ (.head _)) (by simpa using kjs)) (.inl ⟨by rw[F];exact b9,rfl⟩) ?_;refine bJ Z ?_;refine⟨O,?_⟩;refine X6 (l:=T) (v:=.agg T.toArray) rfl (cellsU o (.tail _ (.head _)) (by simpa using kis)) (.inl ⟨by rw[G];exact b9,rfl⟩) ?_;refine bJ Z ?_;refine⟨O,?_⟩;refine cT o rfl rfl rfl rfl rfl (dF (ae.ones rjs)) (by rw[F];exact ep) (by rw[F];omega) fun a6=>?_;refine bJ Z ?_;refine⟨O,?_⟩;refine cT a6 rfl rfl rfl rfl rfl (dF (ae.ones ris)) (by rw[G];exact ep) (by rw[G];simp[eC];omega) fun b6=>?_;apply aL;refine be q2 ?_;exact N (x+1+1) _ _ O ak (by simp only[go_sem,Y,rV]) ⟨I7,_,_,rfl,b6,D u m,O,O,by rw[iP];exact L,aa I7 m,e⟩
    rintro y H ⟨I7,A7,d7,rfl,o,m,b2,b8,cr⟩;exact hm () _ _ (ft (by simp only[go_sem,Y,rV,E])) (by simp only[go_sem,Y,jh,rV]) ⟨I7,A7,rfl,o,m,by rw[w,<-cr];exact b2,by rw[w,<-cr];exact b8⟩
  rintro _ H ⟨I7,A7,rfl,o,m,b2,b8⟩;simp only[jh];refine be ws ?_;exact a4 (st+1,i+1) _ _ bh ak (by simp only[go_sem,Y,jh]) ⟨I7,A7,p,rfl,o,D k5 m,by simp only;omega,by simp only;omega,by simp only;omega,b2,b8,by simp only;rw[c0];exact n⟩
 .have cl:decide ((st:Int)<5)=false:=cd O;have:st=5:=by omega
  subst this;rw[Nat.sub_self,Sort.partialIns]at n;refine be cl ?_;exact az rfl cx (r:=[.bool false]) rfl a5 ⟨A2,rfl,by rw[<-n];exact cy,by rw[<-n];rfl⟩
theorem Uz{a b pivot:Nat}(hA:ar I A v d.toList)(hc:ik ae aQ vc)(cm:a<=pivot)(cb:pivot<b)(hb:b<=d.size)(hn:d.size<=ao):
  aT prog 277 #[v,E a,E b,E pivot,vc] I [A] fun r I2 qs=>∃A2,qs=[A2]/\ar I2 A2 v (Sort.partitionEqual aQ d a b pivot).2.toList/\r=E (Sort.partitionEqual aQ d a b pivot).1:=by
 intro hd;unfold ao at hn;obtain⟨f,fst,cap,rfl,gf,cf⟩:=id hc;obtain⟨g0,X,rfl⟩:=Ow.addr hA O;refine aP 90 func277 fun w0=>?_
 try simp only[E]
 have w1:IntKind.i64.wrap ((a:Int)+1)=((a+1:Nat):Int):=by
  have e0:(a:Int)+1=((a+1:Nat):Int):=by omega
  rw[e0];exact wrap64 O
 have w2:IntKind.i64.wrap ((b:Int)-1)=((b-1:Nat):Int):=by rw[jX O];omega
 refine ai ?_;obtain⟨g,cp,cur,V,T,ev,rfl,N,ri,rj,R,Q,ki,kj,C⟩:=Ow.two hA (fun{I} c a h=>ae.len c a h) (fun{I J c a} h k=>ae.le h k) (i:=a) (j:=pivot) O O;simp only[Value.slice.injEq,a8,Addr.mk.injEq,dV,eW]at ev;obtain⟨eg,ek⟩:=ev;subst eg;subst ek;have mi:(a+1)*7<=d.size*7:=ch _ O;have mj:(pivot+1)*7<=d.size*7:=ch _ O;refine bE [0,1,2,3,4,5,6,7,8,9,10,11,12,13,14,15] [7,11] [] ?_;refine bR ?_;refine⟨O,?_⟩;refine X6 (l:=T) (v:=.agg T.toArray) rfl (cellsU hd (.tail _ (.head _)) (by simpa using kj)) (.inl ⟨by rw[Q];exact b9,rfl⟩) ?_;refine bR ?_;refine⟨O,?_⟩;refine X6 (l:=V) (v:=.agg V.toArray) rfl (cellsU hd (.tail _ (.head _)) (by simpa using ki)) (.inl ⟨by rw[R];exact b9,rfl⟩) ?_;refine bR ?_;refine⟨O,?_⟩;refine cT hd rfl rfl rfl rfl rfl (dF (ae.ones rj)) (by rw[Q];exact ep) (by rw[Q];omega) fun a7=>?_;refine bR ?_;refine⟨O,?_⟩;refine cT a7 rfl rfl rfl rfl rfl (dF (ae.ones ri)) (by rw[R];exact ep) (by rw[R];simp[eC];omega) fun b7=>?_;apply aL;have bx:=C I (aC _);have bc:(Sort.swp d a pivot).size=d.size:=(iP _ _ _).trans rfl;obtain⟨d4,ed4⟩:∃d4,d4=Sort.swp d a pivot:=⟨_,rfl⟩;have hP:Sort.partitionEqual aQ d a b pivot=Sort.partEqLoop aQ a (a+1) (b-1) d4:=by rw[ed4];rfl
 rw[<-ed4]at bx bc;rw[hP];clear hP;refine dW w1 w2 ?_;apply il (fun x=>x.2+3-x.1) (fun x=>iM (.slice (some ⟨g0,0,none⟩) d.size X) (E a) (.func (.func f) fst cap) x) (fun x H=>∃P A5 n,H=U [P,A5]/\Dj [P,A5]/\I.le P/\n.size=d.size/\ar P A5 (.slice (some ⟨g0,0,none⟩) d.size X) n.toList/\1<=x.1/\x.1<=x.2+2/\x.2<=b-1/\Sort.partEqLoop aQ a x.1 x.2 n=Sort.partEqLoop aQ a (a+1) (b-1) d4) (fun x H=>∃P A5,H=U [P,A5]/\Dj [P,A5]/\I.le P/\ar P A5 (.slice (some ⟨g0,0,none⟩) d.size X) (Sort.partEqLoop aQ a (a+1) (b-1) d4).2.toList/\x.1=(Sort.partEqLoop aQ a (a+1) (b-1) d4).1) (a+1,b-1)
 .exact ak
 .exact(by simp only[go_sem,Y,iM])
 .exact⟨I,_,d4,rfl,b7,aC _,bc,bx,by simp only;omega,by simp only;omega,by simp only;omega,rfl⟩
 .rintro⟨i5,F⟩ H ⟨P,A5,n,rfl,cl,a3,ap,cr,b3,a5,b2,L⟩ aa ac;simp only at b3 a5 b2 L;simp only[iM];refine bF ?_;apply il (fun x=>F+2-x) (fun x=>iM (.slice (some ⟨g0,0,none⟩) d.size X) (E a) (.func (.func f) fst cap) (x,F)) (fun x H=>∃o B,H=U [o,B]/\Dj [o,B]/\P.le o/\ar o B (.slice (some ⟨g0,0,none⟩) d.size X) n.toList/\i5<=x/\x<=F+2/\Sort.scanUp (fun y=>!aQ n[a]! y) n F x=Sort.scanUp (fun y=>!aQ n[a]! y) n F i5) (fun x H=>∃o B,H=U [o,B]/\Dj [o,B]/\P.le o/\ar o B (.slice (some ⟨g0,0,none⟩) d.size X) n.toList/\i5<=x/\x<=F+2/\x=Sort.scanUp (fun y=>!aQ n[a]! y) n F i5) i5
  .exact ak
  .exact(by simp only[go_sem,Y,iM])
  .exact⟨P,_,rfl,‹_›,aC _,‹_›,aR _,O,rfl⟩
  .rintro x H ⟨o,B,rfl,u,p,w,bb,S,e⟩ G q;simp only[iM];rcases aI F x with b4|b1
   .have s:decide (((x:Nat):Int)<=((F:Nat):Int))=false:=cd O;rw[Sort.scanUp,ab (by simp;omega)]at e;have aS:=e;refine bF ?_;refine bE [0,1,2,3,4,5,6,7,8,9,10,11,12,13,14,15,16] [8,12] [] ?_;refine bJ s ?_;apply aL;apply cD 3;simp only[go_sem,E];exact q x _ _ ak (by simp only[go_sem,Y,iM]) ⟨o,B,rfl,u,p,w,bb,S,aS⟩
   .have s:decide (((x:Nat):Int)<=((F:Nat):Int))=true:=bl O;rw[Sort.scanUp]at e;have p1:IntKind.i64.wrap ((x:Int)+1)=((x+1:Nat):Int):=by
     have e0:(x:Int)+1=((x+1:Nat):Int):=by omega
     rw[e0];exact wrap64 O
    obtain⟨g,cp,cur,V,T,ev,rfl,N,ri,rj,R,Q,ki,kj,C⟩:=Ow.two w (fun{I} c a h=>ae.len c a h) (fun{I J c a} h k=>ae.le h k) (i:=x) (j:=a) O O;rw[ap]at ev N;simp only[Value.slice.injEq,a8,Addr.mk.injEq,dV,eW]at ev;obtain⟨eg,ek⟩:=ev;subst eg;subst ek;refine bF ?_;refine bE [0,1,2,3,4,5,6,7,8,9,10,11,12,13,14,15,16] [8,12] [] ?_;refine bJ s ?_;refine⟨O,?_⟩;refine X6 (l:=T) (v:=.agg T.toArray) rfl (cellsU u (.tail _ (.head _)) (by simpa using kj)) (.inl ⟨by rw[Q];exact b9,rfl⟩) ?_;refine bJ s ?_;refine⟨O,?_⟩;refine X6 (l:=V) (v:=.agg V.toArray) rfl (cellsU u (.tail _ (.head _)) (by simpa using ki)) (.inl ⟨by rw[R];exact b9,rfl⟩) ?_;refine bJ s ?_;refine cE u [0] [] [_] rfl gf rfl (cf o _ _ _ _ rj ri) ?_;rintro v Jy qs K m⟨rfl,z,rfl,Z⟩;simp only[Z3]at K |-;refine bR ?_;apply aL;cases hl:aQ n[a]! n[x]! with
    |true=>rw[hl]at Z;rw[ab (by simp[hl])]at e;apply cD 3;simp only[go_sem,E,Z,cP];exact q (x) _ _ ak (by simp only[go_sem,Y,iM]) ⟨Jy,_,rfl,K,D p m,ar.le w m,bb,S,e⟩
    |false=>rw[hl]at Z;rw[ag (by simp[hl];omega)]at e;apply RG;simp only[go_sem,E,Z,ds,p1];exact G (x+1) _ _ O ak (by simp only[go_sem,Y,iM]) ⟨Jy,_,rfl,K,D p m,ar.le w m,O,O,e⟩
  rintro t H ⟨I6,A6,rfl,cj,a2,cn,ci,hi6b,a6⟩;simp only[iM];refine bF ?_;apply il (fun x=>x) (fun x=>iM (.slice (some ⟨g0,0,none⟩) d.size X) (E a) (.func (.func f) fst cap) (t,x)) (fun x H=>∃o B,H=U [o,B]/\Dj [o,B]/\I6.le o/\ar o B (.slice (some ⟨g0,0,none⟩) d.size X) n.toList/\x<=F/\Sort.scanDown (fun y=>aQ n[a]! y) n t x=Sort.scanDown (fun y=>aQ n[a]! y) n t F) (fun x H=>∃o B,H=U [o,B]/\Dj [o,B]/\I6.le o/\ar o B (.slice (some ⟨g0,0,none⟩) d.size X) n.toList/\x<=F/\x=Sort.scanDown (fun y=>aQ n[a]! y) n t F) F
  .exact ak
  .exact(by simp only[go_sem,Y,iM])
  .exact⟨I6,_,rfl,‹_›,aC _,‹_›,aR _,rfl⟩
  .rintro x H ⟨o,B,rfl,u,p,w,S,e⟩ G q;simp only[iM];rcases aI x t with b4|b1
   .have s:decide (((t:Nat):Int)<=((x:Nat):Int))=false:=cd O;have aS:x=Sort.scanDown (fun y=>aQ n[a]! y) n t F:=by
     rw[<-e];cases x with
     |zero=>rw[Sort.scanDown]
     |succ x=>rw[Sort.scanDown,ab (by simp;omega)]
    refine bF ?_;refine bE [0,1,2,3,4,5,6,7,8,9,10,11,12,13,14,15] [8,12] [] ?_;refine bJ s ?_;apply aL;apply cD 3;simp only[go_sem,E];exact q x _ _ ak (by simp only[go_sem,Y,iM]) ⟨o,B,rfl,u,p,w,S,aS⟩
   .have s:decide (((t:Nat):Int)<=((x:Nat):Int))=true:=bl O;obtain⟨x,rfl⟩:∃x',x=x'+1:=⟨x-1,O⟩;have p1:=pd (j:=x) O;rw[Sort.scanDown]at e;obtain⟨g,cp,cur,V,T,ev,rfl,N,ri,rj,R,Q,ki,kj,C⟩:=Ow.two w (fun{I} c a h=>ae.len c a h) (fun{I J c a} h k=>ae.le h k) (i:=x+1) (j:=a) O O;rw[ap]at ev N;simp only[Value.slice.injEq,a8,Addr.mk.injEq,dV,eW]at ev;obtain⟨eg,ek⟩:=ev;subst eg;subst ek;refine bF ?_;refine bE [0,1,2,3,4,5,6,7,8,9,10,11,12,13,14,15] [8,12] [] ?_;refine bJ s ?_;refine⟨O,?_⟩;refine X6 (l:=T) (v:=.agg T.toArray) rfl (cellsU u (.tail _ (.head _)) (by simpa using kj)) (.inl ⟨by rw[Q];exact b9,rfl⟩) ?_;refine bJ s ?_;refine⟨O,?_⟩;refine X6 (l:=V) (v:=.agg V.toArray) rfl (cellsU u (.tail _ (.head _)) (by simpa using ki)) (.inl ⟨by rw[R];exact b9,rfl⟩) ?_;refine bJ s ?_;refine cE u [0] [] [_] rfl gf rfl (cf o _ _ _ _ rj ri) ?_;rintro v Jy qs K m⟨rfl,z,rfl,Z⟩;simp only[Z3]at K |-;refine bR ?_;apply aL;cases hl:aQ n[a]! n[x+1]! with
    |true=>rw[hl]at Z;rw[ag (by simp[hl];omega)]at e;apply RG;simp only[go_sem,E,Z,cP,p1];exact G x _ _ O ak (by simp only[go_sem,Y,iM]) ⟨Jy,_,rfl,K,D p m,ar.le w m,O,e⟩
    |false=>rw[hl]at Z;rw[ab (by simp[hl])]at e;apply cD 3;simp only[go_sem,E,Z,ds];exact q (x+1) _ _ ak (by simp only[go_sem,Y,iM]) ⟨Jy,_,rfl,K,D p m,ar.le w m,S,e⟩
  rintro W H ⟨I7,A7,rfl,aq,a1,bs,cc,a4⟩;simp only[iM];rw[Sort.partEqLoop_eq,<-a6,<-a4]at L;have ba:=D a3 (D a2 a1);by_cases am:t>W
  .have a9:decide ((t:Int)>(W:Int))=true:=bl O;rw[ag am]at L;apply cD 8;simp only[go_sem,E,a9];exact ac (t,W) _ _ ak (by simp only[go_sem,Y,iM]) ⟨I7,A7,rfl,aq,ba,by rw[<-L];exact bs,by rw[<-L]⟩
  have a9:decide ((t:Int)>(W:Int))=false:=cd O;rw[ab am]at L;refine be a9 ?_;obtain⟨g,cp,cur,V,T,ev,rfl,N,ri,rj,R,Q,ki,kj,C⟩:=Ow.two bs (fun{I} c a h=>ae.len c a h) (fun{I J c a} h k=>ae.le h k) (i:=t) (j:=W) O O;rw[ap]at ev N;simp only[Value.slice.injEq,a8,Addr.mk.injEq,dV,eW]at ev;obtain⟨eg,ek⟩:=ev;subst eg;subst ek;have mi:(t+1)*7<=d.size*7:=ch _ O;have mj:(W+1)*7<=d.size*7:=ch _ O;refine bE [0,1,2,3,4,5,6,7,8,9,10,11,12,13,14,15] [7,11] [] ?_;refine bR ?_;refine⟨O,?_⟩;refine X6 (l:=T) (v:=.agg T.toArray) rfl (cellsU aq (.tail _ (.head _)) (by simpa using kj)) (.inl ⟨by rw[Q];exact b9,rfl⟩) ?_;refine bR ?_;refine⟨O,?_⟩;refine X6 (l:=V) (v:=.agg V.toArray) rfl (cellsU aq (.tail _ (.head _)) (by simpa using ki)) (.inl ⟨by rw[R];exact b9,rfl⟩) ?_;refine bR ?_;refine⟨O,?_⟩;refine cT aq rfl rfl rfl rfl rfl (dF (ae.ones rj)) (by rw[Q];exact ep) (by rw[Q];omega) fun a7=>?_;refine bR ?_;refine⟨O,?_⟩;refine cT a7 rfl rfl rfl rfl rfl (dF (ae.ones ri)) (by rw[R];exact ep) (by rw[R];simp[eC];omega) fun b6=>?_;apply aL;have ca:=C I7 (aC _);have b0:(Sort.swp n t W).size=d.size:=(iP _ _ _).trans ap;have w8:IntKind.i64.wrap ((t:Int)+1)=((t+1:Nat):Int):=by
   have e0:(t:Int)+1=((t+1:Nat):Int):=by omega
   rw[e0];exact wrap64 O
  have w9:IntKind.i64.wrap ((W:Int)-1)=((W-1:Nat):Int):=by rw[jX O];omega
  refine dW w8 w9 ?_;exact aa (t+1,W-1) _ _ bh ak (by simp only[go_sem,Y,iM]) ⟨I7,_,_,rfl,b6,ba,b0,ca,by simp only;omega,by simp only;omega,by simp only;omega,L⟩
 rintro⟨i9,j9⟩ H ⟨I9,A9,rfl,b5,a0,b8,an⟩;simp only at an;simp only[iM];rw[<-an];refine bF ?_;exact az rfl b5 (r:=[E i9]) rfl a0 ⟨A9,rfl,b8,rfl⟩
open Go.Sort (PermIn SortedIn SWO permIn_refl permIn_trans permIn_mono swp_permIn)
def DQ:ax prog 224:=⟨_,func224,rfl,rfl⟩
def Pq:ax prog 147:=⟨_,func147,rfl,rfl⟩
def y9{α:Type}{C:Cx}{k:List Item}(S:α->St)(Z:α->PH->Prop){P:Prop}(h1:(∀a H,Z a H->RC C (.st k) (S a) H)->P)(h:∀a H,Z a H->RC C (.st k) (S a) H):P:=h1 h
structure y7 where
 a:Nat
 b:Nat
 lim:Nat
 wb:Bool
 wp:Bool
def vm(v vc:Value)(x:y7):St:=⟨dn 148 [(0,.v v),(1,.v (E x.a)),(2,.v (E x.b)),(3,.v (E x.lim)),(4,.v vc),(10,.v (.bool x.wb)),(11,.v (.bool x.wp))],[]⟩
def vp(v vc:Value)(x:y7)(lim:Nat):St:=⟨dn 148 [(0,.v v),(1,.v (E x.a)),(2,.v (E x.b)),(3,.v (E lim)),(4,.v vc),(10,.v (.bool x.wb)),(11,.v (.bool x.wp)),(12,.v (E (x.b-x.a)))],[]⟩
def Bi(v vc:Value)(x:y7)(lim:Nat)(y:Nat×Nat):St:=⟨dn 148 [(0,.v v),(1,.v (E x.a)),(2,.v (E x.b)),(3,.v (E lim)),(4,.v vc),(10,.v (.bool x.wb)),(11,.v (.bool x.wp)),(12,.v (E (x.b-x.a))),(13,.v (E y.1)),(14,.v (E y.2))],[]⟩
def lg(v vc:Value)(x:y7)(lim p:Nat):St:=⟨dn 148 [(0,.v v),(1,.v (E x.a)),(2,.v (E x.b)),(3,.v (E lim)),(4,.v vc),(10,.v (.bool x.wb)),(11,.v (.bool x.wp)),(12,.v (E (x.b-x.a))),(13,.v (E p))],[]⟩
def JZ(v:Value)(d:Array M)(a b:Nat):Value->PH->List PH->Prop:=fun _ g f=>∃c e,f=[c]/\ar g c v e.toList/\PermIn a b d e/\SortedIn aQ a b e
theorem UA:∀(N:Nat) {I A:PH} {v vc:Value} {d:Array M} {a b lim:Nat},b-a<N->ar I A v d.toList->ik ae aQ vc->a<=b->b<=d.size->d.size<=ao->Sort.Below aQ a b d->lim<2^60->
  aT prog 224 #[v,E a,E b,E lim,vc] I [A] (JZ v d a b):=by
 intro N
 induction N with
 |zero=>intro I A v vc d a b lim h;omega
 |succ N ih=>
 intro I A v vc d a b lim hN hA hc c6 hb hn hB b3 hd;have c0:=hn;unfold ao at c0;obtain⟨f,fst,cap,rfl,gf,cf⟩:=id hc;obtain⟨va,vk,rfl⟩:=Ow.one' hA;refine aP 148 func224 fun w0=>?_
 try simp only[E]
 refine ai ?_;refine bY (fun x=>x.b-x.a) (vm (.slice va d.size vk) (.func (.func f) fst cap)) (fun x H=>∃I2 A2 c,H=U [I2,A2]/\Dj [I2,A2]/\I.le I2/\ar I2 A2 (.slice va d.size vk) c.toList/\c.size=d.size/\x.a<=x.b/\a<=x.a/\x.b<=b/\x.lim<2^60/\Sort.Below aQ x.a x.b c/\∀R,PermIn x.a x.b c R->SortedIn aQ x.a x.b R->PermIn a b d R/\SortedIn aQ a b R) ⟨a,b,lim,true,true⟩ ak (by simp only[go_sem,Y,vm]) ?_ ?_
 .exact⟨I,A,d,rfl,hd,aC _,hA,rfl,c6,aR _,aR _,b3,hB,fun R h1 h2=>⟨h1,h2⟩⟩
 rintro x H ⟨I2,A2,c,rfl,bb,ac,bc,cx,a3,cA,ca,cy,cm,hG⟩ Z;simp only[vm];have X:x.b<=c.size:=by omega
 have b0:c.size<=ao:=by omega
 have w1:IntKind.i64.wrap ((x.b:Int)-(x.a:Int))=((x.b-x.a:Nat):Int):=by rw[fu O O];omega
 rcases aI 12 (x.b-x.a)with c5|b1
 rotate_left
 .have a7:decide (((x.b-x.a:Nat):Int)<=12)=true:=bl O;refine dW w1 a7 ?_;refine au bb [0] [A2] [] rfl P5 rfl (Rn (a:=x.a) (b:=x.b) bc hc X b0 O) ?_;rintro v Q qs K u⟨L,rfl,T⟩;simp only[Z3]at K |-;refine bF ?_;obtain⟨q1,q2⟩:=Sort.insertionSort_holds yv c x.a x.b a3 X;obtain⟨q3,q4⟩:=hG _ q1 q2;exact az rfl K (r:=[]) rfl (D ac u) ⟨L,_,rfl,T,q3,q4⟩
 have a7:decide (((x.b-x.a:Nat):Int)<=12)=false:=cd O;by_cases c2:x.lim=0
 .have bs:((x.lim:Int) == 0)=true:=by rw[c2];rfl
  refine nm w1 a7 bs ?_;refine au bb [0] [A2] [] rfl P6 rfl (Q6 (a:=x.a) (b:=x.b) bc hc a3 X b0) ?_;rintro v Q qs K u⟨L,rfl,T⟩;simp only[Z3]at K |-;refine bF ?_;obtain⟨q1,q2⟩:=Sort.heapSort_holds yv c x.a x.b a3 X;obtain⟨q3,q4⟩:=hG _ q1 q2;exact az rfl K (r:=[]) rfl (D ac u) ⟨L,_,rfl,T,q3,q4⟩
 have bs:((x.lim:Int) == 0)=false:=by rw[iU];omega
 apply y9 (vp (.slice va d.size vk) (.func (.func f) fst cap) x) (fun o H=>∃Q L e,H=U [Q,L]/\Dj [Q,L]/\I2.le Q/\ar Q L (.slice va d.size vk) e.toList/\PermIn x.a x.b c e/\o<2^60)
 .intro n;cases a9:x.wb
  .apply RG;simp only[go_sem,E,w1,a7,bs,a9,ds];refine au bb [0] [A2] [] rfl P7 rfl (Nz (a:=x.a) (b:=x.b) bc a3 X b0) ?_;rintro v Q qs K u⟨L,e,rfl,a2,T⟩;simp only[Z3]at K |-;have w2:IntKind.i64.wrap ((x.lim:Int)-1)=((x.lim-1:Nat):Int):=by rw[jX O];omega
   apply cD 6;simp only[go_sem,E,w2];refine gI ?_ ?_ (n (x.lim-1) _ ⟨Q,L,e,rfl,K,u,T,a2,O⟩)
   .simp only[vp,a9];exact ak
   .exact(by simp only[go_sem,Y,vp])
  .apply cD 32;simp only[go_sem,E,w1,a7,bs,a9,cP];refine gI ?_ ?_ (n x.lim _ ⟨I2,A2,c,rfl,bb,aC _,bc,permIn_refl _ _ _,cy⟩)
   .simp only[vp,a9];exact ak
   .exact(by simp only[go_sem,Y,vp])
 rintro o H ⟨Q,L,e3,rfl,K,u,T,a2,G⟩;have cs:=a2.1;simp only[vp];refine bF ?_;refine au K [0] [L] [] rfl P8 rfl (UD (a:=x.a) (b:=x.b) T hc O O O) ?_;rintro v I4 qs ba aa⟨p,h,W,V,hh,rfl,rfl⟩;simp only[Z3]at ba |-;have b6:=ar.le T aa;apply y9 (Bi (.slice va d.size vk) (.func (.func f) fst cap) x o) (fun y H=>∃Q L e,H=U [Q,L]/\Dj [Q,L]/\I2.le Q/\ar Q L (.slice va d.size vk) e.toList/\PermIn x.a x.b c e/\x.a<=y.1/\y.1<x.b/\y.2<=2)
 .intro n;by_cases c3:h=2
  .have b8:((h:Int) == 2)=true:=by rw[c3];rfl
   refine be b8 ?_;refine au ba [0] [L] [] rfl P9 rfl (Vc (vc:=(.func (.func f) fst cap)) (a:=x.a) (b:=x.b) b6 O O O) ?_;rintro v I5 qs B s⟨A5,rfl,F⟩;simp only[Z3]at B |-;have w3:IntKind.i64.wrap ((x.b:Int)-1)=((x.b-1:Nat):Int):=by rw[jX O];omega
   have w4:IntKind.i64.wrap ((p:Int)-(x.a:Int))=((p-x.a:Nat):Int):=by rw[fu O O];omega
   have w5:IntKind.i64.wrap (((x.b-1:Nat):Int)-((p-x.a:Nat):Int))=((x.b-1-(p-x.a):Nat):Int):=by rw[fu O O];omega
   apply cD 14;simp only[go_sem,E,w3,w4,w5];refine gI ?_ ?_ (n (x.b-1-(p-x.a),1) _ ⟨I5,A5,_,rfl,B,D u (D aa s),F,permIn_trans _ _ _ x.a x.b a2 (Sort.reverseRange_holds e3 x.a x.b a3 O),by simp only;omega,by simp only;omega,by simp only;omega⟩)
   .exact ak
   .exact(by simp only[go_sem,Y,Bi])
  .have b8:((h:Int) == 2)=false:=by rw[iU];omega
   apply cD 14;simp only[go_sem,E,b8];refine gI ?_ ?_ (n (p,h) _ ⟨I4,L,e3,rfl,ba,D u aa,b6,a2,W,V,hh⟩)
   .exact ak
   .exact(by simp only[go_sem,Y,Bi])
 clear W V hh ba b6 aa K T a2 u cs;clear p h I4 Q L e3;rintro⟨p,h⟩ H ⟨I5,A5,e5,rfl,B,s,F,w,W,V,hh⟩;have bx:=w.1;simp only at W V hh;simp only[Bi];apply y9 (lg (.slice va d.size vk) (.func (.func f) fst cap) x o) (fun y H=>∃Q L e,H=U [Q,L]/\Dj [Q,L]/\I2.le Q/\ar Q L (.slice va d.size vk) e.toList/\PermIn x.a x.b c e/\y=p)
 .intro n;by_cases cb:x.wb=true/\x.wp=true/\h=1
  .obtain⟨g1,g2,g3⟩:=cb;have b7:((h:Int) == 1)=true:=by rw[g3];rfl
   refine nm g1 g2 b7 ?_;refine au B [0] [A5] [] rfl Qa rfl (UC (a:=x.a) (b:=x.b) F hc O O O) ?_;rintro v I6 qs S t⟨A6,rfl,cn,rfl⟩;simp only[Z3]at S |-;obtain⟨q1,q2⟩:=Sort.partialInsertionSort_holds yv e5 x.a x.b O O (cm.perm X w);have k6:=D ac (D s t);cases b2:(Sort.partialInsertionSort aQ e5 x.a x.b).2
   .apply cD 3;simp only[go_sem,E,b2];refine gI ?_ ?_ (n p _ ⟨I6,A6,_,rfl,S,D s t,cn,permIn_trans _ _ _ x.a x.b w q1,rfl⟩)
    .simp only[lg,g1,g2];exact ak
    .exact(by simp only[go_sem,Y,lg])
   .refine be b2 ?_;obtain⟨q3,q4⟩:=hG _ (permIn_trans _ _ _ x.a x.b w q1) (q2 b2);exact az rfl S (r:=[]) rfl k6 ⟨A6,_,rfl,cn,q3,q4⟩
  .cases g1:x.wb
   .apply cD 14;simp only[go_sem,E,g1];refine gI ?_ ?_ (n p _ ⟨I5,A5,e5,rfl,B,s,F,w,rfl⟩)
    .simp only[lg,g1];exact ak
    .exact(by simp only[go_sem,Y,lg])
   .cases g2:x.wp
    .apply cD 14;simp only[go_sem,E,g1,g2];refine gI ?_ ?_ (n p _ ⟨I5,A5,e5,rfl,B,s,F,w,rfl⟩)
     .simp only[lg,g1,g2];exact ak
     .exact(by simp only[go_sem,Y,lg])
    .have b7:((h:Int) == 1)=false:=by rw[iU];intro e;exact cb ⟨g1,g2,O⟩
     apply cD 14;simp only[go_sem,E,g1,g2,b7];refine gI ?_ ?_ (n p _ ⟨I5,A5,e5,rfl,B,s,F,w,rfl⟩)
     .simp only[lg,g1,g2];exact ak
     .exact(by simp only[go_sem,Y,lg])
 clear B F w s bx;clear I5 A5 e5;rintro y H ⟨I5,A5,e5,rfl,B,s,F,w,rfl⟩;have bx:=w.1;have cl:=cm.perm X w;have k5:=D ac s;simp only[lg];have part:∀(C:Cx) (k:List Item),True:=fun _ _=>trivial;clear part;obtain⟨g0,rfl⟩:∃g0,va=some ⟨g0,0,none⟩:=by obtain⟨g,c',ev⟩:=Ow.addr F O;simp only[Value.slice.injEq]at ev;exact⟨g,ev.1⟩
 apply y9 (α:=Unit) (fun _=>lg (.slice (some ⟨g0,0,none⟩) d.size vk) (.func (.func f) fst cap) x o y) (fun _ H=>∃I6,H=U [I6,A5]/\Dj [I6,A5]/\I5.le I6)
 .intro n;rcases jt x.a with cc|cc
  .have a6:decide ((x.a:Int)>0)=false:=cd O;refine bF ?_;refine bE [0,1,2,3,4,5,6,7,8,9,10,11,12,13,14,15,16] [8,12] [] ?_;refine bJ a6 ?_;apply aL;apply cD 2;simp only[go_sem,E];refine gI ?_ ?_ (n () _ ⟨I5,rfl,B,aC _⟩)
   .exact ak
   .exact(by simp only[go_sem,Y,lg])
  .have a6:decide ((x.a:Int)>0)=true:=bl O;have w6:IntKind.i64.wrap ((x.a:Int)-1)=((x.a-1:Nat):Int):=by rw[jX O];omega
   obtain⟨g,cp,cur,ci,cj,ev,rfl,c4,ri,rj,li,lj,ki,kj,cB⟩:=Ow.two F (fun{I} c a h=>ae.len c a h) (fun{I J c a} h k=>ae.le h k) (i:=x.a-1) (j:=y) O O;rw[bx.trans cx]at ev c4;simp only[Value.slice.injEq,a8,Addr.mk.injEq,dV,eW]at ev;obtain⟨eg,ek⟩:=ev;subst eg;subst ek;refine bF ?_;refine bE [0,1,2,3,4,5,6,7,8,9,10,11,12,13,14,15,16] [8,12] [] ?_;refine kL a6 w6 ?_;refine⟨O,?_⟩;refine X6 (l:=ci) (v:=.agg ci.toArray) rfl (cellsU B (.tail _ (.head _)) (by simpa using ki)) (.inl ⟨by rw[li];exact b9,rfl⟩) ?_;refine kL a6 w6 ?_;refine⟨O,?_⟩;refine X6 (l:=cj) (v:=.agg cj.toArray) rfl (cellsU B (.tail _ (.head _)) (by simpa using kj)) (.inl ⟨by rw[lj];exact b9,rfl⟩) ?_;refine kL a6 w6 ?_;refine cE B [0] [] [_] rfl gf rfl (cf I5 _ _ _ _ ri rj) ?_;rintro v I6 qs S t⟨rfl,z,rfl,hz⟩;simp only[Z3]at S |-;refine bR ?_;apply aL;cases am:aQ e5[x.a-1]! e5[y]! with
   |true=>
    rw[am]at hz;apply cD 2;simp only[go_sem,E,hz,cP];refine gI ?_ ?_ (n () _ ⟨I6,rfl,S,t⟩)
    .exact ak
    .exact(by simp only[go_sem,Y,lg])
   |false=>
    rw[am]at hz;apply RG;simp only[go_sem,E,hz,ds];refine au S [0] [_] [] rfl Qb rfl (Uz (a:=x.a) (b:=x.b) (pivot:=y) (ar.le F t) hc W V O O) ?_;rintro v I7 qs a1 aq⟨A7,rfl,aS,rfl⟩;simp only[Z3]at a1 |-;obtain⟨m,e7,hx⟩:∃m e7,Sort.partitionEqual aQ e5 x.a x.b y=(m,e7):=⟨_,_,rfl⟩;rw[hx]at aS |-;obtain⟨r1,r2,r3,r4,r5⟩:=Sort.round_eq yv (Sort.partitionEqual_holds aQ) cc W V O cl am hx;refine bF ?_;exact Z ⟨m,x.b,o,x.wb,x.wp⟩ _ _ bh ak (by simp only[go_sem,Y,vm]) ⟨I7,A7,e7,rfl,a1,D k5 (D t aq),aS,O,r2,by simp only;omega,ca,G,r4,fun R p q=>by obtain⟨s1,s2⟩:=r5 R p q;exact hG R (permIn_trans _ _ _ x.a x.b w s1) s2⟩
 rintro⟨⟩ H ⟨I6,rfl,S,t⟩;simp only[lg];refine bF ?_;refine au S [0] [A5] [] rfl Qc rfl (Uy (a:=x.a) (b:=x.b) (pivot:=y) (ar.le F t) hc W V O O) ?_;rintro v I7 qs a1 aq⟨A7,rfl,aS,rfl⟩;simp only[Z3]at a1 |-;obtain⟨m,ap,e7,hx⟩:∃m ap e7,Sort.partition aQ e5 x.a x.b y=(m,ap,e7):=⟨_,_,_,rfl⟩;rw[hx]at aS |-;obtain⟨r1,r2,r3,r4,r5,r6,r7⟩:=Sort.round_part yv (Sort.partition_holds aQ) W V O cl hx;have k7:=D k5 (D t aq);simp only at aS;have w7:IntKind.i64.wrap ((m:Int)-(x.a:Int))=((m-x.a:Nat):Int):=by rw[fu O O];omega
 have w8:IntKind.i64.wrap ((x.b:Int)-(m:Int))=((x.b-m:Nat):Int):=by rw[fu O O];omega
 have w9:IntKind.i64.wrap ((((x.b-x.a:Nat):Int)).tdiv 8)=(((x.b-x.a) / 8:Nat):Int):=by rw[show (((x.b-x.a:Nat):Int)).tdiv 8=(((x.b-x.a) / 8:Nat):Int) from rfl,wrap64 O]
 have w10:IntKind.i64.wrap ((m:Int)+1)=((m+1:Nat):Int):=by
  have e0:(m:Int)+1=((m+1:Nat):Int):=by omega
  rw[e0];exact wrap64 O
 rcases aI (m-x.a) (x.b-m)with c1|c1
 .have a0:=Z5 (m-x.a) (x.b-m);apply RG;simp only[go_sem,E,w7,w8,w9,a0];refine au a1 [0] [A7] [] rfl DQ rfl (ih (a:=x.a) (b:=m) (lim:=o) O aS hc r1 O O r4 G) ?_;rintro v I8 qs a4 an⟨A8,e8,rfl,b5,a5,b4⟩;simp only[Z3]at a4 |-;obtain⟨t1,t2⟩:=r6 e8 a5 b4;have cr:=a5.1;refine be w10 ?_;exact Z ⟨m+1,x.b,o,decide (((m-x.a:Nat):Int)>=(((x.b-x.a) / 8:Nat):Int)),ap⟩ _ _ bh ak (by simp only[go_sem,Y,vm]) ⟨I8,A8,e8,rfl,a4,D k7 an,b5,O,by simp only;omega,by simp only;omega,ca,G,t1,fun R p q=>by obtain⟨s1,s2⟩:=t2 R p q;exact hG R (permIn_trans _ _ _ x.a x.b w s1) s2⟩
 .have a0:decide (((m-x.a:Nat):Int)<((x.b-m:Nat):Int))=false:=cd O;apply RG;simp only[go_sem,E,w7,w8,w9,a0,w10];refine au a1 [0] [A7] [] rfl DQ rfl (ih (a:=m+1) (b:=x.b) (lim:=o) O aS hc O O O r5 G) ?_;rintro v I8 qs a4 an⟨A8,e8,rfl,b5,a5,b4⟩;simp only[Z3]at a4 |-;obtain⟨t1,t2⟩:=r7 e8 a5 b4;have cr:=a5.1;refine bF ?_;exact Z ⟨x.a,m,o,decide (((x.b-m:Nat):Int)>=(((x.b-x.a) / 8:Nat):Int)),ap⟩ _ _ bh ak (by simp only[go_sem,Y,vm]) ⟨I8,A8,e8,rfl,a4,D k7 an,b5,O,r1,cA,by simp only;omega,G,t1,fun R p q=>by obtain⟨s1,s2⟩:=t2 R p q;exact hG R (permIn_trans _ _ _ x.a x.b w s1) s2⟩
def VX(m:ar I A v d.toList)(l:ik ae aQ vc)(k:d.size<=ao):
  aT prog 147 #[v,vc] I [A] (JZ v d 0 d.size):=by
 intro hd;have g:=k;unfold ao at g;obtain⟨f,fst,cap,rfl,x,y⟩:=id l;obtain⟨u,t,rfl⟩:=Ow.one' m;have q:Sort.bitsLen d.size<=41:=(Sort.bitsLen_le_iff d.size 41).2 O;have o:=vU (n:=d.size) O;refine aP 14 func147 fun w0=>?_;refine dq o ?_;refine X4 rfl HT (IQ O _) ?_;rintro v H2⟨rfl,rfl⟩;refine bF ?_;refine au hd [0] [A] [] rfl DQ rfl (UA (d.size-0+1) (a:=0) (b:=d.size) (lim:=Sort.bitsLen d.size) O m l (aF _) (aR _) k (.inl rfl) O) ?_;rintro v z w e c⟨s,e2,rfl,j,i,h⟩;simp only[Z3]at e |-;refine bF ?_;exact jM rfl e (r:=[]) rfl c ⟨s,e2,rfl,j,i,h⟩
end Go.Proofs.YtfaclfkpnmcmlaaGreatDoor
