import Derived.Test.YtfaclfkpnmcmlaaGreatDoorH14
import Derived.Test.YtfaclfkpnmcmlaaGreatDoorH18
set_option maxHeartbeats 8000000
set_option linter.all false
namespace Go.Proofs.YtfaclfkpnmcmlaaGreatDoor
open Go Go.Sx Dg Syn
def TM:aO Tryz.prog 275:=⟨_,Tryz.func275,rfl,rfl⟩
def iX{k:Nat}(h:k<2^61):IntKind.i64.wrap ((k:Int)-1)=(k:Int)-1:=by
 have:=cH (a:=k) (b:=1) ab ab
 rwa [show ((1:Nat):Int)=1 from rfl]at this
def Ya(v vf vh vc:Value)(k:Nat):St:=⟨dn 60 [(0,.v v),(3,.v vc),(8,.v vf),(9,.v (.int .i64 0)),(10,.v vh),(11,.v (.int .i64 ((k:Int)-1)))],[]⟩
def Tt(v vf vc:Value)(k:Nat):St:=⟨dn 60 [(0,.v v),(3,.v vc),(8,.v vf),(9,.v (.int .i64 0)),(12,.v (.int .i64 ((k:Int)-1)))],[]⟩
variable{a b:Nat}{d:Array Nd}{v vc:Value}{I A:PH}
theorem acj(hA:bQ I A v d.toList)(hc:mC bm dp vc)(b1:a<=b)(hb:b<=d.size)(hn:d.size<=aN):
  aK Tryz.prog 272 #[v,iv a,iv b,vc] I [A] fun _ I2 qs=>∃A2,qs=[A2]/\bQ I2 A2 v (Sort.heapSort dp d a b).toList:=by
 intro hd;unfold aN at hn;obtain⟨f,fst,cap,rfl,gf,cf⟩:=id hc;obtain⟨va,vk,rfl⟩:=Ow.one' hA;refine ah 60 Tryz.func272 fun w0=>?_
 try simp only[iv]
 have w1:IntKind.i64.wrap ((b:Int)-(a:Int))=((b-a:Nat):Int):=by
  rw[cH ab ab];omega
 have w2:=iX (k:=b-a) ab;have w3:IntKind.i64.wrap ((((b-a:Nat):Int)-1).tdiv 2)=(((b-a-1) / 2+1:Nat):Int)-1:=by
  have e:(((b-a:Nat):Int)-1).tdiv 2=(((b-a-1) / 2:Nat):Int):=by
   rcases abn (b-a)with h|h
   ·rw[h];decide
   ·rw[show ((b-a:Nat):Int)-1=((b-a-1:Nat):Int) by omega];rfl
  rw[e,wrap64 ab];omega
 apply RG;simp only[go_sem,w1,w2,w3];refine aA (fun k=>k) (Ya (.slice va d.size vk) (iv a) (iv (b-a)) (.func (.func f) fst cap)) (fun k H=>∃I2 A2 d2,H=U [I2,A2]/\Dj [I2,A2]/\I.le I2/\k<=d.size+1/\d2.size=d.size/\bQ I2 A2 (.slice va d.size vk) d2.toList/\Sort.heapBuild dp (b-a) a k d2=Sort.heapBuild dp (b-a) a ((b-a-1) / 2+1) d) ((b-a-1) / 2+1) bM (by simp only[go_sem,aa6,Ya]) ?_ ?_
 ·exact⟨I,A,d,rfl,hd,abW _,ab,rfl,hA,rfl⟩
 rintro k H ⟨I2,A2,d2,rfl,a7,am,hk,a1,a9,aq⟩ ak;simp only[Ya];cases k with
 |succ k=>
  have e:(((k+1:Nat):Int)-1)=(k:Int):=by omega
  have a5:decide ((k:Int)>=0)=true:=abU ab;have w4:=iX (k:=k) ab;rw[Sort.heapBuild]at aq;apply RG;simp only[go_sem,iv,e,a5];refine ad a7 [0] [A2] [] rfl KL rfl (Pi (d:=d2) (lo:=k) (hi:=b-a) (first:=a) a9 hc ab (by rw[a1];exact hn) ab) fun v I3 qs aj aa hq=>?_;obtain⟨A3,rfl,aS,an⟩:=hq;simp only[Z3]at aj |-;apply RG;simp only[go_sem,iv,w4];exact ak k _ _ ab bM (by simp only[go_sem,aa6,Ya]) ⟨I3,A3,_,rfl,aj,abV am aa,ab,by rw[an];exact a1,aS,aq⟩
 |zero=>
  have a5:decide ((0:Int)-1>=0)=false:=rfl;rw[Sort.heapBuild]at aq;apply RG;simp only[go_sem,iv,a5,w2];refine aA (fun k=>k) (Tt (.slice va d.size vk) (iv a) (.func (.func f) fst cap)) (fun k H=>∃I3 A3 d3,H=U [I3,A3]/\Dj [I3,A3]/\I2.le I3/\k<=b-a/\d3.size=d.size/\bQ I3 A3 (.slice va d.size vk) d3.toList/\Sort.heapPop dp a k d3=Sort.heapSort dp d a b) (b-a) bM (by simp only[go_sem,aa6,Tt]) ?_ ?_
  ·exact⟨I2,A2,d2,rfl,a7,abW _,ZR _,a1,a9,by rw[aq];rfl⟩
  rintro k H ⟨I3,A3,d3,rfl,aj,aa,b0,an,aS,ao⟩ ac;simp only[Tt];cases k with
  |succ k=>
   have e:(((k+1:Nat):Int)-1)=(k:Int):=by omega
   have a4:decide ((k:Int)>=0)=true:=abU ab;have w4:=iX (k:=k) ab;rw[Sort.heapPop]at ao;apply RG;simp only[go_sem,iv,e,a4];have w5:IntKind.i64.wrap ((a:Int)+(k:Int))=((a+k:Nat):Int):=by
    rw[<-wrap64 (n:=a+k) ab];congr 1<;>omega
   obtain⟨g,cp,cur,ci,cj,ev,rfl,bd,ri,rj,li,lj,ki,kj,a2⟩:=Ow.two aS (fun{I} c a h=>bm.len c a h) (fun{I J c a} h k=>bm.le h k) (i:=a) (j:=a+k) ab ab;rw[an]at ev bd;cases ev
   have mi:(a+1)*7<=d.size*7:=aaQ _ ab;have mj:((a+k)+1)*7<=d.size*7:=aaQ _ ab;refine eP [0,1,2,3,4,5,6,7,8,9,10,11,12,13,14,15,16,17,18,19] [11,15] [] ?_;apply au;simp only[go_sem,iv,w5];refine⟨ab,?_⟩;refine W7 (l:=cj) (v:=.agg cj.toArray) rfl (cellsU aj (.tail _ (.head _)) (by simpa using kj)) (.inl ⟨by rw[lj];exact cL,rfl⟩) ?_;apply au;simp only[go_sem,iv,w5];refine⟨ab,?_⟩;refine W7 (l:=ci) (v:=.agg ci.toArray) rfl (cellsU aj (.tail _ (.head _)) (by simpa using ki)) (.inl ⟨by rw[li];exact cL,rfl⟩) ?_;apply au;simp only[go_sem,iv,w5];refine⟨ab,?_⟩;refine aQ aj rfl rfl rfl rfl rfl (ag (bm.ones rj)) (by rw[lj];exact aU) (by rw[lj];omega) fun bb=>?_;apply au;simp only[go_sem,iv,w5];refine⟨ab,?_⟩;refine aQ bb rfl rfl rfl rfl rfl (ag (bm.ones ri)) (by rw[li];exact aU) (by rw[li];simp[aX];omega) fun bc=>?_;refine aw ?_;apply RG;simp only[go_sem,iv,e];have bx:=a2 I3 (abW _);have a0:(Sort.swp d3 a (a+k)).size=d.size:=by rw[al];exact an
   refine ad bc [0] [sg g _] [] rfl KL rfl (Pi (lo:=0) (hi:=k) (first:=a) bx hc (by rw[a0];omega) (by rw[a0];exact hn) (aaL _)) fun v I5 qs a6 a3 hq=>?_;obtain⟨A5,rfl,bs,ba⟩:=hq;simp only[Z3]at a6 |-;apply RG;simp only[go_sem,iv,w4];exact ac k _ _ ab bM (by simp only[go_sem,aa6,Tt]) ⟨I5,A5,_,rfl,a6,abV aa a3,ab,by rw[ba];exact a0,bs,ao⟩
  |zero=>
   have a4:decide ((0:Int)-1>=0)=false:=rfl;rw[Sort.heapPop]at ao;apply RG;simp only[go_sem,iv,a4];exact d8 rfl aj (r:=[]) rfl (abV am aa) ⟨A3,rfl,by rw[<-ao];exact aS⟩
def rvS(v:Value)(x:Nat×Nat):St:=⟨dn 34 [(0,.v v),(8,.v (iv x.1)),(9,.v (.int .i64 ((x.2:Int)-1)))],[]⟩
def acD(hA:bQ I A v d.toList)(a4:a<b)(hb:b<=d.size)(hn:d.size<=aN):
  aK Tryz.prog 275 #[v,iv a,iv b,vc] I [A] fun _ I2 qs=>∃A2,qs=[A2]/\bQ I2 A2 v (Sort.reverseRange d a b).toList:=by
 intro hd;unfold aN at hn;obtain⟨va,vk,rfl⟩:=Ow.one' hA;refine ah 34 Tryz.func275 fun w0=>?_
 try simp only[iv]
 have w2:=iX (k:=b) ab;apply RG;simp only[go_sem,w2];refine aA (fun x=>x.2-x.1) (rvS (.slice va d.size vk)) (fun x H=>∃A2 d2,H=U [I,A2]/\Dj [I,A2]/\x.1<=b/\1<=x.2/\x.2<=b/\d2.size=d.size/\bQ I A2 (.slice va d.size vk) d2.toList/\Sort.reverseLoop x.1 (x.2-1) d2=Sort.reverseRange d a b) (a,b) bM (by simp only[go_sem,aa6,rvS]) ?_ ?_
 ·exact⟨A,d,rfl,hd,by simp only;omega,by simp only;omega,ZR _,rfl,hA,rfl⟩
 rintro⟨i,j⟩ H ⟨A2,d2,rfl,aj,hi,aS,hj,an,ao,aa⟩ ac;simp only at hi aS hj aa;simp only[rvS];obtain⟨j,rfl⟩:∃j',j=j'+1:=⟨j-1,ab⟩;have e:(((j+1:Nat):Int)-1)=(j:Int):=by omega
 rw[acU]at aa;have w3:=iX (k:=j) ab;have w4:IntKind.i64.wrap ((i:Int)+1)=((i+1:Nat):Int):=by
  rw[<-wrap64 (n:=i+1) ab];congr 1<;>omega
 rcases aaf i j with aq|a3
 ·have am:decide ((i:Int)<(j:Int))=true:=abU ab;rw[Sort.reverseLoop,aaq aq]at aa;apply RG;simp only[go_sem,iv,e,am];obtain⟨g,cp,cur,ci,cj,ev,rfl,a2,ri,rj,li,lj,ki,kj,ak⟩:=Ow.two ao (fun{I} c a h=>bm.len c a h) (fun{I J c a} h k=>bm.le h k) (i:=i) (j:=j) ab ab;rw[an]at ev a2;cases ev
  have mi:(i+1)*7<=d.size*7:=aaQ _ ab;have mj:(j+1)*7<=d.size*7:=aaQ _ ab;refine eP [0,1,2,3,4,5,6,7,8,9,10,11,12,13,14,15] [7,11] [] ?_;apply au;simp only[go_sem,iv,e];refine⟨ab,?_⟩;refine W7 (l:=cj) (v:=.agg cj.toArray) rfl (cellsU aj (.tail _ (.head _)) (by simpa using kj)) (.inl ⟨by rw[lj];exact cL,rfl⟩) ?_;apply au;simp only[go_sem,iv,e];refine⟨ab,?_⟩;refine W7 (l:=ci) (v:=.agg ci.toArray) rfl (cellsU aj (.tail _ (.head _)) (by simpa using ki)) (.inl ⟨by rw[li];exact cL,rfl⟩) ?_;apply au;simp only[go_sem,iv,e];refine⟨ab,?_⟩;refine aQ aj rfl rfl rfl rfl rfl (ag (bm.ones rj)) (by rw[lj];exact aU) (by rw[lj];omega) fun a0=>?_;apply au;simp only[go_sem,iv,e];refine⟨ab,?_⟩;refine aQ a0 rfl rfl rfl rfl rfl (ag (bm.ones ri)) (by rw[li];exact aU) (by rw[li];simp[aX];omega) fun a1=>?_;refine aw ?_;apply RG;simp only[go_sem,iv,w3,w4];exact ac (i+1,j) _ _ dt bM (by simp only[go_sem,aa6,rvS]) ⟨_,_,rfl,a1,by simp only;omega,by simp only;omega,by simp only;omega,by rw[al];exact an,ak I (abW _),aa⟩
 ·have am:decide ((i:Int)<(j:Int))=false:=abT ab;rw[Sort.reverseLoop,ZV ab]at aa;apply RG;simp only[go_sem,iv,e,am];exact d8 rfl aj (r:=[]) rfl (abW _) ⟨A2,rfl,by rw[<-aa];exact ao⟩
def Bw:aO Tryz.prog 309:=⟨_,Tryz.func309,rfl,rfl⟩
def Ap:aO Tryz.prog 300:=⟨_,Tryz.func300,rfl,rfl⟩
def BD:aO Tryz.prog 299:=⟨_,Tryz.func299,rfl,rfl⟩
def QA:aO Tryz.prog 274:=⟨_,Tryz.func274,rfl,rfl⟩
abbrev Cu(b n:Nat):PH:=sg b (.cells #[iv n] 3 (0,0))
theorem vj{n sb:Nat}(hA:bQ I A v d.toList)(hc:mC bm dp vc)(ha:a<d.size)(hb:b<d.size)(hn:d.size<=aN)(hs:n<2^20):
  aK Tryz.prog 309 #[v,iv a,iv b,pt sb,vc] I [A,Cu sb n] fun r I2 qs=>qs=[A,Cu sb (Sort.order2 dp d a b n).2.2]/\r=.tuple #[iv (Sort.order2 dp d a b n).1,iv (Sort.order2 dp d a b n).2.1]:=by
 intro hd;unfold aN at hn;obtain⟨f,fst,cap,rfl,gf,cf⟩:=id hc;obtain⟨va,vk,rfl⟩:=Ow.one' hA;refine ah 32 Tryz.func309 fun w0=>?_
 try simp only[iv,pt]
 have w1:IntKind.i64.wrap ((n:Int)+1)=((n+1:Nat):Int):=by
  have e0:(n:Int)+1=((n+1:Nat):Int):=by omega
  rw[e0];exact wrap64 ab
 obtain⟨g,cp,cur,ci,cj,ev,rfl,ao,ri,rj,li,lj,ki,kj,aj⟩:=Ow.two hA (fun{I} c a h=>bm.len c a h) (fun{I J c a} h k=>bm.le h k) (i:=b) (j:=a) ab ab;cases ev
 refine aT ?_;refine eP [0,1,2,3,4,5,6,7,8,9,10] [4,8] [] ?_;refine dS ?_;refine⟨ab,?_⟩;refine W7 (l:=ci) (v:=.agg ci.toArray) rfl (cellsU hd (.tail _ (.head _)) (by simpa using ki)) (.inl ⟨by rw[li];exact cL,rfl⟩) ?_;refine dS ?_;refine⟨ab,?_⟩;refine W7 (l:=cj) (v:=.agg cj.toArray) rfl (cellsU hd (.tail _ (.head _)) (by simpa using kj)) (.inl ⟨by rw[lj];exact cL,rfl⟩) ?_;refine dS ?_;refine aE hd [0,1] [] [_,_] rfl gf rfl (cf I _ _ _ _ ri rj) fun v I2 qs ac aa hq=>?_;obtain⟨rfl,z,rfl,hz⟩:=hq;simp only[Z3]at ac |-;refine dS ?_;refine aw ?_;cases hl:dp d[b]! d[a]! with
 |true=>
  rw[hl]at hz;have e:Sort.order2 dp d a b n=(b,a,n+1):=by simp[Sort.order2,hl]
  rw[e];apply RG;simp only[go_sem,iv,hz];refine XN (l:=[iv n]) rfl (cellsU ac (.tail _ (.tail _ (.head _))) (ay (by simp) rfl)) (.inr ⟨jq,rfl⟩) ?_;apply RG;simp only[go_sem,iv,w1];refine bf ac [1,0] fun an=>?_;refine bw an rfl rfl rfl rfl rfl (by exact uZ) (by simp) fun am=>?_;refine dP ?_;refine bf am [1,0] fun ak=>?_;exact af rfl ak (r:=[iv b,iv a]) rfl aa ⟨rfl,rfl⟩
 |false=>
  rw[hl]at hz;have e:Sort.order2 dp d a b n=(a,b,n):=by simp[Sort.order2,hl]
  rw[e];apply RG;simp only[go_sem,iv,hz];exact af rfl ac (r:=[iv a,iv b]) rfl aa ⟨rfl,rfl⟩
def ls(d:Array Nd)(a b n:Nat):((Sort.order2 dp d a b n).1=a/\(Sort.order2 dp d a b n).2.1=b\/(Sort.order2 dp d a b n).1=b/\(Sort.order2 dp d a b n).2.1=a)/\(Sort.order2 dp d a b n).2.2<=n+1:=by
 unfold Sort.order2;split
 ·exact⟨.inr ⟨rfl,rfl⟩,ZR _⟩
 ·exact⟨.inl ⟨rfl,rfl⟩,Nat.le_succ _⟩
def s6{c n sb:Nat}(hA:bQ I A v d.toList)(hc:mC bm dp vc)(ha:a<d.size)(hb:b<d.size)(ao:c<d.size)(hn:d.size<=aN)(hs:n<2^19):
  aK Tryz.prog 300 #[v,iv a,iv b,iv c,pt sb,vc] I [A,Cu sb n] fun r I2 qs=>∃n2 m,n2<=n+3/\(m=a\/m=b\/m=c)/\qs=[A,Cu sb n2]/\r=iv m:=by
 intro hd;obtain⟨f,fst,cap,rfl,gf,cf⟩:=id hc;obtain⟨va,vk,rfl⟩:=Ow.one' hA;refine ah 41 Tryz.func300 fun w0=>?_
 try simp only[iv,pt]
 refine aT ?_;refine ad hd [0,1] [A,Cu sb n] [] rfl Bw rfl (vj (a:=a) (b:=b) hA hc ha hb hn ab) fun v I2 qs an aa hq=>?_;obtain⟨rfl,rfl⟩:=hq;obtain⟨p1,p2⟩:=ls d a b n;generalize Sort.order2 dp d a b n=r1 at *;simp only[Z3]at an |-;refine ll ?_;have u1:r1.2.1<d.size/\r1.1<d.size:=by rcases p1 with p|p<;>omega
 refine ad an [0,1] [A,Cu sb r1.2.2] [] rfl Bw rfl (vj (a:=r1.2.1) (b:=c) (bQ.le hA aa) hc u1.1 ao hn ab) fun v I3 qs am ac hq=>?_;obtain⟨rfl,rfl⟩:=hq;obtain⟨q1,q2⟩:=ls d r1.2.1 c r1.2.2;generalize Sort.order2 dp d r1.2.1 c r1.2.2=r2 at *;simp only[Z3]at am |-;refine ll ?_;have u2:r2.1<d.size:=by rcases q1 with q|q<;>omega
 refine ad am [0,1] [A,Cu sb r2.2.2] [] rfl Bw rfl (vj (a:=r1.1) (b:=r2.1) (bQ.le hA (abV aa ac)) hc u1.2 u2 hn ab) fun v I4 qs ak aj hq=>?_;obtain⟨rfl,rfl⟩:=hq;obtain⟨s1,s2⟩:=ls d r1.1 r2.1 r2.2.2;generalize Sort.order2 dp d r1.1 r2.1 r2.2.2=r3 at *;simp only[Z3]at ak |-;refine ll ?_;exact af rfl ak (r:=[iv r3.2.1]) rfl (abV aa (abV ac aj)) ⟨r3.2.2,r3.2.1,ab,by rcases p1 with p|p<;>rcases q1 with q|q<;>rcases s1 with s|s<;>omega,rfl,rfl⟩
def s5{n sb:Nat}(hA:bQ I A v d.toList)(hc:mC bm dp vc)(h1:1<=a)(ha:a+1<d.size)(hn:d.size<=aN)(hs:n<2^19):
  aK Tryz.prog 299 #[v,iv a,pt sb,vc] I [A,Cu sb n] fun r I2 qs=>∃n2 m,n2<=n+3/\a-1<=m/\m<=a+1/\qs=[A,Cu sb n2]/\r=iv m:=by
 intro hd;have aj:=hn;unfold aN at aj;obtain⟨f,fst,cap,rfl,gf,cf⟩:=id hc;obtain⟨va,vk,rfl⟩:=Ow.one' hA;refine ah 18 Tryz.func299 fun w0=>?_
 try simp only[iv,pt]
 have w2:IntKind.i64.wrap ((a:Int)-1)=((a-1:Nat):Int):=by rw[iX ab];omega
 have w1:IntKind.i64.wrap ((a:Int)+1)=((a+1:Nat):Int):=by
  have e0:(a:Int)+1=((a+1:Nat):Int):=by omega
  rw[e0];exact wrap64 ab
 apply RG;simp only[go_sem,w1,w2];refine ad hd [0,1] [A,Cu sb n] [] rfl Ap rfl (s6 (a:=a-1) (b:=a) (c:=a+1) hA hc ab ab ab hn hs) fun v I2 qs ac aa hq=>?_;obtain⟨n2,m,p1,p2,rfl,rfl⟩:=hq;simp only[Z3]at ac |-;refine ll ?_;exact af rfl ac (r:=[iv m]) rfl aa ⟨n2,m,p1,ab,ab,rfl,rfl⟩
theorem Ug(hA:bQ I A v d.toList)(hc:mC bm dp vc)(bc:12<b-a)(hb:b<=d.size)(hn:d.size<=aN):
  aK Tryz.prog 274 #[v,iv a,iv b,vc] I [A] fun r I2 qs=>∃m h,a<=m/\m<b/\h<=2/\qs=[A]/\r=.tuple #[iv m,iv h]:=by
 intro hd;have a7:=hn;unfold aN at a7;obtain⟨f,fst,cap,rfl,gf,cf⟩:=id hc;obtain⟨va,vk,rfl⟩:=Ow.one' hA;refine ah 63 Tryz.func274 fun w0=>?_
 try simp only[iv,pt]
 have w1:IntKind.i64.wrap ((b:Int)-(a:Int))=((b-a:Nat):Int):=by
  rw[cH ab ab];omega
 obtain⟨q,hq⟩:∃q,q=(b-a) / 4:=⟨_,rfl⟩;have bb:4*q<=b-a:=by omega
 have ba:3<=q:=by omega
 have wq:IntKind.i64.wrap ((((b-a:Nat):Int)).tdiv 4)=(q:Int):=by
  rw[show (((b-a:Nat):Int)).tdiv 4=(((b-a) / 4:Nat):Int) from rfl,<-hq,wrap64 ab]
 have m1:IntKind.i64.wrap ((q:Int)*1)=((q:Nat):Int):=by
  have e0:(q:Int)*1=((q:Nat):Int):=by omega
  rw[e0];exact wrap64 ab
 have m2:IntKind.i64.wrap ((q:Int)*2)=((2*q:Nat):Int):=by
  have e0:(q:Int)*2=((2*q:Nat):Int):=by omega
  rw[e0];exact wrap64 ab
 have m3:IntKind.i64.wrap ((q:Int)*3)=((3*q:Nat):Int):=by
  have e0:(q:Int)*3=((3*q:Nat):Int):=by omega
  rw[e0];exact wrap64 ab
 have s1:IntKind.i64.wrap ((a:Int)+(q:Int))=((a+q:Nat):Int):=by
  have e0:(a:Int)+(q:Int)=((a+q:Nat):Int):=by omega
  rw[e0];exact wrap64 ab
 have s2:IntKind.i64.wrap ((a:Int)+((2*q:Nat):Int))=((a+2*q:Nat):Int):=by
  have e0:(a:Int)+((2*q:Nat):Int)=((a+2*q:Nat):Int):=by omega
  rw[e0];exact wrap64 ab
 have s3:IntKind.i64.wrap ((a:Int)+((3*q:Nat):Int))=((a+3*q:Nat):Int):=by
  have e0:(a:Int)+((3*q:Nat):Int)=((a+3*q:Nat):Int):=by omega
  rw[e0];exact wrap64 ab
 have a6:decide (((b-a:Nat):Int)>=8)=true:=abU ab;apply bL 15;simp only[go_sem,w1];refine fV 11 hd rfl fun sb a5=>?_;have a9:Dj [I,Cu sb 0,A]:=a5
 change RC _ _ _ (U [I,Cu sb 0,A])
 clear a5;refine bf a9 [1,0] fun a4=>?_;rcases aaf (b-a) 50 with h5|h5
 ·have a1:decide (((b-a:Nat):Int)>=50)=false:=abT ab;apply RG;simp only[go_sem,mF,List.map,iv,pt,wq,m1,m2,m3,s1,s2,s3,a6,a1];refine ad a4 [0,1] [A,Cu sb 0] [] rfl Ap rfl (s6 (a:=a+q) (b:=a+2*q) (c:=a+3*q) (n:=0) hA hc ab ab ab hn ab) fun v I2 qs am aj hq=>?_;obtain⟨n2,m,p1,p2,rfl,rfl⟩:=hq;simp only[Z3]at am |-;refine ll ?_;refine XN (l:=[iv n2]) rfl (cellsU am (.tail _ (.tail _ (.head _))) (ay (by simp) rfl)) (.inr ⟨jq,rfl⟩) ?_;have hm:a<=m/\m<b:=by omega
  by_cases z0:n2=0
  ·have q0:((n2:Int) == 0)=true:=by rw[z0];rfl
   apply RG;simp only[go_sem,iv,q0];refine bf am [1,0] fun ac=>?_;refine ae ac fun I9 ac aa aS=>?_;exact af rfl ac (r:=[iv m,iv 1]) rfl (abV aj aa) ⟨m,1,hm.1,hm.2,ab,rfl,rfl⟩
  ·have q0:((n2:Int) == 0)=false:=by rw[abS];omega
   by_cases z1:n2=12
   ·have q1:((n2:Int) == 12)=true:=by rw[z1];rfl
    apply RG;simp only[go_sem,iv,q0,q1];refine bf am [1,0] fun ac=>?_;refine ae ac fun I9 ac aa aS=>?_;exact af rfl ac (r:=[iv m,iv 2]) rfl (abV aj aa) ⟨m,2,hm.1,hm.2,ab,rfl,rfl⟩
   ·have q1:((n2:Int) == 12)=false:=by rw[abS];omega
    apply RG;simp only[go_sem,iv,q0,q1];refine bf am [1,0] fun ac=>?_;refine ae ac fun I9 ac aa aS=>?_;exact af rfl ac (r:=[iv m,iv 0]) rfl (abV aj aa) ⟨m,0,hm.1,hm.2,ab,rfl,rfl⟩
 ·have a1:decide (((b-a:Nat):Int)>=50)=true:=abU ab;apply RG;simp only[go_sem,mF,List.map,iv,pt,wq,m1,m2,m3,s1,s2,s3,a6,a1];refine ad a4 [0,1] [A,Cu sb 0] [] rfl BD rfl (s5 (a:=a+q) (n:=0) hA hc ab ab hn ab) fun v I2 qs am aj hq=>?_;obtain⟨n2,x1,p1,p2,p3,rfl,rfl⟩:=hq;simp only[Z3]at am |-;refine ll ?_;refine ad am [0,1] [A,Cu sb n2] [] rfl BD rfl (s5 (a:=a+2*q) (n:=n2) (bQ.le hA aj) hc ab ab hn ab) fun v I3 qs a3 an hq=>?_;obtain⟨n3,x2,p4,p5,p6,rfl,rfl⟩:=hq;simp only[Z3]at a3 |-;refine ll ?_;refine ad a3 [0,1] [A,Cu sb n3] [] rfl BD rfl (s5 (a:=a+3*q) (n:=n3) (bQ.le hA (abV aj an)) hc ab ab hn ab) fun v I4 qs a2 ao hq=>?_;obtain⟨n4,x3,p7,p8,p9,rfl,rfl⟩:=hq;simp only[Z3]at a2 |-;refine ll ?_;refine ad a2 [0,1] [A,Cu sb n4] [] rfl Ap rfl (s6 (a:=x1) (b:=x2) (c:=x3) (n:=n4) (bQ.le hA (abV aj (abV an ao))) hc ab ab ab hn ab) fun v I5 qs aq a0 hq=>?_;obtain⟨n5,m,p10,p11,rfl,rfl⟩:=hq;simp only[Z3]at aq |-;refine ll ?_;have ak:=abV aj (abV an (abV ao a0));refine XN (l:=[iv n5]) rfl (cellsU aq (.tail _ (.tail _ (.head _))) (ay (by simp) rfl)) (.inr ⟨jq,rfl⟩) ?_;have hm:a<=m/\m<b:=by omega
  by_cases z0:n5=0
  ·have q0:((n5:Int) == 0)=true:=by rw[z0];rfl
   apply RG;simp only[go_sem,iv,q0];refine bf aq [1,0] fun ac=>?_;refine ae ac fun I9 ac aa aS=>?_;exact af rfl ac (r:=[iv m,iv 1]) rfl (abV ak aa) ⟨m,1,hm.1,hm.2,ab,rfl,rfl⟩
  ·have q0:((n5:Int) == 0)=false:=by rw[abS];omega
   by_cases z1:n5=12
   ·have q1:((n5:Int) == 12)=true:=by rw[z1];rfl
    apply RG;simp only[go_sem,iv,q0,q1];refine bf aq [1,0] fun ac=>?_;refine ae ac fun I9 ac aa aS=>?_;exact af rfl ac (r:=[iv m,iv 2]) rfl (abV ak aa) ⟨m,2,hm.1,hm.2,ab,rfl,rfl⟩
   ·have q1:((n5:Int) == 12)=false:=by rw[abS];omega
    apply RG;simp only[go_sem,iv,q0,q1];refine bf aq [1,0] fun ac=>?_;refine ae ac fun I9 ac aa aS=>?_;exact af rfl ac (r:=[iv m,iv 0]) rfl (abV ak aa) ⟨m,0,hm.1,hm.2,ab,rfl,rfl⟩
end Go.Proofs.YtfaclfkpnmcmlaaGreatDoor
namespace Go.Sx
open Go
section
variable {C:Cx} {P:Program} {k:List Item} {σ:St} {H:PH}
variable{n:Nat}
def yX{zs:Array Value}(h:zs.toList.all one=true):(Builtin.zeroCells zs n).toList.length=n*zs.size/\(Builtin.zeroCells zs n).toList.all one=true:=by
 constructor
 ·simp[Builtin.zeroCells]
 ·rw[aap];intro v hv;simp only[Builtin.zeroCells,Array.toList_map,aaE,Array.mem_toList_iff,Array.mem_range]at hv;obtain⟨i,hi,rfl⟩:=hv;have hz:0<zs.size:=by
   rcases abn zs.size with h0|h0
   ·rw[h0]at hi;simp at hi
   ·exact h0
  have hm:=Nat.mod_lt i hz;rw[getElem!_pos zs _ hm];exact List.all_eq_true.1 h _ (Array.mem_toList_iff.2 (Array.getElem_mem hm))
variable{cur:Array Value}{size:Nat}{z:Value}
def FY{t ty e:TypeId}(hu:P.underlying t=some (.slice e))(hz:aV P e=some z)(ac:z.cells.size=size)(h1:z.cells.toList.all one=true){g o c:Nat}
  (hg:H g=some (.cells cur e (0,0))) (ak:o+n*size<=cur.size) (w:World) (hw:Sub H w) :
  ∃w2 ys,ys.length=n*size/\(Builtin.clear_ #[t] ty #[.slice (some ⟨g,o,none⟩) n c]).run P w=.ok (.tuple #[]) w2/\dM H w (H.put g (.cells (br cur.toList o ys).toArray e (0,0))) w2:=by
 cases n with
 |zero=>
  refine⟨w,[],by simp,by simp[Builtin.clear_,run_underlying hu],?_⟩;have e0:H.put g (.cells (br cur.toList o []).toArray e (0,0))=H:=by
   funext b;by_cases eb:b=g
   ·subst eb;simp[PH.put,br,hg]
   ·simp[PH.put,eb]
  rw[e0];exact dM.refl hw
 |succ n=>
 have aa:=hw _ _ hg;rw[show cur=cur.toList.toArray from by simp]at aa;obtain⟨q1,q2⟩:=yX (n:=n+1) h1;rw[ac]at q1;have aj:(zeroValue e).run P w=.ok z w:=by
  unfold aV at hz;cases hi:P.info? e with
  |none=>rw[hi]at hz;cases hz
  |some i=>
   rw[hi]at hz;have hz:i.zero=some z:=hz;simp[zeroValue,typeInfo,program,Sem.run,hi,hz,Result.andThen]
 obtain⟨w2,r1,r2,r3,r4,r5,r6,r7⟩:=iu (P:=P) g e (Builtin.zeroCells z.cells (n+1)).toList 0 o cur.toList w aa (by simp only[hZ]at *;omega) fun v hv=>List.all_eq_true.1 q2 v hv;refine⟨w2,_,q1,?_,?_⟩
 ·simp[Builtin.clear_,run_underlying hu,aj,Result.andThen,r1]
 ·refine⟨fun c o' h=>?_,ab,fun c am hn=>r3 c (fun e=>by subst e;rw[hg]at hn;cases hn),fun c am hn=>?_,r5,r6,r7⟩
  ·by_cases e:c=g
   ·subst e;simp only[PH.put,ZT]at h;cases h;simpa using r2
   ·simp only[PH.put,ZV e]at h;rw[r3 c e];exact hw _ _ h
  ·have:c≠g:=fun e=>by subst e;rw[hg]at hn;cases hn
   simp[PH.put,this,hn]
variable{x:Operand}{o:Oper}
def FO{t e:TypeId}{g off c:Nat}(hu:P.underlying t=some (.slice e))(hz:aV P e=some z)(ak:z.cells.size=size)(h1:z.cells.toList.all one=true)(aj:o.op=.call ⟨.builtin .clear,#[x],#[t]⟩)
  (hx:ev σ x=.v (.slice (some ⟨g,off,none⟩) n c)) (hg:H g=some (.cells cur e (0,0))) (ac:off+n*size<=cur.size) :
  bh σ o.op=true/\de P (execOp (bN σ) o) H fun sv H2=>∃ys,sv=.v (.tuple #[])/\ys.length=n*size/\H2=H.put g (.cells (br cur.toList off ys).toArray e (0,0)):=by
 constructor
 ·simp[bh,aj,fT,Op.operands,Call.operands,hx,ul]
 ·intro w hw;obtain⟨w2,ys,hl,aa,st⟩:=FY (ty:=o.type) (c:=c) hu hz ak h1 hg ac w hw;have:(execOp (bN σ) o).run P w=.ok (.value (.tuple #[])) w2:=by
   simp[execOp,aj,resolve,bN,hx,invoke,builtin,Result.andThen,aa]
  rw[this];exact⟨_,st,ys,rfl,hl,rfl⟩
def Ir{ol rem:List Oper}{t e:TypeId}{g off c:Nat}{I:PH}{l:List PH}(hd:Dj (I::sg g (.cells cur e (0,0))::l))(hu:C.P.underlying t=some (.slice e))(hz:aV C.P e=some z)(ac:z.cells.size=size)(h1:z.cells.toList.all one=true)
  (hw:aH ol σ o=some true) (aj:o.op=.call ⟨.builtin .clear,#[x],#[t]⟩) (hx:ev σ x=.v (.slice (some ⟨g,off,none⟩) n c)) (aa:off+n*size<=cur.size)
  (hk:∀ys,ys.length=n*size->Dj (I::sg g (.cells (br cur.toList off ys).toArray e (0,0))::l)->RC C (.op ol rem k) (σ.put o.dst (.v (.tuple #[]))) (U (I::sg g (.cells (br cur.toList off ys).toArray e (0,0))::l))):RC C (.op ol (o::rem) k) σ (U (I::sg g (.cells cur e (0,0))::l)):=by
 obtain⟨a,b⟩:=FO (σ:=σ) hu hz ac h1 aj hx (di hd _ _ (dL _ _)) aa;refine iU hw a (b.mono fun sv H2 ⟨ys,e1,e2,e3⟩=>?_);subst e1;subst e3;obtain⟨e1,ak⟩:=rR (o':=.cells (br cur.toList off ys).toArray e (0,0)) hd;rw[e1];exact hk ys e2 ak
def lB{ol:List Oper}{fr:iK}{str:ip}{r1 r2:List (Nat×Oper)}{i:Nat}{l':List (Nat×Oper)}{T:TypeId}{b off:Nat}{l:List Value}{v:Value}(hf:fr.j.contains i=true)(hJ:fr.J.le H)(hw:aH ol σ o=some true)(aa:o.op=.load T x)(hx:ev σ x=.v (.pointer (some ⟨b,off,none⟩)))(h:aP fr.J b off l)
  (hT:bk C.P T=some (some l.length)/\v=.agg l.toArray\/bk C.P T=some none/\l=[v]) (hk:NR C ol fr str r1 r2 l' k (σ.put o.dst (.v v)) H):NR C ol fr str r1 r2 ((i,o)::l') k σ H:=by
 obtain⟨h1,h2⟩:=qu (P:=C.P) aa hx h hT;exact .inr ⟨hw,by rw[show rp o.op=.val by rw[aa];rfl];exact⟨_,.inr (.inr ⟨hf,hJ,v,rfl,h1,h2⟩),hk⟩⟩
def EQ{α:Type}(S:α->St)(Q:α->PH->Prop){p:Prop}(h1:(∀a σ' H,Q a H->nm (S a).tm σ'.tm->rN (S a).bx σ'.bx->RC C (.st k) σ' H)->p)(h2:∀a H,Q a H->RC C (.st k) (S a) H):p:=
 h1 fun a _ H hq ht hb=>fD ht hb (h2 a H hq)
def zT{id:Nat}{ops:Array Oper}(hm:C.P.follows .mixedOrders=true)(κ:List Nat)(p q:Nat)(r1 r2:List Nat)(fr str fj sj:List Nat)(J:PH)(aa:Uw ops.toList κ p q r1 r2 ⟨fr,fj,J,[],[]⟩ ⟨str,sj,[]⟩=true)(hs:yS σ.bx=true)
  (h:NR C ops.toList ⟨fr,fj,J,[],[]⟩ ⟨str,sj,[]⟩ (pick ops.toList (p::q::r1)) (pick ops.toList (q::p::r2)) (pick ops.toList κ) k σ H):RC C (.st (.code (.region id ops true)::k)) σ H:=by
 have hk:=aa;simp only[Uw,aao,aaC,aay]at hk;obtain⟨⟨⟨⟨⟨⟨⟨⟨⟨⟨⟨⟨⟨⟨h1,h2⟩,aS⟩,aj⟩,ac⟩,aq⟩,ao⟩,an⟩,am⟩,ak⟩,a4⟩,a3⟩,a0⟩,a2⟩,a1⟩:=hk;have e1:=pV am;have e2:=pV ak;refine(show R C (.code (.region id ops true)::k) σ H from wD fun _ _ s g=>vB rfl hm aa (FK hs) ?_ s g);refine uF κ (fun i hi=>e1 i (aau _ hi)) (wJ (fun σ' H' hh=>⟨uF _ (fun i hi=>?_) hh.1,uF _ (fun i hi=>?_) hh.2⟩) _ h)
 ·rcases List.mem_cons.1 hi with rfl|hi
  ·exact aj
  ·exact e1 i (aav _ hi)
 ·rcases List.mem_cons.1 hi with rfl|hi
  ·exact ac
  ·exact e2 i (aav _ hi)
end
def dF{C:Cx}{k kx:List Item}{σ:St}{H:PH}{α:Type}{c:Code}(μ:α->Nat)(S:α->St)(Q E:α->PH->Prop)(a0:α)(hs:nm (S a0).tm σ.tm)(hb:rN (S a0).bx σ.bx)(hq:Q a0 H)
  (h:∀a H,Q a H->(∀a' σ1 H',μ a'<μ a->nm (S a').tm σ1.tm->rN (S a').bx σ1.bx->Q a' H'->RC C (.st (.inLoop c::k)) σ1 H')->(∀a' σ1 H',nm (S a').tm σ1.tm->rN (S a').bx σ1.bx->E a' H'->RC C (.st kx) σ1 H')->RC C (.st (.code c::.inLoop c::k)) (S a) H)
  (rest:∀a H,E a H->RC C (.st kx) (S a) H):RC C (.st (.code (.loop c)::k)) σ H:=
 aA μ S Q a0 hs hb hq fun a H hq hn=>h a H hq hn fun a' σ1 H' h1 h2 h3=>fD h1 h2 (rest a' H' h3)
end Go.Sx
namespace Go.Proofs.YtfaclfkpnmcmlaaGreatDoor
open Go Go.Sx Dg Syn
def TW:aO Tryz.prog 278:=⟨_,Tryz.func278,rfl,rfl⟩
def UX:aO Tryz.prog 277:=⟨_,Tryz.func277,rfl,rfl⟩
def f6(v va vc:Value)(x:Nat×Nat):St:=⟨dn 178 [(0,.v v),(1,.v va),(4,.v vc),(12,.v (iv x.1)),(13,.v (iv x.2))],[]⟩
def y6(v va vc:Value)(x:Nat×Nat):St:=⟨dn 90 [(0,.v v),(1,.v va),(4,.v vc),(11,.v (iv x.1)),(12,.v (iv x.2))],[]⟩
theorem acq{I A:PH}{v vc:Value}{d:Array Nd}{a b pivot:Nat}(hA:bQ I A v d.toList)(hc:mC bm dp vc)(d3:a<=pivot)(ds:pivot<b)(hb:b<=d.size)(hn:d.size<=aN):
  aK Tryz.prog 278 #[v,iv a,iv b,iv pivot,vc] I [A] fun r I2 qs=>∃A2,qs=[A2]/\bQ I2 A2 v (Sort.partition dp d a b pivot).2.2.toList/\r=.tuple #[iv (Sort.partition dp d a b pivot).1,.bool (Sort.partition dp d a b pivot).2.1]:=by
 intro hd;unfold aN at hn;obtain⟨f,fst,cap,rfl,gf,cf⟩:=id hc;obtain⟨g0,vk,rfl⟩:=Ow.addr hA ab;refine ah 178 Tryz.func278 fun w0=>?_
 try simp only[iv]
 have w1:IntKind.i64.wrap ((a:Int)+1)=((a+1:Nat):Int):=by
  have e0:(a:Int)+1=((a+1:Nat):Int):=by omega
  rw[e0];exact wrap64 ab
 have w2:IntKind.i64.wrap ((b:Int)-1)=((b-1:Nat):Int):=by rw[iX ab];omega
 refine aT ?_;obtain⟨g,cp,cur,ci,cj,ev,rfl,a0,ri,rj,li,lj,ki,kj,am⟩:=Ow.two hA (fun{I} c a h=>bm.len c a h) (fun{I J c a} h k=>bm.le h k) (i:=a) (j:=pivot) ab ab;simp only[Value.slice.injEq,ZW,Addr.mk.injEq,abC,acT]at ev;obtain⟨eg,ek⟩:=ev;subst eg;subst ek;have mi:(a+1)*7<=d.size*7:=aaQ _ ab;have mj:(pivot+1)*7<=d.size*7:=aaQ _ ab;refine eP [0,1,2,3,4,5,6,7,8,9,10,11,12,13,14,15] [7,11] [] ?_;refine dS ?_;refine⟨ab,?_⟩;refine W7 (l:=cj) (v:=.agg cj.toArray) rfl (cellsU hd (.tail _ (.head _)) (by simpa using kj)) (.inl ⟨by rw[lj];exact cL,rfl⟩) ?_;refine dS ?_;refine⟨ab,?_⟩;refine W7 (l:=ci) (v:=.agg ci.toArray) rfl (cellsU hd (.tail _ (.head _)) (by simpa using ki)) (.inl ⟨by rw[li];exact cL,rfl⟩) ?_;refine dS ?_;refine⟨ab,?_⟩;refine aQ hd rfl rfl rfl rfl rfl (ag (bm.ones rj)) (by rw[lj];exact aU) (by rw[lj];omega) fun a3=>?_;refine dS ?_;refine⟨ab,?_⟩;refine aQ a3 rfl rfl rfl rfl rfl (ag (bm.ones ri)) (by rw[li];exact aU) (by rw[li];simp[aX];omega) fun d2=>?_;refine aw ?_;have c3:=am I (abW _);have a6:(Sort.swp d a pivot).size=d.size:=(al _ _ _).trans rfl;obtain⟨d1,ed1⟩:∃d1,d1=Sort.swp d a pivot:=⟨_,rfl⟩;rw[<-ed1]at c3 a6;apply RG;simp only[go_sem,iv,w1,w2];have dk:=c3
 apply dF (fun x=>(b-1)+2-x) (fun x=>f6 (.slice (some ⟨g0,0,none⟩) d.size vk) (iv a) (.func (.func f) fst cap) (x,(b-1))) (fun x H=>∃Jz Az,H=U [Jz,Az]/\Dj [Jz,Az]/\I.le Jz/\bQ Jz Az (.slice (some ⟨g0,0,none⟩) d.size vk) d1.toList/\(a+1)<=x/\x<=(b-1)+2/\Sort.scanUp (fun y=>dp y d1[a]!) d1 (b-1) x=Sort.scanUp (fun y=>dp y d1[a]!) d1 (b-1) (a+1)) (fun x H=>∃Jz Az,H=U [Jz,Az]/\Dj [Jz,Az]/\I.le Jz/\bQ Jz Az (.slice (some ⟨g0,0,none⟩) d.size vk) d1.toList/\(a+1)<=x/\x<=(b-1)+2/\x=Sort.scanUp (fun y=>dp y d1[a]!) d1 (b-1) (a+1)) (a+1)
 ·exact bM
 ·exact(by simp only[go_sem,aa6,f6])
 ·exact⟨I,_,rfl,‹_›,abW _,‹_›,ZR _,ab,rfl⟩
 ·rintro x H ⟨Jz,Az,rfl,aq,aj,aS,bc,a2,ak⟩ an ac;simp only[f6];rcases aaf (b-1) x with cr|cc
  ·have ao:decide (((x:Nat):Int)<=(((b-1):Nat):Int))=false:=abT ab;rw[Sort.scanUp,ZV (by simp;omega)]at ak;have a5:=ak;refine dP ?_;refine eP [0,1,2,3,4,5,6,7,8,9,10,11,12,13,14,15] [8,12] [] ?_;apply au;simp only[go_sem,iv,ao];refine aw ?_;apply bL 3;simp only[go_sem,iv];exact ac x _ _ bM (by simp only[go_sem,aa6,f6]) ⟨Jz,Az,rfl,aq,aj,aS,bc,a2,a5⟩
  ·have ao:decide (((x:Nat):Int)<=(((b-1):Nat):Int))=true:=abU ab;rw[Sort.scanUp]at ak;have p1:IntKind.i64.wrap ((x:Int)+1)=((x+1:Nat):Int):=by
    have e0:(x:Int)+1=((x+1:Nat):Int):=by omega
    rw[e0];exact wrap64 ab
   obtain⟨g,cp,cur,ci,cj,ev,rfl,a0,ri,rj,li,lj,ki,kj,am⟩:=Ow.two aS (fun{I} c a h=>bm.len c a h) (fun{I J c a} h k=>bm.le h k) (i:=x) (j:=a) ab ab;rw[a6]at ev a0;simp only[Value.slice.injEq,ZW,Addr.mk.injEq,abC,acT]at ev;obtain⟨eg,ek⟩:=ev;subst eg;subst ek;refine dP ?_;refine eP [0,1,2,3,4,5,6,7,8,9,10,11,12,13,14,15] [8,12] [] ?_;apply au;simp only[go_sem,iv,ao];refine⟨ab,?_⟩;refine W7 (l:=ci) (v:=.agg ci.toArray) rfl (cellsU aq (.tail _ (.head _)) (by simpa using ki)) (.inl ⟨by rw[li];exact cL,rfl⟩) ?_;apply au;simp only[go_sem,iv,ao];refine⟨ab,?_⟩;refine W7 (l:=cj) (v:=.agg cj.toArray) rfl (cellsU aq (.tail _ (.head _)) (by simpa using kj)) (.inl ⟨by rw[lj];exact cL,rfl⟩) ?_;apply au;simp only[go_sem,iv,ao];refine aE aq [0] [] [_] rfl gf rfl (cf Jz _ _ _ _ ri rj) fun v Jy qs a1 aa hq=>?_;obtain⟨rfl,z,rfl,hz⟩:=hq;simp only[Z3]at a1 |-;refine dS ?_;refine aw ?_;cases hl:dp d1[x]! d1[a]! with
   |true=>
    rw[hl]at hz;rw[aaq (by simp[hl];omega)]at ak;apply RG;simp only[go_sem,iv,hz,abQ,p1];exact an (x+1) _ _ ab bM (by simp only[go_sem,aa6,f6]) ⟨Jy,_,rfl,a1,abV aj aa,bQ.le aS aa,ab,ab,ak⟩
   |false=>
    rw[hl]at hz;rw[ZV (by simp[hl])]at ak;apply bL 3;simp only[go_sem,iv,hz,abK];exact ac (x) _ _ bM (by simp only[go_sem,aa6,f6]) ⟨Jy,_,rfl,a1,abV aj aa,bQ.le aS aa,bc,a2,ak⟩
 rintro i H ⟨I2,A2,rfl,d0,cb,ec,dA,dy,c9⟩;simp only[f6];refine dP ?_;apply dF (fun x=>x) (fun x=>f6 (.slice (some ⟨g0,0,none⟩) d.size vk) (iv a) (.func (.func f) fst cap) (i,x)) (fun x H=>∃Jz Az,H=U [Jz,Az]/\Dj [Jz,Az]/\I2.le Jz/\bQ Jz Az (.slice (some ⟨g0,0,none⟩) d.size vk) d1.toList/\x<=(b-1)/\Sort.scanDown (fun y=>!dp y d1[a]!) d1 i x=Sort.scanDown (fun y=>!dp y d1[a]!) d1 i (b-1)) (fun x H=>∃Jz Az,H=U [Jz,Az]/\Dj [Jz,Az]/\I2.le Jz/\bQ Jz Az (.slice (some ⟨g0,0,none⟩) d.size vk) d1.toList/\x<=(b-1)/\x=Sort.scanDown (fun y=>!dp y d1[a]!) d1 i (b-1)) (b-1)
 ·exact bM
 ·exact(by simp only[go_sem,aa6,f6])
 ·exact⟨I2,_,rfl,‹_›,abW _,‹_›,ZR _,rfl⟩
 ·rintro x H ⟨Jz,Az,rfl,aq,aj,aS,a2,ak⟩ an ac;simp only[f6];rcases aaf x i with cr|cc
  ·have ao:decide (((i:Nat):Int)<=((x:Nat):Int))=false:=abT ab;have a5:x=Sort.scanDown (fun y=>!dp y d1[a]!) d1 i (b-1):=by
    rw[<-ak];cases x with
    |zero=>rw[Sort.scanDown]
    |succ x=>rw[Sort.scanDown,ZV (by simp;omega)]
   refine dP ?_;refine eP [0,1,2,3,4,5,6,7,8,9,10,11,12,13,14,15,16] [8,12] [] ?_;apply au;simp only[go_sem,iv,ao];refine aw ?_;apply bL 3;simp only[go_sem,iv];exact ac x _ _ bM (by simp only[go_sem,aa6,f6]) ⟨Jz,Az,rfl,aq,aj,aS,a2,a5⟩
  ·have ao:decide (((i:Nat):Int)<=((x:Nat):Int))=true:=abU ab;obtain⟨x,rfl⟩:∃x',x=x'+1:=⟨x-1,ab⟩;have p1:=mG (j:=x) ab;rw[Sort.scanDown]at ak;obtain⟨g,cp,cur,ci,cj,ev,rfl,a0,ri,rj,li,lj,ki,kj,am⟩:=Ow.two aS (fun{I} c a h=>bm.len c a h) (fun{I J c a} h k=>bm.le h k) (i:=x+1) (j:=a) ab ab;rw[a6]at ev a0;simp only[Value.slice.injEq,ZW,Addr.mk.injEq,abC,acT]at ev;obtain⟨eg,ek⟩:=ev;subst eg;subst ek;refine dP ?_;refine eP [0,1,2,3,4,5,6,7,8,9,10,11,12,13,14,15,16] [8,12] [] ?_;apply au;simp only[go_sem,iv,ao];refine⟨ab,?_⟩;refine W7 (l:=ci) (v:=.agg ci.toArray) rfl (cellsU aq (.tail _ (.head _)) (by simpa using ki)) (.inl ⟨by rw[li];exact cL,rfl⟩) ?_;apply au;simp only[go_sem,iv,ao];refine⟨ab,?_⟩;refine W7 (l:=cj) (v:=.agg cj.toArray) rfl (cellsU aq (.tail _ (.head _)) (by simpa using kj)) (.inl ⟨by rw[lj];exact cL,rfl⟩) ?_;apply au;simp only[go_sem,iv,ao];refine aE aq [0] [] [_] rfl gf rfl (cf Jz _ _ _ _ ri rj) fun v Jy qs a1 aa hq=>?_;obtain⟨rfl,z,rfl,hz⟩:=hq;simp only[Z3]at a1 |-;refine dS ?_;refine aw ?_;cases hl:dp d1[x+1]! d1[a]! with
   |true=>
    rw[hl]at hz;rw[ZV (by simp[hl])]at ak;apply bL 3;simp only[go_sem,iv,hz,abQ];exact ac (x+1) _ _ bM (by simp only[go_sem,aa6,f6]) ⟨Jy,_,rfl,a1,abV aj aa,bQ.le aS aa,a2,ak⟩
   |false=>
    rw[hl]at hz;rw[aaq (by simp[hl];omega)]at ak;apply RG;simp only[go_sem,iv,hz,abK,p1];exact an x _ _ ab bM (by simp only[go_sem,aa6,f6]) ⟨Jy,_,rfl,a1,abV aj aa,bQ.le aS aa,ab,ak⟩
 rintro j H ⟨I3,A3,rfl,bb,ca,c2,dw,c6⟩;simp only[f6];have hP:Sort.partition dp d a b pivot=if i>j then (j,true,Sort.swp d1 j a)else ((Sort.partLoop dp a (i+1) (j-1) (Sort.swp d1 i j)).1,false,Sort.swp (Sort.partLoop dp a (i+1) (j-1) (Sort.swp d1 i j)).2 (Sort.partLoop dp a (i+1) (j-1) (Sort.swp d1 i j)).1 a):=by
  unfold Sort.partition;simp only[<-ed1,<-c9,<-c6]
 have k3:=abV cb ca;by_cases c0:i>j
 ·have ba:decide ((i:Int)>(j:Int))=true:=abU ab;rw[aaq c0]at hP;rw[hP];apply RG;simp only[go_sem,iv,ba];obtain⟨g,cp,cur,ci,cj,ev,rfl,a0,ri,rj,li,lj,ki,kj,am⟩:=Ow.two c2 (fun{I} c a h=>bm.len c a h) (fun{I J c a} h k=>bm.le h k) (i:=j) (j:=a) ab ab;rw[a6]at ev a0;simp only[Value.slice.injEq,ZW,Addr.mk.injEq,abC,acT]at ev;obtain⟨eg,ek⟩:=ev;subst eg;subst ek;have mi:(j+1)*7<=d.size*7:=aaQ _ ab;have mj:(a+1)*7<=d.size*7:=aaQ _ ab;refine eP [0,1,2,3,4,5,6,7,8,9,10,11,12,13,14,15] [7,11] [] ?_;refine dS ?_;refine⟨ab,?_⟩;refine W7 (l:=cj) (v:=.agg cj.toArray) rfl (cellsU bb (.tail _ (.head _)) (by simpa using kj)) (.inl ⟨by rw[lj];exact cL,rfl⟩) ?_;refine dS ?_;refine⟨ab,?_⟩;refine W7 (l:=ci) (v:=.agg ci.toArray) rfl (cellsU bb (.tail _ (.head _)) (by simpa using ki)) (.inl ⟨by rw[li];exact cL,rfl⟩) ?_;refine dS ?_;refine⟨ab,?_⟩;refine aQ bb rfl rfl rfl rfl rfl (ag (bm.ones rj)) (by rw[lj];exact aU) (by rw[lj];omega) fun a3=>?_;refine dS ?_;refine⟨ab,?_⟩;refine aQ a3 rfl rfl rfl rfl rfl (ag (bm.ones ri)) (by rw[li];exact aU) (by rw[li];simp[aX];omega) fun ct=>?_;refine aw ?_;have b1:=am I3 (abW _);have b2:(Sort.swp d1 j a).size=d.size:=(al _ _ _).trans a6;refine dP ?_;exact af rfl ct (r:=[iv j,.bool true]) rfl k3 ⟨_,rfl,b1,rfl⟩
 have ba:decide ((i:Int)>(j:Int))=false:=abT ab;rw[ZV c0]at hP;rw[hP];clear hP;apply RG;simp only[go_sem,iv,ba];obtain⟨g,cp,cur,ci,cj,ev,rfl,a0,ri,rj,li,lj,ki,kj,am⟩:=Ow.two c2 (fun{I} c a h=>bm.len c a h) (fun{I J c a} h k=>bm.le h k) (i:=i) (j:=j) ab ab;rw[a6]at ev a0;simp only[Value.slice.injEq,ZW,Addr.mk.injEq,abC,acT]at ev;obtain⟨eg,ek⟩:=ev;subst eg;subst ek;have mi:(i+1)*7<=d.size*7:=aaQ _ ab;have mj:(j+1)*7<=d.size*7:=aaQ _ ab;refine eP [0,1,2,3,4,5,6,7,8,9,10,11,12,13,14,15] [7,11] [] ?_;refine dS ?_;refine⟨ab,?_⟩;refine W7 (l:=cj) (v:=.agg cj.toArray) rfl (cellsU bb (.tail _ (.head _)) (by simpa using kj)) (.inl ⟨by rw[lj];exact cL,rfl⟩) ?_;refine dS ?_;refine⟨ab,?_⟩;refine W7 (l:=ci) (v:=.agg ci.toArray) rfl (cellsU bb (.tail _ (.head _)) (by simpa using ki)) (.inl ⟨by rw[li];exact cL,rfl⟩) ?_;refine dS ?_;refine⟨ab,?_⟩;refine aQ bb rfl rfl rfl rfl rfl (ag (bm.ones rj)) (by rw[lj];exact aU) (by rw[lj];omega) fun a3=>?_;refine dS ?_;refine⟨ab,?_⟩;refine aQ a3 rfl rfl rfl rfl rfl (ag (bm.ones ri)) (by rw[li];exact aU) (by rw[li];simp[aX];omega) fun ct=>?_;refine aw ?_;have b1:=am I3 (abW _);have b2:(Sort.swp d1 i j).size=d.size:=(al _ _ _).trans a6;obtain⟨d4,ed4⟩:∃d4,d4=Sort.swp d1 i j:=⟨_,rfl⟩;rw[<-ed4]at b1 b2 |-;have w3:IntKind.i64.wrap ((i:Int)+1)=((i+1:Nat):Int):=by
  have e0:(i:Int)+1=((i+1:Nat):Int):=by omega
  rw[e0];exact wrap64 ab
 have w4:IntKind.i64.wrap ((j:Int)-1)=((j-1:Nat):Int):=by rw[iX ab];omega
 apply RG;simp only[go_sem,iv,w3,w4];apply dF (fun x=>x.2+3-x.1) (fun x=>f6 (.slice (some ⟨g0,0,none⟩) d.size vk) (iv a) (.func (.func f) fst cap) x) (fun x H=>∃I5 A5 d5,H=U [I5,A5]/\Dj [I5,A5]/\I3.le I5/\d5.size=d.size/\bQ I5 A5 (.slice (some ⟨g0,0,none⟩) d.size vk) d5.toList/\1<=x.1/\x.1<=x.2+2/\x.2<=b-1/\Sort.partLoop dp a x.1 x.2 d5=Sort.partLoop dp a (i+1) (j-1) d4) (fun x H=>∃I5 A5,H=U [I5,A5]/\Dj [I5,A5]/\I3.le I5/\(Sort.partLoop dp a (i+1) (j-1) d4).2.size=d.size/\bQ I5 A5 (.slice (some ⟨g0,0,none⟩) d.size vk) (Sort.partLoop dp a (i+1) (j-1) d4).2.toList/\x.2<=b-1/\x.2=(Sort.partLoop dp a (i+1) (j-1) d4).1) (i+1,j-1)
 ·exact bM
 ·exact(by simp only[go_sem,aa6,f6])
 ·exact⟨I3,_,d4,rfl,ct,abW _,b2,b1,by simp only;omega,by simp only;omega,by simp only;omega,rfl⟩
 ·rintro⟨i5,j5⟩ H ⟨I5,A5,d5,rfl,dT,b6,bd,eb,da,cm,c8,a4⟩ a7 a9;simp only at da cm c8 a4;simp only[f6];refine dP ?_;apply dF (fun x=>j5+2-x) (fun x=>f6 (.slice (some ⟨g0,0,none⟩) d.size vk) (iv a) (.func (.func f) fst cap) (x,j5)) (fun x H=>∃Jz Az,H=U [Jz,Az]/\Dj [Jz,Az]/\I5.le Jz/\bQ Jz Az (.slice (some ⟨g0,0,none⟩) d.size vk) d5.toList/\i5<=x/\x<=j5+2/\Sort.scanUp (fun y=>dp y d5[a]!) d5 j5 x=Sort.scanUp (fun y=>dp y d5[a]!) d5 j5 i5) (fun x H=>∃Jz Az,H=U [Jz,Az]/\Dj [Jz,Az]/\I5.le Jz/\bQ Jz Az (.slice (some ⟨g0,0,none⟩) d.size vk) d5.toList/\i5<=x/\x<=j5+2/\x=Sort.scanUp (fun y=>dp y d5[a]!) d5 j5 i5) i5
  ·exact bM
  ·exact(by simp only[go_sem,aa6,f6])
  ·exact⟨I5,_,rfl,‹_›,abW _,‹_›,ZR _,ab,rfl⟩
  ·rintro x H ⟨Jz,Az,rfl,aq,aj,aS,bc,a2,ak⟩ an ac;simp only[f6];rcases aaf j5 x with cr|cc
   ·have ao:decide (((x:Nat):Int)<=((j5:Nat):Int))=false:=abT ab;rw[Sort.scanUp,ZV (by simp;omega)]at ak;have a5:=ak;refine dP ?_;refine eP [0,1,2,3,4,5,6,7,8,9,10,11,12,13,14,15] [8,12] [] ?_;apply au;simp only[go_sem,iv,ao];refine aw ?_;apply bL 3;simp only[go_sem,iv];exact ac x _ _ bM (by simp only[go_sem,aa6,f6]) ⟨Jz,Az,rfl,aq,aj,aS,bc,a2,a5⟩
   ·have ao:decide (((x:Nat):Int)<=((j5:Nat):Int))=true:=abU ab;rw[Sort.scanUp]at ak;have p1:IntKind.i64.wrap ((x:Int)+1)=((x+1:Nat):Int):=by
     have e0:(x:Int)+1=((x+1:Nat):Int):=by omega
     rw[e0];exact wrap64 ab
    obtain⟨g,cp,cur,ci,cj,ev,rfl,a0,ri,rj,li,lj,ki,kj,am⟩:=Ow.two aS (fun{I} c a h=>bm.len c a h) (fun{I J c a} h k=>bm.le h k) (i:=x) (j:=a) ab ab;rw[bd]at ev a0;simp only[Value.slice.injEq,ZW,Addr.mk.injEq,abC,acT]at ev;obtain⟨eg,ek⟩:=ev;subst eg;subst ek;refine dP ?_;refine eP [0,1,2,3,4,5,6,7,8,9,10,11,12,13,14,15] [8,12] [] ?_;apply au;simp only[go_sem,iv,ao];refine⟨ab,?_⟩;refine W7 (l:=ci) (v:=.agg ci.toArray) rfl (cellsU aq (.tail _ (.head _)) (by simpa using ki)) (.inl ⟨by rw[li];exact cL,rfl⟩) ?_;apply au;simp only[go_sem,iv,ao];refine⟨ab,?_⟩;refine W7 (l:=cj) (v:=.agg cj.toArray) rfl (cellsU aq (.tail _ (.head _)) (by simpa using kj)) (.inl ⟨by rw[lj];exact cL,rfl⟩) ?_;apply au;simp only[go_sem,iv,ao];refine aE aq [0] [] [_] rfl gf rfl (cf Jz _ _ _ _ ri rj) fun v Jy qs a1 aa hq=>?_;obtain⟨rfl,z,rfl,hz⟩:=hq;simp only[Z3]at a1 |-;refine dS ?_;refine aw ?_;cases hl:dp d5[x]! d5[a]! with
    |true=>
     rw[hl]at hz;rw[aaq (by simp[hl];omega)]at ak;apply RG;simp only[go_sem,iv,hz,abQ,p1];exact an (x+1) _ _ ab bM (by simp only[go_sem,aa6,f6]) ⟨Jy,_,rfl,a1,abV aj aa,bQ.le aS aa,ab,ab,ak⟩
    |false=>
     rw[hl]at hz;rw[ZV (by simp[hl])]at ak;apply bL 3;simp only[go_sem,iv,hz,abK];exact ac (x) _ _ bM (by simp only[go_sem,aa6,f6]) ⟨Jy,_,rfl,a1,abV aj aa,bQ.le aS aa,bc,a2,ak⟩
  rintro i6 H ⟨I6,A6,rfl,dI,b5,ea,dx,hi6b,cn⟩;simp only[f6];refine dP ?_;apply dF (fun x=>x) (fun x=>f6 (.slice (some ⟨g0,0,none⟩) d.size vk) (iv a) (.func (.func f) fst cap) (i6,x)) (fun x H=>∃Jz Az,H=U [Jz,Az]/\Dj [Jz,Az]/\I6.le Jz/\bQ Jz Az (.slice (some ⟨g0,0,none⟩) d.size vk) d5.toList/\x<=j5/\Sort.scanDown (fun y=>!dp y d5[a]!) d5 i6 x=Sort.scanDown (fun y=>!dp y d5[a]!) d5 i6 j5) (fun x H=>∃Jz Az,H=U [Jz,Az]/\Dj [Jz,Az]/\I6.le Jz/\bQ Jz Az (.slice (some ⟨g0,0,none⟩) d.size vk) d5.toList/\x<=j5/\x=Sort.scanDown (fun y=>!dp y d5[a]!) d5 i6 j5) j5
  ·exact bM
  ·exact(by simp only[go_sem,aa6,f6])
  ·exact⟨I6,_,rfl,‹_›,abW _,‹_›,ZR _,rfl⟩
  ·rintro x H ⟨Jz,Az,rfl,aq,aj,aS,a2,ak⟩ an ac;simp only[f6];rcases aaf x i6 with cr|cc
   ·have ao:decide (((i6:Nat):Int)<=((x:Nat):Int))=false:=abT ab;have a5:x=Sort.scanDown (fun y=>!dp y d5[a]!) d5 i6 j5:=by
     rw[<-ak];cases x with
     |zero=>rw[Sort.scanDown]
     |succ x=>rw[Sort.scanDown,ZV (by simp;omega)]
    refine dP ?_;refine eP [0,1,2,3,4,5,6,7,8,9,10,11,12,13,14,15,16] [8,12] [] ?_;apply au;simp only[go_sem,iv,ao];refine aw ?_;apply bL 3;simp only[go_sem,iv];exact ac x _ _ bM (by simp only[go_sem,aa6,f6]) ⟨Jz,Az,rfl,aq,aj,aS,a2,a5⟩
   ·have ao:decide (((i6:Nat):Int)<=((x:Nat):Int))=true:=abU ab;obtain⟨x,rfl⟩:∃x',x=x'+1:=⟨x-1,ab⟩;have p1:=mG (j:=x) ab;rw[Sort.scanDown]at ak;obtain⟨g,cp,cur,ci,cj,ev,rfl,a0,ri,rj,li,lj,ki,kj,am⟩:=Ow.two aS (fun{I} c a h=>bm.len c a h) (fun{I J c a} h k=>bm.le h k) (i:=x+1) (j:=a) ab ab;rw[bd]at ev a0;simp only[Value.slice.injEq,ZW,Addr.mk.injEq,abC,acT]at ev;obtain⟨eg,ek⟩:=ev;subst eg;subst ek;refine dP ?_;refine eP [0,1,2,3,4,5,6,7,8,9,10,11,12,13,14,15,16] [8,12] [] ?_;apply au;simp only[go_sem,iv,ao];refine⟨ab,?_⟩;refine W7 (l:=ci) (v:=.agg ci.toArray) rfl (cellsU aq (.tail _ (.head _)) (by simpa using ki)) (.inl ⟨by rw[li];exact cL,rfl⟩) ?_;apply au;simp only[go_sem,iv,ao];refine⟨ab,?_⟩;refine W7 (l:=cj) (v:=.agg cj.toArray) rfl (cellsU aq (.tail _ (.head _)) (by simpa using kj)) (.inl ⟨by rw[lj];exact cL,rfl⟩) ?_;apply au;simp only[go_sem,iv,ao];refine aE aq [0] [] [_] rfl gf rfl (cf Jz _ _ _ _ ri rj) fun v Jy qs a1 aa hq=>?_;obtain⟨rfl,z,rfl,hz⟩:=hq;simp only[Z3]at a1 |-;refine dS ?_;refine aw ?_;cases hl:dp d5[x+1]! d5[a]! with
    |true=>
     rw[hl]at hz;rw[ZV (by simp[hl])]at ak;apply bL 3;simp only[go_sem,iv,hz,abQ];exact ac (x+1) _ _ bM (by simp only[go_sem,aa6,f6]) ⟨Jy,_,rfl,a1,abV aj aa,bQ.le aS aa,a2,ak⟩
    |false=>
     rw[hl]at hz;rw[aaq (by simp[hl];omega)]at ak;apply RG;simp only[go_sem,iv,hz,abK,p1];exact an x _ _ ab bM (by simp only[go_sem,aa6,f6]) ⟨Jy,_,rfl,a1,abV aj aa,bQ.le aS aa,ab,ak⟩
  rintro j7 H ⟨I7,A7,rfl,b0,b4,c1,dv,cl⟩;simp only[f6];rw[Sort.partLoop_eq,<-cn,<-cl]at a4;have cA:=abV b6 (abV b5 b4);by_cases bx:i6>j7
  ·have ba:decide ((i6:Int)>(j7:Int))=true:=abU ab;rw[aaq bx]at a4;apply bL 8;simp only[go_sem,iv,ba];exact a9 (i6,j7) _ _ bM (by simp only[go_sem,aa6,f6]) ⟨I7,A7,rfl,b0,cA,by rw[<-a4];exact bd,by rw[<-a4];exact c1,by simp only;omega,by rw[<-a4]⟩
  have ba:decide ((i6:Int)>(j7:Int))=false:=abT ab;rw[ZV bx]at a4;apply RG;simp only[go_sem,iv,ba];obtain⟨g,cp,cur,ci,cj,ev,rfl,a0,ri,rj,li,lj,ki,kj,am⟩:=Ow.two c1 (fun{I} c a h=>bm.len c a h) (fun{I J c a} h k=>bm.le h k) (i:=i6) (j:=j7) ab ab;rw[bd]at ev a0;simp only[Value.slice.injEq,ZW,Addr.mk.injEq,abC,acT]at ev;obtain⟨eg,ek⟩:=ev;subst eg;subst ek;have mi:(i6+1)*7<=d.size*7:=aaQ _ ab;have mj:(j7+1)*7<=d.size*7:=aaQ _ ab;refine eP [0,1,2,3,4,5,6,7,8,9,10,11,12,13,14,15] [7,11] [] ?_;refine dS ?_;refine⟨ab,?_⟩;refine W7 (l:=cj) (v:=.agg cj.toArray) rfl (cellsU b0 (.tail _ (.head _)) (by simpa using kj)) (.inl ⟨by rw[lj];exact cL,rfl⟩) ?_;refine dS ?_;refine⟨ab,?_⟩;refine W7 (l:=ci) (v:=.agg ci.toArray) rfl (cellsU b0 (.tail _ (.head _)) (by simpa using ki)) (.inl ⟨by rw[li];exact cL,rfl⟩) ?_;refine dS ?_;refine⟨ab,?_⟩;refine aQ b0 rfl rfl rfl rfl rfl (ag (bm.ones rj)) (by rw[lj];exact aU) (by rw[lj];omega) fun a3=>?_;refine dS ?_;refine⟨ab,?_⟩;refine aQ a3 rfl rfl rfl rfl rfl (ag (bm.ones ri)) (by rw[li];exact aU) (by rw[li];simp[aX];omega) fun dc=>?_;refine aw ?_;have dj:=am I7 (abW _);have c4:(Sort.swp d5 i6 j7).size=d.size:=(al _ _ _).trans bd;have w8:IntKind.i64.wrap ((i6:Int)+1)=((i6+1:Nat):Int):=by
   have e0:(i6:Int)+1=((i6+1:Nat):Int):=by omega
   rw[e0];exact wrap64 ab
  have w9:IntKind.i64.wrap ((j7:Int)-1)=((j7-1:Nat):Int):=by rw[iX ab];omega
  apply RG;simp only[go_sem,iv,w8,w9];exact a7 (i6+1,j7-1) _ _ dt bM (by simp only[go_sem,aa6,f6]) ⟨I7,_,_,rfl,dc,cA,c4,dj,by simp only;omega,by simp only;omega,by simp only;omega,a4⟩
 rintro⟨i9,j9⟩ H ⟨I9,A9,rfl,cs,b3,cB,dd,c7,bs⟩;simp only at c7 bs;simp only[f6];rw[<-bs];generalize (Sort.partLoop dp a (i+1) (j-1) d4).2=d9 at *;refine dP ?_;obtain⟨g,cp,cur,ci,cj,ev,rfl,a0,ri,rj,li,lj,ki,kj,am⟩:=Ow.two dd (fun{I} c a h=>bm.len c a h) (fun{I J c a} h k=>bm.le h k) (i:=j9) (j:=a) ab ab;rw[cB]at ev a0;simp only[Value.slice.injEq,ZW,Addr.mk.injEq,abC,acT]at ev;obtain⟨eg,ek⟩:=ev;subst eg;subst ek;have mi:(j9+1)*7<=d.size*7:=aaQ _ ab;have mj:(a+1)*7<=d.size*7:=aaQ _ ab;refine eP [0,1,2,3,4,5,6,7,8,9,10,11,12,13,14,15] [7,11] [] ?_;refine dS ?_;refine⟨ab,?_⟩;refine W7 (l:=cj) (v:=.agg cj.toArray) rfl (cellsU cs (.tail _ (.head _)) (by simpa using kj)) (.inl ⟨by rw[lj];exact cL,rfl⟩) ?_;refine dS ?_;refine⟨ab,?_⟩;refine W7 (l:=ci) (v:=.agg ci.toArray) rfl (cellsU cs (.tail _ (.head _)) (by simpa using ki)) (.inl ⟨by rw[li];exact cL,rfl⟩) ?_;refine dS ?_;refine⟨ab,?_⟩;refine aQ cs rfl rfl rfl rfl rfl (ag (bm.ones rj)) (by rw[lj];exact aU) (by rw[lj];omega) fun a3=>?_;refine dS ?_;refine⟨ab,?_⟩;refine aQ a3 rfl rfl rfl rfl rfl (ag (bm.ones ri)) (by rw[li];exact aU) (by rw[li];simp[aX];omega) fun cx=>?_;refine aw ?_;have cy:=am I9 (abW _);have c5:(Sort.swp d9 j9 a).size=d.size:=(al _ _ _).trans cB;refine dP ?_;exact af rfl cx (r:=[iv j9,.bool false]) rfl (abV k3 b3) ⟨_,rfl,cy,rfl⟩
end Go.Proofs.YtfaclfkpnmcmlaaGreatDoor
