import Derived.Test.YtfaclfkpnmcmlaaGreatDoorE10
import Derived.Test.YtfaclfkpnmcmlaaGreatDoorE11
import Derived.Test.YtfaclfkpnmcmlaaGreatDoorE17
import Derived.Test.YtfaclfkpnmcmlaaGreatDoorE18
set_option maxHeartbeats 8000000
set_option linter.all false
namespace Go.Proofs.YtfaclfkpnmcmlaaGreatDoor
open Go Go.Sx Dg Syn
variable{i size:Nat}{v:Value}{I A:PH}{e:TypeId}
def Ow.elem{α:Type}{R:PH->List Value->α->Prop}{l:List α}(h:Ow R e size I A v l)(hR:∀{I} c a,R I c a->c.length=size)(aj:∀{I J c a},R I c a->I.le J->R J c a){x:α}(hi:l[i]?=some x):
  ∃g cap cur c,v=.slice (some ⟨g,0,none⟩) l.length cap/\A=sg g (.cells cur e (0,0))/\l.length*size<=cur.size/\l.length<=cap/\R I c x/\c.length=size/\aP A g (i*size) c/\
   ∀J c' y,I.le J->R J c' y->Ow R e size J (sg g (.cells (br cur.toList (i*size) c').toArray e (0,0))) v (l.set i y):=by
 have ac:=(List.getElem?_eq_some_iff.1 hi).1;obtain⟨g,cap,cur,xs,ev,rfl,c1,c2,c3,c4,c5,ag⟩:=h.open' ab fun c a k=>hR c a k;have am:l.length*size<=cap*size:=aaQ _ c1;have al:(i+1)*size<=l.length*size:=aaQ _ ac;rw[aaP,abj]at al;have hg:=ag.get (fun c a k=>hR c a k) hi;have aa:=hR _ _ hg;have hc:=gQ (k:=0) (m:=size) (e:=e) (g:=g) (cur:=cur) (fun c a k=>hR c a k) ag ac ab c4 rfl ab;refine⟨g,cap,cur,_,ev,rfl,ab,c1,hg,aa,?_,?_⟩
 ·simpa[aa,aa4]using hc
 ·intro J c' y hJ hy;have ak:=hR _ _ hy;refine⟨br xs (i*size+0) c',?_,?_⟩
  ·rw[ev,aa0];exact oI c5 c1 c2 c3 c4 ab
  ·refine om (fun c a k=>hR c a k) (ag.mono fun _ _ h=>aj h hJ) ac rfl ab ?_;have:br ((xs.drop (i*size)).take size) 0 c'=c':=by
    rw[fE _ _ _ ab];simp[aa,ak]
   rw[this];exact hy
def Ow.part{α:Type}{R:PH->List Value->α->Prop}{l:List α}(h:Ow R e size I A v l)(hR:∀{I} c a,R I c a->c.length=size)(aj:∀{I J c a},R I c a->I.le J->R J c a){x:α}(hi:l[i]?=some x)(k m:Nat)(hk:k+m<=size):
  ∃g cap cur c,v=.slice (some ⟨g,0,none⟩) l.length cap/\A=sg g (.cells cur e (0,0))/\l.length*size<=cur.size/\R I c x/\c.length=size/\aP A g (i*size+k) ((c.drop k).take m)/\
   ∀J cs y,I.le J->k+cs.length<=size->R J (br c k cs) y->Ow R e size J (sg g (.cells (br cur.toList (i*size+k) cs).toArray e (0,0))) v (l.set i y):=by
 have aa:=(List.getElem?_eq_some_iff.1 hi).1;obtain⟨g,cap,cur,xs,ev,rfl,c1,c2,c3,c4,c5,ac⟩:=h.open' ab fun c a k=>hR c a k;have am:l.length*size<=cap*size:=aaQ _ c1;have ak:(i+1)*size<=l.length*size:=aaQ _ aa;rw[aaP,abj]at ak;have hg:=ac.get (fun c a k=>hR c a k) hi;have ag:=hR _ _ hg;have hc:=gQ (k:=k) (m:=m) (e:=e) (g:=g) (cur:=cur) (fun c a k=>hR c a k) ac aa ab c4 rfl hk;refine⟨g,cap,cur,_,ev,rfl,ab,hg,ag,hc,?_⟩;intro J cs y hJ al hy;refine⟨br xs (i*size+k) cs,?_,?_⟩
 ·rw[ev,aa0];exact oI c5 c1 c2 c3 c4 ab
 ·exact om (fun c a k=>hR c a k) (ac.mono fun _ _ h=>aj h hJ) aa rfl al hy
def eG.ones{c:List Value}{n:cO}(h:eG I c n):c.all Sx.one=true:=by
 obtain⟨a,k,e,_⟩:=h;rw[e];rfl
def mG{j:Nat}(h:j+1<2^62):IntKind.i64.wrap (((j+1:Nat):Int)-1)=(j:Int):=by
 have:=cH (a:=j+1) (b:=1) ab ab;rw[show ((1:Nat):Int)=1 from rfl]at this;rw[this];omega
variable{k:Nat}
def iX(h:k<2^61):IntKind.i64.wrap ((k:Int)-1)=(k:Int)-1:=by
 have:=cH (a:=k) (b:=1) ab ab
 rwa [show ((1:Nat):Int)=1 from rfl]at this
def Of:aO Tryz.prog 271:=⟨_,Tryz.func271,rfl,rfl⟩
def Bw:aO Tryz.prog 309:=⟨_,Tryz.func309,rfl,rfl⟩
def Ap:aO Tryz.prog 300:=⟨_,Tryz.func300,rfl,rfl⟩
def BD:aO Tryz.prog 299:=⟨_,Tryz.func299,rfl,rfl⟩
def QA:aO Tryz.prog 274:=⟨_,Tryz.func274,rfl,rfl⟩
def Pz:aO Tryz.prog 276:=⟨_,Tryz.func276,rfl,rfl⟩
def AU:aO Tryz.prog 224:=⟨_,Tryz.func224,rfl,rfl⟩
def P4:aO Tryz.prog 147:=⟨_,Tryz.func147,rfl,rfl⟩
def PC:aO Tryz.prog 280:=⟨_,Tryz.func280,rfl,rfl⟩
def GC:aO Tryz.prog 225:=⟨_,Tryz.func225,rfl,rfl⟩
def oM:∀(f x k:Nat),x<2^f->(Lib.bitLenAux f x<=k<->x<2^k)
 |0,x,k,h=>by
  have:x=0:=by simpa using h
  subst this;simp[Lib.bitLenAux,Nat.two_pow_pos]
 |f+1,x,k,h=>by
  rw[Lib.bitLenAux];by_cases hx:x=0
  ·subst hx;simp[Nat.two_pow_pos]
  ·rw[ZV hx];cases k with
   |zero=>simp;omega
   |succ k=>
    have:=oM f (x / 2) k (by rw[abd]at h;omega);rw[abd];omega
variable{n:Nat}
def Ib(h:n<2^64):Lib.bitLen n=Sort.bitsLen n:=by
 apply Nat.le_antisymm
 ·exact(oM 64 n _ h).2 (Sort.lt_two_pow_bitsLen n)
 ·exact(Sort.bitsLen_le_iff n _).2 ((oM 64 n _ h).1 (ZR _))
def Qw(hn:n<2^63)(H:PH):bO Tryz.prog 280 #[.int .u64 n] H fun v H2=>v=iv (Sort.bitsLen n)/\H2=H:=by
 intro w hw;refine(Any.bits_Len64 { Tryz.lays171 with } (n:Int) w ab ab).mono ?_;rintro e w2 ⟨rfl,rfl⟩;exact⟨H,dM.refl hw,by rw[Int.toNat_natCast,Ib ab];rfl,rfl⟩
def RZ(hn:n<2^63)(H:PH):bO Tryz.prog 225 #[.int .u64 n] H fun v H2=>v=iv (Sort.bitsLen n)/\H2=H:=by
 refine ah 8 Tryz.func225 fun w0=>?_;refine aT ?_;refine WZ rfl PC (Qw hn H) fun v H2 hv=>?_;obtain⟨rfl,rfl⟩:=hv;refine aT ?_;exact aJ (r:=[_]) rfl ⟨rfl,rfl⟩
def w4(l:List Nd):Prop:=∀(i j:Nat) (x y:Nd),i<j->l[i]?=some x->l[j]?=some y->dp y x=false
variable{l:List Nd}
def bQ.two{j:Nat}(h:bQ I A v l)(hs:w4 l)(aa:i<j)(hj:j<l.length):
  ∃g cap ci cj x y,v=.slice (some ⟨g,0,none⟩) l.length cap/\bm I ci x/\bm I cj y/\ci.length=7/\cj.length=7/\aP A g (i*7) ci/\aP A g (j*7) cj/\dp y x=false:=by
 obtain⟨x,hx⟩:∃x,l[i]?=some x:=⟨_,aak ab⟩;obtain⟨y,hy⟩:∃x,l[j]?=some x:=⟨_,aak hj⟩;obtain⟨g,cap,cur,ci,ev,rfl,_,_,a1,a2,a3,_⟩:=h.elem (fun{I} c a h=>bm.len c a h) (fun{I J c a} h k=>bm.le h k) hx;obtain⟨g2,cap2,cur2,cj,ev2,eA,_,_,b1,b2,b3,_⟩:=h.elem (fun{I} c a h=>bm.len c a h) (fun{I J c a} h k=>bm.le h k) hy;rw[ev]at ev2;cases ev2
 exact⟨g,cap,ci,cj,x,y,ev,a1,b1,a2,b2,a3,b3,hs i j x y aa hx hy⟩
def Cj(v va vb vc:Value)(i:Nat):St:=⟨dn 53 [(0,.v v),(1,.v va),(2,.v vb),(3,.v vc),(8,.v (iv i))],[]⟩
def GY(v va vb vc:Value)(i:Nat)(j:Nat):St:=⟨dn 53 [(0,.v v),(1,.v va),(2,.v vb),(3,.v vc),(8,.v (iv i)),(9,.v (iv j))],[]⟩
variable{b:Nat}{vc:Value}
theorem K7{a:Nat}(hA:bQ I A v l)(hc:mC bm dp vc)(hs:w4 l)(hb:b<=l.length)(hn:l.length<=aN)(ha:a<=l.length):
  aK Tryz.prog 271 #[v,iv a,iv b,vc] I [A] fun _ _ qs=>qs=[A]:=by
 intro hd;unfold aN at hn;obtain⟨f,first,cap,rfl,gf,cf⟩:=id hc;obtain⟨va,vk,rfl⟩:=hA.shape;have w1':IntKind.i64.wrap ((a:Int)+1)=((a+1:Nat):Int):=by rw[<-wrap64 (n:=a+1) ab];congr 1
 refine ah 53 Tryz.func271 fun w0=>?_
 try simp only[iv]
 apply RG;simp only[go_sem,w1'];refine aA (fun i=>b-i) (Cj (.slice va l.length vk) (iv a) (iv b) (.func (.func f) first cap)) (fun i H=>∃I2,H=U [I2,A]/\Dj [I2,A]/\I.le I2/\a+1<=i) (a+1) bM (by simp only[go_sem,aa6,Cj]) ⟨I,rfl,hd,abW _,ZR _⟩ ?_;rintro i H ⟨I2,rfl,ag,aa,a2⟩ ac;simp only[Cj];rcases aaf i b with aS|a1
 ·have al:decide ((i:Int)<(b:Int))=true:=by simp;omega
  have aq:IntKind.i64.wrap ((i:Int)+1)=((i+1:Nat):Int):=by rw[<-wrap64 (n:=i+1) ab];congr 1
  apply RG;simp only[go_sem,al,iv];refine aA (fun j=>j) (GY (.slice va l.length vk) (iv a) (iv b) (.func (.func f) first cap) i) (fun j H=>j=i/\H=U [I2,A]) i bM (by simp only[go_sem,aa6,GY]) ⟨rfl,rfl⟩ ?_;rintro j H ⟨rfl,rfl⟩ aj;simp only[GY];obtain⟨j,rfl⟩:∃j',j=j'+1:=⟨j-1,ab⟩;have ao:decide (((j+1:Nat):Int)>(a:Int))=true:=abU ab;have p1:=mG (j:=j) ab;obtain⟨g,cp,cj,cj1,x,y,ev,rj,rj1,lj,lj1,kj,kj1,an⟩:=bQ.two (bQ.le hA aa) hs (aba j) ab;cases ev
  refine dP ?_;refine eP [0,1,2,3,4,5,6,7,8,9,10,11,12,13,14,15,16] [8,13] [] ?_;apply au;simp only[go_sem,iv,ao,p1];refine⟨ab,?_⟩;refine W7 (l:=cj1) (v:=.agg cj1.toArray) rfl (cellsU ag (.tail _ (.head _)) (by simpa using kj1)) (.inl ⟨by rw[lj1];exact cL,rfl⟩) ?_;apply au;simp only[go_sem,iv,p1];refine⟨ab,?_⟩;refine W7 (l:=cj) (v:=.agg cj.toArray) rfl (cellsU ag (.tail _ (.head _)) (by simpa using kj)) (.inl ⟨by rw[lj];exact cL,rfl⟩) ?_;apply au;simp only[go_sem,iv,p1];refine aE ag [0] [] [_] rfl gf rfl (cf I2 _ _ _ _ rj1 rj) fun v I4 qs am ak hq=>?_;obtain⟨rfl,z,rfl,hz⟩:=hq;simp only[Z3]at am |-;rw[an]at hz;refine dS ?_;refine aw ?_;apply RG;simp only[go_sem,iv,hz,aq];exact ac (j+1+1) _ _ ab bM (by simp only[go_sem,aa6,Cj]) ⟨I4,rfl,am,abV aa ak,ab⟩
 ·have al:decide ((i:Int)<(b:Int))=false:=by simp;omega
  apply RG;simp only[go_sem,al,iv];exact d8 rfl ag (r:=[]) rfl aa (by exact rfl)
abbrev Cu(b n:Nat):PH:=sg b (.cells #[iv n] 3 (0,0))
theorem eh{a sb:Nat}(hA:bQ I A v l)(hc:mC bm dp vc)(hs:w4 l)(ha:a<b)(hb:b<l.length)(hn:l.length<=aN):
  aK Tryz.prog 309 #[v,iv a,iv b,pt sb,vc] I [A,Cu sb n] fun r _ qs=>qs=[A,Cu sb n]/\r=.tuple #[iv a,iv b]:=by
 intro hd;unfold aN at hn;obtain⟨f,fst,cap,rfl,gf,cf⟩:=id hc;obtain⟨g,cp,cj,ci,x,y,rfl,rj,ri,lj,li,kj,ki,ag⟩:=bQ.two hA hs ha hb;refine ah 32 Tryz.func309 fun w0=>?_
 try simp only[iv,pt]
 refine aT ?_;refine eP [0,1,2,3,4,5,6,7,8,9,10] [4,8] [] ?_;refine dS ?_;refine⟨ab,?_⟩;refine W7 (l:=ci) (v:=.agg ci.toArray) rfl (cellsU hd (.tail _ (.head _)) (by simpa using ki)) (.inl ⟨by rw[li];exact cL,rfl⟩) ?_;refine dS ?_;refine⟨ab,?_⟩;refine W7 (l:=cj) (v:=.agg cj.toArray) rfl (cellsU hd (.tail _ (.head _)) (by simpa using kj)) (.inl ⟨by rw[lj];exact cL,rfl⟩) ?_;refine dS ?_;refine aE hd [0,1] [] [_,_] rfl gf rfl (cf I _ _ _ _ ri rj) fun v I2 qs ac aa hq=>?_;obtain⟨rfl,z,rfl,hz⟩:=hq;simp only[Z3]at ac |-;rw[ag]at hz;refine dS ?_;refine aw ?_;apply RG;simp only[go_sem,iv,hz];exact af rfl ac (r:=[iv a,iv b]) rfl aa ⟨rfl,rfl⟩
variable{c:Nat}
def d7{a sb:Nat}(hA:bQ I A v l)(hc:mC bm dp vc)(hs:w4 l)(am:a<b)(ao:b<c)(an:c<l.length)(hn:l.length<=aN):
  aK Tryz.prog 300 #[v,iv a,iv b,iv c,pt sb,vc] I [A,Cu sb n] fun r _ qs=>qs=[A,Cu sb n]/\r=iv b:=by
 intro hd;obtain⟨f,fst,cap,rfl,gf,cf⟩:=id hc;obtain⟨va,vk,rfl⟩:=hA.shape;refine ah 41 Tryz.func300 fun w0=>?_
 try simp only[iv,pt]
 refine aT ?_;refine ad hd [0,1] [A,Cu sb n] [] rfl Bw rfl (eh (a:=a) (b:=b) hA hc hs am ab hn) fun v I2 qs al aa hq=>?_;obtain⟨rfl,rfl⟩:=hq;simp only[Z3]at al |-;refine ll ?_;refine ad al [0,1] [A,Cu sb n] [] rfl Bw rfl (eh (a:=b) (b:=c) (bQ.le hA aa) hc hs ao an hn) fun v I3 qs ak ac hq=>?_;obtain⟨rfl,rfl⟩:=hq;simp only[Z3]at ak |-;refine ll ?_;refine ad ak [0,1] [A,Cu sb n] [] rfl Bw rfl (eh (a:=a) (b:=b) (bQ.le hA (abV aa ac)) hc hs am ab hn) fun v I4 qs aj ag hq=>?_;obtain⟨rfl,rfl⟩:=hq;simp only[Z3]at aj |-;refine ll ?_;exact af rfl aj (r:=[iv b]) rfl (abV aa (abV ac ag)) ⟨rfl,rfl⟩
def d6{a sb:Nat}(hA:bQ I A v l)(hc:mC bm dp vc)(hs:w4 l)(h1:1<=a)(ha:a+1<l.length)(hn:l.length<=aN):
  aK Tryz.prog 299 #[v,iv a,pt sb,vc] I [A,Cu sb n] fun r _ qs=>qs=[A,Cu sb n]/\r=iv a:=by
 intro hd;have ag:=hn;unfold aN at ag;obtain⟨f,fst,cap,rfl,gf,cf⟩:=id hc;obtain⟨va,vk,rfl⟩:=hA.shape;refine ah 18 Tryz.func299 fun w0=>?_
 try simp only[iv,pt]
 have w2:IntKind.i64.wrap ((a:Int)-1)=((a-1:Nat):Int):=by rw[iX ab];omega
 have w1:IntKind.i64.wrap ((a:Int)+1)=((a+1:Nat):Int):=by
  have e0:(a:Int)+1=((a+1:Nat):Int):=by omega
  rw[e0];exact wrap64 ab
 apply RG;simp only[go_sem,w1,w2];refine ad hd [0,1] [A,Cu sb n] [] rfl Ap rfl (d7 (a:=a-1) (b:=a) (c:=a+1) hA hc hs ab ab ha hn) fun v I2 qs ac aa hq=>?_;obtain⟨rfl,rfl⟩:=hq;simp only[Z3]at ac |-;refine ll ?_;exact af rfl ac (r:=[iv a]) rfl aa ⟨rfl,rfl⟩
theorem w5(hA:bQ I A v l)(hc:mC bm dp vc)(hs:w4 l)(bb:12<b)(hb:b<=l.length)(hn:l.length<=aN):
  aK Tryz.prog 274 #[v,.int .i64 0,iv b,vc] I [A] fun r _ qs=>qs=[A]/\∃m:Nat,r=.tuple #[iv m,.int .i64 1]:=by
 intro hd;have a5:=hn;unfold aN at a5;obtain⟨f,fst,cap,rfl,gf,cf⟩:=id hc;obtain⟨va,vk,rfl⟩:=hA.shape;refine ah 63 Tryz.func274 fun w0=>?_
 try simp only[iv,pt]
 have w1:IntKind.i64.wrap ((b:Int)-0)=((b:Nat):Int):=by rw[Int.sub_zero];exact wrap64 ab
 obtain⟨q,hq⟩:∃q,q=b / 4:=⟨_,rfl⟩;have ba:4*q<=b:=by omega
 have a9:3<=q:=by omega
 have wq:IntKind.i64.wrap (((b:Nat):Int).tdiv 4)=(q:Int):=by
  rw[show ((b:Nat):Int).tdiv 4=((b / 4:Nat):Int) from rfl,<-hq,wrap64 ab]
 have m1:IntKind.i64.wrap ((q:Int)*1)=((q:Nat):Int):=by
  have e0:(q:Int)*1=((q:Nat):Int):=by omega
  rw[e0];exact wrap64 ab
 have m2:IntKind.i64.wrap ((q:Int)*2)=((2*q:Nat):Int):=by
  have e0:(q:Int)*2=((2*q:Nat):Int):=by omega
  rw[e0];exact wrap64 ab
 have m3:IntKind.i64.wrap ((q:Int)*3)=((3*q:Nat):Int):=by
  have e0:(q:Int)*3=((3*q:Nat):Int):=by omega
  rw[e0];exact wrap64 ab
 have s0:∀k:Nat,k<2^60->IntKind.i64.wrap ((0:Int)+(k:Int))=((k:Nat):Int):=fun k hk=>by rw[Int.zero_add];exact wrap64 ab
 have s1:=s0 q ab;have s2:=s0 (2*q) ab;have s3:=s0 (3*q) ab;have a4:decide ((b:Int)>=8)=true:=abU ab;apply bL 15;simp only[go_sem,w1];refine fV 11 hd rfl fun sb a3=>?_;have a6:Dj [I,Cu sb 0,A]:=a3
 change RC _ _ _ (U [I,Cu sb 0,A])
 clear a3;refine bf a6 [1,0] fun a2=>?_;rcases aaf b 50 with h5|h5
 ·have aq:decide ((b:Int)>=50)=false:=abT ab;apply RG;simp only[go_sem,mF,List.map,iv,pt,wq,m1,m2,m3,s1,s2,s3,a4,aq];refine ad a2 [0,1] [A,Cu sb 0] [] rfl Ap rfl (d7 (a:=q) (b:=2*q) (c:=3*q) hA hc hs ab ab ab hn) fun v I2 qs ak aa hq=>?_;obtain⟨rfl,rfl⟩:=hq;simp only[Z3]at ak |-;refine ll ?_;refine XN (l:=[iv 0]) rfl (cellsU ak (.tail _ (.tail _ (.head _))) (ay (by simp) rfl)) (.inr ⟨jq,rfl⟩) ?_;refine dP ?_;refine bf ak [1,0] fun aj=>?_;refine ae aj fun I9 aj ac a7=>?_;exact af rfl aj (r:=[iv (2*q),.int .i64 1]) rfl (abV aa ac) ⟨rfl,_,rfl⟩
 ·have aq:decide ((b:Int)>=50)=true:=abU ab;apply RG;simp only[go_sem,mF,List.map,iv,pt,wq,m1,m2,m3,s1,s2,s3,a4,aq];refine ad a2 [0,1] [A,Cu sb 0] [] rfl BD rfl (d6 (a:=q) hA hc hs ab ab hn) fun v I2 qs ak aa hq=>?_;obtain⟨rfl,rfl⟩:=hq;simp only[Z3]at ak |-;refine ll ?_;refine ad ak [0,1] [A,Cu sb 0] [] rfl BD rfl (d6 (a:=2*q) (bQ.le hA aa) hc hs ab ab hn) fun v I3 qs a1 ag hq=>?_;obtain⟨rfl,rfl⟩:=hq;simp only[Z3]at a1 |-;refine ll ?_;refine ad a1 [0,1] [A,Cu sb 0] [] rfl BD rfl (d6 (a:=3*q) (bQ.le hA (abV aa ag)) hc hs ab ab hn) fun v I4 qs aS al hq=>?_;obtain⟨rfl,rfl⟩:=hq;simp only[Z3]at aS |-;refine ll ?_;refine ad aS [0,1] [A,Cu sb 0] [] rfl Ap rfl (d7 (a:=q) (b:=2*q) (c:=3*q) (bQ.le hA (abV aa (abV ag al))) hc hs ab ab ab hn) fun v I5 qs ao an hq=>?_;obtain⟨rfl,rfl⟩:=hq;simp only[Z3]at ao |-;refine ll ?_;have am:=abV aa (abV ag (abV al an));refine XN (l:=[iv 0]) rfl (cellsU ao (.tail _ (.tail _ (.head _))) (ay (by simp) rfl)) (.inr ⟨jq,rfl⟩) ?_;refine dP ?_;refine bf ao [1,0] fun aj=>?_;refine ae aj fun I9 aj ac a7=>?_;exact af rfl aj (r:=[iv (2*q),.int .i64 1]) rfl (abV am ac) ⟨rfl,_,rfl⟩
def nQ(v vb vc:Value)(i:Nat):St:=⟨dn 141 [(0,.v v),(1,.v (.int .i64 0)),(2,.v vb),(3,.v vc),(9,.v (iv i)),(10,.v (.int .i64 0))],[]⟩
theorem Jz(hA:bQ I A v l)(hc:mC bm dp vc)(hs:w4 l)(aq:0<b)(hb:b<=l.length)(hn:l.length<=aN):
  aK Tryz.prog 276 #[v,.int .i64 0,iv b,vc] I [A] fun r _ qs=>qs=[A]/\r=.bool true:=by
 intro hd;unfold aN at hn;obtain⟨f,fst,cap,rfl,gf,cf⟩:=id hc;obtain⟨va,vk,rfl⟩:=hA.shape;refine ah 141 Tryz.func276 fun w0=>?_
 try simp only[iv]
 have w1:IntKind.i64.wrap ((0:Int)+1)=((1:Nat):Int):=by decide
 apply RG;simp only[go_sem,w1];refine aA (fun _=>0) (fun(_:Unit)=>nQ (.slice va l.length vk) (iv b) (.func (.func f) fst cap) 1) (fun _ H=>H=U [I,A]) () bM (by simp only[go_sem,aa6,nQ]) rfl ?_;rintro _ H rfl al;simp only[nQ];refine dP ?_;refine aA (fun x=>b-x) (nQ (.slice va l.length vk) (iv b) (.func (.func f) fst cap)) (fun x H=>∃I3,H=U [I3,A]/\Dj [I3,A]/\I.le I3/\1<=x/\x<=b) 1 bM (by simp only[go_sem,aa6,nQ]) ⟨I,rfl,hd,abW _,ZR _,aq⟩ ?_;rintro x H ⟨I3,rfl,aj,ac,a2,a1⟩ aa;simp only[nQ];rcases aaf x b with ao|ao
 ·have ag:decide ((x:Int)<(b:Int))=true:=abU ab;obtain⟨x,rfl⟩:∃x',x=x'+1:=⟨x-1,ab⟩;have p1:=mG (j:=x) ab;have p2:IntKind.i64.wrap (((x+1:Nat):Int)+1)=((x+1+1:Nat):Int):=by
   have e0:((x+1:Nat):Int)+1=((x+1+1:Nat):Int):=by omega
   rw[e0];exact wrap64 ab
  obtain⟨g,cp,cj,ci,a,c,ev,rj,ri,lj,li,kj,ki,an⟩:=bQ.two (bQ.le hA ac) hs (aba x) ab;cases ev
  refine dP ?_;refine eP [0,1,2,3,4,5,6,7,8,9,10,11,12,13,14,15,16,17] [8,13] [] ?_;apply au;simp only[go_sem,iv,ag,p1];refine⟨ab,?_⟩;refine W7 (l:=ci) (v:=.agg ci.toArray) rfl (cellsU aj (.tail _ (.head _)) (by simpa using ki)) (.inl ⟨by rw[li];exact cL,rfl⟩) ?_;apply au;simp only[go_sem,iv,ag,p1];refine⟨ab,?_⟩;refine W7 (l:=cj) (v:=.agg cj.toArray) rfl (cellsU aj (.tail _ (.head _)) (by simpa using kj)) (.inl ⟨by rw[lj];exact cL,rfl⟩) ?_;apply au;simp only[go_sem,iv,ag,p1];refine aE aj [0] [] [_] rfl gf rfl (cf I3 _ _ _ _ ri rj) fun v I4 qs am ak hq=>?_;obtain⟨rfl,z,rfl,hz⟩:=hq;simp only[Z3]at am |-;rw[an]at hz;refine dS ?_;refine aw ?_;apply RG;simp only[go_sem,iv,hz,abK,p2];exact aa (x+1+1) _ _ ab bM (by simp only[go_sem,aa6,nQ]) ⟨I4,rfl,am,abV ac ak,ab,ab⟩
 ·have:x=b:=by omega
  subst this;have ag:decide ((x:Int)<(x:Int))=false:=abT ab;have aS:((x:Int) == (x:Int))=true:=by simp
  refine dP ?_;refine eP [0,1,2,3,4,5,6,7,8,9,10,11,12,13,14,15,16,17] [8,13] [] ?_;apply au;simp only[go_sem,iv,ag];refine aw ?_;apply RG;simp only[go_sem,iv,aS];exact af rfl aj (r:=[.bool true]) rfl ac ⟨rfl,rfl⟩
def IS(v vc:Value)(n k:Nat):St:=⟨dn 148 [(0,.v v),(1,.v (.int .i64 0)),(2,.v (iv n)),(3,.v (iv k)),(4,.v vc),(10,.v (.bool true)),(11,.v (.bool true))],[]⟩
theorem PX(hA:bQ I A v l)(hc:mC bm dp vc)(hs:w4 l)(hn:l.length<=aN)(hk:12<l.length->k≠0):
  aK Tryz.prog 224 #[v,.int .i64 0,iv l.length,iv k,vc] I [A] fun _ _ qs=>qs=[A]:=by
 intro hd;have ao:=hn;unfold aN at ao;obtain⟨f,fst,cap,rfl,gf,cf⟩:=id hc;obtain⟨va,vk,rfl⟩:=hA.shape;refine ah 148 Tryz.func224 fun w0=>?_
 try simp only[iv]
 refine aT ?_;refine aA (fun _=>0) (fun(_:Unit)=>IS (.slice va l.length vk) (.func (.func f) fst cap) l.length k) (fun _ H=>H=U [I,A]) () bM (by simp only[go_sem,aa6,IS]) rfl ?_;rintro _ H rfl am;simp only[IS];have w1:IntKind.i64.wrap ((l.length:Int)-0)=((l.length:Nat):Int):=by rw[Int.sub_zero];exact wrap64 ab
 rcases aaf 12 l.length with ag|aj
 rotate_left
 ·have al:decide ((l.length:Int)<=12)=true:=abU ab;apply RG;simp only[go_sem,iv,w1,al];refine ad hd [0] [A] [] rfl Of rfl (K7 (a:=0) (b:=l.length) hA hc hs (ZR _) hn (aaL _)) fun v I3 qs ac aa hq=>?_;obtain rfl:=hq;simp only[Z3]at ac |-;refine dP ?_;exact af rfl ac (r:=[]) rfl aa (by exact rfl)
 have al:decide ((l.length:Int)<=12)=false:=abT ab;have aq:((k:Int) == 0)=false:=by rw[abS];have:=hk ag;omega
 apply RG;simp only[go_sem,iv,w1,al,aq,abQ];refine ad hd [0] [A] [] rfl QA rfl (w5 (b:=l.length) hA hc hs ag (ZR _) hn) fun v I3 qs ac aa hq=>?_;obtain⟨rfl,m,rfl⟩:=hq;simp only[Z3]at ac |-;refine dP ?_;refine ad ac [0] [A] [] rfl Pz rfl (Jz (b:=l.length) (bQ.le hA aa) hc hs ab (ZR _) hn) fun v I4 qs an ak hq=>?_;obtain⟨rfl,rfl⟩:=hq;simp only[Z3]at an |-;refine dP ?_;exact af rfl an (r:=[]) rfl (abV aa ak) (by exact rfl)
def Ki(hA:bQ I A v l)(hc:mC bm dp vc)(hs:w4 l)(hn:l.length<=aN):
  aK Tryz.prog 147 #[v,vc] I [A] fun _ _ qs=>qs=[A]:=by
 intro hd;have ag:=hn;unfold aN at ag;obtain⟨f,fst,cap,rfl,gf,cf⟩:=id hc;obtain⟨va,vk,rfl⟩:=hA.shape;have u1:=qq (n:=l.length) ab;refine ah 14 Tryz.func147 fun w0=>?_;apply RG;simp only[go_sem,u1];refine WZ rfl GC (RZ ab _) fun v H2 hv=>?_;obtain⟨rfl,rfl⟩:=hv;refine dP ?_;refine ad hd [0] [A] [] rfl AU rfl (PX (k:=Sort.bitsLen l.length) hA hc hs hn (fun h e=>by have:=(Sort.bitsLen_le_iff l.length 0).1 ab;omega)) fun v I2 qs ac aa hq=>?_;obtain rfl:=hq;simp only[Z3]at ac |-;refine dP ?_;exact d8 rfl ac (r:=[]) rfl aa (by exact rfl)
def G0:aO Tryz.prog 283:=⟨_,Tryz.func283,rfl,rfl⟩
def PO:aO Tryz.prog 235:=⟨_,Tryz.func235,rfl,rfl⟩
def Q6:aO Tryz.prog 167:=⟨_,Tryz.func167,rfl,rfl⟩
def Kj(v vb vc:Value):St:=⟨dn 53 [(0,.v v),(1,.v (.int .i64 0)),(2,.v vb),(3,.v vc),(8,.v (.int .i64 1))],[]⟩
def w9{l:List cO}(hA:eF I A v l)(hl:l.length<=1):aK Tryz.prog 283 #[v,.int .i64 0,iv l.length,vc] I [A] fun _ _ qs=>qs=[A]:=by
 intro hd;obtain⟨va,vk,rfl⟩:=hA.shape;refine ah 53 Tryz.func283 fun w0=>?_
 try simp only[iv]
 have w1:IntKind.i64.wrap ((0:Int)+1)=1:=by decide
 have ac:decide ((1:Int)<(l.length:Int))=false:=abT ab;apply RG;simp only[go_sem,w1];refine aA (fun _=>0) (fun(_:Unit)=>Kj (.slice va l.length vk) (iv l.length) vc) (fun _ H=>H=U [I,A]) () bM (by simp only[go_sem,aa6,Kj]) rfl ?_;rintro _ H rfl aa;simp only[Kj];apply RG;simp only[go_sem,iv,ac];exact d8 rfl hd (r:=[]) rfl (abW _) (by exact rfl)
def Jl(v vn vc:Value):St:=⟨dn 63 [(0,.v v),(1,.v vn),(2,.v vc),(6,.v (.int .i64 20)),(7,.v (.int .i64 0)),(8,.v (.int .i64 20))],[]⟩
def MA(v vn vc:Value):St:=⟨dn 63 [(0,.v v),(1,.v vn),(2,.v vc),(6,.v (.int .i64 20))],[]⟩
def ue{l:List cO}(hA:eF I A v l)(hl:l.length<=1):aK Tryz.prog 167 #[v,vc] I [A] fun _ _ qs=>qs=[A]:=by
 intro hd;obtain⟨va,vk,rfl⟩:=hA.shape;have main:aK Tryz.prog 235 #[.slice va l.length vk,iv l.length,vc] I [A] fun _ _ qs=>qs=[A]:=by
  intro hd;refine ah 63 Tryz.func235 fun w0=>?_
  try simp only[iv]
  have al:decide ((20:Int)<=(l.length:Int))=false:=abT ab;have ak:decide ((20:Int)<(l.length:Int))=false:=abT ab;refine aT ?_;refine aA (fun _=>0) (fun(_:Unit)=>Jl (.slice va l.length vk) (iv l.length) vc) (fun _ H=>H=U [I,A]) () bM (by simp only[go_sem,aa6,Jl]) rfl ?_;rintro _ H rfl aj;simp only[Jl];apply RG;simp only[go_sem,iv,al];refine ad hd [0] [A] [] rfl G0 rfl (w9 hA hl) fun v I3 qs ac aa hq=>?_;obtain rfl:=hq;simp only[Z3]at ac |-;refine dP ?_;refine aA (fun _=>0) (fun(_:Unit)=>MA (.slice va l.length vk) (iv l.length) vc) (fun _ H=>H=U [I3,A]) () bM (by simp only[go_sem,aa6,MA]) rfl ?_;rintro _ H rfl ag;simp only[MA];apply RG;simp only[go_sem,iv,ak];exact d8 rfl ac (r:=[]) rfl aa (by exact rfl)
 refine ah 9 Tryz.func167 fun w0=>?_;refine dP ?_;refine ad hd [0] [A] [] rfl PO rfl (main) fun v I3 qs ac aa hq=>?_;obtain rfl:=hq;simp only[Z3]at ac |-;refine aT ?_;exact d8 rfl ac (r:=[]) rfl aa (by exact rfl)
def BI:aO Tryz.prog 36:=⟨_,Tryz.func36,rfl,rfl⟩
def To:aO Tryz.prog 88:=⟨_,Tryz.func88,rfl,rfl⟩
def Gt:aO Tryz.prog 159:=⟨_,Tryz.func159,rfl,rfl⟩
def TT:aO Tryz.prog 87:=⟨_,Tryz.func87,rfl,rfl⟩
def SK:aO Tryz.prog 33:=⟨_,Tryz.func33,rfl,rfl⟩
def VQ(a:Option Addr)(k:Nat)(t:T)(c:Nat)(u:T):St:=⟨dn 29 [(1,.v (.int .u32 c)),(2,.p 2 0),(5,.v (iv (T.plc (T.subs t) u)))],[⟨2,50,[sD a k t,rD t]⟩]⟩
theorem Gh{H:PH}{t:T}(h:cX H v t)(hc:c<2^32):bO Tryz.prog 36 #[v,.int .u32 c] H fun r H2=>r=.bool (t.at' (ch c))/\H2=H:=by
 obtain⟨aj,sl,rfl,hL⟩:=h;obtain⟨a,k,rfl,ak⟩:=hL;have sq:T.Seq (T.subs t):=(T.vis_spec t aj ab [] T.Seq.nil).1;have am:(T.subs t).length+1<=2^24:=by
  obtain⟨us,e1,e2,_⟩:=(T.vis_spec t aj ab [] T.Seq.nil).2.2;rw[aaA]at e1;show (t.vis []).length+1<=_;rw[e1];exact e2
 have an:T.isIn (T.subs t) t:=T.subs_in aj;refine ah 29 Tryz.func36 fun w0=>?_
 try simp only[iv]
 refine aT ?_;refine aA (fun u=>u.sz) (VQ a k t c) (fun u H2=>H2=H/\T.isIn (T.subs t) u/\u.at' (ch c)=t.at' (ch c)) t bM (by simp only[go_sem,aa6,VQ,iv,sD,rD]) ⟨rfl,an,rfl⟩ ?_;rintro u H2 ⟨rfl,hu,he⟩ ac;simp only[VQ];cases u with
 |lf b=>
  have al:decide (((T.plc (T.subs t) (.lf b):Nat):Int)>1)=false:=by cases b<;>simp[T.plc]
  have aS:(((T.plc (T.subs t) (.lf b):Nat):Int) == 1)=b:=by cases b<;>simp[T.plc]
  apply RG;simp only[go_sem,iv,al,aS];exact aJ (r:=[_]) rfl ⟨by rw[<-he];rfl,rfl⟩
 |nd i l r=>
  have hm:T.nd i l r∈T.subs t:=hu;have a3:=abb hm;have hp:T.plc (T.subs t) (.nd i l r)=(T.subs t).idxOf (.nd i l r)+2:=rfl;have al:decide (((T.plc (T.subs t) (.nd i l r):Nat):Int)>1)=true:=by rw[hp];simp;omega
  have a1:IntKind.i64.wrap (((T.plc (T.subs t) (.nd i l r):Nat):Int)-2)=(((T.subs t).idxOf (.nd i l r):Nat):Int):=by
   rw[<-wrap64 (n:=(T.subs t).idxOf (.nd i l r)) ab,hp];congr 1;omega
  obtain⟨kl,kr⟩:=sq.kids hm;have ao:i<24:=(sq.okk hu).2.1;have aq:T.dec (T.subs t) (.nd i l r)=(i,T.plc (T.subs t) l,T.plc (T.subs t) r):=rfl;rcases ak with h0|⟨b,rfl,ak⟩
  ·rw[h0]at hm;simp at hm
  apply RG;simp only[go_sem,iv,sD,rD,al,a1];refine⟨ab,?_⟩;have hg:=T.plc_get hm;rw[hp,Nat.add_sub_cancel]at hg;have a2:(EN (T.subs t)).length=(T.subs t).length*3:=qp _;have ag:=ak.sub ((T.subs t).idxOf (.nd i l r)*3) 3 ab;rw[qw hg,ZZ,aq]at ag;refine XN (l:=nt (i,T.plc (T.subs t) l,T.plc (T.subs t) r)) (v:=gV (i,T.plc (T.subs t) l,T.plc (T.subs t) r)) rfl ag (.inl ⟨uK,rfl⟩) ?_;have hs:tN .u32 (ut .u32 (c:Int) (i:Int)) 1=((((c >>> i)&&&1:Nat)):Int):=by
   rw[Gj ab];exact mf (b:=1) (AL hc) ab
  have aa:=Me c i;cases hb:c.testBit i
  ·rw[hb]at aa;apply RG;simp only[go_sem,iv,sD,rD,gV,abt,hs,aa];refine ac l _ _ ?_ bM (by simp only[go_sem,aa6,VQ,iv,sD,rD]) ⟨rfl,kl,?_⟩
   ·simp only[T.sz];omega
   ·rw[<-he];simp[T.at',ch,hb]
  ·rw[hb]at aa;apply RG;simp only[go_sem,iv,sD,rD,gV,abt,hs,aa];refine ac r _ _ ?_ bM (by simp only[go_sem,aa6,VQ,iv,sD,rD]) ⟨rfl,kr,?_⟩
   ·simp only[T.sz];omega
   ·rw[<-he];simp[T.at',ch,hb]
def yE(I0:PH)(vf:Value)(g:T->T):Prop:=∃fid first cap,vf=.func (.func fid) first cap/\aO Tryz.prog fid/\∀{I:PH} {v:Value} {d:T},I0.le I->cX I v d->aK Tryz.prog fid (first++#[v]++cap) I [] fun r I2 qs=>qs=[]/\cX I2 r (g d)
variable{g:T->T}{J:PH}
def yE.le{vf:Value}(h:yE I vf g)(k:I.le J):yE J vf g:=by
 obtain⟨fid,first,cap,e,hg,hd⟩:=h;exact⟨fid,first,cap,e,hg,fun k2 hr=>hd (abV k k2) hr⟩
def ND(c:Nat)(d:T):T:=.lf (d.at' (ch c))
def K9(I:PH):cX I (.agg #[.slice none 0 0,iv 1]) (.lf true):=mN I true
def Sn(I:PH):cX I (.agg #[.slice none 0 0,iv 0]) (.lf false):=mN I false
def PB{I0:PH}{cb:Nat}(hb:aP I0 cb 0 [.int .u32 c])(hc:c<2^32):yE I0 (.func (.func 88) #[] #[pt cb]) (ND c):=by
 refine⟨88,#[],#[pt cb],rfl,To,fun{I v d} ac hr hd=>?_⟩;obtain⟨a,k,rfl⟩:=hr.shape2;show bO Tryz.prog 88 #[.agg #[sD a k d,rD d],pt cb] _ _;refine ah 9 Tryz.func88 fun w0=>?_
 try simp only[iv,pt,sD,rD]
 refine aT ?_;refine XN (l:=[.int .u32 c]) rfl (cellsU hd (.head _) (hb.le ac)) (.inr ⟨oR,rfl⟩) ?_;refine aT ?_;refine WZ rfl BI (Gh (hr.le (cP hd)) hc) fun v H2 hv=>?_;obtain⟨rfl,rfl⟩:=hv;cases aa:d.at' (ch c)
 ·refine aT ?_;refine WZ rfl yl (sU _) fun v H2 hv=>?_;obtain⟨rfl,rfl⟩:=hv;refine dP ?_;exact af rfl hd (r:=[.agg #[.slice none 0 0,.int .i64 0]]) (by simp only[Tryz.results88,go_sem,iv]) (abW _) ⟨rfl,by unfold ND;rw[aa];exact Sn I⟩
 ·refine aT ?_;refine WZ rfl FR (Fp _) fun v H2 hv=>?_;obtain⟨rfl,rfl⟩:=hv;refine dP ?_;exact af rfl hd (r:=[.agg #[.slice none 0 0,.int .i64 1]]) (by simp only[Tryz.results88,go_sem,iv]) (abW _) ⟨rfl,by unfold ND;rw[aa];exact K9 I⟩
structure UT(g:T->T)(F:List Nd->List Nd):Prop where
 nil:F []=[]
 app:∀a b,F (a++b)=F a++F b
 one:∀n:Nd,F [n]=if g n.cond=ff then []else [{ n with kids:=F n.kids,cond:=g n.cond }]
def UT.take_le{F:List Nd->List Nd}(h:UT g F)(i:Nat)(l:List Nd):du (F (l.take i))<=du (F l):=by
 conv=>rhs;rw[<-abq i l]
 rw[h.app,io];omega
def Yo(c:Nat):UT (ND c) (pL (ch c)):=by
 refine⟨rfl,fq _,fun n=>?_⟩;rw[gm];unfold ND;cases n.cond.at' (ch c)<;>simp
def U9(vf vl:Value)(n:Nat)(x:Nat×Value):St:=⟨dn 34 [(1,.v vf),(5,.v x.2),(8,.v vl),(9,.v (iv n)),(10,.v (iv x.1))],[]⟩
def ZK(F:List Nd->List Nd)(l:List Nd)(I0:PH)(x:Nat×Value)(H:PH):Prop:=∃I A,H=U [I,A]/\Dj [I,A]/\I0.le I/\x.1<=l.length/\bQ I A x.2 (F (l.take x.1))
theorem HK{F:List Nd->List Nd}(hF:UT g F):∀(m:Nat) {I:PH} {v vf:Value} {l:List Nd},du l<m->eE I v l->sB v->yE I vf g->du (F l)<=aN->
  aK Tryz.prog 159 #[v,vf] I [] fun r I2 qs=>∃A,qs=[A]/\bQ I2 A r (F l):=by
 intro m
 induction m with
 |zero=>intro I v vf l hm;omega
 |succ m ih=>
 intro I v vf l hm hS hC hG hz hd;obtain⟨va,vc,rfl,_⟩:=id hS;obtain⟨fid,first,cap,rfl,bC,b0⟩:=id hG;unfold aN at hz;refine ah 34 Tryz.func159 fun w0=>?_
 try simp only[iv]
 refine aT ?_;refine aR hd fun b3=>?_;refine aA (fun x=>l.length-x.1) (U9 (.func (.func fid) first cap) (.slice va l.length vc) l.length) (ZK F l I) (0,.slice none 0 0) bM (by simp only[go_sem,aa6,U9]) ?_ ?_
 ·exact⟨I,PH.no,rfl,b3,abW _,aaL _,by rw[abz,hF.nil];exact Ow.nil _ _ _ _⟩
 rintro⟨i,vo⟩ H ⟨I1,A1,rfl,a7,ac,hi,hA⟩ ag;simp only at hi hA;simp only[U9];obtain⟨oa,oc,rfl⟩:=hA.shape;rcases aaf i l.length with an|cd
 ·have ba:decide ((i:Int)<(l.length:Int))=true:=by simp;omega
  have bd:=we hC an;obtain⟨n,hn⟩:∃n,l[i]?=some n:=⟨_,aak an⟩;obtain⟨b,off,cs,rfl,b4,am⟩:=Sl.load bm.len (eE.le hS ac) hn;obtain⟨vk,na,nk,rfl,a1,aj,a9⟩:=b4.shape;obtain⟨ka,kc,rfl,_⟩:=id aj;have cb:=oG (aaV hn);have aS:=hF.take_le (i+1) l;rw[db hn,hF.app,io]at aS;have cc:=iI (F (l.take i));apply RG;simp only[go_sem,ba,iv,sD,rD];refine⟨ab,?_⟩;refine XN (l:=[.int .u8 n.kind,.string ⟨⟨n.text⟩⟩,.int .i64 n.tok,.int .i64 n.slot,.slice ka n.kids.length kc,sD na nk n.cond,rD n.cond]) (v:=.agg #[.int .u8 n.kind,.string ⟨⟨n.text⟩⟩,.int .i64 n.tok,.int .i64 n.slot,.slice ka n.kids.length kc,sD na nk n.cond,rD n.cond]) rfl (cellsU a7 (.head _) am) (.inl ⟨cL,rfl⟩) ?_;refine lY ?_;refine ad a7 [0] [] [A1] rfl bC rfl (b0 ac a1) fun v I3 qs a6 aa hq=>?_;obtain⟨rfl,a2⟩:=hq;obtain⟨za,zk,rfl⟩:=a2.shape2;simp only[Z3]at a6 |-;refine lY ?_;refine WZ rfl jt (gO a2) fun v H2 hv=>?_;obtain⟨rfl,rfl⟩:=hv;cases ao:decide (g n.cond=.lf false)
  ·have bb:g n.cond≠ff:=by simpa using ao
   rw[hF.one,ZV bb,bp,dJ]at aS;simp only at aS;apply RG;simp only[go_sem,iv,sD,rD,ao,abK];refine ad a6 [0] [] [A1] rfl Gt rfl (ih (l:=n.kids) ab (eE.le aj aa) a9 (yE.le hG (abV ac aa)) (by unfold aN;omega)) fun v I4 qs bc a4 hq=>?_;obtain⟨K,rfl,hK⟩:=hq;simp only[Z3]at bc |-;obtain⟨qa,qc,rfl⟩:=hK.shape;have b7:=hK.capN bm.len;refine bf bc [0,1] fun a5=>?_;refine ae a5 fun I5 a5 al b8=>?_;have b6:eE I5 (.slice qa (F n.kids).length qc) (F n.kids):=bQ.sl hK al b8;refine lY ?_;refine ax a5 (by exact dQ) rfl rfl rfl rfl rfl bg fun nb I6 b2 ak bx=>?_;have aq:=abV a4 (abV al ak);have b5:eE I6 (.slice (some ⟨nb,0,none⟩) 1 1) [{ n with kids:=F n.kids,cond:=g n.cond }]:=iJ (az bx (by simp[aD,Value.cells]) (by simp[aD,Value.cells,iv,sD,rD])) (bm.mk (n:={ n with kids:=F n.kids,cond:=g n.cond }) (a2.le aq) (eE.le b6 ak) b7);refine lY ?_;refine bl b2 (by exact dQ) (bQ.le hA (abV aa aq)) (b5) (fun{I J c a} h k=>bm.le h k) (fun{I} c a h=>bm.len c a h) (fun{I} c a h=>bm.ones h) rfl rfl rfl rfl (by first|omega|(simp only[aaj,aaO];omega)) (by unfold maxLen;first|omega|(simp only[aaj,aaO];omega)) fun ua uc I7 A7 b1 a3 ca=>?_;apply RG;simp only[go_sem,iv,sD,rD,bd];have bs:=abV ac (abV aa (abV aq a3));exact ag (i+1,.slice ua (F (l.take i)++[{ n with kids:=F n.kids,cond:=g n.cond }]).length uc) _ _ dt Tp (by simp only[go_sem,aa6,U9,iv,sD,rD]) ⟨I7,A7,rfl,b1,bs,an,by simp only;rw[db hn,hF.app,hF.one,ZV bb];exact ca⟩
  ·have bF:g n.cond=ff:=by simpa using ao
   apply RG;simp only[go_sem,iv,sD,rD,ao,abQ,bd];exact ag (i+1,.slice oa (F (l.take i)).length oc) _ _ dt Tp (by simp only[go_sem,aa6,U9,iv,sD,rD]) ⟨I3,A1,rfl,a6,abV ac aa,an,by simp only;rw[db hn,hF.app,hF.one,aaq bF,aa6];exact bQ.le hA aa⟩
 ·have:i=l.length:=by omega
  subst this;have ba:=Z6 l.length;apply RG;simp only[go_sem,ba,iv,sD,rD];exact af rfl a7 (r:=[_]) rfl ac ⟨A1,rfl,by rw[aaS]at hA |-;exact hA⟩
def He(I:PH)(v:Value)(t:Tr):Prop:=∃vk vd,v=.agg #[vk,vd]/\eE I vk t.kids/\sB vk/\Sl eG I vd t.diags/\sB vd
def SlE.le{l:List cO}(h:Sl eG I v l)(k:I.le J):Sl eG J v l:=Sl.le (R:=eG) (fun{I J c a} h k=>eG.le h k) h k
variable{t:Tr}
def He.le(h:He I v t)(k:I.le J):He J v t:=by
 obtain⟨vk,vd,e,h1,h2,h3,h4⟩:=h;exact⟨vk,vd,e,eE.le h1 k,h2,SlE.le h3 k,h4⟩
def Bu(g:T->T)(e:List cO):List cO:=e.flatMap fun d=>if g d.cond=ff then []else [{ d with cond:=g d.cond }]
def N8(g:T->T)(a b:List cO):Bu g (a++b)=Bu g a++Bu g b:=by simp[Bu]
def GX(g:T->T):∀e,(Bu g e).length<=e.length
 | []=>ZR _
 |d::e=>by
  have:=GX g e;have h:Bu g (d::e)=(if g d.cond=ff then []else [{ d with cond:=g d.cond }])++Bu g e:=rfl;rw[h];split<;>simp<;>omega
def Sz(c:Nat)(e:List cO):Bu (ND c) e=NX (ch c) e:=by
 induction e with
 |nil=>rfl
 |cons d e ih=>
  have h:Bu (ND c) (d::e)=(if ND c d.cond=ff then []else [{ d with cond:=ND c d.cond }])++Bu (ND c) e:=rfl;rw[h,ih];unfold NX ND;cases hd:d.cond.at' (ch c)<;>simp[aby,hd]
def eF.sl{l:List cO}(h:eF I A v l)(h1:I.le J)(h2:A.le J):Sl eG J v l:=abX (R:=eG) (fun{I J c a} h k=>eG.le h k) h h1 h2
def VR(vf vk vd vk2 vl:Value)(n:Nat)(x:Nat×Value):St:=⟨dn 37 [(1,.v vf),(4,.p 4 0),(5,.p 5 0),(14,.v vl),(15,.v (iv n)),(16,.v (iv x.1))],[⟨4,36,[.slice none 0 0,.slice none 0 0]⟩,⟨5,36,[vk2,x.2]⟩]⟩
def ZO(g:T->T)(l:List cO)(I0:PH)(x:Nat×Value)(H:PH):Prop:=∃I A,H=U [I,A]/\Dj [I,A]/\I0.le I/\x.1<=l.length/\eF I A x.2 (Bu g (l.take x.1))
theorem VC{F:List Nd->List Nd}(hF:UT g F){vf:Value}(hT:He I v t)(hG:yE I vf g)(hz:du (F t.kids)<=aN)(bx:t.diags.length<=aN):
  aK Tryz.prog 87 #[v,vf] I [] fun r I2 qs=>qs=[]/\He I2 r ⟨F t.kids,Bu g t.diags⟩:=by
 obtain⟨vk,vd,rfl,hK,cc,hD,cf⟩:=hT;obtain⟨fid,first,cap,rfl,b1,b3⟩:=id hG;obtain⟨ka,kc,rfl,_⟩:=id hK;obtain⟨da,dc,rfl,_⟩:=id hD;have a2:=bx;unfold aN at a2;intro hd;refine ah 37 Tryz.func87 fun w0=>?_
 try simp only[iv]
 refine aT ?_;refine bV hd rfl Gt (HK hF (du t.kids+1) (aba _) hK cc hG hz) fun v1 I1 qs b7 a6 hq=>?_;obtain⟨K,rfl,ba⟩:=hq;obtain⟨qa,qc,rfl⟩:=ba.shape;have hK1c:=ba.capN bm.len;refine bf b7 [0] fun a9=>?_;refine ae a9 fun I2 a9 an cb=>?_;have cd:eE I2 (.slice qa (F t.kids).length qc) (F t.kids):=bQ.sl ba an cb;have a1:=abV a6 an;refine aT ?_;refine aR a9 fun b6=>?_;refine aA (fun x=>t.diags.length-x.1) (VR (.func (.func fid) first cap) (.slice ka t.kids.length kc) (.slice da t.diags.length dc) (.slice qa (F t.kids).length qc) (.slice da t.diags.length dc) t.diags.length) (ZO g t.diags I2) (0,.slice none 0 0) bM (by simp only[go_sem,aa6,VR]) ?_ ?_
 ·exact⟨I2,PH.no,rfl,b6,abW _,aaL _,Ow.nil _ _ _ _⟩
 rintro⟨i,vo⟩ H ⟨I3,A3,rfl,a7,aa,hi,hA⟩ aj;simp only at hi hA;simp only[VR];obtain⟨oa,oc,rfl⟩:=hA.shape;rcases aaf i t.diags.length with aq|cm
 ·have bb:decide ((i:Int)<(t.diags.length:Int))=true:=by simp;omega
  have bd:=we cf aq;obtain⟨d,bc⟩:∃d,t.diags[i]?=some d:=⟨_,aak aq⟩;obtain⟨b,off,cs,rfl,b8,ao⟩:=Sl.load eG.len (SlE.le hD (abV a1 aa)) bc;obtain⟨na,nk,rfl,a3⟩:=id b8;have bC:=GX g (t.diags.take i);rw[abF]at bC;have ac:Bu g (t.diags.take (i+1))=Bu g (t.diags.take i)++(if g d.cond=ff then []else [{ d with cond:=g d.cond }]):=by
   rw[db bc,N8];simp[Bu]
  apply RG;simp only[go_sem,bb,iv,sD,rD];refine⟨ab,?_⟩;refine XN (l:=[.int .u8 d.code,.int .i64 d.tok,sD na nk d.cond,rD d.cond]) (v:=.agg #[.int .u8 d.code,.int .i64 d.tok,sD na nk d.cond,rD d.cond]) rfl (cellsU a7 (.head _) ao) (.inl ⟨lW,rfl⟩) ?_;refine lY ?_;refine ad a7 [0] [] [A3] rfl b1 rfl (b3 (abV a1 aa) a3) fun v I4 qs am ag hq=>?_;obtain⟨rfl,a4⟩:=hq;obtain⟨za,zk,rfl⟩:=a4.shape2;simp only[Z3]at am |-;refine lY ?_;refine WZ rfl jt (gO a4) fun v H2 hv=>?_;obtain⟨rfl,rfl⟩:=hv;cases aS:decide (g d.cond=.lf false)
  ·have bF:g d.cond≠ff:=by simpa using aS
   rw[ZV bF]at ac;apply RG;simp only[go_sem,iv,sD,rD,aS,abK];refine ax am (by exact vP) rfl rfl rfl rfl rfl bg fun nb I6 b5 ak b0=>?_;have ca:Sl eG I6 (.slice (some ⟨nb,0,none⟩) 1 1) [{ d with cond:=g d.cond }]:=⟨_,_,rfl,.inr ⟨nb,0,_,rfl,az b0 (by simp[aD,Value.cells]) (by simp[aD,Value.cells,iv,sD,rD]),.one ⟨za,zk,rfl,a4.le ak⟩⟩⟩;refine lY ?_;refine bl (R:=eG) (xs:=Bu g (t.diags.take i)) (ys:=[{ d with cond:=g d.cond }]) b5 (by exact vP) (eF.le hA (abV ag ak)) ca (fun{I J c a} h k=>eG.le h k) (fun{I} c a h=>eG.len c a h) (fun{I} c a h=>eG.ones h) rfl rfl rfl rfl (by simp only[aaj,aaO];omega) (by simp only[aaj,aaO];unfold maxLen;omega) fun ua uc I7 A7 b4 a5 cl=>?_;apply RG;simp only[go_sem,iv,sD,rD,bd];have bs:=abV ag (abV ak a5);exact aj (i+1,.slice ua (Bu g (t.diags.take i)++[{ d with cond:=g d.cond }]).length uc) _ _ dt Tp (by simp only[go_sem,aa6,VR,iv,sD,rD]) ⟨I7,A7,rfl,b4,abV aa bs,aq,by simp only;rw[ac];exact cl⟩
  ·have b2:g d.cond=ff:=by simpa using aS
   rw[aaq b2,aa6]at ac;apply RG;simp only[go_sem,iv,sD,rD,aS,abQ,bd];exact aj (i+1,.slice oa (Bu g (t.diags.take i)).length oc) _ _ dt Tp (by simp only[go_sem,aa6,VR,iv,sD,rD]) ⟨I4,A3,rfl,am,abV aa ag,aq,by simp only;rw[ac];exact eF.le hA ag⟩
 ·have:i=t.diags.length:=by omega
  subst this;have bb:=Z6 t.diags.length;rw[aaS]at hA |-;have cj:=Ow.capN (R:=eG) hA (fun c a h=>eG.len c a h);refine bf a7 [0] fun am=>?_;refine ae (c:=.st _) am fun I5 am al ci=>?_;apply RG;simp only[go_sem,bb,iv,sD,rD];exact af rfl am (r:=[.agg #[.slice qa (F t.kids).length qc,.slice oa (Bu g t.diags).length oc]]) (by simp only[Tryz.results87,go_sem,iv]) (abV a1 (abV aa al)) ⟨rfl,_,_,rfl,eE.le cd (abV aa al),hK1c,eF.sl hA al ci,cj⟩
def HU(hT:He I v t)(hc:c<2^32)(hz:du t.kids<=aN)(ag:t.diags.length<=aN):aK Tryz.prog 33 #[v,.int .u32 c] I [] fun r I2 qs=>qs=[]/\He I2 r (prj (ch c) t):=by
 obtain⟨vk,vd,rfl,hK,an,hD,ao⟩:=id hT;intro hd;refine ah 8 Tryz.func33 fun w0=>?_
 try simp only[iv]
 apply bL 6;simp only[go_sem];refine fV 3 hd rfl fun cb al=>?_;refine ae (c:=.st _) al fun I2 ak aa am=>?_;have hb:aP I2 cb 0 [.int .u32 c]:=(ay (by simp) rfl:aP (sg cb (.cells [.int .u32 c].toArray 23 (0,0))) cb 0 [.int .u32 c]).le am;apply RG;simp only[go_sem,mF,List.map,pt];refine bV ak rfl TT (VC (Yo c) (hT.le aa) (PB hb hc) (ZS (BH _ _) hz) ag) fun v1 I4 qs aj ac hq=>?_;obtain⟨rfl,hr⟩:=hq;obtain⟨wk,wd,rfl,h1,h2,h3,h4⟩:=hr;rw[Sz]at h3;obtain⟨xa,xc,rfl,_⟩:=id h1;obtain⟨ya,yc,rfl,_⟩:=id h3;refine aT ?_;exact af rfl aj (r:=[.agg #[.slice xa (pL (ch c) t.kids).length xc,.slice ya (NX (ch c) t.diags).length yc]]) (by simp only[Tryz.results33,go_sem]) (abV aa ac) ⟨rfl,_,_,rfl,h1,h2,h3,h4⟩
def dq:aO Tryz.prog 129:=⟨_,Tryz.func129,rfl,rfl⟩
def AB:aO Tryz.prog 156:=⟨_,Tryz.func156,rfl,rfl⟩
def km:aO Tryz.prog 158:=⟨_,Tryz.func158,rfl,rfl⟩
def l4:aO Tryz.prog 132:=⟨_,Tryz.func132,rfl,rfl⟩
def eB:aO Tryz.prog 191:=⟨_,Tryz.func191,rfl,rfl⟩
def sf:aO Tryz.prog 194:=⟨_,Tryz.func194,rfl,rfl⟩
def oD:aO Tryz.prog 196:=⟨_,Tryz.func196,rfl,rfl⟩
structure PS where
 pos:Nat
 opn:Int
 bad:Bool
 code:Nat
 tok:Int
def bG(lv xv:Value)(en:Nat)(s:PS):Obj:=.cells #[lv,xv,iv en,iv s.pos,.int .i64 s.opn,.bool s.bad,.int .u8 s.code,.int .i64 s.tok] 150 (0,0)
variable{s:PS}{lv xv:Value}{pb en:Nat}
def qQ{off:Nat}{l:List PH}{vs:List Value}(hd:Dj (I::sg pb (bG lv xv en s)::l))(h:aP (sg pb (bG lv xv en s)) pb off vs:=by exact ay (by simp[bG]) rfl):aP (U (I::sg pb (bG lv xv en s)::l)) pb off vs:=cellsU hd (.tail _ (.head _)) h
def DT(_:PH)(c:List Value)(t:Syn.Tok):Prop:=∃v1 v2 v3 v4,c=[.int .u8 t.kind,.string ⟨⟨t.text⟩⟩,v1,v2,v3,v4]/\one v1=true/\one v2=true/\one v3=true/\one v4=true
def DT.len(c:List Value)(t:Syn.Tok)(h:DT I c t):c.length=6:=by obtain⟨_,_,_,_,e,_⟩:=h;rw[e];rfl
structure gL(I:PH)(F:List Syn.Tok)(ix:List Nat)(lv xv:Value):Prop where
 tok:Sl DT I lv F
 idx:Sl NQ I xv ix
 same:ix.length=F.length
 len:F.length<=16384
 fit:∀t∈F,t.fits=lI t.kind t.text/\t.text.length<2^40
variable{ix:List Nat}{F:List Syn.Tok}
def gL.le(h:gL I F ix lv xv)(k:I.le J):gL J F ix lv xv:=
 ⟨Sl.le (R:=DT) (fun{I J c a} h k=>h) h.tok k,Sl.le (R:=NQ) (fun{I J c a} h k=>h) h.idx k,h.same,h.len,h.fit⟩
def mB(F:List Syn.Tok)(a:Nat):bq:=match F[a]? with
 |some t=>if t.fits then t.text else []
 |none=>[]
def FU(F:List Syn.Tok)(a:Nat):Nat:=match F[a]? with
 |some t=>if t.fits then t.kind else 0
 |none=>0
def vW(ix:List Nat)(en a:Nat):Nat:=ix.getD a en
def Lj{x:bq}(h:lI k x=true):x≠[]:=by
 intro e;subst e;have h:=abl h;simp[rI,mP]at h
theorem eN(hI:gL I F ix lv xv)(ha:s.pos<=F.length):
  aK Tryz.prog 129 #[pt pb] I [sg pb (bG lv xv en s)] fun v I2 qs=>qs=[sg pb (bG lv xv en s)]/\v=.string ⟨⟨mB F s.pos⟩⟩:=by
 intro hd;have al:=hI.len;obtain⟨la,lc,rfl,_⟩:=id hI.tok;obtain⟨xa,xc,rfl,_⟩:=id hI.idx;refine ah 45 Tryz.func129 fun w0=>?_
 try simp only[iv,pt]
 have m0:aP (U [I,sg pb (bG (.slice la F.length lc) (.slice xa ix.length xc) en s)]) pb 0 [.slice la F.length lc]:=qQ hd;have m3:aP (U [I,sg pb (bG (.slice la F.length lc) (.slice xa ix.length xc) en s)]) pb 3 [iv s.pos]:=qQ hd;refine aT ?_;refine eP [0,1,2,3,4,5,6,7,8,9,10,11,12,13,14,15,16,17,18,19,20,21,22,23,24,25,26,27,28,29,30] [3,7,14,21,25,27] [] ?_;refine gw ?_;refine W7 (l:=[iv s.pos]) rfl m3 (.inr ⟨jq,rfl⟩) ?_;refine dS ?_;refine W7 (l:=[.slice la F.length lc]) rfl m0 (.inr ⟨Db,rfl⟩) ?_;rcases aaf s.pos F.length with ak|an
 rotate_left
 ·have e:s.pos=F.length:=by omega
  have h1:decide ((s.pos:Int)>=(F.length:Int))=true:=abU ab;apply au;simp only[go_sem,iv,h1];refine aw ?_;refine aT ?_;refine af rfl hd (r:=[_]) rfl (abW _) ⟨rfl,?_⟩;unfold mB;rw[aan ab];rfl
 have h1:decide ((s.pos:Int)>=(F.length:Int))=false:=abT ab;have h2:decide ((s.pos:Int)>=16384)=false:=abT ab;obtain⟨t,ht⟩:∃x,F[s.pos]?=some x:=⟨_,aak ak⟩;obtain⟨b,off,cs,rfl,⟨v1,v2,v3,v4,rfl,_⟩,aa⟩:=Sl.load (R:=DT) (fun{I} c a h=>DT.len (I:=I) c a h) hI.tok ht;have am:=aa.get (i:=1) rfl;obtain⟨hf,hx⟩:=hI.fit t (aaV ht);apply au;simp only[go_sem,iv,h1];refine W7 (l:=[iv s.pos]) rfl m3 (.inr ⟨jq,rfl⟩) ?_;apply au;simp only[go_sem,iv,h2];refine W7 (l:=[.slice (some ⟨b,off,none⟩) F.length lc]) rfl m0 (.inr ⟨Db,rfl⟩) ?_;refine dS ?_;refine W7 (l:=[iv s.pos]) rfl m3 (.inr ⟨jq,rfl⟩) ?_;refine dS ?_;refine⟨ab,?_⟩;refine W7 (l:=[.int .u8 t.kind,.string ⟨⟨t.text⟩⟩,v1,v2,v3,v4]) (v:=.agg #[.int .u8 t.kind,.string ⟨⟨t.text⟩⟩,v1,v2,v3,v4]) rfl (cellsU hd (.head _) (by simpa using aa)) (.inl ⟨MS,rfl⟩) ?_;refine dS ?_;refine aE hd [0] [] [sg pb _] rfl P2 rfl (Mx t.kind t.text v1 v2 v3 v4 ab I) fun v I2 qs ag ac hq=>?_;obtain⟨rfl,rfl⟩:=hq;simp only[Z3]at ag |-;have hr:mB F s.pos=if lI t.kind t.text then t.text else []:=by unfold mB;rw[ht,<-hf]
 cases aj:lI t.kind t.text
 ·rw[aj]at hr;apply au;simp only[go_sem,iv,abK];refine aw ?_;refine aT ?_;exact af rfl ag (r:=[_]) rfl ac ⟨rfl,by rw[hr];rfl⟩
 ·rw[aj]at hr;have n0:aP (U [I2,sg pb (bG (.slice (some ⟨b,off,none⟩) F.length lc) (.slice xa ix.length xc) en s)]) pb 0 [.slice (some ⟨b,off,none⟩) F.length lc]:=qQ ag;have n3:aP (U [I2,sg pb (bG (.slice (some ⟨b,off,none⟩) F.length lc) (.slice xa ix.length xc) en s)]) pb 3 [iv s.pos]:=qQ ag;apply au;simp only[go_sem,iv,abQ];refine aw ?_;refine aT ?_;refine eP [0,1,2,3,4,5,6,7,8,9,10,11] [3,7,10] [] ?_;refine gw ?_;refine W7 (l:=[.slice (some ⟨b,off,none⟩) F.length lc]) rfl n0 (.inr ⟨Db,rfl⟩) ?_;refine dS ?_;refine W7 (l:=[iv s.pos]) rfl n3 (.inr ⟨jq,rfl⟩) ?_;refine dS ?_;refine⟨ab,?_⟩;refine W7 (l:=[.string ⟨⟨t.text⟩⟩]) rfl (cellsU ag (.head _) (by simpa using am.le ac)) (.inr ⟨tL,rfl⟩) ?_;refine dS ?_;refine aw ?_;refine aT ?_;exact af rfl ag (r:=[_]) rfl ac ⟨rfl,by rw[hr];rfl⟩
theorem EV(hI:gL I F ix lv xv)(ha:s.pos<=F.length):
  aK Tryz.prog 156 #[pt pb] I [sg pb (bG lv xv en s)] fun v I2 qs=>qs=[sg pb (bG lv xv en s)]/\v=.int .u8 (FU F s.pos):=by
 intro hd;obtain⟨la,lc,rfl,_⟩:=id hI.tok;obtain⟨xa,xc,rfl,_⟩:=id hI.idx;refine ah 17 Tryz.func156 fun w0=>?_
 try simp only[pt]
 refine aT ?_;refine ad hd [0] [sg pb _] [] rfl dq rfl (eN hI ha) fun v I2 qs ac aa hq=>?_;obtain⟨rfl,rfl⟩:=hq;simp only[Z3]at ac |-;cases h0:(mB F s.pos == [])
 rotate_left
 ·have hk:FU F s.pos=0:=by
   have h0:mB F s.pos=[]:=by simpa using h0
   unfold mB at h0;unfold FU;split at h0
   ·rename_i t ht;split at h0
    ·rename_i hf;rw[(hI.fit t (aaV ht)).1]at hf;exact absurd h0 (Lj hf)
    ·rename_i hf;rw[ZV hf]
   ·rfl
  apply RG;simp only[go_sem,h0];exact af rfl ac (r:=[_]) rfl aa ⟨rfl,by rw[hk];rfl⟩
 have aj:mB F s.pos≠[]:=by simpa using h0
 obtain⟨t,ht,hf⟩:∃t,F[s.pos]?=some t/\t.fits=true:=by
  unfold mB at aj;split at aj
  ·rename_i t ht;split at aj
   ·rename_i hf;exact⟨t,ht,hf⟩
   ·exact absurd rfl aj
  ·exact absurd rfl aj
 have al:=(List.getElem?_eq_some_iff.1 ht).1;have hk:FU F s.pos=t.kind:=by unfold FU;rw[ht];exact aaq hf
 obtain⟨b,off,cs,rfl,⟨v1,v2,v3,v4,rfl,_⟩,ag⟩:=Sl.load (R:=DT) (fun{I} c a h=>DT.len (I:=I) c a h) hI.tok ht;have ak:=ag.get (i:=0) rfl;have n0:aP (U [I2,sg pb (bG (.slice (some ⟨b,off,none⟩) F.length lc) (.slice xa ix.length xc) en s)]) pb 0 [.slice (some ⟨b,off,none⟩) F.length lc]:=qQ ac;have n3:aP (U [I2,sg pb (bG (.slice (some ⟨b,off,none⟩) F.length lc) (.slice xa ix.length xc) en s)]) pb 3 [iv s.pos]:=qQ ac;apply RG;simp only[go_sem,h0];refine eP [0,1,2,3,4,5,6,7,8,9,10,11] [3,7,10] [] ?_;refine gw ?_;refine W7 (l:=[.slice (some ⟨b,off,none⟩) F.length lc]) rfl n0 (.inr ⟨Db,rfl⟩) ?_;refine dS ?_;refine W7 (l:=[iv s.pos]) rfl n3 (.inr ⟨jq,rfl⟩) ?_;refine dS ?_;refine⟨ab,?_⟩;refine W7 (l:=[.int .u8 t.kind]) rfl (cellsU ac (.head _) (by simpa using ak.le aa)) (.inr ⟨Uv,rfl⟩) ?_;refine dS ?_;refine aw ?_;refine aT ?_;exact af rfl ac (r:=[_]) rfl aa ⟨rfl,by rw[hk];rfl⟩
theorem qU(hI:gL I F ix lv xv)(ha:s.pos<=F.length):
  aK Tryz.prog 158 #[pt pb] I [sg pb (bG lv xv en s)] fun v I2 qs=>qs=[sg pb (bG lv xv en s)]/\I2=I/\v=iv (vW ix en s.pos):=by
 intro hd;obtain⟨la,lc,rfl,_⟩:=id hI.tok;obtain⟨xa,xc,rfl,_⟩:=id hI.idx;have ac:=hI.same;refine ah 27 Tryz.func158 fun w0=>?_
 try simp only[pt]
 have m0:aP (U [I,sg pb (bG (.slice la F.length lc) (.slice xa ix.length xc) en s)]) pb 0 [.slice la F.length lc]:=qQ hd;have m1:aP (U [I,sg pb (bG (.slice la F.length lc) (.slice xa ix.length xc) en s)]) pb 1 [.slice xa ix.length xc]:=qQ hd;have m2:aP (U [I,sg pb (bG (.slice la F.length lc) (.slice xa ix.length xc) en s)]) pb 2 [iv en]:=qQ hd;have m3:aP (U [I,sg pb (bG (.slice la F.length lc) (.slice xa ix.length xc) en s)]) pb 3 [iv s.pos]:=qQ hd;refine aT ?_;refine eP [0,1,2,3,4,5,6,7,8,9] [3,7] [] ?_;refine gw ?_;refine W7 (l:=[iv s.pos]) rfl m3 (.inr ⟨jq,rfl⟩) ?_;refine dS ?_;refine W7 (l:=[.slice la F.length lc]) rfl m0 (.inr ⟨Db,rfl⟩) ?_;rcases aaf s.pos F.length with aj|ak
 rotate_left
 ·have e:s.pos=F.length:=by omega
  have h1:decide ((s.pos:Int)>=(F.length:Int))=true:=abU ab;apply au;simp only[go_sem,iv,h1];refine aw ?_;refine aT ?_;refine XN (l:=[iv en]) rfl m2 (.inr ⟨jq,rfl⟩) ?_;refine dP ?_;refine af rfl hd (r:=[_]) rfl (abW _) ⟨rfl,rfl,?_⟩;have:vW ix en s.pos=en:=by unfold vW;rw[List.getD_eq_getElem?_getD,aan ab];rfl
  rw[this];rfl
 have h1:decide ((s.pos:Int)>=(F.length:Int))=false:=abT ab;obtain⟨x,hx⟩:∃x,ix[s.pos]?=some x:=⟨_,aak ab⟩;obtain⟨b,off,cs,rfl,ag,aa⟩:=Sl.load (R:=NQ) (fun{I} c a h=>by rw[show c=_ from h];rfl) hI.idx hx;obtain rfl:cs=[iv x]:=ag;have hr:vW ix en s.pos=x:=by unfold vW;rw[List.getD_eq_getElem?_getD,hx];rfl
 apply au;simp only[go_sem,iv,h1];refine aw ?_;refine aT ?_;refine eP [0,1,2,3,4,5,6,7,8,9,10] [3,7,9] [] ?_;refine gw ?_;refine W7 (l:=[.slice (some ⟨b,off,none⟩) ix.length xc]) rfl m1 (.inr ⟨UL,rfl⟩) ?_;refine dS ?_;refine W7 (l:=[iv s.pos]) rfl m3 (.inr ⟨jq,rfl⟩) ?_;refine dS ?_;refine⟨ab,?_⟩;refine W7 (l:=[iv x]) rfl (cellsU hd (.head _) (by simpa using aa)) (.inr ⟨jq,rfl⟩) ?_;refine dS ?_;refine aw ?_;refine aT ?_;exact af rfl hd (r:=[_]) rfl (abW _) ⟨rfl,rfl,by rw[hr];rfl⟩
end Go.Proofs.YtfaclfkpnmcmlaaGreatDoor
