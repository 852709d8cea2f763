import Derived.Test.YtfaclfkpnmcmlaaGreatDoorH00
import Derived.Test.YtfaclfkpnmcmlaaGreatDoorH11
import Derived.Test.YtfaclfkpnmcmlaaGreatDoorH17
import Derived.Sort.AssemblyPlain
set_option maxHeartbeats 8000000
set_option linter.all false
namespace Go.Proofs.YtfaclfkpnmcmlaaGreatDoor
open Go Go.Sx Dg Syn
def Lk:aO Tryz.prog 23:=⟨_,Tryz.func23,rfl,rfl⟩
def Ts:aO Tryz.prog 34:=⟨_,Tryz.func34,rfl,rfl⟩
def LY:aO Tryz.prog 63:=⟨_,Tryz.func63,rfl,rfl⟩
def SI:aO Tryz.prog 64:=⟨_,Tryz.func64,rfl,rfl⟩
def EO:aO Tryz.prog 21:=⟨_,Tryz.func21,rfl,rfl⟩
def MP:aO Tryz.prog 25:=⟨_,Tryz.func25,rfl,rfl⟩
def HB:aO Tryz.prog 69:=⟨_,Tryz.func69,rfl,rfl⟩
def xC(_:PH)(c:List Value)(x:Nat×Nat):Prop:=c=[.int .u32 x.1,.int .u32 x.2]/\x.1<2^32/\x.2<2^32
abbrev Ch(I:PH)(v:Value)(l:List (Nat×Nat)):Prop:=Sl xC I v l
variable{I:PH}
def xC.len(c:List Value)(x:Nat×Nat)(h:xC I c x):c.length=2:=by rw[h.1];rfl
variable{l:List (Nat×Nat)}{v:Value}
def Ch.le{J:PH}(h:Ch I v l)(k:I.le J):Ch J v l:=Sl.le (R:=xC) (fun{I J c a} h k=>h) h k
def Pp(v:Value)(x:Nat×Option Addr×Nat×T):St:=⟨dn 26 [(0,.v v),(2,.p 2 0),(3,.p 3 0),(4,.v (iv x.1))],[⟨2,50,[.slice none 0 0,.int .i64 0]⟩,⟨3,50,[sD x.2.1 x.2.2.1 x.2.2.2,rD x.2.2.2]⟩]⟩
def X1(l:List (Nat×Nat))(I0:PH)(x:Nat×Option Addr×Nat×T)(H:PH):Prop:=∃I,H=U [I]/\Dj [I]/\I0.le I/\x.1<=l.length/\x.2.2.2=mE (l.take x.1)/\cX I (.agg #[sD x.2.1 x.2.2.1 x.2.2.2,rD x.2.2.2]) x.2.2.2
variable{i:Nat}
def df{α:Type}{l:List α}{n:α}(h:l[i]?=some n):l.take (i+1)=l.take i++[n]:=by
 rw[List.take_add_one,h];rfl
theorem Rl(hS:Ch I v l)(hl:l.length<2^60):aK Tryz.prog 23 #[v] I [] fun r I2 qs=>qs=[]/\cX I2 r (mE l):=by
 obtain⟨va,vc,rfl,_⟩:=id hS;intro hd;refine ah 26 Tryz.func23 fun w0=>?_;refine aT ?_;refine WZ rfl yl (sU _) fun v H2 hv=>?_;obtain⟨rfl,rfl⟩:=hv;refine dP ?_;refine aA (fun x=>l.length-x.1) (Pp (.slice va l.length vc)) (X1 l I) (0,none,0,.lf false) bM (by simp only[go_sem,aa6,Pp,sD,rD,iv,T.subs,T.vis,T.plc,aaO,aa5,Z2]) ?_ ?_
 ·exact⟨I,rfl,hd,abW _,aaL _,rfl,mN I false⟩
 rintro⟨i,da,dk,d⟩ H ⟨I1,rfl,an,ac,hi,am,hr⟩ aj;simp only at hi am hr;simp only[Pp];rcases aaf i l.length with aS|a3
 ·have h9:decide ((i:Int)<(l.length:Int))=true:=abU ab;have e1:IntKind.i64.wrap ((i:Int)+1)=((i+1:Nat):Int):=by rw[<-wrap64 (n:=i+1) ab];congr 1
  obtain⟨x,hx⟩:∃x,l[i]?=some x:=⟨_,aak aS⟩;obtain⟨b,off,cs,rfl,⟨rfl,x1,x2⟩,aa⟩:=Sl.load (fun{I} c a h=>xC.len (I:=I) c a h) (Ch.le hS ac) hx;have c0:=aa.get (i:=0) rfl;have c1:=aa.get (i:=1) rfl;apply RG;simp only[go_sem,iv,h9];refine eP [0,1,2,3,4,5,6,7,8,9,10,11,12,13] [5,10] [] ?_;refine lE ?_
  try refine⟨ab,?_⟩
  refine W7 (l:=[.int .u32 x.1]) rfl (cellsU an (.head _) (by simpa using c0)) (.inr ⟨oR,rfl⟩) ?_;refine lE ?_
  try refine⟨ab,?_⟩
  refine W7 (l:=[.int .u32 x.2]) rfl (cellsU an (.head _) (by simpa using c1)) (.inr ⟨oR,rfl⟩) ?_;refine lE ?_;refine cv an rfl HB (FD x1 x2) fun v1 I2 qs a2 ak hq=>?_;obtain⟨rfl,a0⟩:=hq;obtain⟨za,zk,rfl⟩:=a0.shape2;refine lE ?_;refine cv a2 rfl yj (KP (hr.le ak) a0) fun v2 I3 qs a1 ao hq=>?_;obtain⟨rfl,aq⟩:=hq;obtain⟨ya,yk,rfl⟩:=aq.shape2;refine lE ?_;refine aw ?_;apply RG;simp only[go_sem,iv,e1];refine aj (i+1,ya,yk,d.or (jx x.1 x.2)) _ _ dt bM (by simp only[go_sem,aa6,Pp,sD,rD,iv]) ⟨I3,rfl,a1,abV ac (abV ak ao),aS,?_,aq⟩;simp only;rw[df hx,am];unfold mE;rw[abM];rfl
 ·have:i=l.length:=by omega
  subst this;rw[aaS]at am;have h9:=Z6 l.length;apply RG;simp only[go_sem,iv,h9,sD,rD];exact af rfl an (r:=[.agg #[sD da dk d,rD d]]) (by simp only[Tryz.results23,go_sem,iv,sD,rD]) ac ⟨rfl,by rw[<-am];exact hr⟩
def Lu(v:Value)(c:Nat)(i:Nat):St:=⟨dn 38 [(0,.v v),(1,.v (.int .u32 c)),(5,.v (iv i))],[]⟩
variable{H:PH}
theorem XZ{c:Nat}(hS:Ch H v l)(hl:l.length<2^60)(hc:c<2^32):bO Tryz.prog 34 #[v,.int .u32 c] H fun r H2=>r=.bool (Ek l c)/\H2=H:=by
 obtain⟨va,vc,rfl,_⟩:=id hS;refine ah 38 Tryz.func34 fun w0=>?_;refine aT ?_;refine aA (fun x=>l.length-x) (Lu (.slice va l.length vc) c) (fun i H2=>H2=H/\i<=l.length/\Ek l c=(l.drop i).any (Jk c)) 0 bM (by simp only[go_sem,aa6,Lu]) ⟨rfl,aaL _,rfl⟩ ?_;rintro i H2 ⟨rfl,hi,ha⟩ aa;simp only[Lu];rcases aaf i l.length with aj|an
 ·have h9:decide ((i:Int)<(l.length:Int))=true:=abU ab;have e1:IntKind.i64.wrap ((i:Int)+1)=((i+1:Nat):Int):=by rw[<-wrap64 (n:=i+1) ab];congr 1
  obtain⟨x,hx⟩:∃x,l[i]?=some x:=⟨_,aak aj⟩;obtain⟨b,off,cs,rfl,⟨rfl,x1,x2⟩,ac⟩:=Sl.load (fun{I} c a h=>xC.len (I:=I) c a h) hS hx;have c0:=ac.get (i:=0) rfl;have c1:=ac.get (i:=1) rfl;have am:l.drop i=x::l.drop (i+1):=by
   rw[aaK aj];rw[aak aj]at hx;rw[aaZ hx]
  rw[am,List.any_cons]at ha;have b1:c&&&x.1<2^32:=abr Nat.and_le_left hc;have b2:c&&&x.2<2^32:=abr Nat.and_le_left hc;have a1:=mf hc x1;have a2:tN .u32 ((c&&&x.1:Nat):Int) 16777215=(((c&&&x.1)&&&16777215:Nat):Int):=mf b1 bg;have a3:tN .u32 ((x.1:Nat):Int) 16777215=((x.1&&&16777215:Nat):Int):=mf x1 bg;have a4:=mf hc x2;have a5:tN .u32 ((c&&&x.2:Nat):Int) 16777215=(((c&&&x.2)&&&16777215:Nat):Int):=mf b2 bg;have q1:=NP ((c&&&x.1)&&&16777215) (x.1&&&16777215);have q2:((((c&&&x.2)&&&16777215:Nat):Int) == 0)=decide ((c&&&x.2)&&&16777215=0):=tZ _;apply RG;simp only[go_sem,iv,h9];refine eP [0,1,2,3,4,5,6,7,8,9,10,11,12,13,14,15,16,17,18,19,20,21,22,23,24,25] [5,12,21] [] ?_;refine dS ?_
  try refine⟨ab,?_⟩
  refine W7 (l:=[.int .u32 x.1]) rfl (by simpa using c0) (.inr ⟨oR,rfl⟩) ?_;refine dS ?_
  try refine⟨ab,?_⟩
  refine W7 (l:=[.int .u32 x.1]) rfl (by simpa using c0) (.inr ⟨oR,rfl⟩) ?_;cases h1:decide ((c&&&x.1)&&&16777215=x.1&&&16777215)
  ·rw[h1]at q1;have ak:Jk c x=false:=by unfold Jk;rw[h1];rfl
   apply au;simp only[go_sem,iv,a1,a2,a3,q1];refine aw ?_;apply RG;simp only[go_sem,iv,e1];exact aa (i+1) _ _ ab bM (by simp only[go_sem,aa6,Lu]) ⟨rfl,aj,by rw[ha,ak,abw]⟩
  ·rw[h1]at q1;apply au;simp only[go_sem,iv,a1,a2,a3,q1]
   try refine⟨ab,?_⟩
   refine W7 (l:=[.int .u32 x.2]) rfl (by simpa using c1) (.inr ⟨oR,rfl⟩) ?_;cases h2:decide ((c&&&x.2)&&&16777215=0)
   ·rw[h2]at q2;have ak:Jk c x=false:=by unfold Jk;rw[h2,Bool.and_false]
    apply au;simp only[go_sem,iv,a4,a5,q2];refine aw ?_;apply RG;simp only[go_sem,iv,e1];exact aa (i+1) _ _ ab bM (by simp only[go_sem,aa6,Lu]) ⟨rfl,aj,by rw[ha,ak,abw]⟩
   ·rw[h2]at q2;have ak:Jk c x=true:=by unfold Jk;rw[h1,h2];rfl
    apply au;simp only[go_sem,iv,a4,a5,q2];refine aw ?_;refine dP ?_;exact aJ (r:=[_]) rfl ⟨by rw[ha,ak];rfl,rfl⟩
 ·have:i=l.length:=by omega
  subst this;rw[abH]at ha;have h9:=Z6 l.length;apply RG;simp only[go_sem,iv,h9];exact aJ (r:=[_]) rfl ⟨by rw[ha];rfl,rfl⟩
def W0(v:Value)(x:Nat×Nat):St:=⟨dn 26 [(0,.v v),(3,.v (.int .u32 x.2)),(4,.v (iv x.1))],[]⟩
def JZ(hS:Ch H v l)(hl:l.length<2^60):bO Tryz.prog 63 #[v] H fun r H2=>r=.int .u32 (xR l:Nat)/\H2=H:=by
 obtain⟨va,vc,rfl,_⟩:=id hS;refine ah 26 Tryz.func63 fun w0=>?_;refine aT ?_;refine aA (fun x=>l.length-x.1) (W0 (.slice va l.length vc)) (fun x H2=>H2=H/\x.1<=l.length/\x.2<2^32/\x.2=Do (l.take x.1)) (0,0) bM (by simp only[go_sem,aa6,W0]) ⟨rfl,aaL _,by decide,rfl⟩ ?_;rintro⟨i,u⟩ H2 ⟨rfl,hi,hu,aj⟩ ac;simp only at hi hu aj;simp only[W0];rcases aaf i l.length with am|an
 ·have h9:decide ((i:Int)<(l.length:Int))=true:=abU ab;have e1:IntKind.i64.wrap ((i:Int)+1)=((i+1:Nat):Int):=by rw[<-wrap64 (n:=i+1) ab];congr 1
  obtain⟨x,hx⟩:∃x,l[i]?=some x:=⟨_,aak am⟩;obtain⟨b,off,cs,rfl,⟨rfl,x1,x2⟩,aa⟩:=Sl.load (fun{I} c a h=>xC.len (I:=I) c a h) hS hx;have c0:=aa.get (i:=0) rfl;have c1:=aa.get (i:=1) rfl;have ak:=Nat.or_lt_two_pow hu x1;have q1:=CN hu x1;have q2:=CN ak x2;apply RG;simp only[go_sem,iv,h9];refine eP [0,1,2,3,4,5,6,7,8,9,10,11,12,13] [5,11] [] ?_;refine dS ?_
  try refine⟨ab,?_⟩
  refine W7 (l:=[.int .u32 x.1]) rfl (by simpa using c0) (.inr ⟨oR,rfl⟩) ?_;apply au;simp only[go_sem,iv,q1]
  try refine⟨ab,?_⟩
  refine W7 (l:=[.int .u32 x.2]) rfl (by simpa using c1) (.inr ⟨oR,rfl⟩) ?_;apply au;simp only[go_sem,iv,q2];refine aw ?_;apply RG;simp only[go_sem,iv,e1];exact ac (i+1,(u|||x.1)|||x.2) _ _ dt bM (by simp only[go_sem,aa6,W0]) ⟨rfl,am,Nat.or_lt_two_pow ak x2,by simp only;rw[df hx,F4,<-aj]⟩
 ·have:i=l.length:=by omega
  subst this;have h9:=Z6 l.length;have a1:tN .u32 (u:Int) 16777215=((u&&&16777215:Nat):Int):=mf hu bg;apply RG;simp only[go_sem,iv,h9,a1];rw[aaS]at aj;exact aJ (r:=[_]) rfl ⟨by rw[aj];rfl,rfl⟩
def pR(u:Nat):Nat->Nat
 |0=>0
 |i+1=>pR u i+(u.testBit i).toNat
def Fk(u:Nat):∀i,pR u i<=i
 |0=>ZR _
 |i+1=>by
  have:=Fk u i;show pR u i+(u.testBit i).toNat<=i+1;cases u.testBit i<;>simp<;>omega
variable{j:Nat}
def NA(u:Nat)(h:i<=j):pR u i<=pR u j:=by
 induction h with
 |refl=>exact ZR _
 |step _ ih=>exact ZS ih (Nat.le_add_right _ _)
def Xi(u i:Nat):(u >>> i)&&&1=(u.testBit i).toNat:=by
 rw[Nat.and_one_is_mod,Nat.testBit_eq_decide_div_mod_eq,abs];have:=Nat.mod_two_eq_zero_or_one (u / 2^i);rcases this with h|h<;>simp[h]
def UC{u:Nat}(hu:u<2^32)(hi:i<=32):tN .u32 (ut .u32 (u:Int) (i:Int)) 1=(((u.testBit i).toNat:Nat):Int):=by
 rw[Gj hi,<-Xi];exact mf (b:=1) (AL hu) bg
def W2(u most:Nat)(i:Nat):St:=⟨dn 21 [(0,.v (.int .u32 u)),(1,.v (iv most)),(5,.v (iv (pR u i))),(6,.v (iv i))],[]⟩
def U2{u most:Nat}(hu:u<2^32):bO Tryz.prog 64 #[.int .u32 u,iv most] H fun r H2=>r=.bool (decide (pR u 32<=most))/\H2=H:=by
 refine ah 21 Tryz.func64 fun w0=>?_
 try simp only[iv]
 refine aT ?_;refine aA (fun x=>32-x) (W2 u most) (fun i H2=>H2=H/\i<=32) 0 (bJ (by simp only[go_sem,aa6,iv,pR])) (by simp only[go_sem,aa6,W2]) ⟨rfl,aaL _⟩ ?_;rintro i H2 ⟨rfl,hi⟩ aa;simp only[W2];have hp:=Fk u i;rcases aaf i 32 with ac|ak
 ·have h8:decide ((i:Int)<32)=true:=abU ab;have e1:IntKind.i64.wrap ((i:Int)+1)=((i+1:Nat):Int):=by rw[<-wrap64 (n:=i+1) ab];congr 1
  have a1:=UC hu (i:=i) ab;have b2:(u.testBit i).toNat<=1:=by cases u.testBit i<;>simp
  have w1:IntKind.i64.wrap (((u.testBit i).toNat:Nat):Int)=(((u.testBit i).toNat:Nat):Int):=wrap64 ab;have w2:IntKind.i64.wrap ((pR u i:Int)+(((u.testBit i).toNat:Nat):Int))=((pR u (i+1):Nat):Int):=by
   have e:(pR u i:Int)+(((u.testBit i).toNat:Nat):Int)=((pR u (i+1):Nat):Int):=by
    show _=(((pR u i+(u.testBit i).toNat:Nat)):Int);omega
   rw[e];exact wrap64 (by have:=Fk u (i+1);omega)
  apply RG;simp only[go_sem,iv,h8,abt,a1,w1,w2,e1];exact aa (i+1) _ _ ab bM (by simp only[go_sem,aa6,W2]) ⟨rfl,ac⟩
 ·have:i=32:=by omega
  subst this;have aj:decide ((pR u 32:Int)<=(most:Int))=decide (pR u 32<=most):=by
   rw[Bool.eq_iff_iff,aaC,aaC];omega
  apply RG;simp only[go_sem,iv,abo,aj];exact aJ (r:=[_]) rfl ⟨rfl,rfl⟩
instance:Inhabited Nd:=⟨⟨0,[],0,0,[],ff⟩⟩
instance:Inhabited cO:=⟨⟨0,0,ff⟩⟩
def O1{α:Type}[Inhabited α](d:Array α)(i j:Nat):(Sort.swp d i j).toList=(d.toList.set i d[j]!).set j d[i]!:=by simp[Sort.swp]
def al{α:Type}[Inhabited α](d:Array α)(i j:Nat):(Sort.swp d i j).size=d.size:=by simp[Sort.swp]
def GS{α:Type}[Inhabited α](d:Array α)(h:i<d.size):d.toList[i]?=some d[i]!:=by
 simp[h]
def s7(c cs:List Value)(h:c.length=cs.length):br c 0 cs=cs:=by
 rw[fE _ _ _ ab];simp[h]
variable{A:PH}{size:Nat}{e:TypeId}
def Ow.two{α:Type}[Inhabited α]{R:PH->List Value->α->Prop}{d:Array α}(h:Ow R e size I A v d.toList)(hR:∀{I} c a,R I c a->c.length=size)(aj:∀{I J c a},R I c a->I.le J->R J c a)(hi:i<d.size)(hj:j<d.size):
  ∃g cap cur ci cj,v=.slice (some ⟨g,0,none⟩) d.size cap/\A=sg g (.cells cur e (0,0))/\d.size*size<=cur.size/\R I ci d[i]!/\R I cj d[j]!/\ci.length=size/\cj.length=size/\aP A g (i*size) ci/\aP A g (j*size) cj/\
   ∀J,I.le J->Ow R e size J (sg g (.cells (br (br cur.toList (i*size) cj) (j*size) ci).toArray e (0,0))) v (Sort.swp d i j).toList:=by
 obtain⟨g,cap,cur,xs,ev,rfl,c1,c2,c3,c4,c5,ac⟩:=h.open' (by simp;omega) fun c a k=>hR c a k;have hL:d.toList.length=d.size:=by simp
 rw[hL]at ev c1 c4 c5;have am:d.size*size<=cap*size:=aaQ _ c1;have gi:=ac.get (fun c a k=>hR c a k) (GS d hi);have gj:=ac.get (fun c a k=>hR c a k) (GS d hj);have li:=hR _ _ gi;have lj:=hR _ _ gj;have ki:=gQ (k:=0) (m:=size) (e:=e) (g:=g) (cur:=cur) (fun c a k=>hR c a k) ac (i:=i) (by rw[hL];exact hi) (by rw[hL];omega) (by rw[hL];exact c4) rfl ab;have kj:=gQ (k:=0) (m:=size) (e:=e) (g:=g) (cur:=cur) (fun c a k=>hR c a k) ac (i:=j) (by rw[hL];exact hj) (by rw[hL];omega) (by rw[hL];exact c4) rfl ab;rw[aa1,aa4,Nat.min_self,acS]at ki kj;refine⟨g,cap,cur,_,_,ev,rfl,ab,gi,gj,li,lj,ki,kj,fun J hJ=>?_⟩;have m1:(i+1)*size<=d.size*size:=aaQ _ hi;have m2:(j+1)*size<=d.size*size:=aaQ _ hj;rw[aaP,abj]at m1 m2;have p1:=om (fun c a k=>hR c a k) (ac.mono fun _ _ k=>aj k hJ) (i:=i) (by rw[hL];exact hi) rfl (k:=0) (cs:=(xs.drop (j*size)).take size) (a:=d[j]!) ab (by rw[s7 _ _ ab];exact aj gj hJ);rw[acS]at p1;have aa:(br xs (i*size) ((xs.drop (j*size)).take size)).length=d.size*size:=by rw[aX];exact c5
 have p2:=om (fun c a k=>hR c a k) p1 (i:=j) (by simp;exact hj) rfl (k:=0) (cs:=(xs.drop (i*size)).take size) (a:=d[i]!) ab (by
  rw[s7 _ _ (by rw[li];simp[aa];omega)];exact aj gi hJ)
 rw[acS]at p2;rw[O1];refine⟨_,?_,p2⟩;rw[ev];have ak:((d.toList.set i d[j]!).set j d[i]!).length=d.size:=by simp
 rw[ak];refine mh.of_sg (by rw[aX];exact aa) c1 c2 (by simp[aX];exact c3) ?_;show (br (br cur.toList (i*size) _) (j*size) _).take (d.size*size)=_;rw[oC _ _ _ _ ab,oC _ _ _ _ ab,c4]
def Ow.one'{α:Type}[Inhabited α]{R:PH->List Value->α->Prop}{d:Array α}(h:Ow R e size I A v d.toList):∃a c,v=.slice a d.size c:=by
 obtain⟨a,c,rfl⟩:=h.shape;exact⟨a,c,by simp⟩
def ag{cs:List Value}(h:cs.all Sx.one=true):kI (.agg cs.toArray)=some cs:=by simp only[kI,h,reduceIte]
def eG.ones{c:List Value}{n:cO}(h:eG I c n):c.all Sx.one=true:=by
 obtain⟨a,k,e,_⟩:=h;rw[e];rfl
def Ow.addr{α:Type}[Inhabited α]{R:PH->List Value->α->Prop}{d:Array α}(h:Ow R e size I A v d.toList)(hn:0<d.size):∃g c,v=.slice (some ⟨g,0,none⟩) d.size c:=by
 obtain⟨xs,h1,_⟩:=h;obtain⟨g,cap,cur,e1,_⟩:=h1.sg (by simpa using hn);exact⟨g,cap,by simpa using e1⟩
def gA{g:Nat}{cur cur':Array Value}(h:sg g (.cells cur e (0,0))=sg g (.cells cur' e (0,0))):cur=cur':=by
 have:=congrFun h g;simp only[sg,reduceIte,ZW,Obj.cells.injEq,abC]at this;exact this
def mG(h:j+1<2^62):IntKind.i64.wrap (((j+1:Nat):Int)-1)=(j:Int):=by
 have:=cH (a:=j+1) (b:=1) ab ab;rw[show ((1:Nat):Int)=1 from rfl]at this;rw[this];omega
def Of:aO Tryz.prog 271:=⟨_,Tryz.func271,rfl,rfl⟩
def Cj(v va vb vc:Value)(i:Nat):St:=⟨dn 53 [(0,.v v),(1,.v va),(2,.v vb),(3,.v vc),(8,.v (iv i))],[]⟩
def GY(v va vb vc:Value)(i:Nat)(j:Nat):St:=⟨dn 53 [(0,.v v),(1,.v va),(2,.v vb),(3,.v vc),(8,.v (iv i)),(9,.v (iv j))],[]⟩
theorem acf{vc:Value}{d:Array Nd}{a b:Nat}(hA:bQ I A v d.toList)(hc:mC bm dp vc)(hb:b<=d.size)(hn:d.size<=aN)(ha:a<=d.size):
  aK Tryz.prog 271 #[v,iv a,iv b,vc] I [A] fun _ I2 qs=>∃A2,qs=[A2]/\bQ I2 A2 v (Sort.insertionSort dp d a b).toList:=by
 intro hd;unfold aN at hn;obtain⟨f,first,cap,rfl,gf,cf⟩:=id hc;obtain⟨va,vk,rfl⟩:=Ow.one' hA;have w1:=wrap64 (n:=a+1) ab;have w1':IntKind.i64.wrap ((a:Int)+1)=((a+1:Nat):Int):=by rw[<-w1];congr 1
 refine ah 53 Tryz.func271 fun w0=>?_
 try simp only[iv]
 apply RG;simp only[go_sem,w1'];refine aA (fun i=>b-i) (Cj (.slice va d.size vk) (iv a) (iv b) (.func (.func f) first cap)) (fun i H=>∃I2 A2 d2,H=U [I2,A2]/\Dj [I2,A2]/\I.le I2/\a+1<=i/\d2.size=d.size/\bQ I2 A2 (.slice va d.size vk) d2.toList/\Sort.insOuter dp a b i d2=Sort.insertionSort dp d a b) (a+1) bM (by simp only[go_sem,aa6,Cj]) ?_ ?_
 ·exact⟨I,A,d,rfl,hd,abW _,ZR _,rfl,hA,rfl⟩
 rintro i H ⟨I2,A2,d2,rfl,a6,ao,b3,bb,a9,a1⟩ aj;simp only[Cj];rcases aaf i b with bc|b2
 ·have a5:decide ((i:Int)<(b:Int))=true:=by simp;omega
  have e1:=wrap64 (n:=i+1) ab;have ba:IntKind.i64.wrap ((i:Int)+1)=((i+1:Nat):Int):=by rw[<-e1];congr 1
  rw[Sort.insOuter,aaq bc]at a1;apply RG;simp only[go_sem,a5,iv];refine aA (fun j=>j) (GY (.slice va d.size vk) (iv a) (iv b) (.func (.func f) first cap) i) (fun j H=>∃I3 A3 d3,H=U [I3,A3]/\Dj [I3,A3]/\I2.le I3/\j<=i/\d3.size=d.size/\bQ I3 A3 (.slice va d.size vk) d3.toList/\Sort.insInner dp a j d3=Sort.insInner dp a i d2) i bM (by simp only[go_sem,aa6,GY]) ?_ ?_
  ·exact⟨I2,A2,d2,rfl,a6,abW _,ZR _,bb,a9,rfl⟩
  rintro j H ⟨I3,A3,d3,rfl,a0,an,b1,aS,a3,am⟩ ak;simp only[GY];have fin:∀{I4 A4:PH} {d4:Array Nd},I3.le I4->bQ I4 A4 (.slice va d.size vk) d4.toList->d4.size=d.size->d4=Sort.insInner dp a i d2->∃I5 A5 d5,U [I4,A4]=U [I5,A5]/\(Dj [I4,A4]->Dj [I5,A5])/\I.le I5/\a+1<=i+1/\d5.size=d.size/\bQ I5 A5 (.slice va d.size vk) d5.toList/\Sort.insOuter dp a b (i+1) d5=Sort.insertionSort dp d a b:=fun h1 h2 h3 h4=>⟨_,_,_,rfl,id,abV ao (abV an h1),ab,h3,h2,by rw[h4];exact a1⟩;rcases aaf a j with a7|a7
  ·obtain⟨j,rfl⟩:∃j',j=j'+1:=⟨j-1,ab⟩;have a4:decide (((j+1:Nat):Int)>(a:Int))=true:=abU ab;have p1:=mG (j:=j) ab;obtain⟨g,cp,cur,cj1,cj,ev,rfl,bx,rj1,rj,lj1,lj,kj1,kj,a2⟩:=Ow.two a3 (fun{I} c a h=>bm.len c a h) (fun{I J c a} h k=>bm.le h k) (i:=j+1) (j:=j) ab ab;rw[aS]at ev bx;cases ev
   refine dP ?_;refine eP [0,1,2,3,4,5,6,7,8,9,10,11,12,13,14,15,16] [8,13] [] ?_;apply au;simp only[go_sem,iv,a4,p1];refine⟨ab,?_⟩;refine W7 (l:=cj1) (v:=.agg cj1.toArray) rfl (cellsU a0 (.tail _ (.head _)) (by simpa using kj1)) (.inl ⟨by rw[lj1];exact cL,rfl⟩) ?_;apply au;simp only[go_sem,iv,p1];refine⟨ab,?_⟩;refine W7 (l:=cj) (v:=.agg cj.toArray) rfl (cellsU a0 (.tail _ (.head _)) (by simpa using kj)) (.inl ⟨by rw[lj];exact cL,rfl⟩) ?_;apply au;simp only[go_sem,iv,p1];refine aE a0 [0] [] [_] rfl gf rfl (cf I3 _ _ _ _ rj1 rj) fun v I4 qs aq ac hq=>?_;obtain⟨rfl,z,rfl,hz⟩:=hq;simp only[Z3]at aq |-;refine dS ?_;refine aw ?_;cases aa:dp d3[j+1]! d3[j]! with
   |true=>
    rw[aa]at hz;rw[Sort.insInner,aaq (by simp[a7,aa])]at am;apply RG;simp only[go_sem,iv,hz];refine eP [0,1,2,3,4,5,6,7,8,9,10,11,12,13,14,15,16,17] [9,13] [] ?_;apply au;simp only[go_sem,iv,p1];refine⟨ab,?_⟩;refine W7 (l:=cj) (v:=.agg cj.toArray) rfl (cellsU aq (.tail _ (.head _)) (by simpa using kj)) (.inl ⟨by rw[lj];exact cL,rfl⟩) ?_;apply au;simp only[go_sem,iv,p1];refine⟨ab,?_⟩;refine W7 (l:=cj1) (v:=.agg cj1.toArray) rfl (cellsU aq (.tail _ (.head _)) (by simpa using kj1)) (.inl ⟨by rw[lj1];exact cL,rfl⟩) ?_;apply au;simp only[go_sem,iv,p1];refine⟨ab,?_⟩;have m1:(j+1+1)*7<=d.size*7:=aaQ _ ab;refine aQ aq rfl rfl rfl rfl rfl (ag (bm.ones rj)) (by rw[lj];exact aU) (by rw[lj];omega) fun bs=>?_;apply au;simp only[go_sem,iv,p1];refine⟨ab,?_⟩;refine aQ bs rfl rfl rfl rfl rfl (ag (bm.ones rj1)) (by rw[lj1];exact aU) (by rw[lj1];simp[aX];omega) fun bd=>?_;refine aw ?_;apply RG;simp only[go_sem,iv,p1];exact ak j _ _ ab bM (by simp only[go_sem,aa6,GY]) ⟨I4,_,_,rfl,bd,abV an ac,ab,by rw[al];exact aS,a2 I4 ac,am⟩
   |false=>
    rw[aa]at hz;rw[Sort.insInner,ZV (by simp[aa])]at am;apply RG;simp only[go_sem,iv,hz];obtain⟨I5,A5,d5,e1,e2,e3⟩:=fin ac (bQ.le a3 ac) aS am;apply RG;simp only[go_sem,ba];exact aj (i+1) _ _ ab bM (by simp only[go_sem,aa6,Cj]) ⟨I5,A5,d5,e1,e2 aq,e3⟩
  ·have a4:decide ((j:Int)>(a:Int))=false:=abT ab;have b0:d3=Sort.insInner dp a i d2:=by
    cases j with
    |zero=>exact am
    |succ j=>rw[Sort.insInner,ZV (by simp;omega)]at am;exact am
   refine dP ?_;refine eP [0,1,2,3,4,5,6,7,8,9,10,11,12,13,14,15,16] [8,13] [] ?_;apply au;simp only[go_sem,iv,a4];refine aw ?_;apply RG;simp only[go_sem,iv,ba];obtain⟨I5,A5,d5,e1,e2,e3⟩:=fin (abW _) a3 aS b0;exact aj (i+1) _ _ ab bM (by simp only[go_sem,aa6,Cj]) ⟨I5,A5,d5,e1,e2 a0,e3⟩
 ·have a5:decide ((i:Int)<(b:Int))=false:=by simp;omega
  rw[Sort.insOuter,ZV ab]at a1;apply RG;simp only[go_sem,a5,iv];exact d8 rfl a6 (r:=[]) rfl ao ⟨A2,rfl,by rw[<-a1];exact a9⟩
def G0:aO Tryz.prog 283:=⟨_,Tryz.func283,rfl,rfl⟩
def GF(v va vb vc:Value)(i:Nat):St:=⟨dn 53 [(0,.v v),(1,.v va),(2,.v vb),(3,.v vc),(8,.v (iv i))],[]⟩
def LD(v va vb vc:Value)(i:Nat)(j:Nat):St:=⟨dn 53 [(0,.v v),(1,.v va),(2,.v vb),(3,.v vc),(8,.v (iv i)),(9,.v (iv j))],[]⟩
theorem aci{vc:Value}{d:Array cO}{a b:Nat}(hA:eF I A v d.toList)(hc:mC eG bF vc)(hb:b<=d.size)(hn:d.size<=aN)(ha:a<=d.size):
  aK Tryz.prog 283 #[v,iv a,iv b,vc] I [A] fun _ I2 qs=>∃A2,qs=[A2]/\eF I2 A2 v (Sort.insertionSort bF d a b).toList:=by
 intro hd;unfold aN at hn;obtain⟨f,first,cap,rfl,gf,cf⟩:=id hc;obtain⟨va,vk,rfl⟩:=Ow.one' hA;have w1:=wrap64 (n:=a+1) ab;have w1':IntKind.i64.wrap ((a:Int)+1)=((a+1:Nat):Int):=by rw[<-w1];congr 1
 refine ah 53 Tryz.func283 fun w0=>?_
 try simp only[iv]
 apply RG;simp only[go_sem,w1'];refine aA (fun i=>b-i) (GF (.slice va d.size vk) (iv a) (iv b) (.func (.func f) first cap)) (fun i H=>∃I2 A2 d2,H=U [I2,A2]/\Dj [I2,A2]/\I.le I2/\a+1<=i/\d2.size=d.size/\eF I2 A2 (.slice va d.size vk) d2.toList/\Sort.insOuter bF a b i d2=Sort.insertionSort bF d a b) (a+1) bM (by simp only[go_sem,aa6,GF]) ?_ ?_
 ·exact⟨I,A,d,rfl,hd,abW _,ZR _,rfl,hA,rfl⟩
 rintro i H ⟨I2,A2,d2,rfl,a6,ao,b3,bb,a9,a1⟩ aj;simp only[GF];rcases aaf i b with bc|b2
 ·have a5:decide ((i:Int)<(b:Int))=true:=by simp;omega
  have e1:=wrap64 (n:=i+1) ab;have ba:IntKind.i64.wrap ((i:Int)+1)=((i+1:Nat):Int):=by rw[<-e1];congr 1
  rw[Sort.insOuter,aaq bc]at a1;apply RG;simp only[go_sem,a5,iv];refine aA (fun j=>j) (LD (.slice va d.size vk) (iv a) (iv b) (.func (.func f) first cap) i) (fun j H=>∃I3 A3 d3,H=U [I3,A3]/\Dj [I3,A3]/\I2.le I3/\j<=i/\d3.size=d.size/\eF I3 A3 (.slice va d.size vk) d3.toList/\Sort.insInner bF a j d3=Sort.insInner bF a i d2) i bM (by simp only[go_sem,aa6,LD]) ?_ ?_
  ·exact⟨I2,A2,d2,rfl,a6,abW _,ZR _,bb,a9,rfl⟩
  rintro j H ⟨I3,A3,d3,rfl,a0,an,b1,aS,a3,am⟩ ak;simp only[LD];have fin:∀{I4 A4:PH} {d4:Array cO},I3.le I4->eF I4 A4 (.slice va d.size vk) d4.toList->d4.size=d.size->d4=Sort.insInner bF a i d2->∃I5 A5 d5,U [I4,A4]=U [I5,A5]/\(Dj [I4,A4]->Dj [I5,A5])/\I.le I5/\a+1<=i+1/\d5.size=d.size/\eF I5 A5 (.slice va d.size vk) d5.toList/\Sort.insOuter bF a b (i+1) d5=Sort.insertionSort bF d a b:=fun h1 h2 h3 h4=>⟨_,_,_,rfl,id,abV ao (abV an h1),ab,h3,h2,by rw[h4];exact a1⟩;rcases aaf a j with a7|a7
  ·obtain⟨j,rfl⟩:∃j',j=j'+1:=⟨j-1,ab⟩;have a4:decide (((j+1:Nat):Int)>(a:Int))=true:=abU ab;have p1:=mG (j:=j) ab;obtain⟨g,cp,cur,cj1,cj,ev,rfl,bx,rj1,rj,lj1,lj,kj1,kj,a2⟩:=Ow.two a3 (fun{I} c a h=>eG.len c a h) (fun{I J c a} h k=>eG.le h k) (i:=j+1) (j:=j) ab ab;rw[aS]at ev bx;cases ev
   refine dP ?_;refine eP [0,1,2,3,4,5,6,7,8,9,10,11,12,13,14,15,16] [8,13] [] ?_;apply au;simp only[go_sem,iv,a4,p1];refine⟨ab,?_⟩;refine W7 (l:=cj1) (v:=.agg cj1.toArray) rfl (cellsU a0 (.tail _ (.head _)) (by simpa using kj1)) (.inl ⟨by rw[lj1];exact lW,rfl⟩) ?_;apply au;simp only[go_sem,iv,p1];refine⟨ab,?_⟩;refine W7 (l:=cj) (v:=.agg cj.toArray) rfl (cellsU a0 (.tail _ (.head _)) (by simpa using kj)) (.inl ⟨by rw[lj];exact lW,rfl⟩) ?_;apply au;simp only[go_sem,iv,p1];refine aE a0 [0] [] [_] rfl gf rfl (cf I3 _ _ _ _ rj1 rj) fun v I4 qs aq ac hq=>?_;obtain⟨rfl,z,rfl,hz⟩:=hq;simp only[Z3]at aq |-;refine dS ?_;refine aw ?_;cases aa:bF d3[j+1]! d3[j]! with
   |true=>
    rw[aa]at hz;rw[Sort.insInner,aaq (by simp[a7,aa])]at am;apply RG;simp only[go_sem,iv,hz];refine eP [0,1,2,3,4,5,6,7,8,9,10,11,12,13,14,15,16,17] [9,13] [] ?_;apply au;simp only[go_sem,iv,p1];refine⟨ab,?_⟩;refine W7 (l:=cj) (v:=.agg cj.toArray) rfl (cellsU aq (.tail _ (.head _)) (by simpa using kj)) (.inl ⟨by rw[lj];exact lW,rfl⟩) ?_;apply au;simp only[go_sem,iv,p1];refine⟨ab,?_⟩;refine W7 (l:=cj1) (v:=.agg cj1.toArray) rfl (cellsU aq (.tail _ (.head _)) (by simpa using kj1)) (.inl ⟨by rw[lj1];exact lW,rfl⟩) ?_;apply au;simp only[go_sem,iv,p1];refine⟨ab,?_⟩;have m1:(j+1+1)*4<=d.size*4:=aaQ _ ab;refine aQ aq rfl rfl rfl rfl rfl (ag (eG.ones rj)) (by rw[lj];exact yM) (by rw[lj];omega) fun bs=>?_;apply au;simp only[go_sem,iv,p1];refine⟨ab,?_⟩;refine aQ bs rfl rfl rfl rfl rfl (ag (eG.ones rj1)) (by rw[lj1];exact yM) (by rw[lj1];simp[aX];omega) fun bd=>?_;refine aw ?_;apply RG;simp only[go_sem,iv,p1];exact ak j _ _ ab bM (by simp only[go_sem,aa6,LD]) ⟨I4,_,_,rfl,bd,abV an ac,ab,by rw[al];exact aS,a2 I4 ac,am⟩
   |false=>
    rw[aa]at hz;rw[Sort.insInner,ZV (by simp[aa])]at am;apply RG;simp only[go_sem,iv,hz];obtain⟨I5,A5,d5,e1,e2,e3⟩:=fin ac (eF.le a3 ac) aS am;apply RG;simp only[go_sem,ba];exact aj (i+1) _ _ ab bM (by simp only[go_sem,aa6,GF]) ⟨I5,A5,d5,e1,e2 aq,e3⟩
  ·have a4:decide ((j:Int)>(a:Int))=false:=abT ab;have b0:d3=Sort.insInner bF a i d2:=by
    cases j with
    |zero=>exact am
    |succ j=>rw[Sort.insInner,ZV (by simp;omega)]at am;exact am
   refine dP ?_;refine eP [0,1,2,3,4,5,6,7,8,9,10,11,12,13,14,15,16] [8,13] [] ?_;apply au;simp only[go_sem,iv,a4];refine aw ?_;apply RG;simp only[go_sem,iv,ba];obtain⟨I5,A5,d5,e1,e2,e3⟩:=fin (abW _) a3 aS b0;exact aj (i+1) _ _ ab bM (by simp only[go_sem,aa6,GF]) ⟨I5,A5,d5,e1,e2 a0,e3⟩
 ·have a5:decide ((i:Int)<(b:Int))=false:=by simp;omega
  rw[Sort.insOuter,ZV ab]at a1;apply RG;simp only[go_sem,a5,iv];exact d8 rfl a6 (r:=[]) rfl ao ⟨A2,rfl,by rw[<-a1];exact a9⟩
end Go.Proofs.YtfaclfkpnmcmlaaGreatDoor
namespace Syn
open Go Go.Sort
variable {α:Type} [Inhabited α] {lt:α->α->Bool}
variable{i:Nat}
theorem ace(d:Array α){j:Nat}(hi:i<d.size)(hj:j<d.size)(k:Nat):(swp d i j)[k]! = if k=j then d[i]! else if k=i then d[j]! else d[k]!:=by
 by_cases h1:k=j
 ·rw[aaq h1,h1];exact swp_right d i j hj
 ·rw[ZV h1];by_cases h2:k=i
  ·rw[aaq h2,h2];exact swp_left d i j hi (fun e=>h1 (h2.trans e))
  ·rw[ZV h2];exact swp_other d i j k h2 h1
def RB(a b i:Nat)(d e:Array α):Prop:=∀k,e[k]! = if a<=k/\k<a+i then d[k-a+b]! else if b<=k/\k<b+i then d[k-b+a]! else d[k]!
theorem RB.zero(a b:Nat)(d:Array α):RB a b 0 d d:=fun k=>by rw[ZV ab,ZV ab]
theorem RB.step{a b n:Nat}{d e:Array α}(h:RB a b i d e)(hs:e.size=d.size)(hi:i<n)(aa:a+n<=b)(hb:b+n<=d.size):RB a b (i+1) d (swp e (a+i) (b+i)):=fun k=>by
 rw[ace e ab ab k,h k,h (a+i),h (b+i)];clear h
 repeat' split
 all_goals first|rfl|(exfalso;omega)|(congr 1;omega)
def AF(m i j:Nat)(c t:Array α):Prop:=∀k,t[k]! = if m-i<=k/\k<m-i+j then c[k+i]! else if m-i+j<=k/\k<m+j then c[k-j]! else c[k]!
variable{m:Nat}
theorem AF.left{j:Nat}{c c' t:Array α}(h:AF m i j c t)(hs:RB (m-i) m j c c')(ac:j<i)(aa:i<=m):AF m (i-j) j c' t:=fun k=>by
 rw[h k,hs k,hs (k+(i-j)),hs (k-j)];clear h hs
 repeat' split
 all_goals first|rfl|(exfalso;omega)|(congr 1;omega)
theorem AF.right{j:Nat}{c c' t:Array α}(h:AF m i j c t)(hs:RB (m-i) (m+j-i) i c c')(ac:i<j)(aa:i<=m):AF m i (j-i) c' t:=fun k=>by
 rw[h k,hs k,hs (k+i),hs (k-(j-i))];clear h hs
 repeat' split
 all_goals first|rfl|(exfalso;omega)|(congr 1;omega)
theorem AF.last{c c' t:Array α}(h:AF m i i c t)(hs:RB (m-i) m i c c')(aa:i<=m)(hz:t.size=c'.size):t=c':=by
 have key:∀k,t[k]! = c'[k]!:=fun k=>by
  rw[h k,hs k];clear h hs
  repeat' split
  all_goals first|rfl|(exfalso;omega)|(congr 1;omega)
 refine Array.ext hz fun k h1 h2=>?_;have:=key k
 rwa [getElem!_pos t k h1,getElem!_pos c' k h2]at this
theorem AF.ex(m i j:Nat)(c:Array α)(aa:i<=m)(hj:m+j<=c.size):∃t,t.size=c.size/\AF m i j c t:=by
 refine⟨Array.ofFn (n:=c.size) fun k=>if m-i<=k.1/\k.1<m-i+j then c[k.1+i]! else if m-i+j<=k.1/\k.1<m+j then c[k.1-j]! else c[k.1]!,by simp,fun k=>?_⟩;by_cases hk:k<c.size
 ·rw[getElem!_pos _ k (by simpa using hk)];simp[hk]
 ·rw[getElem!_neg _ k (by simpa using hk),ZV ab,ZV ab,getElem!_neg c k hk]
def MvU(a k:Nat)(d e:Array α):Prop:=∀x,e[x]! = if a<=x/\x<k then d[x+1]! else if x=k then d[a]! else d[x]!
theorem MvU.zero(a:Nat)(d:Array α):MvU a a d d:=fun x=>by
 rw[ZV ab];split
 ·rename_i h;rw[h]
 ·rfl
theorem MvU.step{a k:Nat}{d e:Array α}(h:MvU a k d e)(hs:e.size=d.size)(hk:a<=k)(aa:k+1<d.size):MvU a (k+1) d (swp e k (k+1)):=fun x=>by
 rw[ace e ab ab x,h x,h k,h (k+1)];clear h
 repeat' split
 all_goals first|rfl|(exfalso;omega)|(congr 1;omega)
def MvD(m k:Nat)(d e:Array α):Prop:=∀x,e[x]! = if x=k then d[m]! else if k<x/\x<=m then d[x-1]! else d[x]!
theorem MvD.zero(m:Nat)(d:Array α):MvD m m d d:=fun x=>by
 split
 ·rename_i h;rw[h]
 ·rw[ZV ab]
theorem MvD.step{k:Nat}{d e:Array α}(h:MvD m (k+1) d e)(hs:e.size=d.size)(hk:k+1<=m)(hm:m<d.size):MvD m k d (swp e (k+1) k):=fun x=>by
 rw[ace e ab ab x,h x,h (k+1),h k];clear h
 repeat' split
 all_goals first|rfl|(exfalso;omega)|(congr 1;omega)
section
variable (h:SWO lt)
include h
omit [Inhabited α] in
theorem gF{x y:α}(e:lt x y=true):lt y x=false:=by
 cases aa:lt y x with
 |false=>rfl
 |true=>have:=h.trans _ _ _ e aa;rw[h.irrefl]at this;cases this
theorem ack{d e:Array α}{a m b i:Nat}(hm:m=a+1)(hs:SortedIn lt m b d)(aj:m<=i)(ak:i<=b)(hl:i=m\/lt d[i-1]! d[a]! = true)(hr:i=b\/lt d[i]! d[a]! = false)(aa:MvU a (i-1) d e):SortedIn lt a b e:=by
 have lo:∀k,m<=k->k<i->lt d[k]! d[a]! = true:=fun k h1 h2=>by
  rcases hl with e0|e0
  ·omega
  ·by_cases hk:k=i-1
   ·rw[hk];exact e0
   ·cases hc:lt d[k]! d[a]! with
    |true=>rfl
    |false=>
     have:=h.ntrans _ _ _ (hs k (i-1) h1 ab ab) hc;rw[e0]at this;cases this
 have hi:∀k,i<=k->k<b->lt d[k]! d[a]! = false:=fun k h1 h2=>by
  rcases hr with e0|e0
  ·omega
  ·by_cases hk:k=i
   ·rw[hk];exact e0
   ·exact h.ntrans _ _ _ (hs i k aj ab h2) e0
 intro x y hx ac hy;rw[aa x,aa y];by_cases c1:a<=x/\x<i-1
 ·rw[aaq c1];by_cases c2:a<=y/\y<i-1
  ·rw[aaq c2];exact hs _ _ ab ab ab
  ·rw[ZV c2];by_cases c3:y=i-1
   ·rw[aaq c3];exact gF h (lo _ ab ab)
   ·rw[ZV c3];exact hs _ _ ab ab ab
 ·rw[ZV c1,ZV (show ¬(a<=y/\y<i-1) by omega)];by_cases c3:x=i-1
  ·rw[aaq c3,ZV ab];exact hi y ab hy
  ·rw[ZV c3,ZV ab];exact hs _ _ ab ac hy
theorem P1{d e:Array α}{a m b i:Nat}(hb:b=m+1)(hs:SortedIn lt a m d)(aj:a<=i)(ak:i<=m)(hl:i=a\/lt d[m]! d[i-1]! = false)(hr:i=m\/lt d[m]! d[i]! = true)(aa:MvD m i d e):SortedIn lt a b e:=by
 have lo:∀k,a<=k->k<i->lt d[m]! d[k]! = false:=fun k h1 h2=>by
  rcases hl with e0|e0
  ·omega
  ·by_cases hk:k=i-1
   ·rw[hk];exact e0
   ·exact h.ntrans _ _ _ e0 (hs k (i-1) h1 ab ab)
 have hi:∀k,i<=k->k<m->lt d[k]! d[m]! = false:=fun k h1 h2=>by
  rcases hr with e0|e0
  ·omega
  ·by_cases hk:k=i
   ·rw[hk];exact gF h e0
   ·exact h.ntrans _ _ _ (hs i k aj ab h2) (gF h e0)
 intro x y hx ac hy;rw[aa x,aa y];by_cases c1:x=i
 ·rw[aaq c1,ZV ab,aaq ab];exact hi _ ab ab
 ·rw[ZV c1];by_cases c2:i<x/\x<=m
  ·rw[aaq c2,ZV ab,aaq ab];exact hs _ _ ab ab ab
  ·rw[ZV c2];by_cases c3:y=i
   ·rw[aaq c3];exact lo x hx ab
   ·rw[ZV c3];by_cases c4:i<y/\y<=m
    ·rw[aaq c4];exact hs _ _ hx ab ab
    ·rw[ZV c4];exact hs _ _ hx ac ab
theorem SN{d e:Array α}{a m b s mid:Nat}(a6:a<=m)(a1:m<=b)(hA:SortedIn lt a m d)(hB:SortedIn lt m b d)(am:mid=(a+b) / 2)
  (a0:a<=s) (aS:s<=m) (aq:s<=mid) (a5:m<=mid+m-s) (a4:mid+m-s<=b) (hl:(m>mid->mid+m-s=b\/s=a\/lt d[mid+m-s]! d[s-1]! = false)/\(m<=mid->s=a\/lt d[mid+m-s]! d[s-1]! = false)) (hr:s=(if m>mid then mid else m)\/lt d[mid+m-s-1]! d[s]! = true)
  (ak:AF m (m-s) (mid+m-s-m) d e) :
  SortedIn lt a s e/\SortedIn lt s mid e/\SortedIn lt mid (mid+m-s) e/\SortedIn lt (mid+m-s) b e/\∀i j,a<=i->i<mid->mid<=j->j<b->lt e[j]! e[i]! = false:=by
 have ao:a<s->mid+m-s<b->lt d[mid+m-s]! d[s-1]! = false:=fun h1 h2=>by
  by_cases c:m>mid
  ·rcases hl.1 c with e0|e0|e0
   ·omega
   ·omega
   ·exact e0
  ·rcases hl.2 ab with e0|e0
   ·omega
   ·exact e0
 have an:m<mid+m-s->s<m->lt d[s]! d[mid+m-s-1]! = false:=fun h1 h2=>by
  rcases hr with e0|e0
  ·split at e0<;>omega
  ·exact gF h e0
 have g:∀k,a<=k->k<b->(k<s/\e[k]! = d[k]!)\/(s<=k/\k<mid/\e[k]! = d[k+(m-s)]!)\/(mid<=k/\k<mid+m-s/\e[k]! = d[k-(mid-s)]!)\/(mid+m-s<=k/\e[k]! = d[k]!):=fun k h1 h2=>by
  have hk:=ak k;by_cases c1:k<s
  ·rw[ZV ab,ZV ab]at hk;exact .inl ⟨c1,hk⟩
  ·by_cases c2:k<mid
   ·rw[aaq ab]at hk;exact .inr (.inl ⟨ab,c2,hk⟩)
   ·by_cases c3:k<mid+m-s
    ·rw[ZV ab,aaq ab]at hk;exact .inr (.inr (.inl ⟨ab,c3,by rw[hk];congr 1;omega⟩))
    ·rw[ZV ab,ZV ab]at hk;exact .inr (.inr (.inr ⟨ab,hk⟩))
 refine⟨fun x y hx aa hy=>?_,fun x y hx aa hy=>?_,fun x y hx aa hy=>?_,fun x y hx aa hy=>?_,fun i j ac a3 a2 aj=>?_⟩
 ·rcases g x hx ab with ⟨_,e1⟩|⟨_,_,e1⟩|⟨_,_,e1⟩|⟨_,e1⟩<;>rcases g y ab ab with ⟨_,e2⟩|⟨_,_,e2⟩|⟨_,_,e2⟩|⟨_,e2⟩<;>try omega
  rw[e1,e2];exact hA _ _ hx aa ab
 ·rcases g x ab ab with ⟨_,e1⟩|⟨_,_,e1⟩|⟨_,_,e1⟩|⟨_,e1⟩<;>rcases g y ab ab with ⟨_,e2⟩|⟨_,_,e2⟩|⟨_,_,e2⟩|⟨_,e2⟩<;>try omega
  rw[e1,e2];exact hB _ _ ab ab ab
 ·rcases g x ab ab with ⟨_,e1⟩|⟨_,_,e1⟩|⟨_,_,e1⟩|⟨_,e1⟩<;>rcases g y ab ab with ⟨_,e2⟩|⟨_,_,e2⟩|⟨_,_,e2⟩|⟨_,e2⟩<;>try omega
  rw[e1,e2];exact hA _ _ ab ab ab
 ·rcases g x ab ab with ⟨_,e1⟩|⟨_,_,e1⟩|⟨_,_,e1⟩|⟨_,e1⟩<;>rcases g y ab ab with ⟨_,e2⟩|⟨_,_,e2⟩|⟨_,_,e2⟩|⟨_,e2⟩<;>try omega
  rw[e1,e2];exact hB _ _ ab ab ab
 ·
  have leB:∀x y,m<=x->x<=y->y<b->lt d[y]! d[x]! = false:=fun x y h1 h2 h3=>by
   rcases Nat.lt_or_eq_of_le h2 with c|c
   ·exact hB x y h1 c h3
   ·rw[c];exact h.irrefl _
  have leA:∀x y,a<=x->x<=y->y<m->lt d[y]! d[x]! = false:=fun x y h1 h2 h3=>by
   rcases Nat.lt_or_eq_of_le h2 with c|c
   ·exact hA x y h1 c h3
   ·rw[c];exact h.irrefl _
  rcases g i ac ab with ⟨p1,e1⟩|⟨p1,p2,e1⟩|⟨_,_,e1⟩|⟨_,e1⟩<;>rcases g j ab aj with ⟨_,e2⟩|⟨_,_,e2⟩|⟨q1,q2,e2⟩|⟨q1,e2⟩<;>try omega
  ·rw[e1,e2];exact hA _ _ ac ab ab
  ·rw[e1,e2];have f:=ao ab ab;exact h.ntrans _ _ _ (leB (mid+m-s) j ab ab aj) (h.ntrans _ _ _ f (leA i (s-1) ac ab ab))
  ·rw[e1,e2];have f:=an ab ab;exact h.ntrans _ _ _ (leA s (j-(mid-s)) ab ab ab) (h.ntrans _ _ _ f (leB (i+(m-s)) (mid+m-s-1) ab ab ab))
  ·rw[e1,e2];exact hB _ _ ab ab ab
omit h in
theorem GU{d1 d2 d3:Array α}{a b mid:Nat}(ac:a<=mid)(aa:mid<=b)(hb:b<=d1.size)(hx:∀i j,a<=i->i<mid->mid<=j->j<b->lt d1[j]! d1[i]! = false)
  (p2:PermIn a mid d1 d2) (s2:SortedIn lt a mid d2) (p3:PermIn mid b d2 d3) (s3:SortedIn lt mid b d3):PermIn a b d1 d3/\SortedIn lt a b d3:=by
 have z2:=p2.1;refine⟨permIn_trans _ _ _ a b (permIn_mono _ _ a mid a b (ZR _) aa hb p2) (permIn_mono _ _ mid b a b ac (ZR _) ab p3),?_⟩;have x2:∀j,mid<=j->j<b->∀i,a<=i->i<mid->lt d1[j]! d2[i]! = false:=fun j h1 h2=>permIn_all d1 d2 a mid (fun x=>lt d1[j]! x=false) ab p2 (fun i h3 h4=>hx i j h3 h4 h1 h2);have x3:∀i,a<=i->i<mid->∀j,mid<=j->j<b->lt d3[j]! d2[i]! = false:=fun i h1 h2=>permIn_all d2 d3 mid b (fun y=>lt y d2[i]! = false) ab p3 (fun j h3 h4=>by rw[p2.2.1 j (.inr h3)];exact x2 j h3 h4 i h1 h2);intro i j h1 h2 h3;by_cases c1:j<mid
 ·rw[p3.2.1 i (.inl ab),p3.2.1 j (.inl c1)];exact s2 i j h1 h2 c1
 ·by_cases c2:mid<=i
  ·exact s3 i j c2 h2 h3
  ·rw[p3.2.1 i (.inl ab)];exact x3 i h1 ab j ab h3
end
theorem SortedIn.sub{d:Array α}{a b a' b':Nat}(h:SortedIn lt a b d)(h1:a<=a')(h2:b'<=b):SortedIn lt a' b' d:=fun i j x y z=>h i j ab y ab
def IA(lt:α->α->Bool)(s x n:Nat)(d:Array α):Prop:=∀i j,x<=i->i<j->j<n->i / s=j / s->lt d[j]! d[i]! = false
def aL(lt:α->α->Bool)(s x:Nat)(d:Array α):Prop:=∀i j,i<j->j<x->i / s=j / s->lt d[j]! d[i]! = false
variable{s q:Nat}
theorem Cg{i:Nat}(hs:0<s)(h1:s*q<=i)(h2:i<s*q+s):i / s=q:=by
 refine Nat.div_eq_of_lt_le ?_ ?_
 ·rw[Nat.mul_comm];exact h1
 ·rw[Nat.mul_comm,Nat.mul_add,Nat.mul_one];exact h2
theorem Ww{i:Nat}(hs:0<s)(h:i / s=q):s*q<=i/\i<s*q+s:=by
 subst h;have h1:=Nat.div_add_mod i s;have h2:=Nat.mod_lt i hs;omega
theorem aL.zero(s:Nat)(d:Array α):aL lt s 0 d:=fun i j _ h=>by omega
theorem aL.step{x:Nat}{d e:Array α}(hs:0<s)(h:aL lt s (s*q) d)(hx:x<=s*q+s)(hp:PermIn (s*q) x d e)(ac:SortedIn lt (s*q) x e):aL lt s x e:=fun i j aa hj hd=>by
 by_cases c:j<s*q
 ·rw[hp.2.1 i (.inl ab),hp.2.1 j (.inl c)];exact h i j aa c hd
 ·have e1:j / s=q:=Cg hs ab ab;have:=(Ww hs (hd.trans e1)).1;exact ac i j this aa hj
variable{n:Nat}
theorem aL.all{d:Array α}(h:aL lt s n d)(hn:n<=s):SortedIn lt 0 n d:=fun i j _ aa hj=>by
 refine h i j aa hj ?_;rw[Nat.div_eq_of_lt ab,Nat.div_eq_of_lt ab]
theorem aL.runs{d:Array α}(h:aL lt s n d):IA lt s 0 n d:=fun i j _ aa hj hd=>h i j aa hj hd
theorem IA.at'{x:Nat}{d:Array α}(hs:0<s)(h:IA lt s x n d)(hx:x<=s*q){y:Nat}(hy:y<=s*q+s)(hn:y<=n):SortedIn lt (s*q) y d:=fun i j h1 h2 h3=>
 h i j ab h2 ab (by rw[Cg hs h1 ab,Cg hs (show s*q<=j by omega) ab])
theorem IA.keep{x y:Nat}{d e:Array α}(h:IA lt s x n d)(aa:x<=y)(hk:∀k,y<=k->e[k]! = d[k]!):IA lt s y n e:=fun i j h1 h2 h3 h4=>by
 rw[hk i h1,hk j ab];exact h i j ab h2 h3 h4
theorem aL.rest{d:Array α}(hs:0<s)(h:aL lt s (s*q) d)(h2:SortedIn lt (s*q) n d)(hn:n<=s*q+s):aL lt s n d:=h.step hs hn (permIn_refl _ _ _) h2
end Syn
namespace Go.Proofs.YtfaclfkpnmcmlaaGreatDoor
open Go Go.Sx Dg Syn
open Go.Sort (PermIn SortedIn SWO permIn_refl permIn_trans permIn_mono swp_permIn)
def OL{K α:Type}{lt:K->K->Bool}(so:SO lt)(f:α->K):SWO fun x y:α=>lt (f x) (f y) where
 irrefl:=fun x=>so.irr _
 trans:=fun x y z=>so.tr _ _ _
 ntrans:=fun x y z h1 h2=>by
  cases h:lt (f x) (f z)with
  |false=>rfl
  |true=>
   cases h3:lt (f y) (f x)with
   |true=>rw[so.tr _ _ _ h3 h]at h2;cases h2
   |false=>rw[so.tri _ _ h1 h3,h2]at h;cases h
def n8:SWO bF:=OL jB cO.key
def ix:SWO dp:=OL jZ Nd.key
def Cb:aO Tryz.prog 310:=⟨_,Tryz.func310,rfl,rfl⟩
def S9:aO Tryz.prog 301:=⟨_,Tryz.func301,rfl,rfl⟩
def swS(v va vb vn:Value)(i:Nat):St:=⟨dn 38 [(0,.v v),(1,.v va),(2,.v vb),(3,.v vn),(10,.v (iv i))],[]⟩
variable{d:Array cO}{vc:Value}
theorem ON{I A:PH}{v:Value}{a b n:Nat}(hA:eF I A v d.toList)(a3:a+n<=b)(hb:b+n<=d.size)(hn:d.size<=aN):
  aK Tryz.prog 310 #[v,iv a,iv b,iv n,vc] I [A] fun _ I2 qs=>∃A2 e,qs=[A2]/\eF I2 A2 v e.toList/\e.size=d.size/\RB a b n d e/\∀lo hi,lo<=a->b+n<=hi->hi<=d.size->PermIn lo hi d e:=by
 intro hd;unfold aN at hn;obtain⟨va,vk,rfl⟩:=Ow.one' hA;refine ah 38 Tryz.func310 fun w0=>?_
 try simp only[iv]
 refine aT ?_;refine aA (fun k=>n-k) (swS (.slice va d.size vk) (iv a) (iv b) (iv n)) (fun k H=>∃A2 e,H=U [I,A2]/\Dj [I,A2]/\k<=n/\e.size=d.size/\eF I A2 (.slice va d.size vk) e.toList/\RB a b k d e/\∀lo hi,lo<=a->b+n<=hi->hi<=d.size->PermIn lo hi d e) 0 bM (by simp only[go_sem,aa6,swS]) ?_ ?_
 ·exact⟨A,d,rfl,hd,aaL _,rfl,hA,RB.zero _ _ _,fun lo hi _ _ _=>permIn_refl _ _ _⟩
 rintro k H ⟨A2,e,rfl,aj,hk,ac,aS,ao,aq⟩ aa;simp only[swS];rcases aaf k n with an|a4
 ·have am:decide ((k:Int)<(n:Int))=true:=abU ab;have w1:IntKind.i64.wrap ((a:Int)+(k:Int))=((a+k:Nat):Int):=by
   have e0:(a:Int)+(k:Int)=((a+k:Nat):Int):=by omega
   rw[e0];exact wrap64 ab
  have w2:IntKind.i64.wrap ((b:Int)+(k:Int))=((b+k:Nat):Int):=by
   have e0:(b:Int)+(k:Int)=((b+k:Nat):Int):=by omega
   rw[e0];exact wrap64 ab
  have w3:IntKind.i64.wrap ((k:Int)+1)=((k+1:Nat):Int):=by
   have e0:(k:Int)+1=((k+1:Nat):Int):=by omega
   rw[e0];exact wrap64 ab
  apply RG;simp only[go_sem,iv,am];obtain⟨g,cp,cur,ci,cj,ev,rfl,a2,ri,rj,li,lj,ki,kj,ak⟩:=Ow.two aS (fun{I} c a h=>eG.len c a h) (fun{I J c a} h k=>eG.le h k) (i:=a+k) (j:=b+k) ab ab;rw[ac]at ev a2;cases ev
  have mi:((a+k)+1)*4<=d.size*4:=aaQ _ ab;have mj:((b+k)+1)*4<=d.size*4:=aaQ _ ab;refine eP [0,1,2,3,4,5,6,7,8,9,10,11,12,13,14,15,16,17,18,19,20,21,22,23] [13,19] [] ?_;apply au;simp only[go_sem,iv,w1,w2];refine⟨ab,?_⟩;refine W7 (l:=cj) (v:=.agg cj.toArray) rfl (cellsU aj (.tail _ (.head _)) (by simpa using kj)) (.inl ⟨by rw[lj];exact lW,rfl⟩) ?_;apply au;simp only[go_sem,iv,w1,w2];refine⟨ab,?_⟩;refine W7 (l:=ci) (v:=.agg ci.toArray) rfl (cellsU aj (.tail _ (.head _)) (by simpa using ki)) (.inl ⟨by rw[li];exact lW,rfl⟩) ?_;apply au;simp only[go_sem,iv,w1,w2];refine⟨ab,?_⟩;refine aQ aj rfl rfl rfl rfl rfl (ag (eG.ones rj)) (by rw[lj];exact yM) (by rw[lj];omega) fun a0=>?_;apply au;simp only[go_sem,iv,w1,w2];refine⟨ab,?_⟩;refine aQ a0 rfl rfl rfl rfl rfl (ag (eG.ones ri)) (by rw[li];exact yM) (by rw[li];simp[aX];omega) fun a1=>?_;refine aw ?_;apply RG;simp only[go_sem,iv,w3];exact aa (k+1) _ _ ab bM (by simp only[go_sem,aa6,swS]) ⟨_,_,rfl,a1,an,by rw[al];exact ac,ak I (abW _),ao.step ac an a3 hb,fun lo hi h1 h2 h3=>permIn_trans _ _ _ lo hi (aq lo hi h1 h2 h3) (swp_permIn _ lo hi _ _ ab ab ab ab ab)⟩
 ·have am:decide ((k:Int)<(n:Int))=false:=abT ab;have:k=n:=by omega
  subst this;apply RG;simp only[go_sem,iv,am];exact d8 rfl aj (r:=[]) rfl (abW _) ⟨A2,e,rfl,aS,ac,ao,aq⟩
def roS(v vm vc:Value)(x:Nat×Nat):St:=⟨dn 58 [(0,.v v),(2,.v vm),(4,.v vc),(10,.v (iv x.1)),(11,.v (iv x.2))],[]⟩
theorem acu{I A:PH}{v:Value}{a m b:Nat}(hA:eF I A v d.toList)(b1:a<m)(b0:m<b)(hb:b<=d.size)(hn:d.size<=aN):
  aK Tryz.prog 301 #[v,iv a,iv m,iv b,vc] I [A] fun _ I2 qs=>∃A2 e,qs=[A2]/\eF I2 A2 v e.toList/\PermIn a b d e/\AF m (m-a) (b-m) d e:=by
 intro hd;have ba:=hn;unfold aN at ba;obtain⟨va,vk,rfl⟩:=Ow.one' hA;obtain⟨t,bx,a5⟩:=AF.ex m (m-a) (b-m) d ab ab;refine ah 58 Tryz.func301 fun w0=>?_
 try simp only[iv]
 have w1:IntKind.i64.wrap ((m:Int)-(a:Int))=((m-a:Nat):Int):=by
  rw[cH ab ab];omega
 have w2:IntKind.i64.wrap ((b:Int)-(m:Int))=((b-m:Nat):Int):=by
  rw[cH ab ab];omega
 apply RG;simp only[go_sem,w1,w2];refine aA (fun x=>x.1+x.2) (roS (.slice va d.size vk) (iv m) vc) (fun x H=>∃I2 A2 c,H=U [I2,A2]/\Dj [I2,A2]/\I.le I2/\eF I2 A2 (.slice va d.size vk) c.toList/\PermIn a b d c/\0<x.1/\0<x.2/\x.1<=m-a/\x.2<=b-m/\AF m x.1 x.2 c t) (m-a,b-m) bM (by simp only[go_sem,aa6,roS]) ?_ ?_
 ·exact⟨I,A,d,rfl,hd,abW _,hA,permIn_refl _ _ _,by simp only;omega,by simp only;omega,ZR _,ZR _,a5⟩
 rintro⟨i,j⟩ H ⟨I2,A2,c,rfl,a1,ak,a2,a0,a7,a6,hi,hj,aS⟩ ac;simp only at a7 a6 hi hj aS;simp only[roS];have bs:=a0.1;have w3:IntKind.i64.wrap ((m:Int)-(i:Int))=((m-i:Nat):Int):=by
  rw[cH ab ab];omega
 have w4:IntKind.i64.wrap ((m:Int)+(j:Int))=((m+j:Nat):Int):=by
  have e0:(m:Int)+(j:Int)=((m+j:Nat):Int):=by omega
  rw[e0];exact wrap64 ab
 rcases aal i j with bb|bd|bc
 ·have aq:((i:Int) != (j:Int))=true:=by rw[bne_iff_ne];omega
  have a3:decide ((i:Int)>(j:Int))=false:=abT ab;have w5:IntKind.i64.wrap (((m+j:Nat):Int)-(i:Int))=((m+j-i:Nat):Int):=by
   rw[cH ab ab];omega
  have w6:IntKind.i64.wrap ((j:Int)-(i:Int))=((j-i:Nat):Int):=by
   rw[cH ab ab];omega
  apply RG;simp only[go_sem,iv,aq,a3,w3,w4,w5];refine ad a1 [0] [A2] [] rfl Cb rfl (ON (a:=m-i) (b:=m+j-i) (n:=i) a2 ab ab ab) fun v I3 qs aj aa hq=>?_;obtain⟨A3,e,rfl,ao,a4,am,an⟩:=hq;simp only[Z3]at aj |-;apply RG;simp only[go_sem,iv,w6];exact ac (i,j-i) _ _ dt bM (by simp only[go_sem,aa6,roS]) ⟨I3,A3,e,rfl,aj,abV ak aa,ao,permIn_trans _ _ _ a b a0 (an a b ab ab ab),a7,by simp only;omega,hi,by simp only;omega,aS.right am bb ab⟩
 ·subst bd;have aq:((i:Int) != (i:Int))=false:=by simp
  apply RG;simp only[go_sem,iv,aq,w3];refine ad a1 [0] [A2] [] rfl Cb rfl (ON (a:=m-i) (b:=m) (n:=i) a2 ab ab ab) fun v I3 qs aj aa hq=>?_;obtain⟨A3,e,rfl,ao,a4,am,an⟩:=hq;simp only[Z3]at aj |-;refine dP ?_;have a9:=aS.last am ab ab;exact d8 rfl aj (r:=[]) rfl (abV ak aa) ⟨A3,e,rfl,ao,permIn_trans _ _ _ a b a0 (an a b ab ab ab),by rw[<-a9];exact a5⟩
 ·have aq:((i:Int) != (j:Int))=true:=by rw[bne_iff_ne];omega
  have a3:decide ((i:Int)>(j:Int))=true:=abU ab;have w6:IntKind.i64.wrap ((i:Int)-(j:Int))=((i-j:Nat):Int):=by
   rw[cH ab ab];omega
  apply RG;simp only[go_sem,iv,aq,a3,w3];refine ad a1 [0] [A2] [] rfl Cb rfl (ON (a:=m-i) (b:=m) (n:=j) a2 ab ab ab) fun v I3 qs aj aa hq=>?_;obtain⟨A3,e,rfl,ao,a4,am,an⟩:=hq;simp only[Z3]at aj |-;apply RG;simp only[go_sem,iv,w6];exact ac (i-j,j) _ _ dt bM (by simp only[go_sem,aa6,roS]) ⟨I3,A3,e,rfl,aj,abV ak aa,ao,permIn_trans _ _ _ a b a0 (an a b ab ab ab),by simp only;omega,a6,by simp only;omega,hj,aS.left am bc ab⟩
def KL:aO Tryz.prog 296:=⟨_,Tryz.func296,rfl,rfl⟩
def Sk:aO Tryz.prog 272:=⟨_,Tryz.func272,rfl,rfl⟩
def sdS(v vh vf vc:Value)(r:Nat):St:=⟨dn 82 [(0,.v v),(2,.v vh),(3,.v vf),(4,.v vc),(10,.v (iv r))],[]⟩
theorem Pi{I A:PH}{v:Value}{d:Array Nd}{lo hi first:Nat}(hA:bQ I A v d.toList)(hc:mC bm dp vc)(hb:first+hi<=d.size)(hn:d.size<=aN)(b0:lo<=d.size):
  aK Tryz.prog 296 #[v,iv lo,iv hi,iv first,vc] I [A] fun _ I2 qs=>∃A2,qs=[A2]/\bQ I2 A2 v (Sort.siftDown dp hi first lo d).toList/\(Sort.siftDown dp hi first lo d).size=d.size:=by
 intro hd;unfold aN at hn;obtain⟨f,fst,cap,rfl,gf,cf⟩:=id hc;obtain⟨va,vk,rfl⟩:=Ow.one' hA;refine ah 82 Tryz.func296 fun w0=>?_
 try simp only[iv]
 refine aT ?_;refine aA (fun r=>hi-r) (sdS (.slice va d.size vk) (iv hi) (iv first) (.func (.func f) fst cap)) (fun r H=>∃I2 A2 d2,H=U [I2,A2]/\Dj [I2,A2]/\I.le I2/\r<=d.size/\d2.size=d.size/\bQ I2 A2 (.slice va d.size vk) d2.toList/\Sort.siftDown dp hi first r d2=Sort.siftDown dp hi first lo d) lo bM (by simp only[go_sem,aa6,sdS]) ?_ ?_
 ·exact⟨I,A,d,rfl,hd,abW _,b0,rfl,hA,rfl⟩
 rintro r H ⟨I2,A2,d2,rfl,a9,an,hr,aS,a6,ac⟩ a0;simp only[sdS];have w1:IntKind.i64.wrap (2*(r:Int))=((2*r:Nat):Int):=by
  rw[<-wrap64 (n:=2*r) ab];congr 1<;>omega
 have w2:IntKind.i64.wrap (((2*r:Nat):Int)+1)=((2*r+1:Nat):Int):=by
  rw[<-wrap64 (n:=2*r+1) ab];congr 1<;>omega
 have w3:IntKind.i64.wrap (((2*r+1:Nat):Int)+1)=((2*r+2:Nat):Int):=by
  rw[<-wrap64 (n:=2*r+2) ab];congr 1<;>omega
 rcases aaf (2*r+1) hi with b3|b1
 ·have bs:decide (((2*r+1:Nat):Int)>=(hi:Int))=false:=abT ab;rw[Sort.siftDown,dif_neg ab]at ac;have a1:IntKind.i64.wrap ((first:Int)+((2*r+1:Nat):Int))=((first+(2*r+1):Nat):Int):=by
   rw[<-wrap64 (n:=first+(2*r+1)) ab];congr 1<;>omega
  have a2:IntKind.i64.wrap (((first+(2*r+1):Nat):Int)+1)=((first+(2*r+2):Nat):Int):=by
   rw[<-wrap64 (n:=first+(2*r+2)) ab];congr 1<;>omega
  have a3:IntKind.i64.wrap ((first:Int)+(r:Int))=((first+r:Nat):Int):=by
   rw[<-wrap64 (n:=first+r) ab];congr 1<;>omega
  have a4:IntKind.i64.wrap ((first:Int)+((2*r+2:Nat):Int))=((first+(2*r+2):Nat):Int):=by
   rw[<-wrap64 (n:=first+(2*r+2)) ab];congr 1<;>omega
  apply RG;simp only[go_sem,iv,w1,w2,bs];rcases aaf (2*r+2) hi with h2|h2
  ·have bc:decide (((2*r+2:Nat):Int)<(hi:Int))=true:=abU ab;obtain⟨g,cp,cur,ci,cj,ev,rfl,b2,ri,rj,li,lj,ki,kj,bx⟩:=Ow.two a6 (fun{I} c a h=>bm.len c a h) (fun{I J c a} h k=>bm.le h k) (i:=first+(2*r+1)) (j:=first+(2*r+2)) ab ab;rw[aS]at ev b2;cases ev
   refine eP [0,1,2,3,4,5,6,7,8,9,10,11,12,13,14,15,16,17,18,19,20,21] [11,18] [] ?_;apply au;simp only[go_sem,iv,w3,bc,a1,a2];refine⟨ab,?_⟩;refine W7 (l:=ci) (v:=.agg ci.toArray) rfl (cellsU a9 (.tail _ (.head _)) (by simpa using ki)) (.inl ⟨by rw[li];exact cL,rfl⟩) ?_;apply au;simp only[go_sem,iv,w3,bc,a1,a2];refine⟨ab,?_⟩;refine W7 (l:=cj) (v:=.agg cj.toArray) rfl (cellsU a9 (.tail _ (.head _)) (by simpa using kj)) (.inl ⟨by rw[lj];exact cL,rfl⟩) ?_;apply au;simp only[go_sem,iv,w3,bc,a1,a2];refine aE a9 [0] [] [_] rfl gf rfl (cf I2 _ _ _ _ ri rj) fun v I3 qs a7 ak hq=>?_;obtain⟨rfl,z,rfl,hz⟩:=hq;simp only[Z3]at a7 |-;refine dS ?_;refine aw ?_;cases hl:dp d2[first+(2*r+1)]! d2[first+(2*r+2)]! with
   |true=>
    rw[hl]at hz;have bd:dp d2[first+(2*r+1)]! d2[first+(2*r+1)+1]! = true:=hl;rw[aaq (by simp only[bd,abv,aaC];omega)]at ac;apply RG;simp only[go_sem,iv,hz,w3];obtain⟨gq,cpq,curq,ciq,cjq,evq,eAq,a5,riq,rjq,liq,ljq,kiq,kjq,aj⟩:=Ow.two (bQ.le a6 ak) (fun{I} c a h=>bm.len c a h) (fun{I J c a} h k=>bm.le h k) (i:=first+r) (j:=first+(2*r+2)) ab ab;rw[aS]at evq a5;cases evq
    obtain rfl:=gA eAq;clear eAq;refine eP [0,1,2,3,4,5,6,7,8,9,10,11,12,13,14,15] [6,12] [] ?_;apply au;simp only[go_sem,iv,a1,a2,a3,a4];refine⟨ab,?_⟩;refine W7 (l:=ciq) (v:=.agg ciq.toArray) rfl (cellsU a7 (.tail _ (.head _)) (by simpa using kiq)) (.inl ⟨by rw[liq];exact cL,rfl⟩) ?_;apply au;simp only[go_sem,iv,a1,a2,a3,a4];refine⟨ab,?_⟩;refine W7 (l:=cjq) (v:=.agg cjq.toArray) rfl (cellsU a7 (.tail _ (.head _)) (by simpa using kjq)) (.inl ⟨by rw[ljq];exact cL,rfl⟩) ?_;apply au;simp only[go_sem,iv,a1,a2,a3,a4];refine aE a7 [0] [] [_] rfl gf rfl (cf I3 _ _ _ _ riq rjq) fun v I6 qs am aa hq=>?_;obtain⟨rfl,z,rfl,ao⟩:=hq;simp only[Z3]at am |-;refine dS ?_;refine aw ?_;cases aq:dp d2[first+r]! d2[first+(2*r+2)]! with
    |false=>
     rw[aq]at ao;rw[aaq (by simp[aq])]at ac;apply RG;simp only[go_sem,iv,ao,abK];exact af rfl am (r:=[]) rfl (abV an (abV ak aa)) ⟨_,rfl,by rw[<-ac];exact bQ.le a6 (abV ak aa),by rw[<-ac];exact aS⟩
    |true=>
     rw[aq]at ao;rw[ZV (by simp[aq])]at ac;rw[dif_pos h2]at ac;apply RG;simp only[go_sem,iv,ao,abQ];have mi:((first+r)+1)*7<=d.size*7:=aaQ _ ab;have mj:((first+(2*r+2))+1)*7<=d.size*7:=aaQ _ ab;refine eP [0,1,2,3,4,5,6,7,8,9,10,11,12,13,14,15,16,17,18,19,20,21,22,23] [13,19] [] ?_;apply au;simp only[go_sem,iv,a1,a2,a3,a4];refine⟨ab,?_⟩;refine W7 (l:=cjq) (v:=.agg cjq.toArray) rfl (cellsU am (.tail _ (.head _)) (by simpa using kjq)) (.inl ⟨by rw[ljq];exact cL,rfl⟩) ?_;apply au;simp only[go_sem,iv,a1,a2,a3,a4];refine⟨ab,?_⟩;refine W7 (l:=ciq) (v:=.agg ciq.toArray) rfl (cellsU am (.tail _ (.head _)) (by simpa using kiq)) (.inl ⟨by rw[liq];exact cL,rfl⟩) ?_;apply au;simp only[go_sem,iv,a1,a2,a3,a4];refine⟨ab,?_⟩;refine aQ am rfl rfl rfl rfl rfl (ag (bm.ones rjq)) (by rw[ljq];exact aU) (by rw[ljq];omega) fun ba=>?_;apply au;simp only[go_sem,iv,a1,a2,a3,a4];refine⟨ab,?_⟩;refine aQ ba rfl rfl rfl rfl rfl (ag (bm.ones riq)) (by rw[liq];exact aU) (by rw[liq];simp[aX];omega) fun bb=>?_;refine aw ?_;refine dP ?_;exact a0 (2*r+2) _ _ ab bM (by simp only[go_sem,aa6,sdS]) ⟨I6,_,_,rfl,bb,abV an (abV ak aa),ab,by rw[al];exact aS,aj I6 aa,ac⟩
   |false=>
    rw[hl]at hz;have bd:dp d2[first+(2*r+1)]! d2[first+(2*r+1)+1]! = false:=hl;rw[ZV (by simp only[bd,Bool.and_false];decide)]at ac;apply RG;simp only[go_sem,iv,hz];obtain⟨gq,cpq,curq,ciq,cjq,evq,eAq,a5,riq,rjq,liq,ljq,kiq,kjq,aj⟩:=Ow.two (bQ.le a6 ak) (fun{I} c a h=>bm.len c a h) (fun{I J c a} h k=>bm.le h k) (i:=first+r) (j:=first+(2*r+1)) ab ab;rw[aS]at evq a5;cases evq
    obtain rfl:=gA eAq;clear eAq;refine eP [0,1,2,3,4,5,6,7,8,9,10,11,12,13,14,15] [6,12] [] ?_;apply au;simp only[go_sem,iv,a1,a2,a3,a4];refine⟨ab,?_⟩;refine W7 (l:=ciq) (v:=.agg ciq.toArray) rfl (cellsU a7 (.tail _ (.head _)) (by simpa using kiq)) (.inl ⟨by rw[liq];exact cL,rfl⟩) ?_;apply au;simp only[go_sem,iv,a1,a2,a3,a4];refine⟨ab,?_⟩;refine W7 (l:=cjq) (v:=.agg cjq.toArray) rfl (cellsU a7 (.tail _ (.head _)) (by simpa using kjq)) (.inl ⟨by rw[ljq];exact cL,rfl⟩) ?_;apply au;simp only[go_sem,iv,a1,a2,a3,a4];refine aE a7 [0] [] [_] rfl gf rfl (cf I3 _ _ _ _ riq rjq) fun v I6 qs am aa hq=>?_;obtain⟨rfl,z,rfl,ao⟩:=hq;simp only[Z3]at am |-;refine dS ?_;refine aw ?_;cases aq:dp d2[first+r]! d2[first+(2*r+1)]! with
    |false=>
     rw[aq]at ao;rw[aaq (by simp[aq])]at ac;apply RG;simp only[go_sem,iv,ao,abK];exact af rfl am (r:=[]) rfl (abV an (abV ak aa)) ⟨_,rfl,by rw[<-ac];exact bQ.le a6 (abV ak aa),by rw[<-ac];exact aS⟩
    |true=>
     rw[aq]at ao;rw[ZV (by simp[aq])]at ac;apply RG;simp only[go_sem,iv,ao,abQ];have mi:((first+r)+1)*7<=d.size*7:=aaQ _ ab;have mj:((first+(2*r+1))+1)*7<=d.size*7:=aaQ _ ab;refine eP [0,1,2,3,4,5,6,7,8,9,10,11,12,13,14,15,16,17,18,19,20,21,22,23] [13,19] [] ?_;apply au;simp only[go_sem,iv,a1,a2,a3,a4];refine⟨ab,?_⟩;refine W7 (l:=cjq) (v:=.agg cjq.toArray) rfl (cellsU am (.tail _ (.head _)) (by simpa using kjq)) (.inl ⟨by rw[ljq];exact cL,rfl⟩) ?_;apply au;simp only[go_sem,iv,a1,a2,a3,a4];refine⟨ab,?_⟩;refine W7 (l:=ciq) (v:=.agg ciq.toArray) rfl (cellsU am (.tail _ (.head _)) (by simpa using kiq)) (.inl ⟨by rw[liq];exact cL,rfl⟩) ?_;apply au;simp only[go_sem,iv,a1,a2,a3,a4];refine⟨ab,?_⟩;refine aQ am rfl rfl rfl rfl rfl (ag (bm.ones rjq)) (by rw[ljq];exact aU) (by rw[ljq];omega) fun ba=>?_;apply au;simp only[go_sem,iv,a1,a2,a3,a4];refine⟨ab,?_⟩;refine aQ ba rfl rfl rfl rfl rfl (ag (bm.ones riq)) (by rw[liq];exact aU) (by rw[liq];simp[aX];omega) fun bb=>?_;refine aw ?_;refine dP ?_;exact a0 (2*r+1) _ _ ab bM (by simp only[go_sem,aa6,sdS]) ⟨I6,_,_,rfl,bb,abV an (abV ak aa),ab,by rw[al];exact aS,aj I6 aa,ac⟩
  ·have bc:decide (((2*r+2:Nat):Int)<(hi:Int))=false:=abT ab;rw[ZV (by simp;omega)]at ac;refine eP [0,1,2,3,4,5,6,7,8,9,10,11,12,13,14,15,16,17,18,19,20,21] [11,18] [] ?_;apply au;simp only[go_sem,iv,w3,bc];refine aw ?_;refine dP ?_;obtain⟨gq,cpq,curq,ciq,cjq,evq,rfl,a5,riq,rjq,liq,ljq,kiq,kjq,aj⟩:=Ow.two (bQ.le a6 (abW _)) (fun{I} c a h=>bm.len c a h) (fun{I J c a} h k=>bm.le h k) (i:=first+r) (j:=first+(2*r+1)) ab ab;rw[aS]at evq a5;cases evq
   refine eP [0,1,2,3,4,5,6,7,8,9,10,11,12,13,14,15] [6,12] [] ?_;apply au;simp only[go_sem,iv,a1,a2,a3,a4];refine⟨ab,?_⟩;refine W7 (l:=ciq) (v:=.agg ciq.toArray) rfl (cellsU a9 (.tail _ (.head _)) (by simpa using kiq)) (.inl ⟨by rw[liq];exact cL,rfl⟩) ?_;apply au;simp only[go_sem,iv,a1,a2,a3,a4];refine⟨ab,?_⟩;refine W7 (l:=cjq) (v:=.agg cjq.toArray) rfl (cellsU a9 (.tail _ (.head _)) (by simpa using kjq)) (.inl ⟨by rw[ljq];exact cL,rfl⟩) ?_;apply au;simp only[go_sem,iv,a1,a2,a3,a4];refine aE a9 [0] [] [_] rfl gf rfl (cf I2 _ _ _ _ riq rjq) fun v I6 qs am aa hq=>?_;obtain⟨rfl,z,rfl,ao⟩:=hq;simp only[Z3]at am |-;refine dS ?_;refine aw ?_;cases aq:dp d2[first+r]! d2[first+(2*r+1)]! with
   |false=>
    rw[aq]at ao;rw[aaq (by simp[aq])]at ac;apply RG;simp only[go_sem,iv,ao,abK];exact af rfl am (r:=[]) rfl (abV an (abV (abW _) aa)) ⟨_,rfl,by rw[<-ac];exact bQ.le a6 (abV (abW _) aa),by rw[<-ac];exact aS⟩
   |true=>
    rw[aq]at ao;rw[ZV (by simp[aq])]at ac;apply RG;simp only[go_sem,iv,ao,abQ];have mi:((first+r)+1)*7<=d.size*7:=aaQ _ ab;have mj:((first+(2*r+1))+1)*7<=d.size*7:=aaQ _ ab;refine eP [0,1,2,3,4,5,6,7,8,9,10,11,12,13,14,15,16,17,18,19,20,21,22,23] [13,19] [] ?_;apply au;simp only[go_sem,iv,a1,a2,a3,a4];refine⟨ab,?_⟩;refine W7 (l:=cjq) (v:=.agg cjq.toArray) rfl (cellsU am (.tail _ (.head _)) (by simpa using kjq)) (.inl ⟨by rw[ljq];exact cL,rfl⟩) ?_;apply au;simp only[go_sem,iv,a1,a2,a3,a4];refine⟨ab,?_⟩;refine W7 (l:=ciq) (v:=.agg ciq.toArray) rfl (cellsU am (.tail _ (.head _)) (by simpa using kiq)) (.inl ⟨by rw[liq];exact cL,rfl⟩) ?_;apply au;simp only[go_sem,iv,a1,a2,a3,a4];refine⟨ab,?_⟩;refine aQ am rfl rfl rfl rfl rfl (ag (bm.ones rjq)) (by rw[ljq];exact aU) (by rw[ljq];omega) fun ba=>?_;apply au;simp only[go_sem,iv,a1,a2,a3,a4];refine⟨ab,?_⟩;refine aQ ba rfl rfl rfl rfl rfl (ag (bm.ones riq)) (by rw[liq];exact aU) (by rw[liq];simp[aX];omega) fun bb=>?_;refine aw ?_;refine dP ?_;exact a0 (2*r+1) _ _ ab bM (by simp only[go_sem,aa6,sdS]) ⟨I6,_,_,rfl,bb,abV an (abV (abW _) aa),ab,by rw[al];exact aS,aj I6 aa,ac⟩
 ·have bs:decide (((2*r+1:Nat):Int)>=(hi:Int))=true:=abU ab;rw[Sort.siftDown,dif_pos b1]at ac;apply RG;simp only[go_sem,iv,w1,w2,bs];exact d8 rfl a9 (r:=[]) rfl an ⟨A2,rfl,by rw[<-ac];exact a6,by rw[<-ac];exact aS⟩
end Go.Proofs.YtfaclfkpnmcmlaaGreatDoor
