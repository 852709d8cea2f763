import Derived.Test.YtfaclfkpnmcmlaaGreatDoorG00
import Derived.Test.YtfaclfkpnmcmlaaGreatDoorG13
import Derived.Sort.AssemblyPlain
set_option maxHeartbeats 8000000
set_option linter.all false
open Go.Proofs.Tryz hiding f9
namespace Go.Proofs.YtfaclfkpnmcmlaaGreatDoor
open Go Go.Sx Dg Syn
def Cz:ay prog 23:=⟨_,func23,rfl,rfl⟩
def PT:ay prog 34:=⟨_,func34,rfl,rfl⟩
def CJ:ay prog 63:=⟨_,func63,rfl,rfl⟩
def P5:ay prog 64:=⟨_,func64,rfl,rfl⟩
def Cw:ay prog 21:=⟨_,func21,rfl,rfl⟩
def CA:ay prog 25:=⟨_,func25,rfl,rfl⟩
def P8:ay prog 69:=⟨_,func69,rfl,rfl⟩
def p0(_:PH)(c:List Value)(x:Nat×Nat):Prop:=c=[.int .u32 x.1,.int .u32 x.2]/\x.1<2^32/\x.2<2^32
abbrev gd(I:PH)(v:Value)(l:List (Nat×Nat)):Prop:=Sl p0 I v l
variable{I:PH}
def p0.len(c:List Value)(x:Nat×Nat)(h:p0 I c x):c.length=2:=by rw[h.1];rfl
variable{l:List (Nat×Nat)}{v:Value}
def gd.le{J:PH}(h:gd I v l)(k:I.le J):gd J v l:=Sl.le (R:=p0) (fun{I J c a} h k=>h) h k
def zG(v:Value)(x:Nat×Option Addr×Nat×T):St:=⟨dn 26 [(0,.v v),(2,.p 2 0),(3,.p 3 0),(4,.v (E x.1))],[⟨2,50,[.slice none 0 0,.int .i64 0]⟩,⟨3,50,[sD x.2.1 x.2.2.1 x.2.2.2,rD x.2.2.2]⟩]⟩
def UC(l:List (Nat×Nat))(a:PH)(x:Nat×Option Addr×Nat×T)(H:PH):Prop:=∃I,H=U [I]/\Dj [I]/\a.le I/\x.1<=l.length/\x.2.2.2=fE (l.take x.1)/\bO I (.agg #[sD x.2.1 x.2.2.1 x.2.2.2,rD x.2.2.2]) x.2.2.2
variable{i:Nat}
def cw{α:Type}{l:List α}{n:α}(h:l[i]?=some n):l.take (i+1)=l.take i++[n]:=by rw[List.take_add_one,h];rfl
def DU(A:gd I v l)(U:l.length<2^60):aI prog 23 #[v] I [] fun r I2 qs=>qs=[]/\bO I2 r (fE l):=by
 obtain⟨G,vc,rfl,_⟩:=id A;intro hd;refine aG 26 func23 fun w0=>?_;refine af ?_;refine Xa rfl u0 (uS _) ?_;rintro v H2⟨rfl,rfl⟩;refine av ?_;refine bz (fun x=>l.length-x.1) (zG (.slice G l.length vc)) (UC l I) (0,none,0,.lf false) ae (by simp only[go_sem,ab,zG,sD,rD,E,T.subs,T.vis,T.plc,bA,iN,gT]) ?_ ?_
 .exact⟨I,rfl,hd,ax _,bg _,rfl,nV I false⟩
 rintro⟨i,M,L,d⟩ H ⟨V,rfl,j,e,hi,g,hr⟩ m;simp only at hi g hr;simp only[zG];rcases aB i l.length with p|J
 .have y:=Z5 i l.length;have K:=Z7 i;obtain⟨x,z⟩:∃x,l[i]?=some x:=⟨_,aL p⟩;obtain⟨b,off,cs,rfl,⟨rfl,F,D⟩,f⟩:=Sl.load (fun{I} c a h=>p0.len (I:=I) c a h) (gd.le A e) z;have c0:=f.get (i:=0) rfl;have N:=f.get (i:=1) rfl;refine aj y ?_;refine aV [0,1,2,3,4,5,6,7,8,9,10,11,12,13] [5,10] [] ?_;refine bV ?_
  try refine⟨O,?_⟩
  refine Xc (l:=[.int .u32 x.1]) rfl (cellsU j (.head _) (by simpa using c0)) (.inr ⟨dz,rfl⟩) ?_;refine bV ?_
  try refine⟨O,?_⟩
  refine Xc (l:=[.int .u32 x.2]) rfl (cellsU j (.head _) (by simpa using N)) (.inr ⟨dz,rfl⟩) ?_;refine bV ?_;refine cP j rfl P8 (FY F D) ?_;rintro S I2 qs w k⟨rfl,s⟩;obtain⟨R,Q,rfl⟩:=s.shape2;refine bV ?_;refine cP w rfl pi (pH (hr.le k) s) ?_;rintro v2 P qs u q⟨rfl,o⟩;obtain⟨C,B,rfl⟩:=o.shape2;refine bV ?_;apply an;refine aj K ?_;refine m (i+1,C,B,d.or (gY x.1 x.2)) _ _ bC ae (by simp only[go_sem,ab,zG,sD,rD,E]) ⟨P,rfl,u,Y e (Y k q),p,?_,o⟩;simp only;rw[cw z,g];unfold fE;rw[lP];rfl
 .have:i=l.length:=by omega
  subst this;rw[cB]at g;have y:decide (((l.length:Nat):Int)<(l.length:Int))=false:=ai;refine dr y ?_;exact ao rfl j (r:=[.agg #[sD M L d,rD d]]) (by simp only[results23,go_sem,E,sD,rD]) e ⟨rfl,by rw[<-g];exact hr⟩
def vg(v:Value)(c:Nat)(i:Nat):St:=⟨dn 38 [(0,.v v),(1,.v (.int .u32 c)),(5,.v (E i))],[]⟩
variable{H:PH}
def QJ{c:Nat}(t:gd H v l)(B:l.length<2^60)(m:c<2^32):aJ prog 34 #[v,.int .u32 c] H fun r H2=>r=.bool (jh l c)/\H2=H:=by
 obtain⟨y,vc,rfl,_⟩:=id t;refine aG 38 func34 fun w0=>?_;refine af ?_;refine bz (fun x=>l.length-x) (vg (.slice y l.length vc) c) (fun i H2=>H2=H/\i<=l.length/\jh l c=(l.drop i).any (kh c)) 0 ae (by simp only[go_sem,ab,vg]) ⟨rfl,bg _,rfl⟩ ?_;rintro i H2 ⟨rfl,hi,ha⟩ d;simp only[vg];rcases aB i l.length with e|z
 .have q:=Z5 i l.length;have u:=Z7 i;obtain⟨x,o⟩:∃x,l[i]?=some x:=⟨_,aL e⟩;obtain⟨b,off,cs,rfl,⟨rfl,s,w⟩,g⟩:=Sl.load (fun{I} c a h=>p0.len (I:=I) c a h) t o;have c0:=g.get (i:=0) rfl;have A:=g.get (i:=1) rfl;have p:l.drop i=x::l.drop (i+1):=by rw[jv e];rw[aL e]at o;rw[df o]
  rw[p,List.any_cons]at ha;have b1:c&&&x.1<2^32:=jy Nat.and_le_left m;have b2:c&&&x.2<2^32:=jy Nat.and_le_left m;have a1:=jL m s;have a2:j8 .u32 ((c&&&x.1:Nat):Int) 16777215=(((c&&&x.1)&&&16777215:Nat):Int):=jL b1 aR;have a3:j8 .u32 ((x.1:Nat):Int) 16777215=((x.1&&&16777215:Nat):Int):=jL s aR;have a4:=jL m w;have a5:j8 .u32 ((c&&&x.2:Nat):Int) 16777215=(((c&&&x.2)&&&16777215:Nat):Int):=jL b2 aR;have k:=pp ((c&&&x.1)&&&16777215) (x.1&&&16777215);have j:((((c&&&x.2)&&&16777215:Nat):Int) == 0)=decide ((c&&&x.2)&&&16777215=0):=kf _;refine aj q ?_;refine aV [0,1,2,3,4,5,6,7,8,9,10,11,12,13,14,15,16,17,18,19,20,21,22,23,24,25] [5,12,21] [] ?_;refine aC ?_
  try refine⟨O,?_⟩
  refine Xc (l:=[.int .u32 x.1]) rfl (by simpa using c0) (.inr ⟨dz,rfl⟩) ?_;refine aC ?_
  try refine⟨O,?_⟩
  refine Xc (l:=[.int .u32 x.1]) rfl (by simpa using c0) (.inr ⟨dz,rfl⟩) ?_;cases h1:decide ((c&&&x.1)&&&16777215=x.1&&&16777215)
  .rw[h1]at k;have f:kh c x=false:=by unfold kh;rw[h1];rfl
   refine eM a1 a2 a3 k ?_;apply an;refine aj u ?_;exact d (i+1) _ _ O ae (by simp only[go_sem,ab,vg]) ⟨rfl,e,by rw[ha,f,ju]⟩
  .rw[h1]at k;refine eM a1 a2 a3 k ?_
   try refine⟨O,?_⟩
   refine Xc (l:=[.int .u32 x.2]) rfl (by simpa using A) (.inr ⟨dz,rfl⟩) ?_;cases h2:decide ((c&&&x.2)&&&16777215=0)
   .rw[h2]at j;have f:kh c x=false:=by unfold kh;rw[h2,Bool.and_false]
    apply bp;simp only[go_sem,E,a4,a5,j];apply an;refine aj u ?_;exact d (i+1) _ _ O ae (by simp only[go_sem,ab,vg]) ⟨rfl,e,by rw[ha,f,ju]⟩
   .rw[h2]at j;have f:kh c x=true:=by unfold kh;rw[h1,h2];rfl
    apply bp;simp only[go_sem,E,a4,a5,j];apply an;refine av ?_;exact au (r:=[_]) rfl ⟨by rw[ha,f];rfl,rfl⟩
 .have:i=l.length:=by omega
  subst this;rw[jw]at ha;have q:decide (((l.length:Nat):Int)<(l.length:Int))=false:=ai;refine aj q ?_;exact au (r:=[_]) rfl ⟨by rw[ha];rfl,rfl⟩
def xJ(v:Value)(x:Nat×Nat):St:=⟨dn 26 [(0,.v v),(3,.v (.int .u32 x.2)),(4,.v (E x.1))],[]⟩
def Bw(s:gd H v l)(C:l.length<2^60):aJ prog 63 #[v] H fun r H2=>r=.int .u32 (gC l:Nat)/\H2=H:=by
 obtain⟨t,vc,rfl,_⟩:=id s;refine aG 26 func63 fun w0=>?_;refine af ?_;refine bz (fun x=>l.length-x.1) (xJ (.slice t l.length vc)) (fun x H2=>H2=H/\x.1<=l.length/\x.2<2^32/\x.2=uy (l.take x.1)) (0,0) ae (by simp only[go_sem,ab,xJ]) ⟨rfl,bg _,by decide,rfl⟩ ?_;rintro⟨i,u⟩ H2 ⟨rfl,hi,k,e⟩ f;simp only at hi k e;simp only[xJ];rcases aB i l.length with j|z
 .have m:=Z5 i l.length;have A:=Z7 i;obtain⟨x,q⟩:∃x,l[i]?=some x:=⟨_,aL j⟩;obtain⟨b,off,cs,rfl,⟨rfl,p,o⟩,d⟩:=Sl.load (fun{I} c a h=>p0.len (I:=I) c a h) s q;have c0:=d.get (i:=0) rfl;have B:=d.get (i:=1) rfl;have g:=Nat.or_lt_two_pow k p;have y:=pG k p;have w:=pG g o;refine aj m ?_;refine aV [0,1,2,3,4,5,6,7,8,9,10,11,12,13] [5,11] [] ?_;refine aC ?_
  try refine⟨O,?_⟩
  refine Xc (l:=[.int .u32 x.1]) rfl (by simpa using c0) (.inr ⟨dz,rfl⟩) ?_;refine aM y ?_
  try refine⟨O,?_⟩
  refine Xc (l:=[.int .u32 x.2]) rfl (by simpa using B) (.inr ⟨dz,rfl⟩) ?_;refine aM w ?_;apply an;refine aj A ?_;exact f (i+1,(u|||x.1)|||x.2) _ _ bC ae (by simp only[go_sem,ab,xJ]) ⟨rfl,j,Nat.or_lt_two_pow g o,by simp only;rw[cw q,Mo,<-e]⟩
 .have:i=l.length:=by omega
  subst this;have m:decide (((l.length:Nat):Int)<(l.length:Int))=false:=ai;have a1:j8 .u32 (u:Int) 16777215=((u&&&16777215:Nat):Int):=jL k aR;refine bW m a1 ?_;rw[cB]at e;exact au (r:=[_]) rfl ⟨by rw[e];rfl,rfl⟩
def bM(u:Nat):Nat->Nat
 |0=>0
 |i+1=>bM u i+(u.testBit i).toNat
def Dy(u:Nat):∀i,bM u i<=i
 |0=>aW _
 |i+1=>by have:=Dy u i;show bM u i+(u.testBit i).toNat<=i+1;cases u.testBit i<;>simp<;>omega
variable{j:Nat}
def TN(u:Nat)(h:i<=j):bM u i<=bM u j:=by
 induction h with
 |refl=>exact aW _
 |step _ a=>exact cO a (Nat.le_add_right _ _)
def Mn(u i:Nat):(u >>> i)&&&1=(u.testBit i).toNat:=by rw[Nat.and_one_is_mod,Nat.testBit_eq_decide_div_mod_eq,oh];have:=Nat.mod_two_eq_zero_or_one (u / 2^i);rcases this with h|h<;>simp[h]
def Ft{u:Nat}(a:u<2^32)(hi:i<=32):j8 .u32 (kw .u32 (u:Int) (i:Int)) 1=(((u.testBit i).toNat:Nat):Int):=by rw[zI hi,<-Mn];exact jL (b:=1) (zK a) aR
def yh(u most:Nat)(i:Nat):St:=⟨dn 21 [(0,.v (.int .u32 u)),(1,.v (E most)),(5,.v (E (bM u i))),(6,.v (E i))],[]⟩
def Ob{u most:Nat}(f:u<2^32):aJ prog 64 #[.int .u32 u,E most] H fun r H2=>r=.bool (decide (bM u 32<=most))/\H2=H:=by
 refine aG 21 func64 fun w0=>?_
 try simp only[E]
 refine af ?_;refine bz (fun x=>32-x) (yh u most) (fun i H2=>H2=H/\i<=32) 0 (n4 (by simp only[go_sem,ab,E,bM])) (by simp only[go_sem,ab,yh]) ⟨rfl,bg _⟩ ?_;rintro i H2 ⟨rfl,hi⟩ a;simp only[yh];have hp:=Dy u i;rcases aB i 32 with b|g
 .have h:decide ((i:Int)<32)=true:=ar O;have j:=Z7 i;have a1:=Ft f (i:=i) O;have b2:(u.testBit i).toNat<=1:=by cases u.testBit i<;>simp
  have d:IntKind.i64.wrap (((u.testBit i).toNat:Nat):Int)=(((u.testBit i).toNat:Nat):Int):=wrap64 O;have w2:IntKind.i64.wrap ((bM u i:Int)+(((u.testBit i).toNat:Nat):Int))=((bM u (i+1):Nat):Int):=by
   have e:(bM u i:Int)+(((u.testBit i).toNat:Nat):Int)=((bM u (i+1):Nat):Int):=by show _=(((bM u i+(u.testBit i).toNat:Nat)):Int);omega
   rw[e];exact wrap64 (by have:=Dy u (i+1);omega)
  apply RG;simp only[go_sem,E,h,fN,a1,d,w2,j];exact a (i+1) _ _ O ae (by simp only[go_sem,ab,yh]) ⟨rfl,b⟩
 .have:i=32:=by omega
  subst this;have c:decide ((bM u 32:Int)<=(most:Int))=decide (bM u 32<=most):=by rw[Bool.eq_iff_iff,cu,cu];omega
  apply RG;simp only[go_sem,E,bG,c];exact au (r:=[_]) rfl ⟨rfl,rfl⟩
instance:Inhabited Nd:=⟨⟨0,[],0,0,[],ff⟩⟩
instance:Inhabited aN:=⟨⟨0,0,ff⟩⟩
def Vr{α:Type}[Inhabited α](d:Array α)(i j:Nat):(Sort.swp d i j).toList=(d.toList.set i d[j]!).set j d[i]!:=by simp[Sort.swp]
def gQ{α:Type}[Inhabited α](d:Array α)(i j:Nat):(Sort.swp d i j).size=d.size:=by simp[Sort.swp]
def GD{α:Type}[Inhabited α](d:Array α)(h:i<d.size):d.toList[i]?=some d[i]!:=by simp[h]
def Jk(c cs:List Value)(h:c.length=cs.length):bi c 0 cs=cs:=by rw[lg _ _ _ O];simp[h]
variable{A:PH}{size:Nat}{e:TypeId}
def Ow.two{α:Type}[Inhabited α]{R:PH->List Value->α->Prop}{d:Array α}(h:Ow R e size I A v d.toList)(l:∀{I} c a,R I c a->c.length=size)(o:∀{I J c a},R I c a->I.le J->R J c a)(hi:i<d.size)(p:j<d.size):
  ∃g cap cur r q,v=.slice (some ⟨g,0,none⟩) d.size cap/\A=sg g (.cells cur e (0,0))/\d.size*size<=cur.size/\R I r d[i]!/\R I q d[j]!/\r.length=size/\q.length=size/\aX A g (i*size) r/\aX A g (j*size) q/\
   ∀J,I.le J->Ow R e size J (sg g (.cells (bi (bi cur.toList (i*size) q) (j*size) r).toArray e (0,0))) v (Sort.swp d i j).toList:=by
 obtain⟨g,cap,cur,xs,ev,rfl,x,c2,c3,c4,c5,b⟩:=h.open' (by simp;omega) fun c a k=>l c a k;have n:d.toList.length=d.size:=ai;rw[n]at ev x c4 c5;have H:d.size*size<=cap*size:=bS _ x;have w:=b.get (fun c a k=>l c a k) (GD d hi);have u:=b.get (fun c a k=>l c a k) (GD d p);have B:=l _ _ w;have G:=l _ _ u;have D:=qu (k:=0) (m:=size) (e:=e) (g:=g) (cur:=cur) (fun c a k=>l c a k) b (i:=i) (by rw[n];exact hi) (by rw[n];omega) (by rw[n];exact c4) rfl O;have C:=qu (k:=0) (m:=size) (e:=e) (g:=g) (cur:=cur) (fun c a k=>l c a k) b (i:=j) (by rw[n];exact p) (by rw[n];omega) (by rw[n];exact c4) rfl O;rw[jU,rF,Nat.min_self,ln]at D C;refine⟨g,cap,cur,_,_,ev,rfl,O,w,u,B,G,D,C,fun J t=>?_⟩;have m1:(i+1)*size<=d.size*size:=bS _ hi;have F:(j+1)*size<=d.size*size:=bS _ p;rw[fm,lQ]at m1 F;have z:=qJ (fun c a k=>l c a k) (b.mono fun _ _ k=>o k t) (i:=i) (by rw[n];exact hi) rfl (k:=0) (cs:=(xs.drop (j*size)).take size) (a:=d[j]!) O (by rw[Jk _ _ O];exact o u t);rw[ln]at z;have f:(bi xs (i*size) ((xs.drop (j*size)).take size)).length=d.size*size:=by rw[eJ];exact c5
 have y:=qJ (fun c a k=>l c a k) z (i:=j) (by simp;exact p) rfl (k:=0) (cs:=(xs.drop (i*size)).take size) (a:=d[i]!) O (by rw[Jk _ _ (by rw[B];simp[f];omega)];exact o w t)
 rw[ln]at y;rw[Vr];refine⟨_,?_,y⟩;rw[ev];have s:((d.toList.set i d[j]!).set j d[i]!).length=d.size:=ai;rw[s];refine cZ.of_sg (by rw[eJ];exact f) x c2 (by simp[eJ];exact c3) ?_;show (bi (bi cur.toList (i*size) _) (j*size) _).take (d.size*size)=_;rw[DR _ _ _ _ O,DR _ _ _ _ O,c4]
def Ow.one'{α:Type}[Inhabited α]{R:PH->List Value->α->Prop}{d:Array α}(h:Ow R e size I A v d.toList):∃a c,v=.slice a d.size c:=by obtain⟨a,c,rfl⟩:=h.shape;exact⟨a,c,by simp⟩
def cR{cs:List Value}(h:cs.all Sx.one=true):jM (.agg cs.toArray)=some cs:=by simp only[jM,h,reduceIte]
def aY.ones{c:List Value}{n:aN}(h:aY I c n):c.all Sx.one=true:=by obtain⟨a,k,e,_⟩:=h;rw[e];rfl
def Ow.addr{α:Type}[Inhabited α]{R:PH->List Value->α->Prop}{d:Array α}(h:Ow R e size I A v d.toList)(a:0<d.size):∃g c,v=.slice (some ⟨g,0,none⟩) d.size c:=by obtain⟨xs,h1,_⟩:=h;obtain⟨g,cap,cur,b,_⟩:=h1.sg (by simpa using a);exact⟨g,cap,by simpa using b⟩
def Jn{g:Nat}{cur cur':Array Value}(h:sg g (.cells cur e (0,0))=sg g (.cells cur' e (0,0))):cur=cur':=by have:=congrFun h g;simp only[sg,reduceIte,bv,Obj.cells.injEq,dm]at this;exact this
def mP(h:j+1<2^62):IntKind.i64.wrap (((j+1:Nat):Int)-1)=(j:Int):=by have:=fa (a:=j+1) (b:=1) O O;rw[show ((1:Nat):Int)=1 from rfl]at this;rw[this];omega
def PD:ay prog 271:=⟨_,func271,rfl,rfl⟩
def vj(v a vb vc:Value)(i:Nat):St:=⟨dn 53 [(0,.v v),(1,.v a),(2,.v vb),(3,.v vc),(8,.v (E i))],[]⟩
def yI(v a vb vc:Value)(i:Nat)(j:Nat):St:=⟨dn 53 [(0,.v v),(1,.v a),(2,.v vb),(3,.v vc),(8,.v (E i)),(9,.v (E j))],[]⟩
def QR{vc:Value}{d:Array Nd}{a b:Nat}(hA:aT I A v d.toList)(hc:gu az aO vc)(hb:b<=d.size)(hn:d.size<=bF)(ha:a<=d.size):
  aI prog 271 #[v,E a,E b,vc] I [A] fun _ I2 qs=>∃B,qs=[B]/\aT I2 B v (Sort.insertionSort aO d a b).toList:=by
 intro hd;unfold bF at hn;obtain⟨f,first,cap,rfl,gf,cf⟩:=id hc;obtain⟨T,S,rfl⟩:=Ow.one' hA;have w1:=wrap64 (n:=a+1) O;have w1':IntKind.i64.wrap ((a:Int)+1)=((a+1:Nat):Int):=by rw[<-w1];congr 1
 refine aG 53 func271 fun w0=>?_
 try simp only[E]
 refine db w1' ?_;refine bz (fun i=>b-i) (vj (.slice T d.size S) (E a) (E b) (.func (.func f) first cap)) (fun i H=>∃I2 B d2,H=U [I2,B]/\Dj [I2,B]/\I.le I2/\a+1<=i/\d2.size=d.size/\aT I2 B (.slice T d.size S) d2.toList/\Sort.insOuter aO a b i d2=Sort.insertionSort aO d a b) (a+1) ae (by simp only[go_sem,ab,vj]) ?_ ?_
 .exact⟨I,A,d,rfl,hd,ax _,aW _,rfl,hA,rfl⟩
 rintro i H ⟨I2,B,d2,rfl,Z,F,a4,al,ac,x⟩ p;simp only[vj];rcases aB i b with am|a3
 .have M:decide ((i:Int)<(b:Int))=true:=by simp;omega
  have e1:=wrap64 (n:=i+1) O;have ag:IntKind.i64.wrap ((i:Int)+1)=((i+1:Nat):Int):=by rw[<-e1];congr 1
  rw[Sort.insOuter,ak am]at x;refine aj M ?_;refine bz (fun j=>j) (yI (.slice T d.size S) (E a) (E b) (.func (.func f) first cap) i) (fun j H=>∃Q A3 d3,H=U [Q,A3]/\Dj [Q,A3]/\I2.le Q/\j<=i/\d3.size=d.size/\aT Q A3 (.slice T d.size S) d3.toList/\Sort.insInner aO a j d3=Sort.insInner aO a i d2) i ae (by simp only[go_sem,ab,yI]) ?_ ?_
  .exact⟨I2,B,d2,rfl,Z,ax _,aW _,al,ac,rfl⟩
  rintro j H ⟨Q,A3,d3,rfl,w,D,a2,t,K,e⟩ u;simp only[yI];have fin:∀{P A4:PH} {d4:Array Nd},Q.le P->aT P A4 (.slice T d.size S) d4.toList->d4.size=d.size->d4=Sort.insInner aO a i d2->∃G R N,U [P,A4]=U [G,R]/\(Dj [P,A4]->Dj [G,R])/\I.le G/\a+1<=i+1/\N.size=d.size/\aT G R (.slice T d.size S) N.toList/\Sort.insOuter aO a b (i+1) N=Sort.insertionSort aO d a b:=fun h1 h2 h3 h4=>⟨_,_,_,rfl,id,Y F (Y D h1),O,h3,h2,by rw[h4];exact x⟩;rcases aB a j with aa|aa
  .obtain⟨j,rfl⟩:∃j',j=j'+1:=⟨j-1,O⟩;have L:decide (((j+1:Nat):Int)>(a:Int))=true:=ar O;have C:=mP (j:=j) O;obtain⟨g,cp,cur,y,cj,ev,rfl,a0,V,rj,s,lj,W,kj,X⟩:=Ow.two K (fun{I} c a h=>az.len c a h) (fun{I J c a} h k=>az.le h k) (i:=j+1) (j:=j) O O;rw[t]at ev a0;cases ev
   refine av ?_;refine aV [0,1,2,3,4,5,6,7,8,9,10,11,12,13,14,15,16] [8,13] [] ?_;refine eS L C ?_;refine⟨O,?_⟩;refine Xc (l:=y) (v:=.agg y.toArray) rfl (cellsU w (.tail _ (.head _)) (by simpa using W)) (.inl ⟨by rw[s];exact bK,rfl⟩) ?_;refine aM C ?_;refine⟨O,?_⟩;refine Xc (l:=cj) (v:=.agg cj.toArray) rfl (cellsU w (.tail _ (.head _)) (by simpa using kj)) (.inl ⟨by rw[lj];exact bK,rfl⟩) ?_;refine aM C ?_;refine cv w [0] [] [_] rfl gf rfl (cf Q _ _ _ _ V rj) ?_;rintro v P qs q o⟨rfl,z,rfl,hz⟩;simp only[Z3]at q |-;refine aC ?_;apply an;cases m:aO d3[j+1]! d3[j]! with
   |true=>rw[m]at hz;rw[Sort.insInner,ak (by simp[aa,m])]at e;refine aj hz ?_;refine aV [0,1,2,3,4,5,6,7,8,9,10,11,12,13,14,15,16,17] [9,13] [] ?_;refine aM C ?_;refine⟨O,?_⟩;refine Xc (l:=cj) (v:=.agg cj.toArray) rfl (cellsU q (.tail _ (.head _)) (by simpa using kj)) (.inl ⟨by rw[lj];exact bK,rfl⟩) ?_;refine aM C ?_;refine⟨O,?_⟩;refine Xc (l:=y) (v:=.agg y.toArray) rfl (cellsU q (.tail _ (.head _)) (by simpa using W)) (.inl ⟨by rw[s];exact bK,rfl⟩) ?_;refine aM C ?_;refine⟨O,?_⟩;have m1:(j+1+1)*7<=d.size*7:=bS _ O;refine cg q rfl rfl rfl rfl rfl (cR (az.ones rj)) (by rw[lj];exact dF) (by rw[lj];omega) fun aq=>?_;refine aM C ?_;refine⟨O,?_⟩;refine cg aq rfl rfl rfl rfl rfl (cR (az.ones V)) (by rw[s];exact dF) (by rw[s];simp[eJ];omega) fun ap=>?_;apply an;refine aj C ?_;exact u j _ _ O ae (by simp only[go_sem,ab,yI]) ⟨P,_,_,rfl,ap,Y D o,O,by rw[gQ];exact t,X P o,e⟩
   |false=>rw[m]at hz;rw[Sort.insInner,ad (by simp[m])]at e;refine aj hz ?_;obtain⟨G,R,N,e1,e2,e3⟩:=fin o (aT.le K o) t e;refine db ag ?_;exact p (i+1) _ _ O ae (by simp only[go_sem,ab,vj]) ⟨G,R,N,e1,e2 q,e3⟩
  .have L:decide ((j:Int)>(a:Int))=false:=aS O;have a1:d3=Sort.insInner aO a i d2:=by
    cases j with
    |zero=>exact e
    |succ j=>rw[Sort.insInner,ad (by simp;omega)]at e;exact e
   refine av ?_;refine aV [0,1,2,3,4,5,6,7,8,9,10,11,12,13,14,15,16] [8,13] [] ?_;refine aM L ?_;apply an;refine aj ag ?_;obtain⟨G,R,N,e1,e2,e3⟩:=fin (ax _) K t a1;exact p (i+1) _ _ O ae (by simp only[go_sem,ab,vj]) ⟨G,R,N,e1,e2 w,e3⟩
 .have M:decide ((i:Int)<(b:Int))=false:=by simp;omega
  rw[Sort.insOuter,ad O]at x;refine aj M ?_;exact iu rfl Z (r:=[]) rfl F ⟨B,rfl,by rw[<-x];exact ac⟩
def G6:ay prog 283:=⟨_,func283,rfl,rfl⟩
def vh(v a vb vc:Value)(i:Nat):St:=⟨dn 53 [(0,.v v),(1,.v a),(2,.v vb),(3,.v vc),(8,.v (E i))],[]⟩
def yH(v a vb vc:Value)(i:Nat)(j:Nat):St:=⟨dn 53 [(0,.v v),(1,.v a),(2,.v vb),(3,.v vc),(8,.v (E i)),(9,.v (E j))],[]⟩
def QQ{vc:Value}{d:Array aN}{a b:Nat}(hA:bL I A v d.toList)(hc:gu aY bP vc)(hb:b<=d.size)(hn:d.size<=bF)(ha:a<=d.size):
  aI prog 283 #[v,E a,E b,vc] I [A] fun _ I2 qs=>∃B,qs=[B]/\bL I2 B v (Sort.insertionSort bP d a b).toList:=by
 intro hd;unfold bF at hn;obtain⟨f,first,cap,rfl,gf,cf⟩:=id hc;obtain⟨T,S,rfl⟩:=Ow.one' hA;have w1:=wrap64 (n:=a+1) O;have w1':IntKind.i64.wrap ((a:Int)+1)=((a+1:Nat):Int):=by rw[<-w1];congr 1
 refine aG 53 func283 fun w0=>?_
 try simp only[E]
 refine db w1' ?_;refine bz (fun i=>b-i) (vh (.slice T d.size S) (E a) (E b) (.func (.func f) first cap)) (fun i H=>∃I2 B d2,H=U [I2,B]/\Dj [I2,B]/\I.le I2/\a+1<=i/\d2.size=d.size/\bL I2 B (.slice T d.size S) d2.toList/\Sort.insOuter bP a b i d2=Sort.insertionSort bP d a b) (a+1) ae (by simp only[go_sem,ab,vh]) ?_ ?_
 .exact⟨I,A,d,rfl,hd,ax _,aW _,rfl,hA,rfl⟩
 rintro i H ⟨I2,B,d2,rfl,Z,F,a4,al,ac,x⟩ p;simp only[vh];rcases aB i b with am|a3
 .have M:decide ((i:Int)<(b:Int))=true:=by simp;omega
  have e1:=wrap64 (n:=i+1) O;have ag:IntKind.i64.wrap ((i:Int)+1)=((i+1:Nat):Int):=by rw[<-e1];congr 1
  rw[Sort.insOuter,ak am]at x;refine aj M ?_;refine bz (fun j=>j) (yH (.slice T d.size S) (E a) (E b) (.func (.func f) first cap) i) (fun j H=>∃Q A3 d3,H=U [Q,A3]/\Dj [Q,A3]/\I2.le Q/\j<=i/\d3.size=d.size/\bL Q A3 (.slice T d.size S) d3.toList/\Sort.insInner bP a j d3=Sort.insInner bP a i d2) i ae (by simp only[go_sem,ab,yH]) ?_ ?_
  .exact⟨I2,B,d2,rfl,Z,ax _,aW _,al,ac,rfl⟩
  rintro j H ⟨Q,A3,d3,rfl,w,D,a2,t,K,e⟩ u;simp only[yH];have fin:∀{P A4:PH} {d4:Array aN},Q.le P->bL P A4 (.slice T d.size S) d4.toList->d4.size=d.size->d4=Sort.insInner bP a i d2->∃G R N,U [P,A4]=U [G,R]/\(Dj [P,A4]->Dj [G,R])/\I.le G/\a+1<=i+1/\N.size=d.size/\bL G R (.slice T d.size S) N.toList/\Sort.insOuter bP a b (i+1) N=Sort.insertionSort bP d a b:=fun h1 h2 h3 h4=>⟨_,_,_,rfl,id,Y F (Y D h1),O,h3,h2,by rw[h4];exact x⟩;rcases aB a j with aa|aa
  .obtain⟨j,rfl⟩:∃j',j=j'+1:=⟨j-1,O⟩;have L:decide (((j+1:Nat):Int)>(a:Int))=true:=ar O;have C:=mP (j:=j) O;obtain⟨g,cp,cur,y,cj,ev,rfl,a0,V,rj,s,lj,W,kj,X⟩:=Ow.two K (fun{I} c a h=>aY.len c a h) (fun{I J c a} h k=>aY.le h k) (i:=j+1) (j:=j) O O;rw[t]at ev a0;cases ev
   refine av ?_;refine aV [0,1,2,3,4,5,6,7,8,9,10,11,12,13,14,15,16] [8,13] [] ?_;refine eS L C ?_;refine⟨O,?_⟩;refine Xc (l:=y) (v:=.agg y.toArray) rfl (cellsU w (.tail _ (.head _)) (by simpa using W)) (.inl ⟨by rw[s];exact fQ,rfl⟩) ?_;refine aM C ?_;refine⟨O,?_⟩;refine Xc (l:=cj) (v:=.agg cj.toArray) rfl (cellsU w (.tail _ (.head _)) (by simpa using kj)) (.inl ⟨by rw[lj];exact fQ,rfl⟩) ?_;refine aM C ?_;refine cv w [0] [] [_] rfl gf rfl (cf Q _ _ _ _ V rj) ?_;rintro v P qs q o⟨rfl,z,rfl,hz⟩;simp only[Z3]at q |-;refine aC ?_;apply an;cases m:bP d3[j+1]! d3[j]! with
   |true=>rw[m]at hz;rw[Sort.insInner,ak (by simp[aa,m])]at e;refine aj hz ?_;refine aV [0,1,2,3,4,5,6,7,8,9,10,11,12,13,14,15,16,17] [9,13] [] ?_;refine aM C ?_;refine⟨O,?_⟩;refine Xc (l:=cj) (v:=.agg cj.toArray) rfl (cellsU q (.tail _ (.head _)) (by simpa using kj)) (.inl ⟨by rw[lj];exact fQ,rfl⟩) ?_;refine aM C ?_;refine⟨O,?_⟩;refine Xc (l:=y) (v:=.agg y.toArray) rfl (cellsU q (.tail _ (.head _)) (by simpa using W)) (.inl ⟨by rw[s];exact fQ,rfl⟩) ?_;refine aM C ?_;refine⟨O,?_⟩;have m1:(j+1+1)*4<=d.size*4:=bS _ O;refine cg q rfl rfl rfl rfl rfl (cR (aY.ones rj)) (by rw[lj];exact mJ) (by rw[lj];omega) fun aq=>?_;refine aM C ?_;refine⟨O,?_⟩;refine cg aq rfl rfl rfl rfl rfl (cR (aY.ones V)) (by rw[s];exact mJ) (by rw[s];simp[eJ];omega) fun ap=>?_;apply an;refine aj C ?_;exact u j _ _ O ae (by simp only[go_sem,ab,yH]) ⟨P,_,_,rfl,ap,Y D o,O,by rw[gQ];exact t,X P o,e⟩
   |false=>rw[m]at hz;rw[Sort.insInner,ad (by simp[m])]at e;refine aj hz ?_;obtain⟨G,R,N,e1,e2,e3⟩:=fin o (bL.le K o) t e;refine db ag ?_;exact p (i+1) _ _ O ae (by simp only[go_sem,ab,vh]) ⟨G,R,N,e1,e2 q,e3⟩
  .have L:decide ((j:Int)>(a:Int))=false:=aS O;have a1:d3=Sort.insInner bP a i d2:=by
    cases j with
    |zero=>exact e
    |succ j=>rw[Sort.insInner,ad (by simp;omega)]at e;exact e
   refine av ?_;refine aV [0,1,2,3,4,5,6,7,8,9,10,11,12,13,14,15,16] [8,13] [] ?_;refine aM L ?_;apply an;refine aj ag ?_;obtain⟨G,R,N,e1,e2,e3⟩:=fin (ax _) K t a1;exact p (i+1) _ _ O ae (by simp only[go_sem,ab,vh]) ⟨G,R,N,e1,e2 w,e3⟩
 .have M:decide ((i:Int)<(b:Int))=false:=by simp;omega
  rw[Sort.insOuter,ad O]at x;refine aj M ?_;exact iu rfl Z (r:=[]) rfl F ⟨B,rfl,by rw[<-x];exact ac⟩
end Go.Proofs.YtfaclfkpnmcmlaaGreatDoor
namespace Syn
open Go Go.Sort
variable {α:Type} [Inhabited α] {lt:α->α->Bool}
variable{i:Nat}
theorem DW(d:Array α){j:Nat}(hi:i<d.size)(a:j<d.size)(k:Nat):(swp d i j)[k]! = if k=j then d[i]! else if k=i then d[j]! else d[k]!:=by
 by_cases h1:k=j
 .rw[ak h1,h1];exact swp_right d i j a
 .rw[ad h1];by_cases h2:k=i
  .rw[ak h2,h2];exact swp_left d i j hi (fun e=>h1 (h2.trans e))
  .rw[ad h2];exact swp_other d i j k h2 h1
def lx(a b i:Nat)(d e:Array α):Prop:=∀k,e[k]! = if a<=k/\k<a+i then d[k-a+b]! else if b<=k/\k<b+i then d[k-b+a]! else d[k]!
theorem lx.zero(a b:Nat)(d:Array α):lx a b 0 d d:=fun k=>by rw[ad O,ad O]
theorem lx.step{a b n:Nat}{d e:Array α}(h:lx a b i d e)(f:e.size=d.size)(hi:i<n)(c:a+n<=b)(hb:b+n<=d.size):lx a b (i+1) d (swp e (a+i) (b+i)):=fun k=>by
 rw[DW e O O k,h k,h (a+i),h (b+i)];clear h
 repeat' split
 all_goals first|rfl|(exfalso;omega)|(congr 1;omega)
def gU(m i j:Nat)(c t:Array α):Prop:=∀k,t[k]! = if m-i<=k/\k<m-i+j then c[k+i]! else if m-i+j<=k/\k<m+j then c[k-j]! else c[k]!
variable{m:Nat}
theorem gU.left{j:Nat}{c c' t:Array α}(h:gU m i j c t)(a:lx (m-i) m j c c')(d:j<i)(b:i<=m):gU m (i-j) j c' t:=fun k=>by
 rw[h k,a k,a (k+(i-j)),a (k-j)];clear h a
 repeat' split
 all_goals first|rfl|(exfalso;omega)|(congr 1;omega)
theorem gU.right{j:Nat}{c c' t:Array α}(h:gU m i j c t)(a:lx (m-i) (m+j-i) i c c')(d:i<j)(b:i<=m):gU m i (j-i) c' t:=fun k=>by
 rw[h k,a k,a (k+i),a (k-(j-i))];clear h a
 repeat' split
 all_goals first|rfl|(exfalso;omega)|(congr 1;omega)
theorem gU.last{c c' t:Array α}(h:gU m i i c t)(a:lx (m-i) m i c c')(d:i<=m)(b:t.size=c'.size):t=c':=by
 have key:∀k,t[k]! = c'[k]!:=fun k=>by
  rw[h k,a k];clear h a
  repeat' split
  all_goals first|rfl|(exfalso;omega)|(congr 1;omega)
 refine Array.ext b fun k h1 h2=>?_;have:=key k
 rwa [getElem!_pos t k h1,getElem!_pos c' k h2]at this
theorem gU.ex(m i j:Nat)(c:Array α)(b:i<=m)(d:m+j<=c.size):∃t,t.size=c.size/\gU m i j c t:=by
 refine⟨Array.ofFn (n:=c.size) fun k=>if m-i<=k.1/\k.1<m-i+j then c[k.1+i]! else if m-i+j<=k.1/\k.1<m+j then c[k.1-j]! else c[k.1]!,by simp,fun k=>?_⟩;by_cases a:k<c.size
 .rw[getElem!_pos _ k (by simpa using a)];simp[a]
 .rw[getElem!_neg _ k (by simpa using a),ad O,ad O,getElem!_neg c k a]
def ou(a k:Nat)(d e:Array α):Prop:=∀x,e[x]! = if a<=x/\x<k then d[x+1]! else if x=k then d[a]! else d[x]!
theorem ou.zero(a:Nat)(d:Array α):ou a a d d:=fun x=>by
 rw[ad O];split
 .rename_i h;rw[h]
 .rfl
theorem ou.step{a k:Nat}{d e:Array α}(h:ou a k d e)(c:e.size=d.size)(f:a<=k)(b:k+1<d.size):ou a (k+1) d (swp e k (k+1)):=fun x=>by
 rw[DW e O O x,h x,h k,h (k+1)];clear h
 repeat' split
 all_goals first|rfl|(exfalso;omega)|(congr 1;omega)
def ot(m k:Nat)(d e:Array α):Prop:=∀x,e[x]! = if x=k then d[m]! else if k<x/\x<=m then d[x-1]! else d[x]!
theorem ot.zero(m:Nat)(d:Array α):ot m m d d:=fun x=>by
 split
 .rename_i h;rw[h]
 .rw[ad O]
theorem ot.step{k:Nat}{d e:Array α}(h:ot m (k+1) d e)(a:e.size=d.size)(b:k+1<=m)(hm:m<d.size):ot m k d (swp e (k+1) k):=fun x=>by
 rw[DW e O O x,h x,h (k+1),h k];clear h
 repeat' split
 all_goals first|rfl|(exfalso;omega)|(congr 1;omega)
section
variable (h:SWO lt)
include h
omit [Inhabited α] in
theorem zZ{x y:α}(e:lt x y=true):lt y x=false:=by
 cases a:lt y x with
 |false=>rfl
 |true=>have:=h.trans _ _ _ e a;rw[h.irrefl]at this;cases this
theorem QT{d e:Array α}{a m b i:Nat}(hm:m=a+1)(c:SortedIn lt m b d)(j:m<=i)(q:i<=b)(p:i=m\/lt d[i-1]! d[a]! = true)(hr:i=b\/lt d[i]! d[a]! = false)(f:ou a (i-1) d e):SortedIn lt a b e:=by
 have lo:∀k,m<=k->k<i->lt d[k]! d[a]! = true:=fun k h1 h2=>by
  rcases p with e0|e0
  .omega
  .by_cases l:k=i-1
   .rw[l];exact e0
   .cases r:lt d[k]! d[a]! with
    |true=>rfl
    |false=>have:=h.ntrans _ _ _ (c k (i-1) h1 O O) r;rw[e0]at this;cases this
 have hi:∀k,i<=k->k<b->lt d[k]! d[a]! = false:=fun k h1 h2=>by
  rcases hr with e0|e0
  .omega
  .by_cases l:k=i
   .rw[l];exact e0
   .exact h.ntrans _ _ _ (c i k j O h2) e0
 intro x y s g n;rw[f x,f y];by_cases o:a<=x/\x<i-1
 .rw[ak o];by_cases c2:a<=y/\y<i-1
  .rw[ak c2];exact c _ _ O O O
  .rw[ad c2];by_cases c3:y=i-1
   .rw[ak c3];exact zZ h (lo _ O O)
   .rw[ad c3];exact c _ _ O O O
 .rw[ad o,ad (show ¬(a<=y/\y<i-1) by omega)];by_cases c3:x=i-1
  .rw[ak c3,ad O];exact hi y O n
  .rw[ad c3,ad O];exact c _ _ O g n
theorem QS{d e:Array α}{a m b i:Nat}(hb:b=m+1)(c:SortedIn lt a m d)(n:a<=i)(q:i<=m)(p:i=a\/lt d[m]! d[i-1]! = false)(hr:i=m\/lt d[m]! d[i]! = true)(f:ot m i d e):SortedIn lt a b e:=by
 have lo:∀k,a<=k->k<i->lt d[m]! d[k]! = false:=fun k h1 h2=>by
  rcases p with e0|e0
  .omega
  .by_cases l:k=i-1
   .rw[l];exact e0
   .exact h.ntrans _ _ _ e0 (c k (i-1) h1 O O)
 have hi:∀k,i<=k->k<m->lt d[k]! d[m]! = false:=fun k h1 h2=>by
  rcases hr with e0|e0
  .omega
  .by_cases l:k=i
   .rw[l];exact zZ h e0
   .exact h.ntrans _ _ _ (c i k n O h2) (zZ h e0)
 intro x y j g r;rw[f x,f y];by_cases o:x=i
 .rw[ak o,ad O,ak O];exact hi _ O O
 .rw[ad o];by_cases c2:i<x/\x<=m
  .rw[ak c2,ad O,ak O];exact c _ _ O O O
  .rw[ad c2];by_cases c3:y=i
   .rw[ak c3];exact lo x j O
   .rw[ad c3];by_cases c4:i<y/\y<=m
    .rw[ak c4];exact c _ _ j O O
    .rw[ad c4];exact c _ _ j g O
theorem Vv{d e:Array α}{a m b s mid:Nat}(R:a<=m)(L:m<=b)(w:SortedIn lt a m d)(v:SortedIn lt m b d)(D:mid=(a+b) / 2)
  (K:a<=s) (J:s<=m) (I:s<=mid) (Q:m<=mid+m-s) (P:mid+m-s<=b) (F:(m>mid->mid+m-s=b\/s=a\/lt d[mid+m-s]! d[s-1]! = false)/\(m<=mid->s=a\/lt d[mid+m-s]! d[s-1]! = false)) (hr:s=(if m>mid then mid else m)\/lt d[mid+m-s-1]! d[s]! = true)
  (A:gU m (m-s) (mid+m-s-m) d e) :
  SortedIn lt a s e/\SortedIn lt s mid e/\SortedIn lt mid (mid+m-s) e/\SortedIn lt (mid+m-s) b e/\∀i j,a<=i->i<mid->mid<=j->j<b->lt e[j]! e[i]! = false:=by
 have C:a<s->mid+m-s<b->lt d[mid+m-s]! d[s-1]! = false:=fun h1 h2=>by
  by_cases c:m>mid
  .rcases F.1 c with e0|e0|e0
   .omega
   .omega
   .exact e0
  .rcases F.2 O with e0|e0
   .omega
   .exact e0
 have B:m<mid+m-s->s<m->lt d[s]! d[mid+m-s-1]! = false:=fun h1 h2=>by
  rcases hr with e0|e0
  .split at e0<;>omega
  .exact zZ h e0
 have g:∀k,a<=k->k<b->(k<s/\e[k]! = d[k]!)\/(s<=k/\k<mid/\e[k]! = d[k+(m-s)]!)\/(mid<=k/\k<mid+m-s/\e[k]! = d[k-(mid-s)]!)\/(mid+m-s<=k/\e[k]! = d[k]!):=fun k h1 h2=>by
  have o:=A k;by_cases S:k<s
  .rw[ad O,ad O]at o;exact .inl ⟨S,o⟩
  .by_cases c2:k<mid
   .rw[ak O]at o;exact .inr (.inl ⟨O,c2,o⟩)
   .by_cases c3:k<mid+m-s
    .rw[ad O,ak O]at o;exact .inr (.inr (.inl ⟨O,c3,by rw[o];congr 1;omega⟩))
    .rw[ad O,ad O]at o;exact .inr (.inr (.inr ⟨O,o⟩))
 refine⟨fun x y t n z=>?_,fun x y t n z=>?_,fun x y t n z=>?_,fun x y t n z=>?_,fun i j p N M u=>?_⟩
 .rcases g x t O with ⟨_,l⟩|⟨_,_,l⟩|⟨_,_,l⟩|⟨_,l⟩<;>rcases g y O O with ⟨_,e2⟩|⟨_,_,e2⟩|⟨_,_,e2⟩|⟨_,e2⟩<;>try omega
  rw[l,e2];exact w _ _ t n O
 .rcases g x O O with ⟨_,l⟩|⟨_,_,l⟩|⟨_,_,l⟩|⟨_,l⟩<;>rcases g y O O with ⟨_,e2⟩|⟨_,_,e2⟩|⟨_,_,e2⟩|⟨_,e2⟩<;>try omega
  rw[l,e2];exact v _ _ O O O
 .rcases g x O O with ⟨_,l⟩|⟨_,_,l⟩|⟨_,_,l⟩|⟨_,l⟩<;>rcases g y O O with ⟨_,e2⟩|⟨_,_,e2⟩|⟨_,_,e2⟩|⟨_,e2⟩<;>try omega
  rw[l,e2];exact w _ _ O O O
 .rcases g x O O with ⟨_,l⟩|⟨_,_,l⟩|⟨_,_,l⟩|⟨_,l⟩<;>rcases g y O O with ⟨_,e2⟩|⟨_,_,e2⟩|⟨_,_,e2⟩|⟨_,e2⟩<;>try omega
  rw[l,e2];exact v _ _ O O O
 ·
  have q:∀x y,m<=x->x<=y->y<b->lt d[y]! d[x]! = false:=fun x y h1 h2 h3=>by
   rcases Nat.lt_or_eq_of_le h2 with c|c
   .exact v x y h1 c h3
   .rw[c];exact h.irrefl _
  have r:∀x y,a<=x->x<=y->y<m->lt d[y]! d[x]! = false:=fun x y h1 h2 h3=>by
   rcases Nat.lt_or_eq_of_le h2 with c|c
   .exact w x y h1 c h3
   .rw[c];exact h.irrefl _
  rcases g i p O with ⟨H,l⟩|⟨H,U,l⟩|⟨_,_,l⟩|⟨_,l⟩<;>rcases g j O u with ⟨_,e2⟩|⟨_,_,e2⟩|⟨G,T,e2⟩|⟨G,e2⟩<;>try omega
  .rw[l,e2];exact w _ _ p O O
  .rw[l,e2];have f:=C O O;exact h.ntrans _ _ _ (q (mid+m-s) j O O u) (h.ntrans _ _ _ f (r i (s-1) p O O))
  .rw[l,e2];have f:=B O O;exact h.ntrans _ _ _ (r s (j-(mid-s)) O O O) (h.ntrans _ _ _ f (q (i+(m-s)) (mid+m-s-1) O O O))
  .rw[l,e2];exact v _ _ O O O
omit h in
theorem JG{d1 d2 d3:Array α}{a b mid:Nat}(f:a<=mid)(e:mid<=b)(hb:b<=d1.size)(p:∀i j,a<=i->i<mid->mid<=j->j<b->lt d1[j]! d1[i]! = false)
  (d:PermIn a mid d1 d2) (o:SortedIn lt a mid d2) (c:PermIn mid b d2 d3) (n:SortedIn lt mid b d3):PermIn a b d1 d3/\SortedIn lt a b d3:=by
 have z2:=d.1;refine⟨permIn_trans _ _ _ a b (permIn_mono _ _ a mid a b (aW _) e hb d) (permIn_mono _ _ mid b a b f (aW _) O c),?_⟩;have m:∀j,mid<=j->j<b->∀i,a<=i->i<mid->lt d1[j]! d2[i]! = false:=fun j h1 h2=>permIn_all d1 d2 a mid (fun x=>lt d1[j]! x=false) O d (fun i h3 g=>p i j h3 g h1 h2);have l:∀i,a<=i->i<mid->∀j,mid<=j->j<b->lt d3[j]! d2[i]! = false:=fun i h1 h2=>permIn_all d2 d3 mid b (fun y=>lt y d2[i]! = false) O c (fun j h3 g=>by rw[d.2.1 j (.inr h3)];exact m j h3 g i h1 h2);intro i j h1 h2 h3;by_cases k:j<mid
 .rw[c.2.1 i (.inl O),c.2.1 j (.inl k)];exact o i j h1 h2 k
 .by_cases c2:mid<=i
  .exact n i j c2 h2 h3
  .rw[c.2.1 i (.inl O)];exact l i h1 O j O h3
end
def oI(lt:α->α->Bool)(s x n:Nat)(d:Array α):Prop:=∀i j,x<=i->i<j->j<n->i / s=j / s->lt d[j]! d[i]! = false
def f9(lt:α->α->Bool)(s x:Nat)(d:Array α):Prop:=∀i j,i<j->j<x->i / s=j / s->lt d[j]! d[i]! = false
variable{s q:Nat}
theorem BQ{i:Nat}(a:0<s)(h1:s*q<=i)(h2:i<s*q+s):i / s=q:=by
 refine Nat.div_eq_of_lt_le ?_ ?_
 .rw[Nat.mul_comm];exact h1
 .rw[Nat.mul_comm,Nat.mul_add,Nat.mul_one];exact h2
theorem Ur{i:Nat}(a:0<s)(h:i / s=q):s*q<=i/\i<s*q+s:=by subst h;have h1:=Nat.div_add_mod i s;have h2:=Nat.mod_lt i a;omega
theorem f9.zero(s:Nat)(d:Array α):f9 lt s 0 d:=fun i j _ h=>by omega
theorem f9.step{x:Nat}{d e:Array α}(f:0<s)(h:f9 lt s (s*q) d)(l:x<=s*q+s)(hp:PermIn (s*q) x d e)(b:SortedIn lt (s*q) x e):f9 lt s x e:=fun i j a g hd=>by
 by_cases c:j<s*q
 .rw[hp.2.1 i (.inl O),hp.2.1 j (.inl c)];exact h i j a c hd
 .have k:j / s=q:=BQ f O O;have:=(Ur f (hd.trans k)).1;exact b i j this a g
variable{n:Nat}
theorem f9.all{d:Array α}(h:f9 lt s n d)(c:n<=s):SortedIn lt 0 n d:=fun i j _ a b=>by refine h i j a b ?_;rw[Nat.div_eq_of_lt O,Nat.div_eq_of_lt O]
theorem f9.runs{d:Array α}(h:f9 lt s n d):oI lt s 0 n d:=fun i j _ a b hd=>h i j a b hd
theorem oI.at'{x:Nat}{d:Array α}(a:0<s)(h:oI lt s x n d)(c:x<=s*q){y:Nat}(b:y<=s*q+s)(e:y<=n):SortedIn lt (s*q) y d:=fun i j h1 h2 h3=>
 h i j O h2 O (by rw[BQ a h1 O,BQ a (show s*q<=j by omega) O])
theorem oI.keep{x y:Nat}{d e:Array α}(h:oI lt s x n d)(b:x<=y)(a:∀k,y<=k->e[k]! = d[k]!):oI lt s y n e:=fun i j h1 h2 h3 c=>by rw[a i h1,a j O];exact h i j O h2 h3 c
theorem f9.rest{d:Array α}(a:0<s)(h:f9 lt s (s*q) d)(h2:SortedIn lt (s*q) n d)(b:n<=s*q+s):f9 lt s n d:=h.step a b (permIn_refl _ _ _) h2
end Syn
namespace Go.Proofs.YtfaclfkpnmcmlaaGreatDoor
open Go Go.Sx Dg Syn
open Go.Sort (PermIn SortedIn SWO permIn_refl permIn_trans permIn_mono swp_permIn)
def Jw{K α:Type}{lt:K->K->Bool}(so:SO lt)(f:α->K):SWO fun x y:α=>lt (f x) (f y) where
 irrefl:=fun x=>so.irr _
 trans:=fun x y z=>so.tr _ _ _
 ntrans:=fun x y z h1 h2=>by
  cases h:lt (f x) (f z)with
  |false=>rfl
  |true=>
   cases h3:lt (f y) (f x)with
   |true=>rw[so.tr _ _ _ h3 h]at h2;cases h2
   |false=>rw[so.tri _ _ h1 h3,h2]at h;cases h
def z7:SWO bP:=Jw gZ aN.key
def wE:SWO aO:=Jw jj Nd.key
def CG:ay prog 310:=⟨_,func310,rfl,rfl⟩
def PP:ay prog 301:=⟨_,func301,rfl,rfl⟩
def zY(v b vb a:Value)(i:Nat):St:=⟨dn 38 [(0,.v v),(1,.v b),(2,.v vb),(3,.v a),(10,.v (E i))],[]⟩
variable{a b:Nat}{v vc:Value}{I A:PH}
def Eb{d:Array aN}{n:Nat}(M:bL I A v d.toList)(G:a+n<=b)(hb:b+n<=d.size)(W:d.size<=bF):
  aI prog 310 #[v,E a,E b,E n,vc] I [A] fun _ I2 qs=>∃o e,qs=[o]/\bL I2 o v e.toList/\e.size=d.size/\lx a b n d e/\∀lo hi,lo<=a->b+n<=hi->hi<=d.size->PermIn lo hi d e:=by
 intro hd;unfold bF at W;obtain⟨L,K,rfl⟩:=Ow.one' M;refine aG 38 func310 fun w0=>?_
 try simp only[E]
 refine af ?_;refine bz (fun k=>n-k) (zY (.slice L d.size K) (E a) (E b) (E n)) (fun k H=>∃o e,H=U [I,o]/\Dj [I,o]/\k<=n/\e.size=d.size/\bL I o (.slice L d.size K) e.toList/\lx a b k d e/\∀lo hi,lo<=a->b+n<=hi->hi<=d.size->PermIn lo hi d e) 0 ae (by simp only[go_sem,ab,zY]) ?_ ?_
 .exact⟨A,d,rfl,hd,bg _,rfl,M,lx.zero _ _ _,fun lo hi _ _ _=>permIn_refl _ _ _⟩
 rintro k H ⟨o,e,rfl,m,hk,f,x,u,w⟩ p;simp only[zY];rcases aB k n with t|X
 .have q:=Z5 k n;have y:IntKind.i64.wrap ((a:Int)+(k:Int))=((a+k:Nat):Int):=by have e0:(a:Int)+(k:Int)=((a+k:Nat):Int):=O;rw[e0];exact wrap64 O
  have w2:IntKind.i64.wrap ((b:Int)+(k:Int))=((b+k:Nat):Int):=by have e0:(b:Int)+(k:Int)=((b+k:Nat):Int):=O;rw[e0];exact wrap64 O
  have Q:IntKind.i64.wrap ((k:Int)+1)=((k+1:Nat):Int):=by have e0:(k:Int)+1=((k+1:Nat):Int):=O;rw[e0];exact wrap64 O
  refine aj q ?_;obtain⟨g,cp,cur,P,N,ev,rfl,F,S,R,B,z,V,T,s⟩:=Ow.two x (fun{I} c a h=>aY.len c a h) (fun{I J c a} h k=>aY.le h k) (i:=a+k) (j:=b+k) O O;rw[f]at ev F;cases ev
  have mi:((a+k)+1)*4<=d.size*4:=bS _ O;have Z:((b+k)+1)*4<=d.size*4:=bS _ O;refine aV [0,1,2,3,4,5,6,7,8,9,10,11,12,13,14,15,16,17,18,19,20,21,22,23] [13,19] [] ?_;refine eS y w2 ?_;refine⟨O,?_⟩;refine Xc (l:=N) (v:=.agg N.toArray) rfl (cellsU m (.tail _ (.head _)) (by simpa using T)) (.inl ⟨by rw[z];exact fQ,rfl⟩) ?_;refine eS y w2 ?_;refine⟨O,?_⟩;refine Xc (l:=P) (v:=.agg P.toArray) rfl (cellsU m (.tail _ (.head _)) (by simpa using V)) (.inl ⟨by rw[B];exact fQ,rfl⟩) ?_;refine eS y w2 ?_;refine⟨O,?_⟩;refine cg m rfl rfl rfl rfl rfl (cR (aY.ones R)) (by rw[z];exact mJ) (by rw[z];omega) fun C=>?_;refine eS y w2 ?_;refine⟨O,?_⟩;refine cg C rfl rfl rfl rfl rfl (cR (aY.ones S)) (by rw[B];exact mJ) (by rw[B];simp[eJ];omega) fun D=>?_;apply an;refine aj Q ?_;exact p (k+1) _ _ O ae (by simp only[go_sem,ab,zY]) ⟨_,_,rfl,D,t,by rw[gQ];exact f,s I (ax _),u.step f t G hb,fun lo hi h1 h2 h3=>permIn_trans _ _ _ lo hi (w lo hi h1 h2 h3) (swp_permIn _ lo hi _ _ O O O O O)⟩
 .have q:decide ((k:Int)<(n:Int))=false:=aS O;have:k=n:=O;subst this;refine aj q ?_;exact iu rfl m (r:=[]) rfl (ax _) ⟨o,e,rfl,x,f,u,w⟩
def wh(v a vc:Value)(x:Nat×Nat):St:=⟨dn 58 [(0,.v v),(2,.v a),(4,.v vc),(10,.v (E x.1)),(11,.v (E x.2))],[]⟩
def Ui{d:Array aN}{m:Nat}(Z:bL I A v d.toList)(al:a<m)(ag:m<b)(hb:b<=d.size)(hn:d.size<=bF):
  aI prog 301 #[v,E a,E m,E b,vc] I [A] fun _ I2 qs=>∃s e,qs=[s]/\bL I2 s v e.toList/\PermIn a b d e/\gU m (m-a) (b-m) d e:=by
 intro hd;have Q:=hn;unfold bF at Q;obtain⟨W,V,rfl⟩:=Ow.one' Z;obtain⟨t,ac,D⟩:=gU.ex m (m-a) (b-m) d O O;refine aG 58 func301 fun w0=>?_
 try simp only[E]
 have w1:IntKind.i64.wrap ((m:Int)-(a:Int))=((m-a:Nat):Int):=by rw[fa O O];omega
 have w2:IntKind.i64.wrap ((b:Int)-(m:Int))=((b-m:Nat):Int):=by rw[fa O O];omega
 refine je w1 w2 ?_;refine bz (fun x=>x.1+x.2) (wh (.slice W d.size V) (E m) vc) (fun x H=>∃I2 s c,H=U [I2,s]/\Dj [I2,s]/\I.le I2/\bL I2 s (.slice W d.size V) c.toList/\PermIn a b d c/\0<x.1/\0<x.2/\x.1<=m-a/\x.2<=b-m/\gU m x.1 x.2 c t) (m-a,b-m) ae (by simp only[go_sem,ab,wh]) ?_ ?_
 .exact⟨I,A,d,rfl,hd,ax _,Z,permIn_refl _ _ _,by simp only;omega,by simp only;omega,aW _,aW _,D⟩
 rintro⟨i,j⟩ H ⟨I2,s,c,rfl,y,k,z,w,J,G,hi,X,u⟩ h;simp only at J G hi X u;simp only[wh];have aa:=w.1;have N:IntKind.i64.wrap ((m:Int)-(i:Int))=((m-i:Nat):Int):=by rw[fa O O];omega
 have w4:IntKind.i64.wrap ((m:Int)+(j:Int))=((m+j:Nat):Int):=by have e0:(m:Int)+(j:Int)=((m+j:Nat):Int):=O;rw[e0];exact wrap64 O
 rcases oe i j with R|T|S
 .have q:((i:Int) != (j:Int))=true:=by rw[bne_iff_ne];omega
  have B:decide ((i:Int)>(j:Int))=false:=aS O;have w5:IntKind.i64.wrap (((m+j:Nat):Int)-(i:Int))=((m+j-i:Nat):Int):=by rw[fa O O];omega
  have M:IntKind.i64.wrap ((j:Int)-(i:Int))=((j-i:Nat):Int):=by rw[fa O O];omega
  apply RG;simp only[go_sem,E,q,B,N,w4,w5];refine ce y [0] [s] [] rfl CG rfl (Eb (a:=m-i) (b:=m+j-i) (n:=i) z O O O) ?_;rintro v L qs g f⟨K,e,rfl,p,C,l,o⟩;simp only[Z3]at g |-;refine aj M ?_;exact h (i,j-i) _ _ bC ae (by simp only[go_sem,ab,wh]) ⟨L,K,e,rfl,g,Y k f,p,permIn_trans _ _ _ a b w (o a b O O O),J,by simp only;omega,hi,by simp only;omega,u.right l R O⟩
 .subst T;have q:((i:Int) != (i:Int))=false:=ai;refine bW q N ?_;refine ce y [0] [s] [] rfl CG rfl (Eb (a:=m-i) (b:=m) (n:=i) z O O O) ?_;rintro v L qs g f⟨K,e,rfl,p,C,l,o⟩;simp only[Z3]at g |-;refine av ?_;have P:=u.last l O O;exact iu rfl g (r:=[]) rfl (Y k f) ⟨K,e,rfl,p,permIn_trans _ _ _ a b w (o a b O O O),by rw[<-P];exact D⟩
 .have q:((i:Int) != (j:Int))=true:=by rw[bne_iff_ne];omega
  have B:decide ((i:Int)>(j:Int))=true:=ar O;have M:IntKind.i64.wrap ((i:Int)-(j:Int))=((i-j:Nat):Int):=by rw[fa O O];omega
  refine lr q B N ?_;refine ce y [0] [s] [] rfl CG rfl (Eb (a:=m-i) (b:=m) (n:=j) z O O O) ?_;rintro v L qs g f⟨K,e,rfl,p,C,l,o⟩;simp only[Z3]at g |-;refine aj M ?_;exact h (i-j,j) _ _ bC ae (by simp only[go_sem,ab,wh]) ⟨L,K,e,rfl,g,Y k f,p,permIn_trans _ _ _ a b w (o a b O O O),by simp only;omega,G,by simp only;omega,X,u.left l S O⟩
def G7:ay prog 296:=⟨_,func296,rfl,rfl⟩
def PE:ay prog 272:=⟨_,func272,rfl,rfl⟩
def tq(v a b vc:Value)(r:Nat):St:=⟨dn 82 [(0,.v v),(2,.v a),(3,.v b),(4,.v vc),(10,.v (E r))],[]⟩
variable{d:Array Nd}
def Jp{lo hi first:Nat}(hA:aT I A v d.toList)(hc:gu az aO vc)(hb:first+hi<=d.size)(hn:d.size<=bF)(al:lo<=d.size):
  aI prog 296 #[v,E lo,E hi,E first,vc] I [A] fun _ I2 qs=>∃Z,qs=[Z]/\aT I2 Z v (Sort.siftDown aO hi first lo d).toList/\(Sort.siftDown aO hi first lo d).size=d.size:=by
 intro hd;unfold bF at hn;obtain⟨f,fst,cap,rfl,gf,cf⟩:=id hc;obtain⟨va,vk,rfl⟩:=Ow.one' hA;refine aG 82 func296 fun w0=>?_
 try simp only[E]
 refine af ?_;refine bz (fun r=>hi-r) (tq (.slice va d.size vk) (E hi) (E first) (.func (.func f) fst cap)) (fun r H=>∃I2 Z d2,H=U [I2,Z]/\Dj [I2,Z]/\I.le I2/\r<=d.size/\d2.size=d.size/\aT I2 Z (.slice va d.size vk) d2.toList/\Sort.siftDown aO hi first r d2=Sort.siftDown aO hi first lo d) lo ae (by simp only[go_sem,ab,tq]) ?_ ?_
 .exact⟨I,A,d,rfl,hd,ax _,al,rfl,hA,rfl⟩
 rintro r H ⟨I2,Z,d2,rfl,Q,B,hr,x,L,b⟩ N;simp only[tq];have w1:IntKind.i64.wrap (2*(r:Int))=((2*r:Nat):Int):=by rw[<-wrap64 (n:=2*r) O];congr 1<;>omega
 have w2:IntKind.i64.wrap (((2*r:Nat):Int)+1)=((2*r+1:Nat):Int):=by rw[<-wrap64 (n:=2*r+1) O];congr 1<;>omega
 have w3:IntKind.i64.wrap (((2*r+1:Nat):Int)+1)=((2*r+2:Nat):Int):=by rw[<-wrap64 (n:=2*r+2) O];congr 1<;>omega
 rcases aB (2*r+1) hi with aq|am
 .have ac:decide (((2*r+1:Nat):Int)>=(hi:Int))=false:=aS O;rw[Sort.siftDown,dif_neg O]at b;have a1:IntKind.i64.wrap ((first:Int)+((2*r+1:Nat):Int))=((first+(2*r+1):Nat):Int):=by rw[<-wrap64 (n:=first+(2*r+1)) O];congr 1<;>omega
  have a2:IntKind.i64.wrap (((first+(2*r+1):Nat):Int)+1)=((first+(2*r+2):Nat):Int):=by rw[<-wrap64 (n:=first+(2*r+2)) O];congr 1<;>omega
  have a3:IntKind.i64.wrap ((first:Int)+(r:Int))=((first+r:Nat):Int):=by rw[<-wrap64 (n:=first+r) O];congr 1<;>omega
  have a4:IntKind.i64.wrap ((first:Int)+((2*r+2:Nat):Int))=((first+(2*r+2):Nat):Int):=by rw[<-wrap64 (n:=first+(2*r+2)) O];congr 1<;>omega
  refine lr w1 w2 ac ?_;rcases aB (2*r+2) hi with h2|h2
  .have T:=Z5 (2*r+2) hi;obtain⟨g,cp,cur,ci,cj,ev,rfl,ap,ri,rj,li,lj,ki,kj,ag⟩:=Ow.two L (fun{I} c a h=>az.len c a h) (fun{I J c a} h k=>az.le h k) (i:=first+(2*r+1)) (j:=first+(2*r+2)) O O;rw[x]at ev ap;cases ev
   refine aV [0,1,2,3,4,5,6,7,8,9,10,11,12,13,14,15,16,17,18,19,20,21] [11,18] [] ?_;refine eM w3 T a1 a2 ?_;refine⟨O,?_⟩;refine Xc (l:=ci) (v:=.agg ci.toArray) rfl (cellsU Q (.tail _ (.head _)) (by simpa using ki)) (.inl ⟨by rw[li];exact bK,rfl⟩) ?_;refine eM w3 T a1 a2 ?_;refine⟨O,?_⟩;refine Xc (l:=cj) (v:=.agg cj.toArray) rfl (cellsU Q (.tail _ (.head _)) (by simpa using kj)) (.inl ⟨by rw[lj];exact bK,rfl⟩) ?_;refine eM w3 T a1 a2 ?_;refine cv Q [0] [] [_] rfl gf rfl (cf I2 _ _ _ _ ri rj) ?_;rintro v I3 qs P w⟨rfl,z,rfl,hz⟩;simp only[Z3]at P |-;refine aC ?_;apply an;cases hl:aO d2[first+(2*r+1)]! d2[first+(2*r+2)]! with
   |true=>
    rw[hl]at hz;have aa:aO d2[first+(2*r+1)]! d2[first+(2*r+1)+1]! = true:=hl;rw[ak (by simp only[aa,lO,cu];omega)]at b;refine bW hz w3 ?_;obtain⟨gq,cpq,W,u,t,M,V,K,D,C,p,o,G,F,y⟩:=Ow.two (aT.le L w) (fun{I} c a h=>az.len c a h) (fun{I J c a} h k=>az.le h k) (i:=first+r) (j:=first+(2*r+2)) O O;rw[x]at M K;cases M
    obtain rfl:=Jn V;clear V;refine aV [0,1,2,3,4,5,6,7,8,9,10,11,12,13,14,15] [6,12] [] ?_;refine eM a1 a2 a3 a4 ?_;refine⟨O,?_⟩;refine Xc (l:=u) (v:=.agg u.toArray) rfl (cellsU P (.tail _ (.head _)) (by simpa using G)) (.inl ⟨by rw[p];exact bK,rfl⟩) ?_;refine eM a1 a2 a3 a4 ?_;refine⟨O,?_⟩;refine Xc (l:=t) (v:=.agg t.toArray) rfl (cellsU P (.tail _ (.head _)) (by simpa using F)) (.inl ⟨by rw[o];exact bK,rfl⟩) ?_;refine eM a1 a2 a3 a4 ?_;refine cv P [0] [] [_] rfl gf rfl (cf I3 _ _ _ _ D C) ?_;rintro v X qs m e⟨rfl,z,rfl,q⟩;simp only[Z3]at m |-;refine aC ?_;apply an;cases s:aO d2[first+r]! d2[first+(2*r+2)]! with
    |false=>rw[s]at q;rw[ak (by simp[s])]at b;apply RG;simp only[go_sem,E,q,cF];exact ao rfl m (r:=[]) rfl (Y B (Y w e)) ⟨_,rfl,by rw[<-b];exact aT.le L (Y w e),by rw[<-b];exact x⟩
    |true=>rw[s]at q;rw[ad (by simp[s])]at b;rw[dif_pos h2]at b;apply RG;simp only[go_sem,E,q,bX];have mi:((first+r)+1)*7<=d.size*7:=bS _ O;have mj:((first+(2*r+2))+1)*7<=d.size*7:=bS _ O;refine aV [0,1,2,3,4,5,6,7,8,9,10,11,12,13,14,15,16,17,18,19,20,21,22,23] [13,19] [] ?_;refine eM a1 a2 a3 a4 ?_;refine⟨O,?_⟩;refine Xc (l:=t) (v:=.agg t.toArray) rfl (cellsU m (.tail _ (.head _)) (by simpa using F)) (.inl ⟨by rw[o];exact bK,rfl⟩) ?_;refine eM a1 a2 a3 a4 ?_;refine⟨O,?_⟩;refine Xc (l:=u) (v:=.agg u.toArray) rfl (cellsU m (.tail _ (.head _)) (by simpa using G)) (.inl ⟨by rw[p];exact bK,rfl⟩) ?_;refine eM a1 a2 a3 a4 ?_;refine⟨O,?_⟩;refine cg m rfl rfl rfl rfl rfl (cR (az.ones C)) (by rw[o];exact dF) (by rw[o];omega) fun R=>?_;refine eM a1 a2 a3 a4 ?_;refine⟨O,?_⟩;refine cg R rfl rfl rfl rfl rfl (cR (az.ones D)) (by rw[p];exact dF) (by rw[p];simp[eJ];omega) fun S=>?_;apply an;refine av ?_;exact N (2*r+2) _ _ O ae (by simp only[go_sem,ab,tq]) ⟨X,_,_,rfl,S,Y B (Y w e),O,by rw[gQ];exact x,y X e,b⟩
   |false=>
    rw[hl]at hz;have aa:aO d2[first+(2*r+1)]! d2[first+(2*r+1)+1]! = false:=hl;rw[ad (by simp only[aa,Bool.and_false];decide)]at b;refine aj hz ?_;obtain⟨gq,cpq,W,u,t,M,V,K,D,C,p,o,G,F,y⟩:=Ow.two (aT.le L w) (fun{I} c a h=>az.len c a h) (fun{I J c a} h k=>az.le h k) (i:=first+r) (j:=first+(2*r+1)) O O;rw[x]at M K;cases M
    obtain rfl:=Jn V;clear V;refine aV [0,1,2,3,4,5,6,7,8,9,10,11,12,13,14,15] [6,12] [] ?_;refine eM a1 a2 a3 a4 ?_;refine⟨O,?_⟩;refine Xc (l:=u) (v:=.agg u.toArray) rfl (cellsU P (.tail _ (.head _)) (by simpa using G)) (.inl ⟨by rw[p];exact bK,rfl⟩) ?_;refine eM a1 a2 a3 a4 ?_;refine⟨O,?_⟩;refine Xc (l:=t) (v:=.agg t.toArray) rfl (cellsU P (.tail _ (.head _)) (by simpa using F)) (.inl ⟨by rw[o];exact bK,rfl⟩) ?_;refine eM a1 a2 a3 a4 ?_;refine cv P [0] [] [_] rfl gf rfl (cf I3 _ _ _ _ D C) ?_;rintro v X qs m e⟨rfl,z,rfl,q⟩;simp only[Z3]at m |-;refine aC ?_;apply an;cases s:aO d2[first+r]! d2[first+(2*r+1)]! with
    |false=>rw[s]at q;rw[ak (by simp[s])]at b;apply RG;simp only[go_sem,E,q,cF];exact ao rfl m (r:=[]) rfl (Y B (Y w e)) ⟨_,rfl,by rw[<-b];exact aT.le L (Y w e),by rw[<-b];exact x⟩
    |true=>rw[s]at q;rw[ad (by simp[s])]at b;apply RG;simp only[go_sem,E,q,bX];have mi:((first+r)+1)*7<=d.size*7:=bS _ O;have mj:((first+(2*r+1))+1)*7<=d.size*7:=bS _ O;refine aV [0,1,2,3,4,5,6,7,8,9,10,11,12,13,14,15,16,17,18,19,20,21,22,23] [13,19] [] ?_;refine eM a1 a2 a3 a4 ?_;refine⟨O,?_⟩;refine Xc (l:=t) (v:=.agg t.toArray) rfl (cellsU m (.tail _ (.head _)) (by simpa using F)) (.inl ⟨by rw[o];exact bK,rfl⟩) ?_;refine eM a1 a2 a3 a4 ?_;refine⟨O,?_⟩;refine Xc (l:=u) (v:=.agg u.toArray) rfl (cellsU m (.tail _ (.head _)) (by simpa using G)) (.inl ⟨by rw[p];exact bK,rfl⟩) ?_;refine eM a1 a2 a3 a4 ?_;refine⟨O,?_⟩;refine cg m rfl rfl rfl rfl rfl (cR (az.ones C)) (by rw[o];exact dF) (by rw[o];omega) fun R=>?_;refine eM a1 a2 a3 a4 ?_;refine⟨O,?_⟩;refine cg R rfl rfl rfl rfl rfl (cR (az.ones D)) (by rw[p];exact dF) (by rw[p];simp[eJ];omega) fun S=>?_;apply an;refine av ?_;exact N (2*r+1) _ _ O ae (by simp only[go_sem,ab,tq]) ⟨X,_,_,rfl,S,Y B (Y w e),O,by rw[gQ];exact x,y X e,b⟩
  .have T:decide (((2*r+2:Nat):Int)<(hi:Int))=false:=aS O;rw[ad (by simp;omega)]at b;refine aV [0,1,2,3,4,5,6,7,8,9,10,11,12,13,14,15,16,17,18,19,20,21] [11,18] [] ?_;refine eS w3 T ?_;apply an;refine av ?_;obtain⟨gq,cpq,W,u,t,M,rfl,K,D,C,p,o,G,F,y⟩:=Ow.two (aT.le L (ax _)) (fun{I} c a h=>az.len c a h) (fun{I J c a} h k=>az.le h k) (i:=first+r) (j:=first+(2*r+1)) O O;rw[x]at M K;cases M
   refine aV [0,1,2,3,4,5,6,7,8,9,10,11,12,13,14,15] [6,12] [] ?_;refine eM a1 a2 a3 a4 ?_;refine⟨O,?_⟩;refine Xc (l:=u) (v:=.agg u.toArray) rfl (cellsU Q (.tail _ (.head _)) (by simpa using G)) (.inl ⟨by rw[p];exact bK,rfl⟩) ?_;refine eM a1 a2 a3 a4 ?_;refine⟨O,?_⟩;refine Xc (l:=t) (v:=.agg t.toArray) rfl (cellsU Q (.tail _ (.head _)) (by simpa using F)) (.inl ⟨by rw[o];exact bK,rfl⟩) ?_;refine eM a1 a2 a3 a4 ?_;refine cv Q [0] [] [_] rfl gf rfl (cf I2 _ _ _ _ D C) ?_;rintro v X qs m e⟨rfl,z,rfl,q⟩;simp only[Z3]at m |-;refine aC ?_;apply an;cases s:aO d2[first+r]! d2[first+(2*r+1)]! with
   |false=>rw[s]at q;rw[ak (by simp[s])]at b;apply RG;simp only[go_sem,E,q,cF];exact ao rfl m (r:=[]) rfl (Y B (Y (ax _) e)) ⟨_,rfl,by rw[<-b];exact aT.le L (Y (ax _) e),by rw[<-b];exact x⟩
   |true=>rw[s]at q;rw[ad (by simp[s])]at b;apply RG;simp only[go_sem,E,q,bX];have mi:((first+r)+1)*7<=d.size*7:=bS _ O;have mj:((first+(2*r+1))+1)*7<=d.size*7:=bS _ O;refine aV [0,1,2,3,4,5,6,7,8,9,10,11,12,13,14,15,16,17,18,19,20,21,22,23] [13,19] [] ?_;refine eM a1 a2 a3 a4 ?_;refine⟨O,?_⟩;refine Xc (l:=t) (v:=.agg t.toArray) rfl (cellsU m (.tail _ (.head _)) (by simpa using F)) (.inl ⟨by rw[o];exact bK,rfl⟩) ?_;refine eM a1 a2 a3 a4 ?_;refine⟨O,?_⟩;refine Xc (l:=u) (v:=.agg u.toArray) rfl (cellsU m (.tail _ (.head _)) (by simpa using G)) (.inl ⟨by rw[p];exact bK,rfl⟩) ?_;refine eM a1 a2 a3 a4 ?_;refine⟨O,?_⟩;refine cg m rfl rfl rfl rfl rfl (cR (az.ones C)) (by rw[o];exact dF) (by rw[o];omega) fun R=>?_;refine eM a1 a2 a3 a4 ?_;refine⟨O,?_⟩;refine cg R rfl rfl rfl rfl rfl (cR (az.ones D)) (by rw[p];exact dF) (by rw[p];simp[eJ];omega) fun S=>?_;apply an;refine av ?_;exact N (2*r+1) _ _ O ae (by simp only[go_sem,ab,tq]) ⟨X,_,_,rfl,S,Y B (Y (ax _) e),O,by rw[gQ];exact x,y X e,b⟩
 .have ac:decide (((2*r+1:Nat):Int)>=(hi:Int))=true:=ar O;rw[Sort.siftDown,dif_pos am]at b;refine lr w1 w2 ac ?_;exact iu rfl Q (r:=[]) rfl B ⟨Z,rfl,by rw[<-b];exact L,by rw[<-b];exact x⟩
def PI:ay prog 275:=⟨_,func275,rfl,rfl⟩
def ja{k:Nat}(h:k<2^61):IntKind.i64.wrap ((k:Int)-1)=(k:Int)-1:=by
 have:=fa (a:=k) (b:=1) O O
 rwa [show ((1:Nat):Int)=1 from rfl]at this
def yD(v b a vc:Value)(k:Nat):St:=⟨dn 60 [(0,.v v),(3,.v vc),(8,.v b),(9,.v (.int .i64 0)),(10,.v a),(11,.v (.int .i64 ((k:Int)-1)))],[]⟩
def yE(v a vc:Value)(k:Nat):St:=⟨dn 60 [(0,.v v),(3,.v vc),(8,.v a),(9,.v (.int .i64 0)),(12,.v (.int .i64 ((k:Int)-1)))],[]⟩
def Qz(hA:aT I A v d.toList)(hc:gu az aO vc)(aq:a<=b)(hb:b<=d.size)(hn:d.size<=bF):
  aI prog 272 #[v,E a,E b,vc] I [A] fun _ I2 qs=>∃w,qs=[w]/\aT I2 w v (Sort.heapSort aO d a b).toList:=by
 intro hd;unfold bF at hn;obtain⟨f,fst,cap,rfl,gf,cf⟩:=id hc;obtain⟨S,R,rfl⟩:=Ow.one' hA;refine aG 60 func272 fun w0=>?_
 try simp only[E]
 have w1:IntKind.i64.wrap ((b:Int)-(a:Int))=((b-a:Nat):Int):=by rw[fa O O];omega
 have w2:=ja (k:=b-a) O;have w3:IntKind.i64.wrap ((((b-a:Nat):Int)-1).tdiv 2)=(((b-a-1) / 2+1:Nat):Int)-1:=by
  have e:(((b-a:Nat):Int)-1).tdiv 2=(((b-a-1) / 2:Nat):Int):=by
   rcases g9 (b-a)with h|h
   .rw[h];decide
   .rw[show ((b-a:Nat):Int)-1=((b-a-1:Nat):Int) by omega];rfl
  rw[e,wrap64 O];omega
 apply RG;simp only[go_sem,w1,w2,w3];refine bz (fun k=>k) (yD (.slice S d.size R) (E a) (E (b-a)) (.func (.func f) fst cap)) (fun k H=>∃I2 w d2,H=U [I2,w]/\Dj [I2,w]/\I.le I2/\k<=d.size+1/\d2.size=d.size/\aT I2 w (.slice S d.size R) d2.toList/\Sort.heapBuild aO (b-a) a k d2=Sort.heapBuild aO (b-a) a ((b-a-1) / 2+1) d) ((b-a-1) / 2+1) ae (by simp only[go_sem,ab,yD]) ?_ ?_
 .exact⟨I,A,d,rfl,hd,ax _,O,rfl,hA,rfl⟩
 rintro k H ⟨I2,w,d2,rfl,N,x,hk,B,P,t⟩ C;simp only[yD];cases k with
 |succ k=>have e:(((k+1:Nat):Int)-1)=(k:Int):=O;have F:decide ((k:Int)>=0)=true:=ar O;have T:=ja (k:=k) O;rw[Sort.heapBuild]at t;refine bW e F ?_;refine ce N [0] [w] [] rfl G7 rfl (Jp (d:=d2) (lo:=k) (hi:=b-a) (first:=a) P hc O (by rw[B];exact hn) O) ?_;rintro v y qs m o⟨G,rfl,u,p⟩;simp only[Z3]at m |-;refine aj T ?_;exact C k _ _ O ae (by simp only[go_sem,ab,yD]) ⟨y,G,_,rfl,m,Y x o,O,by rw[p];exact B,u,t⟩
 |zero=>
  have F:decide ((0:Int)-1>=0)=false:=rfl;rw[Sort.heapBuild]at t;refine bW F w2 ?_;refine bz (fun k=>k) (yE (.slice S d.size R) (E a) (.func (.func f) fst cap)) (fun k H=>∃y G d3,H=U [y,G]/\Dj [y,G]/\I2.le y/\k<=b-a/\d3.size=d.size/\aT y G (.slice S d.size R) d3.toList/\Sort.heapPop aO a k d3=Sort.heapSort aO d a b) (b-a) ae (by simp only[go_sem,ab,yE]) ?_ ?_
  .exact⟨I2,w,d2,rfl,N,ax _,aW _,B,P,by rw[t];rfl⟩
  rintro k H ⟨y,G,d3,rfl,m,o,ap,p,u,s⟩ q;simp only[yE];cases k with
  |succ k=>
   have e:(((k+1:Nat):Int)-1)=(k:Int):=O;have D:decide ((k:Int)>=0)=true:=ar O;have T:=ja (k:=k) O;rw[Sort.heapPop]at s;refine bW e D ?_;have Q:IntKind.i64.wrap ((a:Int)+(k:Int))=((a+k:Nat):Int):=by rw[<-wrap64 (n:=a+k) O];congr 1<;>omega
   obtain⟨g,cp,cur,ci,cj,ev,rfl,ag,ri,rj,W,V,ki,kj,K⟩:=Ow.two u (fun{I} c a h=>az.len c a h) (fun{I J c a} h k=>az.le h k) (i:=a) (j:=a+k) O O;rw[p]at ev ag;cases ev
   have mi:(a+1)*7<=d.size*7:=bS _ O;have mj:((a+k)+1)*7<=d.size*7:=bS _ O;refine aV [0,1,2,3,4,5,6,7,8,9,10,11,12,13,14,15,16,17,18,19] [11,15] [] ?_;refine aM Q ?_;refine⟨O,?_⟩;refine Xc (l:=cj) (v:=.agg cj.toArray) rfl (cellsU m (.tail _ (.head _)) (by simpa using kj)) (.inl ⟨by rw[V];exact bK,rfl⟩) ?_;refine aM Q ?_;refine⟨O,?_⟩;refine Xc (l:=ci) (v:=.agg ci.toArray) rfl (cellsU m (.tail _ (.head _)) (by simpa using ki)) (.inl ⟨by rw[W];exact bK,rfl⟩) ?_;refine aM Q ?_;refine⟨O,?_⟩;refine cg m rfl rfl rfl rfl rfl (cR (az.ones rj)) (by rw[V];exact dF) (by rw[V];omega) fun aa=>?_;refine aM Q ?_;refine⟨O,?_⟩;refine cg aa rfl rfl rfl rfl rfl (cR (az.ones ri)) (by rw[W];exact dF) (by rw[W];simp[eJ];omega) fun ac=>?_;apply an;refine aj e ?_;have am:=K y (ax _);have z:(Sort.swp d3 a (a+k)).size=d.size:=by rw[gQ];exact p
   refine ce ac [0] [sg g _] [] rfl G7 rfl (Jp (lo:=0) (hi:=k) (first:=a) am hc (by rw[z];omega) (by rw[z];exact hn) (bg _)) ?_;rintro v I5 qs M L⟨A5,rfl,al,X⟩;simp only[Z3]at M |-;refine aj T ?_;exact q k _ _ O ae (by simp only[go_sem,ab,yE]) ⟨I5,A5,_,rfl,M,Y o L,O,by rw[X];exact z,al,s⟩
  |zero=>have D:decide ((0:Int)-1>=0)=false:=rfl;rw[Sort.heapPop]at s;refine aj D ?_;exact iu rfl m (r:=[]) rfl (Y x o) ⟨G,rfl,by rw[<-s];exact u⟩
def zC(v:Value)(x:Nat×Nat):St:=⟨dn 34 [(0,.v v),(8,.v (E x.1)),(9,.v (.int .i64 ((x.2:Int)-1)))],[]⟩
def Uf(L:aT I A v d.toList)(ac:a<b)(hb:b<=d.size)(X:d.size<=bF):
  aI prog 275 #[v,E a,E b,vc] I [A] fun _ I2 qs=>∃o,qs=[o]/\aT I2 o v (Sort.reverseRange d a b).toList:=by
 intro hd;unfold bF at X;obtain⟨K,G,rfl⟩:=Ow.one' L;refine aG 34 func275 fun w0=>?_
 try simp only[E]
 have w2:=ja (k:=b) O;refine db w2 ?_;refine bz (fun x=>x.2-x.1) (zC (.slice K d.size G)) (fun x H=>∃o d2,H=U [I,o]/\Dj [I,o]/\x.1<=b/\1<=x.2/\x.2<=b/\d2.size=d.size/\aT I o (.slice K d.size G) d2.toList/\Sort.reverseLoop x.1 (x.2-1) d2=Sort.reverseRange d a b) (a,b) ae (by simp only[go_sem,ab,zC]) ?_ ?_
 .exact⟨A,d,rfl,hd,by simp only;omega,by simp only;omega,aW _,rfl,L,rfl⟩
 rintro⟨i,j⟩ H ⟨o,d2,rfl,m,hi,B,Z,s,u,f⟩ p;simp only at hi B Z f;simp only[zC];obtain⟨j,rfl⟩:∃W,j=W+1:=⟨j-1,O⟩;have e:(((j+1:Nat):Int)-1)=(j:Int):=O;rw[rG]at f;have Q:=ja (k:=j) O;have P:IntKind.i64.wrap ((i:Int)+1)=((i+1:Nat):Int):=by rw[<-wrap64 (n:=i+1) O];congr 1<;>omega
 rcases aB i j with z|aa
 .have q:=Z5 i j;rw[Sort.reverseLoop,ak z]at f;refine bW e q ?_;obtain⟨g,cp,cur,N,M,ev,rfl,F,S,R,y,w,V,T,t⟩:=Ow.two u (fun{I} c a h=>az.len c a h) (fun{I J c a} h k=>az.le h k) (i:=i) (j:=j) O O;rw[s]at ev F;cases ev
  have mi:(i+1)*7<=d.size*7:=bS _ O;have mj:(j+1)*7<=d.size*7:=bS _ O;refine aV [0,1,2,3,4,5,6,7,8,9,10,11,12,13,14,15] [7,11] [] ?_;refine aM e ?_;refine⟨O,?_⟩;refine Xc (l:=M) (v:=.agg M.toArray) rfl (cellsU m (.tail _ (.head _)) (by simpa using T)) (.inl ⟨by rw[w];exact bK,rfl⟩) ?_;refine aM e ?_;refine⟨O,?_⟩;refine Xc (l:=N) (v:=.agg N.toArray) rfl (cellsU m (.tail _ (.head _)) (by simpa using V)) (.inl ⟨by rw[y];exact bK,rfl⟩) ?_;refine aM e ?_;refine⟨O,?_⟩;refine cg m rfl rfl rfl rfl rfl (cR (az.ones R)) (by rw[w];exact dF) (by rw[w];omega) fun C=>?_;refine aM e ?_;refine⟨O,?_⟩;refine cg C rfl rfl rfl rfl rfl (cR (az.ones S)) (by rw[y];exact dF) (by rw[y];simp[eJ];omega) fun D=>?_;apply an;refine bW Q P ?_;exact p (i+1,j) _ _ bC ae (by simp only[go_sem,ab,zC]) ⟨_,_,rfl,D,by simp only;omega,by simp only;omega,by simp only;omega,by rw[gQ];exact s,t I (ax _),f⟩
 .have q:decide ((i:Int)<(j:Int))=false:=aS O;rw[Sort.reverseLoop,ad O]at f;refine bW e q ?_;exact iu rfl m (r:=[]) rfl (ax _) ⟨o,rfl,by rw[<-f];exact u⟩
end Go.Proofs.YtfaclfkpnmcmlaaGreatDoor
