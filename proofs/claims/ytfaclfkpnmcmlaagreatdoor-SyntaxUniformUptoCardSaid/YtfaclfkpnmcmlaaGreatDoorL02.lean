import Derived.Test.YtfaclfkpnmcmlaaGreatDoorL01
import Derived.Deep.Upon
set_option maxHeartbeats 8000000
set_option linter.all false
open Go.Proofs.Tryz hiding d6 f9 t8
namespace Go.Proofs.YtfaclfkpnmcmlaaGreatDoor
open Go Go.Sx Dg
variable{a:Nat}
def lV{b:Nat}(ha:a<2^32)(hb:b<2^32):mK .u32 (a:Int) (b:Int)=((a&&&b:Nat):Int):=by
 have e:BitVec.ofInt 32 (a:Int)=BitVec.ofNat _ a:=by rw[BitVec.ofInt_natCast]
 have d:BitVec.ofInt 32 (b:Int)=BitVec.ofNat _ b:=by rw[BitVec.ofInt_natCast]
 have c:a&&&b<2^32:=wR Nat.and_le_left ha;have:mK .u32 (a:Int) (b:Int)=IntKind.u32.wrap ((BitVec.ofInt 32 (a:Int)&&&BitVec.ofInt 32 (b:Int)).toNat:Int):=rfl;rw[this,e,d,BitVec.toNat_and,BitVec.toNat_ofNat,BitVec.toNat_ofNat,Nat.mod_eq_of_lt ha,Nat.mod_eq_of_lt hb];simp only[IntKind.wrap,show IntKind.bits .u32=32 from rfl,show IntKind.signed .u32=false from rfl];have:((a&&&b:Nat):Int) % (2^32:Int)=((a&&&b:Nat):Int):=uw O (by exact_mod_cast c);simpa using this
def BU{i:Nat}(hi:i<=32):mn .u32 (a:Int) (i:Int)=((a >>> i:Nat):Int):=by have:mn .u32 (a:Int) (i:Int)=Int.fdiv (a:Int) (2^(min i 32)):=rfl;have e:min i 32=i:=O;rw[this,e,rg];have:(2^i:Int)=((2^i:Nat):Int):=ao;rw[this,Int.fdiv_eq_ediv_of_nonneg _ (gL _)];rfl
def BV{i:Nat}(ha:a<2^32):a >>> i<2^32:=by rw[rg];exact wR (Nat.div_le_self _ _) ha
def Dr(a i:Nat):((((a >>> i)&&&1:Nat):Int) == 1)=a.testBit i:=by
 have:(a >>> i)&&&1=(a.testBit i).toNat:=by rw[Nat.and_one_is_mod,Nat.testBit_eq_decide_div_mod_eq,rg];have:=Nat.mod_two_eq_zero_or_one (a / 2^i);rcases this with h|h<;>simp[h]
 rw[this];cases a.testBit i<;>rfl
def gj(on off:Nat):Nat->T
 |0=>.lf true
 |k+1=>if on.testBit (23-k)then T.mk (23-k) (.lf false) (gj on off k)else if off.testBit (23-k)then T.mk (23-k) (gj on off k) (.lf false)else gj on off k
def Ao(on off:Nat):∀k,k<=24->(gj on off k).ok (24-k)
 |0,_=>trivial
 |k+1,b=>by
  have a:=Ao on off k O;have e:24-k=23-k+1:=O;have e2:24-(k+1)=23-k:=O;rw[e]at a;unfold gj;rw[e2];split
  .exact T.mk_ok (aR _) O trivial a
  .split
   .exact T.mk_ok (aR _) O a trivial
   .exact a.mono O
def HL(on off:Nat)(c:aF):∀k,k<=24->((gj on off k).at' c=true<->∀i,24-k<=i->i<24->(on.testBit i=true->c i=true)/\(on.testBit i=false->off.testBit i=true->c i=false))
 |0,_=>⟨fun _ i h1 h2=>by omega,fun _=>rfl⟩
 |k+1,d=>by
  have a:=HL on off c k O;have step:(∀i,24-(k+1)<=i->i<24->(on.testBit i=true->c i=true)/\(on.testBit i=false->off.testBit i=true->c i=false))<->
    ((on.testBit (23-k)=true->c (23-k)=true)/\(on.testBit (23-k)=false->off.testBit (23-k)=true->c (23-k)=false))/\(∀i,24-k<=i->i<24->(on.testBit i=true->c i=true)/\(on.testBit i=false->off.testBit i=true->c i=false)):=by
   constructor
   .exact fun h=>⟨h _ O O,fun i h1 h2=>h i O h2⟩
   .rintro⟨h1,h2⟩ i h3 h4;by_cases e:i=23-k
    .subst e;exact h1
    .exact h2 i O h4
  rw[step,<-a];have e:gj on off (k+1)=if on.testBit (23-k)then T.mk (23-k) (.lf false) (gj on off k)else if off.testBit (23-k)then T.mk (23-k) (gj on off k) (.lf false)else gj on off k:=rfl
  rw[e];generalize gj on off k=r;cases h1:on.testBit (23-k)<;>cases h2:off.testBit (23-k)<;>cases b:c (23-k)<;>simp[T.mk_at,T.at',b]
def iJ(on off:Nat):T:=if (on&&&16777215)&&&(off&&&16777215)≠0 then .lf false else gj (on&&&16777215) (off&&&16777215) 24
def Ap(on off:Nat):(iJ on off).ok 0:=by
 unfold iJ;split
 .trivial
 .exact Ao _ _ 24 (aR _)
def oJ(on off mb:Nat)(a:Nat×Nat):St:=
 ⟨sp 0 45 [(0,.v (.int .u32 on)),(1,.v (.int .u32 off)),(4,.p 4 0),(5,.v (pt mb)),(6,.v (E a.2)),(7,.v (.int .i64 (23-(a.1:Int))))],[⟨4,50,[.slice none 0 0,.int .i64 0]⟩]⟩
def Pm(on off mb:Nat)(b:PH)(a:Nat×Nat)(H:PH):Prop:=
 ∃I mk ms,H=U (I::mk)/\Dj (I::mk)/\b.le I/\a.1<=24/\pJ mb ms mk/\ms.length<=a.1/\T.isIn ms (gj on off a.1)/\a.2=T.plc ms (gj on off a.1)
def DI{I:PH}{on off:Nat}(Q:on<2^32)(w:off<2^32):Zu 69 #[.int .u32 on,.int .u32 off] I [] fun v I2 t=>t=[]/\bW I2 v (iJ on off):=by
 intro hd;refine fj func69 rfl (by simp[ntmps69]) fun w0=>?_;simp only[ntmps69,E];have Z:(16777215:Nat)<2^32:=by decide
 have u:on&&&16777215<2^32:=wR Nat.and_le_left Q;have h:off&&&16777215<2^32:=wR Nat.and_le_left w;have e1:=lV Q Z;have e2:=lV w Z;have e3:=lV u h;simp only[dP]at e1 e2;by_cases hz:(on&&&16777215)&&&(off&&&16777215)=0
 .have K:((((on&&&16777215)&&&(off&&&16777215):Nat):Int) != 0)=false:=by rw[hz];rfl
  apply RG;simp only[go_sem,e1,e2,e3,K];refine GH hd [] rfl Ei rfl (F:=[]) rfl (E3 I) ?_;rintro v I2 t X V⟨mb,rfl,hM⟩;simp only[Y]at X |-;apply RG;simp only[go_sem,E,pt];refine bV (fun a=>24-a.1) (oJ (on&&&16777215) (off&&&16777215) mb) (Pm (on&&&16777215) (off&&&16777215) mb I) (0,1) (by simp only[go_sem,Y,oJ,E,pt,Int.sub_zero]) (by simp only[go_sem,Y,oJ,E]) ?_ ?_
  .exact⟨I2,t,[],rfl,X,V,aE _,hM,by simp,trivial,rfl⟩
  rintro⟨k,r⟩ H ⟨I3,mk,ms,rfl,o,f,hk,d,ac,l,hr⟩ e;simp only at hk d ac l hr;subst hr;simp only[oJ];rcases aK k 24 with n|am
  .have J:decide (23-(k:Int)>=0)=true:=by simp;omega
   have ei:(23-(k:Int))=((23-k:Nat):Int):=O;have N:IntKind.i64.wrap (((23-k:Nat):Int)-1)=23-((k+1:Nat):Int):=by
    have h1:(((23-k:Nat):Int)-1)=22-(k:Int):=O;rw[h1];have:∀k:Nat,k<24->IntKind.i64.wrap (22-(k:Int))=23-((k+1:Nat):Int):=by decide
    exact this k n
   have y:=BU (a:=on&&&16777215) (i:=23-k) O;have x:=BU (a:=off&&&16777215) (i:=23-k) O;have q:=lV (BV (i:=23-k) u) (show (1:Nat)<2^32 by decide);have p:=lV (BV (i:=23-k) h) (show (1:Nat)<2^32 by decide);simp only[dP]at q p;have C:=Dr (on&&&16777215) (23-k);have B:=Dr (off&&&16777215) (23-k);have m:decide (((23-k:Nat):Int)>=0)=true:=ao;have L:(0:Int)<=((23-k:Nat):Int):=O;have g:=Ao (on&&&16777215) (off&&&16777215) k hk;rw[show 24-k=23-k+1 by omega]at g;rw[ei];cases s:(on&&&16777215).testBit (23-k)
   .cases P:(off&&&16777215).testBit (23-k)
    .apply RG;simp only[go_sem,m,L,y,x,q,p,C,B,s,P,E,pt,N];refine e (k+1,T.plc ms (gj (on&&&16777215) (off&&&16777215) k)) _ _ bi (by simp only[go_sem,Y,oJ,E,pt]) (by simp only[go_sem,Y,oJ,E]) ⟨I3,mk,ms,rfl,o,f,n,d,O,?_,?_⟩
     .simp only[gj,s,P,dO,dG];exact l
     .simp only[gj,s,P,dO,dG]
    .apply RG;simp only[go_sem,m,L,y,x,q,p,C,B,s,P,E,pt];have c1:=Bm (mb:=mb) (I:=I3) (i:=23-k) (lo:=gj (on&&&16777215) (off&&&16777215) k) (hi:=.lf false) d O g trivial l trivial O;obtain⟨mA,mS,mR,mM,rfl,U,S,R⟩:=d;refine GH o [0,1,2] rfl AB rfl (F:=[]) rfl c1 ?_;rintro v1 I4 t c b⟨us,G,aa,j,rfl⟩;simp only[Y]at c |-;apply RG;simp only[go_sem,E,pt,N];refine e (k+1,T.plc (ms++us) (gj (on&&&16777215) (off&&&16777215) (k+1))) _ _ bi ?_ (by simp only[go_sem,Y,oJ,E]) ⟨I4,t,ms++us,rfl,c,D f b,n,G,by simp only[aH];omega,?_,rfl⟩
     .simp only[gj,s,P,cu,dO,dG];exact(by simp only[go_sem,Y,oJ,E,pt])
     .simp only[gj,s,P,cu,dO,dG];exact j
   .apply RG;simp only[go_sem,m,L,y,x,q,p,C,B,s,E,pt];have c1:=Bm (mb:=mb) (I:=I3) (i:=23-k) (lo:=.lf false) (hi:=gj (on&&&16777215) (off&&&16777215) k) d O trivial g trivial l O;obtain⟨mA,mS,mR,mM,rfl,U,S,R⟩:=d;refine GH o [0,1,2] rfl AB rfl (F:=[]) rfl c1 ?_;rintro v1 I4 t c b⟨us,G,aa,j,rfl⟩;simp only[Y]at c |-;apply RG;simp only[go_sem,E,pt,N];refine e (k+1,T.plc (ms++us) (gj (on&&&16777215) (off&&&16777215) (k+1))) _ _ bi ?_ (by simp only[go_sem,Y,oJ,E]) ⟨I4,t,ms++us,rfl,c,D f b,n,G,by simp only[aH];omega,?_,rfl⟩
    .simp only[gj,s,cu,dO,dG];exact(by simp only[go_sem,Y,oJ,E,pt])
    .simp only[gj,s,cu,dO,dG];exact j
  .have W:k=24:=by omega
   subst W;have J:decide (23-((24:Nat):Int)>=0)=false:=by decide
   have g:=Ao (on&&&16777215) (off&&&16777215) 24 (aR _);have A:iJ on off=gj (on&&&16777215) (off&&&16777215) 24:=by unfold iJ;rw[ab (by simpa using hz)]
   rw[show 23-((24:Nat):Int)=-1 by decide]at J |-;apply RG;simp only[go_sem,J,E,pt];obtain⟨mA,mS,mR,mM,rfl,U,S,R⟩:=id d;refine GH o [0,1,2] rfl Ej rfl (F:=[]) rfl (DP (mb:=mb) d l g O) ?_;rintro v2 I4 t c b⟨rfl,hr⟩;rw[<-A]at hr;obtain⟨xr,cr,rfl⟩:=hr.shape;simp only[Y]at c |-;apply RG;simp only[go_sem,E];exact az rfl c (r:=[.agg #[.slice xr (T.subs (iJ on off)).length cr,E (T.plc (T.subs (iJ on off)) (iJ on off))]]) (by simp only[results69,go_sem,E]) (D f b) ⟨rfl,hr⟩
 .have K:((((on&&&16777215)&&&(off&&&16777215):Nat):Int) != 0)=true:=by simp only[bne_iff_ne,ne_eq];omega
  have A:iJ on off=.lf false:=by unfold iJ;rw[ah (by simpa using hz)]
  apply RG;simp only[go_sem,e1,e2,e3,K];exact az rfl hd (r:=[.agg #[.slice none 0 0,E 0]]) (by simp only[results69,go_sem,E]) (aD _) ⟨rfl,by rw[A];exact pd I false⟩
def fT(c:Nat):aF:=fun i=>c.testBit i
def nI(l:List (Nat×Nat)):T:=l.foldl (fun d x=>d.or (iJ x.1 x.2)) (.lf false)
def nP(c:Nat)(x:Nat×Nat):Bool:=decide ((c&&&x.1)&&&16777215=x.1&&&16777215) && decide ((c&&&x.2)&&&16777215=0)
def mU(l:List (Nat×Nat))(c:Nat):Bool:=l.any (nP c)
def rV(i:Nat):(16777215:Nat).testBit i=decide (i<24):=by rw[show (16777215:Nat)=2^24-1 from rfl,Nat.testBit_two_pow_sub_one]
def Jl(c:Nat)(x:Nat×Nat):nP c x=true<->∀i,i<24->(x.1.testBit i=true->c.testBit i=true)/\(x.2.testBit i=true->c.testBit i=false):=by
 unfold nP;rw[cZ,dE,dE];constructor
 .rintro⟨h1,h2⟩ i hi;have e1:=congrArg (fun n=>n.testBit i) h1;have e2:=congrArg (fun n=>n.testBit i) h2;simp only[uB,rV,hi,decide_true,rd,Nat.zero_testBit]at e1 e2;refine⟨fun h=>?_,fun h=>?_⟩
  .rw[h]at e1;simpa using e1
  .rw[h]at e2;simpa using e2
 .intro h;constructor
  .apply Nat.eq_of_testBit_eq;intro i;simp only[uB,rV];by_cases hi:i<24
   .have:=(h i hi).1;cases h1:x.1.testBit i
    .simp
    .simp[this h1]
   .simp[hi]
  .apply Nat.eq_of_testBit_eq;intro i;simp only[uB,rV,Nat.zero_testBit];by_cases hi:i<24
   .have:=(h i hi).2;cases h1:x.2.testBit i
    .simp
    .simp[this h1]
   .simp[hi]
def HM(c:Nat)(x:Nat×Nat):(iJ x.1 x.2).at' (fT c)=nP c x:=by
 rw[Bool.eq_iff_iff,Jl];unfold iJ;split
 .rename_i h;constructor
  .intro h;cases h
  .intro k;refine absurd ?_ h;apply Nat.eq_of_testBit_eq;intro i;simp only[uB,rV,Nat.zero_testBit];by_cases hi:i<24
   .have h1:=(k i hi).1;have h2:=(k i hi).2;cases e1:x.1.testBit i<;>cases e2:x.2.testBit i<;>simp_all
   .simp[hi]
 .rename_i h;have h0:∀i,i<24->x.1.testBit i=true->x.2.testBit i=true->False:=by intro i hi e1 e2;apply h;intro e;have:=congrArg (fun n=>n.testBit i) e;simp[uB,rV,hi,e1,e2]at this
  rw[HL _ _ _ 24 (aR _)];constructor
  .intro k i hi;have:=k i O hi;simp only[uB,rV,hi,decide_true,rd]at this;refine⟨this.1,fun e=>?_⟩;cases e1:x.1.testBit i
   .exact this.2 e1 e
   .exact(h0 i hi e1 e).elim
  .intro k i _ hi;have:=k i hi;simp only[uB,rV,hi,decide_true,rd];exact⟨this.1,fun _ e=>this.2 e⟩
def DK(c:Nat):∀(l:List (Nat×Nat)) (z:T),z.ok 0->(l.foldl (fun d x=>d.or (iJ x.1 x.2)) z).ok 0/\(l.foldl (fun d x=>d.or (iJ x.1 x.2)) z).at' (fT c)=(z.at' (fT c) || mU l c)
 | [],z,a=>⟨a,by simp[mU]⟩
 |x::l,z,a=>by have b:=Ap x.1 x.2;obtain⟨h1,h2⟩:=DK c l (z.or (iJ x.1 x.2)) (T.or_ok a b);refine⟨h1,?_⟩;rw[g7,h2,T.or_at a b,HM];simp[mU,Bool.or_assoc]
def Pn(l:List (Nat×Nat)):(nI l).ok 0:=(DK 0 l (.lf false) trivial).1
def HO(l:List (Nat×Nat))(c:Nat):(nI l).at' (fT c)=mU l c:=by have:=(DK c l (.lf false) trivial).2;rw[show (T.lf false).at' (fT c)=false from rfl,lH]at this;exact this
def DJ(c:Nat):(iJ c (4294967295 ^^^ c)).at' (fT c)=true:=by have:=HM c (c,4294967295 ^^^ c);rw[this,Jl];intro i hi;refine⟨fun h=>h,fun h=>?_⟩;simp only[Nat.testBit_xor]at h;rw[show (4294967295:Nat)=2^32-1 from rfl,Nat.testBit_two_pow_sub_one]at h;have a:i<32:=O;simp[a]at h;exact h
end Go.Proofs.YtfaclfkpnmcmlaaGreatDoor
namespace Syn
open Dg
abbrev au:=List UInt8
structure M where
 kind:Nat
 text:au
 tok:Int
 slot:Int
 kids:List M
 cond:T
structure aI where
 code:Nat
 tok:Int
 cond:T
deriving DecidableEq
structure Tok where
 kind:Nat
 text:au
 cond:T
 fits:Bool
abbrev _root_.Zs:=List Tok
structure aj where
 at':Nat
 cond:T
 kind:Nat
 text:au
abbrev ad:=List (Nat×T)
abbrev ff:T:=.lf false
abbrev tt:T:=.lf true
def gy:ad->Nat->T->ad
 | [],a,d=>[(a,d)]
 |(b,e)::l,a,d=>if b<a then (b,e)::gy l a d else if b=a then (b,e.or d)::l else (a,d)::(b,e)::l
def join(f:ad)(a:Nat)(d:T):ad:=if d=ff then f else gy f a d
def joinAll(f g:ad):ad:=g.foldl (fun f s=>join f s.1 s.2) f
def gG(f:ad):T:=f.foldl (fun d s=>d.or s.2) ff
def gK(at':ad):Zs->Nat->T->ad
 | [],i,d=>join at' i d
 |t::l,i,d=>if d=ff then at' else gK (join at' i (d.and t.cond)) l (i+1) (d.and t.cond.not)
def lF(Z:Zs)(f:ad):ad:=f.foldl (fun at' s=>gK at' (Z.drop s.1) s.1 s.2) []
def fu(Z:Zs)(s:Nat×T):aj:=match Z[s.1]? with
 |some t=>if t.fits then ⟨s.1,s.2,t.kind,t.text⟩else ⟨s.1,s.2,0,[]⟩
 |none=>⟨s.1,s.2,0,[]⟩
def co(Z:Zs)(f:ad):List aj:=((lF Z f).filter (fun s=>decide (s.2≠ff))).map (fu Z)
def nq:au:=[118,97,114]
def ul:au:=[102,110]
def om:au:=[105,110,116]
def oj:au:=[98,111,111,108]
def eN:au:=[105,102]
def iV:au:=[101,108,115,101]
def uq:au:=[119,104,105,108,101]
def uo:au:=[114,101,116,117,114,110]
def um:au:=[112,114,105,110,116]
def jP:au:=[97,115,115,101,114,116]
def pu:au:=[116,114,117,101]
def qX:au:=[102,97,108,115,101]
def un:au:=[114,101,97,100]
def cq:au:=[40]
def dt:au:=[41]
def qY:au:=[123]
def iW:au:=[125]
def eV:au:=[44]
def bT:au:=[59]
def dA:au:=[58]
def iC:au:=[61]
def sR:au:=[33]
def pq:au:=[45]
def F6:au:=[124,124]
def FV:au:=[38,38]
def FY:au:=[61,61]
def F5:au:=[33,61]
def F2:au:=[60]
def F1:au:=[60,61]
def F0:au:=[62]
def FZ:au:=[62,61]
def F7:au:=[43]
def F4:au:=[42]
def FW:au:=[47]
def F3:au:=[37]
structure aA where
 l:List M
 f:ad
 e:List aI
def dh(h:aj)(code:Nat):List aI:=[⟨12,h.at',ff⟩,⟨code,h.at',h.cond⟩]
def qE{α:Type}(Z:Zs)(f:ad)(z:α)(g:α->aj->α):α:=(co Z f).foldl g z
def take(Z:Zs)(f:ad)(s:au):ad×List aI:=
 qE Z f ([],[]) fun(out,e) h=>if h.text=s then (join out (h.at'+1) h.cond,e)else (out,e++dh h 10)
def bP(Z:Zs)(f:ad)(is:aj->Bool):List aj×ad:=
 qE Z f ([],[]) fun(yes,no) h=>if is h then (yes++[h],no)else (yes,join no h.at' h.cond)
def bq(s:au)(h:aj):Bool:=decide (h.text=s)
def fI(s:au):Bool:=[nq,ul,om,oj,eN,iV,uq,uo,um,jP,pu,qX,un].contains s
def fV(s:au):Nat:=
 if s=F6 then 0
 else if s=FV then 1
 else if [FY,F5,F2,F1,F0,FZ].contains s then 2
 else if s=F7\/s=pq then 3
 else if [F4,FW,F3].contains s then 4
 else 9
def named(Z:Zs)(f:ad)(kind slot:Nat):aA:=
 qE Z f ⟨[],[],[]⟩ fun r h=>
  if h.kind≠1\/fI h.text=true then { r with e:=r.e++dh h 10 }
  else ⟨r.l++[⟨kind,h.text,h.at',slot,[],h.cond⟩],join r.f (h.at'+1) h.cond,r.e⟩
def im(Z:Zs)(f:ad)(slot:Nat):aA:=
 qE Z f ⟨[],[],[]⟩ fun r h=>
  if h.text≠om/\h.text≠oj then { r with e:=r.e++dh h 10 }
  else ⟨r.l++[⟨5,h.text,h.at',slot,[],h.cond⟩],join r.f (h.at'+1) h.cond,r.e⟩
def give(l kids:List M):List M:=l.map fun n=>{ n with kids:=n.kids++kids }
def bY(h:aj):ad:=[(h.at'+1,h.cond)]
def bL(h:aj):ad:=[(h.at',h.cond)]
def joinH(f:ad)(h:aj):ad:=join f h.at' h.cond
def joinH1(f:ad)(h:aj):ad:=join f (h.at'+1) h.cond
inductive Call where
 |line (k o:Nat) (f:ad) (slot:Nat)
 |lineL (k o:Nat) (slot:Nat) (first:Bool) (l:List M) (g out:ad)
 |lineO (k o:Nat) (slot:Nat) (ops:List aj) (l:List M) (g:ad)
 |unary (o:Nat) (f:ad) (slot:Nat)
 |unaryH (o:Nat) (h:aj) (slot:Nat)
 |calls (o:Nat) (h:aj) (slot:Nat) (xs:List aj) (names:List M) (g:ad)
 |inside (o:Nat) (f:ad) (slot:Nat)
 |listed (par:Bool) (o:Nat) (f:ad)
 |listL (par:Bool) (o:Nat) (l:List M) (g fin:ad)
 |item (par:Bool) (o:Nat) (f:ad)
 |behind (typ:Bool) (o:Nat) (f:ad) (sign:au) (slot:Nat)
 |vrb (o:Nat) (f:ad)
 |function (o:Nat) (f:ad)
 |block (o:Nat) (f:ad) (slot:Nat)
 |seqL (top:Bool) (o:Nat) (f:ad) (l:List M) (out:ad)
 |stmt (o:Nat) (h:aj)
 |sCalls (o:Nat) (h:aj) (xs:List aj) (l:List M) (g:ad)
 |branch (o:Nat) (h:aj) (slot:Nat)
 |elses (o:Nat) (xs:List aj) (l:List M) (out:ad)
 |ifs (o:Nat) (ys:List aj) (l:List M) (out:ad)
def ar:Nat:=2^40
def kG{α β:Type}(g:α->β->Option α):α->List β->Option α
 |a,[]=>some a
 |a,x::l=>match g a x with
  |some b=>kG g b l
  |none=>none
def ck(l:List M):Option Unit:=if l.length<=ar then some ()else none
def ix(l kids:List M):Option (List M):=if l.all fun n=>decide (n.kids.length+kids.length<=ar)then some (give l kids)else none
def fO(l:List M)(d:T):List M:=l.filterMap fun n=>if n.cond.and d=ff then none else some { n with cond:=n.cond.and d,slot:=0 }
def fP(l:List M)(d:T):List M:=l.filterMap fun n=>if n.cond.and d.not=ff then none else some { n with cond:=n.cond.and d.not }
def gz(l:List M)(d:T):List M:=match l with
 | []=>[]
 |n::l=>{ n with cond:=n.cond.and d.not }::l
abbrev fL:=Call->Option aA
def gC(kind:Nat)(h:aj)(slot:Nat):M:=⟨kind,[],h.at',slot,[],h.cond⟩
section
variable (Z:Zs) (rec:fL)
def iP(f:ad)(g:aj->Option aA):Option aA:=
 kG (fun r h=>match g h with
  |some x=>if (r.l++x.l).length<=ar then some ⟨r.l++x.l,joinAll r.f x.f,r.e++x.e⟩else none
  |none=>none) ⟨[],[],[]⟩ (co Z f)
def line(k o:Nat)(f:ad)(slot:Nat):Option aA:=
 if k=5 then rec (.unary o f slot)
 else do
  let a <-rec (.line (k+1) o f slot)
  let b <-rec (.lineL k o slot true a.l a.f [])
  some ⟨b.l,b.f,a.e++b.e⟩
def gV(k:Nat)(h:aj):Bool:=decide (h.kind=3) && decide (fV h.text=k)
def lineL(k o slot:Nat)(first:Bool)(l:List M)(g out:ad):Option aA:=
 if g=[]then some ⟨l,out,[]⟩
 else if k=2/\first=false then some ⟨l,joinAll out g,[]⟩
 else do
  let (ops,rest):=bP Z g (gV k)
  let a <-rec (.lineO k o slot ops l [])
  let b <-rec (.lineL k o slot false a.l a.f (joinAll out rest))
  some ⟨b.l,b.f,a.e++b.e⟩
def lineO(k o slot:Nat)(ops:List aj)(l:List M)(g:ad):Option aA:=
 match ops with
 | []=>some ⟨l,g,[]⟩
 |h::ops=>do
  let a <-rec (.line (k+1) o (bY h) 1)
  ck (fO l h.cond++a.l)
  ck (fP l h.cond++[⟨13,h.text,h.at',slot,fO l h.cond++a.l,h.cond⟩])
  let b <-rec (.lineO k o slot ops (fP l h.cond++[⟨13,h.text,h.at',slot,fO l h.cond++a.l,h.cond⟩]) (joinAll g a.f))
  some ⟨b.l,b.f,a.e++b.e⟩
def unaryH(o:Nat)(h:aj)(slot:Nat):Option aA:=
 if h.text=sR\/h.text=pq then
  if o=64 then some ⟨[],[],dh h 11⟩
  else do
   let a <-rec (.unary (o+1) (bY h) 0)
   some ⟨[⟨14,h.text,h.at',slot,a.l,h.cond⟩],a.f,a.e⟩
 else if h.text=cq then rec (.inside o (bL h) slot)
 else if h.kind=2 then some ⟨[⟨15,h.text,h.at',slot,[],h.cond⟩],bY h,[]⟩
 else if h.text=pu\/h.text=qX then some ⟨[⟨16,h.text,h.at',slot,[],h.cond⟩],bY h,[]⟩
 else if h.text=un then some ⟨[⟨17,[],h.at',slot,[],h.cond⟩],bY h,[]⟩
 else do
  let a:=named Z (bL h) 18 slot
  let (xs,g):=bP Z a.f (bq cq)
  let b <-rec (.calls o h slot xs a.l g)
  some ⟨b.l,b.f,a.e++b.e⟩
def calls(o:Nat)(h:aj)(slot:Nat)(xs:List aj)(names:List M)(g:ad):Option aA:=
 match xs with
 | []=>some ⟨names,g,[]⟩
 |x::xs=>do
  let a <-rec (.listed false o (bL x))
  ck (gz names x.cond++[⟨19,h.text,h.at',slot,a.l,x.cond⟩])
  let b <-rec (.calls o h slot xs (gz names x.cond++[⟨19,h.text,h.at',slot,a.l,x.cond⟩]) (joinAll g a.f))
  some ⟨b.l,b.f,a.e++b.e⟩
def sr(o:Nat)(slot:Nat)(h:aj):Option aA:=
 if h.text≠cq then some ⟨[],[],dh h 10⟩
 else if o=64 then some ⟨[],[],dh h 11⟩
 else do
  let a <-rec (.line 0 (o+1) (bY h) slot)
  let (g,e):=take Z a.f dt
  some ⟨a.l,g,a.e++e⟩
def sx(par:Bool)(o:Nat)(h:aj):Option aA:=
 if h.text≠cq then some ⟨[],[],dh h 10⟩
 else if o=64 then some ⟨[],[],dh h 11⟩
 else do
  let (yes,g):=bP Z (bY h) (bq dt)
  let a <-rec (.listL par (o+1) [] g (yes.foldl joinH []))
  let (f,e):=take Z a.f dt
  some ⟨a.l,f,a.e++e⟩
def listL(par:Bool)(o:Nat)(l:List M)(g fin:ad):Option aA:=
 match g with
 | []=>some ⟨l,fin,[]⟩
 |s::g=>do
  let a <-rec (.item par o [s])
  ck (l++a.l)
  let (more,done):=bP Z a.f (bq eV)
  let b <-rec (.listL par o (l++a.l) (more.foldl joinH1 g) (joinAll fin done))
  some ⟨b.l,b.f,a.e++b.e⟩
def item(par:Bool)(o:Nat)(f:ad):Option aA:=
 if par then do
  let a:=named Z f 4 0
  let (g,e):=take Z a.f dA
  let b:=im Z g 0
  let l <-ix a.l b.l
  some ⟨l,b.f,a.e++e++b.e⟩
 else rec (.line 0 o f 0)
def zZ(typ:Bool)(o:Nat)(f:ad)(slot:Nat):Option aA:=if typ then some (im Z f slot)else rec (.line 0 o f slot)
def behind(typ:Bool)(o:Nat)(f:ad)(sign:au)(slot:Nat):Option aA:=do
 let (yes,out):=bP Z f (bq sign)
 let a <-zZ Z rec typ o (yes.foldl joinH1 []) slot
 some ⟨a.l,joinAll out a.f,a.e⟩
def uu(o:Nat)(f:ad):Option aA:=do
 let a:=named Z f 2 0
 let (g1,e1):=take Z a.f dA
 let b:=im Z g1 0
 let c <-rec (.behind false o b.f iC 1)
 let g <-ix a.l b.l
 let d <-ix g c.l
 let (g2,e2):=take Z c.f bT
 some ⟨d,g2,a.e++e1++b.e++c.e++e2⟩
def function(o:Nat)(f:ad):Option aA:=do
 let a:=named Z f 3 0
 let b <-rec (.listed true o a.f)
 let c <-rec (.behind true o b.f dA 1)
 let d <-rec (.block o c.f 2)
 let i <-ix a.l b.l
 let h <-ix i c.l
 let g <-ix h d.l
 some ⟨g,d.f,a.e++b.e++c.e++d.e⟩
def rW(o:Nat)(slot:Nat)(h:aj):Option aA:=
 if h.text≠qY then some ⟨[],[],dh h 10⟩
 else if o=64 then some ⟨[],[],dh h 11⟩
 else do
  let a <-rec (.seqL false (o+1) (bY h) [] [])
  let (f,e):=take Z a.f iW
  some ⟨[⟨6,[],h.at',slot,a.l,h.cond⟩],f,a.e++e⟩
def n8(top:Bool)(h:aj):Bool:=if top then decide (h.at'=Z.length)else decide (h.text=iW)
def wy(o:Nat)(h:aj):Option aA:=
 if h.text=nq then rec (.vrb o (bY h))
 else if h.text=ul then rec (.function o (bY h))
 else some ⟨[],[],dh h 10⟩
def wi(top:Bool)(o:Nat)(h:aj):Option aA:=if top then wy rec o h else rec (.stmt o h)
def seqL(top:Bool)(o:Nat)(f:ad)(l:List M)(out:ad):Option aA:=
 match co Z f with
 | []=>some ⟨l,out,[]⟩
 |h::hs=>
  if n8 Z top h then rec (.seqL top o (hs.foldl joinH []) l (joinH out h))
  else do
   let a <-wi rec top o h
   ck (l++a.l)
   let b <-rec (.seqL top o (hs.foldl joinH (joinAll [] a.f)) (l++a.l) out)
   some ⟨b.l,b.f,a.e++b.e⟩
def stmt(o:Nat)(h:aj):Option aA:=
 if h.text=nq then rec (.vrb o (bY h))
 else if h.text=eN then rec (.branch o h 0)
 else if h.text=uq then do
  let a <-rec (.inside o (bY h) 0)
  let b <-rec (.block o a.f 1)
  let d <-ix [gC 9 h 0] a.l
  let i <-ix d b.l
  some ⟨i,b.f,a.e++b.e⟩
 else if h.text=qY then rec (.block o (bL h) 0)
 else if h.text=uo then do
  let (fin,g):=bP Z (bY h) (bq bT)
  let a <-rec (.line 0 o g 0)
  let d <-ix [gC 10 h 0] a.l
  let (f,e):=take Z (fin.foldl joinH a.f) bT
  some ⟨d,f,a.e++e⟩
 else if h.text=um\/h.text=jP then do
  let a <-rec (.line 0 o (bY h) 0)
  let d <-ix [gC (if h.text=jP then 12 else 11) h 0] a.l
  let (f,e):=take Z a.f bT
  some ⟨d,f,a.e++e⟩
 else
  let a:=named Z (bL h) 7 0
  if a.l=[]then some ⟨[],[],a.e⟩
  else do
   let (xs,g):=bP Z a.f (bq cq)
   let (g1,e1):=take Z g iC
   let b <-rec (.line 0 o g1 0)
   let d <-ix a.l b.l
   let c <-rec (.sCalls o h xs d b.f)
   let (f,e2):=take Z c.f bT
   some ⟨c.l,f,a.e++e1++b.e++c.e++e2⟩
def sCalls(o:Nat)(h:aj)(xs:List aj)(l:List M)(g:ad):Option aA:=
 match xs with
 | []=>some ⟨l,g,[]⟩
 |x::xs=>do
  let a <-rec (.listed false o (bL x))
  ck (l++[⟨19,h.text,h.at',0,a.l,x.cond⟩])
  let b <-rec (.sCalls o h xs (gz (l++[⟨19,h.text,h.at',0,a.l,x.cond⟩]) x.cond) (joinAll g a.f))
  some ⟨b.l,b.f,a.e++b.e⟩
def branch(o:Nat)(h:aj)(slot:Nat):Option aA:=do
 let a <-rec (.inside o (bY h) 0)
 let b <-rec (.block o a.f 1)
 let g <-ix [gC 8 h slot] a.l
 let d <-ix g b.l
 let (xs,out):=bP Z b.f (bq iV)
 let c <-rec (.elses o xs d out)
 some ⟨c.l,c.f,a.e++b.e++c.e⟩
def elses(o:Nat)(xs:List aj)(l:List M)(out:ad):Option aA:=
 match xs with
 | []=>some ⟨l,out,[]⟩
 |x::xs=>do
  let (ys,rest):=bP Z (bY x) (bq eN)
  let a <-rec (.block o rest 2)
  let d <-ix l a.l
  let b <-rec (.ifs o ys d (joinAll out a.f))
  let c <-rec (.elses o xs b.l b.f)
  some ⟨c.l,c.f,a.e++b.e++c.e⟩
def ifs(o:Nat)(ys:List aj)(l:List M)(out:ad):Option aA:=
 match ys with
 | []=>some ⟨l,out,[]⟩
 |y::ys=>
  if o=64 then do
   let b <-rec (.ifs o ys l out)
   some ⟨b.l,b.f,dh y 11++b.e⟩
  else do
   let a <-rec (.branch (o+1) y 2)
   let c <-ix l a.l
   let b <-rec (.ifs o ys c (joinAll out a.f))
   some ⟨b.l,b.f,a.e++b.e⟩
def step:Call->Option aA
 | .line k o f slot=>line rec k o f slot
 | .lineL k o slot first l g out=>lineL Z rec k o slot first l g out
 | .lineO k o slot ops l g=>lineO rec k o slot ops l g
 | .unary o f slot=>iP Z f fun h=>rec (.unaryH o h slot)
 | .unaryH o h slot=>unaryH Z rec o h slot
 | .calls o h slot xs names g=>calls rec o h slot xs names g
 | .inside o f slot=>iP Z f (sr Z rec o slot)
 | .listed par o f=>iP Z f (sx Z rec par o)
 | .listL par o l g fin=>listL Z rec par o l g fin
 | .item par o f=>item Z rec par o f
 | .behind typ o f sign slot=>behind Z rec typ o f sign slot
 | .vrb o f=>uu Z rec o f
 | .function o f=>function Z rec o f
 | .block o f slot=>iP Z f (rW Z rec o slot)
 | .seqL top o f l out=>seqL Z rec top o f l out
 | .stmt o h=>stmt Z rec o h
 | .sCalls o h xs l g=>sCalls rec o h xs l g
 | .branch o h slot=>branch Z rec o h slot
 | .elses o xs l out=>elses Z rec o xs l out
 | .ifs o ys l out=>ifs rec o ys l out
end
def run(Z:Zs):Nat->fL
 |0=>fun _=>none
 |n+1=>step Z (run Z n)
open Dg
theorem C3(c:aF):(ff:T).at' c=false:=rfl
def aC(f:ad):Prop:=(∀s∈f,s.2.ok 0/\s.2≠ff)/\f.Pairwise (fun s t=>s.1<t.1)
def bB(Z:Zs):Prop:=∀t∈Z,t.cond.ok 0
variable{d:T}{a:Nat}
def Jp{f:ad}:∀{s},s∈gy f a d->s.1=a\/∃t∈f,t.1=s.1:=by
 induction f with
 |nil=>intro s h;simp[gy]at h;exact .inl (by rw[h])
 |cons x f c=>
  obtain⟨b,e⟩:=x;intro s h;simp only[gy]at h;split at h
  .rcases List.mem_cons.1 h with rfl|h
   .exact .inr ⟨_,.head _,rfl⟩
   .rcases c h with h|⟨t,ht,e⟩
    .exact .inl h
    .exact .inr ⟨t,.tail _ ht,e⟩
  .split at h
   .rcases List.mem_cons.1 h with rfl|h
    .exact .inr ⟨_,.head _,rfl⟩
    .exact .inr ⟨s,.tail _ h,rfl⟩
   .rcases List.mem_cons.1 h with rfl|h
    .exact .inl rfl
    .exact .inr ⟨s,h,rfl⟩
def Vx{a b:T}(ha:a.ok 0)(hb:b.ok 0)(h:b≠ff):a.or b≠ff:=by obtain⟨c,d⟩:=T.some_of_ne hb h;intro e;have:=T.or_at ha hb c;rw[e,d]at this;simp[T.at']at this
def SI{f:ad}(h:aC f)(hd:d.ok 0)(c:d≠ff):aC (gy f a d):=by
 induction f with
 |nil=>exact⟨fun s hs=>by simp[gy]at hs;subst hs;exact⟨hd,c⟩,by simp[gy]⟩
 |cons x f i=>
  obtain⟨b,e⟩:=x;obtain⟨h1,h2⟩:=h;rw[mz]at h2;have g:=h1 _ (.head _);have hf:aC f:=⟨fun s hs=>h1 s (.tail _ hs),h2.2⟩;simp only[gy];split
  .rename_i j;have:=i hf;refine⟨fun s hs=>?_,List.pairwise_cons.2 ⟨fun s hs=>?_,this.2⟩⟩
   .rcases List.mem_cons.1 hs with rfl|hs
    .exact g
    .exact this.1 s hs
   .rcases Jp hs with k|⟨t,ht,k⟩
    .show b<s.1;omega
    .have:=h2.1 t ht;show b<s.1;simp only at this;omega
  .split
   .refine⟨fun s hs=>?_,List.pairwise_cons.2 ⟨fun s hs=>h2.1 s hs,h2.2⟩⟩;rcases List.mem_cons.1 hs with rfl|hs
    .exact⟨T.or_ok g.1 hd,Vx g.1 hd c⟩
    .exact h1 s (.tail _ hs)
   .refine⟨fun s hs=>?_,List.pairwise_cons.2 ⟨fun s hs=>?_,List.pairwise_cons.2 h2⟩⟩
    .rcases List.mem_cons.1 hs with rfl|hs
     .exact⟨hd,c⟩
     .exact h1 s hs
    .rcases List.mem_cons.1 hs with rfl|hs
     .show a<b;omega
     .have:=h2.1 s hs;show a<s.1;simp only at this;omega
def iy{f:ad}(h:aC f)(hd:d.ok 0):aC (join f a d):=by
 unfold join;split
 .exact h
 .exact SI h hd (by assumption)
def TJ{f:ad}{s}(h:s∈join f a d):s.1=a\/∃t∈f,t.1=s.1:=by
 unfold join at h;split at h
 .exact .inr ⟨s,h,rfl⟩
 .exact Jp h
def aC.nil:aC []:=⟨fun s h=>(dJ h).elim,List.Pairwise.nil⟩
def l4{g:ad}(a:∀s∈g,s.2.ok 0):∀{f:ad},aC f->aC (joinAll f g):=by
 induction g with
 |nil=>intro f h;exact h
 |cons s g b=>intro f h;exact b (fun t ht=>a t (.tail _ ht)) (iy h (a s (.head _)))
def dp(c:aF)(f:ad):Zp:=(f.filter fun s=>s.2.at' c).map (·.1)
def At(c:aF)(f:ad)(p:Option Nat):Prop:=dp c f=p.toList
theorem At.nil(c:aF):At c [] none:=rfl
theorem At.one(c:aF)(a:Nat)(d:T):At c [(a,d)] (if d.at' c then some a else none):=by unfold At dp;cases h:d.at' c<;>simp[h]
def jd(l:Zp)(a:Nat):Zp:=match l with
 | []=>[a]
 |b::l=>if b<a then b::jd l a else if b=a then b::l else a::b::l
def mh(c:aF)(s:Nat×T)(f:ad):dp c (s::f)=if s.2.at' c then s.1::dp c f else dp c f:=by unfold dp;cases h:s.2.at' c<;>simp[h]
def V1{c:aF}{f:ad}{b:Nat}(h:∀s∈f,b<s.1):∀p∈dp c f,b<p:=by intro p hp;unfold dp at hp;simp only[my,kw]at hp;obtain⟨s,⟨hs,_⟩,rfl⟩:=hp;exact h s hs
def GY{l:Zp}(h:∀p∈l,a<p):jd l a=a::l:=by
 cases l with
 |nil=>rfl
 |cons b l=>have:=h b (.head _);simp only[jd];rw[ab O,ab O]
def V3(c:aF){f:ad}(h:aC f)(hd:d.ok 0):dp c (gy f a d)=if d.at' c then jd (dp c f) a else dp c f:=by
 induction f with
 |nil=>simp only[gy];rw[mh];rfl
 |cons x f m=>
  obtain⟨b,e⟩:=x;obtain⟨h1,h2⟩:=h;rw[mz]at h2;have n:=h1 _ (.head _);have hf:aC f:=⟨fun s hs=>h1 s (.tail _ hs),h2.2⟩;have g:∀p∈dp c f,b<p:=V1 h2.1;simp only[gy];split
  .rename_i i;rw[mh,mh,m hf];simp only;cases k:e.at' c<;>cases l:d.at' c<;>simp[jd,i]
  .split
   .rename_i _ j;subst j;rw[mh,mh];simp only[T.or_at n.1 hd];cases k:e.at' c<;>cases l:d.at' c<;>simp[jd,GY g]
   .rename_i h3 h4;rw[mh,mh];simp only;have:∀p∈dp c f,a<p:=fun p hp=>by have:=g p hp;omega
    cases k:e.at' c<;>cases l:d.at' c<;>simp[jd,GY this,h3,h4]
def ni(c:aF){f:ad}(h:aC f)(hd:d.ok 0):dp c (join f a d)=if d.at' c then jd (dp c f) a else dp c f:=by
 unfold join;split
 .rename_i e;subst e;simp[T.at']
 .exact V3 c h hd
def V4(c:aF){g:ad}(a:∀s∈g,s.2.ok 0):∀{f:ad},aC f->dp c (joinAll f g)=(dp c g).foldl jd (dp c f):=by
 induction g with
 |nil=>intro f h;rfl
 |cons s g b=>intro f h;show dp c (joinAll (join f s.1 s.2) g)=_;have hs:=a s (.head _);rw[b (fun t ht=>a t (.tail _ ht)) (iy h hs),ni c h hs,mh];cases d:s.2.at' c<;>simp
theorem At.joinAll{c:aF}{f g:ad}{p q:Option Nat}(hf:aC f)(a:aC g)(h1:At c f p)(h2:At c g q)(h:p=none\/q=none):At c (joinAll f g) (p.or q):=by
 unfold At at *;rw[V4 c (fun s hs=>(a.1 s hs).1) hf,h1,h2];rcases h with rfl|rfl
 .cases q<;>rfl
 .cases p<;>rfl
theorem At.join{c:aF}{f:ad}{p:Option Nat}(hf:aC f)(h1:At c f p)(hd:d.ok 0)(h:d.at' c=true->p=none):At c (join f a d) (if d.at' c then some a else p):=by
 unfold At at *;rw[ni c hf hd,h1];cases b:d.at' c
 .rfl
 .rw[h b];rfl
def gk(c:aF):Zs->Nat->Nat
 | [],i=>i
 |t::l,i=>if t.cond.at' c then i else gk c l (i+1)
def nx(c:aF)(Z:Zs)(p:Nat):Nat:=gk c (Z.drop p) p
def LU{l:Zs}:∀{a:ad} {i:Nat} {d:T},bB l->aC a->d.ok 0->aC (gK a l i d):=by
 induction l with
 |nil=>intro a i d _ ha hd;exact iy ha hd
 |cons t l c=>
  intro a i d b ha hd;simp only[gK];split
  .exact ha
  .have ht:=b t (.head _);exact c (fun x e=>b x (.tail _ e)) (iy ha (T.and_ok hd ht)) (T.and_ok hd (T.not_ok ht))
def Xp(c:aF){l:Zs}:∀{a:ad} {i:Nat} {d:T},bB l->aC a->d.ok 0->dp c (gK a l i d)=if d.at' c then jd (dp c a) (gk c l i)else dp c a:=by
 induction l with
 |nil=>intro a i d _ ha hd;exact ni c ha hd
 |cons t l f=>
  intro a i d b ha hd;simp only[gK];split
  .rename_i e;subst e;simp[T.at']
  .have ht:=b t (.head _);rw[f (fun x g=>b x (.tail _ g)) (iy ha (T.and_ok hd ht)) (T.and_ok hd (T.not_ok ht)),ni c ha (T.and_ok hd ht),T.and_at hd ht,T.and_at hd (T.not_ok ht),T.not_at];simp only[gk];cases d.at' c<;>cases t.cond.at' c<;>simp
def bB.drop{Z:Zs}(h:bB Z)(n:Nat):bB (Z.drop n):=fun t ht=>h t (List.mem_of_mem_drop ht)
def FK(c:aF){Z:Zs}(h:bB Z):∀{f:ad} {a:ad},(∀s∈f,s.2.ok 0)->aC a->aC (f.foldl (fun at' s=>gK at' (Z.drop s.1) s.1 s.2) a)/\
  dp c (f.foldl (fun at' s=>gK at' (Z.drop s.1) s.1 s.2) a)=((dp c f).map (nx c Z)).foldl jd (dp c a):=by
 intro f
 induction f with
 |nil=>intro a _ ha;exact⟨ha,rfl⟩
 |cons s f b=>intro a hf ha;have hs:=hf s (.head _);obtain⟨h1,h2⟩:=b (fun t ht=>hf t (.tail _ ht)) (LU (i:=s.1) (h.drop s.1) ha hs);refine⟨h1,?_⟩;show dp c (f.foldl _ (gK a (Z.drop s.1) s.1 s.2))=_;rw[h2,Xp c (h.drop s.1) ha hs,mh];cases s.2.at' c<;>rfl
def LQ{Z:Zs}(h:bB Z){f:ad}(hf:aC f):aC (lF Z f):=(FK (fun _=>false) h (fun s hs=>(hf.1 s hs).1) aC.nil).1
def Xo{c:aF}{Z:Zs}(h:bB Z){f:ad}(hf:aC f){p:Option Nat}(hp:At c f p):At c (lF Z f) (p.map (nx c Z)):=by have:=(FK c h (fun s hs=>(hf.1 s hs).1) aC.nil).2;unfold At at *;show dp c (f.foldl _ [])=_;rw[this,hp];cases p<;>rfl
def tN{Z:Zs}(h:bB Z){f:ad}(hf:aC f):co Z f=(lF Z f).map (fu Z):=by unfold co;rw[List.filter_eq_self.2];intro s hs;simpa using ((LQ h hf).1 s hs).2
def tM(Z:Zs)(s:Nat×T):(fu Z s).at'=s.1:=by
 unfold fu;split
 .split<;>rfl
 .rfl
def vv(Z:Zs)(s:Nat×T):(fu Z s).cond=s.2:=by
 unfold fu;split
 .split<;>rfl
 .rfl
def ye(c:aF):∀(l:Zs) (i:Nat),i<=gk c l i/\gk c (l.drop (gk c l i-i)) (gk c l i)=gk c l i
 | [],i=>by simp[gk]
 |t::l,i=>by
  cases h:t.cond.at' c with
  |true=>
   have e:gk c (t::l) i=i:=by simp[gk,h]
   rw[e];refine⟨aR _,?_⟩;rw[Nat.sub_self,io,e]
  |false=>
   have e:gk c (t::l) i=gk c l (i+1):=by simp[gk,h]
   obtain⟨a,b⟩:=ye c l (i+1);rw[e];refine⟨O,?_⟩;have:gk c l (i+1)-i=(gk c l (i+1)-(i+1))+1:=O;rw[this,mq];exact b
def qB(c:aF)(Z:Zs)(p:Nat):p<=nx c Z p:=(ye c _ p).1
def oW(c:aF)(Z:Zs)(p:Nat):nx c Z (nx c Z p)=nx c Z p:=by have:=(ye c (Z.drop p) p).2;unfold nx;rw[lI]at this;have h:=qB c Z p;unfold nx at h;rw[show p+(gk c (Z.drop p) p-p)=gk c (Z.drop p) p by omega]at this;exact this
section
variable (Z:Zs)
def K(i:Nat):Nat:=(fu Z (i,tt)).kind
def X(i:Nat):au:=(fu Z (i,tt)).text
def Jj(i:Nat)(d:T):fu Z (i,d)=⟨i,d,K Z i,X Z i⟩:=by
 unfold K X fu;cases Z[i]? with
 |none=>rfl
 |some t=>simp only;split<;>rfl
end
def UY{l:Zp}{a p:Nat}(h:p∈jd l a):p=a\/p∈l:=by
 induction l with
 |nil=>simp[jd]at h;exact .inl h
 |cons b l c=>
  simp only[jd]at h;split at h
  .rcases List.mem_cons.1 h with rfl|h
   .exact .inr (.head _)
   .rcases c h with h|h
    .exact .inl h
    .exact .inr (.tail _ h)
  .split at h
   .exact .inr h
   .rcases List.mem_cons.1 h with rfl|h
    .exact .inl rfl
    .exact .inr h
def UX{l:Zp}:∀{a:Zp} {p:Nat},p∈l.foldl jd a->p∈l\/p∈a:=by
 induction l with
 |nil=>intro a p h;exact .inr h
 |cons x l b=>
  intro a p h;rcases b h with h|h
  .exact .inl (.tail _ h)
  .rcases UY h with rfl|h
   .exact .inl (.head _)
   .exact .inr h
def Hd(Z:Zs)(h:aj):Prop:=h.cond.ok 0/\h=⟨h.at',h.cond,K Z h.at',X Z h.at'⟩/\∀c,h.cond.at' c=true->nx c Z h.at'=h.at'
def go(Z:Zs)(hs:List aj):Prop:=(∀h∈hs,Hd Z h/\h.cond≠ff)/\hs.Pairwise (fun s t=>s.at'<t.at')
def vz{Z:Zs}(h:bB Z){f:ad}(hf:aC f):go Z (co Z f):=by
 rw[tN h hf];have hs:=LQ h hf;refine⟨fun x g=>?_,?_⟩
 .obtain⟨s,h1,rfl⟩:=List.mem_map.1 g;rw[Hd,vv,tM];refine⟨⟨(hs.1 s h1).1,Jj Z s.1 s.2,fun c i=>?_⟩,(hs.1 s h1).2⟩;have hm:s.1∈dp c (lF Z f):=List.mem_map.2 ⟨s,List.mem_filter.2 ⟨h1,i⟩,rfl⟩;have:=(FK c h (fun s hs=>(hf.1 s hs).1) aC.nil).2;unfold lF at hm;rw[this]at hm;rcases UX hm with hm|hm
  .obtain⟨p,_,e⟩:=List.mem_map.1 hm;rw[<-e,oW]
  .cases hm
 .rw[List.pairwise_map];exact hs.2.imp fun{a b} d=>by rw[tM,tM];exact d
def kQ(c:aF)(hs:List aj):Zp:=(hs.filter fun h=>h.cond.at' c).map (·.at')
def dQ(c:aF)(hs:List aj)(p:Option Nat):Prop:=kQ c hs=p.toList
def V0(c:aF)(Z:Zs)(f:ad):kQ c (f.map (fu Z))=dp c f:=by
 induction f with
 |nil=>rfl
 |cons s f a=>
  unfold kQ dp at *;simp only[iq,ip,vv];cases s.2.at' c
  .simpa using a
  .simp only[cu,iq,tM];rw[a]
def Sg{c:aF}{Z:Zs}(h:bB Z){f:ad}(hf:aC f){p:Option Nat}(hp:At c f p):dQ c (co Z f) (p.map (nx c Z)):=by unfold dQ;rw[tN h hf,V0];exact Xo h hf hp
end Syn
namespace Go.Proofs.YtfaclfkpnmcmlaaGreatDoor
open Go Go.Sx Dg Syn
def LR{α:Type}(R:Zo->α->Prop):Zo->List α->Prop
 |xs,[]=>xs=[]
 |xs,a::l=>∃c ys,xs=c++ys/\R c a/\LR R ys l
section
variable {α:Type} {R:Zo->α->Prop} {n:Nat}
def LR.len(b:∀c a,R c a->c.length=n):∀{l:List α} {xs:Zo},LR R xs l->xs.length=l.length*n
 | [],xs,h=>by rw[show xs=[] from h];simp
 |a::l,xs,⟨c,ys,e,h1,h2⟩=>by rw[e,aH,b c a h1,LR.len b h2,bl,ir];omega
def LR.mono{R':Zo->α->Prop}(h:∀c a,R c a->R' c a):∀{l:List α} {xs:Zo},LR R xs l->LR R' xs l
 | [],xs,k=>k
 |a::l,xs,⟨c,ys,e,h1,h2⟩=>⟨c,ys,e,h c a h1,LR.mono h h2⟩
def LR.app:∀{l m:List α} {xs ys:Zo},LR R xs l->LR R ys m->LR R (xs++ys) (l++m)
 | [],m,xs,ys,h,k=>by rw[show xs=[] from h];exact k
 |a::l,m,xs,ys,⟨c,zs,e,h1,h2⟩,k=>⟨c,zs++ys,by rw[e,cD],h1,LR.app h2 k⟩
theorem LR.one{c:Zo}{a:α}(h:R c a):LR R c [a]:=⟨c,[],by simp,h,rfl⟩
def LR.get(d:∀c a,R c a->c.length=n):∀{l:List α} {xs:Zo} {i:Nat} {a:α},LR R xs l->l[i]?=some a->R ((xs.drop (i*n)).take n) a
 | [],xs,i,a,h,k=>by simp at k
 |b::l,xs,0,a,⟨c,ys,e,h1,h2⟩,k=>by simp only[zt,bf]at k;subst k;rw[e,Nat.zero_mul,io,List.take_left' (d c b h1)];exact h1
 |b::l,xs,i+1,a,⟨c,ys,e,h1,h2⟩,k=>by simp only[wM]at k;rw[e,ir,rf,Nat.add_comm,<-lI,List.drop_left' (d c b h1)];exact LR.get d h2 k
def LR.split(f:∀c a,R c a->c.length=n):∀{l:List α} {xs:Zo} (i:Nat),LR R xs l->LR R (xs.take (i*n)) (l.take i)/\LR R (xs.drop (i*n)) (l.drop i)
 |l,xs,0,h=>by simp only[Nat.zero_mul,mC,io];exact⟨rfl,h⟩
 | [],xs,i+1,h=>by rw[show xs=[] from h];simp only[List.take_nil,List.drop_nil];exact⟨rfl,rfl⟩
 |b::l,xs,i+1,⟨c,ys,e,h1,h2⟩=>by
  obtain⟨j,g⟩:=LR.split f i h2;have d:=f c b h1;rw[e,ir,rf,Nat.add_comm (i*n)];constructor
  .have:(c++ys).take (n+i*n)=c++ys.take (i*n):=by rw[<-d];exact List.take_length_add_append _
   rw[this,mB];exact⟨c,_,rfl,h1,j⟩
  .rw[<-lI,List.drop_left' d,mq];exact g
def LR.set(b:∀c a,R c a->c.length=n){l:List α}{xs:Zo}{i:Nat}{a:α}{c:Zo}(h:LR R xs l)(hi:i<l.length)(d:R c a):LR R (xs.take (i*n)++c++xs.drop ((i+1)*n)) (l.set i a):=by
 obtain⟨h1,h2⟩:=LR.split b i h;obtain⟨_,h4⟩:=LR.split b (i+1) h;have e:l.set i a=l.take i++[a]++l.drop (i+1):=by rw[List.set_eq_take_append_cons_drop,ah hi];simp
 rw[e];exact(h1.app (.one d)).app h4
end
def Sl{α:Type}(R:PH->Zo->α->Prop)(I:PH)(v:Value)(l:List α):Prop:=∃a c,v=.slice a l.length c/\(l=[]\/∃b off xs,a=some ⟨b,off,none⟩/\a8 I b off xs/\LR (R I) xs l)
variable{v:Value}{I:PH}
def Sl.le{α:Type}{R:PH->Zo->α->Prop}(f:∀{I J c a},R I c a->I.le J->R J c a){J:PH}{l:List α}(h:Sl R I v l)(d:I.le J):Sl R J v l:=by obtain⟨a,c,e,h⟩:=h;exact⟨a,c,e,h.imp id fun⟨b,off,xs,e1,e2,g⟩=>⟨b,off,xs,e1,e2.le d,g.mono fun c a h=>f h d⟩⟩
def Ow{α:Type}(R:PH->Zo->α->Prop)(e:TypeId)(size:Nat)(I A:PH)(v:Value)(l:List α):Prop:=∃xs,dH A e size v l.length xs/\LR (R I) xs l
variable{A:PH}{size:Nat}{e:TypeId}
def Ow.le{α:Type}{R:PH->Zo->α->Prop}(d:∀{I J c a},R I c a->I.le J->R J c a){J:PH}{l:List α}(h:Ow R e size I A v l)(b:I.le J):Ow R e size J A v l:=by obtain⟨xs,h1,h2⟩:=h;exact⟨xs,h1,h2.mono fun c a h=>d h b⟩
def Ow.nil{α:Type}(R:PH->Zo->α->Prop)(e:TypeId)(size:Nat)(I:PH):Ow R e size I PH.no (.slice none 0 0) ([]:List α):=⟨[],dH.nil e size,rfl⟩
def Ow.sl{α:Type}{R:PH->Zo->α->Prop}(f:∀{I J c a},R I c a->I.le J->R J c a){e:TypeId}{size:Nat}{I J A:PH}{v:Value}{l:List α}(h:Ow R e size I A v l)(h1:I.le J)(h2:A.le J):Sl R J v l:=by
 obtain⟨xs,h3,h4⟩:=h;obtain⟨a,c,e⟩:=h3.slice;rcases jA l.length with b|hp
 .subst e;exact⟨a,c,rfl,.inl (List.length_eq_zero_iff.1 b)⟩
 .obtain⟨g,cap,e2,d⟩:=h3.1.cells hp;exact⟨_,cap,e2,.inr ⟨g,0,xs,rfl,d.le h2,h4.mono fun c a h=>f h h1⟩⟩
abbrev i6:=@Ow.sl
def Ow.shape{α:Type}{R:PH->Zo->α->Prop}{l:List α}(h:Ow R e size I A v l):∃a c,v=.slice a l.length c:=by obtain⟨xs,h3,_⟩:=h;exact h3.slice
def cK(I:PH)(c:Zo)(s:Nat×T):Prop:=∃sl a,c=[E s.1,sl,a]/\bW I (.agg #[sl,a]) s.2
def cK.le{J:PH}{c:Zo}{s:Nat×T}(h:cK I c s)(a:I.le J):cK J c s:=by obtain⟨sl,b,e,h⟩:=h;exact⟨sl,b,e,bW.le h a⟩
def cK.len(c:Zo)(s:Nat×T)(h:cK I c s):c.length=3:=by obtain⟨sl,a,e,_⟩:=h;rw[e];rfl
abbrev bM(I:PH)(v:Value)(f:ad):Prop:=Sl cK I v f
abbrev cV(I A:PH)(v:Value)(f:ad):Prop:=Ow cK 169 3 I A v f
open Go Go.Sx Dg Syn
def Q1:ay prog 256:=⟨_,func256,rfl,rfl⟩
def IS:ay prog 257:=⟨_,func257,rfl,rfl⟩
variable{a:Nat}
def fF{b:Nat}(ha:a<2^62)(hb:b<2^62):IntKind.i64.wrap ((a:Int)-(b:Int))=(a:Int)-(b:Int):=by
 simp only[IntKind.wrap,show IntKind.bits .i64=64 from rfl,show IntKind.signed .i64=true from rfl];rcases aK a b with h|h
 .have h1:((a:Int)-(b:Int)) % (2^64:Int)=(a:Int)-(b:Int)+2^64:=by rw[<-Int.add_emod_right];exact uw O O
  rw[h1,ah]
  .omega
  .simp;omega
 .have h1:((a:Int)-(b:Int)) % (2^64:Int)=(a:Int)-(b:Int):=uw O O;rw[h1,ab];simp;omega
def HD{H:PH}{p rt0 sl1 sl2:Nat}{sl0:Option Addr}(hp:p<2^62)(ha:a<2^62):Zv 257 #[.agg #[E p,.slice sl0 sl1 sl2,E rt0],E a] H fun v H2=>v=.int .i64 ((p:Int)-(a:Int))/\H2=H:=by refine fj func257 rfl (by simp[ntmps257]) fun w0=>?_;simp only[ntmps257,E];apply RG;simp only[go_sem,fF hp ha];exact aX (r:=[_]) rfl ⟨rfl,rfl⟩
def wJ{n:Nat}(h:n<2^62):IntKind.u64.wrap (n:Int)=(n:Int):=by have h1:(n:Int) % (2^64:Int)=n:=uw O O;simp only[IntKind.wrap,show IntKind.bits .u64=64 from rfl,show IntKind.signed .u64=false from rfl,h1];simp
def yK{i:Nat}(hi:i<=64):mn .u64 (a:Int) (i:Int)=((a >>> i:Nat):Int):=by have:mn .u64 (a:Int) (i:Int)=Int.fdiv (a:Int) (2^(min i 64)):=rfl;have e:min i 64=i:=O;rw[this,e,rg];have:(2^i:Int)=((2^i:Nat):Int):=ao;rw[this,Int.fdiv_eq_ediv_of_nonneg _ (gL _)];rfl
def In{α:Type}(R:PH->Zo->α->Prop)(I H:PH)(v:Value)(l:List α):Prop:=∃a c,v=.slice a l.length c/\(l=[]\/∃b off xs,a=some ⟨b,off,none⟩/\a8 H b off xs/\LR (R I) xs l)
def ss(f:ad)(i a:Nat):Bool:=match f[i]? with
 |some s=>decide (s.1=a)
 |none=>false
def rY(vf:Value)(n a:Nat)(x:Nat×Nat):St:=⟨sp 0 49 [(0,.v vf),(1,.v (E a)),(2,.v (.func (.func 257) #[] #[])),(8,.v (E n)),(9,.v (E x.1)),(10,.v (E x.2))],[]⟩
def OE(f:ad)(a:Nat)(H0:PH)(x:Nat×Nat)(H:PH):Prop:=H=H0/\x.1<=x.2/\x.2<=f.length/\(∀k s,k<x.1->f[k]?=some s->s.1<a)/\(∀k s,x.2<=k->f[k]?=some s->a<=s.1)
variable{vf:Value}
def OF{H:PH}{f:ad}(hf:In cK I H vf f)(hs:f.Pairwise (fun s t=>s.1<t.1))(hp:∀s∈f,s.1<2^61)(ha:a<2^61)(hl:f.length<2^60):
  Zv 256 #[vf,E a,.func (.func 257) #[] #[]] H fun v H2=>H2=H/\∃i,i<=f.length/\(∀k s,k<i->f[k]?=some s->s.1<a)/\(∀k s,i<=k->f[k]?=some s->a<=s.1)/\v=.tuple #[E i,.bool (ss f i a)]:=by
 obtain⟨S,W,rfl,X⟩:=hf;have load:∀i s,f[i]?=some s->∃b off c p o g A,S=some ⟨b,off,none⟩/\a8 H b (off+i*3) c/\c=[E s.1,.slice p o g,E A]:=by
  intro i s hi;rcases X with h0|⟨b,off,xs,rfl,F,hr⟩
  .rw[h0]at hi;simp at hi
  .have P:i<f.length:=by
    rcases aK i f.length with h|h
    .exact h
    .rw[fp h]at hi;cases hi
   have h1:=hr.get cK.len hi;have U:=hr.len cK.len;have h2:=F.sub (i*3) 3 O;obtain⟨sl,A,e,C⟩:=h1;obtain⟨x,y,e2⟩:=C.shape;simp only[Value.agg.injEq,Array.mk.injEq,nt,dZ]at e2;exact⟨b,off,_,x,s.2.subs.length,y,T.plc s.2.subs s.2,rfl,h2,by rw[e,e2.1,e2.2]⟩
 refine fj func256 rfl (by simp[ntmps256]) fun w0=>?_;simp only[ntmps256,E];refine ai ?_;refine bV (fun x=>x.2-x.1) (rY (.slice S f.length W) f.length a) (OE f a H) (0,f.length) (by simp only[go_sem,Y,rY,E]) (by simp only[go_sem,Y,rY]) ?_ ?_
 .exact⟨rfl,aE _,aR _,fun k s h=>by omega,fun k s h1 h2=>by rw[fp h1]at h2;cases h2⟩
 rintro⟨i,j⟩ H' ⟨rfl,h1,h2,h3,h4⟩ u;simp only at h1 h2 h3 h4;simp only[rY];rcases aK i j with P|aa
 .have z:decide ((i:Int)<(j:Int))=true:=by simp;omega
  have e1:=wrap64 (n:=i+j) O;have e2:=wJ (n:=i+j) O;have G:=yK (a:=i+j) (i:=1) O;have V:=wrap64 (n:=(i+j) / 2) O;have e5:(i+j) >>> 1=(i+j) / 2:=rg _ 1;have B:(i:Int)+(j:Int)=((i+j:Nat):Int):=O;simp only[dP]at G;rw[e5]at G;obtain⟨m,hm⟩:∃m,m=(i+j) / 2:=⟨_,rfl⟩;rw[<-hm]at G V;have N:i<=m:=O;have Z:m<j:=O;obtain⟨s,d⟩:∃s,f[m]?=some s:=⟨_,aY O⟩;have L:=hp s (db d);obtain⟨b,off,c,p,o,g,A,rfl,F,rfl⟩:=load m s d;apply RG;simp only[go_sem,z,E,B,e1,e2,G,V];refine⟨⟨O,O⟩,?_⟩;refine Zm (l:=[E s.1,.slice p o g,E A]) (v:=.agg #[E s.1,.slice p o g,E A]) rfl F (.inl ⟨rS,rfl⟩) ?_;apply RG;simp only[go_sem,E];refine Zl rfl IS (HD O O) ?_;rintro v H2⟨rfl,rfl⟩;cases q:decide ((s.1:Int)-(a:Int)<0)
  .apply RG;simp only[go_sem,E,q];refine u (i,m) _ _ bi (by simp only[go_sem,Y,rY,E]) (by simp only[go_sem,Y,rY]) ⟨rfl,N,by simp only;omega,h3,fun k t Q ht=>?_⟩;simp only[CK]at q;rcases aK m k with h|h
   .have:s.1<t.1:=by obtain⟨K,e1⟩:=List.getElem?_eq_some_iff.1 d;obtain⟨J,e2⟩:=List.getElem?_eq_some_iff.1 ht;have:=List.pairwise_iff_getElem.1 hs m k K J h;rw[e1,e2]at this;exact this
    omega
   .have:k=m:=by simp only at Q;omega
    subst this;rw[d]at ht;cases ht;omega
  .have e6:=wrap64 (n:=m+1) O;have e7:(m:Int)+1=((m+1:Nat):Int):=O;apply RG;simp only[go_sem,E,q,e7,e6];refine u (m+1,j) _ _ bi (by simp only[go_sem,Y,rY,E]) (by simp only[go_sem,Y,rY]) ⟨rfl,by simp only;omega,h2,fun k t Q ht=>?_,h4⟩;simp only[dE]at q;rcases aK k m with h|h
   .have:t.1<s.1:=by obtain⟨K,e1⟩:=List.getElem?_eq_some_iff.1 d;obtain⟨J,e2⟩:=List.getElem?_eq_some_iff.1 ht;have:=List.pairwise_iff_getElem.1 hs k m J K h;rw[e1,e2]at this;exact this
    omega
   .have:k=m:=by simp only at Q;omega
    subst this;rw[d]at ht;cases ht;omega
 .have R:i=j:=by omega
  subst R;have z:decide ((i:Int)<(i:Int))=false:=ao;cases w:decide ((i:Int)<(f.length:Int))
  .have:f[i]?=none:=fp (by simp at w;omega);apply RG;simp only[go_sem,z,E,w];refine aX (r:=[E i,.bool false]) (by simp only[results256,go_sem,E]) ⟨rfl,i,h2,h3,h4,by simp[dY,E,ss,this]⟩
  .obtain⟨s,d⟩:∃s,f[i]?=some s:=⟨_,aY (by simp at w;omega)⟩;have L:=hp s (db d);obtain⟨b,off,c,p,o,g,A,rfl,F,rfl⟩:=load i s d;apply RG;simp only[go_sem,z,E,w];refine⟨⟨O,by simp at w;omega⟩,?_⟩;refine Zm (l:=[E s.1,.slice p o g,E A]) (v:=.agg #[E s.1,.slice p o g,E A]) rfl F (.inl ⟨rS,rfl⟩) ?_;apply RG;simp only[go_sem,E];refine Zl rfl IS (HD O O) ?_;rintro v H2⟨rfl,rfl⟩;apply RG;simp only[go_sem,E];have he:((s.1:Int)-(a:Int) == 0)=decide (s.1=a):=by rw[Bool.eq_iff_iff];simp;omega
   refine aX (r:=[E i,.bool (ss f i a)]) ?_ ⟨rfl,i,h2,h3,h4,rfl⟩;simp only[ss,d,<-he];simp only[results256,go_sem,E]
def Q2:ay prog 258:=⟨_,func258,rfl,rfl⟩
def yN{g l cap:Nat}(h:l<cap):fZ (some ⟨g,0,none⟩) size l cap=some ⟨g,l*size,none⟩:=by unfold fZ;rw[ab O];simp[nE]
def FI{a:Option Addr}{cap:Nat}(h:∀x,a=some x->x.spot=none):fZ a size 0 cap=a:=by
 unfold fZ;split
 .rfl
 .cases a with
  |none=>rfl
  |some x=>obtain⟨b,off,sp⟩:=x;have:=h _ rfl;simp only at this;subst this;simp[nE]
def Vl:(f288.name == "runtime.NumGoroutine")=false:=ae
def Om:f288.body.isNone=true:=ae
def Vu:Extern.findNext f288=none:=ae
def Yz:prog.underlying 154=some (.slice 169):=ae
def Vz:Extern.find f288=some (Extern.SlicesOverlaps.overlaps #[154,154] #[4]):=ae
def wD:prog.underlying 155=some (.slice 169):=ae
def Sr:∃i,prog.info? 169=some i/\i.size=3:=by
 have h:=L8;unfold Sx.bE at h;cases hi:prog.info? 169 with
 |none=>rw[hi]at h;cases h
 |some i=>rw[hi]at h;simp at h;exact⟨i,rfl,h⟩
def cK.ones{c:Zo}{s:Nat×T}(h:cK I c s):c.all Sx.one=true:=by obtain⟨sl,a,e,hr⟩:=h;obtain⟨x,y,e2⟩:=hr.shape;simp only[Value.agg.injEq,Array.mk.injEq,nt,dZ]at e2;rw[e,e2.1,e2.2];rfl
def LR.ones{α:Type}{R:Zo->α->Prop}(b:∀c a,R c a->c.all Sx.one=true):∀{l:List α} {xs:Zo},LR R xs l->xs.all Sx.one=true
 | [],xs,h=>by rw[show xs=[] from h];rfl
 |a::l,xs,⟨c,ys,e,h1,h2⟩=>by rw[e,List.all_append,b c a h1,LR.ones b h2];rfl
def SG{l c ys:Zo}{p:Nat}(h:p+c.length+ys.length<=l.length):(bN (bN l p c) (p+c.length) ys).take (p+c.length+ys.length)=l.take p++c++ys:=by
 rw[n9 _ _ _ (by rw[eL];exact h),n9 _ _ _ O];have h1:(l.take p++c).length=p+c.length:=by simp;omega
 have h2:(l.take p++c++l.drop (p+c.length)).take (p+c.length)=l.take p++c:=by rw[<-h1];exact List.take_left
 rw[h2];have h3:(l.take p++c++ys).length=p+c.length+ys.length:=by rw[aH,h1]
 rw[<-h3];exact List.take_left
def SH{l c ys:Zo}{p:Nat}(h:p+c.length+ys.length<=l.length):(bN (bN l (p+c.length) ys) p c).take (p+c.length+ys.length)=l.take p++c++ys:=by
 rw[n9 (bN l (p+c.length) ys) c p (by rw[eL];omega),n9 _ _ _ O];have h1:(l.take (p+c.length)++ys).length=p+c.length+ys.length:=by simp;omega
 have h4:(l.take (p+c.length)++ys++l.drop (p+c.length+ys.length)).take p=l.take p:=by rw[cD,CJ (by simp;omega),ou,jB O]
 have h5:(l.take (p+c.length)++ys++l.drop (p+c.length+ys.length)).drop (p+c.length)=ys++l.drop (p+c.length+ys.length):=by rw[cD];exact List.drop_left' (by simp;omega)
 rw[h4,h5];have h3:(l.take p++c++ys).length=p+c.length+ys.length:=by simp;omega
 rw[<-cD,<-h3];exact List.take_left
def SK{f:ad}{i nb c1:Nat}{c:Zo}{ty:TypeId}{s:Nat×T}(hf:cV I A vf f)(hi:i<=f.length)(R:I nb=some (.cells c.toArray ty (0,0)))(hc:cK I c s)(hl:f.length<2^40):
  Zu 258 #[vf,E i,.slice (some ⟨nb,0,none⟩) 1 c1] I [A] fun v I2 qs=>∃A2,qs=[A2]/\cV I2 A2 v (f.take i++[s]++f.drop i):=by
 intro hd;obtain⟨xs,u,z⟩:=hf;have a:=cK.len _ _ hc;have k:a8 I nb 0 c:=bA R ao ao;have j:=z.len cK.len;obtain⟨za,q,rfl⟩:=u.slice;refine fj func258 rfl (by simp[ntmps258]) fun w0=>?_;simp only[ntmps258,E];rcases aK i f.length with bc|bx
 .obtain⟨g,cap,cur,e1,rfl,a4,a9,C,P⟩:=u.sg O;cases e1
  have F:((i:Int) == (f.length:Int))=false:=by simp;omega
  have e1:=wrap64 (n:=f.length+1) O;have aq:IntKind.i64.wrap ((f.length:Int)+1)=((f.length+1:Nat):Int):=by rw[<-e1];congr 1
  have e2:IntKind.i64.wrap (((f.length+1:Nat):Int)-(i:Int))=((f.length+1-i:Nat):Int):=by rw[fF O O];omega
  have e3:=wrap64 (n:=i+1) O;have G:IntKind.i64.wrap ((i:Int)+1)=((i+1:Nat):Int):=by rw[<-e3];congr 1
  obtain⟨inf,o,y⟩:=Sr;have d:(xs.drop (i*3)).length=(f.length-i)*3:=by rw[wP,j,<-pI]
  have N:(xs.drop (i*3)).all one=true:=(z.split cK.len i).2.ones (fun _ _ h=>h.ones);have fin:∀(cells:Zo) (g2 b:Nat) (I2:PH),I.le I2->cells.take ((f.length+1)*3)=xs.take (i*3)++c++xs.drop (i*3)->cells.length=b*3->f.length+1<=b->b<=maxLen->
    cV I2 (sg g2 (.cells cells.toArray 169 (0,0))) (.slice (some ⟨g2,0,none⟩) (f.length+1) b) (f.take i++[s]++f.drop i):=by
   intro cells g2 b I2 a5 h1 h2 h3 h4;obtain⟨k1,k2⟩:=z.split cK.len i;have ac:(f.take i++[s]++f.drop i).length=f.length+1:=by simp;omega
   refine⟨xs.take (i*3)++c++xs.drop (i*3),?_,((k1.app (.one hc)).app k2).mono fun _ _ h=>h.le a5⟩;rw[ac];refine dH.of_sg ?_ h3 h4 (by simpa using h2) (by simpa using h1);simp only[aH,lK,d,a,j];have:i*3<=f.length*3:=cv _ hi;rw[jB this,ir,pI];omega
  have am:i*3<=f.length*3:=cv _ hi;have bs:(i+1)*3=i*3+3:=O;have ba:a8 (U [I,sg g (.cells cur 169 (0,0))]) g 0 cur.toList:=cellsU hd (.tail _ (.head _)) (dz ao (by rw[io];exact uy (aR _)));have V:cur.toList.length=q*3:=by rw[ot];exact C
  have J:(cur.toList.drop (i*3)).take ((f.length-i)*3)=xs.drop (i*3):=by rw[<-P,List.drop_take,pI]
  rcases aK q (f.length+1)with x|x
  .have X:decide (((f.length+1:Nat):Int)>(q:Int))=true:=by simp;omega
   have s1:fZ (some ⟨g,0,none⟩) 3 0 q=some ⟨g,0,none⟩:=FI ao;have Z:=yN (g:=g) (l:=i) (cap:=q) (size:=3) O;apply RG;simp only[go_sem,E,F,aq,e2,G,X,s1,Z];refine⟨O,?_⟩;have Q:a8 (U [I,sg g (.cells cur 169 (0,0))]) g 0 (xs.take (i*3)):=by
    have:=ba.sub 0 (i*3) (by simp;omega);rw[io]at this;have e:cur.toList.take (i*3)=xs.take (i*3):=by rw[<-P,ou,jB am]
    rwa [e]at this
   refine MX (by exact hd) (by exact jw) (by exact py) rfl rfl rfl rfl Q (by simp[j];omega) O O (by unfold maxLen;omega) O fun g2 b zs aS W bb B=>?_;have t1:=yN (g:=g2) (l:=i) (cap:=b) (size:=3) O;have t2:=yN (g:=g2) (l:=i+1) (cap:=b) (size:=3) O;have e5:i+(f.length+1-i)=f.length+1:=O;rw[e5]at W;apply RG;simp only[go_sem,E,e5,t1,t2];refine⟨O,?_⟩;have aa:a8 (U [I,sg g2 (.cells (xs.take (i*3)++zs).toArray 169 (0,0)),sg g (.cells cur 169 (0,0))]) nb 0 c:=cellsU B (.head _) k;have a1:(xs.take (i*3)).length=i*3:=by simp[j];omega
   have H:(xs.take (i*3)++zs).length=b*3:=by rw[aH,a1,aS,pI];have:i*3<=b*3:=cv _ O;omega
   have b0:(f.length+1)*3<=b*3:=cv _ W;refine GI (by exact B) (by exact wD) (by exact o) rfl rfl rfl rfl aa (by rw[y,a,jB O]) (by rw[a];simp only[List.size_toArray];omega) hc.ones fun w=>?_;apply RG;simp only[go_sem,E];refine iH mixed [0,1,2,3,4,5,6,7,8] [] [] rfl rfl ?_;apply bo;simp only[go_sem,E,G,t2,Z];refine⟨O,?_⟩;have a0:f.length*3<=q*3:=cv _ a4;have t:a8 (sg g (.cells cur 169 (0,0))) g (i*3) (xs.drop (i*3)):=dz (by rw[d,C,pI];omega) (by rw[d];exact J);refine GM (by exact w) (by exact wD) (by exact o) rfl rfl rfl rfl rfl rfl (cellsU w (.tail _ (.tail _ (.head _))) t) (by rw[y,d,jB O]) (by rw[d];simp only[List.size_toArray,eL];omega) N fun S=>?_;apply aN;apply RG;simp only[go_sem,E];refine uI (c:=.st _) S [1,0] rfl fun an=>?_;simp only[gA,zq,zp]at an |-;refine aJ (c:=.st _) an fun I6 a7 K _=>?_;refine az rfl a7 (r:=[_]) rfl K ⟨_,rfl,?_⟩;refine fin _ g2 b I6 K ?_ (by simp only[List.toList_toArray,eL];exact H) W bb;have hL:=SG (l:=xs.take (i*3)++zs) (c:=c) (ys:=xs.drop (i*3)) (p:=i*3) (by rw[a,d,H,pI];omega);have hp:i*3+c.length=(i+1)*3:=by rw[a];omega
   have hq:i*3+c.length+(xs.drop (i*3)).length=(f.length+1)*3:=by rw[a,d,pI];omega
   rw[hq,hp]at hL;have hA:(xs.take (i*3)++zs).take (i*3)=xs.take (i*3):=by rw[CJ O,uy O]
   rw[hL,hA]
  .have X:decide (((f.length+1:Nat):Int)>(q:Int))=false:=by simp;omega
   have s1:fZ (some ⟨g,0,none⟩) 3 0 q=some ⟨g,0,none⟩:=FI ao;have Z:=yN (g:=g) (l:=i) (cap:=q) (size:=3) O;have s3:=yN (g:=g) (l:=i+1) (cap:=q) (size:=3) O;apply RG;simp only[go_sem,E,F,aq,e2,G,X,s1,Z,s3];refine⟨O,?_⟩;have a3:nb≠g:=fun e=>by have:=(u8 hd (.head _)).symm.left (gZ g (.cells cur 169 (0,0)));rw[<-e,R]at this;cases this
   have a0:(f.length+1)*3<=q*3:=cv _ x;refine Nf (by exact Ly) (by exact func288) (by exact Vl) (by exact Om) (by exact Vu) (by exact Vz) rfl rfl rfl rfl (iL hd _ _ R) (ju hd _ _ (gZ _ _)) a3 O ?_;apply RG;simp only[go_sem,E];refine iH mixed [0,1,2,3,4,5,6,7,8] [] [] rfl rfl ?_;apply bo;simp only[go_sem,E,G,Z,s3];refine⟨O,?_⟩;have t:a8 (sg g (.cells cur 169 (0,0))) g (i*3) (xs.drop (i*3)):=dz (by rw[d,C,pI];omega) (by rw[d];exact J);refine GM (by exact hd) (by exact wD) (by exact o) rfl rfl rfl rfl rfl rfl (cellsU hd (.tail _ (.head _)) t) (by rw[y,d,Nat.min_eq_right O,Nat.add_sub_add_right]) (by rw[d,C,pI];omega) N fun w=>?_;apply aN;apply RG;simp only[go_sem,E,Z];refine⟨O,?_⟩;refine GI (by exact w) (by exact wD) (by exact o) rfl rfl rfl rfl (cellsU w (.head _) k) (by rw[y,a,jB O]) (by rw[a];simp only[List.size_toArray,eL,V];omega) hc.ones fun S=>?_;apply RG;simp only[go_sem,E];refine az rfl S (r:=[_]) rfl (aD _) ⟨_,rfl,?_⟩;refine fin _ g q I (aD _) ?_ (by simp only[List.toList_toArray,eL,V]) x a9;have hL:=SH (l:=cur.toList) (c:=c) (ys:=xs.drop (i*3)) (p:=i*3) (by rw[a,d,V,pI];omega);have hp:i*3+c.length=(i+1)*3:=by rw[a];omega
   have hq:i*3+c.length+(xs.drop (i*3)).length=(f.length+1)*3:=by rw[a,d,pI];omega
   rw[hq,hp]at hL;have hA:cur.toList.take (i*3)=xs.take (i*3):=by rw[<-P,ou,jB am]
   rw[hL,hA]
 .have a6:i=f.length:=by omega
  subst a6;have F:((f.length:Int) == (f.length:Int))=true:=ao;apply RG;simp only[go_sem,E,F];refine⟨O,?_⟩;refine MW (m:=1) hd (by exact jw) (by exact Yz) u rfl rfl rfl rfl (cellsU hd (.head _) k) (by rw[a]) hc.ones O (by unfold maxLen;omega) fun v' I2 A2 B L ap=>?_;obtain⟨a2,c2,rfl⟩:=ap.slice;apply RG;simp only[go_sem,E];refine az rfl B (r:=[_]) rfl L ⟨A2,rfl,xs++c,?_,?_⟩
  .simpa[dY]using ap
  .rw[dK,js,Y];exact(z.app (.one hc)).mono fun _ _ h=>h.le L
def jK:ay prog 199:=⟨_,func199,rfl,rfl⟩
def Jn:∀{f:ad} {i a:Nat} {d e:T},(∀k s,k<i->f[k]?=some s->s.1<a)->f[i]?=some (a,e)->gy f a d=f.set i (a,e.or d)
 | [],i,a,d,e,_,h=>by simp at h
 |(b,g)::f,0,a,d,e,_,h=>by simp only[zt,bf,gN]at h;obtain⟨rfl,rfl⟩:=h;simp[gy]
 |(b,g)::f,i+1,a,d,e,h1,h=>by have hb:=h1 0 _ O rfl;simp only at hb;simp only[gy,ah hb,List.set_cons_succ];rw[Jn (i:=i) (fun k s c hs=>h1 (k+1) s (Nat.succ_lt_succ c) (by simpa using hs)) (by simpa using h)]
def Jo:∀{f:ad} {i a:Nat} {d:T},i<=f.length->(∀k s,k<i->f[k]?=some s->s.1<a)->(∀s,f[i]?=some s->a<s.1)->gy f a d=f.take i++[(a,d)]++f.drop i
 | [],i,a,d,hi,_,_=>by simp[gy]
 |(b,e)::f,0,a,d,_,_,h=>by have:=h _ rfl;simp only at this;simp only[gy];rw[ab O,ab O];simp
 |(b,e)::f,i+1,a,d,hi,h1,h=>by have hb:=h1 0 _ O rfl;simp only at hb;simp only[gy,ah hb,mB,mq,aU];rw[Jo (i:=i) (by simpa using hi) (fun k s c hs=>h1 (k+1) s (Nat.succ_lt_succ c) (by simpa using hs)) (fun s hs=>h s (by simpa using hs))]
def cV.le'{J:PH}{f:ad}(h:cV I A v f)(b:I.le J):cV J A v f:=Ow.le (R:=cK) (fun{I J c a} h k=>cK.le h k) h b
def Ow.inU{α:Type}{R:PH->Zo->α->Prop}{ps:Zt}{l:List α}(h:Ow R e size I A v l)(hd:Dj ps)(f:A∈ps):In R I (U ps) v l:=by
 obtain⟨xs,h1,h2⟩:=h;obtain⟨a,c,e⟩:=h1.slice;rcases jA l.length with b|hp
 .exact⟨a,c,e,.inl (List.length_eq_zero_iff.1 b)⟩
 .obtain⟨g,cap,e2,d⟩:=h1.cellsU hd f hp;exact⟨_,cap,e2,.inr ⟨g,0,xs,rfl,d,h2⟩⟩
def jL{vd:Value}{f:ad}{d:T}(hf:cV I A vf f)(q:bW I vd d)(hs:f.Pairwise (fun s t=>s.1<t.1))(hp:∀s∈f,s.1<2^61)(ha:a<2^61)(hl:f.length<2^40):
  Zu 199 #[vf,E a,vd] I [A] fun v I2 N=>∃L,N=[L]/\cV I2 L v (Syn.join f a d):=by
 intro hd;obtain⟨da,dc,rfl⟩:=q.shape;have V:=hf.inU hd (.tail _ (.head _));obtain⟨za,zc,rfl⟩:=hf.shape;refine fj func199 rfl (by simp[ntmps199]) fun w0=>?_;simp only[ntmps199,E];refine ai ?_;refine Zl rfl jj (ji q) ?_;rintro v H2⟨rfl,rfl⟩;cases o:decide (d=.lf false)
 .have R:d≠ff:=by simpa using o
  apply RG;simp only[go_sem,E,o];refine Zl rfl Q1 (OF V hs hp ha O) ?_;rintro v H2⟨rfl,i,hi,h1,h2,rfl⟩;have hj:Syn.join f a d=gy f a d:=by unfold Syn.join;rw[ab R]
  cases n:ss f i a
  .apply RG;simp only[go_sem,E,n];have W:∀s,f[i]?=some s->a<s.1:=fun s B=>by have:=h2 i s (aR _) B;simp only[ss,B,CK]at n;omega
   refine cI hd (by exact Ly) rfl rfl rfl rfl rfl af fun nb I2 ac k S=>?_;apply RG;simp only[go_sem,E];have c1:=SK (I:=I2) (A:=A) (i:=i) (nb:=nb) (c1:=1) (c:=[E a,.slice da (T.subs d).length dc,E (T.plc (T.subs d) d)]) (s:=(a,d)) (cV.le' hf k) hi (by rw[S];rfl) ⟨_,_,rfl,q.le k⟩ hl;refine GH ac [0] rfl Q2 rfl (F:=[]) rfl c1 ?_;rintro v I3 N m b⟨L,rfl,ap⟩;simp only[Y]at m |-;apply RG;simp only[go_sem,E];refine az rfl m (r:=[_]) rfl (D k b) ⟨L,rfl,?_⟩;rw[hj,Jo hi h1 W];exact ap
  .obtain⟨⟨p,e⟩,j⟩:∃s,f[i]?=some s:=by
    cases hx:f[i]? with
    |some s=>exact⟨s,rfl⟩
    |none=>simp[ss,hx]at n
   have Q:p=a:=by simpa[ss,j]using n
   subst Q;have U:i<f.length:=by
    rcases aK i f.length with h|h
    .exact h
    .rw[fp h]at j;cases j
   obtain⟨xs,C,x⟩:=hf;obtain⟨g,cap,cur,e1,rfl,G,an,am,z⟩:=C.sg O;cases e1
   have J:=x.get cK.len j;have aa:=x.len cK.len;obtain⟨sl,rt,K,w⟩:=J;obtain⟨ea,ec,e2⟩:=w.shape;simp only[Value.agg.injEq,Array.mk.injEq,nt,dZ]at e2;obtain⟨rfl,rfl⟩:=e2;have aS:i*3+3<=f.length*3:=O;have aq:f.length*3<=zc*3:=cv _ G;have y:a8 (sg g (.cells cur 169 (0,0))) g (i*3+1) [.slice ea (T.subs e).length ec,E (T.plc (T.subs e) e)]:=by
    refine dz (by simp;omega) ?_;have h3:(cur.toList.drop (i*3)).take 3=(xs.drop (i*3)).take 3:=by rw[<-z,List.drop_take,ou,jB O]
    rw[K]at h3;have:(cur.toList.drop (i*3+1)).take 2=((cur.toList.drop (i*3)).take 3).drop 1:=by rw[List.drop_take,lI]
    simp only[bl,bg,g8,Nat.reduceAdd];rw[this,h3];rfl
   apply RG;simp only[go_sem,E,n];refine iH mixed [0,1,2,3,4,5,6,7,8,9,10,11] [6] [] rfl rfl ?_;apply bo;simp only[go_sem,E];refine⟨O,?_⟩;refine Zn (l:=[.slice ea (T.subs e).length ec,E (T.plc (T.subs e) e)]) (v:=.agg #[.slice ea (T.subs e).length ec,E (T.plc (T.subs e) e)]) rfl (by simpa using cellsU hd (.tail _ (.head _)) y) (.inl ⟨jG,rfl⟩) ?_;apply bo;simp only[go_sem,E];refine cH hd [0] [] [_] rfl qo rfl (qG w q) ?_;rintro v I3 N m b⟨rfl,hr⟩;obtain⟨ra,rc,rfl⟩:=hr.shape;simp only[aQ]at m |-;apply bo;simp only[go_sem,E];refine⟨O,?_⟩;refine cY m rfl rfl rfl rfl rfl rfl (by exact qW) (by simp;omega) fun Z=>?_;apply aN;apply RG;simp only[go_sem,E];refine az rfl Z (r:=[_]) rfl b ⟨_,rfl,?_⟩;rw[hj,Jn h1 j];have H:LR (cK I3) xs f:=x.mono fun _ _ h=>h.le b;have u:=H.set cK.len U (c:=[E p,.slice ra (T.subs (e.or d)).length rc,E (T.plc (T.subs (e.or d)) (e.or d))]) (a:=(p,e.or d)) ⟨_,_,rfl,hr⟩;refine⟨_,?_,u⟩;rw[lJ];refine dH.of_sg ?_ G an (by simp[eL];exact am) ?_
   .rw[u.len cK.len,lJ]
   .show (bN cur.toList (i*3+1) [.slice ra (T.subs (e.or d)).length rc,E (T.plc (T.subs (e.or d)) (e.or d))]).take (f.length*3)=_;rw[BR _ _ _ _ (by simp;omega),z,n9 _ _ _ (by simp;omega)];have e1:xs.take (i*3+1)=xs.take (i*3)++[E p]:=by
     have:xs.take (i*3+1)=xs.take (i*3)++((xs.drop (i*3)).take 3).take 1:=by rw[ou,jB O,List.take_add]
     rw[this,K];rfl
    rw[e1];simp only[bl,bg,g8,Nat.reduceAdd];rw[show (i+1)*3=i*3+1+2 by omega];simp
 .have X:d=ff:=by simpa using o
  subst X;refine dB o ?_;exact az rfl hd (r:=[_]) rfl (aD _) ⟨A,rfl,by simpa[Syn.join,dY]using hf⟩
end Go.Proofs.YtfaclfkpnmcmlaaGreatDoor
namespace Syn
open Dg
mutual
def pN(c:aF):M->Option M
 |⟨k,t,o,s,ks,d⟩=>if d.at' c then some ⟨k,t,o,s,pL c ks,tt⟩else none
def pL (c:aF):List M->List M
 | []=>[]
 |n::l=>match pN c n with
  |some m=>m::pL c l
  |none=>pL c l
end
mutual
def yg:M->Prop
 |⟨_,_,_,_,ks,d⟩=>d.ok 0/\cF ks
def cF:List M->Prop
 | []=>True
 |n::l=>yg n/\cF l
end
def kg{l:List M}:cF l<->∀n∈l,yg n:=by
 induction l with
 |nil=>simp[cF]
 |cons n l a=>simp[cF,a]
def jm{n:M}:yg n<->n.cond.ok 0/\cF n.kids:=by cases n;rfl
def mf{a b:List M}:cF (a++b)<->cF a/\cF b:=by simp only[kg,jR];exact⟨fun h=>⟨fun n c=>h n (.inl c),fun n c=>h n (.inr c)⟩,fun h n c=>c.elim (h.1 n) (h.2 n)⟩
def VF(c:aF)(n:M):pN c n=if n.cond.at' c then some { n with kids:=pL c n.kids,cond:=tt } else none:=by cases n;rfl
def eD(c:aF)(n:M)(l:List M):pL c (n::l)=if n.cond.at' c then { n with kids:=pL c n.kids,cond:=tt }::pL c l else pL c l:=by rw[pL,VF];split<;>rename_i h<;>split at h<;>simp_all
def gW(c:aF)(a b:List M):pL c (a++b)=pL c a++pL c b:=by
 induction a with
 |nil=>rfl
 |cons n a d=>rw[aU,eD,eD,d];split<;>rfl
def jN(c:aF)(l ks:List M):pL c (give l ks)=give (pL c l) (pL c ks):=by
 induction l with
 |nil=>rfl
 |cons n l a=>
  have:give (n::l) ks={ n with kids:=n.kids++ks }::give l ks:=rfl;rw[this,eD,eD,a];cases h:n.cond.at' c
  .simp
  .simp[give,gW]
def jM{l ks:List M}(h1:cF l)(h2:cF ks):cF (give l ks):=by rw[kg]at *;intro n a;obtain⟨m,hm,rfl⟩:=List.mem_map.1 a;have:=jm.1 (h1 m hm);exact jm.2 ⟨this.1,mf.2 ⟨this.2,kg.2 h2⟩⟩
def fH{l ks r:List M}(h:ix l ks=some r):r=give l ks:=by
 unfold ix at h;split at h
 .exact(cX h).symm
 .cases h
def u6{l:List M}{u:Unit}(h:ck l=some u):l.length<=ar:=by
 unfold ck at h;split at h
 .assumption
 .cases h
def pE(c:aF)(e:List aI):List (Nat×Int):=(e.filter fun d=>d.cond.at' c).map fun d=>(d.code,d.tok)
def jk(e:List aI):Prop:=∀d∈e,d.cond.ok 0
def eI(c:aF)(a b:List aI):pE c (a++b)=pE c a++pE c b:=by simp[pE]
def fy{a b:List aI}:jk (a++b)<->jk a/\jk b:=by unfold jk;simp only[jR];exact⟨fun h=>⟨fun n c=>h n (.inl c),fun n c=>h n (.inr c)⟩,fun h n c=>c.elim (h.1 n) (h.2 n)⟩
def jl:jk []:=fun d h=>(dJ h).elim
def qI(c:aF)(h:aj)(code:Nat):pE c (dh h code)=if h.cond.at' c then [(code,(h.at':Int))]else []:=by unfold pE dh;cases a:h.cond.at' c<;>simp[T.at',a]
def Br{h:aj}(a:h.cond.ok 0)(code:Nat):jk (dh h code):=by
 intro d hd;simp[dh]at hd;rcases hd with rfl|rfl
 .trivial
 .exact a
def vX(c:aF)(h:aj)(hs:List aj):kQ c (h::hs)=if h.cond.at' c then h.at'::kQ c hs else kQ c hs:=by unfold kQ;cases a:h.cond.at' c<;>simp[a]
def Ec{α β:Type}{c:aF}(I:α->Prop)(d:α->β)(g:α->aj->α):∀{hs:List aj} {z:α} {p:Option Nat},I z->(∀a h,I a->h∈hs->I (g a h))->(∀a h,I a->h∈hs->h.cond.at' c=false->d (g a h)=d a)->dQ c hs p->
  I (hs.foldl g z)/\match p with
  |none=>d (hs.foldl g z)=d z
  |some i=>∃h∈hs,h.at'=i/\h.cond.at' c=true/\∃a,I a/\d a=d z/\d (hs.foldl g z)=d (g a h):=by
 intro hs
 induction hs with
 |nil=>
  intro z p f _ _ hp;cases p with
  |none=>exact⟨f,rfl⟩
  |some i=>simp[dQ,kQ]at hp
 |cons h hs n=>
  intro z p f h1 h2 hp;unfold dQ at hp;rw[vX]at hp;have hI:=h1 z h f (.head _);have k:∀a x,I a->x∈hs->I (g a x):=fun a x ha m=>h1 a x ha (.tail _ m);have j:∀a x,I a->x∈hs->x.cond.at' c=false->d (g a x)=d a:=fun a x ha m=>h2 a x ha (.tail _ m);cases l:h.cond.at' c with
  |false=>
   rw[l]at hp;obtain⟨a,b⟩:=n (z:=g z h) (p:=p) hI k j hp;refine⟨a,?_⟩;have e:=h2 z h f (.head _) l;cases p with
   |none=>exact b.trans e
   |some i=>obtain⟨x,u,t,s,y,r,q,o⟩:=b;exact⟨x,.tail _ u,t,s,y,r,q.trans e,o⟩
  |true=>
   rw[l]at hp;cases p with
   |none=>simp at hp
   |some i=>simp only[cu,Option.toList,nt]at hp;obtain⟨e1,e2⟩:=hp;obtain⟨a,b⟩:=n (z:=g z h) (p:=none) hI k j e2;exact⟨a,h,.head _,e1,l,z,f,rfl,b⟩
section
variable (Z:Zs)
def go.mem{Z:Zs}{hs:List aj}(h:go Z hs){x:aj}(c:x∈hs):x.cond.ok 0/\x.cond≠ff/\x=⟨x.at',x.cond,K Z x.at',X Z x.at'⟩:=by obtain⟨⟨a,e,_⟩,b⟩:=h.1 x c;exact⟨a,b,e⟩
def di(c:aF)(p:Option Nat)(s:au):Option Nat×List (Nat×Int):=
 match p.map (nx c Z)with
 |none=>(none,[])
 |some i=>if X Z i=s then (some (i+1),[])else (none,[(10,(i:Int))])
structure PR where
 l:List M
 p:Option Nat
 e:List (Nat×Int)
def bX(c:aF)(p:Option Nat)(kind slot:Nat):PR:=
 match p.map (nx c Z)with
 |none=>⟨[],none,[]⟩
 |some i=>if K Z i≠1\/fI (X Z i)=true then ⟨[],none,[(10,(i:Int))]⟩else ⟨[⟨kind,X Z i,i,slot,[],tt⟩],some (i+1),[]⟩
def fQ(c:aF)(p:Option Nat)(slot:Nat):PR:=
 match p.map (nx c Z)with
 |none=>⟨[],none,[]⟩
 |some i=>if X Z i≠om/\X Z i≠oj then ⟨[],none,[(10,(i:Int))]⟩else ⟨[⟨5,X Z i,i,slot,[],tt⟩],some (i+1),[]⟩
end
structure RR(c:aF)(r:aA)(q:PR):Prop where
 fok:aC r.f
 lok:cF r.l
 eok:jk r.e
 l:pL c r.l=q.l
 f:At c r.f q.p
 e:pE c r.e=q.e
def dQ.of{c:aF}{Z:Zs}(a:bB Z){f:ad}(hf:aC f){p:Option Nat}(hp:At c f p):dQ c (co Z f) (p.map (nx c Z)):=Sg a hf hp
def Cj{c:aF}{Z:Zs}(k:bB Z){f:ad}(hf:aC f){p:Option Nat}(hp:At c f p)(s:au):
  aC (take Z f s).1/\jk (take Z f s).2/\At c (take Z f s).1 (di Z c p s).1/\pE c (take Z f s).2=(di Z c p s).2:=by
 have n:=vz k hf;have ha:=dQ.of k hf hp;have key:=Ec (c:=c) (fun(a:ad×List aI)=>aC a.1/\jk a.2) (fun a=>(dp c a.1,pE c a.2)) (fun(x:ad×List aI) h=>match x with|(out,e)=>if h.text=s then (join out (h.at'+1) h.cond,e)else (out,e++dh h 10)) (hs:=co Z f) (z:=([],[])) ⟨aC.nil,jl⟩
  (fun a h b hm=>by
   obtain⟨g,_,_⟩:=n.mem hm;simp only;split
   .exact⟨iy b.1 g,b.2⟩
   .exact⟨b.1,fy.2 ⟨b.2,Br g 10⟩⟩)
  (fun a h b hm m=>by
   obtain⟨g,_,_⟩:=n.mem hm;simp only;split
   .simp only[ni c b.1 g,m,dO,dG]
   .simp only[eI,qI,m,dO,dG,Y]) ha
 unfold take qE;obtain⟨⟨g,t⟩,j⟩:=key;refine⟨g,t,?_⟩;unfold At di;cases l:p.map (nx c Z)with
 |none=>rw[l]at j;simp only[gN]at j;exact j
 |some i=>
  rw[l]at j;obtain⟨h,hm,e1,m,a,b,e2,d⟩:=j;obtain⟨r,_,q⟩:=n.mem hm;subst e1;have u:h.text=X Z h.at':=by rw[q]
  simp only[gN]at e2 d;have o:dp c a.1=[]:=e2.1;have ee:pE c a.2=[]:=e2.2;simp only[u]at d |-;split
  .rename_i hs;rw[ah hs]at d;refine⟨?_,?_⟩
   .rw[d.1];simp only[ni c b.1 r,m,cu,o];rfl
   .rw[d.2];exact ee
  .rename_i hs;rw[ab hs]at d;refine⟨?_,?_⟩
   .rw[d.1];exact o
   .rw[d.2];simp only[eI,qI,m,cu,ee];rfl
def LM(is:aj->Bool):∀(hs:List aj) (z:List aj×ad),hs.foldl (fun(x:List aj×ad) h=>match x with|(yes,no)=>if is h then (yes++[h],no)else (yes,join no h.at' h.cond)) z=(z.1++hs.filter is,(hs.filter fun h=>!is h).foldl joinH z.2)
 | [],z=>by simp
 |h::hs,z=>by rw[g7,LM is hs];cases hi:is h<;>simp[hi,joinH]
def BZ(Z:Zs)(f:ad)(is:aj->Bool):bP Z f is=((co Z f).filter is,((co Z f).filter fun h=>!is h).foldl joinH []):=by unfold bP qE;rw[LM];simp
variable{hs:List aj}
def go.filter{Z:Zs}(h:go Z hs)(is:aj->Bool):go Z (hs.filter is):=
 ⟨fun x a=>h.1 x ((List.mem_filter.1 a).1),h.2.sublist List.filter_sublist⟩
def go.tail{Z:Zs}{x:aj}(h:go Z (x::hs)):go Z hs:=⟨fun y a=>h.1 y (.tail _ a),(List.pairwise_cons.1 h.2).2⟩
def Fl(c:aF){is:aj->Bool}{isI:Nat->Bool}:∀{hs:List aj},(∀h∈hs,is h=isI h.at')->kQ c (hs.filter is)=(kQ c hs).filter isI
 | [],_=>rfl
 |h::hs,hi=>by have a:=Fl c (is:=is) (isI:=isI) (hs:=hs) fun x b=>hi x (.tail _ b);have h0:=hi h (.head _);rw[ip,vX];cases d:h.cond.at' c<;>cases hs:is h<;>rw[hs]at h0<;>simp[a,vX,d,<-h0]
def tO:∀{f:ad},aC f->(∀h∈hs,h.cond.ok 0)->aC (hs.foldl joinH f):=by
 induction hs with
 |nil=>intro f h _;exact h
 |cons x hs b=>intro f h a;exact b (iy h (a x (.head _))) fun y c=>a y (.tail _ c)
def Jw:∀{f:ad},aC f->(∀h∈hs,h.cond.ok 0)->aC (hs.foldl joinH1 f):=by
 induction hs with
 |nil=>intro f h _;exact h
 |cons x hs b=>intro f h a;exact b (iy h (a x (.head _))) fun y c=>a y (.tail _ c)
def Jz(c:aF):∀{f:ad},aC f->(∀h∈hs,h.cond.ok 0)->dp c (hs.foldl joinH f)=(kQ c hs).foldl jd (dp c f):=by
 induction hs with
 |nil=>intro f h _;rfl
 |cons x hs d=>intro f h b;have a:=b x (.head _);rw[g7,d (show aC (joinH f x) from iy h a) fun y e=>b y (.tail _ e)];show List.foldl jd (dp c (join f x.at' x.cond)) _=_;rw[ni c h a,vX];cases x.cond.at' c<;>rfl
def TH(c:aF):∀{f:ad},aC f->(∀h∈hs,h.cond.ok 0)->dp c (hs.foldl joinH1 f)=((kQ c hs).map (·+1)).foldl jd (dp c f):=by
 induction hs with
 |nil=>intro f h _;rfl
 |cons x hs d=>intro f h b;have a:=b x (.head _);rw[g7,d (show aC (joinH1 f x) from iy h a) fun y e=>b y (.tail _ e)];show List.foldl jd (dp c (join f (x.at'+1) x.cond)) _=_;rw[ni c h a,vX];cases x.cond.at' c<;>rfl
theorem At.joinH{c:aF}{f:ad}{p q:Option Nat}(hf:aC f)(a:∀h∈hs,h.cond.ok 0)(h1:At c f p)(h2:dQ c hs q)(h:p=none\/q=none):At c (hs.foldl Syn.joinH f) (p.or q):=by
 unfold At dQ at *;rw[Jz c hf a,h1,h2];rcases h with rfl|rfl
 .cases q<;>rfl
 .cases p<;>rfl
theorem At.joinH1{c:aF}{f:ad}{p q:Option Nat}(hf:aC f)(a:∀h∈hs,h.cond.ok 0)(h1:At c f p)(h2:dQ c hs q)(h:p=none\/q=none):At c (hs.foldl Syn.joinH1 f) (p.or (q.map (·+1))):=by
 unfold At dQ at *;rw[TH c hf a,h1,h2];rcases h with rfl|rfl
 .cases q<;>rfl
 .cases p<;>rfl
def go.conds{Z:Zs}(h:go Z hs):∀x∈hs,x.cond.ok 0:=fun x a=>(h.1 x a).1.1
def pi{c:aF}{Z:Zs}(a:bB Z){f:ad}(hf:aC f){p:Option Nat}(hp:At c f p){is:aj->Bool}(isI:Nat->Bool)(hi:∀i d,is ⟨i,d,K Z i,X Z i⟩=isI i):
  go Z (bP Z f is).1/\aC (bP Z f is).2/\dQ c (bP Z f is).1 ((p.map (nx c Z)).filter isI)/\At c (bP Z f is).2 ((p.map (nx c Z)).filter fun i=>!isI i):=by
 have g:=vz a hf;have ha:=dQ.of a hf hp;have e:∀h∈co Z f,is h=isI h.at':=fun h hm=>by have:=(g.mem hm).2.2;rw[this];exact hi _ _
 have b:∀h∈co Z f,(!is h)=!isI h.at':=fun h hm=>by rw[e h hm]
 rw[BZ];refine⟨g.filter _,tO aC.nil (g.filter _).conds,?_,?_⟩
 .unfold dQ at *;rw[Fl c e,ha];cases p.map (nx c Z)with
  |none=>rfl
  |some i=>cases h:isI i<;>simp[Option.filter,h]
 .unfold At dQ at *;simp only;rw[Jz c aC.nil (g.filter _).conds,Fl (isI:=fun i=>!isI i) c b,ha];cases p.map (nx c Z)with
  |none=>rfl
  |some i=>cases h:isI i<;>simp[Option.filter,h]<;>rfl
def vN{c:aF}{Z:Zs}(m:bB Z){f:ad}(hf:aC f){p:Option Nat}(hp:At c f p)(kind slot:Nat):RR c (named Z f kind slot) (bX Z c p kind slot):=by
 have t:=vz m hf;have ha:=dQ.of m hf hp;have key:=Ec (c:=c) (fun(r:aA)=>aC r.f/\cF r.l/\jk r.e) (fun r=>(pL c r.l,dp c r.f,pE c r.e)) (fun(r:aA) h=>if h.kind≠1\/fI h.text=true then { r with e:=r.e++dh h 10 } else ⟨r.l++[⟨kind,h.text,h.at',slot,[],h.cond⟩],join r.f (h.at'+1) h.cond,r.e⟩) (hs:=co Z f) (z:=⟨[],[],[]⟩) ⟨aC.nil,trivial,jl⟩
  (fun a h k hm=>by
   obtain⟨b,_,_⟩:=t.mem hm;obtain⟨s,i2,i3⟩:=k;split
   .exact⟨s,i2,fy.2 ⟨i3,Br b 10⟩⟩
   .exact⟨iy s b,mf.2 ⟨i2,⟨b,trivial⟩,trivial⟩,i3⟩)
  (fun a h k hm j=>by
   obtain⟨b,_,_⟩:=t.mem hm;obtain⟨s,i2,i3⟩:=k;split
   .simp only[eI,qI,j,dO,dG,Y]
   .simp only[ni c s b,gW,eD,j,dO,dG];simp[pL]) ha
 unfold named qE;obtain⟨⟨b,q,o⟩,g⟩:=key;unfold bX;cases n:p.map (nx c Z)with
 |none=>rw[n]at g;simp only[gN]at g;exact⟨b,q,o,g.1,g.2.1,g.2.2⟩
 |some i=>
  rw[n]at g;obtain⟨h,hm,e1,j,a,k,e2,d⟩:=g;obtain⟨x,_,u⟩:=t.mem hm;subst e1;have y:h.text=X Z h.at':=by rw[u]
  have A:h.kind=K Z h.at':=by rw[u]
  simp only[gN]at e2 d;have w:pL c a.l=[]:=e2.1;have v:dp c a.f=[]:=e2.2.1;have ee:pE c a.e=[]:=e2.2.2;simp only[y,A]at d b q o |-;split
  .rename_i hs;simp only[ah hs]at d;refine⟨b,q,o,?_,?_,?_⟩
   .rw[d.1];exact w
   .unfold At;rw[d.2.1];exact v
   .rw[d.2.2];simp only[eI,qI,j,cu,ee];rfl
  .rename_i hs;simp only[ab hs]at d;refine⟨b,q,o,?_,?_,?_⟩
   .rw[d.1,gW,w,eD,j];rfl
   .unfold At;rw[d.2.1,ni c k.1 x,j,v];rfl
   .rw[d.2.2];exact ee
def LS(a:ad)(l:Zs)(i:Nat):gK a l i ff=a:=by
 cases l with
 |nil=>simp[gK,join]
 |cons t l=>simp[gK]
def Sh{Z:Zs}(g:bB Z){h:aj}(hd:Hd Z h)(d:h.cond≠ff):co Z (bL h)=[h]:=by
 obtain⟨f,m,n⟩:=hd;have hf:aC (bL h):=⟨fun s hs=>by simp[bL]at hs;subst hs;exact⟨f,d⟩,by simp[bL]⟩;rw[tN g hf];have:lF Z (bL h)=[(h.at',h.cond)]:=by
  show gK [] (Z.drop h.at') h.at' h.cond=_;have k:join [] h.at' h.cond=[(h.at',h.cond)]:=by simp[join,d,gy]
  cases hd:Z.drop h.at' with
  |nil=>exact k
  |cons t l=>
   have ht:t.cond.ok 0:=g t (List.mem_of_mem_drop (i:=h.at') (by rw[hd];exact .head _));have b:∀c,h.cond.at' c=true->t.cond.at' c=true:=fun c a=>by
    have h1:=n c a;unfold nx at h1;rw[hd]at h1;cases j:t.cond.at' c with
    |true=>rfl
    |false=>
     have e:gk c (t::l) h.at'=gk c l (h.at'+1):=by simp[gk,j]
     rw[e]at h1;have:=(ye c l (h.at'+1)).1;omega
   have e1:h.cond.and t.cond=h.cond:=T.ext (T.and_ok f ht) f fun c=>by
    rw[T.and_at f ht];cases a:h.cond.at' c with
    |false=>rfl
    |true=>rw[b c a];rfl
   have e2:h.cond.and t.cond.not=ff:=T.ext (T.and_ok f (T.not_ok ht)) (show ff.ok 0 from trivial) fun c=>by
    rw[T.and_at f (T.not_ok ht),T.not_at];cases a:h.cond.at' c with
    |false=>rfl
    |true=>rw[b c a];rfl
   simp only[gK,ab d,e1,e2,k,LS]
 rw[this,List.map_singleton,Jj,<-m]
def Kt{Z:Zs}(b:bB Z){h:aj}(hd:Hd Z h)(a:h.cond≠ff)(kind slot:Nat):
  named Z (bL h) kind slot=if h.kind≠1\/fI h.text=true then ⟨[],[],dh h 10⟩else ⟨[⟨kind,h.text,h.at',slot,[],h.cond⟩],bY h,[]⟩:=by
 unfold named qE;rw[Sh b hd a];simp only[g7,List.foldl_nil,aQ];split
 .rfl
 .simp[join,a,gy,bY]
def Gh{c:aF}{Z:Zs}(m:bB Z){f:ad}(hf:aC f){p:Option Nat}(hp:At c f p)(slot:Nat):RR c (im Z f slot) (fQ Z c p slot):=by
 have t:=vz m hf;have ha:=dQ.of m hf hp;have key:=Ec (c:=c) (fun(r:aA)=>aC r.f/\cF r.l/\jk r.e) (fun r=>(pL c r.l,dp c r.f,pE c r.e)) (fun(r:aA) h=>if h.text≠om/\h.text≠oj then { r with e:=r.e++dh h 10 } else ⟨r.l++[⟨5,h.text,h.at',slot,[],h.cond⟩],join r.f (h.at'+1) h.cond,r.e⟩) (hs:=co Z f) (z:=⟨[],[],[]⟩) ⟨aC.nil,trivial,jl⟩
  (fun a h k hm=>by
   obtain⟨b,_,_⟩:=t.mem hm;obtain⟨s,i2,i3⟩:=k;split
   .exact⟨s,i2,fy.2 ⟨i3,Br b 10⟩⟩
   .exact⟨iy s b,mf.2 ⟨i2,⟨b,trivial⟩,trivial⟩,i3⟩)
  (fun a h k hm j=>by
   obtain⟨b,_,_⟩:=t.mem hm;obtain⟨s,i2,i3⟩:=k;split
   .simp only[eI,qI,j,dO,dG,Y]
   .simp only[ni c s b,gW,eD,j,dO,dG];simp[pL]) ha
 unfold im qE;obtain⟨⟨b,q,o⟩,g⟩:=key;unfold fQ;cases n:p.map (nx c Z)with
 |none=>rw[n]at g;simp only[gN]at g;exact⟨b,q,o,g.1,g.2.1,g.2.2⟩
 |some i=>
  rw[n]at g;obtain⟨h,hm,e1,j,a,k,e2,d⟩:=g;obtain⟨x,_,w⟩:=t.mem hm;subst e1;have y:h.text=X Z h.at':=by rw[w]
  simp only[gN]at e2 d;have v:pL c a.l=[]:=e2.1;have u:dp c a.f=[]:=e2.2.1;have ee:pE c a.e=[]:=e2.2.2;simp only[y]at d b q o |-;split
  .rename_i hs;simp only[ah hs]at d;refine⟨b,q,o,?_,?_,?_⟩
   .rw[d.1];exact v
   .unfold At;rw[d.2.1];exact u
   .rw[d.2.2];simp only[eI,qI,j,cu,ee];rfl
  .rename_i hs;simp only[ab hs]at d;refine⟨b,q,o,?_,?_,?_⟩
   .rw[d.1,gW,v,eD,j];rfl
   .unfold At;rw[d.2.1,ni c k.1 x,j,u];rfl
   .rw[d.2.2];exact ee
open Dg
inductive hQ where
 |line (k o:Nat) (p:Option Nat) (slot:Nat)
 |lineL (k o:Nat) (slot:Nat) (first:Bool) (l:List M) (g out:Option Nat)
 |lineO (k o:Nat) (slot:Nat) (op:Option Nat) (l:List M) (g:Option Nat)
 |unary (o:Nat) (p:Option Nat) (slot:Nat)
 |unaryH (o:Nat) (i:Option Nat) (slot:Nat)
 |calls (o:Nat) (i:Option Nat) (slot:Nat) (x:Option Nat) (names:List M) (g:Option Nat)
 |inside (o:Nat) (p:Option Nat) (slot:Nat)
 |listed (par:Bool) (o:Nat) (p:Option Nat)
 |listL (par:Bool) (o:Nat) (l:List M) (g fin:Option Nat)
 |item (par:Bool) (o:Nat) (p:Option Nat)
 |behind (typ:Bool) (o:Nat) (p:Option Nat) (sign:au) (slot:Nat)
 |vrb (o:Nat) (p:Option Nat)
 |function (o:Nat) (p:Option Nat)
 |block (o:Nat) (p:Option Nat) (slot:Nat)
 |seqL (top:Bool) (o:Nat) (p:Option Nat) (l:List M) (out:Option Nat)
 |stmt (o:Nat) (i:Option Nat)
 |sCalls (o:Nat) (i:Option Nat) (x:Option Nat) (l:List M) (g:Option Nat)
 |branch (o:Nat) (i:Option Nat) (slot:Nat)
 |elses (o:Nat) (x:Option Nat) (l:List M) (out:Option Nat)
 |ifs (o:Nat) (y:Option Nat) (l:List M) (out:Option Nat)
abbrev jU:=hQ->Option PR
def triv:PR:=⟨[],none,[]⟩
def slot0(l:List M):List M:=l.map fun n=>{ n with slot:=0 }
def jp(kind:Nat)(i:Option Nat)(slot:Nat):List M:=i.toList.map fun(i:Nat)=>⟨kind,[],(i:Int),slot,[],tt⟩
section
variable (c:aF) (Z:Zs) (rec:jU)
def bv(p:Option Nat)(is:Nat->Bool):Option Nat:=(p.map (nx c Z)).filter is
def be(s:au)(i:Nat):Bool:=decide (X Z i=s)
def kM(k i:Nat):Bool:=decide (K Z i=3) && decide (fV (X Z i)=k)
def sG(k o slot:Nat)(op:Option Nat)(l:List M)(g:Option Nat):Option PR:=
 match op with
 |none=>some ⟨l,g,[]⟩
 |some i=>do
  let a <-rec (.line (k+1) o (some (i+1)) 1)
  some ⟨[⟨13,X Z i,i,slot,slot0 l++a.l,tt⟩],a.p,a.e⟩
def o5(k o slot:Nat)(first:Bool)(l:List M)(g out:Option Nat):Option PR:=
 match g with
 |none=>some ⟨l,out,[]⟩
 |some p=>
  if k=2/\first=false then some ⟨l,some p,[]⟩
  else do
   let a <-rec (.lineO k o slot (bv c Z (some p) (kM Z k)) l none)
   let b <-rec (.lineL k o slot false a.l a.p (bv c Z (some p) fun i=>!kM Z k i))
   some ⟨b.l,b.p,a.e++b.e⟩
def mZ(k o:Nat)(p:Option Nat)(slot:Nat):Option PR:=
 if k=5 then rec (.unary o p slot)
 else do
  let a <-rec (.line (k+1) o p slot)
  let b <-rec (.lineL k o slot true a.l a.p none)
  some ⟨b.l,b.p,a.e++b.e⟩
def kh(o:Nat)(i:Option Nat)(slot:Nat):Option PR:=
 match i with
 |none=>some triv
 |some i=>
  if X Z i=sR\/X Z i=pq then
   if o=64 then some ⟨[],none,[(11,(i:Int))]⟩
   else do
    let a <-rec (.unary (o+1) (some (i+1)) 0)
    some ⟨[⟨14,X Z i,i,slot,a.l,tt⟩],a.p,a.e⟩
  else if X Z i=cq then rec (.inside o (some i) slot)
  else if K Z i=2 then some ⟨[⟨15,X Z i,i,slot,[],tt⟩],some (i+1),[]⟩
  else if X Z i=pu\/X Z i=qX then some ⟨[⟨16,X Z i,i,slot,[],tt⟩],some (i+1),[]⟩
  else if X Z i=un then some ⟨[⟨17,[],i,slot,[],tt⟩],some (i+1),[]⟩
  else do
   let a:=bX Z c (some i) 18 slot
   let b <-rec (.calls o (some i) slot (bv c Z a.p (be Z cq)) a.l (bv c Z a.p fun i=>!be Z cq i))
   some ⟨b.l,b.p,a.e++b.e⟩
def oZ(o:Nat)(i:Option Nat)(slot:Nat)(x:Option Nat)(names:List M)(g:Option Nat):Option PR:=
 match i,x with
 |some i,some x=>do
  let a <-rec (.listed false o (some x))
  some ⟨[⟨19,X Z i,i,slot,a.l,tt⟩],a.p,a.e⟩
 |_,_=>some ⟨names,g,[]⟩
def vW(o:Nat)(p:Option Nat)(slot:Nat):Option PR:=rec (.unaryH o (p.map (nx c Z)) slot)
def nW(o:Nat)(p:Option Nat)(slot:Nat):Option PR:=
 match p.map (nx c Z)with
 |none=>some triv
 |some i=>
  if X Z i≠cq then some ⟨[],none,[(10,(i:Int))]⟩
  else if o=64 then some ⟨[],none,[(11,(i:Int))]⟩
  else do
   let a <-rec (.line 0 (o+1) (some (i+1)) slot)
   some ⟨a.l,(di Z c a.p dt).1,a.e++(di Z c a.p dt).2⟩
def nX(par:Bool)(o:Nat)(p:Option Nat):Option PR:=
 match p.map (nx c Z)with
 |none=>some triv
 |some i=>
  if X Z i≠cq then some ⟨[],none,[(10,(i:Int))]⟩
  else if o=64 then some ⟨[],none,[(11,(i:Int))]⟩
  else do
   let a <-rec (.listL par (o+1) [] (bv c Z (some (i+1)) fun i=>!be Z dt i) (bv c Z (some (i+1)) (be Z dt)))
   some ⟨a.l,(di Z c a.p dt).1,a.e++(di Z c a.p dt).2⟩
def sH(par:Bool)(o:Nat)(l:List M)(g fin:Option Nat):Option PR:=
 match g with
 |none=>some ⟨l,fin,[]⟩
 |some p=>do
  let a <-rec (.item par o (some p))
  let b <-rec (.listL par o (l++a.l) ((bv c Z a.p (be Z eV)).map (·+1)) (bv c Z a.p fun i=>!be Z eV i))
  some ⟨b.l,b.p,a.e++b.e⟩
def o4(par:Bool)(o:Nat)(p:Option Nat):Option PR:=
 if par then
  let a:=bX Z c p 4 0
  let g:=di Z c a.p dA
  let b:=fQ Z c g.1 0
  some ⟨give a.l b.l,b.p,a.e++g.2++b.e⟩
 else rec (.line 0 o p 0)
def mY(typ:Bool)(o:Nat)(p:Option Nat)(slot:Nat):Option PR:=if typ then some (fQ Z c p slot)else rec (.line 0 o p slot)
def oY(typ:Bool)(o:Nat)(p:Option Nat)(sign:au)(slot:Nat):Option PR:=do
 let a <-mY c Z rec typ o ((bv c Z p (be Z sign)).map (·+1)) slot
 some ⟨a.l,(bv c Z p fun i=>!be Z sign i).or a.p,a.e⟩
def qM(o:Nat)(p:Option Nat):Option PR:=do
 let a:=bX Z c p 2 0
 let g1:=di Z c a.p dA
 let b:=fQ Z c g1.1 0
 let d <-rec (.behind false o b.p iC 1)
 let g2:=di Z c d.p bT
 some ⟨give (give a.l b.l) d.l,g2.1,a.e++g1.2++b.e++d.e++g2.2⟩
def qK(o:Nat)(p:Option Nat):Option PR:=do
 let a:=bX Z c p 3 0
 let b <-rec (.listed true o a.p)
 let d <-rec (.behind true o b.p dA 1)
 let e <-rec (.block o d.p 2)
 some ⟨give (give (give a.l b.l) d.l) e.l,e.p,a.e++b.e++d.e++e.e⟩
def nU(o:Nat)(p:Option Nat)(slot:Nat):Option PR:=
 match p.map (nx c Z)with
 |none=>some triv
 |some i=>
  if X Z i≠qY then some ⟨[],none,[(10,(i:Int))]⟩
  else if o=64 then some ⟨[],none,[(11,(i:Int))]⟩
  else do
   let a <-rec (.seqL false (o+1) (some (i+1)) [] none)
   some ⟨[⟨6,[],i,slot,a.l,tt⟩],(di Z c a.p iW).1,a.e++(di Z c a.p iW).2⟩
def BC(top:Bool)(i:Nat):Bool:=if top then decide (i=Z.length)else decide (X Z i=iW)
def nY(o:Nat)(i:Nat):Option PR:=
 if X Z i=nq then rec (.vrb o (some (i+1)))
 else if X Z i=ul then rec (.function o (some (i+1)))
 else some ⟨[],none,[(10,(i:Int))]⟩
def lz(top:Bool)(o i:Nat):Option PR:=if top then nY Z rec o i else rec (.stmt o (some i))
def o7(top:Bool)(o:Nat)(p:Option Nat)(l:List M)(out:Option Nat):Option PR:=
 match p.map (nx c Z)with
 |none=>some ⟨l,out,[]⟩
 |some i=>
  if BC Z top i then some ⟨l,some i,[]⟩
  else do
   let a <-lz Z rec top o i
   let b <-rec (.seqL top o a.p (l++a.l) none)
   some ⟨b.l,b.p,a.e++b.e⟩
def kP(o:Nat)(i:Option Nat):Option PR:=
 match i with
 |none=>some triv
 |some i=>
  if X Z i=nq then rec (.vrb o (some (i+1)))
  else if X Z i=eN then rec (.branch o (some i) 0)
  else if X Z i=uq then do
   let a <-rec (.inside o (some (i+1)) 0)
   let b <-rec (.block o a.p 1)
   some ⟨give (give (jp 9 (some i) 0) a.l) b.l,b.p,a.e++b.e⟩
  else if X Z i=qY then rec (.block o (some i) 0)
  else if X Z i=uo then do
   let a <-rec (.line 0 o (bv c Z (some (i+1)) fun i=>!be Z bT i) 0)
   let g:=di Z c (a.p.or (bv c Z (some (i+1)) (be Z bT))) bT
   some ⟨give (jp 10 (some i) 0) a.l,g.1,a.e++g.2⟩
  else if X Z i=um\/X Z i=jP then do
   let a <-rec (.line 0 o (some (i+1)) 0)
   let g:=di Z c a.p bT
   some ⟨give (jp (if X Z i=jP then 12 else 11) (some i) 0) a.l,g.1,a.e++g.2⟩
  else do
   let a:=bX Z c (some i) 7 0
   let g1:=di Z c (bv c Z a.p fun i=>!be Z cq i) iC
   let b <-rec (.line 0 o g1.1 0)
   let d <-rec (.sCalls o (some i) (bv c Z a.p (be Z cq)) (give a.l b.l) b.p)
   let g2:=di Z c d.p bT
   some ⟨d.l,g2.1,a.e++g1.2++b.e++d.e++g2.2⟩
def o6(o:Nat)(i:Option Nat)(x:Option Nat)(l:List M)(g:Option Nat):Option PR:=
 match i,x with
 |some i,some x=>do
  let a <-rec (.listed false o (some x))
  some ⟨[⟨19,X Z i,i,0,a.l,tt⟩],a.p,a.e⟩
 |_,_=>some ⟨l,g,[]⟩
def qH(o:Nat)(i:Option Nat)(slot:Nat):Option PR:=do
 let a <-rec (.inside o (i.map (·+1)) 0)
 let b <-rec (.block o a.p 1)
 let d <-rec (.elses o (bv c Z b.p (be Z iV)) (give (give (jp 8 i slot) a.l) b.l) (bv c Z b.p fun i=>!be Z iV i))
 some ⟨d.l,d.p,a.e++b.e++d.e⟩
def qJ(o:Nat)(x:Option Nat)(l:List M)(out:Option Nat):Option PR:=
 match x with
 |none=>some ⟨l,out,[]⟩
 |some j=>do
  let a <-rec (.block o (bv c Z (some (j+1)) fun i=>!be Z eN i) 2)
  let b <-rec (.ifs o (bv c Z (some (j+1)) (be Z eN)) (give l a.l) a.p)
  some ⟨b.l,b.p,a.e++b.e⟩
def qL(o:Nat)(y:Option Nat)(l:List M)(out:Option Nat):Option PR:=
 match y with
 |none=>some ⟨l,out,[]⟩
 |some j=>
  if o=64 then some ⟨l,out,[(11,(j:Int))]⟩
  else do
   let a <-rec (.branch (o+1) (some j) 2)
   some ⟨give l a.l,a.p,a.e⟩
def aB:hQ->Option PR
 | .line k o p slot=>mZ rec k o p slot
 | .lineL k o slot first l g out=>o5 c Z rec k o slot first l g out
 | .lineO k o slot op l g=>sG Z rec k o slot op l g
 | .unary o p slot=>vW c Z rec o p slot
 | .unaryH o i slot=>kh c Z rec o i slot
 | .calls o i slot x names g=>oZ Z rec o i slot x names g
 | .inside o p slot=>nW c Z rec o p slot
 | .listed par o p=>nX c Z rec par o p
 | .listL par o l g fin=>sH c Z rec par o l g fin
 | .item par o p=>o4 c Z rec par o p
 | .behind typ o p sign slot=>oY c Z rec typ o p sign slot
 | .vrb o p=>qM c Z rec o p
 | .function o p=>qK c Z rec o p
 | .block o p slot=>nU c Z rec o p slot
 | .seqL top o p l out=>o7 c Z rec top o p l out
 | .stmt o i=>kP c Z rec o i
 | .sCalls o i x l g=>o6 Z rec o i x l g
 | .branch o i slot=>qH c Z rec o i slot
 | .elses o x l out=>qJ c Z rec o x l out
 | .ifs o y l out=>qL rec o y l out
end
def dF(c:aF)(Z:Zs):Nat->jU
 |0=>fun _=>none
 |n+1=>aB c Z (dF c Z n)
def Le(r s:jU):Prop:=∀x q,r x=some q->s x=some q
def eZ{α β:Type}{a b:Option α}{f g:α->Option β}{q:β}(h:∀x,a=some x->b=some x)(k:∀x q,f x=some q->g x=some q)(e:a.bind f=some q):b.bind g=some q:=by
 cases ha:a with
 |none=>rw[ha]at e;cases e
 |some x=>rw[ha]at e;rw[h x ha];exact k x q e
def VH{c:aF}{Z:Zs}{r s:jU}(h:Le r s):Le (aB c Z r) (aB c Z s):=by
 intro x q e;cases x<;>simp only[aB]at e |-
 case line k o p slot=>
  unfold mZ at e |-;split at e
  .rename_i a;rw[ah a];exact h _ _ e
  .rename_i a;rw[ab a];exact eZ (h _) (fun x q e=>eZ (h _) (fun x q e=>e) e) e
 case lineL k o slot first l g out=>
  unfold o5 at e |-;cases g with
  |none=>exact e
  |some p=>
   simp only at e |-;split at e
   .rename_i a;rw[ah a];exact e
   .rename_i a;rw[ab a];exact eZ (h _) (fun x q e=>eZ (h _) (fun x q e=>e) e) e
 case lineO k o slot op l g=>
  unfold sG at e |-;cases op with
  |none=>exact e
  |some i=>exact eZ (h _) (fun x q e=>e) e
 case unary o p slot=>exact h _ _ e
 case unaryH o i slot=>
  unfold kh at e |-;cases i with
  |none=>exact e
  |some i=>
   simp only at e |-;split at e
   .rename_i h1;rw[ah h1];split at e
    .rename_i h2;rw[ah h2];exact e
    .rename_i h2;rw[ab h2];exact eZ (h _) (fun x q e=>e) e
   .rename_i h1;rw[ab h1];split at e
    .rename_i h2;rw[ah h2];exact h _ _ e
    .rename_i h2;rw[ab h2];split at e
     .rename_i h3;rw[ah h3];exact e
     .rename_i h3;rw[ab h3];split at e
      .rename_i h4;rw[ah h4];exact e
      .rename_i h4;rw[ab h4];split at e
       .rename_i h5;rw[ah h5];exact e
       .rename_i h5;rw[ab h5];exact eZ (h _) (fun x q e=>e) e
 case calls o i slot x names g=>
  unfold oZ at e |-;cases i<;>cases x<;>first|exact e|exact eZ (h _) (fun x q e=>e) e
 case inside o p slot=>
  unfold nW at e |-;generalize p.map (nx c Z)=w at e |-;cases w with
  |none=>exact e
  |some i=>
   simp only at e |-;split at e
   .rename_i h1;rw[ah h1];exact e
   .rename_i h1;rw[ab h1];split at e
    .rename_i h2;rw[ah h2];exact e
    .rename_i h2;rw[ab h2];exact eZ (h _) (fun x q e=>e) e
 case listed par o p=>
  unfold nX at e |-;generalize p.map (nx c Z)=w at e |-;cases w with
  |none=>exact e
  |some i=>
   simp only at e |-;split at e
   .rename_i h1;rw[ah h1];exact e
   .rename_i h1;rw[ab h1];split at e
    .rename_i h2;rw[ah h2];exact e
    .rename_i h2;rw[ab h2];exact eZ (h _) (fun x q e=>e) e
 case listL par o l g fin=>
  unfold sH at e |-;cases g with
  |none=>exact e
  |some p=>exact eZ (h _) (fun x q e=>eZ (h _) (fun x q e=>e) e) e
 case item par o p=>
  unfold o4 at e |-;cases par with
  |true=>exact e
  |false=>exact h _ _ e
 case behind typ o p sign slot=>
  unfold oY at e |-;refine eZ (fun x e=>?_) (fun x q e=>e) e;unfold mY at e |-;cases typ with
  |true=>exact e
  |false=>exact h _ _ e
 case vrb o p=>
  unfold qM at e |-;exact eZ (h _) (fun x q e=>e) e
 case function o p=>
  unfold qK at e |-;exact eZ (h _) (fun x q e=>eZ (h _) (fun x q e=>eZ (h _) (fun x q e=>e) e) e) e
 case block o p slot=>
  unfold nU at e |-;generalize p.map (nx c Z)=w at e |-;cases w with
  |none=>exact e
  |some i=>
   simp only at e |-;split at e
   .rename_i h1;rw[ah h1];exact e
   .rename_i h1;rw[ab h1];split at e
    .rename_i h2;rw[ah h2];exact e
    .rename_i h2;rw[ab h2];exact eZ (h _) (fun x q e=>e) e
 case seqL top o p l out=>
  unfold o7 at e |-;generalize p.map (nx c Z)=w at e |-;cases w with
  |none=>exact e
  |some i=>
   simp only at e |-;split at e
   .rename_i h1;rw[ah h1];exact e
   .rename_i h1;rw[ab h1];refine eZ (fun x e=>?_) (fun x q e=>eZ (h _) (fun x q e=>e) e) e;unfold lz at e |-;cases top with
    |false=>exact h _ _ e
    |true=>
     simp only[cu]at e |-;unfold nY at e |-;split at e
     .rename_i h2;rw[ah h2];exact h _ _ e
     .rename_i h2;rw[ab h2];split at e
      .rename_i h3;rw[ah h3];exact h _ _ e
      .rename_i h3;rw[ab h3];exact e
 case stmt o i=>
  unfold kP at e |-;cases i with
  |none=>exact e
  |some i=>
   simp only at e |-;split at e
   .rename_i h1;rw[ah h1];exact h _ _ e
   .rename_i h1;rw[ab h1];split at e
    .rename_i h2;rw[ah h2];exact h _ _ e
    .rename_i h2;rw[ab h2];split at e
     .rename_i h3;rw[ah h3];exact eZ (h _) (fun x q e=>eZ (h _) (fun x q e=>e) e) e
     .rename_i h3;rw[ab h3];split at e
      .rename_i h4;rw[ah h4];exact h _ _ e
      .rename_i h4;rw[ab h4];split at e
       .rename_i h5;rw[ah h5];exact eZ (h _) (fun x q e=>e) e
       .rename_i h5;rw[ab h5];split at e
        .rename_i h6;rw[ah h6];exact eZ (h _) (fun x q e=>e) e
        .rename_i h6;rw[ab h6];exact eZ (h _) (fun x q e=>eZ (h _) (fun x q e=>e) e) e
 case sCalls o i x l g=>
  unfold o6 at e |-;cases i<;>cases x<;>first|exact e|exact eZ (h _) (fun x q e=>e) e
 case branch o i slot=>
  unfold qH at e |-;exact eZ (h _) (fun x q e=>eZ (h _) (fun x q e=>eZ (h _) (fun x q e=>e) e) e) e
 case elses o x l out=>
  unfold qJ at e |-;cases x with
  |none=>exact e
  |some j=>exact eZ (h _) (fun x q e=>eZ (h _) (fun x q e=>e) e) e
 case ifs o y l out=>
  unfold qL at e |-;cases y with
  |none=>exact e
  |some j=>
   simp only at e |-;split at e
   .rename_i h1;rw[ah h1];exact e
   .rename_i h1;rw[ab h1];exact eZ (h _) (fun x q e=>e) e
def KW{c:aF}{Z:Zs}:∀(n:Nat),Le (dF c Z n) (dF c Z (n+1))
 |0=>fun x q e=>by cases e
 |n+1=>VH (KW n)
def qP{c:aF}{Z:Zs}{n m:Nat}(h:n<=m):Le (dF c Z n) (dF c Z m):=by
 induction h with
 |refl=>exact fun x q e=>e
 |step _ a=>exact fun x q e=>KW _ x q (a x q e)
def PV(c:aF)(Z:Zs)(x:hQ)(q:PR):Prop:=∃n,dF c Z n x=some q
def PV.det{c:aF}{Z:Zs}{x:hQ}{q r:PR}(h:PV c Z x q)(k:PV c Z x r):q=r:=by obtain⟨n,a⟩:=h;obtain⟨m,hm⟩:=k;have h1:=qP (Nat.le_max_left n m) _ _ a;have h2:=qP (Nat.le_max_right n m) _ _ hm;rw[h1]at h2;exact cX h2
def PV.of{c:aF}{Z:Zs}{x:hQ}{q:PR}{P:jU->Prop}(h:∀r:jU,P r->aB c Z r x=some q)(n:Nat)(hp:P (dF c Z n)):PV c Z x q:=⟨n+1,h _ hp⟩
def PV.step0{c:aF}{Z:Zs}{x:hQ}{q:PR}(h:∀r:jU,aB c Z r x=some q):PV c Z x q:=⟨1,h _⟩
def PV.step1{c:aF}{Z:Zs}{x y:hQ}{q a:PR}(h1:PV c Z y a)(h:∀r:jU,r y=some a->aB c Z r x=some q):PV c Z x q:=by obtain⟨n,b⟩:=h1;exact⟨n+1,h _ b⟩
def PV.step2{c:aF}{Z:Zs}{x y z:hQ}{q a b:PR}(h1:PV c Z y a)(h2:PV c Z z b)(h:∀r:jU,r y=some a->r z=some b->aB c Z r x=some q):PV c Z x q:=by obtain⟨n,d⟩:=h1;obtain⟨m,hm⟩:=h2;exact⟨max n m+1,h _ (qP (Nat.le_max_left n m) _ _ d) (qP (Nat.le_max_right n m) _ _ hm)⟩
def PV.step3{c:aF}{Z:Zs}{x y z w:hQ}{q a b d:PR}(h1:PV c Z y a)(h2:PV c Z z b)(h3:PV c Z w d)(h:∀r:jU,r y=some a->r z=some b->r w=some d->aB c Z r x=some q):PV c Z x q:=by obtain⟨n,e⟩:=h1;obtain⟨m,hm⟩:=h2;obtain⟨k,f⟩:=h3;exact⟨max n (max m k)+1,h _ (qP O _ _ e) (qP O _ _ hm) (qP O _ _ f)⟩
open Dg
section
variable {c:aF} {Z:Zs}
def Bo:∀(n:Nat) {k o slot:Nat} {q:PR},dF c Z n (.line k o none slot)=some q->q=triv
 |0,k,o,slot,q,h=>by cases h
 |n+1,k,o,slot,q,h=>by
  simp only[dF,aB,mZ]at h;split at h
  .cases n with
   |zero=>cases h
   |succ n=>
    simp only[dF,aB,vW,kX]at h;cases n with
    |zero=>cases h
    |succ n=>simp only[dF,aB,kh,bf]at h;exact h.symm
  .simp only[cG,eP,bf]at h;obtain⟨a,ha,b,hb,rfl⟩:=h;rw[Bo n ha]at hb |-;cases n with
   |zero=>cases hb
   |succ n=>simp only[dF,aB,o5,triv,bf]at hb;subst hb;rfl
def PV.noneLine{k o slot:Nat}{q:PR}(h:PV c Z (.line k o none slot) q):q=triv:=by obtain⟨n,h⟩:=h;exact Bo n h
def PV.noneUnary{o slot:Nat}{q:PR}(h:PV c Z (.unary o none slot) q):q=triv:=by
 obtain⟨n,h⟩:=h;cases n with
 |zero=>cases h
 |succ n=>
  simp only[dF,aB,vW,kX]at h;cases n with
  |zero=>cases h
  |succ n=>simp only[dF,aB,kh,bf]at h;exact h.symm
def PV.noneInside{o slot:Nat}{q:PR}(h:PV c Z (.inside o none slot) q):q=triv:=by
 obtain⟨n,h⟩:=h;cases n with
 |zero=>cases h
 |succ n=>simp only[dF,aB,nW,kX,bf]at h;exact h.symm
def PV.noneListed{par:Bool}{o:Nat}{q:PR}(h:PV c Z (.listed par o none) q):q=triv:=by
 obtain⟨n,h⟩:=h;cases n with
 |zero=>cases h
 |succ n=>simp only[dF,aB,nX,kX,bf]at h;exact h.symm
def PV.noneBlock{o slot:Nat}{q:PR}(h:PV c Z (.block o none slot) q):q=triv:=by
 obtain⟨n,h⟩:=h;cases n with
 |zero=>cases h
 |succ n=>simp only[dF,aB,nU,kX,bf]at h;exact h.symm
def PV.noneItem{par:Bool}{o:Nat}{q:PR}(h:PV c Z (.item par o none) q):q=triv:=by
 obtain⟨n,h⟩:=h;cases n with
 |zero=>cases h
 |succ n=>
  simp only[dF,aB,o4]at h;cases par with
  |true=>simp[bX,di,fQ,give]at h;exact h.symm
  |false=>exact Bo n h
def PV.noneBehind{typ:Bool}{o slot:Nat}{sign:au}{q:PR}(h:PV c Z (.behind typ o none sign slot) q):q=triv:=by
 obtain⟨n,h⟩:=h;cases n with
 |zero=>cases h
 |succ n=>
  simp only[dF,aB,oY,cG,eP,bf]at h;obtain⟨a,ha,rfl⟩:=h;have:a=triv:=by
   simp only[mY,bv,kX,Option.filter_none]at ha;cases typ with
   |true=>simp[fQ]at ha;exact ha.symm
   |false=>exact Bo n ha
  subst this;rfl
def PV.noneVar{o:Nat}{q:PR}(h:PV c Z (.vrb o none) q):q=triv:=by
 obtain⟨n,h⟩:=h;cases n with
 |zero=>cases h
 |succ n=>simp only[dF,aB,qM,cG,eP,bf]at h;obtain⟨a,ha,rfl⟩:=h;have:=PV.noneBehind (c:=c) (Z:=Z) ⟨n,ha⟩;subst this;rfl
def PV.noneFn{o:Nat}{q:PR}(h:PV c Z (.function o none) q):q=triv:=by
 obtain⟨n,h⟩:=h;cases n with
 |zero=>cases h
 |succ n=>simp only[dF,aB,qK,cG,eP,bf]at h;obtain⟨a,ha,b,hb,d,hd,rfl⟩:=h;have:=PV.noneListed (c:=c) (Z:=Z) ⟨n,ha⟩;subst this;have:=PV.noneBehind (c:=c) (Z:=Z) ⟨n,hb⟩;subst this;have:=PV.noneBlock (c:=c) (Z:=Z) ⟨n,hd⟩;subst this;rfl
def PV.noneElses{o:Nat}{l:List M}{out:Option Nat}{q:PR}(h:PV c Z (.elses o none l out) q):q=⟨l,out,[]⟩:=by
 obtain⟨n,h⟩:=h;cases n with
 |zero=>cases h
 |succ n=>simp only[dF,aB,qJ,bf]at h;exact h.symm
def PV.noneBranch{o slot:Nat}{q:PR}(h:PV c Z (.branch o none slot) q):q=triv:=by
 obtain⟨n,h⟩:=h;cases n with
 |zero=>cases h
 |succ n=>simp only[dF,aB,qH,cG,eP,bf]at h;obtain⟨a,ha,b,hb,d,hd,rfl⟩:=h;have:=PV.noneInside (c:=c) (Z:=Z) ⟨n,ha⟩;subst this;have:=PV.noneBlock (c:=c) (Z:=Z) ⟨n,hb⟩;subst this;have:=PV.noneElses (c:=c) (Z:=Z) ⟨n,hd⟩;subst this;rfl
def hI(c:aF)(h:aj):Option Nat:=if h.cond.at' c then some h.at' else none
inductive iw (c:aF) (Z:Zs):Call->hQ->Prop
 |line {k o f p slot}:aC f->At c f p->iw c Z (.line k o f slot) (.line k o p slot)
 |lineL {k o slot first l l' g g' out out'}:cF l->pL c l=l'->aC g->At c g g'->aC out->At c out out'->(g'=none\/out'=none)->iw c Z (.lineL k o slot first l g out) (.lineL k o slot first l' g' out')
 |lineO {k o slot ops op l l' g g'}:go Z ops->dQ c ops op->cF l->pL c l=l'->aC g->At c g g'->(op=none\/g'=none)->iw c Z (.lineO k o slot ops l g) (.lineO k o slot op l' g')
 |unary {o f p slot}:aC f->At c f p->iw c Z (.unary o f slot) (.unary o p slot)
 |unaryH {o h i slot}:Hd Z h->h.cond≠ff->hI c h=i->iw c Z (.unaryH o h slot) (.unaryH o i slot)
 |calls {o h i slot xs x names names' g g'}:Hd Z h->hI c h=i->go Z xs->dQ c xs x->cF names->pL c names=names'->aC g->At c g g'->(x=none\/g'=none/\i≠none/\pL c names.tail=[])->iw c Z (.calls o h slot xs names g) (.calls o i slot x names' g')
 |inside {o f p slot}:aC f->At c f p->iw c Z (.inside o f slot) (.inside o p slot)
 |listed {par o f p}:aC f->At c f p->iw c Z (.listed par o f) (.listed par o p)
 |listL {par o l l' g g' fin fin'}:cF l->pL c l=l'->aC g->At c g g'->aC fin->At c fin fin'->(g'=none\/fin'=none)->iw c Z (.listL par o l g fin) (.listL par o l' g' fin')
 |item {par o f p}:aC f->At c f p->iw c Z (.item par o f) (.item par o p)
 |behind {typ o f p sign slot}:aC f->At c f p->iw c Z (.behind typ o f sign slot) (.behind typ o p sign slot)
 |vrb {o f p}:aC f->At c f p->iw c Z (.vrb o f) (.vrb o p)
 |function {o f p}:aC f->At c f p->iw c Z (.function o f) (.function o p)
 |block {o f p slot}:aC f->At c f p->iw c Z (.block o f slot) (.block o p slot)
 |seqL {top o f p l l' out out'}:aC f->At c f p->cF l->pL c l=l'->aC out->At c out out'->(p=none\/out'=none)->iw c Z (.seqL top o f l out) (.seqL top o p l' out')
 |stmt {o h i}:Hd Z h->h.cond≠ff->hI c h=i->iw c Z (.stmt o h) (.stmt o i)
 |sCalls {o h i xs x l l' g g'}:Hd Z h->hI c h=i->go Z xs->dQ c xs x->cF l->pL c l=l'->aC g->At c g g'->(x=none\/g'=none/\i≠none/\pL c l.tail=[]/\l≠[])->iw c Z (.sCalls o h xs l g) (.sCalls o i x l' g')
 |branch {o h i slot}:Hd Z h->h.cond≠ff->hI c h=i->iw c Z (.branch o h slot) (.branch o i slot)
 |elses {o xs x l l' out out'}:go Z xs->dQ c xs x->cF l->pL c l=l'->aC out->At c out out'->(x=none\/out'=none)->iw c Z (.elses o xs l out) (.elses o x l' out')
 |ifs {o ys y l l' out out'}:go Z ys->dQ c ys y->cF l->pL c l=l'->aC out->At c out out'->(y=none\/out'=none)->iw c Z (.ifs o ys l out) (.ifs o y l' out')
end
open Dg
section
variable {c:aF} {Z:Zs}
def RR.nil(c:aF):RR c ⟨[],[],[]⟩ triv:=⟨aC.nil,trivial,jl,rfl,rfl,rfl⟩
def RR.app{r s:aA}{q u:PR}(h:RR c r q)(k:RR c s u):RR c ⟨s.l,s.f,r.e++s.e⟩ ⟨u.l,u.p,q.e++u.e⟩:=
 ⟨k.fok,k.lok,fy.2 ⟨h.eok,k.eok⟩,k.l,k.f,by rw[eI,h.e,k.e]⟩
def nH{h:aj}(k:h.cond.ok 0)(a:h.cond≠ff):aC (bY h):=⟨fun s hs=>by simp[bY]at hs;subst hs;exact⟨k,a⟩,by simp[bY]⟩
def si{h:aj}(k:h.cond.ok 0)(a:h.cond≠ff):aC (bL h):=⟨fun s hs=>by simp[bL]at hs;subst hs;exact⟨k,a⟩,by simp[bL]⟩
def nF(c:aF)(h:aj):At c (bY h) ((hI c h).map (·+1)):=by unfold bY hI At;rw[mh];cases h.cond.at' c<;>rfl
def sf(c:aF)(h:aj):At c (bL h) (hI c h):=by unfold bL hI At;rw[mh];cases h.cond.at' c<;>rfl
variable{hs:List aj}
def dQ.cons{h:aj}{p:Option Nat}(a:dQ c (h::hs) p):(h.cond.at' c=true/\p=some h.at'/\dQ c hs none)\/(h.cond.at' c=false/\dQ c hs p):=by
 unfold dQ at *;rw[vX]at a;cases b:h.cond.at' c with
 |false=>rw[b]at a;exact .inr ⟨rfl,a⟩
 |true=>
  rw[b]at a;cases p with
  |none=>simp at a
  |some i=>simp only[cu,Option.toList,nt]at a;exact .inl ⟨rfl,by rw[a.1],a.2⟩
def At.cons{s:Nat×T}{f:ad}{p:Option Nat}(a:At c (s::f) p):(s.2.at' c=true/\p=some s.1/\At c f none)\/(s.2.at' c=false/\At c f p):=by
 unfold At at *;rw[mh]at a;cases b:s.2.at' c with
 |false=>rw[b]at a;exact .inr ⟨rfl,a⟩
 |true=>
  rw[b]at a;cases p with
  |none=>simp at a
  |some i=>simp only[cu,Option.toList,nt]at a;exact .inl ⟨rfl,by rw[a.1],a.2⟩
def aC.tail{s:Nat×T}{f:ad}(h:aC (s::f)):aC f:=⟨fun t ht=>h.1 t (.tail _ ht),(List.pairwise_cons.1 h.2).2⟩
def aC.head{s:Nat×T}{f:ad}(h:aC (s::f)):aC [s]:=⟨fun t ht=>by simp at ht;subst ht;exact h.1 _ (.head _),by simp⟩
def go.hd{h:aj}(k:go Z (h::hs)):Hd Z h/\h.cond≠ff:=by exact k.1 h (.head _)
def Hd.text{h:aj}(k:Hd Z h):h.text=X Z h.at':=by rw[k.2.1]
def Hd.kind{h:aj}(k:Hd Z h):h.kind=K Z h.at':=by rw[k.2.1]
def KG{l:List M}{g:M->Option M}(h:cF l)(b:∀n m,yg n->g n=some m->yg m):cF (l.filterMap g):=by rw[kg]at *;intro m hm;obtain⟨n,a,e⟩:=List.mem_filterMap.1 hm;exact b n m (h n a) e
variable{d:T}
def Uq{l:List M}(hd:d.ok 0)(h:cF l):cF (fO l d):=KG h fun n m a e=>by
 split at e
 .cases e
 .cases e
  rw[jm]at a |-;exact⟨T.and_ok a.1 hd,a.2⟩
def Vy{l:List M}(hd:d.ok 0)(h:cF l):cF (fP l d):=KG h fun n m a e=>by
 split at e
 .cases e
 .cases e
  rw[jm]at a |-;exact⟨T.and_ok a.1 (T.not_ok hd),a.2⟩
def Up(c:aF){l:List M}(hd:d.ok 0)(h:cF l):pL c (fO l d)=if d.at' c then slot0 (pL c l)else []:=by
 induction l with
 |nil=>simp[fO,pL,slot0]
 |cons n l a=>
  have f:=(jm.1 h.1).1;have a:=a h.2;have ha:=T.and_at f hd c;unfold fO at a |-;rw[List.filterMap_cons];split
  .rename_i e;split at e
   .rename_i e2;rw[a,eD];rw[e2]at ha;cases b:d.at' c
    .rfl
    .rw[b,rd]at ha;have:n.cond.at' c=false:=ha.symm;simp[this]
   .cases e
  .rename_i m e;split at e
   .cases e
   .cases e
    rw[eD,a,eD];simp only[ha];cases n.cond.at' c<;>cases d.at' c<;>simp[slot0]
def KJ(c:aF){l:List M}(hd:d.ok 0)(h:cF l):pL c (fP l d)=if d.at' c then []else pL c l:=by
 induction l with
 |nil=>simp[fP,pL]
 |cons n l a=>
  have f:=(jm.1 h.1).1;have a:=a h.2;have ha:=T.and_at f (T.not_ok hd) c;rw[T.not_at]at ha;unfold fP at a |-;rw[List.filterMap_cons];split
  .rename_i e;split at e
   .rename_i e2;rw[a,eD];rw[e2]at ha;cases b:d.at' c
    .rw[b,dg,rd]at ha;have:n.cond.at' c=false:=ha.symm;simp[this]
    .rfl
   .cases e
  .rename_i m e;split at e
   .cases e
   .cases e
    rw[eD,a,eD];simp only[ha];cases n.cond.at' c<;>cases d.at' c<;>simp
def JO{l:List M}(hd:d.ok 0)(h:cF l):cF (gz l d):=by
 cases l with
 |nil=>exact h
 |cons n l=>refine⟨?_,h.2⟩;have:=jm.1 h.1;exact jm.2 ⟨T.and_ok this.1 (T.not_ok hd),this.2⟩
def AU(c:aF){l:List M}(hd:d.ok 0)(h:cF l):pL c (gz l d)=if d.at' c then pL c l.tail else pL c l:=by
 cases l with
 |nil=>simp[gz,pL]
 |cons n l=>have a:=(jm.1 h.1).1;have ha:=T.and_at a (T.not_ok hd) c;rw[T.not_at]at ha;simp only[gz,zw];rw[eD,eD];simp only[ha];cases n.cond.at' c<;>cases d.at' c<;>simp
def JQ(l:List M)(d:T):(gz l d).tail=l.tail:=by cases l<;>rfl
def lx{n:M}(h1:n.cond.ok 0)(h2:cF n.kids):cF [n]:=⟨jm.2 ⟨h1,h2⟩,trivial⟩
def iA(c:aF)(n:M):pL c [n]=if n.cond.at' c then [{ n with kids:=pL c n.kids,cond:=tt }]else []:=by rw[eD];rfl
def Bz(t:bB Z){f:ad}(hf:aC f){p:Option Nat}(hp:At c f p){g:aj->Option aA}{r:aA}(e:iP Z f g=some r){P:Nat->PR->Prop}
  (C:∀h x,Hd Z h->h.cond≠ff->g h=some x->if h.cond.at' c then ∃q,P h.at' q/\RR c x q else RR c x triv) :
  match p.map (nx c Z)with
  |none=>RR c r triv
  |some i=>∃q,P i q/\RR c r q:=by
 have k:=vz t hf;have ha:=dQ.of t hf hp;unfold iP at e;generalize co Z f=hs at k ha e;generalize p.map (nx c Z)=o at ha;have key:∀(hs:List aj) (z:aA) (o:Option Nat) (u:PR),go Z hs->dQ c hs o->RR c z u->(o=none\/u=triv)->kG (fun r h=>match g h with|some x=>if (r.l++x.l).length<=ar then some ⟨r.l++x.l,joinAll r.f x.f,r.e++x.e⟩else none|none=>none) z hs=some r->
   match o with
   |none=>RR c r u
   |some i=>∃q,P i q/\RR c r q:=by
  intro hs
  induction hs with
  |nil=>
   intro z o u k ha a j e;simp only[kG,bf]at e;subst e;cases o with
   |none=>exact a
   |some i=>simp[dQ,kQ]at ha
  |cons h hs y=>
   intro z o u k ha a j e;obtain⟨hd,v⟩:=k.hd;simp only[kG]at e;cases m:g h with
   |none=>rw[m]at e;cases e
   |some x=>
    rw[m]at e;simp only at e;split at e
    case h_2=>cases e
    rename_i b hb;split at hb
    case isFalse=>cases hb
    cases hb
    have d:=C h x hd v m;rcases ha.cons with ⟨w,rfl,n⟩|⟨w,n⟩
    .rw[w,ah rfl]at d;obtain⟨q,B,hr⟩:=d;have A:u=triv:=by rcases j with j|j;cases j;exact j
     subst A;refine⟨q,B,?_⟩;have:=y none q k.tail n (z:=⟨z.l++x.l,joinAll z.f x.f,z.e++x.e⟩) ?_ (.inl rfl) e
     .exact this
     .refine⟨l4 (fun s hs=>(hr.fok.1 s hs).1) a.fok,mf.2 ⟨a.lok,hr.lok⟩,fy.2 ⟨a.eok,hr.eok⟩,?_,?_,?_⟩
      .rw[gW,a.l,hr.l];rfl
      .have:=At.joinAll a.fok hr.fok a.f hr.f (.inl rfl);exact this
      .rw[eI,a.e,hr.e];rfl
    .rw[w]at d;simp only[dO,dG]at d;refine y o u k.tail n (z:=⟨z.l++x.l,joinAll z.f x.f,z.e++x.e⟩) ?_ j e;refine⟨l4 (fun s hs=>(d.fok.1 s hs).1) a.fok,mf.2 ⟨a.lok,d.lok⟩,fy.2 ⟨a.eok,d.eok⟩,?_,?_,?_⟩
     .rw[gW,a.l,d.l];simp[triv]
     .have:=At.joinAll a.fok d.fok a.f d.f (.inr rfl);simpa[triv]using this
     .rw[eI,a.e,d.e];simp[triv]
 have:=key hs _ o triv k ha (RR.nil c) (.inr rfl) e;exact this
end
open Dg
variable{N:Nat}
def Xc{f:ad}(hs:f.Pairwise (fun s t=>s.1<t.1))(h:∀s∈f,s.1<=N):f.length<=N+1:=by
 have key:∀(f:ad) (b:Nat),f.Pairwise (fun s t=>s.1<t.1)->(∀s∈f,s.1<=N)->(∀s∈f,b<=s.1)->f.length+b<=N+1\/f=[]:=by
  intro f
  induction f with
  |nil=>intro b _ _ _;exact .inr rfl
  |cons s f a=>
   intro b h1 h2 h3;rw[mz]at h1
   left
   have hb:=h3 s (.head _);have hN:=h2 s (.head _);rcases a (s.1+1) h1.2 (fun t ht=>h2 t (.tail _ ht)) (fun t ht=>h1.1 t ht)with h|h
   .simp only[bl];omega
   .subst h;simp only[bl,bg];omega
 rcases key f 0 hs h (fun _ _=>aE _)with h|h
 .omega
 .subst h;simp
structure FN(N:Nat)(f:ad):Prop where
 ok:aC f
 le:∀s∈f,s.1<=N
def FN.len{f:ad}(h:FN N f):f.length<=N+1:=Xc h.ok.2 h.le
theorem FN.join{f:ad}(h:FN N f){a:Nat}{d:T}(ha:a<=N)(hd:d.ok 0):FN N (Syn.join f a d):=
 ⟨iy h.ok hd,fun s hs=>(TJ hs).elim (fun e=>by omega) (fun⟨t,ht,e⟩=>by have:=h.le t ht;omega)⟩
def FN.nil(N:Nat):FN N []:=⟨aC.nil,fun s h=>(dJ h).elim⟩
theorem FN.joinAll{g:ad}:∀{f:ad},FN N f->FN N g->FN N (Syn.joinAll f g):=by
 induction g with
 |nil=>intro f h _;exact h
 |cons s g b=>intro f h a;exact b (h.join (a.le s (.head _)) (a.ok.1 s (.head _)).1) ⟨a.ok.tail,fun t ht=>a.le t (.tail _ ht)⟩
def lq(Z:Zs)(f:ad)(i:Nat):ad:=(f.take i).foldl (fun at' s=>gK at' (Z.drop s.1) s.1 s.2) []
def Hh{Z:Zs}{f:ad}{i:Nat}{s:Nat×T}(hs:f[i]?=some s):lq Z f (i+1)=gK (lq Z f i) (Z.drop s.1) s.1 s.2:=by
 have a:i<f.length:=by
  rcases aK i f.length with h|h
  .exact h
  .rw[fp h]at hs;cases hs
 unfold lq;rw[pH a];rw[aY a]at hs;rw[cX hs,pD];rfl
def LV{N:Nat}:∀{l:Zs} {a:ad} {i:Nat} {d:T},FN N a->bB l->d.ok 0->i+l.length=N->FN N (gK a l i d)
 | [],a,i,d,ha,b,hd,h=>ha.join (by simp at h;omega) hd
 |t::l,a,i,d,ha,b,hd,h=>by
  simp only[gK];split
  .exact ha
  .have ht:=b t (.head _);simp only[bl]at h;exact LV (ha.join O (T.and_ok hd ht)) (fun x c=>b x (.tail _ c)) (T.and_ok hd (T.not_ok ht)) O
def Dq{Z:Zs}{f:ad}(a:bB Z)(hf:FN Z.length f):∀i,i<=f.length->FN Z.length (lq Z f i)
 |0,_=>FN.nil _
 |i+1,hi=>by obtain⟨s,hs⟩:∃s,f[i]?=some s:=⟨_,aY hi⟩;have hm:=db hs;rw[Hh hs];exact LV (Dq a hf i O) (a.drop _) (hf.ok.1 s hm).1 (by have:=hf.le s hm;simp;omega)
def sd{α β:Type}{g:α->β->α}{z:α}{l:List β}{i:Nat}{x:β}(h:l[i]?=some x):(l.take (i+1)).foldl g z=g ((l.take i).foldl g z) x:=by
 have a:i<l.length:=by
  rcases aK i l.length with b|b
  .exact b
  .rw[fp b]at h;cases h
 rw[pH a];rw[aY a]at h;rw[cX h,pD];rfl
def Ih{α β:Type}{g:α->β->α}(μ:α->Nat)(h:∀z x,μ z<=μ (g z x)):∀(l:List β) (z:α),μ z<=μ (l.foldl g z)
 | [],z=>aR _
 |x::l,z=>fJ (h z x) (Ih μ h l (g z x))
def Ee{α β:Type}{g:α->β->α}(μ:α->Nat)(h:∀z x,μ z<=μ (g z x))(l:List β)(i:Nat)(z:α):μ ((l.take i).foldl g z)<=μ (l.foldl g z):=by
 have:=Ih μ h (l.drop i) ((l.take i).foldl g z)
 rwa [<-pD,pG]at this
def tI{α β:Type}{g:α->β->α}(Q:α->Prop):∀{l:List β} {z:α},Q z->(∀z x,x∈l->Q z->Q (g z x))->Q (l.foldl g z)
 | [],z,h,_=>h
 |x::l,z,h,k=>tI Q (l:=l) (k z x (List.mem_cons_self ..) h) fun z y a=>k z y (List.mem_cons_of_mem _ a)
def Jk{Z:Zs}{f:ad}(a:bB Z)(fn:FN Z.length f):FN Z.length (lF Z f):=by
 have h1:=Dq a fn f.length (aR _);unfold lq at h1
 rwa [dK]at h1
def mQ{Z:Zs}{f:ad}(a:bB Z)(fn:FN Z.length f):(co Z f).length<=Z.length+1:=by rw[tN a fn.ok,eO];exact(Jk a fn).len
structure du(Z:Zs)(h:aj):Prop where
 le:h.at'<=Z.length
 ok:h.cond.ok 0
 ne:h.cond≠ff
 eq:h=fu Z (h.at',h.cond)
def gx{Z:Zs}{f:ad}(a:bB Z)(fn:FN Z.length f){h:aj}(b:h∈co Z f):du Z h:=by rw[tN a fn.ok]at b;obtain⟨s,hs,rfl⟩:=List.mem_map.1 b;have k:=Jk a fn;refine⟨by rw[tM];exact k.le s hs,by rw[vv];exact(k.ok.1 s hs).1,by rw[vv];exact(k.ok.1 s hs).2,?_⟩;rw[tM,vv]
def du.lt{Z:Zs}{h:aj}(k:du Z h)(a:h.text≠[]\/h.kind≠0):h.at'<Z.length:=by
 rcases aK h.at' Z.length with h1|h1
 .exact h1
 .have e:=k.eq;unfold fu at e;rw[fp h1]at e;simp only at e;rw[e]at a;simp at a
def f9(s:au)(r:ad×List aI)(h:aj):ad×List aI:=if h.text=s then (Syn.join r.1 (h.at'+1) h.cond,r.2)else (r.1,r.2++dh h 10)
theorem F8(Z:Zs)(f:ad)(s:au):Syn.take Z f s=(co Z f).foldl (f9 s) ([],[]):=rfl
variable{hl:List aj}
def Mk{Z:Zs}{s:au}(hs:s≠[])(a:∀h∈hl,du Z h):FN Z.length (hl.foldl (f9 s) ([],[])).1:=
 tI (fun(r:ad×List aI)=>FN Z.length r.1) (FN.nil _) fun r h hm k=>by
  unfold f9;split
  .rename_i e;have:=(a h hm).lt (.inl (by rw[e];exact hs));exact k.join O (a h hm).ok
  .exact k
def il(is:aj->Bool)(r:List aj×ad)(h:aj):List aj×ad:=if is h then (r.1++[h],r.2)else (r.1,Syn.join r.2 h.at' h.cond)
theorem LP(Z:Zs)(f:ad)(is:aj->Bool):bP Z f is=(co Z f).foldl (il is) ([],[]):=rfl
def LN{Z:Zs}{is:aj->Bool}(a:∀h∈hl,du Z h):FN Z.length (hl.foldl (il is) ([],[])).2:=
 tI (fun(r:List aj×ad)=>FN Z.length r.2) (FN.nil _) fun r h hm k=>by
  unfold il;split
  .exact k
  .exact k.join (a h hm).le (a h hm).ok
def LO{is:aj->Bool}:∀(a:List aj) (z:List aj×ad),(a.foldl (il is) z).1.length<=z.1.length+a.length
 | [],z=>aR _
 |h::a,z=>by
  have:=LO (is:=is) a (il is z h);have h2:(il is z h).1.length<=z.1.length+1:=by unfold il;split<;>simp
  simp only[g7,bl];omega
def dX(kind slot:Nat)(r:aA)(h:aj):aA:=
 if h.kind≠1\/fI h.text=true then { r with e:=r.e++dh h 10 } else ⟨r.l++[⟨kind,h.text,h.at',slot,[],h.cond⟩],Syn.join r.f (h.at'+1) h.cond,r.e⟩
theorem x8(Z:Zs)(f:ad)(kind slot:Nat):named Z f kind slot=(co Z f).foldl (dX kind slot) ⟨[],[],[]⟩:=rfl
def Kr{Z:Zs}{kind slot:Nat}(a:∀h∈hl,du Z h):FN Z.length (hl.foldl (dX kind slot) ⟨[],[],[]⟩).f:=
 tI (fun(r:aA)=>FN Z.length r.f) (FN.nil _) fun r h hm k=>by
  unfold dX;split
  .exact k
  .rename_i b;have:h.kind=1:=by
    by_cases e:h.kind=1
    .exact e
    .exact absurd (.inl e) b
   have:=(a h hm).lt (.inr O);exact k.join O (a h hm).ok
def E2{kind slot:Nat}:∀(a:List aj) (z:aA),(a.foldl (dX kind slot) z).l.length<=z.l.length+a.length
 | [],z=>aR _
 |h::a,z=>by
  have:=E2 (kind:=kind) (slot:=slot) a (dX kind slot z h);have h2:(dX kind slot z h).l.length<=z.l.length+1:=by unfold dX;split<;>simp
  simp only[g7,bl];omega
def eu(slot:Nat)(r:aA)(h:aj):aA:=
 if h.text≠om/\h.text≠oj then { r with e:=r.e++dh h 10 } else ⟨r.l++[⟨5,h.text,h.at',slot,[],h.cond⟩],Syn.join r.f (h.at'+1) h.cond,r.e⟩
theorem Cm(Z:Zs)(f:ad)(slot:Nat):im Z f slot=(co Z f).foldl (eu slot) ⟨[],[],[]⟩:=rfl
def Mw{Z:Zs}{slot:Nat}(a:∀h∈hl,du Z h):FN Z.length (hl.foldl (eu slot) ⟨[],[],[]⟩).f:=
 tI (fun(r:aA)=>FN Z.length r.f) (FN.nil _) fun r h hm k=>by
  unfold eu;split
  .exact k
  .rename_i b;have:h.text≠[]:=fun e=>b (by rw[e];decide);have:=(a h hm).lt (.inl this);exact k.join O (a h hm).ok
def Gg{slot:Nat}:∀(a:List aj) (z:aA),(a.foldl (eu slot) z).l.length<=z.l.length+a.length
 | [],z=>aR _
 |h::a,z=>by
  have:=Gg (slot:=slot) a (eu slot z h);have h2:(eu slot z h).l.length<=z.l.length+1:=by unfold eu;split<;>simp
  simp only[g7,bl];omega
section
variable {Z:Zs} {f:ad}
def nT(a:bB Z)(fn:FN Z.length f)(kind slot:Nat):FN Z.length (named Z f kind slot).f:=by rw[x8];exact Kr fun h b=>gx a fn b
def vO(a:bB Z)(fn:FN Z.length f)(kind slot:Nat):(named Z f kind slot).l.length<=Z.length+1:=by rw[x8];have:=E2 (kind:=kind) (slot:=slot) (co Z f) ⟨[],[],[]⟩;have h2:=mQ a fn;simp only[bg]at this;omega
def Ck(a:bB Z)(fn:FN Z.length f)(slot:Nat):FN Z.length (im Z f slot).f:=by rw[Cm];exact Mw fun h b=>gx a fn b
def Yv(a:bB Z)(fn:FN Z.length f)(slot:Nat):(im Z f slot).l.length<=Z.length+1:=by rw[Cm];have:=Gg (slot:=slot) (co Z f) ⟨[],[],[]⟩;have h2:=mQ a fn;simp only[bg]at this;omega
def iX(a:bB Z)(fn:FN Z.length f){s:au}(hs:s≠[]):FN Z.length (Syn.take Z f s).1:=by rw[F8];exact Mk hs fun h b=>gx a fn b
def jx(a:bB Z)(fn:FN Z.length f)(is:aj->Bool):FN Z.length (bP Z f is).2:=by rw[LP];exact LN fun h b=>gx a fn b
def oh(a:bB Z)(fn:FN Z.length f){is:aj->Bool}:∀h∈(bP Z f is).1,du Z h/\is h=true:=by intro h b;rw[BZ]at b;obtain⟨h1,h2⟩:=List.mem_filter.1 b;exact⟨gx a fn h1,h2⟩
def qU(a:bB Z)(fn:FN Z.length f)(is:aj->Bool):(bP Z f is).1.length<=Z.length+1:=by rw[BZ];exact fJ (List.length_filter_le _ _) (mQ a fn)
variable{hs:List aj}
def vD(a:∀h∈hs,du Z h)(fn:FN Z.length f):FN Z.length (hs.foldl joinH f):=
 tI (fun(r:ad)=>FN Z.length r) fn fun r h hm k=>k.join (a h hm).le (a h hm).ok
def AM(a:∀h∈hs,du Z h/\h.at'<Z.length)(fn:FN Z.length f):FN Z.length (hs.foldl joinH1 f):=
 tI (fun(r:ad)=>FN Z.length r) fn fun r h hm k=>k.join (a h hm).2 (a h hm).1.ok
def xT {s : au} (hs : s ≠ []) {h : aj} (k : du Z h) (e : bq s h = true) : h.at' < Z.length :=
  k.lt (.inl (by have : h.text = s := by simpa [bq] using e
                 rw [this]; exact hs))
def eH{h:aj}(k:du Z h)(a:h.at'<Z.length):FN Z.length (bY h):=
 ⟨⟨fun s hs=>by simp[bY]at hs;subst hs;exact⟨k.ok,k.ne⟩,by simp[bY]⟩,fun s hs=>by simp[bY]at hs;subst hs;exact a⟩
def mT{h:aj}(k:du Z h):FN Z.length (bL h):=
 ⟨⟨fun s hs=>by simp[bL]at hs;subst hs;exact⟨k.ok,k.ne⟩,by simp[bL]⟩,fun s hs=>by simp[bL]at hs;subst hs;exact k.le⟩
end
end Syn
namespace Go.Proofs.YtfaclfkpnmcmlaaGreatDoor
open Go Go.Sx Dg Syn
def j8:ay prog 200:=⟨_,func200,rfl,rfl⟩
def IG:ay prog 209:=⟨_,func209,rfl,rfl⟩
def Rz:ay prog 78:=⟨_,func78,rfl,rfl⟩
variable{I:PH}
def Sl.load{α:Type}{R:PH->Zo->α->Prop}{n:Nat}(g:∀{I} c a,R I c a->c.length=n){a:Option Addr}{m c:Nat}{l:List α}(h:Sl R I (.slice a m c) l){i:Nat}{x:α}(hi:l[i]?=some x):
  ∃b off cs,a=some ⟨b,off,none⟩/\R I cs x/\a8 I b (off+i*n) cs:=by
 obtain⟨k,c',e,h⟩:=h;cases e
 have d:i<l.length:=by
  rcases aK i l.length with h|h
  .exact h
  .rw[fp h]at hi;cases hi
 rcases h with h0|⟨b,off,xs,rfl,j,hr⟩
 .rw[h0]at d;simp at d
 .have f:=hr.len (n:=n) (fun c a h=>g c a h);have h1:(i+1)*n<=l.length*n:=cv _ d;rw[ir]at h1;exact⟨b,off,_,rfl,hr.get (fun c a h=>g c a h) hi,j.sub (i*n) n O⟩
def cK.shape{c:Zo}{s:Nat×T}(h:cK I c s):∃a k,c=[E s.1,.slice a (T.subs s.2).length k,E (T.plc (T.subs s.2) s.2)]/\bW I (.agg #[.slice a (T.subs s.2).length k,E (T.plc (T.subs s.2) s.2)]) s.2:=by obtain⟨sl,d,e,hr⟩:=h;obtain⟨x,y,e2⟩:=hr.shape;have b:=e2;simp only[Value.agg.injEq,Array.mk.injEq,nt,dZ]at b;refine⟨x,y,by rw[e,b.1,b.2],by rw[<-e2];exact hr⟩
def TG{f g:ad}{i:Nat}{s:Nat×T}(hs:g[i]?=some s):Syn.joinAll f (g.take (i+1))=Syn.join (Syn.joinAll f (g.take i)) s.1 s.2:=by
 have a:i<g.length:=by
  rcases aK i g.length with h|h
  .exact h
  .rw[fp h]at hs;cases hs
 rw[pH a];rw[aY a]at hs;rw[cX hs];unfold Syn.joinAll;rw[pD];rfl
def vC(a:Value)(n:Nat)(x:Nat×Value):St:=⟨sp 0 21 [(0,.v x.2),(7,.v a),(8,.v (E n)),(9,.v (E x.1))],[]⟩
def TF(f g:ad)(a:PH)(x:Nat×Value)(H:PH):Prop:=∃I A,H=U [I,A]/\Dj [I,A]/\a.le I/\x.1<=g.length/\cV I A x.2 (Syn.joinAll f (g.take x.1))
def ke{A:PH}{vf vg:Value}{f g:ad}{N:Nat}(hN:N<=2^20)(hf:cV I A vf f)(fn:FN N f)(V:bM I vg g)(gn:FN N g):
  Zu 200 #[vf,vg] I [A] fun v Q U=>∃B,U=[B]/\cV Q B v (Syn.joinAll f g):=by
 intro hd;obtain⟨X,W,rfl⟩:=hf.shape;obtain⟨ga,gc,rfl,_⟩:=id V;have gl:=gn.len;refine fj func200 rfl (by simp[ntmps200]) fun w0=>?_;simp only[ntmps200,E];refine ai ?_;refine bV (fun x=>g.length-x.1) (vC (.slice ga g.length gc) g.length) (TF f g I) (0,.slice X f.length W) (by simp only[go_sem,Y,vC,E]) (by simp only[go_sem,Y,vC]) ?_ ?_
 .exact⟨I,A,rfl,hd,aD _,aE _,hf⟩
 rintro⟨i,v⟩ H ⟨I1,A1,rfl,m,d,hi,e⟩ j;simp only at hi e;simp only[vC];have G:bM I1 (.slice ga g.length gc) g:=Sl.le (R:=cK) (fun{I J c a} h k=>cK.le h k) V d;rcases aK i g.length with w|aa
 .have q:decide ((i:Int)<(g.length:Int))=true:=by simp;omega
  have e1:=wrap64 (n:=i+1) O;have P:IntKind.i64.wrap ((i:Int)+1)=((i+1:Nat):Int):=by rw[<-e1];congr 1
  obtain⟨s,hs⟩:∃s,g[i]?=some s:=⟨_,aY w⟩;have C:=db hs;obtain⟨b,off,cs,rfl,K,o⟩:=G.load cK.len hs;obtain⟨sa,S,rfl,u⟩:=K.shape;have L:FN N (Syn.joinAll f (g.take i)):=fn.joinAll ⟨⟨fun t ht=>gn.ok.1 t (lL ht),gn.ok.2.sublist (List.take_sublist i g)⟩,fun t ht=>gn.le t (lL ht)⟩;have fal:=L.len;have Z:=gn.le s C;apply RG;simp only[go_sem,q,E];refine⟨O,?_⟩;refine Zm (l:=[E s.1,.slice sa (T.subs s.2).length S,E (T.plc (T.subs s.2) s.2)]) (v:=.agg #[E s.1,.slice sa (T.subs s.2).length S,E (T.plc (T.subs s.2) s.2)]) rfl (cellsU m (.head _) o) (.inl ⟨rS,rfl⟩) ?_;apply RG;simp only[go_sem,E];refine GH m [0] rfl jK rfl (F:=[]) rfl (jL e u L.ok.2 (fun t ht=>by have:=L.le t ht;omega) O O) ?_;rintro v Q U z y⟨B,rfl,p⟩;obtain⟨a2,c2,rfl⟩:=p.shape;simp only[Y]at z |-;apply RG;simp only[go_sem,E,P];rw[<-TG hs]at p |-;exact j (i+1,.slice a2 (Syn.joinAll f (g.take (i+1))).length c2) _ _ bi (by simp only[go_sem,Y,vC,E]) (by simp only[go_sem,Y,vC]) ⟨Q,B,rfl,z,D d y,w,p⟩
 .have q:decide ((i:Int)<(g.length:Int))=false:=by simp;omega
  have:i=g.length:=O;subst this;rw[dK]at e;apply RG;simp only[go_sem,q,E];exact az rfl m (r:=[_]) rfl d ⟨A1,rfl,e⟩
def sD(a:Option Addr)(c:Nat)(t:T):Value:=.slice a (T.subs t).length c
def rD(t:T):Value:=E (T.plc (T.subs t) t)
def bW.shape2{v:Value}{t:T}(h:bW I v t):∃a c,v=.agg #[sD a c t,rD t]:=h.shape
def uW(a:Value)(n:Nat)(x:Nat×Option Addr×Nat×T):St:=⟨sp 0 19 [(2,.p 2 0),(3,.p 3 0),(7,.v a),(8,.v (E n)),(9,.v (E x.1))],[⟨2,50,[.slice none 0 0,.int .i64 0]⟩,⟨3,50,[.slice x.2.1 (T.subs x.2.2.2).length x.2.2.1,.int .i64 (T.plc (T.subs x.2.2.2) x.2.2.2)]⟩]⟩
def N9(g:ad)(a:PH)(x:Nat×Option Addr×Nat×T)(H:PH):Prop:=∃I,H=U [I]/\Dj [I]/\a.le I/\x.1<=g.length/\x.2.2.2=gG (g.take x.1)/\bW I (.agg #[sD x.2.1 x.2.2.1 x.2.2.2,rD x.2.2.2]) x.2.2.2
def Oa{g:ad}{i:Nat}{s:Nat×T}(hs:g[i]?=some s):gG (g.take (i+1))=(gG (g.take i)).or s.2:=by
 have a:i<g.length:=by
  rcases aK i g.length with h|h
  .exact h
  .rw[fp h]at hs;cases hs
 rw[pH a];rw[aY a]at hs;rw[cX hs];unfold gG;rw[pD];rfl
def Ob{vg:Value}{g:ad}(K:bM I vg g)(S:g.length<2^40):Zu 78 #[vg] I [] fun v B G=>G=[]/\bW B v (gG g):=by
 intro hd;obtain⟨ga,gc,rfl,_⟩:=id K;refine fj func78 rfl (by simp[ntmps78]) fun w0=>?_;simp only[ntmps78,E];refine ai ?_;refine Zl rfl tK (tG _) ?_;rintro v H2⟨rfl,rfl⟩;apply RG;simp only[go_sem,E];refine bV (fun x=>g.length-x.1) (uW (.slice ga g.length gc) g.length) (N9 g I) (0,none,0,.lf false) (by simp only[go_sem,Y,uW,E]) (by simp only[go_sem,Y,uW,T.subs,T.vis,T.plc,bg,dO,dG]) ?_ ?_
 .exact⟨I,rfl,hd,aD _,aE _,rfl,pd I false⟩
 rintro⟨i,a,k,t⟩ H ⟨Q,rfl,f,d,hi,ht,hr⟩ e;simp only at hi ht hr;simp only[uW];have y:bM Q (.slice ga g.length gc) g:=Sl.le (R:=cK) (fun{I J c a} h k=>cK.le h k) K d;rcases aK i g.length with q|P
 .have m:decide ((i:Int)<(g.length:Int))=true:=by simp;omega
  have e1:=wrap64 (n:=i+1) O;have A:IntKind.i64.wrap ((i:Int)+1)=((i+1:Nat):Int):=by rw[<-e1];congr 1
  obtain⟨s,hs⟩:∃s,g[i]?=some s:=⟨_,aY q⟩;obtain⟨b,off,cs,rfl,z,j⟩:=y.load cK.len hs;obtain⟨sa,C,rfl,o⟩:=z.shape;apply RG;simp only[go_sem,m,E];refine⟨O,?_⟩;refine Zm (l:=[E s.1,.slice sa (T.subs s.2).length C,E (T.plc (T.subs s.2) s.2)]) (v:=.agg #[E s.1,.slice sa (T.subs s.2).length C,E (T.plc (T.subs s.2) s.2)]) rfl (cellsU f (.head _) j) (.inl ⟨rS,rfl⟩) ?_;apply RG;simp only[go_sem,E];refine GH f [] rfl qo rfl (F:=[]) rfl (qG hr o) ?_;rintro v B G w u⟨rfl,p⟩;obtain⟨a2,L,rfl⟩:=p.shape;simp only[Y]at w |-;apply RG;simp only[go_sem,E,A];exact e (i+1,a2,L,t.or s.2) _ _ bi (by simp only[go_sem,Y,uW,E]) (by simp only[go_sem,Y,uW]) ⟨B,rfl,w,D d u,q,by simp only;rw[Oa hs,ht],p⟩
 .have m:decide ((i:Int)<(g.length:Int))=false:=by simp;omega
  have:i=g.length:=O;subst this;rw[dK]at ht;subst ht;apply RG;simp only[go_sem,m,E];exact az rfl f (r:=[.agg #[sD a k (gG g),rD (gG g)]]) (by simp only[results78,go_sem,E,sD,rD]) d ⟨rfl,hr⟩
def cU(I:PH)(c:Zo)(t:Tok):Prop:=∃b d line a k,c=[.int .u8 t.kind,.string ⟨⟨t.text⟩⟩,b,.int .i64 d,.int .i64 line,sD a k t.cond,rD t.cond]/\one b=true/\bW I (.agg #[sD a k t.cond,rD t.cond]) t.cond
def cU.le{J:PH}{c:Zo}{t:Tok}(h:cU I c t)(b:I.le J):cU J c t:=by obtain⟨p,f,l,a,k,e,h1,h2⟩:=h;exact⟨p,f,l,a,k,e,h1,bW.le h2 b⟩
def cU.len(c:Zo)(t:Tok)(h:cU I c t):c.length=7:=by obtain⟨p,f,l,a,k,e,_⟩:=h;rw[e];rfl
def lP(_:PH)(c:Zo)(t:Tok):Prop:=c=[.bool t.fits]
def lP.len(c:Zo)(t:Tok)(h:lP I c t):c.length=1:=by rw[show c=_ from h];rfl
structure iG(I:PH)(Z:Zs)(lv fv:Value):Prop where
 tok:Sl cU I lv Z
 fit:Sl lP I fv Z
 len:Z.length<=16384
 ok:bB Z
def iG.le{J:PH}{Z:Zs}{lv fv:Value}(h:iG I Z lv fv)(b:I.le J):iG J Z lv fv:=
 ⟨Sl.le (R:=cU) (fun{I J c a} h k=>cU.le h k) h.tok b,Sl.le (R:=lP) (fun{I J c a} h k=>h) h.fit b,h.len,h.ok⟩
def bS(lv fv ov dv:Value)(o:Nat):Obj:=.cells #[lv,fv,ov,E o,dv] 161 (0,0)
def X2{a n:Nat}(h:decide ((a:Int)<16384)=false)(b:n<=16384)(ha:a<=n):a=n:=by have:=zy h;omega
def Ms{pb:Nat}{Z:Zs}{lv fv ov dv:Value}{o a:Nat}(h:iG I Z lv fv)(ha:a<=Z.length):
  Zu 209 #[pt pb,E a] I [sg pb (bS lv fv ov dv o)] fun v f d=>d=[sg pb (bS lv fv ov dv o)]/\f=I/\v=.agg #[.slice none 0 0,E 0]:=by
 intro hd;have e:=h.len;obtain⟨la,g,rfl,_⟩:=h.tok;refine fj func209 rfl (by simp[ntmps209]) fun w0=>?_;simp only[ntmps209,E,pt];cases h6:decide ((a:Int)<16384)
 .apply cE 10;simp only[go_sem,h6];have c:a=Z.length:=X2 h6 e ha;have b:decide ((a:Int)>=(Z.length:Int))=true:=by simp;omega
  refine ai ?_;refine Zm (l:=[_]) rfl (cellsU hd (.tail _ (.head _)) (dz (by simp[bS]) rfl)) (.inr ⟨lU,rfl⟩) ?_;refine dB b ?_;refine Zl rfl tK (tG _) ?_;rintro v H2⟨rfl,rfl⟩;apply RG;simp only[go_sem,E];exact az rfl hd (r:=[.agg #[.slice none 0 0,E 0]]) (by simp only[results209,go_sem,E]) (aD _) ⟨rfl,rfl,rfl⟩
 .apply cE 10;simp only[go_sem,h6];refine ai ?_;refine Zl rfl tK (tG _) ?_;rintro v H2⟨rfl,rfl⟩;apply RG;simp only[go_sem,E];exact az rfl hd (r:=[.agg #[.slice none 0 0,E 0]]) (by simp only[results209,go_sem,E]) (aD _) ⟨rfl,rfl,rfl⟩
end Go.Proofs.YtfaclfkpnmcmlaaGreatDoor
namespace Go.Sx
open Go
def kH:List (Nat×SV)->Nat->SV
 | [],_=>.u
 |(k,v)::l,t=>if k=t then v else kH l t
def dn(n:Nat)(L:List (Nat×SV)):List SV:=(List.range n).map (kH L)
variable{L:List (Nat×SV)}
theorem Qr{n:Nat}{t:Nat}(h:t<n):jJ (dn n L) t=kH L t:=by rw[se];unfold dn;simp[h]
theorem WR(n:Nat)(L:List (Nat×SV))(d:Nat)(y:SV):gY (dn n L) d y=dn n ((d,y)::L):=by
 apply List.ext_getElem?;intro i;rw[uf];unfold dn;simp only[eO,wQ,iZ];by_cases e:d=i
 .subst e;by_cases h:d<n
  .simp[h,kH]
  .simp[h]
 .simp only[ab e];by_cases h:i<n
  .simp[h,kH,e]
  .simp[h]
def Ka (f : SV → SV) (hf : f .u = .u) (n : Nat) (L : List (Nat × SV)) : (dn n L).map f = dn n (L.map fun p => (p.1, f p.2)) := by
  unfold dn
  rw [pF]
  apply nu
  intro t _
  simp only [Function.comp]
  induction L with
  | nil => exact hf
  | cons p l ih => obtain ⟨k, v⟩ := p; simp only [kH, iq]; split
                   · rfl
                   · exact ih
theorem O9(d n:Nat)(L:List (Nat×SV)):(dn n L).map (dl d)=dn n (L.map fun p=>(p.1,dl d p.2)):=Ka _ rfl _ _
theorem Wf(k b n:Nat)(L:List (Nat×SV)):(dn n L).map (iR k b)=dn n (L.map fun p=>(p.1,iR k b p.2)):=Ka _ rfl _ _
def pR:List (Nat×SV)->List (Nat×SV)->Prop
 | [],_=>True
 |(k,v)::r,L=>kH L k=v/\pR r L
def L3 {l m : List SV} (hl : l.length = m.length) (h : ∀ (i : Nat) (x : SV), l[i]? = some x → x = .u ∨ m[i]? = some x) : iT l m := by
  induction l generalizing m with
  | nil => cases m with
    | nil => trivial
    | cons y m => simp at hl
  | cons x l ih => cases m with
    | nil => simp at hl
    | cons y m =>
      have ht := ih (m := m) (by simpa using hl) fun i z hz => by simpa using h (i + 1) z (by simpa using hz)
      have h0 := h 0 x rfl
      cases x with
      | u => exact ht
      | v z => exact ⟨by rcases h0 with h0 | h0
                         · cases h0
                         · simpa using h0.symm, ht⟩
      | p a b => exact ⟨by rcases h0 with h0 | h0
                           · cases h0
                           · simpa using h0.symm, ht⟩
def pR.get{L':List (Nat×SV)}(h:pR L' L)(t:Nat):kH L' t=.u\/kH L' t=kH L t:=by
 induction L' with
 |nil=>exact .inl rfl
 |cons p r a=>
  obtain⟨k,v⟩:=p;simp only[kH];split
  .rename_i e;subst e;exact .inr h.1.symm
  .exact a h.2
def fE{n:Nat}{L':List (Nat×SV)}(h:pR L' L):iT (dn n L') (dn n L):=by
 refine L3 (by simp[dn]) fun i x a=>?_;unfold dn at a |-;simp only[iZ]at a |-;cases hr:(List.range n)[i]? with
 |none=>rw[hr]at a;cases a
 |some j=>
  rw[hr]at a;simp only[df,bf]at a |-;rcases h.get j with e|e
  .exact .inl (by rw[<-a];exact e)
  .exact .inr (by rw[<-e];exact a)
def pZ:Nat->Zo->List (Nat×SV)
 |_,[]=>[]
 |i,v::l=>(i,.v v)::pZ (i+1) l
def Im:∀(a:Zo) (i t:Nat),kH (pZ i a) t=if i<=t then (match a[t-i]? with|some v=>.v v|none=>.u)else .u
 | [],i,t=>by simp[pZ,kH]
 |v::l,i,t=>by
  simp only[pZ,kH,Im l (i+1) t];by_cases e:i=t
  .subst e;simp
  .rw[ab e];by_cases h:i<=t
   .rw[ah h,ah O];have:t-i=(t-(i+1))+1:=O;rw[this,wM]
   .rw[ab h,ab O]
def XE(args:Zo)(n:Nat)(h:args.length<=n):iT (dn n (pZ 0 args)) (sm args n):=by
 refine L3 (by simp[dn,sm];omega) fun i x a=>?_;unfold dn at a;simp only[iZ]at a;by_cases hi:i<n
 .rw[List.getElem?_range hi]at a;simp only[df,bf,Im,aE,cu,Nat.sub_zero]at a;cases hv:args[i]? with
  |none=>rw[hv]at a;exact .inl a.symm
  |some v=>
   rw[hv]at a
   right
   unfold sm;have b:i<args.length:=by
    rcases aK i args.length with h|h
    .exact h
    .rw[fp h]at hv;cases hv
   rw[wK (by simpa using b),iZ,hv];simpa using a
 .rw[fp (by simpa using hi)]at a;cases a
variable{Φ:Value->PH->Prop}{args:Array Value}{fn:Func}
def CL{P:Program}{f:FuncId}{c:Code}{H:PH}(hf:P.funcs[f]?=some fn)(hb:fn.body=some c)(a:args.toList.length<=fn.ntmps)
  (h:∀w0,RC ⟨P,f,fn,hf,H,w0,Φ⟩ (.st [.code c]) ⟨dn fn.ntmps (pZ 0 args.toList),[]⟩ H):bh P f args H Φ:=
 fj hf hb a fun w0=>zL (XE _ _ a) (by simp[kS]) (h w0)
def Zk{P:Program}{f:FuncId}{c:Code}{H:PH}(hf:P.funcs[f]?=some fn)(a:(fn.body,decide (args.toList.length<=fn.ntmps))=(some c,true))
  (h:∀w0,RC ⟨P,f,fn,hf,H,w0,Φ⟩ (.st [.code c]) ⟨dn fn.ntmps (pZ 0 args.toList),[]⟩ H):bh P f args H Φ:=by
 simp only[gN,dE]at a;exact CL hf a.1 a.2 h
attribute [go_sem] kH pR Qr WR O9 Wf pZ
end Go.Sx
namespace Go.Proofs.YtfaclfkpnmcmlaaGreatDoor
open Go Go.Sx Dg Syn
def bJ{C:Cx}{σ:St}{H:PH}{c:Cf}{Q:Prop}(h:Q)(e:aA C H (fS C.P 500 c σ [])=Q:=by simp only[go_sem,E];rfl):RC C c σ H:=jV 500 (e.mpr h)
def bU{C:Cx}{k:List Item}{σ:St}{H:PH}{ol:Zq}{fr:cw}{str:cC}{l:List (Nat×Oper)}{Q:Prop}(h:Q)(e:pP C ol fr str k H (ig C.P ol fr.k str.k fr.kp l σ [])=Q:=by simp only[go_sem,E];rfl):RD C ol fr str l k σ H:=bo (e.mpr h)
def dL{C:Cx}{σ:St}{H:PH}{c:Cf}{Q:Prop}(h:Q)(e:aA C H (fS C.P 500 c σ [])=Q:=by simp only[go_sem,E,pt];rfl):RC C c σ H:=jV 500 (e.mpr h)
def lh{C:Cx}{k:List Item}{σ:St}{H:PH}{ol:Zq}{fr:cw}{str:cC}{l:List (Nat×Oper)}{Q:Prop}(h:Q)(e:pP C ol fr str k H (ig C.P ol fr.k str.k fr.kp l σ [])=Q:=by simp only[go_sem,E,pt];rfl):RD C ol fr str l k σ H:=bo (e.mpr h)
def aZ{C:Cx}{σ:St}{H:PH}{c:Cf}{Q:Prop}(h:Q)(e:aA C H (fS C.P 500 c σ [])=Q:=by simp only[go_sem,E,pt,sD,rD];rfl):RC C c σ H:=jV 500 (e.mpr h)
def ft{C:Cx}{k:List Item}{σ:St}{H:PH}{ol:Zq}{fr:cw}{str:cC}{l:List (Nat×Oper)}{Q:Prop}(h:Q)(e:pP C ol fr str k H (ig C.P ol fr.k str.k fr.kp l σ [])=Q:=by simp only[go_sem,E,pt,sD,rD];rfl):RD C ol fr str l k σ H:=bo (e.mpr h)
def bK{C:Cx}{σ:St}{H:PH}{c:Cf}{Q:Prop}(h:Q)(e:aA C H (fS C.P 500 c σ [])=Q:=by simp only[go_sem,E,sD,rD];rfl):RC C c σ H:=jV 500 (e.mpr h)
def cz{C:Cx}{k:List Item}{σ:St}{H:PH}{ol:Zq}{fr:cw}{str:cC}{l:List (Nat×Oper)}{Q:Prop}(h:Q)(e:pP C ol fr str k H (ig C.P ol fr.k str.k fr.kp l σ [])=Q:=by simp only[go_sem,E,sD,rD];rfl):RD C ol fr str l k σ H:=bo (e.mpr h)
def rJ{C:Cx}{σ:St}{H:PH}{c:Cf}{Q:Prop}(h:Q)(e:aA C H (fS C.P 500 c σ [])=Q:=by simp only[go_sem,pt];rfl):RC C c σ H:=jV 500 (e.mpr h)
def pM{C:Cx}{k:List Item}{σ:St}{H:PH}{ol:Zq}{fr:cw}{str:cC}{l:List (Nat×Oper)}{Q:Prop}(h:Q)(e:pP C ol fr str k H (ig C.P ol fr.k str.k fr.kp l σ [])=Q:=by simp only[go_sem,pt];rfl):RD C ol fr str l k σ H:=bo (e.mpr h)
section
variable {C:Cx} {σ:St} {H:PH} {c:Cf} {k:List Item} {ol:Zq} {fr:cw} {str:cC} {l:List (Nat×Oper)} {Q p q r s t o:Prop}
def bd(x:p)(h:Q)(e:p->jS C c σ H Q:=by intro x;simp only[jS,go_sem,E,x];rfl):RC C c σ H:=jV 500 ((e x).mpr h)
def bQ(x:p)(h:Q)(e:p->ro C ol fr str l k σ H Q:=by intro x;simp only[ro,go_sem,E,x];rfl):RD C ol fr str l k σ H:=bo ((e x).mpr h)
def d6(x:p)(y:q)(h:Q)(e:p->q->jS C c σ H Q:=by intro x y;simp only[jS,go_sem,E,x,y];rfl):RC C c σ H:=jV 500 ((e x y).mpr h)
def lg(x:p)(y:q)(h:Q)(e:p->q->ro C ol fr str l k σ H Q:=by intro x y;simp only[ro,go_sem,E,x,y];rfl):RD C ol fr str l k σ H:=bo ((e x y).mpr h)
def nB(x:p)(y:q)(z:r)(h:Q)(e:p->q->r->jS C c σ H Q:=by intro x y z;simp only[jS,go_sem,E,x,y,z];rfl):RC C c σ H:=jV 500 ((e x y z).mpr h)
def ge(x:p)(y:q)(z:r)(u:s)(h:Q)(e:p->q->r->s->ro C ol fr str l k σ H Q:=by intro x y z u;simp only[ro,go_sem,E,x,y,z,u];rfl):RD C ol fr str l k σ H:=bo ((e x y z u).mpr h)
def eB(x:p)(h:Q)(e:p->jS C c σ H Q:=by intro x;simp only[jS,go_sem,E,pt,x];rfl):RC C c σ H:=jV 500 ((e x).mpr h)
def dR(x:p)(h:Q)(e:p->jS C c σ H Q:=by intro x;simp only[jS,go_sem,E,pt,sD,rD,x];rfl):RC C c σ H:=jV 500 ((e x).mpr h)
def dm(x:p)(h:Q)(e:p->jS C c σ H Q:=by intro x;simp only[jS,go_sem,E,sD,rD,x];rfl):RC C c σ H:=jV 500 ((e x).mpr h)
def ny(x:p)(h:Q)(e:p->ro C ol fr str l k σ H Q:=by intro x;simp only[ro,go_sem,E,sD,rD,x];rfl):RD C ol fr str l k σ H:=bo ((e x).mpr h)
end
variable{L:List (Nat×SV)}
def al{n:Nat}{K:List (Nat×SV)}(h:pR K L:=by simp only[go_sem,Y,E]):iT (dn n K) (dn n L):=fE h
def cN{n:Nat}{K:List (Nat×SV)}(h:pR K L:=by simp only[go_sem,Y,E,pt]):iT (dn n K) (dn n L):=fE h
def t8{n:Nat}{K:List (Nat×SV)}(h:pR K L:=by simp only[go_sem,Y,E,pt,sD,rD]):iT (dn n K) (dn n L):=fE h
def ub{n:Nat}{K:List (Nat×SV)}(h:pR K L:=by simp only[go_sem,Y,E,sD,rD]):iT (dn n K) (dn n L):=fE h
def aP(n:Nat){P:Program}{f:FuncId}{fn:Func}{c:Code}{args:Array Value}{H:PH}{Φ:Value->PH->Prop}(hf:P.funcs[f]?=some fn)
  (h:∀w0,RC ⟨P,f,fn,hf,H,w0,Φ⟩ (.st [.code c]) ⟨dn n (pZ 0 args.toList),[]⟩ H) (a:(fn.body,fn.ntmps,decide (args.toList.length<=n))=(some c,n,true):=by exact rfl):bh P f args H Φ:=by
 simp only[gN,dE]at a;obtain⟨h1,rfl,h3⟩:=a;exact CL hf h1 h3 h
def bG{C:Cx}{k:List Item}{σ:St}{H:PH}{id:Nat}{ops:Array Oper}(κ fr str:Zp)
  (h:RD C ops.toList ⟨fr,[],PH.emp,[],[]⟩ ⟨str,[],[]⟩ (pick ops.toList κ) k σ H) (hm:C.P.follows .mixedOrders=true:=by exact mixed) (a:qD ops.toList κ ⟨fr,[],PH.emp,[],[]⟩ ⟨str,[],[]⟩=true:=by exact rfl) (hs:pm σ.bx=true:=by exact rfl):RC C (.st (.code (.region id ops true)::k)) σ H:=iH hm κ fr str a hs h
def qm:ay prog 198:=⟨_,func198,rfl,rfl⟩
def dM(I:PH)(c:Zo)(h:aj):Prop:=∃a k,c=[E h.at',sD a k h.cond,rD h.cond,.int .u8 h.kind,.string ⟨⟨h.text⟩⟩]/\bW I (.agg #[sD a k h.cond,rD h.cond]) h.cond
variable{I:PH}
def dM.le{J:PH}{c:Zo}{h:aj}(k:dM I c h)(d:I.le J):dM J c h:=by obtain⟨a,b,e,r⟩:=k;exact⟨a,b,e,bW.le r d⟩
def dM.len(c:Zo)(h:aj)(k:dM I c h):c.length=5:=by obtain⟨a,b,e,_⟩:=k;rw[e];rfl
abbrev fM(I:PH)(v:Value)(l:List aj):Prop:=Sl dM I v l
def Hb{d:T}(h:d.ok 0):d.and ff=ff:=T.ext (T.and_ok h (show ff.ok 0 from trivial)) (show ff.ok 0 from trivial) fun c=>by rw[T.and_at h (show ff.ok 0 from trivial)];simp[T.at']
def Hc{d:T}(h:d.ok 0):d.and tt=d:=T.ext (T.and_ok h (show tt.ok 0 from trivial)) h fun c=>by rw[T.and_at h (show tt.ok 0 from trivial)];simp[T.at']
def xR(pb:Nat)(vf:Value)(n:Nat)(x:Nat×Value):St:=⟨dn 153 [(0,.v (pt pb)),(5,.v x.2),(16,.v vf),(17,.v (E n)),(18,.v (E x.1))],[]⟩
def Sc(pb:Nat)(a:Obj)(Z:Zs)(f:ad)(b:PH)(x:Nat×Value)(H:PH):Prop:=
 ∃I A,H=U [I,sg pb a,A]/\Dj [I,sg pb a,A]/\b.le I/\x.1<=f.length/\cV I A x.2 (lq Z f x.1)
def AF(pb:Nat)(vf:Value)(n i:Nat)(x:Nat×Option Addr×Nat×T×Value):St:=⟨dn 153 [(0,.v (pt pb)),(5,.v x.2.2.2.2),(8,.p 8 0),(9,.v (E x.1)),(16,.v vf),(17,.v (E n)),(18,.v (E i))],[⟨8,50,[.slice x.2.1 (T.subs x.2.2.2.1).length x.2.2.1,.int .i64 (T.plc (T.subs x.2.2.2.1) x.2.2.2.1)]⟩]⟩
def Sd(pb:Nat)(b:Obj)(Z:Zs)(a:ad)(d:PH)(x:Nat×Option Addr×Nat×T×Value)(H:PH):Prop:=
 ∃I A cur,H=U [I,sg pb b,A]/\Dj [I,sg pb b,A]/\d.le I/\x.1<=Z.length/\cV I A x.2.2.2.2 cur/\FN Z.length cur/\bW I (.agg #[sD x.2.1 x.2.2.1 x.2.2.2.1,rD x.2.2.2.1]) x.2.2.2.1/\gK cur (Z.drop x.1) x.1 x.2.2.2.1=a
def vu(pb:Nat)(a:Value)(n:Nat)(x:Nat×Value):St:=⟨dn 153 [(0,.v (pt pb)),(10,.v x.2),(73,.v a),(74,.v (E n)),(75,.v (E x.1))],[]⟩
def Se(pb:Nat)(b:Obj)(Z:Zs)(a:ad)(d:PH)(x:Nat×Value)(H:PH):Prop:=
 ∃I B,H=U [I,sg pb b,B]/\Dj [I,sg pb b,B]/\d.le I/\x.1<=a.length/\Ow dM 227 5 I B x.2 ((a.take x.1).map (fu Z))
theorem qr{pb:Nat}{Z:Zs}{lv fv ov dv vf:Value}{o:Nat}{f:ad}(h:iG I Z lv fv)(hf:bM I vf f)(fn:FN Z.length f):
  Zu 198 #[pt pb,vf] I [sg pb (bS lv fv ov dv o)] fun v I2 qs=>qs=[sg pb (bS lv fv ov dv o)]/\fM I2 v (co Z f):=by
 intro hd;have hl:=h.len;have fl:=fn.len;obtain⟨la,lc,rfl,_⟩:=id h.tok;obtain⟨fa,fc,rfl,_⟩:=id h.fit;obtain⟨ga,gc,rfl,_⟩:=id hf;refine Zk func198 rfl fun w0=>?_;simp only[ntmps198,E,pt];refine ai ?_;refine de hd fun eg=>?_;refine uI (c:=.st _) eg [1,0] rfl fun d5=>?_;simp only[gA,zq,zp]at d5 |-;refine bV (fun x=>f.length-x.1) (xR pb (.slice ga f.length gc) f.length) (Sc pb (bS (.slice la Z.length lc) (.slice fa Z.length fc) ov dv o) Z f I) (0,.slice none 0 0) (fE (by simp only[go_sem,Y,E,pt])) (by simp only[go_sem,Y,xR]) ?_ ?_
 .exact⟨I,PH.no,rfl,d5,aD _,aE _,Ow.nil _ _ _ _⟩
 rintro⟨i,vat⟩ H ⟨I1,A1,rfl,dT,X,hi,c0⟩ a7;simp only at hi c0;simp only[xR];have fA:=Dq h.ok fn i hi;obtain⟨aa,ac,rfl⟩:=c0.shape;have ee:bM I1 (.slice ga f.length gc) f:=Sl.le (R:=cK) (fun{I J c a} h k=>cK.le h k) hf X;rcases aK i f.length with S|ec
 .have d2:decide ((i:Int)<(f.length:Int))=true:=by simp;omega
  have e1:=wrap64 (n:=i+1) O;have cm:IntKind.i64.wrap ((i:Int)+1)=((i+1:Nat):Int):=by rw[<-e1];congr 1
  obtain⟨s,hs⟩:∃s,f[i]?=some s:=⟨_,aY S⟩;have c2:=db hs;obtain⟨b,off,cs,rfl,d0,a1⟩:=ee.load cK.len hs;obtain⟨sa,sk,rfl,a3⟩:=d0.shape;apply RG;simp only[go_sem,d2,E,pt];refine⟨O,?_⟩;refine Zm (l:=[E s.1,.slice sa (T.subs s.2).length sk,E (T.plc (T.subs s.2) s.2)]) (v:=.agg #[E s.1,.slice sa (T.subs s.2).length sk,E (T.plc (T.subs s.2) s.2)]) rfl (cellsU dT (.head _) a1) (.inl ⟨rS,rfl⟩) ?_;apply RG;simp only[go_sem,E,pt];refine bV (fun x=>Z.length-x.1) (AF pb (.slice (some ⟨b,off,none⟩) f.length gc) f.length i) (Sd pb (bS (.slice la Z.length lc) (.slice fa Z.length fc) ov dv o) Z (lq Z f (i+1)) I1) (s.1,sa,sk,s.2,.slice aa (lq Z f i).length ac) (fE (by simp only[go_sem,Y,E,pt])) (by simp only[go_sem,Y,AF]) ?_ ?_
  .exact⟨I1,A1,_,rfl,dT,aD _,fn.le s c2,c0,fA,a3,(Hh hs).symm⟩
  rintro⟨j,da,dk,d,vat⟩ H ⟨I2,A2,cur,rfl,L,a5,hj,cA,fC,b7,b1⟩ b3;simp only at hj cA b7 b1;simp only[AF];obtain⟨ba,bc,rfl⟩:=cA.shape;have er:=fC.len;have dw:=b7.1;have h2:=h.le (D X a5);have e2:=wrap64 (n:=j+1) O;have el:IntKind.i64.wrap ((j:Int)+1)=((j+1:Nat):Int):=by rw[<-e2];congr 1
  rcases aK j Z.length with c3|eq
  .have c1:decide ((j:Int)<(Z.length:Int))=true:=by simp;omega
   apply RG;simp only[go_sem,c1,E,pt];refine Zm (l:=[_]) rfl (cellsU L (.tail _ (.head _)) (dz (by simp[bS]) rfl)) (.inr ⟨lU,rfl⟩) ?_;apply RG;simp only[go_sem,c1,E,pt];refine Zl rfl jj (ji b7) ?_;rintro v H2⟨rfl,rfl⟩;cases U:decide (d=.lf false)
   .have dx:d≠ff:=by simpa using U
    obtain⟨t,ht⟩:∃t,Z[j]?=some t:=⟨_,aY c3⟩;have c7:=h.ok t (db ht);have cx:Z.drop j=t::Z.drop (j+1):=by rw[jz c3];rw[aY c3]at ht;rw[cX ht]
    obtain⟨tb,toff,tc,rfl,c8,N⟩:=h2.tok.load cU.len ht;obtain⟨path,file,line,ta,tk,rfl,cn,c6⟩:=c8;have an:=N.sub 5 2 ao;simp only[mq,io,mB,mC]at an;rw[cx,gK,ab dx]at b1;apply RG;simp only[go_sem,U,E,pt];refine iH mixed [0,1,2,3,4,5,6,7,8,9,10,11,12,13] [6,10] [] rfl rfl ?_;apply bo;simp only[go_sem,E,pt];refine Zn (l:=[_]) rfl (cellsU L (.tail _ (.head _)) (dz (by simp[bS]) rfl)) (.inr ⟨lU,rfl⟩) ?_;apply bo;simp only[go_sem,E,pt];refine⟨O,?_⟩;refine Zn (l:=[_,_]) (v:=.agg #[_,_]) rfl (cellsU L (.head _) an) (.inl ⟨jG,rfl⟩) ?_;apply bo;simp only[go_sem,E,pt,sD,rD];refine cH L [0,1] [] [_,_] rfl ls rfl (ln b7 c6) ?_;rintro v I3 qs V u⟨rfl,ci⟩;obtain⟨xa,xc,rfl⟩:=ci.shape;simp only[aQ,aU]at V |-;apply bo;simp only[go_sem,E,pt];refine cH V [1,0] [A2] [_] rfl jK rfl (jL (a:=j) (cV.le' cA u) ci fC.ok.2 (fun t ht=>by have:=fC.le t ht;omega) O O) ?_;rintro v I4 qs bb a4⟨A3,rfl,W⟩;obtain⟨ca,cc,rfl⟩:=W.shape;simp only[aU,aQ]at bb |-;apply bo;simp only[go_sem,E,pt];refine i8 bb [1,0] fun cl=>?_;apply aN;have c5:=c6.le (D u a4);have b0:=an.le (D u a4);have ds:=b7.le (D u a4);apply RG;simp only[go_sem,E,pt];refine iH mixed [0,1,2,3,4,5,6,7,8,9,10,11] [4,8] [] rfl rfl ?_;apply bo;simp only[go_sem,E,pt];refine Zn (l:=[_]) rfl (cellsU cl (.tail _ (.head _)) (dz (by simp[bS]) rfl)) (.inr ⟨lU,rfl⟩) ?_;apply bo;simp only[go_sem,E,pt];refine⟨O,?_⟩;refine Zn (l:=[_,_]) (v:=.agg #[_,_]) rfl (cellsU cl (.head _) b0) (.inl ⟨jG,rfl⟩) ?_;apply bo;simp only[go_sem,E,pt,sD,rD]
    refine cH cl [0,1] [] [_,_] rfl qp rfl (qA c5) ?_;rintro v I5 qs cj F⟨rfl,cf⟩;obtain⟨ya,yc,rfl⟩:=cf.shape;simp only[aQ,aU]at cj |-;apply bo;simp only[go_sem,E,pt];refine cH cj [0,1] [] [_,_] rfl ls rfl (ln (ds.le F) cf) ?_;rintro v I6 qs a9 b4⟨rfl,P⟩;obtain⟨za,zc,rfl⟩:=P.shape;simp only[aQ,aU]at a9 |-;apply bo;simp only[go_sem,E,pt];apply aN;apply RG;simp only[go_sem,E,pt,el];have fC2:FN Z.length (Syn.join cur j (d.and t.cond)):=fC.join O (T.and_ok dw c7);exact b3 (j+1,za,zc,d.and t.cond.not,.slice ca (Syn.join cur j (d.and t.cond)).length cc) _ _ bi (fE (by simp only[go_sem,Y,E,pt])) (by simp only[go_sem,Y,AF]) ⟨I6,A3,_,rfl,a9,D a5 (D u (D a4 (D F b4))),c3,cV.le' W (D F b4),fC2,P,b1⟩
   .have ef:d=ff:=by simpa using U
    subst ef;have ap:Syn.join cur Z.length ff=lq Z f (i+1):=by rw[LS]at b1;rw[<-b1];simp[Syn.join]
    apply RG;simp only[go_sem,U,E,pt];refine iH mixed [0,1,2,3,4,5,6,7,8] [4] [] rfl rfl ?_;apply bo;simp only[go_sem,E,pt];refine Zn (l:=[_]) rfl (cellsU L (.tail _ (.head _)) (dz (by simp[bS]) rfl)) (.inr ⟨lU,rfl⟩) ?_;apply bo;simp only[go_sem,E,pt];refine cH L [1,0] [A2] [_] rfl jK rfl (jL (a:=Z.length) cA b7 fC.ok.2 (fun t ht=>by have:=fC.le t ht;omega) O O) ?_;rintro v I3 qs V u⟨A3,rfl,W⟩;obtain⟨ca,cc,rfl⟩:=W.shape;simp only[aU,aQ]at V |-;apply bo;simp only[go_sem,E,pt];refine i8 V [1,0] fun bb=>?_;apply aN;apply RG;simp only[go_sem,E,pt,cm];rw[ap]at W |-;exact a7 (i+1,.slice ca (lq Z f (i+1)).length cc) _ _ bi (fE (by simp only[go_sem,Y,E,pt])) (by simp only[go_sem,Y,xR]) ⟨I3,A3,rfl,bb,D X (D a5 u),S,W⟩
  .have ea:j=Z.length:=by omega
   subst ea;have c1:decide ((Z.length:Int)<(Z.length:Int))=false:=ao;have ap:Syn.join cur Z.length d=lq Z f (i+1):=by rw[js]at b1;exact b1
   apply RG;simp only[go_sem,c1,E,pt];refine Zm (l:=[_]) rfl (cellsU L (.tail _ (.head _)) (dz (by simp[bS]) rfl)) (.inr ⟨lU,rfl⟩) ?_;apply RG;simp only[go_sem,c1,E,pt];refine iH mixed [0,1,2,3,4,5,6,7,8] [4] [] rfl rfl ?_;apply bo;simp only[go_sem,E,pt];refine Zn (l:=[_]) rfl (cellsU L (.tail _ (.head _)) (dz (by simp[bS]) rfl)) (.inr ⟨lU,rfl⟩) ?_;apply bo;simp only[go_sem,E,pt];refine cH L [1,0] [A2] [_] rfl jK rfl (jL (a:=Z.length) cA b7 fC.ok.2 (fun t ht=>by have:=fC.le t ht;omega) O O) ?_;rintro v I3 qs V u⟨A3,rfl,W⟩;obtain⟨ca,cc,rfl⟩:=W.shape;simp only[aU,aQ]at V |-;apply bo;simp only[go_sem,E,pt];refine i8 V [1,0] fun bb=>?_;apply aN;apply RG;simp only[go_sem,E,pt,cm];rw[ap]at W |-;exact a7 (i+1,.slice ca (lq Z f (i+1)).length cc) _ _ bi (fE (by simp only[go_sem,Y,E,pt])) (by simp only[go_sem,Y,xR]) ⟨I3,A3,rfl,bb,D X (D a5 u),S,W⟩
 .have dc:i=f.length:=by omega
  subst dc;have d2:decide ((f.length:Int)<(f.length:Int))=false:=ao;have eh:lq Z f f.length=lF Z f:=by unfold lq lF;rw[dK]
  rw[eh]at c0 fA |-;apply RG;simp only[go_sem,d2,E,pt];refine uI (c:=.st _) dT [1,0] rfl fun L=>?_;simp only[gA,zq,zp]at L |-;refine aJ (c:=.st _) L fun I2 V u ek=>?_;refine de (c:=.st _) V fun bb=>?_;refine uI (c:=.st _) bb [1,0] rfl fun cl=>?_;simp only[gA,zq,zp]at cl |-;have hS:bM I2 (.slice aa (lF Z f).length ac) (lF Z f):=i6 (R:=cK) (fun{I J c a} h k=>cK.le h k) c0 u ek;obtain⟨a,ha⟩:∃a,a=lF Z f:=⟨_,rfl⟩;rw[<-ha]at hS fA |-;have es:=fA.len;have b5:co Z f=a.map (fu Z):=by rw[tN h.ok fn.ok,ha]
  refine bV (fun x=>a.length-x.1) (vu pb (.slice aa a.length ac) a.length) (Se pb (bS (.slice la Z.length lc) (.slice fa Z.length fc) ov dv o) Z a I2) (0,.slice none 0 0) (fE (by simp only[go_sem,Y,E,pt])) (by simp only[go_sem,Y,vu]) ?_ ?_
  .exact⟨I2,PH.no,rfl,cl,aD _,aE _,Ow.nil _ _ _ _⟩
  rintro⟨i,vo⟩ H ⟨I3,B,rfl,cj,F,hi,hB⟩ am;simp only at hi hB;simp only[vu];obtain⟨oa,oc,rfl⟩:=hB.shape;have b2:((a.take i).map (fu Z)).length=i:=by simp;omega
  rw[b2]at hB |-;have ei:bM I3 (.slice aa a.length ac) a:=Sl.le (R:=cK) (fun{I J c a} h k=>cK.le h k) hS F;have h3:=h.le (D X (D u F));rcases aK i a.length with S|ec
  .have d1:decide ((i:Int)<(a.length:Int))=true:=by simp;omega
   have e1:=wrap64 (n:=i+1) O;have cm:IntKind.i64.wrap ((i:Int)+1)=((i+1:Nat):Int):=by rw[<-e1];congr 1
   obtain⟨s,hs⟩:∃s,a[i]?=some s:=⟨_,aY S⟩;have c2:=db hs;obtain⟨b,off,cs,rfl,d0,a1⟩:=ei.load cK.len hs;obtain⟨sa,sk,rfl,a3⟩:=d0.shape;have sle:=fA.le s c2;obtain⟨sok,sne⟩:=fA.ok.1 s c2;have cb:(a.take (i+1)).map (fu Z)=(a.take i).map (fu Z)++[fu Z s]:=by rw[pH S,mw];rw[aY S]at hs;rw[cX hs];rfl
   apply RG;simp only[go_sem,d1,E,pt];refine⟨O,?_⟩;refine Zm (l:=[E s.1,.slice sa (T.subs s.2).length sk,E (T.plc (T.subs s.2) s.2)]) (v:=.agg #[E s.1,.slice sa (T.subs s.2).length sk,E (T.plc (T.subs s.2) s.2)]) rfl (cellsU cj (.head _) a1) (.inl ⟨rS,rfl⟩) ?_;apply RG;simp only[go_sem,E,pt];refine av cj [0,1] [_] [B] rfl IG rfl (Ms h3 sle) ?_;rintro v I4 qs a9 b4⟨rfl,rfl,rfl⟩;simp only[aU,aQ]at a9 |-;apply RG;simp only[go_sem,E,pt];refine av a9 [0,1] [] [_,_] rfl ls rfl (ln a3 (pd I4 false)) ?_;rintro v I5 qs c4 y⟨rfl,ci⟩;rw[Hb sok]at ci;obtain⟨xa,xc,rfl⟩:=ci.shape;simp only[aU,aQ]at c4 |-;apply RG;simp only[go_sem,E,pt];refine Zl rfl jj (ji ci) ?_;rintro v H2⟨rfl,rfl⟩;apply RG;simp only[go_sem,E,pt];refine iH mixed [8,0,1,2,3,4,5,6,7,9] [] [] rfl rfl ?_;apply bo;simp only[go_sem,E,pt];refine cH c4 [0,1] [] [_,_] rfl qp rfl (qA (pd I5 false)) ?_;rintro v I6 qs cy z⟨rfl,cf⟩;simp only[T.not,dg]at cf;obtain⟨ya,yc,rfl⟩:=cf.shape;simp only[aU,aQ]at cy |-;apply bo;simp only[go_sem,E,pt];refine cH cy [0,1] [] [_,_] rfl ls rfl (ln (a3.le (D y z)) cf) ?_;rintro v I7 qs w G⟨rfl,P⟩;rw[Hc sok]at P;obtain⟨za,zc,rfl⟩:=P.shape;simp only[aU,aQ]at w |-;apply bo;simp only[go_sem,E,pt];apply aN;apply RG;simp only[go_sem,E,pt];have h7:=h3.le (D y (D z G));rcases aK s.1 Z.length with d9|em
   .have b8:decide ((s.1:Int)<(Z.length:Int))=true:=by simp;omega
    obtain⟨t,ht⟩:∃t,Z[s.1]?=some t:=⟨_,aY d9⟩;obtain⟨fb,foff,fcs,rfl,ed,b6⟩:=h7.fit.load (fun{I} c a h=>lP.len (I:=I) c a h) ht;obtain⟨tb,toff,tc,rfl,c8,N⟩:=h7.tok.load cU.len ht;have dd:fcs=[.bool t.fits]:=ed;subst dd;refine iH mixed [0,1,2,3,4,5,6,7,8,9,10,11,12,13,14,15,16,17] [5,12,16] [] rfl rfl ?_;apply bo;simp only[go_sem,E,pt];refine Zn (l:=[_]) rfl (cellsU w (.tail _ (.head _)) (dz (by simp[bS]) rfl)) (.inr ⟨lU,rfl⟩) ?_;apply bo;simp only[go_sem,E,pt,b8];refine Zn (l:=[.slice (some ⟨fb,foff,none⟩) Z.length fc]) rfl (cellsU w (.tail _ (.head _)) (dz (by simp[bS]) rfl)) (.inr ⟨G2,rfl⟩) ?_;apply bo;simp only[go_sem,E,pt];refine⟨O,?_⟩;refine Zn (l:=[.bool t.fits]) rfl (cellsU w (.head _) b6) (.inr ⟨G6,rfl⟩) ?_;apply bo;simp only[go_sem,E,pt];apply aN;cases a6:t.fits
    .have cr:fu Z s=⟨s.1,s.2,0,[]⟩:=by simp[fu,ht,a6]
     apply RG;simp only[go_sem,E,pt,a6];refine Zl rfl jj (ji P) ?_;rintro v H2⟨rfl,rfl⟩;have U:decide (s.2=.lf false)=false:=by simpa using sne
     apply RG;simp only[go_sem,E,pt,U];refine cI w (by exact sO) rfl rfl rfl rfl rfl af fun nb I8 a0 g cp=>?_;apply RG;simp only[go_sem,E,pt];refine ak a0 [1,0] fun K=>?_;obtain⟨bs,A,a2⟩:=hB;rw[b2]at A;refine oB (m:=1) K (by exact sO) A rfl rfl rfl rfl (cellsU K (.head _) (bA (l:=[E s.1,.slice za (T.subs s.2).length zc,E (T.plc (T.subs s.2) s.2),.int .u8 0,.string ⟨#[]⟩]) cp (by simp[ax,Value.cells]) (by simp[ax,Value.cells,E]))) rfl rfl O (by unfold maxLen;omega) fun v' I9 B2 aS e bx=>?_;obtain⟨na,nc,rfl⟩:=bx.slice;apply RG;simp only[go_sem,E,pt,cm];refine ak aS [1,0] fun aq=>?_;refine am (i+1,.slice na (i+1) nc) _ _ bi (fE (by simp only[go_sem,Y,E,pt])) (by simp only[go_sem,Y,vu]) ⟨I9,B2,rfl,aq,D F (D y (D z (D G (D g e)))),S,bs++[E s.1,.slice za (T.subs s.2).length zc,E (T.plc (T.subs s.2) s.2),.int .u8 0,.string ⟨#[]⟩],?_,?_⟩
     .simp only;rw[cb,aH,b2];exact bx
     .simp only;rw[cb,cr];exact LR.app (a2.mono fun _ _ h=>dM.le h (D y (D z (D G (D g e))))) (.one ⟨za,zc,rfl,P.le (D g e)⟩)
    .have cr:fu Z s=⟨s.1,s.2,t.kind,t.text⟩:=by simp[fu,ht,a6]
     obtain⟨path,file,line,ta,tk,rfl,cn,c6⟩:=c8;have d4:=N.sub 0 1 ao;have d3:=N.sub 1 1 ao;simp only[mq,io,mB,mC,s5]at d4 d3;apply RG;simp only[go_sem,E,pt,a6];refine CZ mixed [0,1,2,3,4,5,6,7,8,9,10,11,12,13,14,15,16,17,18,19,20,21] [3,8,12,17] [] [12,14,17] [19] [12] rfl rfl ?_;apply bo;simp only[go_sem,E,pt];refine Zn (l:=[.slice (some ⟨tb,toff,none⟩) Z.length lc]) rfl (cellsU w (.tail _ (.head _)) (dz (by simp[bS]) rfl)) (.inr ⟨lU,rfl⟩) ?_;apply bo;simp only[go_sem,E,pt];refine⟨O,?_⟩;refine Zn (l:=[.int .u8 t.kind]) rfl (cellsU w (.head _) d4) (.inr ⟨tu,rfl⟩) ?_;apply bo;simp only[go_sem,E,pt];refine Zn (l:=[.slice (some ⟨tb,toff,none⟩) Z.length lc]) rfl (cellsU w (.tail _ (.head _)) (dz (by simp[bS]) rfl)) (.inr ⟨lU,rfl⟩) ?_;apply bo;simp only[go_sem,E,pt];refine⟨O,?_⟩;refine Zn (l:=[.string ⟨⟨t.text⟩⟩]) rfl (cellsU w (.head _) d3) (.inr ⟨gF,rfl⟩) ?_;apply bo;simp only[go_sem,E,pt];apply aN;apply RG;simp only[go_sem,E,pt];refine Zl rfl jj (ji P) ?_;rintro v H2⟨rfl,rfl⟩;have U:decide (s.2=.lf false)=false:=by simpa using sne
     apply RG;simp only[go_sem,E,pt,U];refine cI w (by exact sO) rfl rfl rfl rfl rfl af fun nb I8 a0 g cp=>?_;apply RG;simp only[go_sem,E,pt];refine ak a0 [1,0] fun K=>?_;obtain⟨bs,A,a2⟩:=hB;rw[b2]at A;refine oB (m:=1) K (by exact sO) A rfl rfl rfl rfl (cellsU K (.head _) (bA (l:=[E s.1,.slice za (T.subs s.2).length zc,E (T.plc (T.subs s.2) s.2),.int .u8 t.kind,.string ⟨⟨t.text⟩⟩]) cp (by simp[ax,Value.cells]) (by simp[ax,Value.cells,E]))) rfl rfl O (by unfold maxLen;omega) fun v' I9 B2 aS e bx=>?_;obtain⟨na,nc,rfl⟩:=bx.slice;apply RG;simp only[go_sem,E,pt,cm];refine ak aS [1,0] fun aq=>?_;refine am (i+1,.slice na (i+1) nc) _ _ bi (fE (by simp only[go_sem,Y,E,pt])) (by simp only[go_sem,Y,vu]) ⟨I9,B2,rfl,aq,D F (D y (D z (D G (D g e)))),S,bs++[E s.1,.slice za (T.subs s.2).length zc,E (T.plc (T.subs s.2) s.2),.int .u8 t.kind,.string ⟨⟨t.text⟩⟩],?_,?_⟩
     .simp only;rw[cb,aH,b2];exact bx
     .simp only;rw[cb,cr];exact LR.app (a2.mono fun _ _ h=>dM.le h (D y (D z (D G (D g e))))) (.one ⟨za,zc,rfl,P.le (D g e)⟩)
   .have d7:s.1=Z.length:=by omega
    have b8:decide ((s.1:Int)<(Z.length:Int))=false:=by simp;omega
    have cr:fu Z s=⟨s.1,s.2,0,[]⟩:=by simp[fu,d7]
    refine iH mixed [0,1,2,3,4,5,6,7,8,9,10,11,12,13,14,15,16,17] [5,12,16] [] rfl rfl ?_;apply bo;simp only[go_sem,E,pt];refine Zn (l:=[_]) rfl (cellsU w (.tail _ (.head _)) (dz (by simp[bS]) rfl)) (.inr ⟨lU,rfl⟩) ?_;apply bo;simp only[go_sem,E,pt,b8];apply aN;apply RG;simp only[go_sem,E,pt];refine Zl rfl jj (ji P) ?_;rintro v H2⟨rfl,rfl⟩;have U:decide (s.2=.lf false)=false:=by simpa using sne
    apply RG;simp only[go_sem,E,pt,U];refine cI w (by exact sO) rfl rfl rfl rfl rfl af fun nb I8 a0 g cp=>?_;apply RG;simp only[go_sem,E,pt];refine ak a0 [1,0] fun K=>?_;obtain⟨bs,A,a2⟩:=hB;rw[b2]at A;refine oB (m:=1) K (by exact sO) A rfl rfl rfl rfl (cellsU K (.head _) (bA (l:=[E s.1,.slice za (T.subs s.2).length zc,E (T.plc (T.subs s.2) s.2),.int .u8 0,.string ⟨#[]⟩]) cp (by simp[ax,Value.cells]) (by simp[ax,Value.cells,E]))) rfl rfl O (by unfold maxLen;omega) fun v' I9 B2 aS e bx=>?_;obtain⟨na,nc,rfl⟩:=bx.slice;apply RG;simp only[go_sem,E,pt,cm];refine ak aS [1,0] fun aq=>?_;refine am (i+1,.slice na (i+1) nc) _ _ bi (fE (by simp only[go_sem,Y,E,pt])) (by simp only[go_sem,Y,vu]) ⟨I9,B2,rfl,aq,D F (D y (D z (D G (D g e)))),S,bs++[E s.1,.slice za (T.subs s.2).length zc,E (T.plc (T.subs s.2) s.2),.int .u8 0,.string ⟨#[]⟩],?_,?_⟩
    .simp only;rw[cb,aH,b2];exact bx
    .simp only;rw[cb,cr];exact LR.app (a2.mono fun _ _ h=>dM.le h (D y (D z (D G (D g e))))) (.one ⟨za,zc,rfl,P.le (D g e)⟩)
  .have dc:i=a.length:=by omega
   subst dc;have d1:decide ((a.length:Int)<(a.length:Int))=false:=ao;rw[dK,<-b5]at hB;apply RG;simp only[go_sem,d1,E,pt];refine uI (c:=.st _) cj [1,0] rfl fun a9=>?_;simp only[gA,zq,zp]at a9 |-;refine aJ (c:=.st _) a9 fun I4 c4 y ej=>?_;have c9:fM I4 (.slice oa a.length oc) (co Z f):=i6 (R:=dM) (fun{I J c a} h k=>dM.le h k) hB y ej;exact az rfl c4 (r:=[_]) rfl (D X (D u (D F y))) ⟨rfl,c9⟩
end Go.Proofs.YtfaclfkpnmcmlaaGreatDoor
namespace Go.Sx
open Go
section
variable {C:Cx} {P:Program} {k:List Item} {σ:St} {H:PH}
variable{I:PH}
def T9{I2:PH}{qs F:Zt}(a:I.le I2)(c:Dj (I::F))(hd:Dj (I2::qs++F)):(U (I::F)).le (U (I2::qs++F)):=by
 intro b o h;rcases(pW c).1 h with ⟨A,d,hb⟩
 rcases List.mem_cons.1 d with rfl|d
 .exact(pW hd).2 ⟨I2,.head _,a b o hb⟩
 .exact(pW hd).2 ⟨A,.tail _ (gD _ d),hb⟩
def Dj.drop_mid{ps F:Zt}(h:Dj (I::ps++F)):Dj (I::F):=
 h.sublist (List.Sublist.cons_cons I (List.sublist_append_right ps F))
variable{Ψ:Value->PH->Zt->Prop}
def zI{ol:Zq}{fr:cw}{str:cC}{i:Nat}{lo:List (Nat×Oper)}{o:Oper}{x:Operand}{aS:Array Operand}{Z:Array TypeId}{f:FuncId}{vs:Zo}{first cap:Array Value}{l ps F:Zt}(hd:Dj (I::l))(is:Zp)(hs:str.h.contains i=false)(p:bH ol σ o=some true)(aa:o.op=.call ⟨.value x,aS,Z⟩)
  (n:ev σ x=.v (.func (.func f) first cap)) (ha:fY (ev σ) aS.toList=some vs) (t:ay C.P f) (hi:is.isPerm (List.range l.length)=true) (q:gA l is=ps++F) (m:fr.J.le (U (I::F))) (h:aT C.P f (first++vs.toArray++cap) I ps Ψ)
  (r:∀v g j,Dj (g::j++F)->I.le g->Ψ v g j->RD C ol fr str lo k (σ.put o.dst (.v v)) (U (g::j++F))):RD C ol fr str ((i,o)::lo) k σ (U (I::l)):=by
 obtain⟨e,d⟩:=pV ((yJ hi).cons I) hd;rw[q]at e d;rw[e];exact xj p aa n ha t (h.frame d) fun v H2 ⟨g,j,a,b,c,dd⟩=>⟨⟨fun s=>Bool.noConfusion (hs.symm.trans s),fun u _=>by subst a;exact D m (T9 c (Dj.drop_mid d) b)⟩,by subst a;exact r v g j b c dd⟩
def jX{r:Zo}{I2:PH}{qs:Zt}(a:C.post=fun v H2=>∃I2 qs,H2=U (I2::qs)/\Dj (I2::qs)/\I.le I2/\Ψ v I2 qs)(hd:Dj (I2::qs))(h:n6 C.P σ C.fn.results.toList=some r)(b:I.le I2)(hp:Ψ (dY r) I2 qs):RC C (.st []) σ (U (I2::qs)):=
 Nz h (by rw[a];exact⟨I2,qs,rfl,hd,b,hp⟩)
variable{a:Option Addr}{z:Operand}{size:Nat}{e:TypeId}
def Xn{o:Oper}{T:TypeId}{x y:Operand}{len cap h m:Nat}{k1 k2:IntKind}(aa:o.op=.slice T x none (some y) (some z))(n:P.underlying T=some (.slice e))(hi:∃i,P.info? e=some i/\i.size=size)
  (l:ev σ x=.v (.slice a len cap)) (j:ev σ y=.v (.int k1 h)) (g:ev σ z=.v (.int k2 m)) (h1:h<=m) (h2:m<=cap) :
  bR σ o.op=true/\eJ P (execOp (bp σ) o) H fun sv H2=>sv=.v (.slice (fZ a size 0 m) h m)/\H2=H:=by
 constructor
 .simp[bR,aa,fx,Op.operands,l,j,g,fN]
 .intro w p;obtain⟨i,hi,rfl⟩:=hi;have c:(sizeOf e).run P w=.ok i.size w:=by simp[sizeOf,typeInfo,program,Sem.run,hi]
  have f:=oH (P:=P) (w:=w) (i:=(m:Int)) (k:=k2) (code:=.slice3Acap) (y:=cap) O O;have d:=oH (P:=P) (w:=w) (i:=(h:Int)) (k:=k1) (code:=.slice3B) (y:=m) O O;simp only[Int.toNat_natCast]at f d;have b:(execOp (bp σ) o).run P w=.ok (.value (.slice (fZ a i.size 0 m) h m)) w:=by simp[execOp,aa,bp,l,j,g,Instr.sliceAt,fe n,run_underlying n,Instr.slice,Instr.sliceBounds,Result.andThen,c,fZ,f,d]
  rw[b];exact⟨H,cP.refl p,rfl,rfl⟩
variable{rem:Zq}
def Ng{ol:Zq}{o:Oper}{T:TypeId}{x y:Operand}{len cap h m:Nat}{k1 k2:IntKind}(g:bH ol σ o=some true)(aa:o.op=.slice T x none (some y) (some z))(j:C.P.underlying T=some (.slice e))(hi:∃i,C.P.info? e=some i/\i.size=size)
  (f:ev σ x=.v (.slice a len cap)) (d:ev σ y=.v (.int k1 h)) (c:ev σ z=.v (.int k2 m)) (h1:h<=m) (h2:m<=cap)
  (l:RC C (.op ol rem k) (σ.put o.dst (.v (.slice (fZ a size 0 m) h m))) H):RC C (.op ol (o::rem) k) σ H:=by
 obtain⟨a,b⟩:=Xn (H:=H) aa j hi f d c h1 h2;exact jE g a (b.mono fun sv H2 ⟨e1,e2⟩=>by subst e1;subst e2;exact l)
def Xj{o:Oper}{T T2:TypeId}{x y:Operand}{n c:Nat}(aa:o.op=.binOp .eql T x y T2)(h:P.underlying T=some (.slice e))
  (f:ev σ x=.v (.slice a n c)) (d:ev σ y=.v (.slice none 0 0)) :
  bR σ o.op=true/\eJ P (execOp (bp σ) o) H fun sv H2=>sv=.v (.bool a.isNone)/\H2=H:=by
 constructor
 .simp[bR,aa,fx,Op.operands,f,d,fN]
 .intro w g;have b:(execOp (bp σ) o).run P w=.ok (.value (.bool a.isNone)) w:=by
   have:∀k,Op.maxDepth=k+1->(Op.equal T (.slice a n c) (.slice none 0 0)).run P w=.ok a.isNone w:=by intro k i;unfold Op.equal;rw[i];cases a<;>simp[Op.equalIn,run_underlying h,ew,Result.andThen]
   have j:=this 9999 rfl;simp[execOp,aa,bp,f,d,eqGuard,binOp,ew,j,Result.andThen]
  rw[b];exact⟨H,cP.refl g,rfl,rfl⟩
def rH{ol:Zq}{o:Oper}{T T2:TypeId}{x y:Operand}{n c:Nat}(f:bH ol σ o=some true)(aa:o.op=.binOp .eql T x y T2)(g:C.P.underlying T=some (.slice e))
  (d:ev σ x=.v (.slice a n c)) (b:ev σ y=.v (.slice none 0 0)) (h:RC C (.op ol rem k) (σ.put o.dst (.v (.bool a.isNone))) H):RC C (.op ol (o::rem) k) σ H:=by
 obtain⟨p,q⟩:=Xj (H:=H) aa g d b;exact jE f p (q.mono fun sv H2 ⟨e1,e2⟩=>by subst e1;subst e2;exact h)
variable{n2 bytes:Nat}
def LF{o:Oper}{t:TypeId}(ht:cO P t e size bytes){x y:Operand}{ya:Option Addr}{n c:Nat}(aa:o.op=.call ⟨.builtin .append,#[x,y],#[t,t]⟩)
  (m:ev σ x=.v (.slice a n n2)) (f:n<=n2) (l:ev σ y=.v (.slice ya 0 c)) :
  bR σ o.op=true/\eJ P (execOp (bp σ) o) H fun sv H2=>sv=.v (.slice a n n2)/\H2=H:=by
 constructor
 .simp[bR,aa,fx,Op.operands,Call.operands,m,l,fN]
 .intro w p;obtain⟨i,z,g,a2,a3,a4,a5,r,q⟩:=ht;have hs:Src P i.size t (.slice ya 0 c) 0 [] w:=by
   cases ya with
   |none=>exact Src.ofNil w g c
   |some b=>exact Src.ofSlice w g b 0 c [] ao (fun j u h=>by simp at h) (fun u h=>by cases h)
  have d:=run_append_nothing (P:=P) w t t o.type e i g a2 a n n2 f _ hs;rw[DT aa m l d];exact⟨H,cP.refl p,rfl,rfl⟩
def Xf{o:Oper}{t:TypeId}(ht:cO P t e size bytes){x y:Operand}{n m c xb xo:Nat}{olds news:Zo}(aa:o.op=.call ⟨.builtin .append,#[x,y],#[t,t]⟩)
  (I:ev σ x=.v (.slice a n n2)) (l:n2<n+m) (G:ev σ y=.v (.slice (some ⟨xb,xo,none⟩) m c)) (f:n=0\/∃b off,a=some ⟨b,off,none⟩/\a8 H b off olds) (J:olds.length=n*size)
  (Q:a8 H xb xo news) (A:news.length=m*size) (h1:news.all one=true) (p:n+m<=maxLen) (hb:(n+m)*bytes<=140737488355328) :
  bR σ o.op=true/\eJ P (execOp (bp σ) o) H fun sv H2=>∃g cap zs,H g=none/\(n+m<=cap/\cap<=maxLen)/\sv=.v (.slice (some ⟨g,0,none⟩) (n+m) cap)/\H2=H.put g (.cells (olds++news++zs).toArray e (0,0)):=by
 constructor
 .simp[bR,aa,fx,Op.operands,Call.operands,I,G,fN]
 .intro w s;obtain⟨i,z,K,a2,a3,a4,a5,S,R⟩:=ht;subst a4;subst a5;have B:(Builtin.firstCells i.size n (.slice a n n2)).run P w.drew=.ok olds.toArray w.drew:=by
   rcases f with rfl|⟨b,off,rfl,F⟩
   .have:olds=[]:=by simpa using J
    subst this;cases a with
    |none=>exact run_firstCells_none w.drew i.size 0 0 n2
    |some b=>exact run_firstCells_some w.drew i.size 0 b 0 n2 [] ao (fun j u h=>by simp at h)
   .exact run_firstCells_some (P:=P) (w:=w.drew) i.size n ⟨b,off,none⟩ n n2 olds J (Ag F (w:=w.drew) s)
  have hs:Src P i.size t (.slice (some ⟨xb,xo,none⟩) m c) m news w:=Src.ofSlice w K ⟨xb,xo,none⟩ m c news A (Ag Q s)
   (fun u N=>by have:=List.all_eq_true.1 h1 u N;cases u<;>first|rfl|cases this)
  have q:n+m<=9223372036854775807:=by simp only[maxLen]at p;omega
  have d:=run_append_grow_src (P:=P) w t t o.type e i z K a2 a3 a n n2 olds B _ m news hs l O (growslice_fits l hb);rw[DT aa I G d];obtain⟨L,r⟩:=cP.newD s (.cells ((olds++news).toArray++Builtin.zeroCells z.cells (grownCap w (n+m) n2 e-(n+m))) e (0,0));refine⟨_,r,w.heap.size,grownCap w (n+m) n2 e,(Builtin.zeroCells z.cells (grownCap w (n+m) n2 e-(n+m))).toList,L,⟨grownCap_ge w (n+m) n2 e,grownCap_le_maxLen w (n+m) n2 e p⟩,rfl,?_⟩;congr 2;rw[<-ns];simp
def GF{ol:Zq}{o:Oper}{t:TypeId}(ht:cO C.P t e size bytes){x y:Operand}{ya:Option Addr}{n c:Nat}(h:bH ol σ o=some true)(aa:o.op=.call ⟨.builtin .append,#[x,y],#[t,t]⟩)
  (g:ev σ x=.v (.slice a n n2)) (d:n<=n2) (f:ev σ y=.v (.slice ya 0 c)) (i:RC C (.op ol rem k) (σ.put o.dst (.v (.slice a n n2))) H):RC C (.op ol (o::rem) k) σ H:=by
 obtain⟨a,b⟩:=LF (H:=H) ht aa g d f;exact jE h a (b.mono fun sv H2 ⟨e1,e2⟩=>by subst e1;subst e2;exact i)
def MV{ol:Zq}{o:Oper}{t:TypeId}{l:Zt}(hd:Dj (I::l))(ht:cO C.P t e size bytes){x y:Operand}{n m c xb xo:Nat}{olds news:Zo}(z:bH ol σ o=some true)(aa:o.op=.call ⟨.builtin .append,#[x,y],#[t,t]⟩)
  (w:ev σ x=.v (.slice a n n2)) (i:n2<n+m) (u:ev σ y=.v (.slice (some ⟨xb,xo,none⟩) m c)) (d:n=0\/∃b off,a=some ⟨b,off,none⟩/\a8 (U (I::l)) b off olds) (A:olds.length=n*size)
  (F:a8 (U (I::l)) xb xo news) (h:news.length=m*size) (h1:news.all one=true) (j:n+m<=maxLen) (hb:(n+m)*bytes<=140737488355328)
  (B:∀g cap f,Dj (f::l)->I.le f->(n+m<=cap/\cap<=maxLen)->a8 f g 0 (olds++news)->RC C (.op ol rem k) (σ.put o.dst (.v (.slice (some ⟨g,0,none⟩) (n+m) cap))) (U (f::l))):RC C (.op ol (o::rem) k) σ (U (I::l)):=by
 obtain⟨a,b⟩:=Xf ht aa w i u d A F h h1 j hb;refine jE z a (b.mono fun sv H2 ⟨g,cap,zs,e1,G,e2,J⟩=>?_);subst e2;subst J;obtain⟨s,r,q,p⟩:=Fp hd (o:=.cells (olds++news++zs).toArray e (0,0)) e1;rw[s];refine B g cap _ r q G (bA p ao (by show (List.drop 0 (olds++news++zs)).take (olds++news).length=_;rw[io];exact List.take_left))
end
theorem OG(l:List UInt8):(⟨⟨l⟩⟩:ByteArray).toList=l:=ByteArray.toList_eq _
attribute [go_sem] OG
end Go.Sx
