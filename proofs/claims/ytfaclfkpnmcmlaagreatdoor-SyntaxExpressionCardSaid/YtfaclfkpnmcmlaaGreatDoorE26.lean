import Derived.Test.YtfaclfkpnmcmlaaGreatDoorE07
import Derived.Test.YtfaclfkpnmcmlaaGreatDoorE10
import Derived.Test.YtfaclfkpnmcmlaaGreatDoorE15
import Derived.Test.YtfaclfkpnmcmlaaGreatDoorE17
import Derived.Test.YtfaclfkpnmcmlaaGreatDoorE18
import Derived.Test.YtfaclfkpnmcmlaaGreatDoorE19
import Derived.Test.YtfaclfkpnmcmlaaGreatDoorE20
import Derived.Test.YtfaclfkpnmcmlaaGreatDoorE22
import Derived.Test.YtfaclfkpnmcmlaaGreatDoorE24
import Derived.Test.YtfaclfkpnmcmlaaGreatDoorE25
import Derived.Laws.StructEq
set_option maxHeartbeats 8000000
set_option linter.all false
namespace Go.Proofs.YtfaclfkpnmcmlaaGreatDoor
open Go Go.Sx Dg Syn
def ot(_:PH)(c:List Value)(x:Nat):Prop:=c=[.int .u32 x]/\x<2^32
variable{I:PH}
def ot.len(c:List Value)(x:Nat)(h:ot I c x):c.length=1:=by rw[h.1];rfl
abbrev O4(I A:PH)(v:Value)(l:List Nat):Prop:=Ow ot 23 1 I A v l
abbrev JF(I:PH)(v:Value)(l:List Nat):Prop:=Sl ot I v l
variable{l:List Nat}{v:Value}{J:PH}
def O4.le{A:PH}(h:O4 I A v l)(k:I.le J):O4 J A v l:=Ow.le (R:=ot) (fun{I J c a} h k=>h) h k
def JF.le(h:JF I v l)(k:I.le J):JF J v l:=Sl.le (R:=ot) (fun{I J c a} h k=>h) h k
def Vt(u:Nat)(x:Nat×Value):St:=⟨dn 35 [(0,.v (.int .u32 u)),(3,.v x.2),(4,.v (iv x.1))],[]⟩
def Zy(u:Nat)(I0:PH)(x:Nat×Value)(H:PH):Prop:=∃I A l,H=U [I,A]/\Dj [I,A]/\I0.le I/\x.1<=32/\O4 I A x.2 l/\l=eY u x.1
def QM(u i n:Nat)(x:Nat×Value):St:=⟨dn 35 [(0,.v (.int .u32 u)),(3,.v x.2),(4,.v (iv i)),(5,.v (iv n)),(6,.v (iv x.1))],[]⟩
def Yg(l0:List Nat)(b:Nat)(I0:PH)(x:Nat×Value)(H:PH):Prop:=∃I A l,H=U [I,A]/\Dj [I,A]/\I0.le I/\x.1<=l0.length/\O4 I A x.2 l/\l=l0++(l0.take x.1).map (fun x=>x|||2^b)
def m9(u:Nat):∀i,(eY u i).length=2^pR u i
 |0=>rfl
 |i+1=>by
  have ih:=m9 u i;have hp:pR u (i+1)=pR u i+(u.testBit i).toNat:=rfl;unfold eY;by_cases h:u.testBit i=true
  ·rw[aaq h,hp,h,aa9,aah,ih,show (true:Bool).toNat=1 from rfl,abd];omega
  ·have h':u.testBit i=false:=by simpa using h
   rw[ZV h,hp,h',ih];rfl
variable{u:Nat}
theorem uf(hu:u<2^32)(hp:pR u 32<=8):aK Tryz.prog 21 #[.int .u32 u] I [] fun r I2 qs=>qs=[]/\JF I2 r (eY u 32):=by
 intro hd;refine ah 35 Tryz.func21 fun w0=>?_;refine aT ?_;refine fx hd (by exact Lw) rfl rfl rfl rfl rfl bg fun b0 A0 b4 a5=>?_;have b8:O4 I A0 (.slice (some ⟨b0,0,none⟩) 1 1) [0]:=⟨_,a5,⟨[.int .u32 0],[],by simp[aD,Value.cells],⟨rfl,by decide⟩,rfl⟩⟩;refine aT ?_;refine aA (fun x=>32-x.1) (Vt u) (Zy u I) (0,.slice (some ⟨b0,0,none⟩) 1 1) bM (by simp only[go_sem,aa6,Vt]) ?_ ?_
 ·exact⟨I,A0,[0],rfl,b4,abW _,aaL _,b8,rfl⟩
 rintro⟨i,vo⟩ H ⟨I1,A1,l,rfl,a9,ag,hi,hA,aq⟩ aa;simp only at hi hA aq;have a6:l.length=2^pR u i:=by rw[aq];exact m9 u i
 simp only[Vt];obtain⟨oa,oc,rfl⟩:=hA.shape;rcases aaf i 32 with a4|cd
 ·have h9:decide ((i:Int)<32)=true:=abU ab;have e1:IntKind.i64.wrap ((i:Int)+1)=((i+1:Nat):Int):=by rw[<-wrap64 (n:=i+1) ab];congr 1
  have a1:=UC hu (i:=i) ab;have ca:=ZS (NA u (i:=i+1) (j:=32) ab) hp;have bc:pR u (i+1)=pR u i+(u.testBit i).toNat:=rfl;have ba:l.length<=256:=by
   rw[a6];exact ZS (abe ab (show pR u i<=8 by omega)) bg
  cases hb:u.testBit i
  ·rw[hb]at a1 bc;apply RG;simp only[go_sem,iv,h9,abt,a1,Bool.toNat_false,abo,e1];exact aa (i+1,.slice oa l.length oc) _ _ dt bM (by simp only[go_sem,aa6,Vt]) ⟨I1,A1,l,rfl,a9,ag,a4,hA,by simp only;rw[aq,eY,ZV (by rw[hb];decide)]⟩
  ·rw[hb]at a1 bc;have cb:(true:Bool).toNat=1:=rfl;have bs:l.length<=128:=by
    rw[a6];exact ZS (abe ab (show pR u i<=7 by omega)) bg
   apply RG;simp only[go_sem,iv,h9,abt,a1,Bool.toNat_true,abo];refine aA (fun x=>l.length-x.1) (QM u i l.length) (Yg l i I1) (0,.slice oa l.length oc) bM (by simp only[go_sem,aa6,QM]) ?_ ?_
   ·exact⟨I1,A1,l,rfl,a9,abW _,aaL _,hA,by simp⟩
   rintro⟨k,vq⟩ H ⟨I2,A2,m,rfl,aj,ao,hk,a3,al⟩ ac;simp only at hk a3 al;have cc:m.length=l.length+k:=by rw[al,aa9,aah,abF];omega
   simp only[QM];obtain⟨qa,qc,rfl⟩:=a3.shape;rcases aaf k l.length with aS|b1
   ·have bb:decide ((k:Int)<(l.length:Int))=true:=abU ab;have e2:IntKind.i64.wrap ((k:Int)+1)=((k+1:Nat):Int):=by rw[<-wrap64 (n:=k+1) ab];congr 1
    obtain⟨x,hx⟩:∃x,m[k]?=some x:=⟨_,aak ab⟩;obtain⟨g,cap,cur,c,ev,rfl,c1,c2,hc,cf,a2,_⟩:=a3.elem (fun{I} c a h=>ot.len (I:=I) c a h) (fun{I J c a} h k=>h) hx;cases ev
    obtain⟨rfl,ak⟩:=hc;have bF:l[k]?=some x:=by rw[<-hx,al,aaG aS]
    have bd:2^i<2^32:=Nat.pow_lt_pow_right ab a4;have q1:Uu .u32 (x:Int) (yR .u32 1 (i:Int))=((x|||2^i:Nat):Int):=by rw[RA a4];exact CN ak bd
    have bC:x|||2^i<2^32:=Nat.or_lt_two_pow ak bd;apply RG;simp only[go_sem,iv,bb];refine eP [0,1,2,3,4,5,6,7,8,9,10] [4] [] ?_;refine dS ?_
    try refine⟨ab,?_⟩
    refine W7 (l:=[.int .u32 x]) rfl (by simpa using cellsU aj (.tail _ (.head _)) a2) (.inr ⟨oR,rfl⟩) ?_;apply au;simp only[go_sem,iv,abt,q1];refine bj aj (by exact Lw) rfl rfl rfl rfl rfl bg fun nb I4 b3 am bx=>?_;have b5:Sl ot I4 (.slice (some ⟨nb,0,none⟩) 1 1) [x|||2^i]:=⟨_,_,rfl,.inr ⟨nb,0,_,rfl,az bx (by simp[aD,Value.cells]) (by simp[aD,Value.cells]),.one ⟨rfl,bC⟩⟩⟩;refine dS ?_;refine fP (R:=ot) (xs:=m) (ys:=[x|||2^i]) b3 (by exact Lw) (O4.le a3 am) b5 (fun{I J c a} h k=>h) (fun{I} c a h=>ot.len (I:=I) c a h) (fun{I} c a h=>by rw[h.1];rfl) rfl rfl rfl rfl rfl rfl (by simp only[aaj,aaO];omega) (by simp only[aaj,aaO];unfold maxLen;omega) fun ua uc I5 A5 b2 a7 b6=>?_;refine dS ?_;refine aw ?_;apply RG;simp only[go_sem,iv,e2];exact ac (k+1,.slice ua (m++[x|||2^i]).length uc) _ _ dt bM (by simp only[go_sem,aa6,QM]) ⟨I5,A5,m++[x|||2^i],rfl,b2,abV ao (abV am a7),aS,b6,by simp only;rw[df bF,abP,<-aaT,<-al];rfl⟩
   ·have:k=l.length:=by omega
    subst this;have bb:=Z6 l.length;apply RG;simp only[go_sem,iv,bb,e1];exact aa (i+1,.slice qa m.length qc) _ _ dt bM (by simp only[go_sem,aa6,Vt]) ⟨I2,A2,m,rfl,aj,abV ag ao,a4,a3,by simp only;rw[al,aaS,eY,aaq hb,<-aq]⟩
 ·have:i=32:=by omega
  subst this;have ba:l.length<=256:=by
   rw[a6];exact ZS (abe ab hp) bg
  refine bf a9 [0] fun aj=>?_;refine ae (c:=.st _) aj fun I3 aj an b7=>?_;apply RG;simp only[go_sem,iv,abo];exact af rfl aj (r:=[_]) rfl (abV ag an) ⟨rfl,by rw[<-aq];exact abX (R:=ot) (fun{I J c a} h k=>h) hA an b7⟩
structure It where
 kind:Nat
 text:bq
 cubes:List (Nat×Nat)
def LN(I:PH)(c:List Value)(x:It):Prop:=∃va,c=[.int .u8 x.kind,.string ⟨⟨x.text⟩⟩,va]/\Ch I va x.cubes
variable{x:It}{c:List Value}
def LN.le(h:LN I c x)(k:I.le J):LN J c x:=by
 obtain⟨va,e,h⟩:=h;exact⟨va,e,Ch.le h k⟩
def LN.len(c:List Value)(x:It)(h:LN I c x):c.length=3:=by obtain⟨va,e,_⟩:=h;rw[e];rfl
abbrev Sw(I:PH)(v:Value)(l:List It):Prop:=Sl LN I v l
def Sw.le{l:List It}(h:Sw I v l)(k:I.le J):Sw J v l:=Sl.le (R:=LN) (fun{I J c a} h k=>LN.le h k) h k
def fI(u:Nat)(I:PH)(c:List Value)(x:It):Prop:=∃pv ia,c=[.int .u8 x.kind,.string ⟨⟨x.text⟩⟩,pv,.int .i64 0,.int .i64 0,ia]/\Sx.one pv=true/\JF I ia (jE x.cubes u)
def fI.len(c:List Value)(x:It)(h:fI u I c x):c.length=6:=by obtain⟨pv,ia,e,_⟩:=h;rw[e];rfl
def fI.le(h:fI u I c x)(k:I.le J):fI u J c x:=by obtain⟨pv,ia,e,h1,h2⟩:=h;exact⟨pv,ia,e,h1,h2.le k⟩
def fI.ones(h:fI u I c x):c.all Sx.one=true:=by
 obtain⟨pv,ia,rfl,h1,a,b,rfl,_⟩:=h;simp only[List.all_cons,List.all_nil,h1,abv,Bool.true_and];rfl
abbrev NO(u:Nat)(I A:PH)(v:Value)(l:List It):Prop:=Ow (fI u) 136 6 I A v l
def NO.le{A:PH}{l:List It}(h:NO u I A v l)(k:I.le J):NO u J A v l:=Ow.le (R:=fI u) (fun{I J c a} h k=>fI.le h k) h k
def DT.ones{t:Syn.Tok}(h:DT I c t):c.all Sx.one=true:=by
 obtain⟨v1,v2,v3,v4,rfl,h1,h2,h3,h4⟩:=h;simp only[List.all_cons,List.all_nil,h1,h2,h3,h4,abv];rfl
abbrev Ip(I A:PH)(v:Value)(l:List Syn.Tok):Prop:=Ow DT 136 6 I A v l
def Ip.le{A:PH}{l:List Syn.Tok}(h:Ip I A v l)(k:I.le J):Ip J A v l:=Ow.le (R:=DT) (fun{I J c a} h k=>h) h k
def Nf:aO Tryz.prog 75:=⟨_,Tryz.func75,rfl,rfl⟩
abbrev Vq(w:Value)(I A:PH)(v:Value)(l:List Nd):Prop:=Ow (iS w) 67 6 I A v l
variable{w:Value}
def Vq.le{A:PH}{l:List Nd}(h:Vq w I A v l)(aa:I.le J):Vq w J A v l:=Ow.le (R:=iS w) (fun{I J c a} h k=>iS.le h k) h aa
def SlW.le{l:List Nd}(h:Sl (iS w) I v l)(aa:I.le J):Sl (iS w) J v l:=Sl.le (R:=iS w) (fun{I J c a} h k=>iS.le h k) h aa
def SlW.nil(w:Value)(I:PH):Sl (iS w) I eQ []:=⟨none,0,rfl,.inl rfl⟩
def iS.oneW(hw:Sx.one w=true){n:Nd}(h:iS w I c n):c.all Sx.one=true:=by
 obtain⟨vk,rfl,a,b,rfl,_⟩:=h.shape;simp only[List.all_cons,List.all_nil,hw,abv];rfl
def jK.len{d:Nat}(c:List Value)(n:Nd)(h:jK w d I c n):c.length=6:=iS.len (w:=w) (I:=I) c n ⟨d,h⟩
def SJ(n:Nd)(vk w:Value)(x:Nat×Value):St:=⟨dn 29 [(1,.v w),(2,.p 2 0),(4,.p 4 0),(5,.v x.2),(6,.v (iv x.1))],[⟨2,67,[.int .u8 n.kind,.string ⟨⟨n.text⟩⟩,.int .i64 n.tok,.int .i64 n.slot,vk,w]⟩,⟨4,67,[.int .u8 0,.string ⟨#[]⟩,.int .i64 0,.int .i64 0,.slice none 0 0,.slice none 0 0]⟩]⟩
def YY(n:Nd)(w:Value)(I0:PH)(x:Nat×Value)(H:PH):Prop:=∃I A,H=U [I,A]/\Dj [I,A]/\I0.le I/\x.1<=n.kids.length/\Vq w I A x.2 (n.kids.take x.1)
variable{wa:Option Addr}
theorem Sf{wn wc:Nat}:∀(d:Nat) {I:PH} {vk:Value} {n:Nd},Sl (jK eQ d) I vk n.kids->du n.kids<=aN->aK Tryz.prog 75 #[cG n vk eQ,.slice wa wn wc] I [] fun r I2 qs=>qs=[]/\∃vk2,r=cG n vk2 (.slice wa wn wc)/\Sl (iS (.slice wa wn wc)) I2 vk2 n.kids:=by
 intro d
 induction d with
 |zero=>
  intro I vk n hS hz;obtain⟨a,b,rfl,h2⟩:=id hS;have ag:n.kids=[]:=by
   rcases h2 with h2|⟨b',off,xs,e1,e2,e3⟩
   ·exact h2
   ·cases hk:n.kids with
    |nil=>rfl
    |cons m l=>
     rw[hk]at e3;obtain⟨_,_,_,h,_⟩:=e3;exact h.elim
  intro hd;have h0:decide (((0:Nat):Int)<(n.kids.length:Int))=false:=by rw[ag];rfl
  have h1:decide ((0:Int)<(n.kids.length:Int))=false:=by rw[ag];rfl
  refine ah 29 Tryz.func75 fun w0=>?_
  try simp only[cG]
  refine dP ?_;refine aA (fun x=>n.kids.length-x.1) (SJ n (.slice a n.kids.length b) (.slice wa wn wc)) (fun x H=>x=(0,.slice none 0 0)/\H=U [I]) (0,.slice none 0 0) bM (by simp only[go_sem,aa6,SJ]) ⟨rfl,rfl⟩ ?_;rintro⟨i,vo⟩ H ⟨e,rfl⟩ ac;cases e
  simp only[SJ];apply RG;simp only[go_sem,iv,h0,h1];refine af rfl hd (r:=[cG n eQ (.slice wa wn wc)]) (by simp only[Tryz.results75,go_sem,iv,cG]) (abW _) ⟨rfl,eQ,rfl,by rw[ag];exact SlW.nil _ _⟩
 |succ d ih=>
  intro I vk n hS hz hd;obtain⟨ka,kc,rfl,_⟩:=id hS;have bC:=iI n.kids;have bs:du n.kids<=1099511627776:=hz;refine ah 29 Tryz.func75 fun w0=>?_
  try simp only[cG]
  refine dP ?_;refine aR hd fun ba=>?_;refine aA (fun x=>n.kids.length-x.1) (SJ n (.slice ka n.kids.length kc) (.slice wa wn wc)) (YY n (.slice wa wn wc) I) (0,.slice none 0 0) bM (by simp only[go_sem,aa6,SJ]) ?_ ?_
  ·exact⟨I,_,rfl,ba,abW _,aaL _,Ow.nil _ _ _ _⟩
  rintro⟨i,vo⟩ H ⟨I1,A1,rfl,ao,ak,hi,hA⟩ ac;simp only at hi hA;simp only[SJ];obtain⟨oa,oc,rfl⟩:=hA.shape;have a1:(n.kids.take i).length=i:=by rw[abF];omega
  rcases aaf i n.kids.length with a2|bF
  ·have aq:decide ((i:Int)<(n.kids.length:Int))=true:=abU ab;have e1:IntKind.i64.wrap ((i:Int)+1)=((i+1:Nat):Int):=by rw[<-wrap64 (n:=i+1) ab];congr 1
   obtain⟨m,hm⟩:∃m,n.kids[i]?=some m:=⟨_,aak a2⟩;have a6:=aaV hm;have bx:=oG a6;obtain⟨b,off,cs,rfl,⟨vk2,rfl,a3⟩,am⟩:=Sl.load (R:=jK eQ (d+1)) (fun{I} c a h=>jK.len (I:=I) c a h) (Sl.le (R:=jK eQ (d+1)) (fun{I J c a} h k=>jK.le h k) hS ak) hm;obtain⟨qa,qc,rfl,_⟩:=id a3;apply RG;simp only[go_sem,iv,aq]
   try refine⟨ab,?_⟩
   refine XN (l:=[.int .u8 m.kind,.string ⟨⟨m.text⟩⟩,.int .i64 m.tok,.int .i64 m.slot,.slice qa m.kids.length qc,eQ]) (v:=cG m (.slice qa m.kids.length qc) eQ) rfl (cellsU ao (.head _) (by simpa using am)) (.inl ⟨Tw,rfl⟩) ?_;apply RG;simp only[go_sem,iv,cG];refine ad ao [0] [] [A1] rfl Nf rfl (ih a3 (by unfold aN;omega)) fun v I3 qs al aa a4=>?_;obtain⟨rfl,vk3,rfl,aS⟩:=a4;simp only[Z3]at al |-;obtain⟨ra,rc,rfl,_⟩:=id aS;apply RG;simp only[go_sem,iv,cG];refine ax al (by exact kH) rfl rfl rfl rfl rfl bg fun nb I4 a9 aj a5=>?_;have bb:Sl (iS (.slice wa wn wc)) I4 (.slice (some ⟨nb,0,none⟩) 1 1) [m]:=⟨_,_,rfl,.inr ⟨nb,0,_,rfl,(az a5 (by simp[aD,Value.cells]) (by simp[aD,Value.cells]):aP I4 nb 0 [.int .u8 m.kind,.string ⟨⟨m.text⟩⟩,.int .i64 m.tok,.int .i64 m.slot,.slice ra m.kids.length rc,.slice wa wn wc]),.one (iS.mk (SlW.le aS aj))⟩⟩;refine dP ?_;refine bl (R:=iS (.slice wa wn wc)) (xs:=n.kids.take i) (ys:=[m]) a9 (by exact kH) (Vq.le hA (abV aa aj)) bb (fun{I J c a} h k=>iS.le h k) (fun{I} c a h=>iS.len (I:=I) c a h) (fun{I} c a h=>iS.oneW rfl h) rfl rfl rfl rfl (by rw[a1];simp only[aaj,aaO];omega) (by rw[a1];simp only[aaj,aaO];unfold maxLen;omega) fun ua uc I5 A5 a7 an bc=>?_;apply RG;simp only[go_sem,iv,e1];exact ac (i+1,.slice ua (n.kids.take i++[m]).length uc) _ _ dt bM (by simp only[go_sem,aa6,SJ]) ⟨I5,A5,rfl,a7,abV ak (abV aa (abV aj an)),a2,by simp only;rw[show n.kids.take (i+1)=n.kids.take i++[m] from db hm];exact bc⟩
  ·have:i=n.kids.length:=by omega
   subst this;have aq:=Z6 n.kids.length;rw[aaS]at hA |-;refine bf ao [0] fun al=>?_;refine ae (c:=.st _) al fun I3 al aa bd=>?_;apply RG;simp only[go_sem,iv,aq];exact af rfl al (r:=[cG n (.slice oa n.kids.length oc) (.slice wa wn wc)]) (by simp only[Tryz.results75,go_sem,iv,cG]) (abV ak aa) ⟨rfl,_,rfl,abX (R:=iS (.slice wa wn wc)) (fun{I J c a} h k=>iS.le h k) hA aa bd⟩
def DQ:aO Tryz.prog 30:=⟨_,Tryz.func30,rfl,rfl⟩
def E3(l:List (Nat×bq)):List Syn.Tok:=(l.map cY).map refit
def uH(l:List (Nat×bq)):(E3 l).length=l.length:=by unfold E3;rw[aah,aah]
def LR.refitK{I:PH}:∀{ts:List Syn.Tok} {xs:List Value},LR (DT I) xs ts->LR (DT I) xs (ts.map Go.Proofs.YtfaclfkpnmcmlaaGreatDoor.refit)
 | [],_,h=>h
 |_::_,_,⟨c,ys,e,h1,h2⟩=>⟨c,ys,e,h1,LR.refitK h2⟩
def Sl.refitK{ts:List Syn.Tok}(h:Sl DT I v ts):Sl DT I v (ts.map Go.Proofs.YtfaclfkpnmcmlaaGreatDoor.refit):=by
 obtain⟨a,c,rfl,h⟩:=h;exact⟨a,c,by rw[aah],h.imp (fun e=>by rw[e];rfl) fun⟨b,off,xs,e1,e2,e3⟩=>⟨b,off,xs,e1,e2,LR.refitK e3⟩⟩
def FF(c:bP)(l:List (Nat×bq)):∀t∈E3 l,t.cond.at' c=true:=by
 intro t ht;unfold E3 at ht;rw[aas]at ht;obtain⟨x,_,rfl⟩:=List.mem_map.1 ht;rfl
def uN{c:bP}{ts:List Syn.Tok}(h:∀t∈ts,t.cond.at' c=true):fG c ts=ts:=List.filter_eq_self.2 h
def zA{c:bP}:∀{ts:List Syn.Tok} (i:Nat),(∀t∈ts,t.cond.at' c=true)->jY c ts i=List.range' i ts.length
 | [],_,_=>rfl
 |t::l,i,h=>by
  rw[jY,h t (List.mem_cons_self ..),zA (ts:=l) (i+1) fun x hx=>h x (List.mem_cons_of_mem _ hx)];rfl
def F6{c:bP}{ts:List Syn.Tok}(h:∀t∈ts,t.cond.at' c=true){t:Nat}(ht:t<=ts.length):cn c ts t=t:=by
 unfold cn;rw[uN fun x hx=>h x (abf hx),abF];omega
structure HV where
 i:Nat
 xa:Option Addr
 xn:Nat
 xc:Nat
def G1(v w:Value)(n:Nat)(x:HV):St:=⟨dn 49 [(0,.v v),(1,.v w),(4,.p 4 0),(5,.v (.bool false)),(6,.p 13 0),(7,.v (iv x.i))],[⟨4,67,yK⟩,⟨13,150,[v,.slice x.xa x.xn x.xc,iv n,.int .i64 0,.int .i64 0,.bool false,.int .u8 0,.int .i64 0]⟩]⟩
def IJ(I0:PH)(n:Nat)(x:HV)(H:PH):Prop:=∃I B,H=U [I,B]/\Dj [I,B]/\I0.le I/\x.i<=n/\Ue I B (.slice x.xa x.xn x.xc) (List.range x.i)/\x.xn=x.i
theorem zx{l:List (Nat×bq)}{c:bP}{m:Nat}{q:PR}{wn wc:Nat}(hS:Sl DT I v (l.map cY))(hl:l.length<=256)(hx:∀x∈l,x.2.length<2^40)
  (hq:bS c (E3 l) m (.line 0 0 (some 0) 0)=some q) (hz:q.p.isSome=true->du q.l<=aN) :
  aK Tryz.prog 30 #[v,.slice wa wn wc] I [] fun r I2 qs=>qs=[]/\(q.p=some l.length->∃n vk,q.l=[n]/\r=.tuple #[cG n vk (.slice wa wn wc),.bool true]/\Sl (iS (.slice wa wn wc)) I2 vk n.kids)/\
   (q.p≠some l.length->r=.tuple #[.agg yK.toArray,.bool false]):=by
 obtain⟨va,vc,rfl,_⟩:=id hS;have b4:(l.map cY).length=l.length:=aah _;rw[b4]at hS |-;intro hd;refine ah 49 Tryz.func30 fun w0=>?_;refine dP ?_;refine aR hd fun cb=>?_;refine aA (fun x=>l.length-x.i) (G1 (.slice va l.length vc) (.slice wa wn wc) l.length) (IJ I l.length) ⟨0,none,0,0⟩ bM (by simp only[go_sem,aa6,G1,iv,yK]) ?_ ?_
 ·exact⟨I,_,rfl,cb,abW _,aaL _,Ow.nil _ _ _ _,rfl⟩
 rintro⟨i,xa,xn,xc⟩ H ⟨I1,B1,rfl,bs,ag,hi,hB,a1⟩ ao;simp only at hi hB a1;rw[a1]at hB;rw[a1];simp only[G1];rcases aaf i l.length with b5|cd
 ·have a6:decide ((i:Int)<(l.length:Int))=true:=abU ab;have e1:IntKind.i64.wrap ((i:Int)+1)=((i+1:Nat):Int):=by rw[<-wrap64 (n:=i+1) ab];congr 1
  have a9:(List.range i).length=i:=List.length_range;apply RG;simp only[go_sem,iv,a6];refine ax bs (by exact tz) rfl rfl rfl rfl rfl bg fun xb I4 aq aa bF=>?_;have hX:Sl NQ I4 (.slice (some ⟨xb,0,none⟩) 1 1) [i]:=⟨_,_,rfl,.inr ⟨xb,0,[iv i],rfl,az bF (by simp[aD,Value.cells]) (by simp[aD,Value.cells,iv]),.one rfl⟩⟩;refine dP ?_;refine bl (R:=NQ) (xs:=List.range i) (ys:=[i]) aq (by exact tz) (Ue.le hB aa) hX (fun{I J c a} h k=>h) (fun{I} c a h=>by rw[show c=_ from h];rfl) (fun{I} c a h=>by rw[show c=_ from h];rfl) rfl rfl rfl rfl (by rw[a9];simp only[aaj,aaO];omega) (by rw[a9];simp only[aaj,aaO];unfold maxLen;omega) fun ua uc I5 B5 ca al a5=>?_;rw[<-List.range_succ]at a5 |-;rw[List.length_range]at a5 |-;apply RG;simp only[go_sem,iv,e1];exact ao ⟨i+1,ua,i+1,uc⟩ _ _ dt bM (by simp only[go_sem,aa6,G1,iv,yK]) ⟨I5,B5,rfl,ca,abV ag (abV aa al),b5,a5,rfl⟩
 ·have:i=l.length:=by omega
  subst this;have a6:=Z6 l.length;refine bf bs [0] fun aq=>?_;refine ae (c:=.st _) aq fun I2 aq ac cc=>?_;apply bL 7;simp only[go_sem,iv,a6];refine fV 13 aq rfl fun pb b8=>?_;have ak:=FF c l;have b3:Ex c (E3 l) I2 (.slice va l.length vc) (.slice xa l.length xc):=by
   refine⟨?_,?_,s9 _ _ _,?_,?_⟩
   ·rw[uN ak];exact Sl.refitK (Sl.le (R:=DT) (fun{I J c a} h k=>h) hS (abV ag ac))
   ·rw[zA 0 ak,uH,<-List.range_eq_range'];exact abX (R:=NQ) (fun{I J c a} h k=>h) hB ac cc
   ·rw[uN ak,uH];omega
   ·rw[uN ak];intro t ht;unfold E3 at ht;rw[aas]at ht;obtain⟨x,b0,rfl⟩:=List.mem_map.1 ht;exact⟨rfl,hx x b0⟩
  have g0:Sg c (E3 l) ⟨0,0,false,0,0⟩ (some 0) 0 []:=⟨aaL _,rfl,rfl,by simp[cn,fG],aaL _,ab,rfl⟩;have bb:=(XO (c:=c) (ts:=E3 l) (lv:=.slice va l.length vc) (xv:=.slice xa l.length xc) (m+1)).l 0 0 ab pb I2 _ 0 0 [] q b3 g0 trivial ⟨m,aba m,hq⟩;have cf:=Bv hq trivial;rw[uH]at bb;apply RG;simp only[go_sem,mF,List.map,iv,pt];refine ad b8 [0] [sg pb _] [] rfl oe rfl (bb) fun v I3 qs an am b2=>?_;obtain⟨s2,n,vk,rfl,g2,rfl,bd,b6⟩:=b2;rw[uH]at an |-;simp only[Z3]at an |-;obtain⟨ka,kc,rfl,_⟩:=id bd;apply RG;simp only[go_sem,cG];refine XN (l:=[.bool s2.bad]) rfl (qQ an) (.inr ⟨Ep,rfl⟩) ?_;cases aS:q.p with
  |none=>
   rw[aS]at g2;have a4:s2.bad=true:=g2.2.1;refine bf an [0] fun aj=>?_;refine ae aj fun I4 aj aa bx=>?_;apply RG;simp only[go_sem,a4,yK];refine af rfl aj (r:=[.agg yK.toArray,.bool false]) (by simp only[Tryz.results30,go_sem,iv,yK]) (Em ag ac am aa) ⟨rfl,fun h=>(by cases h),fun _=>rfl⟩
  |some t=>
   rw[aS]at g2;have a4:s2.bad=false:=g2.2.1;apply RG;simp only[go_sem,a4];refine XN (l:=[iv s2.pos]) rfl (qQ an) (.inr ⟨jq,rfl⟩) ?_;have ba:s2.pos=t:=by rw[g2.2.2.2.1];exact F6 ak g2.2.2.2.2.1
   by_cases ht:t=l.length
   ·have a2:((s2.pos:Int) != (l.length:Int))=false:=by rw[ba,ht];simp
    refine bf an [0] fun aj=>?_;refine ae aj fun I4 aj aa bx=>?_;have bc:=b6 t aS;have hz:=hz (by rw[aS];rfl);rw[bc]at hz;have a3:∃d,Sl (jK eQ d) I4 (.slice ka n.kids.length kc) n.kids:=by
     obtain⟨a,b,e,h⟩:=bd.le aa;rcases h with h|⟨b',off,xs,e1,e2,e3⟩
     ·exact⟨0,a,b,e,.inl h⟩
     ·obtain⟨d,h4⟩:=LR.depthR e3;exact⟨d,a,b,e,.inr ⟨b',off,xs,e1,e2,h4⟩⟩
    obtain⟨d,a3⟩:=a3;have bC:du n.kids<=aN:=by simp only[du,SZ]at hz;omega
    apply RG;simp only[go_sem,iv,a2,yK];refine bV aj rfl Nf (Sf d a3 bC) fun v I5 qs b7 al b1=>?_;obtain⟨rfl,vk4,rfl,a7⟩:=b1;obtain⟨ra,rc,rfl,_⟩:=id a7;apply RG;simp only[go_sem,cG,yK];refine af rfl b7 (r:=[cG n (.slice ra n.kids.length rc) (.slice wa wn wc),.bool true]) (by simp only[Tryz.results30,go_sem,iv,cG]) (Kg ag ac am aa al) ⟨rfl,fun _=>⟨n,_,bc,rfl,a7⟩,fun h=>absurd (by rw[ht]) h⟩
   ·have a2:((s2.pos:Int) != (l.length:Int))=true:=by rw[ba];simp;omega
    refine bf an [0] fun aj=>?_;refine ae aj fun I4 aj aa bx=>?_;apply RG;simp only[go_sem,iv,a2,yK];refine af rfl aj (r:=[.agg yK.toArray,.bool false]) (by simp only[Tryz.results30,go_sem,iv,yK]) (Em ag ac am aa) ⟨rfl,fun h=>absurd (aaZ h) ht,fun _=>rfl⟩
end Go.Proofs.YtfaclfkpnmcmlaaGreatDoor
namespace Syn
open Dg
def xj(t:T):Prop:=t=tt\/t=ff
theorem xj.and{a b:T}(h:xj a)(k:xj b):xj (a.and b):=by
 rcases h with rfl|rfl<;>rcases k with rfl|rfl
 ·exact .inl bg
 ·exact .inr bg
 ·exact .inr bg
 ·exact .inr bg
theorem xj.or{a b:T}(h:xj a)(k:xj b):xj (a.or b):=by
 rcases h with rfl|rfl<;>rcases k with rfl|rfl
 ·exact .inl bg
 ·exact .inl bg
 ·exact .inl bg
 ·exact .inr bg
theorem xj.not{a:T}(h:xj a):xj a.not:=by
 rcases h with rfl|rfl
 ·exact .inr bg
 ·exact .inl bg
def Je(f:ar):Prop:=∀s∈f,s.2=tt
def JQ(hs:List aB):Prop:=∀h∈hs,h.cond=tt
def Jv(e:List cO):Prop:=e≠[]->∃d∈e,d.cond=tt
mutual
def J5:Nd->Prop
 |⟨_,_,_,_,ks,c⟩=>xj c/\JL ks
def JL:List Nd->Prop
 | []=>True
 |n::l=>J5 n/\JL l
end
theorem vU(n:Nd):J5 n<->xj n.cond/\JL n.kids:=by cases n;exact Iff.rfl
theorem k0:∀{l:List Nd},JL l<->∀n∈l,J5 n
 | []=>⟨fun _ n h=>(aaB h).elim,fun _=>trivial⟩
 |n::l=>by
  rw[JL,k0 (l:=l)];exact⟨fun h m hm=>(List.mem_cons.1 hm).elim (fun e=>e▸h.1) (h.2 m),fun h=>⟨h n (List.mem_cons_self ..),fun m hm=>h m (List.mem_cons_of_mem _ hm)⟩⟩
theorem tv{a b:List Nd}(h:JL a)(k:JL b):JL (a++b):=k0.2 fun n hn=>by
 rcases List.mem_append.1 hn with hn|hn
 ·exact k0.1 h n hn
 ·exact k0.1 k n hn
theorem ln{n:Nd}(h:xj n.cond)(k:JL n.kids):JL [n]:=⟨(vU n).2 ⟨h,k⟩,trivial⟩
theorem Jv.app{a b:List cO}(h:Jv a)(k:Jv b):Jv (a++b):=fun hn=>by
 cases a with
 |nil=>obtain⟨d,hd,e⟩:=k hn;exact⟨d,hd,e⟩
 |cons x a=>obtain⟨d,hd,e⟩:=h (by simp);exact⟨d,aau _ hd,e⟩
theorem Jv.nil:Jv []:=fun h=>absurd rfl h
theorem Je.nil:Je []:=fun d h=>by cases h
theorem Jv.fail{h:aB}(k:h.cond=tt)(n:Nat):Jv (cJ h n):=fun _=>⟨_,.tail _ (.head _),k⟩
structure J4(r:bW):Prop where
 l:JL r.l
 f:Je r.f
 e:Jv r.e
theorem Je.ins:∀{f:ar} {a:Nat} {d:T},Je f->d=tt->Je (ins f a d)
 | [],a,d,_,h=>fun s hs=>by rw[Syn.ins,List.mem_singleton]at hs;subst hs;exact h
 |(b,e)::l,a,d,hf,h=>by
  have h1:e=tt:=hf (b,e) (List.mem_cons_self ..);have h2:Je l:=fun s hs=>hf s (List.mem_cons_of_mem _ hs);rw[Syn.ins];split
  ·intro s hs;rcases List.mem_cons.1 hs with rfl|hs
   ·exact h1
   ·exact Je.ins h2 h s hs
  split
  ·intro s hs;rcases List.mem_cons.1 hs with rfl|hs
   ·rw[h1,h];exact(by decide:(T.or tt tt:T)=tt)
   ·exact h2 s hs
  ·intro s hs;rcases List.mem_cons.1 hs with rfl|hs
   ·exact h
   ·exact hf s hs
variable{f:ar}
theorem Je.join{a:Nat}{d:T}(hf:Je f)(h:xj d):Je (join f a d):=by
 unfold Syn.join;split
 ·exact hf
 ·rename_i hn;exact hf.ins (h.resolve_right hn)
theorem Je.joinAll{g:ar}(hf:Je f)(hg:Je g):Je (joinAll f g):=lK Je hf fun z x hx hz=>hz.join (.inl (hg x hx))
theorem Je.hs{hs:List aB}(hf:Je f)(h:JQ hs):Je (hs.foldl joinH f):=lK Je hf fun z x hx hz=>hz.join (.inl (h x hx))
theorem Je.hs1{hs:List aB}(hf:Je f)(h:JQ hs):Je (hs.foldl joinH1 f):=lK Je hf fun z x hx hz=>hz.join (.inl (h x hx))
theorem Je.one{a:Nat}{d:T}(h:d=tt):Je [(a,d)]:=fun s hs=>by rw[List.mem_singleton]at hs;subst hs;exact h
theorem Je.spread:∀{l:List Tok} {f:ar} {i:Nat} {d:T},(∀t∈l,t.cond=tt)->Je f->xj d->Je (spread f l i d)
 | [],f,i,d,_,hf,h=>by rw[Syn.spread];exact hf.join h
 |t::l,f,i,d,hl,hf,h=>by
  have ht:xj t.cond:=.inl (hl t (List.mem_cons_self ..));rw[Syn.spread];split
  ·exact hf
  ·exact Je.spread (fun x hx=>hl x (List.mem_cons_of_mem _ hx)) (hf.join (h.and ht)) (h.and ht.not)
section
variable {ts:List Tok} (hts:∀t∈ts,t.cond=tt)
include hts
variable{f:ar}
theorem JQ.heads(hf:Je f):JQ (heads ts f):=by
 intro h hh;unfold Syn.heads at hh;obtain⟨s,hs,rfl⟩:=List.mem_map.1 hh;have hs:=(List.mem_filter.1 hs).1;have hb:Je (eK ts f):=lK Je Je.nil fun z x hx hz=>Je.spread (fun t ht=>hts t (List.mem_of_mem_drop ht)) hz (.inl (hf x hx));have:=hb s hs;unfold cQ;split
 ·split<;>exact this
 ·exact this
theorem JQ.take(hf:Je f)(s:bq):Je (take ts f s).1/\Jv (take ts f s).2:=by
 refine lK (fun r:ar×List cO=>Je r.1/\Jv r.2) ⟨Je.nil,Jv.nil⟩ fun z x hx hz=>?_;have hb:=JQ.heads hts hf x hx;obtain⟨a,b⟩:=z;simp only;split
 ·exact⟨hz.1.join (.inl hb),hz.2⟩
 ·exact⟨hz.1,hz.2.app (Jv.fail hb _)⟩
theorem JQ.split(hf:Je f)(is:aB->Bool):JQ (aM ts f is).1/\Je (aM ts f is).2:=by
 refine lK (fun r:List aB×ar=>JQ r.1/\Je r.2) ⟨fun h hh=>(by cases hh),Je.nil⟩ fun z x hx hz=>?_;have hb:=JQ.heads hts hf x hx;obtain⟨a,b⟩:=z;simp only;split
 ·refine⟨fun h hh=>?_,hz.2⟩;rcases List.mem_append.1 hh with hh|hh
  ·exact hz.1 h hh
  ·rw[List.mem_singleton]at hh;subst hh;exact hb
 ·exact⟨hz.1,hz.2.join (.inl hb)⟩
theorem J4.named(hf:Je f)(kind slot:Nat):J4 (named ts f kind slot):=by
 refine lK J4 ⟨trivial,Je.nil,Jv.nil⟩ fun z x hx hz=>?_;have hb:=JQ.heads hts hf x hx;split
 ·exact⟨hz.l,hz.f,hz.e.app (Jv.fail hb _)⟩
 ·exact⟨tv hz.l (ln (.inl hb) trivial),hz.f.join (.inl hb),hz.e⟩
theorem J4.over(hf:Je f){g:aB->Option bW}(hg:∀h,h.cond=tt->∀r,g h=some r->J4 r){r:bW}(e:cT ts f g=some r):J4 r:=by
 unfold cT at e;have hh:=JQ.heads hts hf;generalize heads ts f=hs at e hh;have hz:J4 ⟨[],[],[]⟩:=⟨trivial,Je.nil,Jv.nil⟩;generalize (⟨[],[],[]⟩:bW)=z at e hz
 induction hs generalizing z with
 |nil=>cases e;exact hz
 |cons h hs ih=>
  rw[lH]at e;cases hx:g h with
  |none=>rw[hx]at e;cases e
  |some x=>
   have aa:=hg h (hh h (List.mem_cons_self ..)) x hx;rw[hx]at e;simp only at e;by_cases hc:(z.l++x.l).length<=aN
   ·rw[aaq hc]at e;exact ih (fun k hk=>hh k (List.mem_cons_of_mem _ hk)) _ e ⟨tv hz.l aa.l,hz.f.joinAll aa.f,hz.e.app aa.e⟩
   ·rw[ZV hc]at e;cases e
end
variable{d:T}{l:List Nd}
theorem DC(hl:JL l)(hd:xj d):JL (fX l d):=k0.2 fun n hn=>by
 obtain⟨m,hm,e⟩:=List.mem_filterMap.1 hn;have h:=(vU m).1 (k0.1 hl m hm);split at e
 ·cases e
 ·cases e;exact(vU _).2 ⟨h.1.and hd,h.2⟩
theorem Bx(hl:JL l)(hd:xj d):JL (dH l d):=k0.2 fun n hn=>by
 obtain⟨m,hm,e⟩:=List.mem_filterMap.1 hn;have h:=(vU m).1 (k0.1 hl m hm);split at e
 ·cases e
 ·cases e;exact(vU _).2 ⟨h.1.and hd.not,h.2⟩
theorem Ew(hl:JL l)(hd:xj d):JL (kJ l d):=by
 cases l with
 |nil=>exact hl
 |cons n l=>
  have h:=(vU n).1 hl.1;exact⟨(vU _).2 ⟨h.1.and hd.not,h.2⟩,hl.2⟩
def Kh:Call->Prop
 | .line _ _ f _=>Je f
 | .lineL _ _ _ _ l g out=>JL l/\Je g/\Je out
 | .lineO _ _ _ ops l g=>JQ ops/\JL l/\Je g
 | .unary _ f _=>Je f
 | .unaryH _ h _=>h.cond=tt
 | .calls _ _ _ xs names g=>JQ xs/\JL names/\Je g
 | .inside _ f _=>Je f
 | .listed par _ f=>par=false/\Je f
 | .listL par _ l g fin=>par=false/\JL l/\Je g/\Je fin
 | .item par _ f=>par=false/\Je f
 |_=>False
theorem jc{α β:Type}{a:Option α}{f:α->Option β}{q:β}(h:(a >>= f)=some q):∃x,a=some x/\f x=some q:=by
 cases a with
 |none=>cases h
 |some x=>exact⟨x,rfl,h⟩
theorem Eh{ts:List Tok}(hts:∀t∈ts,t.cond=tt){rec:sY}(H:∀x r,rec x=some r->Kh x->J4 r):∀x r,step ts rec x=some r->Kh x->J4 r:=by
 intro x r e w;cases x with
 |line k o f slot=>
  simp only[step,line]at e;split at e
  ·exact H _ _ e w
  ·obtain⟨a,ha,e⟩:=jc e;obtain⟨b,hb,e⟩:=jc e;cases e
   have a1:=H _ _ ha w;have b1:=H _ _ hb ⟨a1.l,a1.f,Je.nil⟩;exact⟨b1.l,b1.f,a1.e.app b1.e⟩
 |lineL k o slot first l g out=>
  obtain⟨w1,w2,w3⟩:=w;simp only[step,lineL]at e;split at e
  ·cases e;exact⟨w1,w3,Jv.nil⟩
  split at e
  ·cases e;exact⟨w1,w3.joinAll w2,Jv.nil⟩
  ·have s:=JQ.split hts w2 (ti k);obtain⟨a,ha,e⟩:=jc e;obtain⟨b,hb,e⟩:=jc e;cases e
   have a1:=H _ _ ha ⟨s.1,w1,Je.nil⟩;have b1:=H _ _ hb ⟨a1.l,a1.f,w3.joinAll s.2⟩;exact⟨b1.l,b1.f,a1.e.app b1.e⟩
 |lineO k o slot ops l g=>
  obtain⟨w1,w2,w3⟩:=w;simp only[step,lineO]at e;cases ops with
  |nil=>cases e;exact⟨w2,w3,Jv.nil⟩
  |cons h ops=>
   have hb:=w1 h (List.mem_cons_self ..);obtain⟨a,ha,e⟩:=jc e;obtain⟨_,_,e⟩:=jc e;obtain⟨_,_,e⟩:=jc e;obtain⟨b,aa,e⟩:=jc e;cases e
   have a1:=H _ _ ha (Je.one hb);have b1:=H _ _ aa ⟨fun x hx=>w1 x (List.mem_cons_of_mem _ hx),tv (Bx w2 (.inl hb)) (ln (.inl hb) (tv (DC w2 (.inl hb)) a1.l)),w3.joinAll a1.f⟩;exact⟨b1.l,b1.f,a1.e.app b1.e⟩
 |unary o f slot=>exact J4.over hts w (fun h hb r e=>H (.unaryH o h slot) _ e hb) e
 |unaryH o h slot=>
  have hb:h.cond=tt:=w;simp only[step,unaryH]at e;split at e
  ·split at e
   ·cases e;exact⟨trivial,Je.nil,Jv.fail hb _⟩
   ·obtain⟨a,ha,e⟩:=jc e;cases e
    have a1:=H _ _ ha (Je.one hb);exact⟨ln (.inl hb) a1.l,a1.f,a1.e⟩
  split at e
  ·exact H _ _ e (Je.one hb)
  split at e
  ·cases e;exact⟨ln (.inl hb) trivial,Je.one hb,Jv.nil⟩
  split at e
  ·cases e;exact⟨ln (.inl hb) trivial,Je.one hb,Jv.nil⟩
  split at e
  ·cases e;exact⟨ln (.inl hb) trivial,Je.one hb,Jv.nil⟩
  have n1:=J4.named hts (Je.one (a:=h.at') hb) 18 slot;obtain⟨b,aa,e⟩:=jc e;cases e
  have s:=JQ.split hts n1.f (bD eM);have b1:=H _ _ aa ⟨s.1,n1.l,s.2⟩;exact⟨b1.l,b1.f,n1.e.app b1.e⟩
 |calls o h slot xs names g=>
  obtain⟨w1,w2,w3⟩:=w;simp only[step,calls]at e;cases xs with
  |nil=>cases e;exact⟨w2,w3,Jv.nil⟩
  |cons x xs=>
   have hb:=w1 x (List.mem_cons_self ..);obtain⟨a,ha,e⟩:=jc e;obtain⟨_,_,e⟩:=jc e;obtain⟨b,aa,e⟩:=jc e;cases e
   have a1:=H _ _ ha ⟨rfl,Je.one hb⟩;have b1:=H _ _ aa ⟨fun x hx=>w1 x (List.mem_cons_of_mem _ hx),tv (Ew w2 (.inl hb)) (ln (.inl hb) a1.l),w3.joinAll a1.f⟩;exact⟨b1.l,b1.f,a1.e.app b1.e⟩
 |inside o f slot=>
  refine J4.over hts w (fun h hb r e=>?_) e;unfold ml at e;split at e
  ·cases e;exact⟨trivial,Je.nil,Jv.fail hb _⟩
  split at e
  ·cases e;exact⟨trivial,Je.nil,Jv.fail hb _⟩
  obtain⟨a,ha,e⟩:=jc e;cases e
  have a1:=H _ _ ha (Je.one hb);have t:=JQ.take hts a1.f fK;exact⟨a1.l,t.1,a1.e.app t.2⟩
 |listed par o f=>
  obtain⟨rfl,w⟩:=w;refine J4.over hts w (fun h hb r e=>?_) e;unfold mw at e;split at e
  ·cases e;exact⟨trivial,Je.nil,Jv.fail hb _⟩
  split at e
  ·cases e;exact⟨trivial,Je.nil,Jv.fail hb _⟩
  have s:=JQ.split hts (Je.one (a:=h.at'+1) hb) (bD fK);obtain⟨a,ha,e⟩:=jc e;cases e
  have a1:=H _ _ ha ⟨rfl,trivial,s.2,Je.nil.hs s.1⟩;have t:=JQ.take hts a1.f fK;exact⟨a1.l,t.1,a1.e.app t.2⟩
 |listL par o l g fin=>
  obtain⟨rfl,w1,w2,w3⟩:=w;simp only[step,listL]at e;cases g with
  |nil=>cases e;exact⟨w1,w3,Jv.nil⟩
  |cons s g=>
   obtain⟨a,ha,e⟩:=jc e;obtain⟨_,_,e⟩:=jc e;obtain⟨b,hb,e⟩:=jc e;cases e
   have a1:=H _ _ ha ⟨rfl,Je.one (w2 s (List.mem_cons_self ..))⟩;have s1:=JQ.split hts a1.f (bD bB);have b1:=H _ _ hb ⟨rfl,tv w1 a1.l,Je.hs1 (fun x hx=>w2 x (List.mem_cons_of_mem _ hx)) s1.1,w3.joinAll s1.2⟩;exact⟨b1.l,b1.f,a1.e.app b1.e⟩
 |item par o f=>
  obtain⟨rfl,w⟩:=w;exact H _ _ (show rec (.line 0 o f 0)=some r from e) w
 |_=>exact w.elim
theorem AN{ts:List Tok}(hts:∀t∈ts,t.cond=tt):∀n x r,run ts n x=some r->Kh x->J4 r
 |0=>fun x r e=>by cases e
 |n+1=>Eh hts (AN hts n)
open Dg
def Ct:∀(m:Nat) (l:List Nd),gJ l<m->Us l->p7 l=true
 |0,_,h,_=>by omega
 |m+1,l,hm,hn=>by
  have aa:d4 l=l:=List.filter_eq_self.2 fun x hx=>by simpa using ((wW x).1 (hn.2 x hx)).2.1
  refine d5.2 ⟨by rw[aa];exact hn.1,fun x hx=>?_⟩;have hd:=oV hx;rw[wE]at hd;exact Ct m x.kids ab (Qg (hn.2 x hx))
mutual
theorem E2(c:bP):∀n:Nd,J5 n->YC tt n=pN c n
 |⟨k,t,o,s,ks,d⟩,h=>by
  obtain⟨hd,hk⟩:=h
  have ih:=xz c ks hk
  rcases hd with rfl|rfl
  ·have e:(tt:T).and tt=tt:=by decide
   rw[YC,pN,e,ZV bg,ih];rfl
  ·have e:(ff:T).and tt=ff:=by decide
   rw[YC,pN,e];rfl
theorem xz (c:bP):∀l:List Nd,JL l->nX tt l=pL c l
 | [],_=>rfl
 |n::l,h=>by rw[nX,pL,E2 c n h.1,xz c l h.2];cases pN c n<;>rfl
end
def wA{ts:List Tok}(hts:∀t∈ts,t.cond=tt)(c:bP){n:Nat}{r:bW}(e:run ts n (.line 0 0 [(0,tt)] 0)=some r):
  ∃(m:Nat) (q:PR),bS c ts m (.line 0 0 (some 0) 0)=some q/\RR c r q/\(r.e=[]<->q.e=[])/\r.f=q.p.toList.map (fun j=>(j,tt))/\nX tt r.l=q.l/\(q.p=none<->q.e≠[])/\
   ∀j,q.p=some j->j<=ts.length/\∃nd,q.l=[nd]/\nd.cond=tt/\Us [nd]/\p7 [nd]=true:=by
 have ag:bT ts:=fun t ht=>by rw[hts t ht];exact trivial
 have hf:cq [(0,(tt:T))]:=⟨fun s hs=>by rw[List.mem_singleton]at hs;subst hs;exact⟨trivial,by decide⟩,aaW _ _⟩;obtain⟨q,⟨m,hq⟩,R⟩:=CU (c:=c) ag n _ _ e _ (.line (k:=0) (o:=0) (slot:=0) hf (At.one c 0 tt));have hq:bS c ts m (.line 0 0 (some 0) 0)=some q:=hq;have B:=AN hts n _ _ e (show Je [(0,(tt:T))] from Je.one rfl);have ak:=Bv hq trivial;obtain⟨t,h1,_,h3⟩:=ak;have aj:=h3 (aaL _);refine⟨m,q,hq,R,⟨fun h=>?_,fun h=>?_⟩,?_,?_,?_,?_⟩
 ·have:=R.e;rw[h]at this;exact this.symm
 ·apply Classical.byContradiction;intro hn;obtain⟨d,hd,hc⟩:=B.e hn;have:=R.e;rw[h]at this;have hm:(d.code,d.tok)∈pE c r.e:=List.mem_map.2 ⟨d,List.mem_filter.2 ⟨hd,by rw[hc];rfl⟩,rfl⟩;rw[this]at hm;cases hm
 ·have h:=R.f;have h2:eS c r.f=r.f.map (·.1):=by
   unfold eS;rw[List.filter_eq_self.2 fun s hs=>by rw[B.f s hs];rfl]
  have h:eS c r.f=q.p.toList:=h;rw[h2]at h;rw[<-h,aas];have:∀s∈r.f,((fun j=>(j,(tt:T)))∘fun s:Nat×T=>s.1) s=s:=fun s hs=>by
   have:=B.f s hs;obtain⟨a,b⟩:=s;simp only at this;subst this;rfl
  rw[aat this,List.map_id']
 ·rw[xz c r.l B.l,R.l]
 ·rcases h1 with ⟨he,j,hp,_⟩|⟨hp,k,he,_⟩
  ·rw[hp,he];simp
  ·rw[hp,he];simp
 ·intro j hj;refine⟨aj.2 j hj,?_⟩;have he:q.e=[]:=by
   rcases h1 with ⟨he,_⟩|⟨hp,_⟩
   ·exact he
   ·rw[hp]at hj;cases hj
  have o1:O1 (nx c ts 0) (nx c ts j) 0 q.l:=(An m _ _ hq trivial).2 0 j rfl he hj;obtain⟨h4,h5⟩:=o1
  match hl:q.l,h4,h5 with
  | [nd],_,h5=>
   have ac:=h5.1 nd (List.mem_singleton.2 rfl);have aa:Us [nd]:=⟨aaW _ _,fun m hm=>by rw[List.mem_singleton.1 hm];exact ac.1⟩;exact⟨nd,rfl,ac.2.1,aa,Ct _ _ (aba _) aa⟩
open Dg
def Cq{ts:List Tok}(hts:∀t∈ts,t.cond=tt)(hl:ts.length<=256)(hX:∀i,(X ts i).length<4611686018427387904):∃r,run ts iW (.line 0 0 [(0,tt)] 0)=some r/\r.e.length<=aN/\du (nX tt r.l)<=aN/\iE (nX tt r.l)/\nJ (nX tt r.l)/\
  (r.f=[]\/∃j,r.f=[(j,tt)])/\(r.f≠[]->p7 (nX tt r.l)=true/\∃nd,nX tt r.l=[nd]/\mL (gJ (nX tt r.l)+1) (nX tt r.l)=[nd])/\
  ∀c:bP,∃(m:Nat) (q:PR),bS c ts m (.line 0 0 (some 0) 0)=some q/\(r.e=[]<->q.e=[])/\r.f=q.p.toList.map (fun j=>(j,tt))/\nX tt r.l=q.l/\(q.p=none<->q.e≠[])/\(q.p.isSome=true->du q.l<=aN)/\pL c r.l=q.l:=by
 have aj:bT ts:=fun t ht=>by rw[hts t ht];exact trivial
 have aa:=(tt:T).card_le;have ak:(tt:T).card*(ts.length+1)<=2^24*257:=Nat.mul_le_mul aa ab;have hb:cU ts (.line 0 0 [(0,tt)] 0)<=aN:=by
  simp only[cU,fO,dO,lp,Nat.sub_zero];unfold aN;omega
 have al:mu ts (.line 0 0 [(0,tt)] 0)<iW:=by
  simp only[mu,fO,dO,lp,Nat.sub_zero];unfold iW;omega
 have fn:FN ts.length [(0,(tt:T))]:=⟨⟨fun s hs=>by rw[List.mem_singleton]at hs;subst hs;exact⟨trivial,by decide⟩,aaW _ _⟩,fun s hs=>by rw[List.mem_singleton]at hs;subst hs;exact aaL _⟩;obtain⟨r,er,q1,q2⟩:=G2 aj iW _ (show lX ts (.line 0 0 [(0,tt)] 0) from ⟨fn,ab⟩) hb al;obtain⟨m0,q0,ac,R0,a1,a2,a3,a4,a5⟩:=wA hts (fun _=>false) er;have key:∀(c:bP) (m:Nat) (q:PR),bS c ts m (.line 0 0 (some 0) 0)=some q->du q.l<=257:=fun c m q hq=>by
  have h1:=(CZ m _ _ hq trivial).1;simp only[wt,iP,Nat.sub_zero]at h1;omega
 have ag:du (nX tt r.l)<=aN:=by rw[a3];have:=key _ _ _ ac;unfold aN;omega
 refine⟨r,er,ab,ag,(mY r.l tt trivial R0.lok).1,?_,?_,?_,?_⟩
 ·rw[a3];exact CR ab hX m0 _ _ ac (by show (0:Nat)<=2;omega)
 ·cases hp:q0.p with
  |none=>left;rw[a2,hp];rfl
  |some j=>right;exact⟨j,by rw[a2,hp];rfl⟩
 ·intro hf;cases hp:q0.p with
  |none=>rw[a2,hp]at hf;exact absurd rfl hf
  |some j=>
   obtain⟨_,nd,h1,h2,h3,h4⟩:=a5 j hp;rw[a3,h1];exact⟨h4,nd,rfl,G5 _ (Nat.le_succ _) h3 (fun _=>Iff.rfl)⟩
 ·intro c;obtain⟨m,q,hq,b0,b1,b2,b3,b4,_⟩:=wA hts c er;exact⟨m,q,hq,b1,b2,b3,b4,fun _=>by have:=key _ _ _ hq;unfold aN;omega,b0.l⟩
end Syn
namespace Go.Proofs.YtfaclfkpnmcmlaaGreatDoor
open Go Go.Sx Dg Syn
def Gl:aO Tryz.prog 28:=⟨_,Tryz.func28,rfl,rfl⟩
def E0(l:List (Nat×bq)):List Syn.Tok:=(l.map cY).map refit
def uY:List Value:=[.int .u8 0,.string ⟨#[]⟩,.int .i64 0,.int .i64 0,.slice none 0 0,.slice none 0 0,iv 0]
def tO(n:Nat)(r:Syn.bW):Bool:=decide (r.e=[]) && decide (r.f=[(n,tt)]) && decide ((nX tt r.l).length=1)
structure Hy(l:List (Nat×bq))(r:Syn.bW):Prop where
 run:Syn.run (E0 l) Syn.iW (.line 0 0 [(0,tt)] 0)=some r
 e:r.e.length<=aN
 s:du (nX tt r.l)<=aN
 o:iE (nX tt r.l)
 m:nJ (nX tt r.l)
 f:r.f=[]\/∃j,r.f=[(j,tt)]
 g:r.f≠[]->p7 (nX tt r.l)=true/\∃nd,nX tt r.l=[nd]/\mL (gJ (nX tt r.l)+1) (nX tt r.l)=[nd]
 q:∀c:bP,∃(m:Nat) (q:PR),bS c (E0 l) m (.line 0 0 (some 0) 0)=some q/\(r.e=[]<->q.e=[])/\r.f=q.p.toList.map (fun j=>(j,tt))/\nX tt r.l=q.l/\(q.p=none<->q.e≠[])/\(q.p.isSome=true->du q.l<=aN)/\pL c r.l=q.l
def Is{s:bq}(hl:s.length<2^40){l:List (Nat×bq)}(h:wX s=some l):l.length<=256/\(∀x∈l,x.2.length<2^40)/\∃r,Hy l r:=by
 unfold wX at h;split at h
 ·rename_i l' aa;split at h
  ·cases h
  ·rename_i hn;cases h
   have ag:l.length<=256:=Nat.not_lt.1 hn;have hx:∀x∈l,x.2.length<2^40:=fun x hx=>by
    unfold rI at aa;split at aa
    ·have:=th _ _ _ (aba _) aa x hx;omega
    ·cases aa
   have ak:∀t∈E0 l,t.cond=tt:=fun t ht=>by
    unfold E0 at ht;rw[aas]at ht;obtain⟨x,_,rfl⟩:=List.mem_map.1 ht;rfl
   have ac:(E0 l).length=l.length:=by unfold E0;rw[aah,aah]
   obtain⟨r,h1,h2,h3,h4,h5,h6,h7,h8⟩:=Cq ak (by rw[ac];exact ag) (Pe (ts:=l.map cY) fun t ht=>by obtain⟨x,aj,rfl⟩:=List.mem_map.1 ht;exact hx x aj);exact⟨ag,hx,r,h1,h2,h3,h4,h5,h6,h7,h8⟩
 ·cases h
def Dd(s:bq)(v:Value)(I2:PH)(qs:List PH):Prop:=qs=[]/\match wX s with
 |none=>v=.tuple #[.agg uY.toArray,iv (qV s)]/\qV s≠0
 |some l=>qV s=0/\∃r,Hy l r/\if tO l.length r then ∃nd cs,nX tt r.l=[nd]/\v=.tuple #[.agg cs.toArray,iv 0]/\bm I2 cs nd else v=.tuple #[.agg uY.toArray,iv 4]
theorem E1{I:PH}{s:bq}(hl:s.length<2^40)(hV:ir I):aK Tryz.prog 28 #[.string ⟨⟨s⟩⟩] I [] (Dd s):=by
 intro hd;refine ah 61 Tryz.func28 fun w0=>?_;refine aT ?_;refine bV hd rfl Nq (Gu hl hV) fun v I1 qs b6 a3 hq=>?_;unfold Ge at hq;cases hx:wX s with
 |none=>
  rw[hx]at hq;obtain⟨rfl,rfl,cB⟩:=hq;have dI:(((qV s:Nat):Int) != 0)=true:=by simp;omega
  apply RG;simp only[go_sem,iv,dI];exact af rfl b6 (r:=[.agg uY.toArray,iv (qV s)]) (by simp only[Tryz.results28,go_sem,iv,uY]) a3 (by unfold Dd;rw[hx];exact⟨rfl,rfl,cB⟩)
 |some l=>
  rw[hx]at hq;obtain⟨A,va,rfl,rfl,hA,cj⟩:=hq;obtain⟨d1,c3,r,hB⟩:=Is hl hx;simp only[Z3]at b6 |-;obtain⟨aa,ac,rfl⟩:=hA.shape;have bs:(l.map cY).length=l.length:=aah _;refine bf b6 [0] fun b3=>?_;refine ae b3 fun I2 b3 a2 dA=>?_;have hS:Sl dz I2 (.slice aa (l.map cY).length ac) (l.map cY):=abX (R:=dz) (fun{I J c a} h k=>dz.le h k) hA a2 dA;refine dP ?_;refine bV b3 rfl TC (CA ((hV.le a3).le a2) hS (by rw[bs];omega) (fun t ht=>by obtain⟨x,cf,rfl⟩:=List.mem_map.1 ht;exact c3 x cf)) fun v1 I3 qs da a7 hq=>?_;obtain⟨pb,fv,rfl,rfl,hF⟩:=hq;have hP:zr I3 (E0 l) (.slice aa (l.map cY).length ac) fv:=⟨Sl.refit (Sl.le (R:=dz) (fun{I J c a} h k=>dz.le h k) hS a7),hF,by unfold E0;rw[aah,bs];omega,ns (fun t ht=>by obtain⟨x,cf,rfl⟩:=List.mem_map.1 ht;exact trivial)⟩;refine ll ?_;refine WZ rfl FR (Fp _) fun v H2 hv=>?_;obtain⟨rfl,rfl⟩:=hv;refine ll ?_;refine ax da (by exact jH) rfl rfl rfl rfl rfl bg fun nb I4 c9 a6 c2=>?_;have dv:eR I4 (.slice (some ⟨nb,0,none⟩) 1 1) [(0,tt)]:=⟨_,_,rfl,.inr ⟨nb,0,[iv 0,.slice none 0 0,iv 1],rfl,az c2 (by simp[aD,Value.cells]) (by simp[aD,Value.cells,iv]),.one ⟨_,_,rfl,mN I4 true⟩⟩⟩;refine ll ?_;refine aR c9 fun c8=>?_;refine bf c8 [1,0] fun c7=>?_;have fn:FN (E0 l).length [(0,tt)]:=⟨⟨fun s hs=>by rw[List.mem_singleton]at hs;subst hs;exact⟨trivial,by decide⟩,aaW _ _⟩,fun s hs=>by rw[List.mem_singleton]at hs;subst hs;exact aaL _⟩;refine ad c7 [0,1] [sg pb _,_] [] rfl rU rfl (rT (slot:=0) (zI (iW+1) iW (aba _) _ r hB.run) ab (hP.le a6) dv fn (Ow.nil _ _ _ _) (by have:=hB.e;unfold aN at this;simp only[aaO];unfold ux;omega)) fun v2 I5 qs cl b0 hq=>?_
  obtain⟨dv2,D2,rs,rfl,cp,⟨A5,B5,vA,vB,rfl,rfl,cb,cr⟩,eb,d3⟩:=hq;rw[aaA]at cp;simp only[Z3]at cl |-;obtain⟨ka,kc,rfl⟩:=cb.shape;obtain⟨ba,bc,rfl⟩:=cr.shape;obtain⟨ea,ec,rfl⟩:=cp.shape;have dx:=cb.capN bm.len;refine bf cl [0,1,2,3] fun b2=>?_;refine ae b2 fun I6 b2 a1 dc=>?_;refine bf b2 [0,1,2] fun b1=>?_;refine ae b1 fun I7 b1 aS ed=>?_;refine bf b1 [0,1] fun a5=>?_;refine ae a5 fun I8 a5 aq dy=>?_;refine bf a5 [0] fun a4=>?_;refine ae a4 fun I9 a4 ao dw=>?_;have cd:=abV aS (abV aq ao);have bF:aP I9 pb 4 [.slice ea r.e.length ec]:=(ay (by simp) rfl:aP (sg pb (cg (.slice aa (l.map cY).length ac) fv (.slice none 0 0) (.slice ea r.e.length ec) 0)) pb 4 [.slice ea r.e.length ec]).le (abV dc cd);have dk:eE I9 (.slice ka r.l.length kc) r.l:=eE.le (bQ.sl (bQ.le cb (abV a1 aS)) aq dy) ao;have ca:eR I9 (.slice ba r.f.length bc) r.f:=abX (R:=iD) (fun{I J c a} h k=>iD.le h k) (Ow.le (R:=iD) (fun{I J c a} h k=>iD.le h k) cr (abV a1 (abV aS aq))) ao dw;refine ll ?_;refine WZ rfl FR (Fp _) fun v H2 hv=>?_;obtain⟨rfl,rfl⟩:=hv;refine ll ?_;refine bV a4 rfl K8 (Jb (du r.l+1) (aba _) dk dx (mN I9 true) hB.s) fun v4 ef qs b5 bb hq=>?_;obtain⟨K,rfl,hK⟩:=hq;obtain⟨qa,qc,rfl⟩:=hK.shape;have ds:=hK.capN bm.len;refine bf b5 [0] fun ag=>?_;refine ae ag fun cx ag an b8=>?_;have dj:eE cx (.slice qa (nX tt r.l).length qc) (nX tt r.l):=bQ.sl hK an b8;have k911:=abV bb an;have ak:=abV a3 (abV a2 (abV a7 (abV a6 (abV b0 (abV a1 (abV cd k911))))));refine ll ?_
  refine XN (l:=[.slice ea r.e.length ec]) rfl (cellsU ag (.head _) (bF.le k911)) (.inr ⟨Te,rfl⟩) ?_;have bad:tO l.length r=false->Dd s (.tuple #[.agg uY.toArray,iv 4]) cx []:=fun hb=>by
   unfold Dd;rw[hx];exact⟨rfl,cj,r,hB,by rw[ZV (by rw[hb];decide)]⟩
  by_cases bd:r.e=[]
  rotate_left
  ·have bC:decide ((r.e.length:Int)>0)=true:=abU (by have:=List.length_pos_iff.2 bd;omega);apply RG;simp only[go_sem,iv,bC];apply RG;simp only[go_sem,iv,uY];exact af rfl ag (r:=[.agg uY.toArray,iv 4]) (by simp only[Tryz.results28,go_sem,iv,uY]) ak (bad (by unfold tO;rw[abT bd];rfl))
  have bC:decide ((r.e.length:Int)>0)=false:=by rw[bd];rfl
  rcases hB.f with hf|⟨j,hf⟩
  ·have ct:((r.f.length:Int) != 1)=true:=by rw[hf];rfl
   apply RG;simp only[go_sem,iv,bC,ct];apply RG;simp only[go_sem,iv,uY];exact af rfl ag (r:=[.agg uY.toArray,iv 4]) (by simp only[Tryz.results28,go_sem,iv,uY]) ak (bad (by unfold tO;rw[hf];simp))
  have ct:((r.f.length:Int) != 1)=false:=by rw[hf];rfl
  have ci:r.f≠[]:=by rw[hf];exact List.cons_ne_nil _ _
  have c5:r.f.length=1:=by rw[hf];rfl
  have c6:r.f[0]?=some (j,tt):=by rw[hf];rfl
  obtain⟨fb,fo,cs,rfl,⟨sl,rt,rfl,_⟩,aj⟩:=Sl.load (R:=iD) (fun{I} c a h=>iD.len (I:=I) c a h) (eR.le ca k911) c6;have c0:=aj.get (i:=0) rfl;rw[c5];apply RG;simp only[go_sem,iv,bC];refine XN (l:=[iv j]) rfl (cellsU ag (.head _) (by simpa using c0)) (.inr ⟨jq,rfl⟩) ?_;by_cases hj:j=l.length
  rotate_left
  ·have bx:((j:Int) != ((l.map cY).length:Int))=true:=by rw[bs];simp;omega
   apply RG;simp only[go_sem,iv,bx];apply RG;simp only[go_sem,iv,uY];exact af rfl ag (r:=[.agg uY.toArray,iv 4]) (by simp only[Tryz.results28,go_sem,iv,uY]) ak (bad (by unfold tO;rw[hf];simp[hj]))
  have bx:((j:Int) != ((l.map cY).length:Int))=false:=by rw[bs,hj];simp
  by_cases h1:(nX tt r.l).length=1
  rotate_left
  ·have cc:(((nX tt r.l).length:Int) != 1)=true:=by simp;omega
   apply RG;simp only[go_sem,iv,bx,cc];apply RG;simp only[go_sem,iv,uY];exact af rfl ag (r:=[.agg uY.toArray,iv 4]) (by simp only[Tryz.results28,go_sem,iv,uY]) ak (bad (by unfold tO;rw[abT h1];simp))
  have cc:(((nX tt r.l).length:Int) != 1)=false:=by rw[h1];rfl
  apply RG;simp only[go_sem,iv,bx,cc];refine bV ag rfl Nu (ve (gJ (nX tt r.l)+1) (aba _) dj ds hB.o (hB.g ci).1 hB.m hB.s) fun v5 ee qs b4 a9 hq=>?_;obtain⟨M,rfl,hM⟩:=hq;obtain⟨nd,cA,c1⟩:=(hB.g ci).2;rw[c1]at hM;obtain⟨ma,mc,rfl⟩:=hM.shape;refine bf b4 [0] fun al=>?_;refine ae al fun dT al am b7=>?_;have dd:eE dT (.slice ma [nd].length mc) [nd]:=bQ.sl hM am b7;obtain⟨mb,mo,cs,rfl,cm,aj⟩:=Sl.load (R:=bm) (fun{I} c a h=>bm.len (I:=I) c a h) dd (i:=0) rfl;obtain⟨vk,na,nk,rfl,d0,c4,d2⟩:=id cm.shape;obtain⟨ya,yc,rfl,_⟩:=id c4;apply RG;simp only[go_sem,iv,aaj,aaO];refine XN (l:=[.int .u8 nd.kind,.string ⟨⟨nd.text⟩⟩,.int .i64 nd.tok,.int .i64 nd.slot,.slice ya nd.kids.length yc,sD na nk nd.cond,rD nd.cond]) (v:=.agg #[.int .u8 nd.kind,.string ⟨⟨nd.text⟩⟩,.int .i64 nd.tok,.int .i64 nd.slot,.slice ya nd.kids.length yc,sD na nk nd.cond,rD nd.cond]) rfl (cellsU al (.head _) (by simpa using aj)) (.inl ⟨cL,rfl⟩) ?_;refine lY ?_;refine af rfl al (r:=[.agg #[.int .u8 nd.kind,.string ⟨⟨nd.text⟩⟩,.int .i64 nd.tok,.int .i64 nd.slot,.slice ya nd.kids.length yc,sD na nk nd.cond,rD nd.cond],iv 0]) (by simp only[Tryz.results28,go_sem,iv,sD,rD]) (abV ak (abV a9 am)) ?_;have cy:tO l.length r=true:=by unfold tO;rw[abU bd,abU (by rw[hf,hj]),abU h1];rfl
  unfold Dd;rw[hx];exact⟨rfl,cj,r,hB,by rw[aaq cy];exact⟨nd,_,cA,rfl,cm⟩⟩
def Oz:aO Tryz.prog 107:=⟨_,Tryz.func107,rfl,rfl⟩
def TI:aO Tryz.prog 53:=⟨_,Tryz.func53,rfl,rfl⟩
def Yb(P:Program)(T:TypeId)(cs:Array Value):Prop:=P.eqGuardType P.depth T=false/\∀w,(Op.equalIn 10000 T (.agg cs) (.agg cs)).run P w=.ok true w
variable{cs:Array Value}{T2:TypeId}{H:PH}
def Kn{P:Program}{σ:St}{o:Oper}{T:TypeId}{op:BinOp}{x y:Operand}(aa:o.op=.binOp op T x y T2)(ho:op=.eql\/op=.neq)(hx:ev σ x=.v (.agg cs))(hy:ev σ y=.v (.agg cs))(he:Yb P T cs):
  bh σ o.op=true/\∀w,Sub H w->(execOp (bN σ) o).run P w=.ok (.value (.bool (match op with | .neq=>false|_=>true))) w:=by
 constructor
 ·simp[bh,aa,fT,Op.operands,hx,hy,ul]
 ·intro w _;rcases ho with rfl|rfl
  ·simp[execOp,aa,bN,hx,hy,ZY,run_eqGuard_agg w .eql T x y cs cs he.1,run_eql_struct,he.2 w,Result.andThen]
  ·simp[execOp,aa,bN,hx,hy,ZY,run_eqGuard_agg w .neq T x y cs cs he.1,run_neq_struct,he.2 w,Result.andThen]
def TD{C:Cx}{ol:List Oper}{fr:iK}{str:ip}{k:List Item}{σ:St}{i:Nat}{o:Oper}{l:List (Nat×Oper)}{T:TypeId}{x y:Operand}(hf:fr.h.contains i=true)(hw:aH ol σ o=some true)(aa:o.op=.binOp .neq T x y T2)(hx:ev σ x=.v (.agg cs))(hy:ev σ y=.v (.agg cs))(he:Yb C.P T cs)(h:RD C ol fr str l k (σ.put o.dst (.v (.bool false))) H):RD C ol fr str ((i,o)::l) k σ H:=by
 obtain⟨q1,q2⟩:=Kn (H:=H) aa (.inr rfl) hx hy he;exact wB (.bool false) hf hw q1 (by rw[aa];rfl) q2 h
def Ua(a b c:Int):Yb Tryz.prog 181 #[.int .i64 a,.int .i64 b,.int .i64 c]:=by
 refine⟨by kernel_rfl,fun w=>?_⟩;have hS:Tryz.prog.underlying 181=some (.struct (Tryz.prog.fieldsOf 181)):=by kernel_rfl
 have hp:Tryz.prog.stoodInHeld 181=false:=by kernel_rfl
 have hf:(Tryz.prog.fieldsOf 181).toList=[⟨ "Var",3,0,false,"","",0⟩,⟨ "Low",3,1,false,"","",8⟩,⟨ "High",3,2,false,"","",16⟩]:=by unfold Program.fieldsOf;rw[Ka]
 have p0:(part 3 #[.int .i64 a,.int .i64 b,.int .i64 c] 0).run Tryz.prog w=.ok (.int .i64 a) w:=qh (by unfold iR;rw[jq];rfl);have p1:(part 3 #[.int .i64 a,.int .i64 b,.int .i64 c] 1).run Tryz.prog w=.ok (.int .i64 b) w:=qh (by unfold iR;rw[jq];rfl);have p2:(part 3 #[.int .i64 a,.int .i64 b,.int .i64 c] 2).run Tryz.prog w=.ok (.int .i64 c) w:=qh (by unfold iR;rw[jq];rfl);rw[show (10000:Nat)=9998+1+1 from rfl,run_equalIn_agg w (9998+1) 181 _ _ hS hp,hf];simp[Op.eqFields,ZY,p0,p1,p2,Result.andThen,run_equalIn_int w 9998 3 .i64 .i64 _ _ S5]
def Qn(v1 v2:Value)(n i:Nat):St:=⟨dn 26 [(0,.v v1),(1,.v v2),(11,.v v1),(12,.v (iv n)),(13,.v (iv i))],[]⟩
def O9{v1 v2:Value}{ts:List T}(h1:uo H v1 ts)(h2:uo H v2 ts)(hl:ts.length<2^40):bO Tryz.prog 107 #[v1,v2] H fun r H2=>r=.bool true/\H2=H:=by
 obtain⟨a1,c1,rfl,g1⟩:=h1;obtain⟨a2,c2,rfl,g2⟩:=h2;refine ah 26 Tryz.func107 fun w0=>?_;have h0:((ts.length:Int) != (ts.length:Int))=false:=by simp
 apply RG;simp only[go_sem,h0];refine aA (fun x=>ts.length-x) (Qn (.slice a1 ts.length c1) (.slice a2 ts.length c2) ts.length) (fun i H2=>H2=H/\i<=ts.length) 0 bM (by simp only[go_sem,aa6,Qn]) ⟨rfl,aaL _⟩ ?_;rintro i H2 ⟨rfl,hi⟩ aa;simp only[Qn];rcases aaf i ts.length with ac|ak
 ·have ag:decide ((i:Int)<(ts.length:Int))=true:=abU ab;have e1:IntKind.i64.wrap ((i:Int)+1)=((i+1:Nat):Int):=by rw[<-wrap64 (n:=i+1) ab];congr 1
  obtain⟨t,ht⟩:∃t,ts[i]?=some t:=⟨_,aak ac⟩;have aj:(EN ts).length=ts.length*3:=qp _;have ld:∀{a:Option Addr},(ts=[]\/∃b,a=some ⟨b,0,none⟩/\aP H2 b 0 (EN ts))->∃b,a=some ⟨b,0,none⟩/\aP H2 b (i*3) (nt (T.dec ts t)):=by
   rintro a (h|⟨b,e,h⟩)
   ·rw[h]at ac;simp at ac
   ·have hc:=h.sub (i*3) 3 ab;rw[qw ht,ZZ]at hc;exact⟨b,e,hc⟩
  obtain⟨b1,rfl,l1⟩:=ld g1;obtain⟨b2,rfl,l2⟩:=ld g2;apply RG;simp only[go_sem,iv,ag];refine eP [0,1,2,3,4,5,6,7,8] [3,7,8] [] ?_;refine dS ?_
  try refine⟨ab,?_⟩
  refine W7 (l:=nt (T.dec ts t)) (v:=gV (T.dec ts t)) rfl (by simpa using l1) (.inl ⟨uK,rfl⟩) ?_;apply au;simp only[go_sem,iv,gV]
  try refine⟨ab,?_⟩
  refine W7 (l:=nt (T.dec ts t)) (v:=gV (T.dec ts t)) rfl (by simpa using l2) (.inl ⟨uK,rfl⟩) ?_;apply au;simp only[go_sem,iv,gV];refine TD rfl rfl rfl rfl rfl (Ua (T.dec ts t).1 (T.dec ts t).2.1 (T.dec ts t).2.2) ?_;refine dS ?_;refine aw ?_;apply RG;simp only[go_sem,iv,e1];exact aa (i+1) _ _ ab bM (by simp only[go_sem,aa6,Qn]) ⟨rfl,ac⟩
 ·have:i=ts.length:=by omega
  subst this;have ag:=Z6 ts.length;apply RG;simp only[go_sem,iv,ag];exact aJ (r:=[_]) rfl ⟨rfl,rfl⟩
def zL{t:T}(h:t.ok 0):(T.subs t).length+1<=2^24:=by
 obtain⟨us,e1,e2,_⟩:=(T.vis_spec t h ab [] T.Seq.nil).2.2;rw[aaA]at e1;show (t.vis []).length+1<=_;rw[e1];exact e2
def Sv{v1 v2:Value}{t:T}(h1:cX H v1 t)(h2:cX H v2 t):bO Tryz.prog 53 #[v1,v2] H fun r H2=>r=.bool true/\H2=H:=by
 have hl:=zL h1.1;obtain⟨_,s1,rfl,g1⟩:=h1;obtain⟨_,s2,rfl,g2⟩:=h2;obtain⟨a1,c1,rfl,_⟩:=id g1;obtain⟨a2,c2,rfl,_⟩:=id g2;refine ah 17 Tryz.func53 fun w0=>?_
 try simp only[iv]
 refine aT ?_;refine WZ rfl Oz (O9 g1 g2 ab) fun v H2 hv=>?_;obtain⟨rfl,rfl⟩:=hv;refine aT ?_;exact aJ (r:=[_]) rfl ⟨rfl,rfl⟩
end Go.Proofs.YtfaclfkpnmcmlaaGreatDoor
