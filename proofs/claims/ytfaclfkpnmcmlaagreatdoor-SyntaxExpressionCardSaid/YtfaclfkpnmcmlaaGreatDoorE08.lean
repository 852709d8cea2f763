import Derived.Test.YtfaclfkpnmcmlaaGreatDoorE03
import Derived.Test.YtfaclfkpnmcmlaaGreatDoorE07
import Derived.Deep.Upon
set_option maxHeartbeats 8000000
set_option linter.all false
namespace Go.Proofs.YtfaclfkpnmcmlaaGreatDoor
open Go Go.Sx Dg Syn
def sD(a:Option Addr)(c:Nat)(t:T):Value:=.slice a (T.subs t).length c
def rD(t:T):Value:=iv (T.plc (T.subs t) t)
variable{I:PH}
def cX.shape2{v:Value}{t:T}(h:cX I v t):∃a c,v=.agg #[sD a c t,rD t]:=h.shape
def Ur(vg:Value)(n:Nat)(x:Nat×Option Addr×Nat×T):St:=⟨sp 0 19 [(2,.p 2 0),(3,.p 3 0),(7,.v vg),(8,.v (iv n)),(9,.v (iv x.1))],[⟨2,50,[.slice none 0 0,.int .i64 0]⟩,⟨3,50,[.slice x.2.1 (T.subs x.2.2.2).length x.2.2.1,.int .i64 (T.plc (T.subs x.2.2.2) x.2.2.2)]⟩]⟩
def ZH(g:ar)(I0:PH)(x:Nat×Option Addr×Nat×T)(H:PH):Prop:=∃I,H=U [I]/\Dj [I]/\I0.le I/\x.1<=g.length/\x.2.2.2=ii (g.take x.1)/\cX I (.agg #[sD x.2.1 x.2.2.1 x.2.2.2,rD x.2.2.2]) x.2.2.2
def Fm{g:ar}{i:Nat}{s:Nat×T}(hs:g[i]?=some s):ii (g.take (i+1))=(ii (g.take i)).or s.2:=by
 have aa:i<g.length:=by
  rcases aaf i g.length with h|h
  ·exact h
  ·rw[aan h]at hs;cases hs
 rw[aaM aa];rw[aak aa]at hs;rw[aaZ hs];unfold ii;rw[abM];rfl
def U8{vg:Value}{g:ar}(hg:eR I vg g)(hl:g.length<2^40):aK Tryz.prog 78 #[vg] I [] fun v I2 qs=>qs=[]/\cX I2 v (ii g):=by
 intro hd;obtain⟨ga,gc,rfl,_⟩:=id hg;refine cC Tryz.func78 rfl (by simp[Tryz.ntmps78]) fun w0=>?_;simp only[Tryz.ntmps78,iv];refine aT ?_;refine WZ rfl yl (sU _) fun v H2 hv=>?_;obtain⟨rfl,rfl⟩:=hv;apply RG;simp only[go_sem,iv];refine aA (fun x=>g.length-x.1) (Ur (.slice ga g.length gc) g.length) (ZH g I) (0,none,0,.lf false) (by simp only[go_sem,aa6,Ur,iv]) (by simp only[go_sem,aa6,Ur,T.subs,T.vis,T.plc,aaO,aa5,Z2]) ?_ ?_
 ·exact⟨I,rfl,hd,abW _,aaL _,rfl,mN I false⟩
 rintro⟨i,a,k,t⟩ H ⟨I1,rfl,al,aa,hi,ht,hr⟩ ac;simp only at hi ht hr;simp only[Ur];have aS:eR I1 (.slice ga g.length gc) g:=Sl.le (R:=iD) (fun{I J c a} h k=>iD.le h k) hg aa;rcases aaf i g.length with ao|a4
 ·have am:decide ((i:Int)<(g.length:Int))=true:=by simp;omega
  have e1:=wrap64 (n:=i+1) ab;have a3:IntKind.i64.wrap ((i:Int)+1)=((i+1:Nat):Int):=by rw[<-e1];congr 1
  obtain⟨s,hs⟩:∃s,g[i]?=some s:=⟨_,aak ao⟩;obtain⟨b,off,cs,rfl,a1,ag⟩:=aS.load iD.len hs;obtain⟨sa,sk,rfl,aj⟩:=a1.shape;apply RG;simp only[go_sem,am,iv];refine⟨ab,?_⟩;refine XN (l:=[iv s.1,.slice sa (T.subs s.2).length sk,iv (T.plc (T.subs s.2) s.2)]) (v:=.agg #[iv s.1,.slice sa (T.subs s.2).length sk,iv (T.plc (T.subs s.2) s.2)]) rfl (cellsU al (.head _) ag) (.inl ⟨sM,rfl⟩) ?_;apply RG;simp only[go_sem,iv];refine DY al [] rfl yj rfl (F:=[]) rfl (KP hr aj) fun v I2 qs aq ak hq=>?_;obtain⟨rfl,an⟩:=hq;obtain⟨a2,k2,rfl⟩:=an.shape;simp only[aa6]at aq |-;apply RG;simp only[go_sem,iv,a3];exact ac (i+1,a2,k2,t.or s.2) _ _ dt (by simp only[go_sem,aa6,Ur,iv]) (by simp only[go_sem,aa6,Ur]) ⟨I2,rfl,aq,abV aa ak,ao,by simp only;rw[Fm hs,ht],an⟩
 ·have am:decide ((i:Int)<(g.length:Int))=false:=by simp;omega
  have:i=g.length:=by omega
  subst this;rw[aaS]at ht;subst ht;apply RG;simp only[go_sem,am,iv];exact af rfl al (r:=[.agg #[sD a k (ii g),rD (ii g)]]) (by simp only[Tryz.results78,go_sem,iv,sD,rD]) aa ⟨rfl,hr⟩
def dz(I:PH)(c:List Value)(t:Tok):Prop:=∃path file line a k,c=[.int .u8 t.kind,.string ⟨⟨t.text⟩⟩,path,.int .i64 file,.int .i64 line,sD a k t.cond,rD t.cond]/\one path=true/\cX I (.agg #[sD a k t.cond,rD t.cond]) t.cond
def dz.le{J:PH}{c:List Value}{t:Tok}(h:dz I c t)(aa:I.le J):dz J c t:=by
 obtain⟨p,f,l,a,k,e,h1,h2⟩:=h;exact⟨p,f,l,a,k,e,h1,cX.le h2 aa⟩
def dz.len(c:List Value)(t:Tok)(h:dz I c t):c.length=7:=by obtain⟨p,f,l,a,k,e,_⟩:=h;rw[e];rfl
def uh(_:PH)(c:List Value)(t:Tok):Prop:=c=[.bool t.fits]
def uh.len(c:List Value)(t:Tok)(h:uh I c t):c.length=1:=by rw[show c=_ from h];rfl
structure zr(I:PH)(ts:List Tok)(lv fv:Value):Prop where
 tok:Sl dz I lv ts
 fit:Sl uh I fv ts
 len:ts.length<=16384
 ok:bT ts
variable{ts:List Tok}
def zr.le{J:PH}{lv fv:Value}(h:zr I ts lv fv)(aa:I.le J):zr J ts lv fv:=
 ⟨Sl.le (R:=dz) (fun{I J c a} h k=>dz.le h k) h.tok aa,Sl.le (R:=uh) (fun{I J c a} h k=>h) h.fit aa,h.len,h.ok⟩
def cg(lv fv ov dv:Value)(o:Nat):Obj:=.cells #[lv,fv,ov,iv o,dv] 161 (0,0)
def Vw{a n:Nat}(h:decide ((a:Int)<16384)=false)(hl:n<=16384)(ha:a<=n):a=n:=by
 have:=abN h;omega
def Am{pb:Nat}{lv fv ov dv:Value}{o a:Nat}(h:zr I ts lv fv)(ha:a<=ts.length):
  aK Tryz.prog 209 #[pt pb,iv a] I [sg pb (cg lv fv ov dv o)] fun v I2 qs=>qs=[sg pb (cg lv fv ov dv o)]/\I2=I/\v=.agg #[.slice none 0 0,iv 0]:=by
 intro hd;have hl:=h.len;obtain⟨la,lc,rfl,_⟩:=h.tok;refine cC Tryz.func209 rfl (by simp[Tryz.ntmps209]) fun w0=>?_;simp only[Tryz.ntmps209,iv,pt];cases h6:decide ((a:Int)<16384)
 ·apply bL 10;simp only[go_sem,h6];have aa:a=ts.length:=Vw h6 hl ha;have ac:decide ((a:Int)>=(ts.length:Int))=true:=by simp;omega
  refine aT ?_;refine XN (l:=[_]) rfl (cellsU hd (.tail _ (.head _)) (ay (by simp[cg]) rfl)) (.inr ⟨uy,rfl⟩) ?_;apply RG;simp only[go_sem,ac];refine WZ rfl yl (sU _) fun v H2 hv=>?_;obtain⟨rfl,rfl⟩:=hv;apply RG;simp only[go_sem,iv];exact af rfl hd (r:=[.agg #[.slice none 0 0,iv 0]]) (by simp only[Tryz.results209,go_sem,iv]) (abW _) ⟨rfl,rfl,rfl⟩
 ·apply bL 10;simp only[go_sem,h6];refine aT ?_;refine WZ rfl yl (sU _) fun v H2 hv=>?_;obtain⟨rfl,rfl⟩:=hv;apply RG;simp only[go_sem,iv];exact af rfl hd (r:=[.agg #[.slice none 0 0,iv 0]]) (by simp only[Tryz.results209,go_sem,iv]) (abW _) ⟨rfl,rfl,rfl⟩
end Go.Proofs.YtfaclfkpnmcmlaaGreatDoor
namespace Go.Sx
open Go
def r8:List (Nat×SV)->Nat->SV
 | [],_=>.u
 |(k,v)::l,t=>if k=t then v else r8 l t
def dn(n:Nat)(L:List (Nat×SV)):List SV:=(List.range n).map (r8 L)
variable{L:List (Nat×SV)}
theorem Qa{n:Nat}{t:Nat}(h:t<n):oY (dn n L) t=r8 L t:=by
 rw[eX];unfold dn;simp[h]
theorem O8(n:Nat)(L:List (Nat×SV))(d:Nat)(y:SV):lN (dn n L) d y=dn n ((d,y)::L):=by
 apply List.ext_getElem?;intro i;rw[gh];unfold dn;simp only[aah,List.length_range,aai];by_cases e:d=i
 ·subst e;by_cases h:d<n
  ·simp[h,r8]
  ·simp[h]
 ·simp only[ZV e];by_cases h:i<n
  ·simp[h,r8,e]
  ·simp[h]
def Mj (f : SV → SV) (hf : f .u = .u) (n : Nat) (L : List (Nat × SV)) : (dn n L).map f = dn n (L.map fun p => (p.1, f p.2)) := by
  unfold dn
  rw [aas]
  apply aat
  intro t _
  simp only [Function.comp]
  induction L with
  | nil => exact hf
  | cons p l ih => obtain ⟨k, v⟩ := p; simp only [r8, aaU]; split
                   · rfl
                   · exact ih
theorem TL(d n:Nat)(L:List (Nat×SV)):(dn n L).map (kQ d)=dn n (L.map fun p=>(p.1,kQ d p.2)):=Mj _ rfl _ _
theorem R2(k b n:Nat)(L:List (Nat×SV)):(dn n L).map (mF k b)=dn n (L.map fun p=>(p.1,mF k b p.2)):=Mj _ rfl _ _
def Bn:List (Nat×SV)->List (Nat×SV)->Prop
 | [],_=>True
 |(k,v)::r,L=>r8 L k=v/\Bn r L
def Hx {l m : List SV} (hl : l.length = m.length) (h : ∀ (i : Nat) (x : SV), l[i]? = some x → x = .u ∨ m[i]? = some x) : nm l m := by
  induction l generalizing m with
  | nil => cases m with
    | nil => trivial
    | cons y m => simp at hl
  | cons x l ih => cases m with
    | nil => simp at hl
    | cons y m =>
      have ht := ih (m := m) (by simpa using hl) fun i z hz => by simpa using h (i + 1) z (by simpa using hz)
      have h0 := h 0 x rfl
      cases x with
      | u => exact ht
      | v z => exact ⟨by rcases h0 with h0 | h0
                         · cases h0
                         · simpa using h0.symm, ht⟩
      | p a b => exact ⟨by rcases h0 with h0 | h0
                           · cases h0
                           · simpa using h0.symm, ht⟩
def Bn.get{L':List (Nat×SV)}(h:Bn L' L)(t:Nat):r8 L' t=.u\/r8 L' t=r8 L t:=by
 induction L' with
 |nil=>exact .inl rfl
 |cons p r ih=>
  obtain⟨k,v⟩:=p;simp only[r8];split
  ·rename_i e;subst e;exact .inr h.1.symm
  ·exact ih h.2
def bJ{n:Nat}{L':List (Nat×SV)}(h:Bn L' L):nm (dn n L') (dn n L):=by
 refine Hx (by simp[dn]) fun i x hx=>?_;unfold dn at hx |-;simp only[aai]at hx |-;cases hr:(List.range n)[i]? with
 |none=>rw[hr]at hx;cases hx
 |some j=>
  rw[hr]at hx;simp only[Z9,ZW]at hx |-;rcases h.get j with e|e
  ·exact .inl (by rw[<-hx];exact e)
  ·exact .inr (by rw[<-e];exact hx)
def Ao:Nat->List Value->List (Nat×SV)
 |_,[]=>[]
 |i,v::l=>(i,.v v)::Ao (i+1) l
def CO:∀(vs:List Value) (i t:Nat),r8 (Ao i vs) t=if i<=t then (match vs[t-i]? with|some v=>.v v|none=>.u)else .u
 | [],i,t=>by simp[Ao,r8]
 |v::l,i,t=>by
  simp only[Ao,r8,CO l (i+1) t];by_cases e:i=t
  ·subst e;simp
  ·rw[ZV e];by_cases h:i<=t
   ·rw[aaq h,aaq ab];have:t-i=(t-(i+1))+1:=by omega
    rw[this,abi]
   ·rw[ZV h,ZV ab]
def Mu(args:List Value)(n:Nat)(h:args.length<=n):nm (dn n (Ao 0 args)) (uC args n):=by
 refine Hx (by simp[dn,uC];omega) fun i x hx=>?_;unfold dn at hx;simp only[aai]at hx;by_cases hi:i<n
 ·rw[List.getElem?_range hi]at hx;simp only[Z9,ZW,CO,aaL,ZT,Nat.sub_zero]at hx;cases hv:args[i]? with
  |none=>rw[hv]at hx;exact .inl hx.symm
  |some v=>
   rw[hv]at hx
   right
   unfold uC;have hl:i<args.length:=by
    rcases aaf i args.length with h|h
    ·exact h
    ·rw[aan h]at hv;cases hv
   rw[aaG (by simpa using hl),aai,hv];simpa using hx
 ·rw[aan (by simpa using hi)]at hx;cases hx
variable{Φ:Value->PH->Prop}{args:Array Value}{fn:Func}{f:FuncId}
def iz{P:Program}{c:Code}{H:PH}(hf:P.funcs[f]?=some fn)(hb:fn.body=some c)(aa:args.toList.length<=fn.ntmps)
  (h:∀w0,RC ⟨P,f,fn,hf,H,w0,Φ⟩ (.st [.code c]) ⟨dn fn.ntmps (Ao 0 args.toList),[]⟩ H):bO P f args H Φ:=
 cC hf hb aa fun w0=>Gc (Mu _ _ aa) (by simp[rN]) (h w0)
def V5{P:Program}{c:Code}{H:PH}(hf:P.funcs[f]?=some fn)(hq:(fn.body,decide (args.toList.length<=fn.ntmps))=(some c,true))
  (h:∀w0,RC ⟨P,f,fn,hf,H,w0,Φ⟩ (.st [.code c]) ⟨dn fn.ntmps (Ao 0 args.toList),[]⟩ H):bO P f args H Φ:=by
 simp only[aaI,aaC]at hq;exact iz hf hq.1 hq.2 h
attribute [go_sem] r8 Bn Qa O8 TL R2 Ao
end Go.Sx
namespace Go.Proofs.YtfaclfkpnmcmlaaGreatDoor
open Go Go.Sx Dg Syn
variable{Q:Prop}{c:Cf}
def dP{C:Cx}{σ:St}{H:PH}(h:Q)(e:bW C H (adv C.P 500 c σ [])=Q:=by simp only[go_sem,iv];rfl):RC C c σ H:=pX 500 (e.mpr h)
variable{l:List (Nat×Oper)}{str:ip}{fr:iK}{ol:List Oper}
def dS{C:Cx}{k:List Item}{σ:St}{H:PH}(h:Q)(e:CI C ol fr str k H (my C.P ol fr.k str.k fr.kp l σ [])=Q:=by simp only[go_sem,iv];rfl):RD C ol fr str l k σ H:=au (e.mpr h)
def ll{C:Cx}{σ:St}{H:PH}(h:Q)(e:bW C H (adv C.P 500 c σ [])=Q:=by simp only[go_sem,iv,pt];rfl):RC C c σ H:=pX 500 (e.mpr h)
def FW{C:Cx}{k:List Item}{σ:St}{H:PH}(h:Q)(e:CI C ol fr str k H (my C.P ol fr.k str.k fr.kp l σ [])=Q:=by simp only[go_sem,iv,pt];rfl):RD C ol fr str l k σ H:=au (e.mpr h)
def dg{C:Cx}{σ:St}{H:PH}(h:Q)(e:bW C H (adv C.P 500 c σ [])=Q:=by simp only[go_sem,iv,pt,sD,rD];rfl):RC C c σ H:=pX 500 (e.mpr h)
def qY{C:Cx}{k:List Item}{σ:St}{H:PH}(h:Q)(e:CI C ol fr str k H (my C.P ol fr.k str.k fr.kp l σ [])=Q:=by simp only[go_sem,iv,pt,sD,rD];rfl):RD C ol fr str l k σ H:=au (e.mpr h)
def lY{C:Cx}{σ:St}{H:PH}(h:Q)(e:bW C H (adv C.P 500 c σ [])=Q:=by simp only[go_sem,iv,sD,rD];rfl):RC C c σ H:=pX 500 (e.mpr h)
def lE{C:Cx}{k:List Item}{σ:St}{H:PH}(h:Q)(e:CI C ol fr str k H (my C.P ol fr.k str.k fr.kp l σ [])=Q:=by simp only[go_sem,iv,sD,rD];rfl):RD C ol fr str l k σ H:=au (e.mpr h)
def OZ{C:Cx}{σ:St}{H:PH}(h:Q)(e:bW C H (adv C.P 500 c σ [])=Q:=by simp only[go_sem,pt];rfl):RC C c σ H:=pX 500 (e.mpr h)
variable{L:List (Nat×SV)}{n:Nat}
def bM{K:List (Nat×SV)}(h:Bn K L:=by simp only[go_sem,aa6,iv]):nm (dn n K) (dn n L):=bJ h
def gP{K:List (Nat×SV)}(h:Bn K L:=by simp only[go_sem,aa6,iv,pt]):nm (dn n K) (dn n L):=bJ h
def R5{K:List (Nat×SV)}(h:Bn K L:=by simp only[go_sem,aa6,iv,pt,sD,rD]):nm (dn n K) (dn n L):=bJ h
def Tp{K:List (Nat×SV)}(h:Bn K L:=by simp only[go_sem,aa6,iv,sD,rD]):nm (dn n K) (dn n L):=bJ h
def ah(n:Nat){P:Program}{f:FuncId}{fn:Func}{c:Code}{args:Array Value}{H:PH}{Φ:Value->PH->Prop}(hf:P.funcs[f]?=some fn)
  (h:∀w0,RC ⟨P,f,fn,hf,H,w0,Φ⟩ (.st [.code c]) ⟨dn n (Ao 0 args.toList),[]⟩ H) (hq:(fn.body,fn.ntmps,decide (args.toList.length<=n))=(some c,n,true):=by exact rfl):bO P f args H Φ:=by
 simp only[aaI,aaC]at hq;obtain⟨h1,rfl,h3⟩:=hq;exact iz hf h1 h3 h
def eP{C:Cx}{k:List Item}{σ:St}{H:PH}{id:Nat}{ops:Array Oper}(κ fr str:List Nat)
  (h:RD C ops.toList ⟨fr,[],PH.emp,[],[]⟩ ⟨str,[],[]⟩ (pick ops.toList κ) k σ H) (hm:C.P.follows .mixedOrders=true:=by exact mixed) (aa:OD ops.toList κ ⟨fr,[],PH.emp,[],[]⟩ ⟨str,[],[]⟩=true:=by exact rfl) (hs:yS σ.bx=true:=by exact rfl):RC C (.st (.code (.region id ops true)::k)) σ H:=dN hm κ fr str aa hs h
def kU:aO Tryz.prog 198:=⟨_,Tryz.func198,rfl,rfl⟩
def l7(I:PH)(c:List Value)(h:aB):Prop:=∃a k,c=[iv h.at',sD a k h.cond,rD h.cond,.int .u8 h.kind,.string ⟨⟨h.text⟩⟩]/\cX I (.agg #[sD a k h.cond,rD h.cond]) h.cond
variable{I:PH}
def l7.le{J:PH}{c:List Value}{h:aB}(k:l7 I c h)(aa:I.le J):l7 J c h:=by
 obtain⟨a,b,e,r⟩:=k;exact⟨a,b,e,cX.le r aa⟩
def l7.len(c:List Value)(h:aB)(k:l7 I c h):c.length=5:=by obtain⟨a,b,e,_⟩:=k;rw[e];rfl
abbrev qO(I:PH)(v:Value)(l:List aB):Prop:=Sl l7 I v l
def Nj{d:T}(h:d.ok 0):d.and ff=ff:=T.ext (T.and_ok h (show ff.ok 0 from trivial)) (show ff.ok 0 from trivial) fun c=>by rw[T.and_at h (show ff.ok 0 from trivial)];simp[T.at']
def Mb{d:T}(h:d.ok 0):d.and tt=d:=T.ext (T.and_ok h (show tt.ok 0 from trivial)) h fun c=>by rw[T.and_at h (show tt.ok 0 from trivial)];simp[T.at']
def VF(pb:Nat)(vf:Value)(n:Nat)(x:Nat×Value):St:=⟨dn 153 [(0,.v (pt pb)),(5,.v x.2),(16,.v vf),(17,.v (iv n)),(18,.v (iv x.1))],[]⟩
def Zg(pb:Nat)(rc:Obj)(ts:List Tok)(f:ar)(I0:PH)(x:Nat×Value)(H:PH):Prop:=
 ∃I A,H=U [I,sg pb rc,A]/\Dj [I,sg pb rc,A]/\I0.le I/\x.1<=f.length/\jy I A x.2 (Hk ts f x.1)
def Ws(pb:Nat)(vf:Value)(n i:Nat)(x:Nat×Option Addr×Nat×T×Value):St:=⟨dn 153 [(0,.v (pt pb)),(5,.v x.2.2.2.2),(8,.p 8 0),(9,.v (iv x.1)),(16,.v vf),(17,.v (iv n)),(18,.v (iv i))],[⟨8,50,[.slice x.2.1 (T.subs x.2.2.2.1).length x.2.2.1,.int .i64 (T.plc (T.subs x.2.2.2.1) x.2.2.2.1)]⟩]⟩
def YR(pb:Nat)(rc:Obj)(ts:List Tok)(tgt:ar)(I0:PH)(x:Nat×Option Addr×Nat×T×Value)(H:PH):Prop:=
 ∃I A cur,H=U [I,sg pb rc,A]/\Dj [I,sg pb rc,A]/\I0.le I/\x.1<=ts.length/\jy I A x.2.2.2.2 cur/\FN ts.length cur/\cX I (.agg #[sD x.2.1 x.2.2.1 x.2.2.2.1,rD x.2.2.2.1]) x.2.2.2.1/\spread cur (ts.drop x.1) x.1 x.2.2.2.1=tgt
def Uz(pb:Nat)(va:Value)(n:Nat)(x:Nat×Value):St:=⟨dn 153 [(0,.v (pt pb)),(10,.v x.2),(73,.v va),(74,.v (iv n)),(75,.v (iv x.1))],[]⟩
def ZM(pb:Nat)(rc:Obj)(ts:List Tok)(a:ar)(I0:PH)(x:Nat×Value)(H:PH):Prop:=
 ∃I B,H=U [I,sg pb rc,B]/\Dj [I,sg pb rc,B]/\I0.le I/\x.1<=a.length/\Ow l7 227 5 I B x.2 ((a.take x.1).map (cQ ts))
theorem kW{pb:Nat}{ts:List Tok}{lv fv ov dv vf:Value}{o:Nat}{f:ar}(h:zr I ts lv fv)(hf:eR I vf f)(fn:FN ts.length f):
  aK Tryz.prog 198 #[pt pb,vf] I [sg pb (cg lv fv ov dv o)] fun v I2 qs=>qs=[sg pb (cg lv fv ov dv o)]/\qO I2 v (heads ts f):=by
 intro hd;have hl:=h.len;have fl:=fn.len;obtain⟨la,lc,rfl,_⟩:=id h.tok;obtain⟨fa,fc,rfl,_⟩:=id h.fit;obtain⟨ga,gc,rfl,_⟩:=id hf;refine V5 Tryz.func198 rfl fun w0=>?_;simp only[Tryz.ntmps198,iv,pt];refine aT ?_;refine aR hd fun er=>?_;refine nr (c:=.st _) er [1,0] rfl fun ei=>?_;simp only[vG,aa7,aa8]at ei |-;refine aA (fun x=>f.length-x.1) (VF pb (.slice ga f.length gc) f.length) (Zg pb (cg (.slice la ts.length lc) (.slice fa ts.length fc) ov dv o) ts f I) (0,.slice none 0 0) (bJ (by simp only[go_sem,aa6,iv,pt])) (by simp only[go_sem,aa6,VF]) ?_ ?_
 ·exact⟨I,PH.no,rfl,ei,abW _,aaL _,Ow.nil _ _ _ _⟩
 rintro⟨i,vat⟩ H ⟨I1,A1,rfl,eb,a4,hi,dc⟩ b8;simp only at hi dc;simp only[VF];have fA:=Ft h.ok fn i hi;obtain⟨aa,ac,rfl⟩:=dc.shape;have ep:eR I1 (.slice ga f.length gc) f:=Sl.le (R:=iD) (fun{I J c a} h k=>iD.le h k) hf a4;rcases aaf i f.length with b0|en
 ·have ee:decide ((i:Int)<(f.length:Int))=true:=by simp;omega
  have e1:=wrap64 (n:=i+1) ab;have c3:IntKind.i64.wrap ((i:Int)+1)=((i+1:Nat):Int):=by rw[<-e1];congr 1
  obtain⟨s,hs⟩:∃s,f[i]?=some s:=⟨_,aak b0⟩;have dj:=aaV hs;obtain⟨b,off,cs,rfl,ec,bC⟩:=ep.load iD.len hs;obtain⟨sa,sk,rfl,b4⟩:=ec.shape;apply RG;simp only[go_sem,ee,iv,pt];refine⟨ab,?_⟩;refine XN (l:=[iv s.1,.slice sa (T.subs s.2).length sk,iv (T.plc (T.subs s.2) s.2)]) (v:=.agg #[iv s.1,.slice sa (T.subs s.2).length sk,iv (T.plc (T.subs s.2) s.2)]) rfl (cellsU eb (.head _) bC) (.inl ⟨sM,rfl⟩) ?_;apply RG;simp only[go_sem,iv,pt];refine aA (fun x=>ts.length-x.1) (Ws pb (.slice (some ⟨b,off,none⟩) f.length gc) f.length i) (YR pb (cg (.slice la ts.length lc) (.slice fa ts.length fc) ov dv o) ts (Hk ts f (i+1)) I1) (s.1,sa,sk,s.2,.slice aa (Hk ts f i).length ac) (bJ (by simp only[go_sem,aa6,iv,pt])) (by simp only[go_sem,aa6,Ws]) ?_ ?_
  ·exact⟨I1,A1,_,rfl,eb,abW _,fn.le s dj,dc,fA,b4,(Dy hs).symm⟩
  rintro⟨j,da,dk,d,vat⟩ H ⟨I2,A2,cur,rfl,a5,b6,hj,c9,fC,cx,cj⟩ cm;simp only at hj c9 cx cj;simp only[Ws];obtain⟨ba,bc,rfl⟩:=c9.shape;have e0:=fC.len;have d3:=cx.1;have h2:=h.le (abV a4 b6);have e2:=wrap64 (n:=j+1) ab;have ez:IntKind.i64.wrap ((j:Int)+1)=((j+1:Nat):Int):=by rw[<-e2];congr 1
  rcases aaf j ts.length with ds|eH
  ·have dd:decide ((j:Int)<(ts.length:Int))=true:=by simp;omega
   apply RG;simp only[go_sem,dd,iv,pt];refine XN (l:=[_]) rfl (cellsU a5 (.tail _ (.head _)) (ay (by simp[cg]) rfl)) (.inr ⟨uy,rfl⟩) ?_;apply RG;simp only[go_sem,dd,iv,pt];refine WZ rfl jt (gO cx) fun v H2 hv=>?_;obtain⟨rfl,rfl⟩:=hv;cases b1:decide (d=.lf false)
   ·have ea:d≠ff:=by simpa using b1
    obtain⟨t,ht⟩:∃t,ts[j]?=some t:=⟨_,aak ds⟩;have dA:=h.ok t (aaV ht);have c7:ts.drop j=t::ts.drop (j+1):=by
     rw[aaK ds];rw[aak ds]at ht;rw[aaZ ht]
    obtain⟨tb,toff,tc,rfl,dI,a1⟩:=h2.tok.load dz.len ht;obtain⟨path,file,line,ta,tk,rfl,c4,dy⟩:=dI;have a6:=a1.sub 5 2 (by simp);simp only[abx,aa1,abA,abz]at a6;rw[c7,spread,ZV ea]at cj;apply RG;simp only[go_sem,b1,iv,pt];refine dN mixed [0,1,2,3,4,5,6,7,8,9,10,11,12,13] [6,10] [] rfl rfl ?_;apply au;simp only[go_sem,iv,pt];refine W7 (l:=[_]) rfl (cellsU a5 (.tail _ (.head _)) (ay (by simp[cg]) rfl)) (.inr ⟨uy,rfl⟩) ?_;apply au;simp only[go_sem,iv,pt];refine⟨ab,?_⟩;refine W7 (l:=[_,_]) (v:=.agg #[_,_]) rfl (cellsU a5 (.head _) a6) (.inl ⟨r9,rfl⟩) ?_;apply au;simp only[go_sem,iv,pt,sD,rD];refine aE a5 [0,1] [] [_,_] rfl kK rfl (oQ cx dy) fun v I3 qs b2 ak hq=>?_;obtain⟨rfl,c0⟩:=hq;obtain⟨xa,xc,rfl⟩:=c0.shape;simp only[aaA,aaz]at b2 |-;apply au;simp only[go_sem,iv,pt];refine aE b2 [1,0] [A2] [_] rfl ej rfl (bK (a:=j) (jy.le' c9 ak) c0 fC.ok.2 (fun t ht=>by have:=fC.le t ht;omega) ab ab) fun v I4 qs cd b5 hq=>?_;obtain⟨A3,rfl,b3⟩:=hq;obtain⟨ca,cc,rfl⟩:=b3.shape;simp only[aaz,aaA]at cd |-;apply au;simp only[go_sem,iv,pt];refine nI cd [1,0] fun c2=>?_;refine aw ?_;have dx:=dy.le (abV ak b5);have ci:=a6.le (abV ak b5);have d2:=cx.le (abV ak b5);apply RG;simp only[go_sem,iv,pt];refine dN mixed [0,1,2,3,4,5,6,7,8,9,10,11] [4,8] [] rfl rfl ?_;apply au;simp only[go_sem,iv,pt];refine W7 (l:=[_]) rfl (cellsU c2 (.tail _ (.head _)) (ay (by simp[cg]) rfl)) (.inr ⟨uy,rfl⟩) ?_;apply au;simp only[go_sem,iv,pt];refine⟨ab,?_⟩;refine W7 (l:=[_,_]) (v:=.agg #[_,_]) rfl (cellsU c2 (.head _) ci) (.inl ⟨r9,rfl⟩) ?_
    apply au;simp only[go_sem,iv,pt,sD,rD];refine aE c2 [0,1] [] [_,_] rfl oT rfl (uX dx) fun v I5 qs c1 aS hq=>?_;obtain⟨rfl,cB⟩:=hq;obtain⟨ya,yc,rfl⟩:=cB.shape;simp only[aaA,aaz]at c1 |-;apply au;simp only[go_sem,iv,pt];refine aE c1 [0,1] [] [_,_] rfl kK rfl (oQ (d2.le aS) cB) fun v I6 qs cb cp hq=>?_;obtain⟨rfl,a7⟩:=hq;obtain⟨za,zc,rfl⟩:=a7.shape;simp only[aaA,aaz]at cb |-;apply au;simp only[go_sem,iv,pt];refine aw ?_;apply RG;simp only[go_sem,iv,pt,ez];have fC2:FN ts.length (Syn.join cur j (d.and t.cond)):=fC.join ab (T.and_ok d3 dA);exact cm (j+1,za,zc,d.and t.cond.not,.slice ca (Syn.join cur j (d.and t.cond)).length cc) _ _ dt (bJ (by simp only[go_sem,aa6,iv,pt])) (by simp only[go_sem,aa6,Ws]) ⟨I6,A3,_,rfl,cb,abV b6 (abV ak (abV b5 (abV aS cp))),ds,jy.le' b3 (abV aS cp),fC2,a7,cj⟩
   ·have eq:d=ff:=by simpa using b1
    subst eq;have a9:Syn.join cur ts.length ff=Hk ts f (i+1):=by rw[Al]at cj;rw[<-cj];simp[Syn.join]
    apply RG;simp only[go_sem,b1,iv,pt];refine dN mixed [0,1,2,3,4,5,6,7,8] [4] [] rfl rfl ?_;apply au;simp only[go_sem,iv,pt];refine W7 (l:=[_]) rfl (cellsU a5 (.tail _ (.head _)) (ay (by simp[cg]) rfl)) (.inr ⟨uy,rfl⟩) ?_;apply au;simp only[go_sem,iv,pt];refine aE a5 [1,0] [A2] [_] rfl ej rfl (bK (a:=ts.length) c9 cx fC.ok.2 (fun t ht=>by have:=fC.le t ht;omega) ab ab) fun v I3 qs b2 ak hq=>?_;obtain⟨A3,rfl,b3⟩:=hq;obtain⟨ca,cc,rfl⟩:=b3.shape;simp only[aaz,aaA]at b2 |-;apply au;simp only[go_sem,iv,pt];refine nI b2 [1,0] fun cd=>?_;refine aw ?_;apply RG;simp only[go_sem,iv,pt,c3];rw[a9]at b3 |-;exact b8 (i+1,.slice ca (Hk ts f (i+1)).length cc) _ _ dt (bJ (by simp only[go_sem,aa6,iv,pt])) (by simp only[go_sem,aa6,VF]) ⟨I3,A3,rfl,cd,abV a4 (abV b6 ak),b0,b3⟩
  ·have em:j=ts.length:=by omega
   subst em;have dd:=Z6 ts.length;have a9:Syn.join cur ts.length d=Hk ts f (i+1):=by rw[abH]at cj;exact cj
   apply RG;simp only[go_sem,dd,iv,pt];refine XN (l:=[_]) rfl (cellsU a5 (.tail _ (.head _)) (ay (by simp[cg]) rfl)) (.inr ⟨uy,rfl⟩) ?_;apply RG;simp only[go_sem,dd,iv,pt];refine dN mixed [0,1,2,3,4,5,6,7,8] [4] [] rfl rfl ?_;apply au;simp only[go_sem,iv,pt];refine W7 (l:=[_]) rfl (cellsU a5 (.tail _ (.head _)) (ay (by simp[cg]) rfl)) (.inr ⟨uy,rfl⟩) ?_;apply au;simp only[go_sem,iv,pt];refine aE a5 [1,0] [A2] [_] rfl ej rfl (bK (a:=ts.length) c9 cx fC.ok.2 (fun t ht=>by have:=fC.le t ht;omega) ab ab) fun v I3 qs b2 ak hq=>?_;obtain⟨A3,rfl,b3⟩:=hq;obtain⟨ca,cc,rfl⟩:=b3.shape;simp only[aaz,aaA]at b2 |-;apply au;simp only[go_sem,iv,pt];refine nI b2 [1,0] fun cd=>?_;refine aw ?_;apply RG;simp only[go_sem,iv,pt,c3];rw[a9]at b3 |-;exact b8 (i+1,.slice ca (Hk ts f (i+1)).length cc) _ _ dt (bJ (by simp only[go_sem,aa6,iv,pt])) (by simp only[go_sem,aa6,VF]) ⟨I3,A3,rfl,cd,abV a4 (abV b6 ak),b0,b3⟩
 ·have d0:i=f.length:=by omega
  subst d0;have ee:=Z6 f.length;have es:Hk ts f f.length=eK ts f:=by unfold Hk eK;rw[aaS]
  rw[es]at dc fA |-;apply RG;simp only[go_sem,ee,iv,pt];refine nr (c:=.st _) eb [1,0] rfl fun a5=>?_;simp only[vG,aa7,aa8]at a5 |-;refine ae (c:=.st _) a5 fun I2 b2 ak ey=>?_;refine aR (c:=.st _) b2 fun cd=>?_;refine nr (c:=.st _) cd [1,0] rfl fun c2=>?_;simp only[vG,aa7,aa8]at c2 |-;have hS:eR I2 (.slice aa (eK ts f).length ac) (eK ts f):=abX (R:=iD) (fun{I J c a} h k=>iD.le h k) dc ak ey;obtain⟨a,ha⟩:∃a,a=eK ts f:=⟨_,rfl⟩;rw[<-ha]at hS fA |-;have e3:=fA.len;have cr:heads ts f=a.map (cQ ts):=by rw[lS h.ok fn.ok,ha]
  refine aA (fun x=>a.length-x.1) (Uz pb (.slice aa a.length ac) a.length) (ZM pb (cg (.slice la ts.length lc) (.slice fa ts.length fc) ov dv o) ts a I2) (0,.slice none 0 0) (bJ (by simp only[go_sem,aa6,iv,pt])) (by simp only[go_sem,aa6,Uz]) ?_ ?_
  ·exact⟨I2,PH.no,rfl,c2,abW _,aaL _,Ow.nil _ _ _ _⟩
  rintro⟨i,vo⟩ H ⟨I3,B,rfl,c1,aS,hi,hB⟩ a3;simp only at hi hB;simp only[Uz];obtain⟨oa,oc,rfl⟩:=hB.shape;have cl:((a.take i).map (cQ ts)).length=i:=by simp;omega
  rw[cl]at hB |-;have et:eR I3 (.slice aa a.length ac) a:=Sl.le (R:=iD) (fun{I J c a} h k=>iD.le h k) hS aS;have h3:=h.le (abV a4 (abV ak aS));rcases aaf i a.length with b0|en
  ·have ed:decide ((i:Int)<(a.length:Int))=true:=by simp;omega
   have e1:=wrap64 (n:=i+1) ab;have c3:IntKind.i64.wrap ((i:Int)+1)=((i+1:Nat):Int):=by rw[<-e1];congr 1
   obtain⟨s,hs⟩:∃s,a[i]?=some s:=⟨_,aak b0⟩;have dj:=aaV hs;obtain⟨b,off,cs,rfl,ec,bC⟩:=et.load iD.len hs;obtain⟨sa,sk,rfl,b4⟩:=ec.shape;have sle:=fA.le s dj;obtain⟨sok,sne⟩:=fA.ok.1 s dj;have cA:(a.take (i+1)).map (cQ ts)=(a.take i).map (cQ ts)++[cQ ts s]:=by
    rw[aaM b0,abP];rw[aak b0]at hs;rw[aaZ hs];rfl
   apply RG;simp only[go_sem,ed,iv,pt];refine⟨ab,?_⟩;refine XN (l:=[iv s.1,.slice sa (T.subs s.2).length sk,iv (T.plc (T.subs s.2) s.2)]) (v:=.agg #[iv s.1,.slice sa (T.subs s.2).length sk,iv (T.plc (T.subs s.2) s.2)]) rfl (cellsU c1 (.head _) bC) (.inl ⟨sM,rfl⟩) ?_;apply RG;simp only[go_sem,iv,pt];refine ad c1 [0,1] [_] [B] rfl G7 rfl (Am h3 sle) fun v I4 qs cb cp hq=>?_;obtain⟨rfl,rfl,rfl⟩:=hq;simp only[aaz,aaA]at cb |-;apply RG;simp only[go_sem,iv,pt];refine ad cb [0,1] [] [_,_] rfl kK rfl (oQ b4 (mN I4 false)) fun v I5 qs dw ao hq=>?_;obtain⟨rfl,c0⟩:=hq;rw[Nj sok]at c0;obtain⟨xa,xc,rfl⟩:=c0.shape;simp only[aaz,aaA]at dw |-;apply RG;simp only[go_sem,iv,pt];refine WZ rfl jt (gO c0) fun v H2 hv=>?_;obtain⟨rfl,rfl⟩:=hv;apply RG;simp only[go_sem,iv,pt];refine dN mixed [8,0,1,2,3,4,5,6,7,9] [] [] rfl rfl ?_;apply au;simp only[go_sem,iv,pt];refine aE dw [0,1] [] [_,_] rfl oT rfl (uX (mN I5 false)) fun v I6 qs c8 al hq=>?_;obtain⟨rfl,cB⟩:=hq;simp only[T.not,abK]at cB;obtain⟨ya,yc,rfl⟩:=cB.shape;simp only[aaz,aaA]at c8 |-;apply au;simp only[go_sem,iv,pt];refine aE c8 [0,1] [] [_,_] rfl kK rfl (oQ (b4.le (abV ao al)) cB) fun v I7 qs an aq hq=>?_;obtain⟨rfl,a7⟩:=hq;rw[Mb sok]at a7;obtain⟨za,zc,rfl⟩:=a7.shape;simp only[aaz,aaA]at an |-;apply au;simp only[go_sem,iv,pt];refine aw ?_;apply RG;simp only[go_sem,iv,pt];have h7:=h3.le (abV ao (abV al aq));rcases aaf s.1 ts.length with el|eA
   ·have cy:decide ((s.1:Int)<(ts.length:Int))=true:=by simp;omega
    obtain⟨t,ht⟩:∃t,ts[s.1]?=some t:=⟨_,aak el⟩;obtain⟨fb,foff,fcs,rfl,eo,ct⟩:=h7.fit.load (fun{I} c a h=>uh.len (I:=I) c a h) ht;obtain⟨tb,toff,tc,rfl,dI,a1⟩:=h7.tok.load dz.len ht;have d1:fcs=[.bool t.fits]:=eo;subst d1;refine dN mixed [0,1,2,3,4,5,6,7,8,9,10,11,12,13,14,15,16,17] [5,12,16] [] rfl rfl ?_;apply au;simp only[go_sem,iv,pt];refine W7 (l:=[_]) rfl (cellsU an (.tail _ (.head _)) (ay (by simp[cg]) rfl)) (.inr ⟨uy,rfl⟩) ?_;apply au;simp only[go_sem,iv,pt,cy];refine W7 (l:=[.slice (some ⟨fb,foff,none⟩) ts.length fc]) rfl (cellsU an (.tail _ (.head _)) (ay (by simp[cg]) rfl)) (.inr ⟨Rq,rfl⟩) ?_;apply au;simp only[go_sem,iv,pt];refine⟨ab,?_⟩;refine W7 (l:=[.bool t.fits]) rfl (cellsU an (.head _) ct) (.inr ⟨Ep,rfl⟩) ?_;apply au;simp only[go_sem,iv,pt];refine aw ?_;cases b7:t.fits
    ·have c6:cQ ts s=⟨s.1,s.2,0,[]⟩:=by simp[cQ,ht,b7]
     apply RG;simp only[go_sem,iv,pt,b7];refine WZ rfl jt (gO a7) fun v H2 hv=>?_;obtain⟨rfl,rfl⟩:=hv;have b1:decide (s.2=.lf false)=false:=by simpa using sne
     apply RG;simp only[go_sem,iv,pt,b1];refine ax an (by exact uV) rfl rfl rfl rfl rfl bg fun nb I8 bx aj c5=>?_;apply RG;simp only[go_sem,iv,pt];refine bf bx [1,0] fun a2=>?_;obtain⟨bs,am,bF⟩:=hB;rw[cl]at am;refine dZ (m:=1) a2 (by exact uV) am rfl rfl rfl rfl (cellsU a2 (.head _) (az (l:=[iv s.1,.slice za (T.subs s.2).length zc,iv (T.plc (T.subs s.2) s.2),.int .u8 0,.string ⟨#[]⟩]) c5 (by simp[aD,Value.cells]) (by simp[aD,Value.cells,iv]))) rfl rfl ab (by unfold maxLen;omega) fun v' I9 B2 bd ag cf=>?_;obtain⟨na,nc,rfl⟩:=cf.slice;apply RG;simp only[go_sem,iv,pt,c3];refine bf bd [1,0] fun bb=>?_;refine a3 (i+1,.slice na (i+1) nc) _ _ dt (bJ (by simp only[go_sem,aa6,iv,pt])) (by simp only[go_sem,aa6,Uz]) ⟨I9,B2,rfl,bb,abV aS (abV ao (abV al (abV aq (abV aj ag)))),b0,bs++[iv s.1,.slice za (T.subs s.2).length zc,iv (T.plc (T.subs s.2) s.2),.int .u8 0,.string ⟨#[]⟩],?_,?_⟩
     ·simp only;rw[cA,aa9,cl];exact cf
     ·simp only;rw[cA,c6];exact LR.app (bF.mono fun _ _ h=>l7.le h (abV ao (abV al (abV aq (abV aj ag))))) (.one ⟨za,zc,rfl,a7.le (abV aj ag)⟩)
    ·have c6:cQ ts s=⟨s.1,s.2,t.kind,t.text⟩:=by simp[cQ,ht,b7]
     obtain⟨path,file,line,ta,tk,rfl,c4,dy⟩:=dI;have eg:=a1.sub 0 1 (by simp);have ef:=a1.sub 1 1 (by simp);simp only[abx,aa1,abA,abz,Nat.add_zero]at eg ef;apply RG;simp only[go_sem,iv,pt,b7];refine cK mixed [0,1,2,3,4,5,6,7,8,9,10,11,12,13,14,15,16,17,18,19,20,21] [3,8,12,17] [] [12,14,17] [19] [12] rfl rfl ?_;apply au;simp only[go_sem,iv,pt];refine W7 (l:=[.slice (some ⟨tb,toff,none⟩) ts.length lc]) rfl (cellsU an (.tail _ (.head _)) (ay (by simp[cg]) rfl)) (.inr ⟨uy,rfl⟩) ?_;apply au;simp only[go_sem,iv,pt];refine⟨ab,?_⟩;refine W7 (l:=[.int .u8 t.kind]) rfl (cellsU an (.head _) eg) (.inr ⟨Uv,rfl⟩) ?_;apply au;simp only[go_sem,iv,pt];refine W7 (l:=[.slice (some ⟨tb,toff,none⟩) ts.length lc]) rfl (cellsU an (.tail _ (.head _)) (ay (by simp[cg]) rfl)) (.inr ⟨uy,rfl⟩) ?_;apply au;simp only[go_sem,iv,pt];refine⟨ab,?_⟩;refine W7 (l:=[.string ⟨⟨t.text⟩⟩]) rfl (cellsU an (.head _) ef) (.inr ⟨tL,rfl⟩) ?_;apply au;simp only[go_sem,iv,pt];refine aw ?_;apply RG;simp only[go_sem,iv,pt];refine WZ rfl jt (gO a7) fun v H2 hv=>?_;obtain⟨rfl,rfl⟩:=hv;have b1:decide (s.2=.lf false)=false:=by simpa using sne
     apply RG;simp only[go_sem,iv,pt,b1];refine ax an (by exact uV) rfl rfl rfl rfl rfl bg fun nb I8 bx aj c5=>?_;apply RG;simp only[go_sem,iv,pt];refine bf bx [1,0] fun a2=>?_;obtain⟨bs,am,bF⟩:=hB;rw[cl]at am;refine dZ (m:=1) a2 (by exact uV) am rfl rfl rfl rfl (cellsU a2 (.head _) (az (l:=[iv s.1,.slice za (T.subs s.2).length zc,iv (T.plc (T.subs s.2) s.2),.int .u8 t.kind,.string ⟨⟨t.text⟩⟩]) c5 (by simp[aD,Value.cells]) (by simp[aD,Value.cells,iv]))) rfl rfl ab (by unfold maxLen;omega) fun v' I9 B2 bd ag cf=>?_;obtain⟨na,nc,rfl⟩:=cf.slice;apply RG;simp only[go_sem,iv,pt,c3];refine bf bd [1,0] fun bb=>?_;refine a3 (i+1,.slice na (i+1) nc) _ _ dt (bJ (by simp only[go_sem,aa6,iv,pt])) (by simp only[go_sem,aa6,Uz]) ⟨I9,B2,rfl,bb,abV aS (abV ao (abV al (abV aq (abV aj ag)))),b0,bs++[iv s.1,.slice za (T.subs s.2).length zc,iv (T.plc (T.subs s.2) s.2),.int .u8 t.kind,.string ⟨⟨t.text⟩⟩],?_,?_⟩
     ·simp only;rw[cA,aa9,cl];exact cf
     ·simp only;rw[cA,c6];exact LR.app (bF.mono fun _ _ h=>l7.le h (abV ao (abV al (abV aq (abV aj ag))))) (.one ⟨za,zc,rfl,a7.le (abV aj ag)⟩)
   ·have ek:s.1=ts.length:=by omega
    have cy:decide ((s.1:Int)<(ts.length:Int))=false:=by simp;omega
    have c6:cQ ts s=⟨s.1,s.2,0,[]⟩:=by simp[cQ,ek]
    refine dN mixed [0,1,2,3,4,5,6,7,8,9,10,11,12,13,14,15,16,17] [5,12,16] [] rfl rfl ?_;apply au;simp only[go_sem,iv,pt];refine W7 (l:=[_]) rfl (cellsU an (.tail _ (.head _)) (ay (by simp[cg]) rfl)) (.inr ⟨uy,rfl⟩) ?_;apply au;simp only[go_sem,iv,pt,cy];refine aw ?_;apply RG;simp only[go_sem,iv,pt];refine WZ rfl jt (gO a7) fun v H2 hv=>?_;obtain⟨rfl,rfl⟩:=hv;have b1:decide (s.2=.lf false)=false:=by simpa using sne
    apply RG;simp only[go_sem,iv,pt,b1];refine ax an (by exact uV) rfl rfl rfl rfl rfl bg fun nb I8 bx aj c5=>?_;apply RG;simp only[go_sem,iv,pt];refine bf bx [1,0] fun a2=>?_;obtain⟨bs,am,bF⟩:=hB;rw[cl]at am;refine dZ (m:=1) a2 (by exact uV) am rfl rfl rfl rfl (cellsU a2 (.head _) (az (l:=[iv s.1,.slice za (T.subs s.2).length zc,iv (T.plc (T.subs s.2) s.2),.int .u8 0,.string ⟨#[]⟩]) c5 (by simp[aD,Value.cells]) (by simp[aD,Value.cells,iv]))) rfl rfl ab (by unfold maxLen;omega) fun v' I9 B2 bd ag cf=>?_;obtain⟨na,nc,rfl⟩:=cf.slice;apply RG;simp only[go_sem,iv,pt,c3];refine bf bd [1,0] fun bb=>?_;refine a3 (i+1,.slice na (i+1) nc) _ _ dt (bJ (by simp only[go_sem,aa6,iv,pt])) (by simp only[go_sem,aa6,Uz]) ⟨I9,B2,rfl,bb,abV aS (abV ao (abV al (abV aq (abV aj ag)))),b0,bs++[iv s.1,.slice za (T.subs s.2).length zc,iv (T.plc (T.subs s.2) s.2),.int .u8 0,.string ⟨#[]⟩],?_,?_⟩
    ·simp only;rw[cA,aa9,cl];exact cf
    ·simp only;rw[cA,c6];exact LR.app (bF.mono fun _ _ h=>l7.le h (abV ao (abV al (abV aq (abV aj ag))))) (.one ⟨za,zc,rfl,a7.le (abV aj ag)⟩)
  ·have d0:i=a.length:=by omega
   subst d0;have ed:=Z6 a.length;rw[aaS,<-cr]at hB;apply RG;simp only[go_sem,ed,iv,pt];refine nr (c:=.st _) c1 [1,0] rfl fun cb=>?_;simp only[vG,aa7,aa8]at cb |-;refine ae (c:=.st _) cb fun I4 dw ao ex=>?_;have dT:qO I4 (.slice oa a.length oc) (heads ts f):=abX (R:=l7) (fun{I J c a} h k=>l7.le h k) hB ao ex;exact af rfl dw (r:=[_]) rfl (abV a4 (abV ak (abV aS ao))) ⟨rfl,dT⟩
end Go.Proofs.YtfaclfkpnmcmlaaGreatDoor
namespace Go.Sx
open Go
section
variable {C:Cx} {P:Program} {k:List Item} {σ:St} {H:PH}
variable{I:PH}
def VW{I2:PH}{qs F:List PH}(aa:I.le I2)(ac:Dj (I::F))(hd:Dj (I2::qs++F)):(U (I::F)).le (U (I2::qs++F)):=by
 intro b o h;rcases(nU ac).1 h with ⟨A,hA,hb⟩
 rcases List.mem_cons.1 hA with rfl|hA
 ·exact(nU hd).2 ⟨I2,.head _,aa b o hb⟩
 ·exact(nU hd).2 ⟨A,.tail _ (aav _ hA),hb⟩
def Dj.drop_mid{ps F:List PH}(h:Dj (I::ps++F)):Dj (I::F):=
 h.sublist (List.Sublist.cons_cons I (List.sublist_append_right ps F))
variable{Ψ:Value->PH->List PH->Prop}{x:Operand}{o:Oper}{ol:List Oper}
def tG{fr:iK}{str:ip}{i:Nat}{lo:List (Nat×Oper)}{aS:Array Operand}{ts:Array TypeId}{f:FuncId}{vs:List Value}{first cap:Array Value}{l ps F:List PH}(hd:Dj (I::l))(is:List Nat)(hs:str.h.contains i=false)(hw:aH ol σ o=some true)(ac:o.op=.call ⟨.value x,aS,ts⟩)
  (hx:ev σ x=.v (.func (.func f) first cap)) (ha:j8 (ev σ) aS.toList=some vs) (hg:aO C.P f) (hi:is.isPerm (List.range l.length)=true) (hl:vG l is=ps++F) (aa:fr.J.le (U (I::F))) (h:aK C.P f (first++vs.toArray++cap) I ps Ψ)
  (hk:∀v I2 qs,Dj (I2::qs++F)->I.le I2->Ψ v I2 qs->RD C ol fr str lo k (σ.put o.dst (.v v)) (U (I2::qs++F))):RD C ol fr str ((i,o)::lo) k σ (U (I::l)):=by
 obtain⟨e,d⟩:=oz ((o5 hi).cons I) hd;rw[hl]at e d;rw[e];exact tH hw ac hx ha hg (h.frame d) fun v H2 ⟨I2,qs,a,b,c,dd⟩=>⟨⟨fun hh=>Bool.noConfusion (hs.symm.trans hh),fun hj _=>by subst a;exact abV aa (VW c (Dj.drop_mid d) b)⟩,by subst a;exact hk v I2 qs b c dd⟩
def d8{r:List Value}{I2:PH}{qs:List PH}(aa:C.post=fun v H2=>∃I2 qs,H2=U (I2::qs)/\Dj (I2::qs)/\I.le I2/\Ψ v I2 qs)(hd:Dj (I2::qs))(h:xx C.P σ C.fn.results.toList=some r)(ac:I.le I2)(hp:Ψ (gv r) I2 qs):RC C (.st []) σ (U (I2::qs)):=
 VA h (by rw[aa];exact⟨I2,qs,rfl,hd,ac,hp⟩)
variable{a:Option Addr}{y:Operand}{size:Nat}{e:TypeId}
def DJ{T:TypeId}{z:Operand}{len cap h m:Nat}{k1 k2:IntKind}(ac:o.op=.slice T x none (some y) (some z))(hu:P.underlying T=some (.slice e))(hi:∃i,P.info? e=some i/\i.size=size)
  (hx:ev σ x=.v (.slice a len cap)) (hy:ev σ y=.v (.int k1 h)) (hz:ev σ z=.v (.int k2 m)) (h1:h<=m) (h2:m<=cap) :
  bh σ o.op=true/\de P (execOp (bN σ) o) H fun sv H2=>sv=.v (.slice (sO a size 0 m) h m)/\H2=H:=by
 constructor
 ·simp[bh,ac,fT,Op.operands,hx,hy,hz,ul]
 ·intro w hw;obtain⟨i,hi,rfl⟩:=hi;have ag:(sizeOf e).run P w=.ok i.size w:=by simp[sizeOf,typeInfo,program,Sem.run,hi]
  have r1:=gX (P:=P) (w:=w) (i:=(m:Int)) (k:=k2) (code:=.slice3Acap) (y:=cap) ab ab;have r2:=gX (P:=P) (w:=w) (i:=(h:Int)) (k:=k1) (code:=.slice3B) (y:=m) ab ab;simp only[Int.toNat_natCast]at r1 r2;have aa:(execOp (bN σ) o).run P w=.ok (.value (.slice (sO a i.size 0 m) h m)) w:=by
   simp[execOp,ac,bN,hx,hy,hz,Instr.sliceAt,bt hu,run_underlying hu,Instr.slice,Instr.sliceBounds,Result.andThen,ag,sO,r1,r2]
  rw[aa];exact⟨H,dM.refl hw,rfl,rfl⟩
variable{rem:List Oper}
def II{T:TypeId}{z:Operand}{len cap h m:Nat}{k1 k2:IntKind}(hw:aH ol σ o=some true)(aa:o.op=.slice T x none (some y) (some z))(hu:C.P.underlying T=some (.slice e))(hi:∃i,C.P.info? e=some i/\i.size=size)
  (hx:ev σ x=.v (.slice a len cap)) (hy:ev σ y=.v (.int k1 h)) (hz:ev σ z=.v (.int k2 m)) (h1:h<=m) (h2:m<=cap)
  (hk:RC C (.op ol rem k) (σ.put o.dst (.v (.slice (sO a size 0 m) h m))) H):RC C (.op ol (o::rem) k) σ H:=by
 obtain⟨a,b⟩:=DJ (H:=H) aa hu hi hx hy hz h1 h2;exact iU hw a (b.mono fun sv H2 ⟨e1,e2⟩=>by subst e1;subst e2;exact hk)
variable{n c:Nat}
def EA{T T2:TypeId}(ac:o.op=.binOp .eql T x y T2)(hu:P.underlying T=some (.slice e))
  (hx:ev σ x=.v (.slice a n c)) (hy:ev σ y=.v (.slice none 0 0)) :
  bh σ o.op=true/\de P (execOp (bN σ) o) H fun sv H2=>sv=.v (.bool a.isNone)/\H2=H:=by
 constructor
 ·simp[bh,ac,fT,Op.operands,hx,hy,ul]
 ·intro w hw;have aa:(execOp (bN σ) o).run P w=.ok (.value (.bool a.isNone)) w:=by
   have:∀k,Op.maxDepth=k+1->(Op.equal T (.slice a n c) (.slice none 0 0)).run P w=.ok a.isNone w:=by
    intro k hk;unfold Op.equal;rw[hk];cases a<;>simp[Op.equalIn,run_underlying hu,ZY,Result.andThen]
   have hh:=this 9999 rfl;simp[execOp,ac,bN,hx,hy,eqGuard,binOp,ZY,hh,Result.andThen]
  rw[aa];exact⟨H,dM.refl hw,rfl,rfl⟩
def nG{T T2:TypeId}(hw:aH ol σ o=some true)(aa:o.op=.binOp .eql T x y T2)(hu:C.P.underlying T=some (.slice e))
  (hx:ev σ x=.v (.slice a n c)) (hy:ev σ y=.v (.slice none 0 0)) (hk:RC C (.op ol rem k) (σ.put o.dst (.v (.bool a.isNone))) H):RC C (.op ol (o::rem) k) σ H:=by
 obtain⟨p,q⟩:=EA (H:=H) aa hu hx hy;exact iU hw p (q.mono fun sv H2 ⟨e1,e2⟩=>by subst e1;subst e2;exact hk)
variable{bytes:Nat}{t:TypeId}
def tE(ht:jv P t e size bytes){ya:Option Addr}{n2:Nat}(ac:o.op=.call ⟨.builtin .append,#[x,y],#[t,t]⟩)
  (hx:ev σ x=.v (.slice a n n2)) (ag:n<=n2) (hy:ev σ y=.v (.slice ya 0 c)) :
  bh σ o.op=true/\de P (execOp (bN σ) o) H fun sv H2=>sv=.v (.slice a n n2)/\H2=H:=by
 constructor
 ·simp[bh,ac,fT,Op.operands,Call.operands,hx,hy,ul]
 ·intro w hw;obtain⟨i,z,a1,a2,a3,a4,a5,a6,a7⟩:=ht;have hs:Src P i.size t (.slice ya 0 c) 0 [] w:=by
   cases ya with
   |none=>exact Src.ofNil w a1 c
   |some b=>exact Src.ofSlice w a1 b 0 c [] (by simp) (fun j u h=>by simp at h) (fun u h=>by cases h)
  have aa:=run_append_nothing (P:=P) w t t o.type e i a1 a2 a n n2 ag _ hs;rw[pF ac hx hy aa];exact⟨H,dM.refl hw,rfl,rfl⟩
def AA(ht:jv P t e size bytes){n2 m xb xo:Nat}{olds news:List Value}(aj:o.op=.call ⟨.builtin .append,#[x,y],#[t,t]⟩)
  (hx:ev σ x=.v (.slice a n n2)) (ak:n2<n+m) (hy:ev σ y=.v (.slice (some ⟨xb,xo,none⟩) m c)) (ag:n=0\/∃b off,a=some ⟨b,off,none⟩/\aP H b off olds) (hl:olds.length=n*size)
  (hc:aP H xb xo news) (am:news.length=m*size) (h1:news.all one=true) (al:n+m<=maxLen) (hb:(n+m)*bytes<=140737488355328) :
  bh σ o.op=true/\de P (execOp (bN σ) o) H fun sv H2=>∃g cap zs,H g=none/\(n+m<=cap/\cap<=maxLen)/\sv=.v (.slice (some ⟨g,0,none⟩) (n+m) cap)/\H2=H.put g (.cells (olds++news++zs).toArray e (0,0)):=by
 constructor
 ·simp[bh,aj,fT,Op.operands,Call.operands,hx,hy,ul]
 ·intro w hw;obtain⟨i,z,a1,a2,a3,a4,a5,a6,a7⟩:=ht;subst a4;subst a5;have an:(Builtin.firstCells i.size n (.slice a n n2)).run P w.drew=.ok olds.toArray w.drew:=by
   rcases ag with rfl|⟨b,off,rfl,ao⟩
   ·have:olds=[]:=by simpa using hl
    subst this;cases a with
    |none=>exact run_firstCells_none w.drew i.size 0 0 n2
    |some b=>exact run_firstCells_some w.drew i.size 0 b 0 n2 [] (by simp) (fun j u h=>by simp at h)
   ·exact run_firstCells_some (P:=P) (w:=w.drew) i.size n ⟨b,off,none⟩ n n2 olds hl (oK ao (w:=w.drew) hw)
  have hs:Src P i.size t (.slice (some ⟨xb,xo,none⟩) m c) m news w:=Src.ofSlice w a1 ⟨xb,xo,none⟩ m c news am (oK hc hw)
   (fun u hu=>by have:=List.all_eq_true.1 h1 u hu;cases u<;>first|rfl|cases this)
  have aa:n+m<=9223372036854775807:=by simp only[maxLen]at al;omega
  have ac:=run_append_grow_src (P:=P) w t t o.type e i z a1 a2 a3 a n n2 olds an _ m news hs ak ab (growslice_fits ak hb);rw[pF aj hx hy ac];obtain⟨n1,n2'⟩:=dM.newD hw (.cells ((olds++news).toArray++Builtin.zeroCells z.cells (grownCap w (n+m) n2 e-(n+m))) e (0,0));refine⟨_,n2',w.heap.size,grownCap w (n+m) n2 e,(Builtin.zeroCells z.cells (grownCap w (n+m) n2 e-(n+m))).toList,n1,⟨grownCap_ge w (n+m) n2 e,grownCap_le_maxLen w (n+m) n2 e al⟩,rfl,?_⟩;congr 2;rw[<-aaa];simp
def yq(ht:jv C.P t e size bytes){ya:Option Addr}{n2:Nat}(hw:aH ol σ o=some true)(aa:o.op=.call ⟨.builtin .append,#[x,y],#[t,t]⟩)
  (hx:ev σ x=.v (.slice a n n2)) (ac:n<=n2) (hy:ev σ y=.v (.slice ya 0 c)) (hk:RC C (.op ol rem k) (σ.put o.dst (.v (.slice a n n2))) H):RC C (.op ol (o::rem) k) σ H:=by
 obtain⟨a,b⟩:=tE (H:=H) ht aa hx ac hy;exact iU hw a (b.mono fun sv H2 ⟨e1,e2⟩=>by subst e1;subst e2;exact hk)
def FT{l:List PH}(hd:Dj (I::l))(ht:jv C.P t e size bytes){n2 m xb xo:Nat}{olds news:List Value}(hw:aH ol σ o=some true)(ac:o.op=.call ⟨.builtin .append,#[x,y],#[t,t]⟩)
  (hx:ev σ x=.v (.slice a n n2)) (aj:n2<n+m) (hy:ev σ y=.v (.slice (some ⟨xb,xo,none⟩) m c)) (aa:n=0\/∃b off,a=some ⟨b,off,none⟩/\aP (U (I::l)) b off olds) (hl:olds.length=n*size)
  (hc:aP (U (I::l)) xb xo news) (ag:news.length=m*size) (h1:news.all one=true) (ak:n+m<=maxLen) (hb:(n+m)*bytes<=140737488355328)
  (hk:∀g cap I2,Dj (I2::l)->I.le I2->(n+m<=cap/\cap<=maxLen)->aP I2 g 0 (olds++news)->RC C (.op ol rem k) (σ.put o.dst (.v (.slice (some ⟨g,0,none⟩) (n+m) cap))) (U (I2::l))):RC C (.op ol (o::rem) k) σ (U (I::l)):=by
 obtain⟨a,b⟩:=AA ht ac hx aj hy aa hl hc ag h1 ak hb;refine iU hw a (b.mono fun sv H2 ⟨g,cap,zs,e1,e4,e2,e3⟩=>?_);subst e2;subst e3;obtain⟨q1,q2,q3,q4⟩:=La hd (o:=.cells (olds++news++zs).toArray e (0,0)) e1;rw[q1];refine hk g cap _ q2 q3 e4 (az q4 (by simp) (by show (List.drop 0 (olds++news++zs)).take (olds++news).length=_;rw[aa1];exact List.take_left))
end
theorem Ox(l:List UInt8):(⟨⟨l⟩⟩:ByteArray).toList=l:=ByteArray.toList_eq _
attribute [go_sem] Ox
end Go.Sx
namespace Go.Proofs.YtfaclfkpnmcmlaaGreatDoor
open Go Go.Sx Dg Syn
def kX:aO Tryz.prog 140:=⟨_,Tryz.func140,rfl,rfl⟩
def eG(I:PH)(c:List Value)(e:cO):Prop:=∃a k,c=[.int .u8 e.code,.int .i64 e.tok,sD a k e.cond,rD e.cond]/\cX I (.agg #[sD a k e.cond,rD e.cond]) e.cond
variable{c:List Value}{I J:PH}
def eG.le{e:cO}(h:eG I c e)(aa:I.le J):eG J c e:=by
 obtain⟨a,k,e,h⟩:=h;exact⟨a,k,e,cX.le h aa⟩
def eG.len(c:List Value)(e:cO)(h:eG I c e):c.length=4:=by obtain⟨a,k,e,_⟩:=h;rw[e];rfl
abbrev eF(I D:PH)(v:Value)(e:List cO):Prop:=Ow eG 80 4 I D v e
def eF.le{I J D:PH}{v:Value}{e:List cO}(h:eF I D v e)(aa:I.le J):eF J D v e:=Ow.le (R:=eG) (fun{I J c a} h k=>eG.le h k) h aa
abbrev abZ:=@eF.le
variable{v:Value}
def Sl.monoR{α:Type}{R R':PH->List Value->α->Prop}{l:List α}(h:Sl R I v l)(hR:∀c a,R I c a->R' I c a):Sl R' I v l:=by
 obtain⟨a,c,e,h⟩:=h;exact⟨a,c,e,h.imp id fun⟨b,off,xs,e1,e2,e3⟩=>⟨b,off,xs,e1,e2,e3.mono hR⟩⟩
def DZ:Value->Prop
 | .slice _ n c=>n<=c
 |_=>True
def sB:Value->Prop
 | .slice _ n c=>n<=c/\(0<n->c<=maxLen)
 |_=>True
def lM:sB (.slice none 0 0):=⟨ZR _,fun h=>absurd h (Nat.lt_irrefl _)⟩
def rC:Nat->PH->List Value->Nd->Prop
 |0,_,_,_=>False
 |d+1,I,c,n=>∃vk a k,c=[.int .u8 n.kind,.string ⟨⟨n.text⟩⟩,.int .i64 n.tok,.int .i64 n.slot,vk,sD a k n.cond,rD n.cond]/\cX I (.agg #[sD a k n.cond,rD n.cond]) n.cond/\Sl (rC d) I vk n.kids/\sB vk
def rC.le:∀{d:Nat} {I J:PH} {c:List Value} {n:Nd},rC d I c n->I.le J->rC d J c n
 |0,_,_,_,_,h,_=>h
 |d+1,I,J,c,n,⟨vk,a,k,e,h,hk,hc⟩,aa=>⟨vk,a,k,e,cX.le h aa,Sl.le (R:=rC d) (fun{I J c a} h k=>rC.le h k) hk aa,hc⟩
def rC.up:∀{d:Nat} {I:PH} {c:List Value} {n:Nd},rC d I c n->rC (d+1) I c n
 |0,_,_,_,h=>h.elim
 |d+1,I,c,n,⟨vk,a,k,e,h,hk,hc⟩=>⟨vk,a,k,e,h,hk.monoR fun _ _ h=>rC.up h,hc⟩
variable{n:Nd}
def rC.ups{d d':Nat}(h:rC d I c n)(hd:d<=d'):rC d' I c n:=by
 induction hd with
 |refl=>exact h
 |step _ ih=>exact ih.up
def bm(I:PH)(c:List Value)(n:Nd):Prop:=∃d,rC d I c n
def LR.depth{I:PH}:∀{l:List Nd} {xs:List Value},LR (bm I) xs l->∃d,LR (rC d I) xs l
 | [],xs,h=>⟨0,h⟩
 |a::l,xs,⟨c,ys,e,⟨d,h1⟩,h2⟩=>by
  obtain⟨d',h3⟩:=LR.depth h2;exact⟨max d d',c,ys,e,h1.ups (Nat.le_max_left _ _),h3.mono fun _ _ h=>h.ups (Nat.le_max_right _ _)⟩
variable{a:Option Addr}
theorem bm.mk{vk:Value}{k:Nat}(h:cX I (.agg #[sD a k n.cond,rD n.cond]) n.cond)(hk:Sl bm I vk n.kids)(hc:sB vk):bm I [.int .u8 n.kind,.string ⟨⟨n.text⟩⟩,.int .i64 n.tok,.int .i64 n.slot,vk,sD a k n.cond,rD n.cond] n:=by
 obtain⟨b,c,e,h2⟩:=hk;rcases h2 with h2|⟨b',off,xs,e1,e2,e3⟩
 ·exact⟨1,vk,a,k,rfl,h,⟨b,c,e,.inl h2⟩,hc⟩
 ·obtain⟨d,h4⟩:=LR.depth e3;exact⟨d+1,vk,a,k,rfl,h,⟨b,c,e,.inr ⟨b',off,xs,e1,e2,h4⟩⟩,hc⟩
def bm.shape(h:bm I c n):∃vk a k,c=[.int .u8 n.kind,.string ⟨⟨n.text⟩⟩,.int .i64 n.tok,.int .i64 n.slot,vk,sD a k n.cond,rD n.cond]/\cX I (.agg #[sD a k n.cond,rD n.cond]) n.cond/\Sl bm I vk n.kids/\sB vk:=by
 obtain⟨d,h⟩:=h;cases d with
 |zero=>exact h.elim
 |succ d=>
  obtain⟨vk,a,k,e,h1,h2,h3⟩:=h;exact⟨vk,a,k,e,h1,h2.monoR fun _ _ h=>⟨d,h⟩,h3⟩
def bm.le(h:bm I c n)(aa:I.le J):bm J c n:=by obtain⟨d,h⟩:=h;exact⟨d,h.le aa⟩
def bm.len(c:List Value)(n:Nd)(h:bm I c n):c.length=7:=by obtain⟨vk,a,k,e,_⟩:=h.shape;rw[e];rfl
abbrev bQ(I A:PH)(v:Value)(l:List Nd):Prop:=Ow bm 60 7 I A v l
abbrev eE(I:PH)(v:Value)(l:List Nd):Prop:=Sl bm I v l
def bQ.le{I J A:PH}{v:Value}{l:List Nd}(h:bQ I A v l)(aa:I.le J):bQ J A v l:=Ow.le (R:=bm) (fun{I J c a} h k=>bm.le h k) h aa
abbrev abY:=@bQ.le
def eE.le{l:List Nd}(h:eE I v l)(aa:I.le J):eE J v l:=Sl.le (R:=bm) (fun{I J c a} h k=>bm.le h k) h aa
def eR.le{l:ar}(h:eR I v l)(aa:I.le J):eR J v l:=Sl.le (R:=iD) (fun{I J c a} h k=>iD.le h k) h aa
def qO.le{l:List aB}(h:qO I v l)(aa:I.le J):qO J v l:=Sl.le (R:=l7) (fun{I J c a} h k=>l7.le h k) h aa
def yL(a:Option Addr)(k:Nat)(h:aB):Value:=.agg #[iv h.at',sD a k h.cond,rD h.cond,.int .u8 h.kind,.string ⟨⟨h.text⟩⟩]
def PP(pb:Nat)(lv fv ov:Value)(o:Nat)(e:List cO)(Φ:Value->PH->List PH->Prop):Value->PH->List PH->Prop:=
 fun v I2 qs=>∃dv2 D2 rs,qs=sg pb (cg lv fv ov dv2 o)::D2::rs/\eF I2 D2 dv2 e/\Φ v I2 rs
abbrev ux:Nat:=2^40
variable{e:List cO}{ts:List Tok}
theorem ow{D:PH}{pb:Nat}{lv fv ov dv:Value}{o:Nat}{h:aB}{k code:Nat}(hp:zr I ts lv fv)(bd:h.at'<=ts.length)(hr:cX I (.agg #[sD a k h.cond,rD h.cond]) h.cond)(he:eF I D dv e)(hl:e.length+2<=ux):
  aK Tryz.prog 140 #[pt pb,yL a k h,.int .u8 code] I [sg pb (cg lv fv ov dv o),D] (PP pb lv fv ov o (e++cJ h code) fun v I2 rs=>rs=[]):=by
 intro hd;have bs:=hp.len;unfold ux at hl;obtain⟨la,lc,rfl,_⟩:=id hp.tok;obtain⟨fa,fc,rfl,_⟩:=id hp.fit;obtain⟨da,dc,rfl⟩:=id he.shape;refine ah 36 Tryz.func140 fun w0=>?_
 try simp only[iv,pt,yL,sD,rD]
 refine aT ?_;refine eP [7,0,1,2,3,4,5,6,8] [] [] ?_;refine FW ?_;refine aE hd [0,1] [_] [D] rfl G7 rfl (Am hp bd) fun v I2 qs a4 a9 hq=>?_;obtain⟨rfl,rfl,rfl⟩:=hq;simp only[aaz,aaA]at a4 |-;refine FW ?_;refine aE a4 [0,1] [] [sg pb _,D] rfl kK rfl (oQ hr (mN I2 false)) fun v I3 qs am ak hq=>?_;obtain⟨rfl,al⟩:=hq;rw[show h.cond.and (.lf false)=ff from Nj hr.1]at al;obtain⟨ya,yk,rfl⟩:=al.shape2;simp only[aaz,aaA]at am |-;refine qY ?_;refine aw ?_;refine dg ?_;refine iZ mixed [0,1,2,3,4,5,6,7,8,9,10,11,12,13,14,15,16,17,18,19,20,21,22] [] [] [4] [15,16,18] (sg pb (cg (.slice la ts.length lc) (.slice fa ts.length fc) ov (.slice da e.length dc) o)) rfl rfl ?_;refine FW ?_;refine je (l:=[.slice da e.length dc]) rfl (di am) rfl rfl rfl (ay (by simp[cg]) rfl) (.inr ⟨Te,rfl⟩) ?_;refine qY ?_;refine tG am [0,1] rfl rfl rfl rfl rfl oT (by rfl) (ps:=[]) (F:=[sg pb _,D]) rfl (di am) (uX al) fun v I4 qs aS ag hq=>?_;obtain⟨rfl,aq⟩:=hq;rw[show ff.not=tt from rfl]at aq;obtain⟨za,zk,rfl⟩:=aq.shape2;simp only[aaz,aaA]at aS |-;refine qY ?_;refine tG aS [0,1] rfl rfl rfl rfl rfl kK (by rfl) (ps:=[]) (F:=[sg pb _,D]) rfl (di aS) (oQ (hr.le (abV ak ag)) aq) fun v I5 qs a3 aj hq=>?_;obtain⟨rfl,ao⟩:=hq;rw[show h.cond.and tt=h.cond from Mb hr.1]at ao;obtain⟨xa,xk,rfl⟩:=ao.shape2;simp only[aaz,aaA]at a3 |-;refine qY ?_;refine bj a3 (by exact vP) rfl rfl rfl rfl rfl bg fun nb I6 bc ac a6=>?_;refine qY ?_;refine nI bc [1,0] fun a2=>?_;obtain⟨xs,an,a7⟩:=he
 refine j3 (m:=2) a2 (by exact vP) an rfl rfl rfl rfl rfl rfl (cellsU a2 (.head _) (az (l:=[.int .u8 12,.int .i64 h.at',.slice ya (T.subs ff).length yk,.int .i64 (T.plc (T.subs ff) ff),.int .u8 code,.int .i64 h.at',.slice xa (T.subs h.cond).length xk,.int .i64 (T.plc (T.subs h.cond) h.cond)]) a6 (by simp[aD,Value.cells]) (by simp[aD,Value.cells]))) rfl rfl ab (by unfold maxLen;omega) fun v' I7 D2 bb aa a5=>?_;obtain⟨na,nc,rfl⟩:=a5.slice;refine qY ?_;refine nI bb [1,0] fun ba=>?_;refine aQ ba rfl rfl rfl rfl rfl rfl (by exact UF) (by simp) fun a1=>?_;refine qY ?_;refine aw ?_;refine dg ?_;refine d8 rfl a1 (r:=[]) rfl (abV ak (abV ag (abV aj (abV ac aa)))) ⟨_,D2,[],rfl,⟨_,a5.xs (by simp[cJ]) rfl,?_⟩,rfl⟩;refine LR.app (a7.mono fun _ _ h=>eG.le h (abV ak (abV ag (abV aj (abV ac aa))))) ?_;refine LR.app (l:=[_]) (m:=[_]) (LR.one ?_) (LR.one ?_) (xs:=[_,_,_,_]) (ys:=[_,_,_,_])
 ·exact⟨ya,yk,rfl,al.le (abV ag (abV aj (abV ac aa)))⟩
 ·exact⟨xa,xk,rfl,ao.le (abV ac aa)⟩
def iG:aO Tryz.prog 203:=⟨_,Tryz.func203,rfl,rfl⟩
def Vi(pb:Nat)(s:bq)(vh:Value)(n:Nat)(x:Nat×Value×Value):St:=⟨dn 34 [(0,.v (pt pb)),(2,.v (.string ⟨⟨s⟩⟩)),(7,.v x.2.1),(12,.v vh),(13,.v (iv n)),(14,.v (iv x.1))],[]⟩
def YW(pb:Nat)(lv fv ov:Value)(o:Nat)(hs:List aB)(s:bq)(e:List cO)(I0:PH)(x:Nat×Value×Value)(H:PH):Prop:=
 ∃I D A,H=U [I,sg pb (cg lv fv ov x.2.2 o),D,A]/\Dj [I,sg pb (cg lv fv ov x.2.2 o),D,A]/\I0.le I/\x.1<=hs.length/\eF I D x.2.2 (e++((hs.take x.1).foldl (gH s) ([],[])).2)/\jy I A x.2.1 ((hs.take x.1).foldl (gH s) ([],[])).1
def l7.shape{h:aB}(k:l7 I c h):∃a k,c=[iv h.at',sD a k h.cond,rD h.cond,.int .u8 h.kind,.string ⟨⟨h.text⟩⟩]/\cX I (.agg #[sD a k h.cond,rD h.cond]) h.cond:=k
theorem kf{D:PH}{pb:Nat}{lv fv ov dv vf:Value}{o:Nat}{f:ar}{s:bq}(h:zr I ts lv fv)(hf:eR I vf f)(fn:FN ts.length f)(hs:s≠[])(he:eF I D dv e)(hm:e.length+(Syn.take ts f s).2.length<=ux):
  aK Tryz.prog 203 #[pt pb,vf,.string ⟨⟨s⟩⟩] I [sg pb (cg lv fv ov dv o),D] (PP pb lv fv ov o (e++(Syn.take ts f s).2) fun v I2 rs=>∃A,rs=[A]/\jy I2 A v (Syn.take ts f s).1):=by
 intro hd;have hl:=h.len;refine ah 34 Tryz.func203 fun w0=>?_
 try simp only[iv,pt]
 refine aT ?_;refine DY hd [0,1] rfl kU rfl (ps:=[sg pb _]) (F:=[D]) rfl (kW h hf fn) fun v I2 qs ba am hq=>?_;obtain⟨rfl,hH⟩:=hq;obtain⟨ha,hc,rfl,_⟩:=id hH;simp only[aaz,aaA]at ba |-;refine dP ?_;rw[tX]at hm |-;have hN:∀x∈heads ts f,kS ts x:=fun x hx=>b9 h.ok fn hx;have b5:=fM h.ok fn;have b2:=hH;generalize heads ts f=ac at *;refine aR ba fun bF=>?_;refine bf bF [1,2,0] fun bC=>?_;refine aA (fun x=>ac.length-x.1) (Vi pb s (.slice ha ac.length hc) ac.length) (YW pb lv fv ov o ac s e I2) (0,.slice none 0 0,dv) gP (by simp only[go_sem,aa6,Vi]) ?_ ?_
 ·exact⟨I2,D,PH.no,rfl,bC,abW _,aaL _,by simpa using eF.le he am,Ow.nil _ _ _ _⟩
 rintro⟨i,vat,dv⟩ H ⟨I3,D3,A3,rfl,a3,ak,hi,hE,hA⟩ al;simp only at hi hE hA;simp only[Vi];have b1:qO I3 (.slice ha ac.length hc) ac:=b2.le ak;have a5:FN ts.length ((ac.take i).foldl (gH s) ([],[])).1:=DI hs fun x hx=>hN x (abf hx);have b7:=a5.len;rcases aaf i ac.length with a4|b6
 ·have a7:decide ((i:Int)<(ac.length:Int))=true:=by simp;omega
  have e1:=wrap64 (n:=i+1) ab;have bb:IntKind.i64.wrap ((i:Int)+1)=((i+1:Nat):Int):=by rw[<-e1];congr 1
  obtain⟨x,hx⟩:∃x,ac[i]?=some x:=⟨_,aak a4⟩;have bc:=aaV hx;have a9:=hN x bc;obtain⟨b,off,cs,rfl,b0,a1⟩:=b1.load l7.len hx;obtain⟨xa,xk,rfl,aq⟩:=b0;have ag:=dm (g:=gH s) (z:=([],[])) hx;have an:=oE (g:=gH s) (fun r=>r.2.length) (fun z y=>by unfold gH;split<;>simp) ac (i+1) ([],[]);rw[ag]at an;apply RG;simp only[go_sem,a7,iv,pt];refine⟨ab,?_⟩;refine XN (l:=[iv x.at',sD xa xk x.cond,rD x.cond,.int .u8 x.kind,.string ⟨⟨x.text⟩⟩]) (v:=.agg #[iv x.at',sD xa xk x.cond,rD x.cond,.int .u8 x.kind,.string ⟨⟨x.text⟩⟩]) rfl (cellsU a3 (.head _) a1) (.inl ⟨gI,rfl⟩) ?_;by_cases ao:x.text=s
  ·have a2:(x.text == s)=true:=by simpa using ao
   have aa:(ac.take (i+1)).foldl (gH s) ([],[])=(Syn.join ((ac.take i).foldl (gH s) ([],[])).1 (x.at'+1) x.cond,((ac.take i).foldl (gH s) ([],[])).2):=by rw[ag];simp[gH,ao]
   have bd:=a9.lt (.inl (by rw[ao];exact hs));have e2:=wrap64 (n:=x.at'+1) ab;have b4:IntKind.i64.wrap ((x.at':Int)+1)=((x.at'+1:Nat):Int):=by rw[<-e2];congr 1
   obtain⟨ta,tc,rfl⟩:=hA.shape;apply RG;simp only[go_sem,a2,iv,pt,sD,rD,abQ,b4];refine ad a3 [2,0,1] [A3] [sg pb _,D3] rfl ej rfl (bK (a:=x.at'+1) hA aq a5.ok.2 (fun t ht=>by have:=a5.le t ht;omega) ab ab) fun v I4 qs aS aj hq=>?_;obtain⟨A4,rfl,a6⟩:=hq;obtain⟨ta2,tc2,rfl⟩:=a6.shape;simp only[aaz,aaA]at aS |-;apply RG;simp only[go_sem,a2,iv,pt,sD,rD,bb];refine bf aS [1,2,0] fun bx=>?_;rw[show Syn.join ((ac.take i).foldl (gH s) ([],[])).1 (x.at'+1) x.cond=((ac.take (i+1)).foldl (gH s) ([],[])).1 from by rw[aa]]at a6 |-;exact al (i+1,.slice ta2 _ tc2,dv) _ _ dt gP (by simp only[go_sem,aa6,Vi]) ⟨I4,D3,A4,rfl,bx,abV ak aj,a4,by simp only;rw[aa];exact hE.le aj,a6⟩
  ·have a2:(x.text == s)=false:=by simpa using ao
   have aa:(ac.take (i+1)).foldl (gH s) ([],[])=(((ac.take i).foldl (gH s) ([],[])).1,((ac.take i).foldl (gH s) ([],[])).2++cJ x 10):=by rw[ag];simp[gH,ao]
   apply RG;simp only[go_sem,a2,iv,pt,sD,rD,abK];refine ad a3 [0,1,2] [sg pb _,D3] [A3] rfl kX rfl (ow (h.le (abV am ak)) a9.le aq hE (by rw[<-ag,aa]at an;simp[cJ]at an |-;omega)) fun v I4 qs aS aj hq=>?_;obtain⟨dv2,D4,rs,rfl,b3,rfl⟩:=hq;simp only[aaz,aaA]at aS |-;apply RG;simp only[go_sem,a2,iv,pt,sD,rD,bb];exact al (i+1,vat,dv2) _ _ dt gP (by simp only[go_sem,aa6,Vi]) ⟨I4,D4,A3,rfl,aS,abV ak aj,a4,by simp only;rw[aa,<-aaT];exact b3,by simp only;rw[aa];exact Ow.le (R:=iD) (fun{I J c a} h k=>iD.le h k) hA aj⟩
 ·have bs:i=ac.length:=by omega
  subst bs;have a7:=Z6 ac.length;rw[aaS]at hE hA;apply RG;simp only[go_sem,a7,iv,pt];refine af rfl a3 (r:=[_]) rfl (abV am ak) ⟨_,D3,[A3],rfl,hE,A3,rfl,hA⟩
end Go.Proofs.YtfaclfkpnmcmlaaGreatDoor
