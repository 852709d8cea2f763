import Derived.Test.YtfaclfkpnmcmlaaGreatDoorS02
import Derived.Test.YtfaclfkpnmcmlaaGreatDoorS04
import Derived.Deep.Upon
set_option maxHeartbeats 8000000
set_option linter.all false
namespace Go.Proofs.YtfaclfkpnmcmlaaGreatDoor
open Go Go.Sx Dg Syn
theorem dp:aP Tryz.prog 200:=⟨_,Tryz.func200,rfl,rfl⟩
theorem CF:aP Tryz.prog 209:=⟨_,Tryz.func209,rfl,rfl⟩
theorem Lz:aP Tryz.prog 78:=⟨_,Tryz.func78,rfl,rfl⟩
theorem Sl.load{α:Type}{R:PH->List Value->α->Prop}{n:Nat}(hR:∀{I} c a,R I c a->c.length=n){I:PH}{a:Option Addr}{m c:Nat}{l:List α}(h:Sl R I (.slice a m c) l){i:Nat}{x:α}(hi:l[i]?=some x):
  ∃b off cs,a=some ⟨b,off,none⟩/\R I cs x/\aQ I b (off+i*n) cs:=by
 obtain⟨a',c',e,h⟩:=h;cases e
 have aa:i<l.length:=by
  rcases Sw i l.length with h|h
  ·exact h
  ·rw[SF h]at hi;cases hi
 rcases h with h0|⟨b,off,xs,rfl,hc,hr⟩
 ·rw[h0]at aa;simp at aa
 ·have ac:=hr.len (n:=n) (fun c a h=>hR c a h);have h1:(i+1)*n<=l.length*n:=Tb _ aa;rw[Ta]at h1;exact⟨b,off,_,rfl,hr.get (fun c a h=>hR c a h) hi,hc.sub (i*n) n Vi⟩
theorem fP.shape{I:PH}{c:List Value}{s:Nat×T}(h:fP I c s):∃a k,c=[iv s.1,.slice a (T.subs s.2).length k,iv (T.plc (T.subs s.2) s.2)]/\cu I (.agg #[.slice a (T.subs s.2).length k,iv (T.plc (T.subs s.2) s.2)]) s.2:=by
 obtain⟨sl,rt,e,hr⟩:=h;obtain⟨x,y,e2⟩:=hr.shape;have e3:=e2;simp only[Value.agg.injEq,Array.mk.injEq,TX,TY]at e3;refine⟨x,y,by rw[e,e3.1,e3.2],by rw[<-e2];exact hr⟩
theorem wu{f g:ah}{i:Nat}{s:Nat×T}(hs:g[i]?=some s):Syn.joinAll f (g.take (i+1))=Syn.join (Syn.joinAll f (g.take i)) s.1 s.2:=by
 have aa:i<g.length:=by
  rcases Sw i g.length with h|h
  ·exact h
  ·rw[SF h]at hs;cases hs
 rw[S7 aa];rw[SC aa]at hs;rw[Tk hs];unfold Syn.joinAll;rw[T9];rfl
def M7(vg:Value)(n:Nat)(x:Nat×Value):St:=⟨sp 0 21 [(0,.v x.2),(7,.v vg),(8,.v (iv n)),(9,.v (iv x.1))],[]⟩
def R4(f g:ah)(I0:PH)(x:Nat×Value)(H:PH):Prop:=∃I A,H=U [I,A]/\Dj [I,A]/\I0.le I/\x.1<=g.length/\gP I A x.2 (Syn.joinAll f (g.take x.1))
theorem b7{I A:PH}{vf vg:Value}{f g:ah}{N:Nat}(hN:N<=2^20)(hf:gP I A vf f)(fn:FN N f)(hg:du I vg g)(gn:FN N g):
  aO Tryz.prog 200 #[vf,vg] I [A] fun v I2 qs=>∃A2,qs=[A2]/\gP I2 A2 v (Syn.joinAll f g):=by
 intro hd;obtain⟨za,zc,rfl⟩:=hf.shape;obtain⟨ga,gc,rfl,_⟩:=id hg;have gl:=gn.len;refine bK Tryz.func200 rfl (by simp[Tryz.ntmps200]) fun w0=>?_;simp only[Tryz.ntmps200,iv];refine Un ?_;refine aB (fun x=>g.length-x.1) (M7 (.slice ga g.length gc) g.length) (R4 f g I) (0,.slice za f.length zc) (by simp only[go_sem,Tq,M7,iv]) (by simp only[go_sem,Tq,M7]) ?_ ?_
 ·exact⟨I,A,rfl,hd,Uj _,S6 _,hf⟩
 rintro⟨i,v⟩ H ⟨I1,A1,rfl,ao,aa,hi,ak⟩ ac;simp only at hi ak;simp only[M7];have a4:du I1 (.slice ga g.length gc) g:=Sl.le (R:=fP) (fun{I J c a} h k=>fP.le h k) hg aa;rcases Sw i g.length with a0|a7
 ·have aS:decide ((i:Int)<(g.length:Int))=true:=by simp;omega
  have e1:=wrap64 (n:=i+1) Vi;have a6:IntKind.i64.wrap ((i:Int)+1)=((i+1:Nat):Int):=by rw[<-e1];congr 1
  obtain⟨s,hs⟩:∃s,g[i]?=some s:=⟨_,SC a0⟩;have a3:=Tg hs;obtain⟨b,off,cs,rfl,a5,aj⟩:=a4.load fP.len hs;obtain⟨sa,sk,rfl,am⟩:=a5.shape;have fa:FN N (Syn.joinAll f (g.take i)):=fn.joinAll ⟨⟨fun t ht=>gn.ok.1 t (TA ht),gn.ok.2.sublist (List.take_sublist i g)⟩,fun t ht=>gn.le t (TA ht)⟩;have fal:=fa.len;have sle:=gn.le s a3;apply RG;simp only[go_sem,aS,iv];refine⟨Vi,?_⟩;refine Qz (l:=[iv s.1,.slice sa (T.subs s.2).length sk,iv (T.plc (T.subs s.2) s.2)]) (v:=.agg #[iv s.1,.slice sa (T.subs s.2).length sk,iv (T.plc (T.subs s.2) s.2)]) rfl (cellsU ao (.head _) aj) (.inl ⟨oN,rfl⟩) ?_;apply RG;simp only[go_sem,iv];refine NB ao [0] rfl df rfl (F:=[]) rfl (bo ak am fa.ok.2 (fun t ht=>by have:=fa.le t ht;omega) Vi Vi) fun v I2 qs a1 an hq=>?_;obtain⟨A2,rfl,ap⟩:=hq;obtain⟨a2,c2,rfl⟩:=ap.shape;simp only[Tq]at a1 |-;apply RG;simp only[go_sem,iv,a6];rw[<-wu hs]at ap |-;exact ac (i+1,.slice a2 (Syn.joinAll f (g.take (i+1))).length c2) _ _ V9 (by simp only[go_sem,Tq,M7,iv]) (by simp only[go_sem,Tq,M7]) ⟨I2,A2,rfl,a1,Ui aa an,a0,ap⟩
 ·have aS:decide ((i:Int)<(g.length:Int))=false:=by simp;omega
  have:i=g.length:=by omega
  subst this;rw[Td]at ak;apply RG;simp only[go_sem,aS,iv];exact ai rfl ao (r:=[_]) rfl aa ⟨A1,rfl,ak⟩
def sD(a:Option Addr)(c:Nat)(t:T):Value:=.slice a (T.subs t).length c
def rD(t:T):Value:=iv (T.plc (T.subs t) t)
theorem cu.shape2{I:PH}{v:Value}{t:T}(h:cu I v t):∃a c,v=.agg #[sD a c t,rD t]:=h.shape
def MJ(vg:Value)(n:Nat)(x:Nat×Option Addr×Nat×T):St:=⟨sp 0 19 [(2,.p 2 0),(3,.p 3 0),(7,.v vg),(8,.v (iv n)),(9,.v (iv x.1))],[⟨2,50,[.slice none 0 0,.int .i64 0]⟩,⟨3,50,[.slice x.2.1 (T.subs x.2.2.2).length x.2.2.1,.int .i64 (T.plc (T.subs x.2.2.2) x.2.2.2)]⟩]⟩
def Rt(g:ah)(I0:PH)(x:Nat×Option Addr×Nat×T)(H:PH):Prop:=∃I,H=U [I]/\Dj [I]/\I0.le I/\x.1<=g.length/\x.2.2.2=fE (g.take x.1)/\cu I (.agg #[sD x.2.1 x.2.2.1 x.2.2.2,rD x.2.2.2]) x.2.2.2
theorem Bq{g:ah}{i:Nat}{s:Nat×T}(hs:g[i]?=some s):fE (g.take (i+1))=(fE (g.take i)).or s.2:=by
 have aa:i<g.length:=by
  rcases Sw i g.length with h|h
  ·exact h
  ·rw[SF h]at hs;cases hs
 rw[S7 aa];rw[SC aa]at hs;rw[Tk hs];unfold fE;rw[T9];rfl
theorem Nk{I:PH}{vg:Value}{g:ah}(hg:du I vg g)(hl:g.length<2^40):aO Tryz.prog 78 #[vg] I [] fun v I2 qs=>qs=[]/\cu I2 v (fE g):=by
 intro hd;obtain⟨ga,gc,rfl,_⟩:=id hg;refine bK Tryz.func78 rfl (by simp[Tryz.ntmps78]) fun w0=>?_;simp only[Tryz.ntmps78,iv];refine Un ?_;refine Pf rfl sV (oH _) fun v H2 hv=>?_;obtain⟨rfl,rfl⟩:=hv;apply RG;simp only[go_sem,iv];refine aB (fun x=>g.length-x.1) (MJ (.slice ga g.length gc) g.length) (Rt g I) (0,none,0,.lf false) (by simp only[go_sem,Tq,MJ,iv]) (by simp only[go_sem,Tq,MJ,T.subs,T.vis,T.plc,S9,Tp,Si]) ?_ ?_
 ·exact⟨I,rfl,hd,Uj _,S6 _,rfl,jP I false⟩
 rintro⟨i,a,k,t⟩ H ⟨I1,rfl,an,aa,hi,ht,hr⟩ ac;simp only at hi ht hr;simp only[MJ];have a1:du I1 (.slice ga g.length gc) g:=Sl.le (R:=fP) (fun{I J c a} h k=>fP.le h k) hg aa;rcases Sw i g.length with aS|a5
 ·have ao:decide ((i:Int)<(g.length:Int))=true:=by simp;omega
  have e1:=wrap64 (n:=i+1) Vi;have a4:IntKind.i64.wrap ((i:Int)+1)=((i+1:Nat):Int):=by rw[<-e1];congr 1
  obtain⟨s,hs⟩:∃s,g[i]?=some s:=⟨_,SC aS⟩;obtain⟨b,off,cs,rfl,a3,aj⟩:=a1.load fP.len hs;obtain⟨sa,sk,rfl,ak⟩:=a3.shape;apply RG;simp only[go_sem,ao,iv];refine⟨Vi,?_⟩;refine Qz (l:=[iv s.1,.slice sa (T.subs s.2).length sk,iv (T.plc (T.subs s.2) s.2)]) (v:=.agg #[iv s.1,.slice sa (T.subs s.2).length sk,iv (T.plc (T.subs s.2) s.2)]) rfl (cellsU an (.head _) aj) (.inl ⟨oN,rfl⟩) ?_;apply RG;simp only[go_sem,iv];refine NB an [] rfl sQ rfl (F:=[]) rfl (G1 hr ak) fun v I2 qs a0 am hq=>?_;obtain⟨rfl,ap⟩:=hq;obtain⟨a2,k2,rfl⟩:=ap.shape;simp only[Tq]at a0 |-;apply RG;simp only[go_sem,iv,a4];exact ac (i+1,a2,k2,t.or s.2) _ _ V9 (by simp only[go_sem,Tq,MJ,iv]) (by simp only[go_sem,Tq,MJ]) ⟨I2,rfl,a0,Ui aa am,aS,by simp only;rw[Bq hs,ht],ap⟩
 ·have ao:decide ((i:Int)<(g.length:Int))=false:=by simp;omega
  have:i=g.length:=by omega
  subst this;rw[Td]at ht;subst ht;apply RG;simp only[go_sem,ao,iv];exact ai rfl an (r:=[.agg #[sD a k (fE g),rD (fE g)]]) (by simp only[Tryz.results78,go_sem,iv,sD,rD]) aa ⟨rfl,hr⟩
def cJ(I:PH)(c:List Value)(t:Tok):Prop:=∃path file line a k,c=[.int .u8 t.kind,.string ⟨⟨t.text⟩⟩,path,.int .i64 file,.int .i64 line,sD a k t.cond,rD t.cond]/\one path=true/\cu I (.agg #[sD a k t.cond,rD t.cond]) t.cond
theorem cJ.le{I J:PH}{c:List Value}{t:Tok}(h:cJ I c t)(aa:I.le J):cJ J c t:=by
 obtain⟨p,f,l,a,k,e,h1,h2⟩:=h;exact⟨p,f,l,a,k,e,h1,cu.le h2 aa⟩
theorem cJ.len{I:PH}(c:List Value)(t:Tok)(h:cJ I c t):c.length=7:=by obtain⟨p,f,l,a,k,e,_⟩:=h;rw[e];rfl
def qi(_:PH)(c:List Value)(t:Tok):Prop:=c=[.bool t.fits]
theorem qi.len{I:PH}(c:List Value)(t:Tok)(h:qi I c t):c.length=1:=by rw[show c=_ from h];rfl
structure vF(I:PH)(ts:List Tok)(lv fv:Value):Prop where
 tok:Sl cJ I lv ts
 fit:Sl qi I fv ts
 len:ts.length<=16384
 ok:bu ts
theorem vF.le{I J:PH}{ts:List Tok}{lv fv:Value}(h:vF I ts lv fv)(aa:I.le J):vF J ts lv fv:=
 ⟨Sl.le (R:=cJ) (fun{I J c a} h k=>cJ.le h k) h.tok aa,Sl.le (R:=qi) (fun{I J c a} h k=>h) h.fit aa,h.len,h.ok⟩
def bD(lv fv ov dv:Value)(o:Nat):Obj:=.cells #[lv,fv,ov,iv o,dv] 161 (0,0)
theorem Ns{a n:Nat}(h:decide ((a:Int)<16384)=false)(hl:n<=16384)(ha:a<=n):a=n:=by
 have:=Ua h;omega
theorem vS{I:PH}{pb:Nat}{ts:List Tok}{lv fv ov dv:Value}{o a:Nat}(h:vF I ts lv fv)(ha:a<=ts.length):
  aO Tryz.prog 209 #[pt pb,iv a] I [sg pb (bD lv fv ov dv o)] fun v I2 qs=>qs=[sg pb (bD lv fv ov dv o)]/\I2=I/\v=.agg #[.slice none 0 0,iv 0]:=by
 intro hd;have hl:=h.len;obtain⟨la,lc,rfl,_⟩:=h.tok;refine bK Tryz.func209 rfl (by simp[Tryz.ntmps209]) fun w0=>?_;simp only[Tryz.ntmps209,iv,pt];cases h6:decide ((a:Int)<16384)
 ·apply bq 10;simp only[go_sem,h6];have aa:a=ts.length:=Ns h6 hl ha;have ac:decide ((a:Int)>=(ts.length:Int))=true:=by simp;omega
  refine Un ?_;refine Qz (l:=[_]) rfl (cellsU hd (.tail _ (.head _)) (aU (by simp[bD]) rfl)) (.inr ⟨pH,rfl⟩) ?_;apply RG;simp only[go_sem,ac];refine Pf rfl sV (oH _) fun v H2 hv=>?_;obtain⟨rfl,rfl⟩:=hv;apply RG;simp only[go_sem,iv];exact ai rfl hd (r:=[.agg #[.slice none 0 0,iv 0]]) (by simp only[Tryz.results209,go_sem,iv]) (Uj _) ⟨rfl,rfl,rfl⟩
 ·apply bq 10;simp only[go_sem,h6];refine Un ?_;refine Pf rfl sV (oH _) fun v H2 hv=>?_;obtain⟨rfl,rfl⟩:=hv;apply RG;simp only[go_sem,iv];exact ai rfl hd (r:=[.agg #[.slice none 0 0,iv 0]]) (by simp only[Tryz.results209,go_sem,iv]) (Uj _) ⟨rfl,rfl,rfl⟩
end Go.Proofs.YtfaclfkpnmcmlaaGreatDoor
namespace Go.Sx
open Go
def nE:List (Nat×SV)->Nat->SV
 | [],_=>.u
 |(k,v)::l,t=>if k=t then v else nE l t
def dn(n:Nat)(L:List (Nat×SV)):List SV:=(List.range n).map (nE L)
theorem JB{n:Nat}{L:List (Nat×SV)}{t:Nat}(h:t<n):lV (dn n L) t=nE L t:=by
 rw[dF];unfold dn;simp[h]
theorem II(n:Nat)(L:List (Nat×SV))(d:Nat)(y:SV):jm (dn n L) d y=dn n ((d,y)::L):=by
 apply List.ext_getElem?;intro i;rw[eI];unfold dn;simp only[Sz,Ub,SA];by_cases e:d=i
 ·subst e;by_cases h:d<n
  ·simp[h,nE]
  ·simp[h]
 ·simp only[Sb e];by_cases h:i<n
  ·simp[h,nE,e]
  ·simp[h]
theorem ET (f : SV → SV) (hf : f .u = .u) (n : Nat) (L : List (Nat × SV)) : (dn n L).map f = dn n (L.map fun p => (p.1, f p.2)) := by
  unfold dn
  rw [SK]
  apply SL
  intro t _
  simp only [Function.comp]
  induction L with
  | nil => exact hf
  | cons p l ih => obtain ⟨k, v⟩ := p; simp only [nE, Tf]; split
                   · rfl
                   · exact ih
theorem Mc(d n:Nat)(L:List (Nat×SV)):(dn n L).map (iG d)=dn n (L.map fun p=>(p.1,iG d p.2)):=ET _ rfl _ _
theorem Ms(k b n:Nat)(L:List (Nat×SV)):(dn n L).map (kE k b)=dn n (L.map fun p=>(p.1,kE k b p.2)):=ET _ rfl _ _
def FD:List (Nat×SV)->List (Nat×SV)->Prop
 | [],_=>True
 |(k,v)::r,L=>nE L k=v/\FD r L
theorem BZ {l m : List SV} (hl : l.length = m.length) (h : ∀ (i : Nat) (x : SV), l[i]? = some x → x = .u ∨ m[i]? = some x) : nh l m := by
  induction l generalizing m with
  | nil => cases m with
    | nil => trivial
    | cons y m => simp at hl
  | cons x l ih => cases m with
    | nil => simp at hl
    | cons y m =>
      have ht := ih (m := m) (by simpa using hl) fun i z hz => by simpa using h (i + 1) z (by simpa using hz)
      have h0 := h 0 x rfl
      cases x with
      | u => exact ht
      | v z => exact ⟨by rcases h0 with h0 | h0
                         · cases h0
                         · simpa using h0.symm, ht⟩
      | p a b => exact ⟨by rcases h0 with h0 | h0
                           · cases h0
                           · simpa using h0.symm, ht⟩
theorem FD.get{L' L:List (Nat×SV)}(h:FD L' L)(t:Nat):nE L' t=.u\/nE L' t=nE L t:=by
 induction L' with
 |nil=>exact .inl rfl
 |cons p r ih=>
  obtain⟨k,v⟩:=p;simp only[nE];split
  ·rename_i e;subst e;exact .inr h.1.symm
  ·exact ih h.2
theorem ae{n:Nat}{L' L:List (Nat×SV)}(h:FD L' L):nh (dn n L') (dn n L):=by
 refine BZ (by simp[dn]) fun i x hx=>?_;unfold dn at hx |-;simp only[SA]at hx |-;cases hr:(List.range n)[i]? with
 |none=>rw[hr]at hx;cases hx
 |some j=>
  rw[hr]at hx;simp only[So,Sc]at hx |-;rcases h.get j with e|e
  ·exact .inl (by rw[<-hx];exact e)
  ·exact .inr (by rw[<-e];exact hx)
def zj:Nat->List Value->List (Nat×SV)
 |_,[]=>[]
 |i,v::l=>(i,.v v)::zj (i+1) l
theorem yX:∀(vs:List Value) (i t:Nat),nE (zj i vs) t=if i<=t then (match vs[t-i]? with|some v=>.v v|none=>.u)else .u
 | [],i,t=>by simp[zj,nE]
 |v::l,i,t=>by
  simp only[zj,nE,yX l (i+1) t];by_cases e:i=t
  ·subst e;simp
  ·rw[Sb e];by_cases h:i<=t
   ·rw[SI h,SI Vi];have:t-i=(t-(i+1))+1:=by omega
    rw[this,TD]
   ·rw[Sb h,Sb Vi]
theorem E3(args:List Value)(n:Nat)(h:args.length<=n):nh (dn n (zj 0 args)) (qB args n):=by
 refine BZ (by simp[dn,qB];omega) fun i x hx=>?_;unfold dn at hx;simp only[SA]at hx;by_cases hi:i<n
 ·rw[List.getElem?_range hi]at hx;simp only[So,Sc,yX,S6,R9,Nat.sub_zero]at hx;cases hv:args[i]? with
  |none=>rw[hv]at hx;exact .inl hx.symm
  |some v=>
   rw[hv]at hx
   right
   unfold qB;have hl:i<args.length:=by
    rcases Sw i args.length with h|h
    ·exact h
    ·rw[SF h]at hv;cases hv
   rw[S1 (by simpa using hl),SA,hv];simpa using hx
 ·rw[SF (by simpa using hi)]at hx;cases hx
theorem al{P:Program}{f:FuncId}{fn:Func}{c:Code}{args:Array Value}{H:PH}{Φ:Value->PH->Prop}(hf:P.funcs[f]?=some fn)(hb:fn.body=some c)(aa:args.toList.length<=fn.ntmps)
  (h:∀w0,RC ⟨P,f,fn,hf,H,w0,Φ⟩ (.st [.code c]) ⟨dn fn.ntmps (zj 0 args.toList),[]⟩ H):bv P f args H Φ:=
 bK hf hb aa fun w0=>BS (E3 _ _ aa) (by simp[od]) (h w0)
theorem Ot{P:Program}{f:FuncId}{fn:Func}{c:Code}{args:Array Value}{H:PH}{Φ:Value->PH->Prop}(hf:P.funcs[f]?=some fn)(hq:(fn.body,decide (args.toList.length<=fn.ntmps))=(some c,true))
  (h:∀w0,RC ⟨P,f,fn,hf,H,w0,Φ⟩ (.st [.code c]) ⟨dn fn.ntmps (zj 0 args.toList),[]⟩ H):bv P f args H Φ:=by
 simp only[S3,SX]at hq;exact al hf hq.1 hq.2 h
attribute [go_sem] nE FD JB II Mc Ms zj
end Go.Sx
namespace Go.Proofs.YtfaclfkpnmcmlaaGreatDoor
open Go Go.Sx Dg Syn
theorem Uq{C:Cx}{σ:St}{H:PH}{c:Cf}{Q:Prop}(h:Q)(e:bE C H (un C.P 500 c σ [])=Q:=by simp only[go_sem,iv];rfl):RC C c σ H:=EA 500 (e.mpr h)
theorem Ur{C:Cx}{k:List Item}{σ:St}{H:PH}{ol:List Oper}{fr:gW}{str:gR}{l:List (Nat×Oper)}{Q:Prop}(h:Q)(e:O3 C ol fr str k H (oh C.P ol fr.k str.k fr.kp l σ [])=Q:=by simp only[go_sem,iv];rfl):RD C ol fr str l k σ H:=af (e.mpr h)
theorem Uz{C:Cx}{σ:St}{H:PH}{c:Cf}{Q:Prop}(h:Q)(e:bE C H (un C.P 500 c σ [])=Q:=by simp only[go_sem,iv,pt];rfl):RC C c σ H:=EA 500 (e.mpr h)
theorem Vk{C:Cx}{k:List Item}{σ:St}{H:PH}{ol:List Oper}{fr:gW}{str:gR}{l:List (Nat×Oper)}{Q:Prop}(h:Q)(e:O3 C ol fr str k H (oh C.P ol fr.k str.k fr.kp l σ [])=Q:=by simp only[go_sem,iv,pt];rfl):RD C ol fr str l k σ H:=af (e.mpr h)
theorem Up{C:Cx}{σ:St}{H:PH}{c:Cf}{Q:Prop}(h:Q)(e:bE C H (un C.P 500 c σ [])=Q:=by simp only[go_sem,iv,pt,sD,rD];rfl):RC C c σ H:=EA 500 (e.mpr h)
theorem UD{C:Cx}{k:List Item}{σ:St}{H:PH}{ol:List Oper}{fr:gW}{str:gR}{l:List (Nat×Oper)}{Q:Prop}(h:Q)(e:O3 C ol fr str k H (oh C.P ol fr.k str.k fr.kp l σ [])=Q:=by simp only[go_sem,iv,pt,sD,rD];rfl):RD C ol fr str l k σ H:=af (e.mpr h)
theorem Uv{C:Cx}{σ:St}{H:PH}{c:Cf}{Q:Prop}(h:Q)(e:bE C H (un C.P 500 c σ [])=Q:=by simp only[go_sem,iv,sD,rD];rfl):RC C c σ H:=EA 500 (e.mpr h)
theorem Ut{C:Cx}{k:List Item}{σ:St}{H:PH}{ol:List Oper}{fr:gW}{str:gR}{l:List (Nat×Oper)}{Q:Prop}(h:Q)(e:O3 C ol fr str k H (oh C.P ol fr.k str.k fr.kp l σ [])=Q:=by simp only[go_sem,iv,sD,rD];rfl):RD C ol fr str l k σ H:=af (e.mpr h)
theorem VI{C:Cx}{σ:St}{H:PH}{c:Cf}{Q:Prop}(h:Q)(e:bE C H (un C.P 500 c σ [])=Q:=by simp only[go_sem,pt];rfl):RC C c σ H:=EA 500 (e.mpr h)
theorem Vx{C:Cx}{k:List Item}{σ:St}{H:PH}{ol:List Oper}{fr:gW}{str:gR}{l:List (Nat×Oper)}{Q:Prop}(h:Q)(e:O3 C ol fr str k H (oh C.P ol fr.k str.k fr.kp l σ [])=Q:=by simp only[go_sem,pt];rfl):RD C ol fr str l k σ H:=af (e.mpr h)
theorem Uo{n:Nat}{K L:List (Nat×SV)}(h:FD K L:=by simp only[go_sem,Tq,iv]):nh (dn n K) (dn n L):=ae h
theorem Us{n:Nat}{K L:List (Nat×SV)}(h:FD K L:=by simp only[go_sem,Tq,iv,pt]):nh (dn n K) (dn n L):=ae h
theorem VP{n:Nat}{K L:List (Nat×SV)}(h:FD K L:=by simp only[go_sem,Tq,iv,pt,sD,rD]):nh (dn n K) (dn n L):=ae h
theorem VM{n:Nat}{K L:List (Nat×SV)}(h:FD K L:=by simp only[go_sem,Tq,iv,sD,rD]):nh (dn n K) (dn n L):=ae h
theorem ir(n:Nat){P:Program}{f:FuncId}{fn:Func}{c:Code}{args:Array Value}{H:PH}{Φ:Value->PH->Prop}(hf:P.funcs[f]?=some fn)
  (h:∀w0,RC ⟨P,f,fn,hf,H,w0,Φ⟩ (.st [.code c]) ⟨dn n (zj 0 args.toList),[]⟩ H) (hq:(fn.body,fn.ntmps,decide (args.toList.length<=n))=(some c,n,true):=by exact rfl):bv P f args H Φ:=by
 simp only[S3,SX]at hq;obtain⟨h1,rfl,h3⟩:=hq;exact al hf h1 h3 h
theorem V8{C:Cx}{k:List Item}{σ:St}{H:PH}{id:Nat}{ops:Array Oper}(κ fr str:List Nat)
  (h:RD C ops.toList ⟨fr,[],PH.emp,[],[]⟩ ⟨str,[],[]⟩ (pick ops.toList κ) k σ H) (hm:C.P.follows .mixedOrders=true:=by exact mixed) (aa:KA ops.toList κ ⟨fr,[],PH.emp,[],[]⟩ ⟨str,[],[]⟩=true:=by exact rfl) (hs:wR σ.bx=true:=by exact rfl):RC C (.st (.code (.region id ops true)::k)) σ H:=ax hm κ fr str aa hs h
theorem iS:aP Tryz.prog 198:=⟨_,Tryz.func198,rfl,rfl⟩
def jA(I:PH)(c:List Value)(h:ay):Prop:=∃a k,c=[iv h.at',sD a k h.cond,rD h.cond,.int .u8 h.kind,.string ⟨⟨h.text⟩⟩]/\cu I (.agg #[sD a k h.cond,rD h.cond]) h.cond
theorem jA.le{I J:PH}{c:List Value}{h:ay}(k:jA I c h)(aa:I.le J):jA J c h:=by
 obtain⟨a,b,e,r⟩:=k;exact⟨a,b,e,cu.le r aa⟩
theorem jA.len{I:PH}(c:List Value)(h:ay)(k:jA I c h):c.length=5:=by obtain⟨a,b,e,_⟩:=k;rw[e];rfl
abbrev m9(I:PH)(v:Value)(l:List ay):Prop:=Sl jA I v l
theorem Ey{d:T}(h:d.ok 0):d.and ff=ff:=T.ext (T.and_ok h (show ff.ok 0 from trivial)) (show ff.ok 0 from trivial) fun c=>by rw[T.and_at h (show ff.ok 0 from trivial)];simp[T.at']
theorem Gp{d:T}(h:d.ok 0):d.and tt=d:=T.ext (T.and_ok h (show tt.ok 0 from trivial)) h fun c=>by rw[T.and_at h (show tt.ok 0 from trivial)];simp[T.at']
def NX(pb:Nat)(vf:Value)(n:Nat)(x:Nat×Value):St:=⟨dn 153 [(0,.v (pt pb)),(5,.v x.2),(16,.v vf),(17,.v (iv n)),(18,.v (iv x.1))],[]⟩
def RX(pb:Nat)(rc:Obj)(ts:List Tok)(f:ah)(I0:PH)(x:Nat×Value)(H:PH):Prop:=
 ∃I A,H=U [I,sg pb rc,A]/\Dj [I,sg pb rc,A]/\I0.le I/\x.1<=f.length/\gP I A x.2 (Ch ts f x.1)
def Pr(pb:Nat)(vf:Value)(n i:Nat)(x:Nat×Option Addr×Nat×T×Value):St:=⟨dn 153 [(0,.v (pt pb)),(5,.v x.2.2.2.2),(8,.p 8 0),(9,.v (iv x.1)),(16,.v vf),(17,.v (iv n)),(18,.v (iv i))],[⟨8,50,[.slice x.2.1 (T.subs x.2.2.2.1).length x.2.2.1,.int .i64 (T.plc (T.subs x.2.2.2.1) x.2.2.2.1)]⟩]⟩
def Ro(pb:Nat)(rc:Obj)(ts:List Tok)(tgt:ah)(I0:PH)(x:Nat×Option Addr×Nat×T×Value)(H:PH):Prop:=
 ∃I A cur,H=U [I,sg pb rc,A]/\Dj [I,sg pb rc,A]/\I0.le I/\x.1<=ts.length/\gP I A x.2.2.2.2 cur/\FN ts.length cur/\cu I (.agg #[sD x.2.1 x.2.2.1 x.2.2.2.1,rD x.2.2.2.1]) x.2.2.2.1/\dE cur (ts.drop x.1) x.1 x.2.2.2.1=tgt
def MK(pb:Nat)(va:Value)(n:Nat)(x:Nat×Value):St:=⟨dn 153 [(0,.v (pt pb)),(10,.v x.2),(73,.v va),(74,.v (iv n)),(75,.v (iv x.1))],[]⟩
def Rj(pb:Nat)(rc:Obj)(ts:List Tok)(a:ah)(I0:PH)(x:Nat×Value)(H:PH):Prop:=
 ∃I B,H=U [I,sg pb rc,B]/\Dj [I,sg pb rc,B]/\I0.le I/\x.1<=a.length/\Ow jA 227 5 I B x.2 ((a.take x.1).map (cL ts))
theorem iN{I:PH}{pb:Nat}{ts:List Tok}{lv fv ov dv vf:Value}{o:Nat}{f:ah}(h:vF I ts lv fv)(hf:du I vf f)(fn:FN ts.length f):
  aO Tryz.prog 198 #[pt pb,vf] I [sg pb (bD lv fv ov dv o)] fun v I2 qs=>qs=[sg pb (bD lv fv ov dv o)]/\m9 I2 v (bk ts f):=by
 intro hd;have hl:=h.len;have fl:=fn.len;obtain⟨la,lc,rfl,_⟩:=id h.tok;obtain⟨fa,fc,rfl,_⟩:=id h.fit;obtain⟨ga,gc,rfl,_⟩:=id hf;refine Ot Tryz.func198 rfl fun w0=>?_;simp only[Tryz.ntmps198,iv,pt];refine Un ?_;refine aT hd fun eq=>?_;refine ab (c:=.st _) eq [1,0] rfl fun eh=>?_;simp only[uv,Ts,Tt]at eh |-;refine aB (fun x=>f.length-x.1) (NX pb (.slice ga f.length gc) f.length) (RX pb (bD (.slice la ts.length lc) (.slice fa ts.length fc) ov dv o) ts f I) (0,.slice none 0 0) (ae (by simp only[go_sem,Tq,iv,pt])) (by simp only[go_sem,Tq,NX]) ?_ ?_
 ·exact⟨I,PH.no,rfl,eh,Uj _,S6 _,Ow.nil _ _ _ _⟩
 rintro⟨i,vat⟩ H ⟨I1,A1,rfl,eb,a5,hi,dx⟩ cl;simp only at hi dx;simp only[NX];have fA:=Ao h.ok fn i hi;obtain⟨aa,ac,rfl⟩:=dx.shape;have eo:du I1 (.slice ga f.length gc) f:=Sl.le (R:=fP) (fun{I J c a} h k=>fP.le h k) hf a5;rcases Sw i f.length with b3|em
 ·have ee:decide ((i:Int)<(f.length:Int))=true:=by simp;omega
  have e1:=wrap64 (n:=i+1) Vi;have c8:IntKind.i64.wrap ((i:Int)+1)=((i+1:Nat):Int):=by rw[<-e1];congr 1
  obtain⟨s,hs⟩:∃s,f[i]?=some s:=⟨_,SC b3⟩;have dA:=Tg hs;obtain⟨b,off,cs,rfl,ec,b1⟩:=eo.load fP.len hs;obtain⟨sa,sk,rfl,cb⟩:=ec.shape;apply RG;simp only[go_sem,ee,iv,pt];refine⟨Vi,?_⟩;refine Qz (l:=[iv s.1,.slice sa (T.subs s.2).length sk,iv (T.plc (T.subs s.2) s.2)]) (v:=.agg #[iv s.1,.slice sa (T.subs s.2).length sk,iv (T.plc (T.subs s.2) s.2)]) rfl (cellsU eb (.head _) b1) (.inl ⟨oN,rfl⟩) ?_;apply RG;simp only[go_sem,iv,pt];refine aB (fun x=>ts.length-x.1) (Pr pb (.slice (some ⟨b,off,none⟩) f.length gc) f.length i) (Ro pb (bD (.slice la ts.length lc) (.slice fa ts.length fc) ov dv o) ts (Ch ts f (i+1)) I1) (s.1,sa,sk,s.2,.slice aa (Ch ts f i).length ac) (ae (by simp only[go_sem,Tq,iv,pt])) (by simp only[go_sem,Tq,Pr]) ?_ ?_
  ·exact⟨I1,A1,_,rfl,eb,Uj _,fn.le s dA,dx,fA,cb,(yR hs).symm⟩
  rintro⟨j,da,dk,d,vat⟩ H ⟨I2,A2,cur,rfl,a6,ci,hj,dw,fC,c1,ct⟩ cy;simp only at hj dw c1 ct;simp only[Pr];obtain⟨ba,bc,rfl⟩:=dw.shape;have eH:=fC.len;have d9:=c1.1;have h2:=h.le (Ui a5 ci);have e2:=wrap64 (n:=j+1) Vi;have ey:IntKind.i64.wrap ((j:Int)+1)=((j+1:Nat):Int):=by rw[<-e2];congr 1
  rcases Sw j ts.length with dI|eA
  ·have dy:decide ((j:Int)<(ts.length:Int))=true:=by simp;omega
   apply RG;simp only[go_sem,dy,iv,pt];refine Qz (l:=[_]) rfl (cellsU a6 (.tail _ (.head _)) (aU (by simp[bD]) rfl)) (.inr ⟨pH,rfl⟩) ?_;apply RG;simp only[go_sem,dy,iv,pt];refine Pf rfl gK (fq c1) fun v H2 hv=>?_;obtain⟨rfl,rfl⟩:=hv;cases b4:decide (d=.lf false)
   ·have ea:d≠ff:=by simpa using b4
    obtain⟨t,ht⟩:∃t,ts[j]?=some t:=⟨_,SC dI⟩;have d2:=h.ok t (Tg ht);have dj:ts.drop j=t::ts.drop (j+1):=by
     rw[S5 dI];rw[SC dI]at ht;rw[Tk ht]
    obtain⟨tb,toff,tc,rfl,d3,a2⟩:=h2.tok.load cJ.len ht;obtain⟨path,file,line,ta,tk,rfl,c9,d1⟩:=d3;have a7:=a2.sub 5 2 (by simp);simp only[TT,Tm,TW,TV]at a7;rw[dj,dE,Sb ea]at ct;apply RG;simp only[go_sem,b4,iv,pt];refine ax mixed [0,1,2,3,4,5,6,7,8,9,10,11,12,13] [6,10] [] rfl rfl ?_;apply af;simp only[go_sem,iv,pt];refine P7 (l:=[_]) rfl (cellsU a6 (.tail _ (.head _)) (aU (by simp[bD]) rfl)) (.inr ⟨pH,rfl⟩) ?_;apply af;simp only[go_sem,iv,pt];refine⟨Vi,?_⟩;refine P7 (l:=[_,_]) (v:=.agg #[_,_]) rfl (cellsU a6 (.head _) a7) (.inl ⟨oQ,rfl⟩) ?_;apply af;simp only[go_sem,iv,pt,sD,rD];refine i7 a6 [0,1] [] [_,_] rfl iy rfl (lE c1 d1) fun v I3 qs b5 am hq=>?_;obtain⟨rfl,c5⟩:=hq;obtain⟨xa,xc,rfl⟩:=c5.shape;simp only[SU,SS]at b5 |-;apply af;simp only[go_sem,iv,pt];refine i7 b5 [1,0] [A2] [_] rfl df rfl (bo (a:=j) (gP.le' dw am) c5 fC.ok.2 (fun t ht=>by have:=fC.le t ht;omega) Vi Vi) fun v I4 qs cn cf hq=>?_;obtain⟨A3,rfl,b6⟩:=hq;obtain⟨ca,cc,rfl⟩:=b6.shape;simp only[SS,SU]at cn |-;apply af;simp only[go_sem,iv,pt];refine UT cn [1,0] fun c7=>?_;refine aw ?_;have d0:=d1.le (Ui am cf);have cr:=a7.le (Ui am cf);have d7:=c1.le (Ui am cf);apply RG;simp only[go_sem,iv,pt];refine ax mixed [0,1,2,3,4,5,6,7,8,9,10,11] [4,8] [] rfl rfl ?_;apply af;simp only[go_sem,iv,pt];refine P7 (l:=[_]) rfl (cellsU c7 (.tail _ (.head _)) (aU (by simp[bD]) rfl)) (.inr ⟨pH,rfl⟩) ?_;apply af;simp only[go_sem,iv,pt];refine⟨Vi,?_⟩;refine P7 (l:=[_,_]) (v:=.agg #[_,_]) rfl (cellsU c7 (.head _) cr) (.inl ⟨oQ,rfl⟩) ?_
    apply af;simp only[go_sem,iv,pt,sD,rD];refine i7 c7 [0,1] [] [_,_] rfl mn rfl (qK d0) fun v I5 qs c6 a1 hq=>?_;obtain⟨rfl,c4⟩:=hq;obtain⟨ya,yc,rfl⟩:=c4.shape;simp only[SU,SS]at c6 |-;apply af;simp only[go_sem,iv,pt];refine i7 c6 [0,1] [] [_,_] rfl iy rfl (lE (d7.le a1) c4) fun v I6 qs cm cA hq=>?_;obtain⟨rfl,a9⟩:=hq;obtain⟨za,zc,rfl⟩:=a9.shape;simp only[SU,SS]at cm |-;apply af;simp only[go_sem,iv,pt];refine aw ?_;apply RG;simp only[go_sem,iv,pt,ey];have fC2:FN ts.length (Syn.join cur j (d.and t.cond)):=fC.join Vi (T.and_ok d9 d2);exact cy (j+1,za,zc,d.and t.cond.not,.slice ca (Syn.join cur j (d.and t.cond)).length cc) _ _ V9 (ae (by simp only[go_sem,Tq,iv,pt])) (by simp only[go_sem,Tq,Pr]) ⟨I6,A3,_,rfl,cm,Ui ci (Ui am (Ui cf (Ui a1 cA))),dI,gP.le' b6 (Ui a1 cA),fC2,a9,ct⟩
   ·have ep:d=ff:=by simpa using b4
    subst ep;have bb:Syn.join cur ts.length ff=Ch ts f (i+1):=by rw[vO]at ct;rw[<-ct];simp[Syn.join]
    apply RG;simp only[go_sem,b4,iv,pt];refine ax mixed [0,1,2,3,4,5,6,7,8] [4] [] rfl rfl ?_;apply af;simp only[go_sem,iv,pt];refine P7 (l:=[_]) rfl (cellsU a6 (.tail _ (.head _)) (aU (by simp[bD]) rfl)) (.inr ⟨pH,rfl⟩) ?_;apply af;simp only[go_sem,iv,pt];refine i7 a6 [1,0] [A2] [_] rfl df rfl (bo (a:=ts.length) dw c1 fC.ok.2 (fun t ht=>by have:=fC.le t ht;omega) Vi Vi) fun v I3 qs b5 am hq=>?_;obtain⟨A3,rfl,b6⟩:=hq;obtain⟨ca,cc,rfl⟩:=b6.shape;simp only[SS,SU]at b5 |-;apply af;simp only[go_sem,iv,pt];refine UT b5 [1,0] fun cn=>?_;refine aw ?_;apply RG;simp only[go_sem,iv,pt,c8];rw[bb]at b6 |-;exact cl (i+1,.slice ca (Ch ts f (i+1)).length cc) _ _ V9 (ae (by simp only[go_sem,Tq,iv,pt])) (by simp only[go_sem,Tq,NX]) ⟨I3,A3,rfl,cn,Ui a5 (Ui ci am),b3,b6⟩
  ·have el:j=ts.length:=by omega
   subst el;have dy:=Z6 ts.length;have bb:Syn.join cur ts.length d=Ch ts f (i+1):=by rw[T4]at ct;exact ct
   apply RG;simp only[go_sem,dy,iv,pt];refine Qz (l:=[_]) rfl (cellsU a6 (.tail _ (.head _)) (aU (by simp[bD]) rfl)) (.inr ⟨pH,rfl⟩) ?_;apply RG;simp only[go_sem,dy,iv,pt];refine ax mixed [0,1,2,3,4,5,6,7,8] [4] [] rfl rfl ?_;apply af;simp only[go_sem,iv,pt];refine P7 (l:=[_]) rfl (cellsU a6 (.tail _ (.head _)) (aU (by simp[bD]) rfl)) (.inr ⟨pH,rfl⟩) ?_;apply af;simp only[go_sem,iv,pt];refine i7 a6 [1,0] [A2] [_] rfl df rfl (bo (a:=ts.length) dw c1 fC.ok.2 (fun t ht=>by have:=fC.le t ht;omega) Vi Vi) fun v I3 qs b5 am hq=>?_;obtain⟨A3,rfl,b6⟩:=hq;obtain⟨ca,cc,rfl⟩:=b6.shape;simp only[SS,SU]at b5 |-;apply af;simp only[go_sem,iv,pt];refine UT b5 [1,0] fun cn=>?_;refine aw ?_;apply RG;simp only[go_sem,iv,pt,c8];rw[bb]at b6 |-;exact cl (i+1,.slice ca (Ch ts f (i+1)).length cc) _ _ V9 (ae (by simp only[go_sem,Tq,iv,pt])) (by simp only[go_sem,Tq,NX]) ⟨I3,A3,rfl,cn,Ui a5 (Ui ci am),b3,b6⟩
 ·have d5:i=f.length:=by omega
  subst d5;have ee:=Z6 f.length;have er:Ch ts f f.length=dm ts f:=by unfold Ch dm;rw[Td]
  rw[er]at dx fA |-;apply RG;simp only[go_sem,ee,iv,pt];refine ab (c:=.st _) eb [1,0] rfl fun a6=>?_;simp only[uv,Ts,Tt]at a6 |-;refine ag (c:=.st _) a6 fun I2 b5 am ex=>?_;refine aT (c:=.st _) b5 fun cn=>?_;refine ab (c:=.st _) cn [1,0] rfl fun c7=>?_;simp only[uv,Ts,Tt]at c7 |-;have hS:du I2 (.slice aa (dm ts f).length ac) (dm ts f):=Ow.sl (R:=fP) (fun{I J c a} h k=>fP.le h k) dx am ex;obtain⟨a,ha⟩:∃a,a=dm ts f:=⟨_,rfl⟩;rw[<-ha]at hS fA |-;have e0:=fA.len;have cB:bk ts f=a.map (cL ts):=by rw[jk h.ok fn.ok,ha]
  refine aB (fun x=>a.length-x.1) (MK pb (.slice aa a.length ac) a.length) (Rj pb (bD (.slice la ts.length lc) (.slice fa ts.length fc) ov dv o) ts a I2) (0,.slice none 0 0) (ae (by simp only[go_sem,Tq,iv,pt])) (by simp only[go_sem,Tq,MK]) ?_ ?_
  ·exact⟨I2,PH.no,rfl,c7,Uj _,S6 _,Ow.nil _ _ _ _⟩
  rintro⟨i,vo⟩ H ⟨I3,B,rfl,c6,a1,hi,hB⟩ a4;simp only at hi hB;simp only[MK];obtain⟨oa,oc,rfl⟩:=hB.shape;have cx:((a.take i).map (cL ts)).length=i:=by simp;omega
  rw[cx]at hB |-;have es:du I3 (.slice aa a.length ac) a:=Sl.le (R:=fP) (fun{I J c a} h k=>fP.le h k) hS a1;have h3:=h.le (Ui a5 (Ui am a1));rcases Sw i a.length with b3|em
  ·have ed:decide ((i:Int)<(a.length:Int))=true:=by simp;omega
   have e1:=wrap64 (n:=i+1) Vi;have c8:IntKind.i64.wrap ((i:Int)+1)=((i+1:Nat):Int):=by rw[<-e1];congr 1
   obtain⟨s,hs⟩:∃s,a[i]?=some s:=⟨_,SC b3⟩;have dA:=Tg hs;obtain⟨b,off,cs,rfl,ec,b1⟩:=es.load fP.len hs;obtain⟨sa,sk,rfl,cb⟩:=ec.shape;have sle:=fA.le s dA;obtain⟨sok,sne⟩:=fA.ok.1 s dA;have c3:(a.take (i+1)).map (cL ts)=(a.take i).map (cL ts)++[cL ts s]:=by
    rw[S7 b3,Uc];rw[SC b3]at hs;rw[Tk hs];rfl
   apply RG;simp only[go_sem,ed,iv,pt];refine⟨Vi,?_⟩;refine Qz (l:=[iv s.1,.slice sa (T.subs s.2).length sk,iv (T.plc (T.subs s.2) s.2)]) (v:=.agg #[iv s.1,.slice sa (T.subs s.2).length sk,iv (T.plc (T.subs s.2) s.2)]) rfl (cellsU c6 (.head _) b1) (.inl ⟨oN,rfl⟩) ?_;apply RG;simp only[go_sem,iv,pt];refine f6 c6 [0,1] [_] [B] rfl CF rfl (vS h3 sle) fun v I4 qs cm cA hq=>?_;obtain⟨rfl,rfl,rfl⟩:=hq;simp only[SS,SU]at cm |-;apply RG;simp only[go_sem,iv,pt];refine f6 cm [0,1] [] [_,_] rfl iy rfl (lE cb (jP I4 false)) fun v I5 qs dT aS hq=>?_;obtain⟨rfl,c5⟩:=hq;rw[Ey sok]at c5;obtain⟨xa,xc,rfl⟩:=c5.shape;simp only[SS,SU]at dT |-;apply RG;simp only[go_sem,iv,pt];refine Pf rfl gK (fq c5) fun v H2 hv=>?_;obtain⟨rfl,rfl⟩:=hv;apply RG;simp only[go_sem,iv,pt];refine ax mixed [8,0,1,2,3,4,5,6,7,9] [] [] rfl rfl ?_;apply af;simp only[go_sem,iv,pt];refine i7 dT [0,1] [] [_,_] rfl mn rfl (qK (jP I5 false)) fun v I6 qs ds an hq=>?_;obtain⟨rfl,c4⟩:=hq;simp only[T.not,T7]at c4;obtain⟨ya,yc,rfl⟩:=c4.shape;simp only[SS,SU]at ds |-;apply af;simp only[go_sem,iv,pt];refine i7 ds [0,1] [] [_,_] rfl iy rfl (lE (cb.le (Ui aS an)) c4) fun v I7 qs ap a0 hq=>?_;obtain⟨rfl,a9⟩:=hq;rw[Gp sok]at a9;obtain⟨za,zc,rfl⟩:=a9.shape;simp only[SS,SU]at ap |-;apply af;simp only[go_sem,iv,pt];refine aw ?_;apply RG;simp only[go_sem,iv,pt];have h7:=h3.le (Ui aS (Ui an a0));rcases Sw s.1 ts.length with ek|ez
   ·have c2:decide ((s.1:Int)<(ts.length:Int))=true:=by simp;omega
    obtain⟨t,ht⟩:∃t,ts[s.1]?=some t:=⟨_,SC ek⟩;obtain⟨fb,foff,fcs,rfl,en,c0⟩:=h7.fit.load (fun{I} c a h=>qi.len (I:=I) c a h) ht;obtain⟨tb,toff,tc,rfl,d3,a2⟩:=h7.tok.load cJ.len ht;have d6:fcs=[.bool t.fits]:=en;subst d6;refine ax mixed [0,1,2,3,4,5,6,7,8,9,10,11,12,13,14,15,16,17] [5,12,16] [] rfl rfl ?_;apply af;simp only[go_sem,iv,pt];refine P7 (l:=[_]) rfl (cellsU ap (.tail _ (.head _)) (aU (by simp[bD]) rfl)) (.inr ⟨pH,rfl⟩) ?_;apply af;simp only[go_sem,iv,pt,c2];refine P7 (l:=[.slice (some ⟨fb,foff,none⟩) ts.length fc]) rfl (cellsU ap (.tail _ (.head _)) (aU (by simp[bD]) rfl)) (.inr ⟨Kt,rfl⟩) ?_;apply af;simp only[go_sem,iv,pt];refine⟨Vi,?_⟩;refine P7 (l:=[.bool t.fits]) rfl (cellsU ap (.head _) c0) (.inr ⟨Q7,rfl⟩) ?_;apply af;simp only[go_sem,iv,pt];refine aw ?_;cases cj:t.fits
    ·have dd:cL ts s=⟨s.1,s.2,0,[]⟩:=by simp[cL,ht,cj]
     apply RG;simp only[go_sem,iv,pt,cj];refine Pf rfl gK (fq a9) fun v H2 hv=>?_;obtain⟨rfl,rfl⟩:=hv;have b4:decide (s.2=.lf false)=false:=by simpa using sne
     apply RG;simp only[go_sem,iv,pt,b4];refine av ap (by exact qk) rfl rfl rfl rfl rfl Vm fun nb I8 b0 ak dc=>?_;apply RG;simp only[go_sem,iv,pt];refine Um b0 [1,0] fun a3=>?_;obtain⟨bs,ao,b2⟩:=hB;rw[cx]at ao;refine dr (m:=1) a3 (by exact qk) ao rfl rfl rfl rfl (cellsU a3 (.head _) (az (l:=[iv s.1,.slice za (T.subs s.2).length zc,iv (T.plc (T.subs s.2) s.2),.int .u8 0,.string ⟨#[]⟩]) dc (by simp[aE,Value.cells]) (by simp[aE,Value.cells,iv]))) rfl rfl Vi (by unfold maxLen;omega) fun v' I9 B2 bx aj cp=>?_;obtain⟨na,nc,rfl⟩:=cp.slice;apply RG;simp only[go_sem,iv,pt,c8];refine Um bx [1,0] fun bd=>?_;refine a4 (i+1,.slice na (i+1) nc) _ _ V9 (ae (by simp only[go_sem,Tq,iv,pt])) (by simp only[go_sem,Tq,MK]) ⟨I9,B2,rfl,bd,Ui a1 (Ui aS (Ui an (Ui a0 (Ui ak aj)))),b3,bs++[iv s.1,.slice za (T.subs s.2).length zc,iv (T.plc (T.subs s.2) s.2),.int .u8 0,.string ⟨#[]⟩],?_,?_⟩
     ·simp only;rw[c3,Tu,cx];exact cp
     ·simp only;rw[c3,dd];exact LR.app (b2.mono fun _ _ h=>jA.le h (Ui aS (Ui an (Ui a0 (Ui ak aj))))) (.one ⟨za,zc,rfl,a9.le (Ui ak aj)⟩)
    ·have dd:cL ts s=⟨s.1,s.2,t.kind,t.text⟩:=by simp[cL,ht,cj]
     obtain⟨path,file,line,ta,tk,rfl,c9,d1⟩:=d3;have eg:=a2.sub 0 1 (by simp);have ef:=a2.sub 1 1 (by simp);simp only[TT,Tm,TW,TV,Sd]at eg ef;apply RG;simp only[go_sem,iv,pt,cj];refine mf mixed [0,1,2,3,4,5,6,7,8,9,10,11,12,13,14,15,16,17,18,19,20,21] [3,8,12,17] [] [12,14,17] [19] [12] rfl rfl ?_;apply af;simp only[go_sem,iv,pt];refine P7 (l:=[.slice (some ⟨tb,toff,none⟩) ts.length lc]) rfl (cellsU ap (.tail _ (.head _)) (aU (by simp[bD]) rfl)) (.inr ⟨pH,rfl⟩) ?_;apply af;simp only[go_sem,iv,pt];refine⟨Vi,?_⟩;refine P7 (l:=[.int .u8 t.kind]) rfl (cellsU ap (.head _) eg) (.inr ⟨MR,rfl⟩) ?_;apply af;simp only[go_sem,iv,pt];refine P7 (l:=[.slice (some ⟨tb,toff,none⟩) ts.length lc]) rfl (cellsU ap (.tail _ (.head _)) (aU (by simp[bD]) rfl)) (.inr ⟨pH,rfl⟩) ?_;apply af;simp only[go_sem,iv,pt];refine⟨Vi,?_⟩;refine P7 (l:=[.string ⟨⟨t.text⟩⟩]) rfl (cellsU ap (.head _) ef) (.inr ⟨rz,rfl⟩) ?_;apply af;simp only[go_sem,iv,pt];refine aw ?_;apply RG;simp only[go_sem,iv,pt];refine Pf rfl gK (fq a9) fun v H2 hv=>?_;obtain⟨rfl,rfl⟩:=hv;have b4:decide (s.2=.lf false)=false:=by simpa using sne
     apply RG;simp only[go_sem,iv,pt,b4];refine av ap (by exact qk) rfl rfl rfl rfl rfl Vm fun nb I8 b0 ak dc=>?_;apply RG;simp only[go_sem,iv,pt];refine Um b0 [1,0] fun a3=>?_;obtain⟨bs,ao,b2⟩:=hB;rw[cx]at ao;refine dr (m:=1) a3 (by exact qk) ao rfl rfl rfl rfl (cellsU a3 (.head _) (az (l:=[iv s.1,.slice za (T.subs s.2).length zc,iv (T.plc (T.subs s.2) s.2),.int .u8 t.kind,.string ⟨⟨t.text⟩⟩]) dc (by simp[aE,Value.cells]) (by simp[aE,Value.cells,iv]))) rfl rfl Vi (by unfold maxLen;omega) fun v' I9 B2 bx aj cp=>?_;obtain⟨na,nc,rfl⟩:=cp.slice;apply RG;simp only[go_sem,iv,pt,c8];refine Um bx [1,0] fun bd=>?_;refine a4 (i+1,.slice na (i+1) nc) _ _ V9 (ae (by simp only[go_sem,Tq,iv,pt])) (by simp only[go_sem,Tq,MK]) ⟨I9,B2,rfl,bd,Ui a1 (Ui aS (Ui an (Ui a0 (Ui ak aj)))),b3,bs++[iv s.1,.slice za (T.subs s.2).length zc,iv (T.plc (T.subs s.2) s.2),.int .u8 t.kind,.string ⟨⟨t.text⟩⟩],?_,?_⟩
     ·simp only;rw[c3,Tu,cx];exact cp
     ·simp only;rw[c3,dd];exact LR.app (b2.mono fun _ _ h=>jA.le h (Ui aS (Ui an (Ui a0 (Ui ak aj))))) (.one ⟨za,zc,rfl,a9.le (Ui ak aj)⟩)
   ·have ei:s.1=ts.length:=by omega
    have c2:decide ((s.1:Int)<(ts.length:Int))=false:=by simp;omega
    have dd:cL ts s=⟨s.1,s.2,0,[]⟩:=by simp[cL,ei]
    refine ax mixed [0,1,2,3,4,5,6,7,8,9,10,11,12,13,14,15,16,17] [5,12,16] [] rfl rfl ?_;apply af;simp only[go_sem,iv,pt];refine P7 (l:=[_]) rfl (cellsU ap (.tail _ (.head _)) (aU (by simp[bD]) rfl)) (.inr ⟨pH,rfl⟩) ?_;apply af;simp only[go_sem,iv,pt,c2];refine aw ?_;apply RG;simp only[go_sem,iv,pt];refine Pf rfl gK (fq a9) fun v H2 hv=>?_;obtain⟨rfl,rfl⟩:=hv;have b4:decide (s.2=.lf false)=false:=by simpa using sne
    apply RG;simp only[go_sem,iv,pt,b4];refine av ap (by exact qk) rfl rfl rfl rfl rfl Vm fun nb I8 b0 ak dc=>?_;apply RG;simp only[go_sem,iv,pt];refine Um b0 [1,0] fun a3=>?_;obtain⟨bs,ao,b2⟩:=hB;rw[cx]at ao;refine dr (m:=1) a3 (by exact qk) ao rfl rfl rfl rfl (cellsU a3 (.head _) (az (l:=[iv s.1,.slice za (T.subs s.2).length zc,iv (T.plc (T.subs s.2) s.2),.int .u8 0,.string ⟨#[]⟩]) dc (by simp[aE,Value.cells]) (by simp[aE,Value.cells,iv]))) rfl rfl Vi (by unfold maxLen;omega) fun v' I9 B2 bx aj cp=>?_;obtain⟨na,nc,rfl⟩:=cp.slice;apply RG;simp only[go_sem,iv,pt,c8];refine Um bx [1,0] fun bd=>?_;refine a4 (i+1,.slice na (i+1) nc) _ _ V9 (ae (by simp only[go_sem,Tq,iv,pt])) (by simp only[go_sem,Tq,MK]) ⟨I9,B2,rfl,bd,Ui a1 (Ui aS (Ui an (Ui a0 (Ui ak aj)))),b3,bs++[iv s.1,.slice za (T.subs s.2).length zc,iv (T.plc (T.subs s.2) s.2),.int .u8 0,.string ⟨#[]⟩],?_,?_⟩
    ·simp only;rw[c3,Tu,cx];exact cp
    ·simp only;rw[c3,dd];exact LR.app (b2.mono fun _ _ h=>jA.le h (Ui aS (Ui an (Ui a0 (Ui ak aj))))) (.one ⟨za,zc,rfl,a9.le (Ui ak aj)⟩)
  ·have d5:i=a.length:=by omega
   subst d5;have ed:=Z6 a.length;rw[Td,<-cB]at hB;apply RG;simp only[go_sem,ed,iv,pt];refine ab (c:=.st _) c6 [1,0] rfl fun cm=>?_;simp only[uv,Ts,Tt]at cm |-;refine ag (c:=.st _) cm fun I4 dT aS et=>?_;have d4:m9 I4 (.slice oa a.length oc) (bk ts f):=Ow.sl (R:=jA) (fun{I J c a} h k=>jA.le h k) hB aS et;exact ai rfl dT (r:=[_]) rfl (Ui a5 (Ui am (Ui a1 aS))) ⟨rfl,d4⟩
end Go.Proofs.YtfaclfkpnmcmlaaGreatDoor
namespace Go.Sx
open Go
section
variable {C:Cx} {P:Program} {k:List Item} {σ:St} {H:PH}
theorem NT{I I2:PH}{qs F:List PH}(aa:I.le I2)(ac:Dj (I::F))(hd:Dj (I2::qs++F)):(U (I::F)).le (U (I2::qs++F)):=by
 intro b o h;rcases(lw ac).1 h with ⟨A,hA,hb⟩
 rcases List.mem_cons.1 hA with rfl|hA
 ·exact(lw hd).2 ⟨I2,.head _,aa b o hb⟩
 ·exact(lw hd).2 ⟨A,.tail _ (SN _ hA),hb⟩
theorem Dj.drop_mid{I:PH}{ps F:List PH}(h:Dj (I::ps++F)):Dj (I::F):=
 h.sublist (List.Sublist.cons_cons I (List.sublist_append_right ps F))
theorem pw{ol:List Oper}{fr:gW}{str:gR}{i:Nat}{lo:List (Nat×Oper)}{o:Oper}{x:Operand}{aS:Array Operand}{ts:Array TypeId}{f:FuncId}{vs:List Value}{first cap:Array Value}{I:PH}{l ps F:List PH}{Ψ:Value->PH->List PH->Prop}(hd:Dj (I::l))(is:List Nat)(hs:str.h.contains i=false)(hw:aG ol σ o=some true)(ac:o.op=.call ⟨.value x,aS,ts⟩)
  (hx:ev σ x=.v (.func (.func f) first cap)) (ha:ji (ev σ) aS.toList=some vs) (hg:aP C.P f) (hi:is.isPerm (List.range l.length)=true) (hl:uv l is=ps++F) (aa:fr.J.le (U (I::F))) (h:aO C.P f (first++vs.toArray++cap) I ps Ψ)
  (hk:∀v I2 qs,Dj (I2::qs++F)->I.le I2->Ψ v I2 qs->RD C ol fr str lo k (σ.put o.dst (.v v)) (U (I2::qs++F))):RD C ol fr str ((i,o)::lo) k σ (U (I::l)):=by
 obtain⟨e,d⟩:=lr ((lY hi).cons I) hd;rw[hl]at e d;rw[e];exact pi hw ac hx ha hg (h.frame d) fun v H2 ⟨I2,qs,a,b,c,dd⟩=>⟨⟨fun hh=>Bool.noConfusion (hs.symm.trans hh),fun hj _=>by subst a;exact Ui aa (NT c (Dj.drop_mid d) b)⟩,by subst a;exact hk v I2 qs b c dd⟩
theorem eO{r:List Value}{I I2:PH}{qs:List PH}{Ψ:Value->PH->List PH->Prop}(aa:C.post=fun v H2=>∃I2 qs,H2=U (I2::qs)/\Dj (I2::qs)/\I.le I2/\Ψ v I2 qs)(hd:Dj (I2::qs))(h:tW C.P σ C.fn.results.toList=some r)(ac:I.le I2)(hp:Ψ (eN r) I2 qs):RC C (.st []) σ (U (I2::qs)):=
 NM h (by rw[aa];exact⟨I2,qs,rfl,hd,ac,hp⟩)
theorem yB{o:Oper}{T e:TypeId}{size:Nat}{x y z:Operand}{a:Option Addr}{len cap h m:Nat}{k1 k2:IntKind}(ac:o.op=.slice T x none (some y) (some z))(hu:P.underlying T=some (.slice e))(hi:∃i,P.info? e=some i/\i.size=size)
  (hx:ev σ x=.v (.slice a len cap)) (hy:ev σ y=.v (.int k1 h)) (hz:ev σ z=.v (.int k2 m)) (h1:h<=m) (h2:m<=cap) :
  aR σ o.op=true/\co P (execOp (bp σ) o) H fun sv H2=>sv=.v (.slice (oz a size 0 m) h m)/\H2=H:=by
 constructor
 ·simp[aR,ac,eL,Op.operands,hx,hy,hz,qy]
 ·intro w hw;obtain⟨i,hi,rfl⟩:=hi;have aj:(sizeOf e).run P w=.ok i.size w:=by simp[sizeOf,typeInfo,program,Sem.run,hi]
  have r1:=fu (P:=P) (w:=w) (i:=(m:Int)) (k:=k2) (code:=.slice3Acap) (y:=cap) Vi Vi;have r2:=fu (P:=P) (w:=w) (i:=(h:Int)) (k:=k1) (code:=.slice3B) (y:=m) Vi Vi;simp only[Int.toNat_natCast]at r1 r2;have aa:(execOp (bp σ) o).run P w=.ok (.value (.slice (oz a i.size 0 m) h m)) w:=by
   simp[execOp,ac,bp,hx,hy,hz,Instr.sliceAt,bf hu,run_underlying hu,Instr.slice,Instr.sliceBounds,Result.andThen,aj,oz,r1,r2]
  rw[aa];exact⟨H,cS.refl hw,rfl,rfl⟩
theorem CJ{ol rem:List Oper}{o:Oper}{T e:TypeId}{size:Nat}{x y z:Operand}{a:Option Addr}{len cap h m:Nat}{k1 k2:IntKind}(hw:aG ol σ o=some true)(aa:o.op=.slice T x none (some y) (some z))(hu:C.P.underlying T=some (.slice e))(hi:∃i,C.P.info? e=some i/\i.size=size)
  (hx:ev σ x=.v (.slice a len cap)) (hy:ev σ y=.v (.int k1 h)) (hz:ev σ z=.v (.int k2 m)) (h1:h<=m) (h2:m<=cap)
  (hk:RC C (.op ol rem k) (σ.put o.dst (.v (.slice (oz a size 0 m) h m))) H):RC C (.op ol (o::rem) k) σ H:=by
 obtain⟨a,b⟩:=yB (H:=H) aa hu hi hx hy hz h1 h2;exact f9 hw a (b.mono fun sv H2 ⟨e1,e2⟩=>by subst e1;subst e2;exact hk)
theorem Aj{o:Oper}{T T2 e:TypeId}{x y:Operand}{a:Option Addr}{n c:Nat}(ac:o.op=.binOp .eql T x y T2)(hu:P.underlying T=some (.slice e))
  (hx:ev σ x=.v (.slice a n c)) (hy:ev σ y=.v (.slice none 0 0)) :
  aR σ o.op=true/\co P (execOp (bp σ) o) H fun sv H2=>sv=.v (.bool a.isNone)/\H2=H:=by
 constructor
 ·simp[aR,ac,eL,Op.operands,hx,hy,qy]
 ·intro w hw;have aa:(execOp (bp σ) o).run P w=.ok (.value (.bool a.isNone)) w:=by
   have:∀k,Op.maxDepth=k+1->(Op.equal T (.slice a n c) (.slice none 0 0)).run P w=.ok a.isNone w:=by
    intro k hk;unfold Op.equal;rw[hk];cases a<;>simp[Op.equalIn,run_underlying hu,Se,Result.andThen]
   have hh:=this 9999 rfl;simp[execOp,ac,bp,hx,hy,eqGuard,binOp,Se,hh,Result.andThen]
  rw[aa];exact⟨H,cS.refl hw,rfl,rfl⟩
theorem kw{ol rem:List Oper}{o:Oper}{T T2 e:TypeId}{x y:Operand}{a:Option Addr}{n c:Nat}(hw:aG ol σ o=some true)(aa:o.op=.binOp .eql T x y T2)(hu:C.P.underlying T=some (.slice e))
  (hx:ev σ x=.v (.slice a n c)) (hy:ev σ y=.v (.slice none 0 0)) (hk:RC C (.op ol rem k) (σ.put o.dst (.v (.bool a.isNone))) H):RC C (.op ol (o::rem) k) σ H:=by
 obtain⟨p,q⟩:=Aj (H:=H) aa hu hx hy;exact f9 hw p (q.mono fun sv H2 ⟨e1,e2⟩=>by subst e1;subst e2;exact hk)
theorem oL{o:Oper}{t e:TypeId}{size bytes:Nat}(ht:iw P t e size bytes){x y:Operand}{a ya:Option Addr}{n n2 c:Nat}(ac:o.op=.call ⟨.builtin .append,#[x,y],#[t,t]⟩)
  (hx:ev σ x=.v (.slice a n n2)) (aj:n<=n2) (hy:ev σ y=.v (.slice ya 0 c)) :
  aR σ o.op=true/\co P (execOp (bp σ) o) H fun sv H2=>sv=.v (.slice a n n2)/\H2=H:=by
 constructor
 ·simp[aR,ac,eL,Op.operands,Call.operands,hx,hy,qy]
 ·intro w hw;obtain⟨i,z,a1,a2,a3,a4,a5,a6,a7⟩:=ht;have hs:Src P i.size t (.slice ya 0 c) 0 [] w:=by
   cases ya with
   |none=>exact Src.ofNil w a1 c
   |some b=>exact Src.ofSlice w a1 b 0 c [] (by simp) (fun j u h=>by simp at h) (fun u h=>by cases h)
  have aa:=run_append_nothing (P:=P) w t t o.type e i a1 a2 a n n2 aj _ hs;rw[lL ac hx hy aa];exact⟨H,cS.refl hw,rfl,rfl⟩
theorem wB{o:Oper}{t e:TypeId}{size bytes:Nat}(ht:iw P t e size bytes){x y:Operand}{a:Option Addr}{n n2 m c xb xo:Nat}{olds news:List Value}(ak:o.op=.call ⟨.builtin .append,#[x,y],#[t,t]⟩)
  (hx:ev σ x=.v (.slice a n n2)) (am:n2<n+m) (hy:ev σ y=.v (.slice (some ⟨xb,xo,none⟩) m c)) (aj:n=0\/∃b off,a=some ⟨b,off,none⟩/\aQ H b off olds) (hl:olds.length=n*size)
  (hc:aQ H xb xo news) (ao:news.length=m*size) (h1:news.all one=true) (an:n+m<=maxLen) (hb:(n+m)*bytes<=140737488355328) :
  aR σ o.op=true/\co P (execOp (bp σ) o) H fun sv H2=>∃g cap zs,H g=none/\(n+m<=cap/\cap<=maxLen)/\sv=.v (.slice (some ⟨g,0,none⟩) (n+m) cap)/\H2=H.put g (.cells (olds++news++zs).toArray e (0,0)):=by
 constructor
 ·simp[aR,ak,eL,Op.operands,Call.operands,hx,hy,qy]
 ·intro w hw;obtain⟨i,z,a1,a2,a3,a4,a5,a6,a7⟩:=ht;subst a4;subst a5;have ap:(Builtin.firstCells i.size n (.slice a n n2)).run P w.drew=.ok olds.toArray w.drew:=by
   rcases aj with rfl|⟨b,off,rfl,aS⟩
   ·have:olds=[]:=by simpa using hl
    subst this;cases a with
    |none=>exact run_firstCells_none w.drew i.size 0 0 n2
    |some b=>exact run_firstCells_some w.drew i.size 0 b 0 n2 [] (by simp) (fun j u h=>by simp at h)
   ·exact run_firstCells_some (P:=P) (w:=w.drew) i.size n ⟨b,off,none⟩ n n2 olds hl (lB aS (w:=w.drew) hw)
  have hs:Src P i.size t (.slice (some ⟨xb,xo,none⟩) m c) m news w:=Src.ofSlice w a1 ⟨xb,xo,none⟩ m c news ao (lB hc hw)
   (fun u hu=>by have:=List.all_eq_true.1 h1 u hu;cases u<;>first|rfl|cases this)
  have aa:n+m<=9223372036854775807:=by simp only[maxLen]at an;omega
  have ac:=run_append_grow_src (P:=P) w t t o.type e i z a1 a2 a3 a n n2 olds ap _ m news hs am Vi (growslice_fits am hb);rw[lL ak hx hy ac];obtain⟨n1,n2'⟩:=cS.newD hw (.cells ((olds++news).toArray++Builtin.zeroCells z.cells (grownCap w (n+m) n2 e-(n+m))) e (0,0));refine⟨_,n2',w.heap.size,grownCap w (n+m) n2 e,(Builtin.zeroCells z.cells (grownCap w (n+m) n2 e-(n+m))).toList,n1,⟨grownCap_ge w (n+m) n2 e,grownCap_le_maxLen w (n+m) n2 e an⟩,rfl,?_⟩;congr 2;rw[<-Sq];simp
theorem rW{ol rem:List Oper}{o:Oper}{t e:TypeId}{size bytes:Nat}(ht:iw C.P t e size bytes){x y:Operand}{a ya:Option Addr}{n n2 c:Nat}(hw:aG ol σ o=some true)(aa:o.op=.call ⟨.builtin .append,#[x,y],#[t,t]⟩)
  (hx:ev σ x=.v (.slice a n n2)) (ac:n<=n2) (hy:ev σ y=.v (.slice ya 0 c)) (hk:RC C (.op ol rem k) (σ.put o.dst (.v (.slice a n n2))) H):RC C (.op ol (o::rem) k) σ H:=by
 obtain⟨a,b⟩:=oL (H:=H) ht aa hx ac hy;exact f9 hw a (b.mono fun sv H2 ⟨e1,e2⟩=>by subst e1;subst e2;exact hk)
theorem AM{ol rem:List Oper}{o:Oper}{t e:TypeId}{size bytes:Nat}{I:PH}{l:List PH}(hd:Dj (I::l))(ht:iw C.P t e size bytes){x y:Operand}{a:Option Addr}{n n2 m c xb xo:Nat}{olds news:List Value}(hw:aG ol σ o=some true)(ac:o.op=.call ⟨.builtin .append,#[x,y],#[t,t]⟩)
  (hx:ev σ x=.v (.slice a n n2)) (ak:n2<n+m) (hy:ev σ y=.v (.slice (some ⟨xb,xo,none⟩) m c)) (aa:n=0\/∃b off,a=some ⟨b,off,none⟩/\aQ (U (I::l)) b off olds) (hl:olds.length=n*size)
  (hc:aQ (U (I::l)) xb xo news) (aj:news.length=m*size) (h1:news.all one=true) (am:n+m<=maxLen) (hb:(n+m)*bytes<=140737488355328)
  (hk:∀g cap I2,Dj (I2::l)->I.le I2->(n+m<=cap/\cap<=maxLen)->aQ I2 g 0 (olds++news)->RC C (.op ol rem k) (σ.put o.dst (.v (.slice (some ⟨g,0,none⟩) (n+m) cap))) (U (I2::l))):RC C (.op ol (o::rem) k) σ (U (I::l)):=by
 obtain⟨a,b⟩:=wB ht ac hx ak hy aa hl hc aj h1 am hb;refine f9 hw a (b.mono fun sv H2 ⟨g,cap,zs,e1,e4,e2,e3⟩=>?_);subst e2;subst e3;obtain⟨q1,q2,q3,q4⟩:=GN hd (o:=.cells (olds++news++zs).toArray e (0,0)) e1;rw[q1];refine hk g cap _ q2 q3 e4 (az q4 (by simp) (by show (List.drop 0 (olds++news++zs)).take (olds++news).length=_;rw[Tm];exact List.take_left))
end
theorem Jh(l:List UInt8):(⟨⟨l⟩⟩:ByteArray).toList=l:=ByteArray.toList_eq _
attribute [go_sem] Jh
end Go.Sx
namespace Go.Proofs.YtfaclfkpnmcmlaaGreatDoor
open Go Go.Sx Dg Syn
theorem iJ:aP Tryz.prog 140:=⟨_,Tryz.func140,rfl,rfl⟩
def dg(I:PH)(c:List Value)(e:bX):Prop:=∃a k,c=[.int .u8 e.code,.int .i64 e.tok,sD a k e.cond,rD e.cond]/\cu I (.agg #[sD a k e.cond,rD e.cond]) e.cond
theorem dg.le{I J:PH}{c:List Value}{e:bX}(h:dg I c e)(aa:I.le J):dg J c e:=by
 obtain⟨a,k,e,h⟩:=h;exact⟨a,k,e,cu.le h aa⟩
theorem dg.len{I:PH}(c:List Value)(e:bX)(h:dg I c e):c.length=4:=by obtain⟨a,k,e,_⟩:=h;rw[e];rfl
abbrev dl(I D:PH)(v:Value)(e:List bX):Prop:=Ow dg 80 4 I D v e
theorem dl.le{I J D:PH}{v:Value}{e:List bX}(h:dl I D v e)(aa:I.le J):dl J D v e:=Ow.le (R:=dg) (fun{I J c a} h k=>dg.le h k) h aa
abbrev Ul:=@dl.le
theorem Sl.monoR{α:Type}{R R':PH->List Value->α->Prop}{I:PH}{v:Value}{l:List α}(h:Sl R I v l)(hR:∀c a,R I c a->R' I c a):Sl R' I v l:=by
 obtain⟨a,c,e,h⟩:=h;exact⟨a,c,e,h.imp id fun⟨b,off,xs,e1,e2,e3⟩=>⟨b,off,xs,e1,e2,e3.mono hR⟩⟩
def zA:Value->Prop
 | .slice _ n c=>n<=c
 |_=>True
def oU:Value->Prop
 | .slice _ n c=>n<=c/\(0<n->c<=maxLen)
 |_=>True
theorem jq:oU (.slice none 0 0):=⟨R7 _,fun h=>absurd h (Nat.lt_irrefl _)⟩
def nP:Nat->PH->List Value->Nd->Prop
 |0,_,_,_=>False
 |d+1,I,c,n=>∃vk a k,c=[.int .u8 n.kind,.string ⟨⟨n.text⟩⟩,.int .i64 n.tok,.int .i64 n.slot,vk,sD a k n.cond,rD n.cond]/\cu I (.agg #[sD a k n.cond,rD n.cond]) n.cond/\Sl (nP d) I vk n.kids/\oU vk
theorem nP.le:∀{d:Nat} {I J:PH} {c:List Value} {n:Nd},nP d I c n->I.le J->nP d J c n
 |0,_,_,_,_,h,_=>h
 |d+1,I,J,c,n,⟨vk,a,k,e,h,hk,hc⟩,aa=>⟨vk,a,k,e,cu.le h aa,Sl.le (R:=nP d) (fun{I J c a} h k=>nP.le h k) hk aa,hc⟩
theorem nP.up:∀{d:Nat} {I:PH} {c:List Value} {n:Nd},nP d I c n->nP (d+1) I c n
 |0,_,_,_,h=>h.elim
 |d+1,I,c,n,⟨vk,a,k,e,h,hk,hc⟩=>⟨vk,a,k,e,h,hk.monoR fun _ _ h=>nP.up h,hc⟩
theorem nP.ups{d d':Nat}{I:PH}{c:List Value}{n:Nd}(h:nP d I c n)(hd:d<=d'):nP d' I c n:=by
 induction hd with
 |refl=>exact h
 |step _ ih=>exact ih.up
def aW(I:PH)(c:List Value)(n:Nd):Prop:=∃d,nP d I c n
theorem LR.depth{I:PH}:∀{l:List Nd} {xs:List Value},LR (aW I) xs l->∃d,LR (nP d I) xs l
 | [],xs,h=>⟨0,h⟩
 |a::l,xs,⟨c,ys,e,⟨d,h1⟩,h2⟩=>by
  obtain⟨d',h3⟩:=LR.depth h2;exact⟨max d d',c,ys,e,h1.ups (Nat.le_max_left _ _),h3.mono fun _ _ h=>h.ups (Nat.le_max_right _ _)⟩
theorem aW.mk{I:PH}{vk:Value}{a:Option Addr}{k:Nat}{n:Nd}(h:cu I (.agg #[sD a k n.cond,rD n.cond]) n.cond)(hk:Sl aW I vk n.kids)(hc:oU vk):aW I [.int .u8 n.kind,.string ⟨⟨n.text⟩⟩,.int .i64 n.tok,.int .i64 n.slot,vk,sD a k n.cond,rD n.cond] n:=by
 obtain⟨b,c,e,h2⟩:=hk;rcases h2 with h2|⟨b',off,xs,e1,e2,e3⟩
 ·exact⟨1,vk,a,k,rfl,h,⟨b,c,e,.inl h2⟩,hc⟩
 ·obtain⟨d,h4⟩:=LR.depth e3;exact⟨d+1,vk,a,k,rfl,h,⟨b,c,e,.inr ⟨b',off,xs,e1,e2,h4⟩⟩,hc⟩
theorem aW.shape{I:PH}{c:List Value}{n:Nd}(h:aW I c n):∃vk a k,c=[.int .u8 n.kind,.string ⟨⟨n.text⟩⟩,.int .i64 n.tok,.int .i64 n.slot,vk,sD a k n.cond,rD n.cond]/\cu I (.agg #[sD a k n.cond,rD n.cond]) n.cond/\Sl aW I vk n.kids/\oU vk:=by
 obtain⟨d,h⟩:=h;cases d with
 |zero=>exact h.elim
 |succ d=>
  obtain⟨vk,a,k,e,h1,h2,h3⟩:=h;exact⟨vk,a,k,e,h1,h2.monoR fun _ _ h=>⟨d,h⟩,h3⟩
theorem aW.le{I J:PH}{c:List Value}{n:Nd}(h:aW I c n)(aa:I.le J):aW J c n:=by obtain⟨d,h⟩:=h;exact⟨d,h.le aa⟩
theorem aW.len{I:PH}(c:List Value)(n:Nd)(h:aW I c n):c.length=7:=by obtain⟨vk,a,k,e,_⟩:=h.shape;rw[e];rfl
abbrev br(I A:PH)(v:Value)(l:List Nd):Prop:=Ow aW 60 7 I A v l
abbrev db(I:PH)(v:Value)(l:List Nd):Prop:=Sl aW I v l
theorem br.le{I J A:PH}{v:Value}{l:List Nd}(h:br I A v l)(aa:I.le J):br J A v l:=Ow.le (R:=aW) (fun{I J c a} h k=>aW.le h k) h aa
abbrev Uk:=@br.le
theorem db.le{I J:PH}{v:Value}{l:List Nd}(h:db I v l)(aa:I.le J):db J v l:=Sl.le (R:=aW) (fun{I J c a} h k=>aW.le h k) h aa
theorem du.le{I J:PH}{v:Value}{l:ah}(h:du I v l)(aa:I.le J):du J v l:=Sl.le (R:=fP) (fun{I J c a} h k=>fP.le h k) h aa
theorem m9.le{I J:PH}{v:Value}{l:List ay}(h:m9 I v l)(aa:I.le J):m9 J v l:=Sl.le (R:=jA) (fun{I J c a} h k=>jA.le h k) h aa
def uh(a:Option Addr)(k:Nat)(h:ay):Value:=.agg #[iv h.at',sD a k h.cond,rD h.cond,.int .u8 h.kind,.string ⟨⟨h.text⟩⟩]
def PP(pb:Nat)(lv fv ov:Value)(o:Nat)(e:List bX)(Φ:Value->PH->List PH->Prop):Value->PH->List PH->Prop:=
 fun v I2 qs=>∃dv2 D2 rs,qs=sg pb (bD lv fv ov dv2 o)::D2::rs/\dl I2 D2 dv2 e/\Φ v I2 rs
abbrev pY:Nat:=2^40
theorem kN{I D:PH}{pb:Nat}{ts:List Tok}{lv fv ov dv:Value}{o:Nat}{h:ay}{a:Option Addr}{k code:Nat}{e:List bX}(hp:vF I ts lv fv)(bx:h.at'<=ts.length)(hr:cu I (.agg #[sD a k h.cond,rD h.cond]) h.cond)(he:dl I D dv e)(hl:e.length+2<=pY):
  aO Tryz.prog 140 #[pt pb,uh a k h,.int .u8 code] I [sg pb (bD lv fv ov dv o),D] (PP pb lv fv ov o (e++bR h code) fun v I2 rs=>rs=[]):=by
 intro hd;have b0:=hp.len;unfold pY at hl;obtain⟨la,lc,rfl,_⟩:=id hp.tok;obtain⟨fa,fc,rfl,_⟩:=id hp.fit;obtain⟨da,dc,rfl⟩:=id he.shape;refine ir 36 Tryz.func140 fun w0=>?_
 try simp only[iv,pt,uh,sD,rD]
 refine Un ?_;refine V8 [7,0,1,2,3,4,5,6,8] [] [] ?_;refine Vk ?_;refine i7 hd [0,1] [_] [D] rfl CF rfl (vS hp bx) fun v I2 qs a5 ba hq=>?_;obtain⟨rfl,rfl,rfl⟩:=hq;simp only[SS,SU]at a5 |-;refine Vk ?_;refine i7 a5 [0,1] [] [sg pb _,D] rfl iy rfl (lE hr (jP I2 false)) fun v I3 qs ao am hq=>?_;obtain⟨rfl,an⟩:=hq;rw[show h.cond.and (.lf false)=ff from Ey hr.1]at an;obtain⟨ya,yk,rfl⟩:=an.shape2;simp only[SS,SU]at ao |-;refine UD ?_;refine aw ?_;refine Up ?_;refine go mixed [0,1,2,3,4,5,6,7,8,9,10,11,12,13,14,15,16,17,18,19,20,21,22] [] [] [4] [15,16,18] (sg pb (bD (.slice la ts.length lc) (.slice fa ts.length fc) ov (.slice da e.length dc) o)) rfl rfl ?_;refine Vk ?_;refine gm (l:=[.slice da e.length dc]) rfl (cw ao) rfl rfl rfl (aU (by simp[bD]) rfl) (.inr ⟨LF,rfl⟩) ?_;refine UD ?_;refine pw ao [0,1] rfl rfl rfl rfl rfl mn (by rfl) (ps:=[]) (F:=[sg pb _,D]) rfl (cw ao) (qK an) fun v I4 qs a1 aj hq=>?_;obtain⟨rfl,a0⟩:=hq;rw[show ff.not=tt from rfl]at a0;obtain⟨za,zk,rfl⟩:=a0.shape2;simp only[SS,SU]at a1 |-;refine UD ?_;refine pw a1 [0,1] rfl rfl rfl rfl rfl iy (by rfl) (ps:=[]) (F:=[sg pb _,D]) rfl (cw a1) (lE (hr.le (Ui am aj)) a0) fun v I5 qs a4 ak hq=>?_;obtain⟨rfl,aS⟩:=hq;rw[show h.cond.and tt=h.cond from Gp hr.1]at aS;obtain⟨xa,xk,rfl⟩:=aS.shape2;simp only[SS,SU]at a4 |-;refine UD ?_;refine aZ a4 (by exact qR) rfl rfl rfl rfl rfl Vm fun nb I6 bd ac a7=>?_;refine UD ?_;refine UT bd [1,0] fun a3=>?_;obtain⟨xs,ap,a9⟩:=he
 refine jt (m:=2) a3 (by exact qR) ap rfl rfl rfl rfl rfl rfl (cellsU a3 (.head _) (az (l:=[.int .u8 12,.int .i64 h.at',.slice ya (T.subs ff).length yk,.int .i64 (T.plc (T.subs ff) ff),.int .u8 code,.int .i64 h.at',.slice xa (T.subs h.cond).length xk,.int .i64 (T.plc (T.subs h.cond) h.cond)]) a7 (by simp[aE,Value.cells]) (by simp[aE,Value.cells]))) rfl rfl Vi (by unfold maxLen;omega) fun v' I7 D2 bc aa a6=>?_;obtain⟨na,nc,rfl⟩:=a6.slice;refine UD ?_;refine UT bc [1,0] fun bb=>?_;refine aH bb rfl rfl rfl rfl rfl rfl (by exact Nw) (by simp) fun a2=>?_;refine UD ?_;refine aw ?_;refine Up ?_;refine eO rfl a2 (r:=[]) rfl (Ui am (Ui aj (Ui ak (Ui ac aa)))) ⟨_,D2,[],rfl,⟨_,a6.xs (by simp[bR]) rfl,?_⟩,rfl⟩;refine LR.app (a9.mono fun _ _ h=>dg.le h (Ui am (Ui aj (Ui ak (Ui ac aa))))) ?_;refine LR.app (l:=[_]) (m:=[_]) (LR.one ?_) (LR.one ?_) (xs:=[_,_,_,_]) (ys:=[_,_,_,_])
 ·exact⟨ya,yk,rfl,an.le (Ui aj (Ui ak (Ui ac aa)))⟩
 ·exact⟨xa,xk,rfl,aS.le (Ui ac aa)⟩
theorem fQ:aP Tryz.prog 203:=⟨_,Tryz.func203,rfl,rfl⟩
def NH(pb:Nat)(s:bM)(vh:Value)(n:Nat)(x:Nat×Value×Value):St:=⟨dn 34 [(0,.v (pt pb)),(2,.v (.string ⟨⟨s⟩⟩)),(7,.v x.2.1),(12,.v vh),(13,.v (iv n)),(14,.v (iv x.1))],[]⟩
def Rg(pb:Nat)(lv fv ov:Value)(o:Nat)(hs:List ay)(s:bM)(e:List bX)(I0:PH)(x:Nat×Value×Value)(H:PH):Prop:=
 ∃I D A,H=U [I,sg pb (bD lv fv ov x.2.2 o),D,A]/\Dj [I,sg pb (bD lv fv ov x.2.2 o),D,A]/\I0.le I/\x.1<=hs.length/\dl I D x.2.2 (e++((hs.take x.1).foldl (eV s) ([],[])).2)/\gP I A x.2.1 ((hs.take x.1).foldl (eV s) ([],[])).1
theorem jA.shape{I:PH}{c:List Value}{h:ay}(k:jA I c h):∃a k,c=[iv h.at',sD a k h.cond,rD h.cond,.int .u8 h.kind,.string ⟨⟨h.text⟩⟩]/\cu I (.agg #[sD a k h.cond,rD h.cond]) h.cond:=k
theorem ii{I D:PH}{pb:Nat}{ts:List Tok}{lv fv ov dv vf:Value}{o:Nat}{f:ah}{s:bM}{e:List bX}(h:vF I ts lv fv)(hf:du I vf f)(fn:FN ts.length f)(hs:s≠[])(he:dl I D dv e)(hm:e.length+(Syn.take ts f s).2.length<=pY):
  aO Tryz.prog 203 #[pt pb,vf,.string ⟨⟨s⟩⟩] I [sg pb (bD lv fv ov dv o),D] (PP pb lv fv ov o (e++(Syn.take ts f s).2) fun v I2 rs=>∃A,rs=[A]/\gP I2 A v (Syn.take ts f s).1):=by
 intro hd;have hl:=h.len;refine ir 34 Tryz.func203 fun w0=>?_
 try simp only[iv,pt]
 refine Un ?_;refine NB hd [0,1] rfl iS rfl (ps:=[sg pb _]) (F:=[D]) rfl (iN h hf fn) fun v I2 qs bb ao hq=>?_;obtain⟨rfl,hH⟩:=hq;obtain⟨ha,hc,rfl,_⟩:=id hH;simp only[SS,SU]at bb |-;refine Uq ?_;rw[pV]at hm |-;have hN:∀x∈bk ts f,iH ts x:=fun x hx=>bz h.ok fn hx;have cc:=dZ h.ok fn;have b6:=hH;generalize bk ts f=ac at *;refine aT bb fun b3=>?_;refine Um b3 [1,2,0] fun b2=>?_;refine aB (fun x=>ac.length-x.1) (NH pb s (.slice ha ac.length hc) ac.length) (Rg pb lv fv ov o ac s e I2) (0,.slice none 0 0,dv) Us (by simp only[go_sem,Tq,NH]) ?_ ?_
 ·exact⟨I2,D,PH.no,rfl,b2,Uj _,S6 _,by simpa using dl.le he ao,Ow.nil _ _ _ _⟩
 rintro⟨i,vat,dv⟩ H ⟨I3,D3,A3,rfl,a4,am,hi,hE,hA⟩ an;simp only at hi hE hA;simp only[NH];have b5:m9 I3 (.slice ha ac.length hc) ac:=b6.le am;have a6:FN ts.length ((ac.take i).foldl (eV s) ([],[])).1:=zC hs fun x hx=>hN x (TA hx);have ci:=a6.len;rcases Sw i ac.length with a5|cf
 ·have a9:decide ((i:Int)<(ac.length:Int))=true:=by simp;omega
  have e1:=wrap64 (n:=i+1) Vi;have bc:IntKind.i64.wrap ((i:Int)+1)=((i+1:Nat):Int):=by rw[<-e1];congr 1
  obtain⟨x,hx⟩:∃x,ac[i]?=some x:=⟨_,SC a5⟩;have bd:=Tg hx;have ba:=hN x bd;obtain⟨b,off,cs,rfl,b4,a2⟩:=b5.load jA.len hx;obtain⟨xa,xk,rfl,a0⟩:=b4;have aj:=cE (g:=eV s) (z:=([],[])) hx;have ap:=kK (g:=eV s) (fun r=>r.2.length) (fun z y=>by unfold eV;split<;>simp) ac (i+1) ([],[]);rw[aj]at ap;apply RG;simp only[go_sem,a9,iv,pt];refine⟨Vi,?_⟩;refine Qz (l:=[iv x.at',sD xa xk x.cond,rD x.cond,.int .u8 x.kind,.string ⟨⟨x.text⟩⟩]) (v:=.agg #[iv x.at',sD xa xk x.cond,rD x.cond,.int .u8 x.kind,.string ⟨⟨x.text⟩⟩]) rfl (cellsU a4 (.head _) a2) (.inl ⟨eS,rfl⟩) ?_;by_cases aS:x.text=s
  ·have a3:(x.text == s)=true:=by simpa using aS
   have aa:(ac.take (i+1)).foldl (eV s) ([],[])=(Syn.join ((ac.take i).foldl (eV s) ([],[])).1 (x.at'+1) x.cond,((ac.take i).foldl (eV s) ([],[])).2):=by rw[aj];simp[eV,aS]
   have bx:=ba.lt (.inl (by rw[aS];exact hs));have e2:=wrap64 (n:=x.at'+1) Vi;have cb:IntKind.i64.wrap ((x.at':Int)+1)=((x.at'+1:Nat):Int):=by rw[<-e2];congr 1
   obtain⟨ta,tc,rfl⟩:=hA.shape;apply RG;simp only[go_sem,a3,iv,pt,sD,rD,Ud,cb];refine f6 a4 [2,0,1] [A3] [sg pb _,D3] rfl df rfl (bo (a:=x.at'+1) hA a0 a6.ok.2 (fun t ht=>by have:=a6.le t ht;omega) Vi Vi) fun v I4 qs a1 ak hq=>?_;obtain⟨A4,rfl,a7⟩:=hq;obtain⟨ta2,tc2,rfl⟩:=a7.shape;simp only[SS,SU]at a1 |-;apply RG;simp only[go_sem,a3,iv,pt,sD,rD,bc];refine Um a1 [1,2,0] fun b1=>?_;rw[show Syn.join ((ac.take i).foldl (eV s) ([],[])).1 (x.at'+1) x.cond=((ac.take (i+1)).foldl (eV s) ([],[])).1 from by rw[aa]]at a7 |-;exact an (i+1,.slice ta2 _ tc2,dv) _ _ V9 Us (by simp only[go_sem,Tq,NH]) ⟨I4,D3,A4,rfl,b1,Ui am ak,a5,by simp only;rw[aa];exact hE.le ak,a7⟩
  ·have a3:(x.text == s)=false:=by simpa using aS
   have aa:(ac.take (i+1)).foldl (eV s) ([],[])=(((ac.take i).foldl (eV s) ([],[])).1,((ac.take i).foldl (eV s) ([],[])).2++bR x 10):=by rw[aj];simp[eV,aS]
   apply RG;simp only[go_sem,a3,iv,pt,sD,rD,T7];refine f6 a4 [0,1,2] [sg pb _,D3] [A3] rfl iJ rfl (kN (h.le (Ui ao am)) ba.le a0 hE (by rw[<-aj,aa]at ap;simp[bR]at ap |-;omega)) fun v I4 qs a1 ak hq=>?_;obtain⟨dv2,D4,rs,rfl,ca,rfl⟩:=hq;simp only[SS,SU]at a1 |-;apply RG;simp only[go_sem,a3,iv,pt,sD,rD,bc];exact an (i+1,vat,dv2) _ _ V9 Us (by simp only[go_sem,Tq,NH]) ⟨I4,D4,A3,rfl,a1,Ui am ak,a5,by simp only;rw[aa,<-Te];exact ca,by simp only;rw[aa];exact Ow.le (R:=fP) (fun{I J c a} h k=>fP.le h k) hA ak⟩
 ·have b0:i=ac.length:=by omega
  subst b0;have a9:=Z6 ac.length;rw[Td]at hE hA;apply RG;simp only[go_sem,a9,iv,pt];refine ai rfl a4 (r:=[_]) rfl (Ui ao am) ⟨_,D3,[A3],rfl,hE,A3,rfl,hA⟩
theorem gX:aP Tryz.prog 221:=⟨_,Tryz.func221,rfl,rfl⟩
theorem JC:aP Tryz.prog 259:=⟨_,Tryz.func259,rfl,rfl⟩
theorem gy:aP Tryz.prog 260:=⟨_,Tryz.func260,rfl,rfl⟩
theorem gz:aP Tryz.prog 262:=⟨_,Tryz.func262,rfl,rfl⟩
theorem HO:aP Tryz.prog 290:=⟨_,Tryz.func290,rfl,rfl⟩
theorem Hn{H:PH}{s:bM}:bv Tryz.prog 259 #[.string ⟨⟨s⟩⟩] H fun v H2=>v=.bool (dz s)/\H2=H:=by
 refine ir 18 Tryz.func259 fun w0=>?_;cases h0:(s == [118,97,114])
 rotate_left
 ·apply RG;simp only[go_sem,h0];exact aK (r:=[.bool true]) rfl ⟨by rw[show dz s=true from by rw[eq_of_beq h0];decide];rfl,rfl⟩
 cases h1:(s == [102,110])
 rotate_left
 ·apply RG;simp only[go_sem,h0,h1];exact aK (r:=[.bool true]) rfl ⟨by rw[show dz s=true from by rw[eq_of_beq h1];decide];rfl,rfl⟩
 cases h2:(s == [105,110,116])
 rotate_left
 ·apply RG;simp only[go_sem,h0,h1,h2];exact aK (r:=[.bool true]) rfl ⟨by rw[show dz s=true from by rw[eq_of_beq h2];decide];rfl,rfl⟩
 cases h3:(s == [98,111,111,108])
 rotate_left
 ·apply RG;simp only[go_sem,h0,h1,h2,h3];exact aK (r:=[.bool true]) rfl ⟨by rw[show dz s=true from by rw[eq_of_beq h3];decide];rfl,rfl⟩
 cases h4:(s == [105,102])
 rotate_left
 ·apply RG;simp only[go_sem,h0,h1,h2,h3,h4];exact aK (r:=[.bool true]) rfl ⟨by rw[show dz s=true from by rw[eq_of_beq h4];decide];rfl,rfl⟩
 cases h5:(s == [101,108,115,101])
 rotate_left
 ·apply RG;simp only[go_sem,h0,h1,h2,h3,h4,h5];exact aK (r:=[.bool true]) rfl ⟨by rw[show dz s=true from by rw[eq_of_beq h5];decide];rfl,rfl⟩
 cases h6:(s == [119,104,105,108,101])
 rotate_left
 ·apply RG;simp only[go_sem,h0,h1,h2,h3,h4,h5,h6];exact aK (r:=[.bool true]) rfl ⟨by rw[show dz s=true from by rw[eq_of_beq h6];decide];rfl,rfl⟩
 cases h7:(s == [114,101,116,117,114,110])
 rotate_left
 ·apply RG;simp only[go_sem,h0,h1,h2,h3,h4,h5,h6,h7];exact aK (r:=[.bool true]) rfl ⟨by rw[show dz s=true from by rw[eq_of_beq h7];decide];rfl,rfl⟩
 cases h8:(s == [112,114,105,110,116])
 rotate_left
 ·apply RG;simp only[go_sem,h0,h1,h2,h3,h4,h5,h6,h7,h8];exact aK (r:=[.bool true]) rfl ⟨by rw[show dz s=true from by rw[eq_of_beq h8];decide];rfl,rfl⟩
 cases h9:(s == [97,115,115,101,114,116])
 rotate_left
 ·apply RG;simp only[go_sem,h0,h1,h2,h3,h4,h5,h6,h7,h8,h9];exact aK (r:=[.bool true]) rfl ⟨by rw[show dz s=true from by rw[eq_of_beq h9];decide];rfl,rfl⟩
 cases aa:(s == [116,114,117,101])
 rotate_left
 ·apply RG;simp only[go_sem,h0,h1,h2,h3,h4,h5,h6,h7,h8,h9,aa];exact aK (r:=[.bool true]) rfl ⟨by rw[show dz s=true from by rw[eq_of_beq aa];decide];rfl,rfl⟩
 cases ac:(s == [102,97,108,115,101])
 rotate_left
 ·apply RG;simp only[go_sem,h0,h1,h2,h3,h4,h5,h6,h7,h8,h9,aa,ac];exact aK (r:=[.bool true]) rfl ⟨by rw[show dz s=true from by rw[eq_of_beq ac];decide];rfl,rfl⟩
 cases aj:(s == [114,101,97,100])
 rotate_left
 ·apply RG;simp only[go_sem,h0,h1,h2,h3,h4,h5,h6,h7,h8,h9,aa,ac,aj];exact aK (r:=[.bool true]) rfl ⟨by rw[show dz s=true from by rw[eq_of_beq aj];decide];rfl,rfl⟩
 apply RG;simp only[go_sem,h0,h1,h2,h3,h4,h5,h6,h7,h8,h9,aa,ac,aj];exact aK (r:=[.bool false]) rfl ⟨by rw[show dz s=false from by simp only[dz,List.contains_cons,rg,MC,AI,sB,ny,ip,nK,lh,n8,fe,qv,oe,tj,h0,h1,h2,h3,h4,h5,h6,h7,h8,h9,aa,ac,aj,Bool.or_self];rfl];rfl,rfl⟩
theorem ke{I D:PH}{pb:Nat}{ts:List Tok}{lv fv ov dv:Value}{h:ay}{a:Option Addr}{k:Nat}{e:List bX}(hp:vF I ts lv fv)(aj:h.at'<=ts.length)(hr:cu I (.agg #[sD a k h.cond,rD h.cond]) h.cond)(he:dl I D dv e)(hl:e.length+2<=pY):
  aO Tryz.prog 262 #[pt pb,uh a k h] I [sg pb (bD lv fv ov dv 64),D] (PP pb lv fv ov 64 (e++bR h 11) fun v I2 rs=>rs=[]/\v=.bool false):=by
 intro hd;refine ir 20 Tryz.func262 fun w0=>?_
 try simp only[iv,pt,uh]
 refine Un ?_;refine Qz (l:=[.int .i64 64]) rfl (cellsU hd (.tail _ (.head _)) (aU (by simp[bD]) rfl)) (.inr ⟨mF,rfl⟩) ?_;apply RG;simp only[go_sem,iv,pt,BEq.rfl];refine f6 hd [0,1] [sg pb _,D] [] rfl iJ rfl (kN hp aj hr he hl) fun v I4 qs ac aa hq=>?_;obtain⟨dv2,D4,rs,rfl,ak,rfl⟩:=hq;simp only[SS,SU,Tq]at ac |-;refine Uz ?_;exact ai rfl ac (r:=[_]) rfl aa ⟨_,D4,[],rfl,ak,rfl,rfl⟩
theorem iV{I:PH}{pb:Nat}{lv fv ov dv:Value}{h:ay}{a:Option Addr}{k o:Nat}(ho:o<64):
  aO Tryz.prog 262 #[pt pb,uh a k h] I [sg pb (bD lv fv ov dv o)] fun v I2 qs=>qs=[sg pb (bD lv fv ov dv (o+1))]/\I2=I/\v=.bool true:=by
 intro hd;have h9:((o:Int) == 64)=false:=by simp;omega
 have e1:=wrap64 (n:=o+1) Vi;have ac:IntKind.i64.wrap ((o:Int)+1)=((o+1:Nat):Int):=by rw[<-e1];congr 1
 refine ir 20 Tryz.func262 fun w0=>?_
 try simp only[iv,pt,uh]
 refine Un ?_;refine Qz (l:=[.int .i64 o]) rfl (cellsU hd (.tail _ (.head _)) (aU (by simp[bD]) rfl)) (.inr ⟨mF,rfl⟩) ?_;apply RG;simp only[go_sem,iv,pt,h9];refine Qz (l:=[.int .i64 o]) rfl (cellsU hd (.tail _ (.head _)) (aU (by simp[bD]) rfl)) (.inr ⟨mF,rfl⟩) ?_;apply RG;simp only[go_sem,iv,pt,ac];refine cG hd rfl rfl rfl rfl rfl (by exact Gn) (by simp) fun aa=>?_;refine Uz ?_;exact ai rfl aa (r:=[_]) rfl (Uj _) ⟨rfl,rfl,rfl⟩
def Es(I:PH)(v:Value)(is:ay->Bool):Prop:=∃f first cap,v=.func (.func f) first cap/\aP Tryz.prog f/\∀J,I.le J->∀(h:ay) (a:Option Addr) (k:Nat),cu J (.agg #[sD a k h.cond,rD h.cond]) h.cond->aO Tryz.prog f (first++[uh a k h].toArray++cap) J [] fun v I2 qs=>qs=[]/\v=.bool (is h)
theorem Es.le{I J:PH}{v:Value}{is:ay->Bool}(h:Es I v is)(aa:I.le J):Es J v is:=by
 obtain⟨f,a,b,e,g,k⟩:=h;exact⟨f,a,b,e,g,fun K hk=>k K (Ui aa hk)⟩
theorem Gz{H:PH}{b:Nat}{s:bM}(hb:aQ H b 0 [.string ⟨⟨s⟩⟩]){h:ay}{a:Option Addr}{k:Nat}:bv Tryz.prog 290 #[uh a k h,pt b] H fun v H2=>v=.bool (bj s h)/\H2=H:=by
 refine ir 8 Tryz.func290 fun w0=>?_
 try simp only[uh,iv,pt]
 refine Un ?_;refine Qz (l:=[.string ⟨⟨s⟩⟩]) rfl hb (.inr ⟨rz,rfl⟩) ?_;refine Uz ?_;refine aK (r:=[.bool (h.text == s)]) rfl ⟨?_,rfl⟩;show Value.bool (h.text == s)=Value.bool (bj s h);unfold bj;congr 1;by_cases e:h.text=s
 ·subst e;simp
 ·simp[e]
theorem iz{I:PH}{s:bM}:aO Tryz.prog 260 #[.string ⟨⟨s⟩⟩] I [] fun v I2 qs=>qs=[]/\Es I2 v (bj s):=by
 intro hd;refine ir 4 Tryz.func260 fun w0=>?_;apply bq 4;simp only[go_sem];refine eP 1 hd rfl fun b aj=>?_;refine ag (c:=.st _) aj fun I2 ac aa ak=>?_;apply RG;simp only[go_sem,kE,List.map];refine ai rfl ac (r:=[.func (.func 290) #[] #[pt b]]) rfl aa ⟨rfl,290,#[],#[pt b],rfl,HO,fun J hJ h a k hr=>bv.toI ((Gz (H:=J) (b:=b) (s:=s) ?_).mono fun v H2 ⟨e1,e2⟩=>⟨by rw[e2];exact Uj _,e1⟩)⟩;exact((aU (by simp) rfl:aQ (sg b (.cells [Value.string ⟨⟨s⟩⟩].toArray 9 (0,0))) b 0 [.string ⟨⟨s⟩⟩]).le ak).le hJ
def N9(pb:Nat)(vi:Value)(vh:Value)(n:Nat)(x:Nat×Value×Value):St:=⟨dn 34 [(0,.v (pt pb)),(2,.v vi),(6,.v x.2.1),(7,.v x.2.2),(12,.v vh),(13,.v (iv n)),(14,.v (iv x.1))],[]⟩
abbrev L4(I A:PH)(v:Value)(l:List ay):Prop:=Ow jA 227 5 I A v l
def RW(pb:Nat)(rc:Obj)(hs:List ay)(is:ay->Bool)(I0:PH)(x:Nat×Value×Value)(H:PH):Prop:=
 ∃I A B,H=U [I,sg pb rc,A,B]/\Dj [I,sg pb rc,A,B]/\I0.le I/\x.1<=hs.length/\L4 I A x.2.1 ((hs.take x.1).foldl (dX is) ([],[])).1/\gP I B x.2.2 ((hs.take x.1).foldl (dX is) ([],[])).2
theorem gP.le{I J A:PH}{v:Value}{l:ah}(h:gP I A v l)(aa:I.le J):gP J A v l:=Ow.le (R:=fP) (fun{I J c a} h k=>fP.le h k) h aa
theorem L4.le{I J A:PH}{v:Value}{l:List ay}(h:L4 I A v l)(aa:I.le J):L4 J A v l:=Ow.le (R:=jA) (fun{I J c a} h k=>jA.le h k) h aa
theorem gT{I:PH}{pb:Nat}{ts:List Tok}{lv fv ov dv vf vi:Value}{o:Nat}{f:ah}{is:ay->Bool}(h:vF I ts lv fv)(hf:du I vf f)(fn:FN ts.length f)(hi:Es I vi is):
  aO Tryz.prog 221 #[pt pb,vf,vi] I [sg pb (bD lv fv ov dv o)] fun v I2 qs=>∃A B va vb,qs=[sg pb (bD lv fv ov dv o),A,B]/\v=.tuple #[va,vb]/\L4 I2 A va (aC ts f is).1/\gP I2 B vb (aC ts f is).2:=by
 intro hd;have hl:=h.len;refine ir 34 Tryz.func221 fun w0=>?_
 try simp only[iv,pt]
 refine Un ?_;refine NB hd [0] rfl iS rfl (ps:=[sg pb _]) (F:=[]) rfl (iN h hf fn) fun v I2 qs b2 a0 hq=>?_;obtain⟨rfl,hH⟩:=hq;obtain⟨ha,hc,rfl,_⟩:=id hH;simp only[SS,SU]at b2 |-;refine Uq ?_;rw[tX];have hN:∀x∈bk ts f,iH ts x:=fun x hx=>bz h.ok fn hx;have cx:=dZ h.ok fn;have cr:=hH;generalize bk ts f=ac at *;refine aT b2 fun cm=>?_;refine aT cm fun cl=>?_;refine Um cl [2,0,1] fun cj=>?_;refine aB (fun x=>ac.length-x.1) (N9 pb vi (.slice ha ac.length hc) ac.length) (RW pb (bD lv fv ov dv o) ac is I2) (0,.slice none 0 0,.slice none 0 0) Us (by simp only[go_sem,Tq,N9]) ?_ ?_
 ·exact⟨I2,PH.no,PH.no,rfl,cj,Uj _,S6 _,Ow.nil _ _ _ _,Ow.nil _ _ _ _⟩
 rintro⟨i,va,vb⟩ H ⟨I3,A3,B3,rfl,bb,ak,cf,hA,hB⟩ ap;simp only at cf hA hB;simp only[N9];have cp:m9 I3 (.slice ha ac.length hc) ac:=cr.le ak;have b0:FN ts.length ((ac.take i).foldl (dX is) ([],[])).2:=vP fun x hx=>hN x (TA hx);have cA:=b0.len;rcases Sw i ac.length with a9|cy
 ·have a7:decide ((i:Int)<(ac.length:Int))=true:=by simp;omega
  have e1:=wrap64 (n:=i+1) Vi;have b4:IntKind.i64.wrap ((i:Int)+1)=((i+1:Nat):Int):=by rw[<-e1];congr 1
  obtain⟨x,hx⟩:∃x,ac[i]?=some x:=⟨_,SC a9⟩;have b5:=Tg hx;have ca:=hN x b5;obtain⟨b,off,cs,rfl,cn,a2⟩:=cp.load jA.len hx;obtain⟨xa,xk,rfl,aS⟩:=cn;have ao:=cE (g:=dX is) (z:=([],[])) hx;obtain⟨fi,first,cap,rfl,gi,ci⟩:=id hi;have ct:=tq (is:=is) (ac.take i) ([],[]);simp only[S9,T1]at ct;apply RG;simp only[go_sem,a7,iv,pt];refine⟨Vi,?_⟩;refine Qz (l:=[iv x.at',sD xa xk x.cond,rD x.cond,.int .u8 x.kind,.string ⟨⟨x.text⟩⟩]) (v:=.agg #[iv x.at',sD xa xk x.cond,rD x.cond,.int .u8 x.kind,.string ⟨⟨x.text⟩⟩]) rfl (cellsU bb (.head _) a2) (.inl ⟨eS,rfl⟩) ?_;apply RG;simp only[go_sem,a7,iv,pt,sD,rD];refine f6 bb [0,1,2] [] [sg pb _,A3,B3] rfl gi rfl (ci I3 (Ui a0 ak) x xa xk aS) fun v I4 qs ba aj hq=>?_;obtain⟨rfl,rfl⟩:=hq;simp only[SS,SU]at ba |-;cases a4:is x
  ·have aa:(ac.take (i+1)).foldl (dX is) ([],[])=(((ac.take i).foldl (dX is) ([],[])).1,Syn.join ((ac.take i).foldl (dX is) ([],[])).2 x.at' x.cond):=by rw[ao];simp[dX,a4]
   obtain⟨ta,tc,rfl⟩:=hB.shape;have b6:=ca.le;apply RG;simp only[go_sem,iv,pt,a4,sD,rD];refine f6 ba [2,0,1] [B3] [sg pb _,A3] rfl df rfl (bo (a:=x.at') (hB.le aj) (aS.le aj) b0.ok.2 (fun t ht=>by have:=b0.le t ht;omega) Vi Vi) fun v I5 qs a6 am hq=>?_;obtain⟨B4,rfl,b1⟩:=hq;obtain⟨ta2,tc2,rfl⟩:=b1.shape;simp only[SS,SU]at a6 |-;apply RG;simp only[go_sem,iv,pt,sD,rD,b4];refine Um a6 [1,2,0] fun a5=>?_;rw[show Syn.join ((ac.take i).foldl (dX is) ([],[])).2 x.at' x.cond=((ac.take (i+1)).foldl (dX is) ([],[])).2 from by rw[aa]]at b1 |-;exact ap (i+1,va,.slice ta2 _ tc2) _ _ V9 Us (by simp only[go_sem,Tq,N9]) ⟨I5,A3,B4,rfl,a5,Ui ak (Ui aj am),a9,by simp only;rw[aa];exact hA.le (Ui aj am),b1⟩
  ·have aa:(ac.take (i+1)).foldl (dX is) ([],[])=(((ac.take i).foldl (dX is) ([],[])).1++[x],((ac.take i).foldl (dX is) ([],[])).2):=by rw[ao];simp[dX,a4]
   obtain⟨ta,tc,rfl⟩:=hA.shape;apply RG;simp only[go_sem,iv,pt,a4,sD,rD];refine av ba (by exact qk) rfl rfl rfl rfl rfl Vm fun nb I8 a6 am cb=>?_;refine Up ?_;refine Um a6 [1,0,2] fun a5=>?_;obtain⟨bs,a3,bx⟩:=hA;refine dr (m:=1) a5 (by exact qk) a3 rfl rfl rfl rfl (cellsU a5 (.head _) (az (l:=[iv x.at',.slice xa (T.subs x.cond).length xk,iv (T.plc (T.subs x.cond) x.cond),.int .u8 x.kind,.string ⟨⟨x.text⟩⟩]) cb (by simp[aE,Value.cells]) (by simp[aE,Value.cells,iv]))) rfl rfl Vi (by unfold maxLen;omega) fun v' I9 A2 bd a1 b3=>?_;obtain⟨na,nc,rfl⟩:=b3.slice;apply RG;simp only[go_sem,iv,pt,b4];refine Um bd [1,0,2] fun bc=>?_;have an:=Ui aj (Ui am a1);refine ap (i+1,.slice na (((ac.take i).foldl (dX is) ([],[])).1.length+1) nc,vb) _ _ V9 Us (by simp only[go_sem,Tq,N9]) ⟨I9,A2,B3,rfl,bc,Ui ak an,a9,⟨bs++[iv x.at',.slice xa (T.subs x.cond).length xk,iv (T.plc (T.subs x.cond) x.cond),.int .u8 x.kind,.string ⟨⟨x.text⟩⟩],?_,?_⟩,by simp only;rw[aa];exact hB.le an⟩
   ·simp only;rw[aa];simp only[Tu,S4];exact b3
   ·simp only;rw[aa];exact LR.app (bx.mono fun _ _ h=>jA.le h an) (.one ⟨xa,xk,rfl,aS.le an⟩)
 ·have cc:i=ac.length:=by omega
  subst cc;have a7:=Z6 ac.length;rw[Td]at hA hB;apply RG;simp only[go_sem,a7,iv,pt];exact ai rfl bb (r:=[va,vb]) rfl (Ui a0 ak) ⟨A3,B3,va,vb,rfl,rfl,hA,hB⟩
theorem mC:aP Tryz.prog 201:=⟨_,Tryz.func201,rfl,rfl⟩
theorem wD:aP Tryz.prog 202:=⟨_,Tryz.func202,rfl,rfl⟩
theorem Sl.nil{α:Type}(R:PH->List Value->α->Prop)(I:PH):Sl R I (.slice none 0 0) ([]:List α):=⟨none,0,rfl,.inl rfl⟩
def QV(pb:Nat)(lv fv ov:Value)(o:Nat)(hs:List ay)(F:Syn.bE->ay->Syn.bE)(e:List bX)(I0:PH)(x:Nat×Value×Value×Value)(H:PH):Prop:=
 ∃I D A B,H=U [I,sg pb (bD lv fv ov x.2.2.2 o),D,A,B]/\Dj [I,sg pb (bD lv fv ov x.2.2.2 o),D,A,B]/\I0.le I/\x.1<=hs.length/\dl I D x.2.2.2 (e++((hs.take x.1).foldl F ⟨[],[],[]⟩).e)/\br I A x.2.1 ((hs.take x.1).foldl F ⟨[],[],[]⟩).l/\gP I B x.2.2.1 ((hs.take x.1).foldl F ⟨[],[],[]⟩).f
def RN(r:Syn.bE):Value->PH->List PH->Prop:=fun v I2 rs=>∃A B va vb,rs=[A,B]/\v=.tuple #[va,vb]/\br I2 A va r.l/\gP I2 B vb r.f
def MZ(pb kind slot:Nat)(vh:Value)(n:Nat)(x:Nat×Value×Value×Value):St:=⟨dn 55 [(0,.v (pt pb)),(2,.v (.int .u8 kind)),(3,.v (iv slot)),(10,.v x.2.1),(11,.v x.2.2.1),(16,.v vh),(17,.v (iv n)),(18,.v (iv x.1))],[]⟩
theorem Ju{I D:PH}{pb:Nat}{ts:List Tok}{lv fv ov dv vf:Value}{o kind slot:Nat}{f:ah}{e:List bX}(h:vF I ts lv fv)(hf:du I vf f)(fn:FN ts.length f)(he:dl I D dv e)(hm:e.length+(named ts f kind slot).e.length<=pY):
  aO Tryz.prog 201 #[pt pb,vf,.int .u8 kind,iv slot] I [sg pb (bD lv fv ov dv o),D] (PP pb lv fv ov o (e++(named ts f kind slot).e) (RN (named ts f kind slot))):=by
 intro hd;have hl:=h.len;refine ir 55 Tryz.func201 fun w0=>?_
 try simp only[iv,pt]
 refine Un ?_;refine NB hd [0,1] rfl iS rfl (ps:=[sg pb _]) (F:=[D]) rfl (iN h hf fn) fun v I2 qs b4 aS hq=>?_;obtain⟨rfl,hH⟩:=hq;obtain⟨ha,hc,rfl,_⟩:=id hH;simp only[SS,SU]at b4 |-;refine Uq ?_;rw[jn]at hm |-;have hN:∀x∈bk ts f,iH ts x:=fun x hx=>bz h.ok fn hx;have cA:=dZ h.ok fn;have ct:=hH;generalize bk ts f=ac at *;refine aT b4 fun cn=>?_;refine aT cn fun cm=>?_;refine Um cm [2,3,0,1] fun cl=>?_;refine aB (fun x=>ac.length-x.1) (MZ pb kind slot (.slice ha ac.length hc) ac.length) (QV pb lv fv ov o ac (bN kind slot) e I2) (0,.slice none 0 0,.slice none 0 0,dv) Us (by simp only[go_sem,Tq,MZ]) ?_ ?_
 ·exact⟨I2,D,PH.no,PH.no,rfl,cl,Uj _,S6 _,by simpa using dl.le he aS,Ow.nil _ _ _ _,Ow.nil _ _ _ _⟩
 rintro⟨i,va,vb,dv⟩ H ⟨I3,D3,A3,B3,rfl,a5,am,ci,hE,hA,hB⟩ an;simp only at ci hE hA hB;simp only[MZ];have cr:m9 I3 (.slice ha ac.length hc) ac:=ct.le am;have bx:FN ts.length ((ac.take i).foldl (bN kind slot) ⟨[],[],[]⟩).f:=vV fun x hx=>hN x (TA hx);have c0:=bx.len;rcases Sw i ac.length with ba|cB
 ·have a9:decide ((i:Int)<(ac.length:Int))=true:=by simp;omega
  have e1:=wrap64 (n:=i+1) Vi;have b2:IntKind.i64.wrap ((i:Int)+1)=((i+1:Nat):Int):=by rw[<-e1];congr 1
  obtain⟨x,hx⟩:∃x,ac[i]?=some x:=⟨_,SC ba⟩;have ca:=Tg hx;have bb:=hN x ca;obtain⟨b,off,cs,rfl,cp,a7⟩:=cr.load jA.len hx;obtain⟨xa,xk,rfl,ap⟩:=cp;have ak:=cE (g:=bN kind slot) (z:=⟨[],[],[]⟩) hx;have ao:=kK (g:=bN kind slot) (fun r=>r.e.length) (fun z y=>by unfold bN;split<;>simp) ac (i+1) ⟨[],[],[]⟩;rw[ak]at ao;have cx:=nB (kind:=kind) (slot:=slot) (ac.take i) ⟨[],[],[]⟩;simp only[S9,T1]at cx;apply RG;simp only[go_sem,a9,iv,pt];refine⟨Vi,?_⟩;refine Qz (l:=[iv x.at',sD xa xk x.cond,rD x.cond,.int .u8 x.kind,.string ⟨⟨x.text⟩⟩]) (v:=.agg #[iv x.at',sD xa xk x.cond,rD x.cond,.int .u8 x.kind,.string ⟨⟨x.text⟩⟩]) rfl (cellsU a5 (.head _) a7) (.inl ⟨eS,rfl⟩) ?_;by_cases hk:x.kind=1
  ·have b1:((x.kind:Int) != 1)=false:=by simp[hk]
   apply RG;simp only[go_sem,a9,iv,pt,sD,rD,b1,Ud,T7];refine Pf rfl JC Hn fun v H2 hv=>?_;obtain⟨rfl,rfl⟩:=hv;cases hw:dz x.text
   ·refine Up ?_;have aa:(ac.take (i+1)).foldl (bN kind slot) ⟨[],[],[]⟩=⟨((ac.take i).foldl (bN kind slot) ⟨[],[],[]⟩).l++[⟨kind,x.text,x.at',slot,[],x.cond⟩],Syn.join ((ac.take i).foldl (bN kind slot) ⟨[],[],[]⟩).f (x.at'+1) x.cond,((ac.take i).foldl (bN kind slot) ⟨[],[],[]⟩).e⟩:=by rw[ak];unfold bN;rw[Sb (by simp[hk,hw])]
    have cb:=bb.lt (.inr Vi);have e2:=wrap64 (n:=x.at'+1) Vi;have cy:IntKind.i64.wrap ((x.at':Int)+1)=((x.at'+1:Nat):Int):=by rw[<-e2];congr 1
    refine av a5 (by exact cT) rfl rfl rfl rfl rfl Vm fun nb I4 a3 aj cc=>?_;refine Up ?_;refine Um a3 [2,0,1,3] fun b3=>?_;obtain⟨bs,a1,bd⟩:=hA;obtain⟨xsa,xsc,rfl⟩:=a1.slice;refine dr (m:=1) b3 (by exact cT) a1 rfl rfl rfl rfl (cellsU b3 (.head _) (az (l:=[.int .u8 kind,.string ⟨⟨x.text⟩⟩,.int .i64 x.at',.int .i64 slot,.slice none 0 0,.slice xa (T.subs x.cond).length xk,iv (T.plc (T.subs x.cond) x.cond)]) cc (by simp[aE,Value.cells]) (by simp[aE,Value.cells,iv]))) rfl rfl Vi (by unfold maxLen;omega) fun v' I5 A4 cj a2 b6=>?_;obtain⟨na,nc,rfl⟩:=b6.slice;obtain⟨ta,tc,rfl⟩:=hB.shape;apply RG;simp only[go_sem,iv,pt,sD,rD,cy];refine f6 cj [3,1,2,0] [B3] [sg pb _,D3,A4] rfl df rfl (bo (a:=x.at'+1) (hB.le (Ui aj a2)) (ap.le (Ui aj a2)) bx.ok.2 (fun t ht=>by have:=bx.le t ht;omega) Vi Vi) fun v I6 qs a6 a4 hq=>?_;obtain⟨B4,rfl,b5⟩:=hq;obtain⟨ta2,tc2,rfl⟩:=b5.shape;simp only[SS,SU]at a6 |-;apply RG;simp only[go_sem,iv,pt,sD,rD,b2];refine Um a6 [1,2,3,0] fun bc=>?_;have a0:=Ui aj (Ui a2 a4);refine an (i+1,.slice na (((ac.take i).foldl (bN kind slot) ⟨[],[],[]⟩).l.length+1) nc,.slice ta2 (Syn.join ((ac.take i).foldl (bN kind slot) ⟨[],[],[]⟩).f (x.at'+1) x.cond).length tc2,dv) _ _ V9 Us (by simp only[go_sem,Tq,MZ]) ⟨I6,D3,A4,B4,rfl,bc,Ui am a0,ba,by simp only;rw[aa];exact hE.le a0,⟨bs++[.int .u8 kind,.string ⟨⟨x.text⟩⟩,.int .i64 x.at',.int .i64 slot,.slice none 0 0,.slice xa (T.subs x.cond).length xk,iv (T.plc (T.subs x.cond) x.cond)],?_,?_⟩,by simp only;rw[aa];exact b5⟩
    ·simp only;rw[aa];simp only[Tu,S4];exact b6
    ·simp only;rw[aa];exact LR.app (bd.mono fun _ _ h=>aW.le h a0) (.one (aW.mk (n:=⟨kind,x.text,x.at',slot,[],x.cond⟩) (ap.le a0) (Sl.nil _ _) jq))
   ·refine Up ?_;have aa:(ac.take (i+1)).foldl (bN kind slot) ⟨[],[],[]⟩={ ((ac.take i).foldl (bN kind slot) ⟨[],[],[]⟩)with e:=((ac.take i).foldl (bN kind slot) ⟨[],[],[]⟩).e++bR x 10 }:=by rw[ak];unfold bN;rw[SI (.inr hw)]
    refine f6 a5 [0,1,2,3] [sg pb _,D3] [A3,B3] rfl iJ rfl (kN (h.le (Ui aS am)) bb.le ap hE (by rw[<-ak,aa]at ao;simp[bR]at ao |-;omega)) fun v I4 qs a3 aj hq=>?_;obtain⟨dv2,D4,rs,rfl,b0,rfl⟩:=hq;simp only[SS,SU]at a3 |-;apply RG;simp only[go_sem,iv,pt,sD,rD,b2];exact an (i+1,va,vb,dv2) _ _ V9 Us (by simp only[go_sem,Tq,MZ]) ⟨I4,D4,A3,B3,rfl,a3,Ui am aj,ba,by simp only;rw[aa,<-Te];exact b0,by simp only;rw[aa];exact hA.le aj,by simp only;rw[aa];exact hB.le aj⟩
  ·have b1:((x.kind:Int) != 1)=true:=by simp;omega
   apply RG;simp only[go_sem,a9,iv,pt,sD,rD,b1,Ud,T7];have aa:(ac.take (i+1)).foldl (bN kind slot) ⟨[],[],[]⟩={ ((ac.take i).foldl (bN kind slot) ⟨[],[],[]⟩)with e:=((ac.take i).foldl (bN kind slot) ⟨[],[],[]⟩).e++bR x 10 }:=by rw[ak];unfold bN;rw[SI (.inl hk)]
   refine f6 a5 [0,1,2,3] [sg pb _,D3] [A3,B3] rfl iJ rfl (kN (h.le (Ui aS am)) bb.le ap hE (by rw[<-ak,aa]at ao;simp[bR]at ao |-;omega)) fun v I4 qs a3 aj hq=>?_;obtain⟨dv2,D4,rs,rfl,b0,rfl⟩:=hq;simp only[SS,SU]at a3 |-;apply RG;simp only[go_sem,iv,pt,sD,rD,b2];exact an (i+1,va,vb,dv2) _ _ V9 Us (by simp only[go_sem,Tq,MZ]) ⟨I4,D4,A3,B3,rfl,a3,Ui am aj,ba,by simp only;rw[aa,<-Te];exact b0,by simp only;rw[aa];exact hA.le aj,by simp only;rw[aa];exact hB.le aj⟩
 ·have cf:i=ac.length:=by omega
  subst cf;have a9:=Z6 ac.length;rw[Td]at hE hA hB;apply RG;simp only[go_sem,a9,iv,pt];exact ai rfl a5 (r:=[va,vb]) rfl (Ui aS am) ⟨_,D3,[A3,B3],rfl,hE,A3,B3,va,vb,rfl,rfl,hA,hB⟩
def MU(pb slot:Nat)(vh:Value)(n:Nat)(x:Nat×Value×Value×Value):St:=⟨dn 52 [(0,.v (pt pb)),(2,.v (iv slot)),(8,.v x.2.1),(9,.v x.2.2.1),(14,.v vh),(15,.v (iv n)),(16,.v (iv x.1))],[]⟩
theorem IY{I D:PH}{pb:Nat}{ts:List Tok}{lv fv ov dv vf:Value}{o slot:Nat}{f:ah}{e:List bX}(h:vF I ts lv fv)(hf:du I vf f)(fn:FN ts.length f)(he:dl I D dv e)(hm:e.length+(typed ts f slot).e.length<=pY):
  aO Tryz.prog 202 #[pt pb,vf,iv slot] I [sg pb (bD lv fv ov dv o),D] (PP pb lv fv ov o (e++(typed ts f slot).e) (RN (typed ts f slot))):=by
 intro hd;have hl:=h.len;refine ir 52 Tryz.func202 fun w0=>?_
 try simp only[iv,pt]
 refine Un ?_;refine NB hd [0,1] rfl iS rfl (ps:=[sg pb _]) (F:=[D]) rfl (iN h hf fn) fun v I2 qs cb a3 hq=>?_;obtain⟨rfl,hH⟩:=hq;obtain⟨ha,hc,rfl,_⟩:=id hH;simp only[SS,SU]at cb |-;refine Uq ?_;rw[kJ]at hm |-;have hN:∀x∈bk ts f,iH ts x:=fun x hx=>bz h.ok fn hx;have cy:=dZ h.ok fn;have cr:=hH;generalize bk ts f=ac at *;refine aT cb fun cm=>?_;refine aT cm fun cl=>?_;refine Um cl [2,3,0,1] fun cj=>?_;refine aB (fun x=>ac.length-x.1) (MU pb slot (.slice ha ac.length hc) ac.length) (QV pb lv fv ov o ac (bL slot) e I2) (0,.slice none 0 0,.slice none 0 0,dv) Us (by simp only[go_sem,Tq,MU]) ?_ ?_
 ·exact⟨I2,D,PH.no,PH.no,rfl,cj,Uj _,S6 _,by simpa using dl.le he a3,Ow.nil _ _ _ _,Ow.nil _ _ _ _⟩
 rintro⟨i,va,vb,dv⟩ H ⟨I3,D3,A3,B3,rfl,bb,ap,ci,hE,hA,hB⟩ a0;simp only at ci hE hA hB;simp only[MU];have cp:m9 I3 (.slice ha ac.length hc) ac:=cr.le ap;have bd:FN ts.length ((ac.take i).foldl (bL slot) ⟨[],[],[]⟩).f:=vA fun x hx=>hN x (TA hx);have cB:=bd.len;rcases Sw i ac.length with b1|cA
 ·have a9:decide ((i:Int)<(ac.length:Int))=true:=by simp;omega
  have e1:=wrap64 (n:=i+1) Vi;have ca:IntKind.i64.wrap ((i:Int)+1)=((i+1:Nat):Int):=by rw[<-e1];congr 1
  obtain⟨x,hx⟩:∃x,ac[i]?=some x:=⟨_,SC b1⟩;have cc:=Tg hx;have b3:=hN x cc;obtain⟨b,off,cs,rfl,cn,bc⟩:=cp.load jA.len hx;obtain⟨xa,xk,rfl,aS⟩:=cn;have am:=cE (g:=bL slot) (z:=⟨[],[],[]⟩) hx;have a4:=kK (g:=bL slot) (fun r=>r.e.length) (fun z y=>by unfold bL;split<;>simp) ac (i+1) ⟨[],[],[]⟩;rw[am]at a4;have cx:=nD (slot:=slot) (ac.take i) ⟨[],[],[]⟩;simp only[S9,T1]at cx;apply RG;simp only[go_sem,a9,iv,pt];refine⟨Vi,?_⟩;refine Qz (l:=[iv x.at',sD xa xk x.cond,rD x.cond,.int .u8 x.kind,.string ⟨⟨x.text⟩⟩]) (v:=.agg #[iv x.at',sD xa xk x.cond,rD x.cond,.int .u8 x.kind,.string ⟨⟨x.text⟩⟩]) rfl (cellsU bb (.head _) bc) (.inl ⟨eS,rfl⟩) ?_;cases hi:(x.text == [105,110,116])
  ·cases hb:(x.text == [98,111,111,108])
   ·apply RG;simp only[go_sem,a9,iv,pt,sD,rD,hi,hb,Ud,T7];have aa:(ac.take (i+1)).foldl (bL slot) ⟨[],[],[]⟩={ ((ac.take i).foldl (bL slot) ⟨[],[],[]⟩)with e:=((ac.take i).foldl (bL slot) ⟨[],[],[]⟩).e++bR x 10 }:=by rw[am];unfold bL;rw[SI ⟨fun k=>by rw[k]at hi;exact absurd hi Vm,fun k=>by rw[k]at hb;exact absurd hb Vm⟩]
    refine f6 bb [0,1,2,3] [sg pb _,D3] [A3,B3] rfl iJ rfl (kN (h.le (Ui a3 ap)) b3.le aS hE (by rw[<-am,aa]at a4;simp[bR]at a4 |-;omega)) fun v I4 qs a7 aj hq=>?_;obtain⟨dv2,D4,rs,rfl,ct,rfl⟩:=hq;simp only[SS,SU]at a7 |-;apply RG;simp only[go_sem,iv,pt,sD,rD,ca];exact a0 (i+1,va,vb,dv2) _ _ V9 Us (by simp only[go_sem,Tq,MU]) ⟨I4,D4,A3,B3,rfl,a7,Ui ap aj,b1,by simp only;rw[aa,<-Te];exact ct,by simp only;rw[aa];exact hA.le aj,by simp only;rw[aa];exact hB.le aj⟩
   ·apply RG;simp only[go_sem,a9,iv,pt,sD,rD,hi,hb,Ud,T7];have aa:(ac.take (i+1)).foldl (bL slot) ⟨[],[],[]⟩=⟨((ac.take i).foldl (bL slot) ⟨[],[],[]⟩).l++[⟨5,x.text,x.at',slot,[],x.cond⟩],Syn.join ((ac.take i).foldl (bL slot) ⟨[],[],[]⟩).f (x.at'+1) x.cond,((ac.take i).foldl (bL slot) ⟨[],[],[]⟩).e⟩:=by rw[am];unfold bL;rw[Sb (fun k=>k.2 (eq_of_beq hb))]
    have b2:=b3.lt (.inl (by rw[eq_of_beq hb];decide));have e2:=wrap64 (n:=x.at'+1) Vi;have b6:IntKind.i64.wrap ((x.at':Int)+1)=((x.at'+1:Nat):Int):=by rw[<-e2];congr 1
    refine av bb (by exact cT) rfl rfl rfl rfl rfl Vm fun nb I4 a7 aj b4=>?_;refine Up ?_;refine Um a7 [2,0,1,3] fun ba=>?_;obtain⟨bs,an,a6⟩:=hA;obtain⟨xsa,xsc,rfl⟩:=an.slice;refine dr (m:=1) ba (by exact cT) an rfl rfl rfl rfl (cellsU ba (.head _) (az (l:=[.int .u8 5,.string ⟨⟨x.text⟩⟩,.int .i64 x.at',.int .i64 slot,.slice none 0 0,.slice xa (T.subs x.cond).length xk,iv (T.plc (T.subs x.cond) x.cond)]) b4 (by simp[aE,Value.cells]) (by simp[aE,Value.cells,iv]))) rfl rfl Vi (by unfold maxLen;omega) fun v' I5 A4 b5 ao b0=>?_;obtain⟨na,nc,rfl⟩:=b0.slice;obtain⟨ta,tc,rfl⟩:=hB.shape;apply RG;simp only[go_sem,iv,pt,sD,rD,b6];refine f6 b5 [3,1,2,0] [B3] [sg pb _,D3,A4] rfl df rfl (bo (a:=x.at'+1) (hB.le (Ui aj ao)) (aS.le (Ui aj ao)) bd.ok.2 (fun t ht=>by have:=bd.le t ht;omega) Vi Vi) fun v I6 qs a2 a1 hq=>?_;obtain⟨B4,rfl,bx⟩:=hq;obtain⟨ta2,tc2,rfl⟩:=bx.shape;simp only[SS,SU]at a2 |-;apply RG;simp only[go_sem,iv,pt,sD,rD,ca];refine Um a2 [1,2,3,0] fun a5=>?_;have ak:=Ui aj (Ui ao a1);refine a0 (i+1,.slice na (((ac.take i).foldl (bL slot) ⟨[],[],[]⟩).l.length+1) nc,.slice ta2 (Syn.join ((ac.take i).foldl (bL slot) ⟨[],[],[]⟩).f (x.at'+1) x.cond).length tc2,dv) _ _ V9 Us (by simp only[go_sem,Tq,MU]) ⟨I6,D3,A4,B4,rfl,a5,Ui ap ak,b1,by simp only;rw[aa];exact hE.le ak,⟨bs++[.int .u8 5,.string ⟨⟨x.text⟩⟩,.int .i64 x.at',.int .i64 slot,.slice none 0 0,.slice xa (T.subs x.cond).length xk,iv (T.plc (T.subs x.cond) x.cond)],?_,?_⟩,by simp only;rw[aa];exact bx⟩
    ·simp only;rw[aa];simp only[Tu,S4];exact b0
    ·simp only;rw[aa];exact LR.app (a6.mono fun _ _ h=>aW.le h ak) (.one (aW.mk (n:=⟨5,x.text,x.at',slot,[],x.cond⟩) (aS.le ak) (Sl.nil _ _) jq))
  ·apply RG;simp only[go_sem,a9,iv,pt,sD,rD,hi,Ud,T7];have aa:(ac.take (i+1)).foldl (bL slot) ⟨[],[],[]⟩=⟨((ac.take i).foldl (bL slot) ⟨[],[],[]⟩).l++[⟨5,x.text,x.at',slot,[],x.cond⟩],Syn.join ((ac.take i).foldl (bL slot) ⟨[],[],[]⟩).f (x.at'+1) x.cond,((ac.take i).foldl (bL slot) ⟨[],[],[]⟩).e⟩:=by rw[am];unfold bL;rw[Sb (fun k=>k.1 (eq_of_beq hi))]
   have b2:=b3.lt (.inl (by rw[eq_of_beq hi];decide));have e2:=wrap64 (n:=x.at'+1) Vi;have b6:IntKind.i64.wrap ((x.at':Int)+1)=((x.at'+1:Nat):Int):=by rw[<-e2];congr 1
   refine av bb (by exact cT) rfl rfl rfl rfl rfl Vm fun nb I4 a7 aj b4=>?_;refine Up ?_;refine Um a7 [2,0,1,3] fun ba=>?_;obtain⟨bs,an,a6⟩:=hA;obtain⟨xsa,xsc,rfl⟩:=an.slice;refine dr (m:=1) ba (by exact cT) an rfl rfl rfl rfl (cellsU ba (.head _) (az (l:=[.int .u8 5,.string ⟨⟨x.text⟩⟩,.int .i64 x.at',.int .i64 slot,.slice none 0 0,.slice xa (T.subs x.cond).length xk,iv (T.plc (T.subs x.cond) x.cond)]) b4 (by simp[aE,Value.cells]) (by simp[aE,Value.cells,iv]))) rfl rfl Vi (by unfold maxLen;omega) fun v' I5 A4 b5 ao b0=>?_;obtain⟨na,nc,rfl⟩:=b0.slice;obtain⟨ta,tc,rfl⟩:=hB.shape;apply RG;simp only[go_sem,iv,pt,sD,rD,b6];refine f6 b5 [3,1,2,0] [B3] [sg pb _,D3,A4] rfl df rfl (bo (a:=x.at'+1) (hB.le (Ui aj ao)) (aS.le (Ui aj ao)) bd.ok.2 (fun t ht=>by have:=bd.le t ht;omega) Vi Vi) fun v I6 qs a2 a1 hq=>?_;obtain⟨B4,rfl,bx⟩:=hq;obtain⟨ta2,tc2,rfl⟩:=bx.shape;simp only[SS,SU]at a2 |-;apply RG;simp only[go_sem,iv,pt,sD,rD,ca];refine Um a2 [1,2,3,0] fun a5=>?_;have ak:=Ui aj (Ui ao a1);refine a0 (i+1,.slice na (((ac.take i).foldl (bL slot) ⟨[],[],[]⟩).l.length+1) nc,.slice ta2 (Syn.join ((ac.take i).foldl (bL slot) ⟨[],[],[]⟩).f (x.at'+1) x.cond).length tc2,dv) _ _ V9 Us (by simp only[go_sem,Tq,MU]) ⟨I6,D3,A4,B4,rfl,a5,Ui ap ak,b1,by simp only;rw[aa];exact hE.le ak,⟨bs++[.int .u8 5,.string ⟨⟨x.text⟩⟩,.int .i64 x.at',.int .i64 slot,.slice none 0 0,.slice xa (T.subs x.cond).length xk,iv (T.plc (T.subs x.cond) x.cond)],?_,?_⟩,by simp only;rw[aa];exact bx⟩
   ·simp only;rw[aa];simp only[Tu,S4];exact b0
   ·simp only;rw[aa];exact LR.app (a6.mono fun _ _ h=>aW.le h ak) (.one (aW.mk (n:=⟨5,x.text,x.at',slot,[],x.cond⟩) (aS.le ak) (Sl.nil _ _) jq))
 ·have cf:i=ac.length:=by omega
  subst cf;have a9:=Z6 ac.length;rw[Td]at hE hA hB;apply RG;simp only[go_sem,a9,iv,pt];exact ai rfl bb (r:=[va,vb]) rfl (Ui a3 ap) ⟨_,D3,[A3,B3],rfl,hE,A3,B3,va,vb,rfl,rfl,hA,hB⟩
end Go.Proofs.YtfaclfkpnmcmlaaGreatDoor
