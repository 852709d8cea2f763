import Derived.Test.YtfaclfkpnmcmlaaGreatDoorH05
set_option maxHeartbeats 8000000
set_option linter.all false
namespace Syn
open Dg
section
variable {c:bP} {ts:List Tok}
def Good(c:bP)(ts:List Tok)(rec:sY):Prop:=∀x r,rec x=some r->∀y,yZ c ts x y->∃q,PV c ts y q/\RR c r q
theorem mz(c:bP)(ts:List Tok)(p:Option Nat)(is:Nat->Bool):qz c ts p is=(p.map (nx c ts)).filter is:=rfl
def iQ (o : Option Nat) (is : Nat → Bool) : (o.filter is = none) ∨ (o.filter fun i => !is i) = none := by
  cases o with
  | none => exact .inl rfl
  | some i => cases h : is i
              · exact .inl (by simp [Option.filter, h])
              · exact .inr (by simp [Option.filter, h])
def If(aa:bT ts){rec:sY}(G:Good c ts rec){k o slot:Nat}{f:ar}{p:Option Nat}{r:bW}(e:line rec k o f slot=some r)(hf:cq f)(hp:At c f p):∃q,PV c ts (.line k o p slot) q/\RR c r q:=by
 unfold line at e;split at e
 ·rename_i hk;obtain⟨q,h1,h2⟩:=G _ _ e _ (.unary hf hp);exact⟨q,h1.step1 fun r hr=>by simp only[aC,ni,aaq hk];exact hr,h2⟩
 ·rename_i hk;simp only[abI,abJ,ZW]at e;obtain⟨a,ha,b,hb,rfl⟩:=e;obtain⟨q,h1,h2⟩:=G _ _ ha _ (.line hf hp);obtain⟨u,h3,h4⟩:=G _ _ hb _ (.lineL h2.lok h2.l h2.fok h2.f cq.nil (At.nil c) (.inr rfl));exact⟨_,h1.step2 h3 fun r hr hs=>by simp only[aC,ni,ZV hk,hr,abI,jO,hs],h2.app h4⟩
theorem SM(k i:Nat)(d:T):ti k ⟨i,d,K ts i,X ts i⟩=gK ts k i:=rfl
theorem nW(s:bq)(i:Nat)(d:T):bD s ⟨i,d,K ts i,X ts i⟩=pi ts s i:=rfl
def EE (ak : bT ts) {rec : sY} (G : Good c ts rec) {k o slot : Nat} {first : Bool} {l l' : List Nd} {g out : ar} {g' out' : Option Nat} {r : bW} (e : lineL ts rec k o slot first l g out = some r) (hl : iE l) (pl : pL c l = l') (hg : cq g) (pg : At c g g') (ho : cq out) (po : At c out out') (aj : g' = none ∨ out' = none) :
    ∃ q, PV c ts (.lineL k o slot first l' g' out') q ∧ RR c r q := by
  unfold lineL at e
  split at e
  · rename_i hz
    subst hz
    cases e
    have : g' = none := by cases g' with
      | none => rfl
      | some i => simp [At, eS] at pg
    subst this
    exact ⟨⟨l', out', []⟩, PV.step0 fun r => rfl, ho, hl, eU, pl, po, rfl⟩
  · split at e
    · rename_i hk
      cases e
      refine ⟨⟨l', out'.or g', []⟩, PV.step0 fun r => ?_, dY (fun s hs => (hg.1 s hs).1) ho, hl, eU, pl, At.joinAll ho hg po pg (aj.symm), rfl⟩
      simp only [aC, lP]
      cases g' with
      | none => simp
      | some i => have : out' = none := by rcases aj with h | h; cases h; exact h
                  simp [hk, this]
    · rename_i hk
      obtain ⟨s1, s2, s3, s4⟩ := iY ak hg pg (gK ts k) (SM k)
      generalize am : aM ts g (ti k) = sp at e s1 s2 s3 s4
      obtain ⟨ops, rest⟩ := sp
      simp only [abI, abJ, ZW] at e
      obtain ⟨a, ha, b, hb, rfl⟩ := e
      obtain ⟨q, h1, h2⟩ := G _ _ ha _ (.lineO s1 s3 hl pl cq.nil (At.nil c) (.inr rfl))
      have jo : cq (joinAll out rest) := dY (fun s hs => (s2.1 s hs).1) ho
      cases g' with
      | none =>
        have hq : q = ⟨l', none, []⟩ := h1.det (PV.step0 fun r => rfl)
        subst hq
        have ja : At c (joinAll out rest) out' := by have := At.joinAll ho s2 po s4 (.inr rfl); simpa using this
        obtain ⟨u, h3, h4⟩ := G _ _ hb _ (.lineL h2.lok h2.l h2.fok h2.f jo ja (.inl rfl))
        have hu : u = ⟨l', out', []⟩ := h3.det (PV.step0 fun r => rfl)
        subst hu
        exact ⟨⟨l', out', []⟩, PV.step0 fun r => rfl, h2.app h4⟩
      | some p =>
        have ac : out' = none := by rcases aj with h | h; cases h; exact h
        subst ac
        have ja : At c (joinAll out rest) (qz c ts (some p) fun i => !gK ts k i) := by have := At.joinAll ho s2 po s4 (.inl rfl); simpa [qz] using this
        have aa : q.p = none ∨ (qz c ts (some p) fun i => !gK ts k i) = none := by
          rcases iQ ((some p).map (nx c ts)) (gK ts k) with h | h
          · left
            rw [h] at h1
            have hq : q = ⟨l', none, []⟩ := h1.det (PV.step0 fun r => rfl)
            rw [hq]
          · exact .inr h
        obtain ⟨u, h3, h4⟩ := G _ _ hb _ (.lineL h2.lok h2.l h2.fok h2.f jo ja aa)
        refine ⟨_, h1.step2 h3 fun r hr hs => ?_, h2.app h4⟩
        simp only [aC, lP]
        rw [ZV hk]
        simp only [mz, hr, abI, jO]
        simp only [mz] at hs
        rw [hs]; rfl
def FJ(aq:bT ts){rec:sY}(G:Good c ts rec){k o slot:Nat}{ops:List aB}{op:Option Nat}{l l':List Nd}{g:ar}{g':Option Nat}{r:bW}(e:lineO rec k o slot ops l g=some r)(ac:vO ts ops)(pR:ny c ops op)(hl:iE l)(pl:pL c l=l')(hg:cq g)(pg:At c g g')(aj:op=none\/g'=none):
  ∃q,PV c ts (.lineO k o slot op l' g') q/\RR c r q:=by
 unfold lineO at e;cases ops with
 |nil=>
  simp only[ZW]at e;subst e;have:op=none:=by cases op with
   |none=>rfl
   |some i=>simp[ny,rM]at pR
  subst this;exact⟨⟨l',g',[]⟩,PV.step0 fun r=>rfl,hg,hl,eU,pl,pg,rfl⟩
 |cons h ops=>
  simp only[abI,abJ,ZW]at e;obtain⟨a,ha,_,_,_,_,b,hb,rfl⟩:=e;obtain⟨hd,am⟩:=ac.hd;obtain⟨q,h1,h2⟩:=G _ _ ha _ (.line (iq hd.1 am) (iA c h));have an:=No hd.1 hl;have ak:=JA hd.1 hl;have aa:iE (dH l h.cond++[⟨13,h.text,h.at',slot,fX l h.cond++a.l,h.cond⟩]):=iN.2 ⟨ak,im hd.1 (iN.2 ⟨an,h2.lok⟩)⟩;have jg:cq (joinAll g a.f):=dY (fun s hs=>(h2.fok.1 s hs).1) hg;rcases pR.cons with ⟨hc,rfl,pop2⟩|⟨hc,pop2⟩
  ·have hi:hI c h=some h.at':=by simp[hI,hc]
   rw[hi]at h1;have ao:g'=none:=by rcases aj with h|h;cases h;exact h
   subst ao;have pnew:pL c (dH l h.cond++[⟨13,h.text,h.at',slot,fX l h.cond++a.l,h.cond⟩])=[⟨13,X ts h.at',h.at',slot,g9 l'++q.l,tt⟩]:=by
    rw[fq,zQ c hd.1 hl,aaq hc,gm];simp only[hc,ZT,fq,Mi c hd.1 hl,pl,h2.l,hd.text,aaA]
   have pj:At c (joinAll g a.f) q.p:=by have:=At.joinAll hg h2.fok pg h2.f (.inl rfl);simpa using this
   obtain⟨u,h3,h4⟩:=G _ _ hb _ (.lineO ac.tail pop2 aa pnew jg pj (.inl rfl));have hu:u=⟨[⟨13,X ts h.at',h.at',slot,g9 l'++q.l,tt⟩],q.p,[]⟩:=h3.det (PV.step0 fun r=>rfl);subst hu;refine⟨_,h1.step1 fun r hr=>?_,h2.app h4⟩;simp only[aC,pY];simp only[Z9]at hr;rw[hr];simp
  ·have hi:hI c h=none:=by simp[hI,hc]
   rw[hi]at h1;have hq:=PV.noneLine h1;subst hq;have pnew:pL c (dH l h.cond++[⟨13,h.text,h.at',slot,fX l h.cond++a.l,h.cond⟩])=l':=by
    rw[fq,zQ c hd.1 hl,gm];simp[hc,pl]
   have pj:At c (joinAll g a.f) g':=by have:=At.joinAll hg h2.fok pg h2.f (.inr rfl);simpa[triv]using this
   obtain⟨u,h3,h4⟩:=G _ _ hb _ (.lineO ac.tail pop2 aa pnew jg pj aj);refine⟨u,h3,?_⟩;have:=h2.app h4;simpa[triv]using this
end
open Dg
section
variable {c:bP} {ts:List Tok}
variable{h:aB}
def fp(hc:h.cond.at' c=true):hI c h=some h.at':=by simp[hI,hc]
def iC(hc:h.cond.at' c=false):hI c h=none:=by simp[hI,hc]
def RR.fail(k:h.cond.ok 0)(code:Nat):RR c ⟨[],[],cJ h code⟩ ⟨[],none,if h.cond.at' c then [(code,(h.at':Int))]else []⟩:=
 ⟨cq.nil,trivial,sI k code,rfl,rfl,lq c h code⟩
theorem RR.take{rec:sY}(aa:bT ts){a:bW}{q:PR}(h:RR c a q)(s:bq):RR c ⟨a.l,(take ts a.f s).1,a.e++(take ts a.f s).2⟩ ⟨q.l,(aW ts c q.p s).1,q.e++(aW ts c q.p s).2⟩:=by
 obtain⟨t1,t2,t3,t4⟩:=iL aa h.fok h.f s;exact⟨t1,h.lok,cI.2 ⟨h.eok,t2⟩,h.l,t3,by rw[cR,h.e,t4]⟩
theorem rH(s:bq):aW ts c none s=(none,[]):=rfl
def RR.trivTake(aa:bT ts){a:bW}(h:RR c a triv)(s:bq):RR c ⟨a.l,(Syn.take ts a.f s).1,a.e++(Syn.take ts a.f s).2⟩ triv:=RR.take (rec:=fun _=>none) aa h s
variable{rec:sY}
def EK(aa:bT ts)(G:Good c ts rec){o slot:Nat}{f:ar}{p:Option Nat}{r:bW}(e:cT ts f (fun h=>rec (.unaryH o h slot))=some r)(hf:cq f)(hp:At c f p):∃q,PV c ts (.unary o p slot) q/\RR c r q:=by
 have key:=lh aa hf hp e (P:=fun i q=>PV c ts (.unaryH o (some i) slot) q) fun h x hd ac hx=>by
  obtain⟨q,h1,h2⟩:=G _ _ hx _ (.unaryH hd ac rfl);cases hc:h.cond.at' c with
  |true=>rw[fp hc]at h1;exact⟨q,h1,h2⟩
  |false=>
   rw[iC hc]at h1;have:q=triv:=h1.det (PV.step0 fun r=>rfl);subst this;exact h2
 cases p with
 |none=>exact⟨triv,(PV.step0 fun r=>rfl:PV c ts (.unaryH o none slot) triv).step1 fun r hr=>by simp only[aC,ry];exact hr,key⟩
 |some p=>
  obtain⟨q,h1,h2⟩:=key;exact⟨q,h1.step1 fun r hr=>by simp only[aC,ry];exact hr,h2⟩
def Da(aj:bT ts)(G:Good c ts rec){o slot:Nat}{r:bW}(e:unaryH ts rec o h slot=some r)(hd:Hd ts h)(ac:h.cond≠ff):∃q,PV c ts (.unaryH o (hI c h) slot) q/\RR c r q:=by
 unfold unaryH at e;have hX:=hd.text;have hK:=hd.kind;have ha:=iA c h;have aa:=iq hd.1 ac;cases hc:h.cond.at' c with
 |false=>
  have hi:=iC hc;rw[hi]at ha |-;refine⟨triv,PV.step0 fun r=>rfl,?_⟩;split at e
  ·split at e
   ·cases e;have:=RR.fail (c:=c) hd.1 11;rw[hc]at this;exact this
   ·simp only[abI,abJ,ZW]at e;obtain⟨a,am,rfl⟩:=e;obtain⟨q,h1,h2⟩:=G _ _ am _ (.unary aa ha);have:=PV.noneUnary h1;subst this;exact⟨h2.fok,im hd.1 h2.lok,h2.eok,by rw[gm];simp[hc,triv],h2.f,h2.e⟩
  ·split at e
   ·obtain⟨q,h1,h2⟩:=G _ _ e _ (.inside (mo hd.1 ac) (mn c h));rw[hi]at h1;have:=PV.noneInside h1;subst this;exact h2
   ·split at e
    ·cases e;exact⟨aa,im hd.1 trivial,eU,by rw[gm];simp[hc,triv],ha,rfl⟩
    ·split at e
     ·cases e;exact⟨aa,im hd.1 trivial,eU,by rw[gm];simp[hc,triv],ha,rfl⟩
     ·split at e
      ·cases e;exact⟨aa,im hd.1 trivial,eU,by rw[gm];simp[hc,triv],ha,rfl⟩
      ·have hn:=nu aj (mo hd.1 ac) (mn c h) 18 slot;rw[hi]at hn;obtain⟨s1,s2,s3,s4⟩:=iY aj hn.fok hn.f (pi ts eM) (nW eM);dsimp only at e;generalize ao:aM ts (named ts (bX h) 18 slot).f (bD eM)=sp at e s1 s2 s3 s4;obtain⟨xs,g⟩:=sp;simp only[abI,abJ,ZW]at e;obtain⟨b,hb,rfl⟩:=e;obtain⟨q,h1,h2⟩:=G _ _ hb _ (.calls hd hi s1 s3 hn.lok hn.l s2 s4 (.inl rfl));have:q=⟨[],none,[]⟩:=h1.det (PV.step0 fun r=>rfl);subst this;exact hn.app h2
 |true=>
  have hi:=fp hc;rw[hi]at ha |-;rw[hX,hK]at e;by_cases h1:X ts h.at'=Fg\/X ts h.at'=jS
  ·rw[aaq h1]at e;split at e
   ·rename_i h2;cases e
    refine⟨_,PV.step0 fun r=>by simp only[aC,fZ];rw[aaq h1,aaq h2],?_⟩;have:=RR.fail (c:=c) hd.1 11;rw[hc]at this;exact this
   ·rename_i h2;simp only[abI,abJ,ZW]at e;obtain⟨a,am,rfl⟩:=e;obtain⟨q,h3,h4⟩:=G _ _ am _ (.unary aa ha);refine⟨⟨[⟨14,X ts h.at',h.at',slot,q.l,tt⟩],q.p,q.e⟩,h3.step1 fun r hr=>?_,⟨h4.fok,im hd.1 h4.lok,h4.eok,?_,h4.f,h4.e⟩⟩
    ·simp only[Z9]at hr;simp only[aC,fZ];rw[aaq h1,ZV h2,hr];rfl
    ·rw[gm];simp[hc,h4.l]
  ·rw[ZV h1]at e;by_cases h2:X ts h.at'=eM
   ·rw[aaq h2]at e;obtain⟨q,h3,h4⟩:=G _ _ e _ (.inside (mo hd.1 ac) (mn c h));rw[hi]at h3;refine⟨q,h3.step1 fun r hr=>?_,h4⟩;simp only[aC,fZ];rw[ZV h1,aaq h2,hr]
   ·rw[ZV h2]at e;by_cases h3:K ts h.at'=2
    ·rw[aaq h3]at e;cases e
     refine⟨_,PV.step0 fun r=>by simp only[aC,fZ];rw[ZV h1,ZV h2,aaq h3],?_⟩;exact⟨aa,im hd.1 trivial,eU,by rw[gm];simp[hc,pL],ha,rfl⟩
    ·rw[ZV h3]at e;by_cases h4:X ts h.at'=pH\/X ts h.at'=mK
     ·rw[aaq h4]at e;cases e
      refine⟨_,PV.step0 fun r=>by simp only[aC,fZ];rw[ZV h1,ZV h2,ZV h3,aaq h4],?_⟩;exact⟨aa,im hd.1 trivial,eU,by rw[gm];simp[hc,pL],ha,rfl⟩
     ·rw[ZV h4]at e;by_cases h5:X ts h.at'=qX
      ·rw[aaq h5]at e;cases e
       refine⟨_,PV.step0 fun r=>by simp only[aC,fZ];rw[ZV h1,ZV h2,ZV h3,ZV h4,aaq h5],?_⟩;exact⟨aa,im hd.1 trivial,eU,by rw[gm];simp[hc,pL],ha,rfl⟩
      ·rw[ZV h5]at e;have hn:=nu aj (mo hd.1 ac) (mn c h) 18 slot;rw[hi]at hn;obtain⟨s1,s2,s3,s4⟩:=iY aj hn.fok hn.f (pi ts eM) (nW eM);dsimp only at e;have an:(named ts (bX h) 18 slot).l.tail=[]:=by rw[xT aj hd ac];split<;>rfl
       have ak:(qz c ts (aI ts c (some h.at') 18 slot).p (pi ts eM))=none\/(qz c ts (aI ts c (some h.at') 18 slot).p fun i=>!pi ts eM i)=none/\some h.at'≠none/\pL c (named ts (bX h) 18 slot).l.tail=[]:=by
        cases hy:qz c ts (aI ts c (some h.at') 18 slot).p (pi ts eM)with
        |none=>exact .inl rfl
        |some j=>
         refine .inr ⟨?_,by simp,?_⟩
         ·rcases iQ ((aI ts c (some h.at') 18 slot).p.map (nx c ts)) (pi ts eM)with h|h
          ·rw[mz,h]at hy;cases hy
          ·exact h
         ·rw[an];rfl
       generalize ao:aM ts (named ts (bX h) 18 slot).f (bD eM)=sp at e s1 s2 s3 s4;obtain⟨xs,g⟩:=sp;simp only[abI,abJ,ZW]at e;obtain⟨b,hb,rfl⟩:=e;obtain⟨q,h6,h7⟩:=G _ _ hb _ (.calls hd hi s1 s3 hn.lok hn.l s2 s4 ak);refine⟨_,h6.step1 fun r hr=>?_,hn.app h7⟩;simp only[aC,fZ];rw[ZV h1,ZV h2,ZV h3,ZV h4,ZV h5];simp only[mz]at hr |-;rw[hr];rfl
end
open Dg
section
variable {c:bP} {ts:List Tok}
variable{p:Option Nat}
def ny.nil_none(h:ny c [] p):p=none:=by
 cases p with
 |none=>rfl
 |some i=>simp[ny,rM]at h
variable{r:bW}{o slot:Nat}{rec:sY}
def FL(ao:bT ts)(G:Good c ts rec){h:aB}{xs:List aB}{x:Option Nat}{names names':List Nd}{g:ar}{g':Option Nat}(e:calls rec o h slot xs names g=some r)(hd:Hd ts h)(aj:vO ts xs)(px:ny c xs x)(hl:iE names)(pl:pL c names=names')(hg:cq g)(pg:At c g g')
  (aa:x=none\/g'=none/\hI c h≠none/\pL c names.tail=[]):∃q,PV c ts (.calls o (hI c h) slot x names' g') q/\RR c r q:=by
 unfold calls at e;cases xs with
 |nil=>
  simp only[ZW]at e;subst e;have:=px.nil_none;subst this;exact⟨⟨names',g',[]⟩,PV.step0 fun r=>by simp only[aC,nY];cases hI c h<;>rfl,hg,hl,eU,pl,pg,rfl⟩
 |cons y xs=>
  simp only[abI,abJ,ZW]at e;obtain⟨a,ha,_,_,b,hb,rfl⟩:=e;obtain⟨yd,yne⟩:=aj.hd;obtain⟨q,h1,h2⟩:=G _ _ ha _ (.listed (mo yd.1 yne) (mn c y));have ac:iE (kJ names y.cond++[⟨19,h.text,h.at',slot,a.l,y.cond⟩]):=iN.2 ⟨G9 yd.1 hl,im yd.1 h2.lok⟩;have jg:cq (joinAll g a.f):=dY (fun s hs=>(h2.fok.1 s hs).1) hg;rcases px.cons with ⟨hc,rfl,px2⟩|⟨hc,px2⟩
  ·rw[fp hc]at h1;rcases aa with aa|⟨rfl,hi,am⟩
   ·cases aa
   have an:h.cond.at' c=true:=by
    cases hh:h.cond.at' c with
    |true=>rfl
    |false=>exact absurd (iC hh) hi
   have pnew:pL c (kJ names y.cond++[⟨19,h.text,h.at',slot,a.l,y.cond⟩])=[⟨19,X ts h.at',h.at',slot,q.l,tt⟩]:=by
    rw[fq,wx c yd.1 hl,aaq hc,am,gm];simp[hc,h2.l,hd.text]
   have pj:At c (joinAll g a.f) q.p:=by have:=At.joinAll hg h2.fok pg h2.f (.inl rfl);simpa using this
   obtain⟨u,h3,h4⟩:=G _ _ hb _ (.calls hd rfl aj.tail px2 ac pnew jg pj (.inl rfl));have hu:u=⟨[⟨19,X ts h.at',h.at',slot,q.l,tt⟩],q.p,[]⟩:=h3.det (PV.step0 fun r=>by simp only[aC,nY];cases hI c h<;>rfl);subst hu;refine⟨_,h1.step1 fun r hr=>?_,h2.app h4⟩;rw[fp an];simp only[aC,nY,hr,abI,jO,aa6]
  ·rw[iC hc]at h1;have hq:=PV.noneListed h1;subst hq;have pnew:pL c (kJ names y.cond++[⟨19,h.text,h.at',slot,a.l,y.cond⟩])=names':=by
    rw[fq,wx c yd.1 hl,gm];simp[hc,pl]
   have pj:At c (joinAll g a.f) g':=by have:=At.joinAll hg h2.fok pg h2.f (.inr rfl);simpa[triv]using this
   have ak:x=none\/g'=none/\hI c h≠none/\pL c (kJ names y.cond++[(⟨19,h.text,h.at',slot,a.l,y.cond⟩:Nd)]).tail=[]:=by
    rcases aa with aa|⟨h5,h6,h7⟩
    ·exact .inl aa
    ·refine .inr ⟨h5,h6,?_⟩;cases hn:kJ names y.cond with
     |nil=>rfl
     |cons n l=>
      rw[aaz,abL,fq,gm];have:l=names.tail:=by rw[<-zt names y.cond,hn];rfl
      simp[hc,this,h7]
   obtain⟨u,h3,h4⟩:=G _ _ hb _ (.calls hd rfl aj.tail px2 ac pnew jg pj ak);refine⟨u,h3,?_⟩;have:=h2.app h4;simpa[triv]using this
variable{f:ar}
def Ck(aa:bT ts)(G:Good c ts rec)(e:cT ts f (ml ts rec o slot)=some r)(hf:cq f)(hp:At c f p):∃q,PV c ts (.inside o p slot) q/\RR c r q:=by
 have key:=lh aa hf hp e (P:=fun i q=>∀p,p.map (nx c ts)=some i->PV c ts (.inside o p slot) q) fun h x hd ac hx=>by
  unfold ml at hx;have hX:=hd.text;cases hc:h.cond.at' c with
  |false=>
   simp only[aa5,Z2];have ff1:=RR.fail (c:=c) hd.1;split at hx
   ·cases hx;have:=ff1 10;rw[hc]at this;exact this
   ·split at hx
    ·cases hx;have:=ff1 11;rw[hc]at this;exact this
    ·simp only[abI,abJ,ZW]at hx;obtain⟨a,ha,rfl⟩:=hx;obtain⟨q,h1,h2⟩:=G _ _ ha _ (.line (iq hd.1 ac) (iA c h));rw[iC hc]at h1;have:=PV.noneLine h1;subst this;exact RR.trivTake aa h2 fK
  |true=>
   simp only[ZT];have ff1:=RR.fail (c:=c) hd.1;rw[hX]at hx;split at hx
   ·rename_i h3;cases hx
    refine⟨_,fun p hp=>PV.step0 fun r=>by simp only[aC,il,hp];rw[aaq h3],?_⟩;have:=ff1 10;rw[hc]at this;exact this
   ·rename_i h3;split at hx
    ·rename_i h4;cases hx
     refine⟨_,fun p hp=>PV.step0 fun r=>by simp only[aC,il,hp];rw[ZV h3,aaq h4],?_⟩;have:=ff1 11;rw[hc]at this;exact this
    ·rename_i h4;simp only[abI,abJ,ZW]at hx;obtain⟨a,ha,rfl⟩:=hx;obtain⟨q,h1,h2⟩:=G _ _ ha _ (.line (iq hd.1 ac) (iA c h));rw[fp hc]at h1;refine⟨_,fun p hp=>h1.step1 fun r hr=>?_,RR.take (rec:=rec) aa h2 fK⟩;simp only[aC,il,hp];rw[ZV h3,ZV h4];simp only[Z9]at hr;rw[hr];rfl
 cases p with
 |none=>exact⟨triv,PV.step0 fun r=>rfl,key⟩
 |some p=>obtain⟨q,h1,h2⟩:=key;exact⟨q,h1 _ rfl,h2⟩
variable{par:Bool}
def Dx(aa:bT ts)(G:Good c ts rec)(e:cT ts f (mw ts rec par o)=some r)(hf:cq f)(hp:At c f p):∃q,PV c ts (.listed par o p) q/\RR c r q:=by
 have key:=lh aa hf hp e (P:=fun i q=>∀p,p.map (nx c ts)=some i->PV c ts (.listed par o p) q) fun h x hd aj hx=>by
  unfold mw at hx;have hX:=hd.text;have ff1:=RR.fail (c:=c) hd.1;obtain⟨s1,s2,s3,s4⟩:=iY aa (iq hd.1 aj) (iA c h) (pi ts fK) (nW fK);generalize ak:aM ts (bv h) (bD fK)=sp at hx s1 s2 s3 s4;obtain⟨yes,g⟩:=sp;simp only at s1 s2 s3 s4;have jf:cq (yes.foldl joinH []):=f7 cq.nil s1.conds;have ja:At c (yes.foldl joinH []) (((hI c h).map (·+1)).map (nx c ts) |>.filter (pi ts fK)):=by have:=At.joinH cq.nil s1.conds (At.nil c) s3 (.inl rfl);simpa using this
  have ac:=(iQ (((hI c h).map (·+1)).map (nx c ts)) (pi ts fK)).symm;cases hc:h.cond.at' c with
  |false=>
   simp only[aa5,Z2];split at hx
   ·cases hx;have:=ff1 10;rw[hc]at this;exact this
   ·split at hx
    ·cases hx;have:=ff1 11;rw[hc]at this;exact this
    ·simp only[abI,abJ,ZW]at hx;obtain⟨a,ha,rfl⟩:=hx;obtain⟨q,h1,h2⟩:=G _ _ ha _ (.listL (l:=[]) trivial rfl s2 s4 jf ja ac);rw[iC hc]at h1;have:q=triv:=h1.det (PV.step0 fun r=>rfl);subst this;exact RR.trivTake aa h2 fK
  |true=>
   simp only[ZT];rw[hX]at hx;split at hx
   ·rename_i h3;cases hx
    refine⟨_,fun p hp=>PV.step0 fun r=>by simp only[aC,ij,hp];rw[aaq h3],?_⟩;have:=ff1 10;rw[hc]at this;exact this
   ·rename_i h3;split at hx
    ·rename_i h4;cases hx
     refine⟨_,fun p hp=>PV.step0 fun r=>by simp only[aC,ij,hp];rw[ZV h3,aaq h4],?_⟩;have:=ff1 11;rw[hc]at this;exact this
    ·rename_i h4;simp only[abI,abJ,ZW]at hx;obtain⟨a,ha,rfl⟩:=hx;obtain⟨q,h1,h2⟩:=G _ _ ha _ (.listL (l:=[]) trivial rfl s2 s4 jf ja ac);rw[fp hc]at h1;refine⟨_,fun p hp=>h1.step1 fun r hr=>?_,RR.take (rec:=rec) aa h2 fK⟩;simp only[aC,ij,hp,mz];rw[ZV h3,ZV h4];simp only[Z9]at hr |-;simp only[pL]at hr;rw[hr];rfl
 cases p with
 |none=>exact⟨triv,PV.step0 fun r=>rfl,key⟩
 |some p=>obtain⟨q,h1,h2⟩:=key;exact⟨q,h1 _ rfl,h2⟩
def FE(ak:bT ts)(G:Good c ts rec){l l':List Nd}{g fin:ar}{g' fin':Option Nat}(e:listL ts rec par o l g fin=some r)(hl:iE l)(pl:pL c l=l')(hg:cq g)(pg:At c g g')(hf:cq fin)(pf:At c fin fin')(aj:g'=none\/fin'=none):
  ∃q,PV c ts (.listL par o l' g' fin') q/\RR c r q:=by
 unfold listL at e;cases g with
 |nil=>
  simp only[ZW]at e;subst e;have:g'=none:=by cases g' with
   |none=>rfl
   |some i=>simp[At,eS]at pg
  subst this;exact⟨⟨l',fin',[]⟩,PV.step0 fun r=>rfl,hf,hl,eU,pl,pf,rfl⟩
 |cons s g=>
  simp only[abI,abJ,ZW]at e;obtain⟨a,ha,_,_,e⟩:=e;have atOne:=At.one c s.1 s.2;obtain⟨q,h1,h2⟩:=G _ _ ha _ (.item hg.head atOne);obtain⟨s1,s2,s3,s4⟩:=iY ak h2.fok h2.f (pi ts bB) (nW bB);generalize am:aM ts a.f (bD bB)=sp at e s1 s2 s3 s4;obtain⟨more,done⟩:=sp;simp only[abJ,ZW]at e;obtain⟨b,hb,rfl⟩:=e;simp only at s1 s2 s3 s4;have jf:cq (more.foldl joinH1 g):=pA hg.tail s1.conds;have jd:cq (joinAll fin done):=dY (fun s hs=>(s2.1 s hs).1) hf;rcases pg.cons with ⟨hc,rfl,pg2⟩|⟨hc,pg2⟩
  ·have ac:fin'=none:=by rcases aj with h|h;cases h;exact h
   subst ac;rw[aaq hc]at h1;have j1:At c (more.foldl joinH1 g) ((qz c ts q.p (pi ts bB)).map (·+1)):=by have:=At.joinH1 hg.tail s1.conds pg2 s3 (.inl rfl);simpa[qz]using this
   have j2:At c (joinAll fin done) (qz c ts q.p fun i=>!pi ts bB i):=by have:=At.joinAll hf s2 pf s4 (.inl rfl);simpa[qz]using this
   have aa:(qz c ts q.p (pi ts bB)).map (·+1)=none\/(qz c ts q.p fun i=>!pi ts bB i)=none:=by
    rcases iQ (q.p.map (nx c ts)) (pi ts bB)with h|h
    ·left;rw[mz,h];rfl
    ·exact .inr h
   obtain⟨u,h3,h4⟩:=G _ _ hb _ (.listL (iN.2 ⟨hl,h2.lok⟩) (by rw[fq,pl,h2.l]) jf j1 jd j2 aa);refine⟨_,h1.step2 h3 fun r hr hs=>?_,h2.app h4⟩;simp only[aC,oU,hr,abI,jO,hs]
  ·rw[hc]at h1;simp only[aa5,Z2]at h1;have:=PV.noneItem h1;subst this;simp only[triv,aac,Option.filter_none]at s3 s4;have j1:At c (more.foldl joinH1 g) g':=by have:=At.joinH1 hg.tail s1.conds pg2 s3 (.inr rfl);simpa using this
   have j2:At c (joinAll fin done) fin':=by have:=At.joinAll hf s2 pf s4 (.inr rfl);simpa using this
   obtain⟨u,h3,h4⟩:=G _ _ hb _ (.listL (iN.2 ⟨hl,h2.lok⟩) (by rw[fq,pl,h2.l]) jf j1 jd j2 aj);simp only[triv,aa6]at h3;refine⟨u,h3,?_⟩;have:=h2.app h4;simpa[triv]using this
theorem RR.give{a:bW}{q:PR}{ks kp:List Nd}{e:List cO}{e':List (Nat×Int)}(hl:iE a.l)(pl:pL c a.l=q.l)(hk:iE ks)(pk:pL c ks=kp)(hf:cq f)(pf:At c f p)(he:Ce e)(pe:pE c e=e'):RR c ⟨Syn.give a.l ks,f,e⟩ ⟨Syn.give q.l kp,p,e'⟩:=
 ⟨hf,eD hl hk,he,by rw[fU,pl,pk],pf,pe⟩
def IZ(aa:bT ts)(G:Good c ts rec)(e:item ts rec par o f=some r)(hf:cq f)(hp:At c f p):∃q,PV c ts (.item par o p) q/\RR c r q:=by
 unfold item at e;cases par with
 |false=>
  simp only[aa5,Z2]at e;obtain⟨q,h1,h2⟩:=G _ _ e _ (.line hf hp);exact⟨q,h1.step1 fun r hr=>by simp only[aC,ro];exact hr,h2⟩
 |true=>
  simp only[ZT]at e;have hn:=nu aa hf hp 4 0;have ht:=RR.take (rec:=rec) aa hn bA;generalize ac:Syn.take ts (named ts f 4 0).f bA=sp at e ht;obtain⟨g,er⟩:=sp;have hy:=yf aa ht.fok ht.f 0;simp only[abI,abJ,ZW]at e;obtain⟨l,hl,rfl⟩:=e;have:=bu hl;subst this;refine⟨_,PV.step0 fun r=>by simp only[aC,ro,ZT];rfl,?_⟩;exact RR.give hn.lok hn.l hy.lok hy.l hy.fok hy.f (cI.2 ⟨ht.eok,hy.eok⟩) (by rw[cR,ht.e,hy.e])
def Ee(aa:bT ts)(G:Good c ts rec){typ:Bool}{sign:bq}(e:behind ts rec typ o f sign slot=some r)(hf:cq f)(hp:At c f p):∃q,PV c ts (.behind typ o p sign slot) q/\RR c r q:=by
 unfold behind at e;obtain⟨s1,s2,s3,s4⟩:=iY aa hf hp (pi ts sign) (nW sign);generalize ac:aM ts f (bD sign)=sp at e s1 s2 s3 s4;obtain⟨yes,out⟩:=sp;simp only[abI,abJ,ZW]at e;obtain⟨a,ha,rfl⟩:=e;simp only at s1 s2 s3 s4;have jf:cq (yes.foldl joinH1 []):=pA cq.nil s1.conds;have ja:At c (yes.foldl joinH1 []) ((qz c ts p (pi ts sign)).map (·+1)):=by have:=At.joinH1 cq.nil s1.conds (At.nil c) s3 (.inl rfl);simpa[qz]using this
 unfold wu at ha;have fin:∀q:PR,RR c a q->((qz c ts p (pi ts sign))=none->q.p=none)->RR c ⟨a.l,joinAll out a.f,a.e⟩ ⟨q.l,(qz c ts p fun i=>!pi ts sign i).or q.p,q.e⟩:=fun q hq hn=>by
  refine⟨dY (fun s hs=>(hq.fok.1 s hs).1) s2,hq.lok,hq.eok,hq.l,At.joinAll s2 hq.fok s4 hq.f ?_,hq.e⟩;rcases iQ (p.map (nx c ts)) (pi ts sign)with h|h
  ·exact .inr (hn h)
  ·exact .inl h
 cases typ with
 |true=>
  simp only[ZT,ZW]at ha;subst ha;refine⟨_,PV.step0 fun r=>by simp only[aC,kh,fy,ZT];rfl,fin _ (yf aa jf ja slot) fun h=>?_⟩;rw[h];rfl
 |false=>
  simp only[aa5,Z2]at ha;obtain⟨q,h1,h2⟩:=G _ _ ha _ (.line jf ja);refine⟨_,h1.step1 fun r hr=>?_,fin q h2 fun h=>?_⟩
  ·simp only[aC,kh,fy,aa5,Z2];rw[hr];rfl
  ·rw[h]at h1;have:=PV.noneLine h1;subst this;rfl
def y8(ac:bT ts)(G:Good c ts rec)(e:jQ ts rec o f=some r)(hf:cq f)(hp:At c f p):∃q,PV c ts (.vrb o p) q/\RR c r q:=by
 unfold jQ at e;have hn:=nu ac hf hp 2 0;have ht:=RR.take (rec:=rec) ac hn bA;dsimp only at e;generalize aj:Syn.take ts (named ts f 2 0).f bA=sp at e ht;obtain⟨g,er⟩:=sp;have hy:=yf ac ht.fok ht.f 0;simp only[abI,abJ]at e;obtain⟨d,hd,l1,am,l2,ak,e⟩:=e;have:=bu am;subst this;have:=bu ak;subst this;obtain⟨q,h1,h2⟩:=G _ _ hd _ (.behind hy.fok hy.f);have aa:=RR.take (rec:=rec) ac h2 a8;generalize aj:Syn.take ts d.f a8=sp at e aa;obtain⟨g2,er2⟩:=sp;simp only[ZW]at e;subst e;refine⟨_,h1.step1 fun r hr=>by simp only[aC,gZ];rw[hr];rfl,?_⟩;refine⟨aa.fok,eD (eD hn.lok hy.lok) h2.lok,?_,?_,aa.f,?_⟩
 ·have:=aa.eok;rw[cI]at this;exact cI.2 ⟨cI.2 ⟨cI.2 ⟨ht.eok,hy.eok⟩,this.1⟩,this.2⟩
 ·rw[fU,fU,hn.l,hy.l,h2.l]
 ·have e2:=aa.e;rw[cR]at e2;have e1:=ht.e;rw[cR]at e1;rw[cR,cR,cR,cR,e1,hy.e,aaT,e2];simp[aaT]
def yP(aa:bT ts)(G:Good c ts rec)(e:function ts rec o f=some r)(hf:cq f)(hp:At c f p):∃q,PV c ts (.function o p) q/\RR c r q:=by
 unfold function at e;have hn:=nu aa hf hp 3 0;dsimp only at e;simp only[abI,abJ,ZW]at e;obtain⟨b,hb,d,hd,x,hx,l1,ak,l2,aj,l3,ac,rfl⟩:=e;have:=bu ak;subst this;have:=bu aj;subst this;have:=bu ac;subst this;obtain⟨q1,h1,k1⟩:=G _ _ hb _ (.listed hn.fok hn.f);obtain⟨q2,h2,k2⟩:=G _ _ hd _ (.behind k1.fok k1.f);obtain⟨q3,h3,k3⟩:=G _ _ hx _ (.block k2.fok k2.f);refine⟨_,h1.step3 h2 h3 fun r r1 r2 r3=>by simp only[aC,gY,r1,r2,r3,abI,jO];rfl,?_⟩;refine⟨k3.fok,eD (eD (eD hn.lok k1.lok) k2.lok) k3.lok,cI.2 ⟨cI.2 ⟨cI.2 ⟨hn.eok,k1.eok⟩,k2.eok⟩,k3.eok⟩,?_,k3.f,?_⟩
 ·rw[fU,fU,fU,hn.l,k1.l,k2.l,k3.l]
 ·rw[cR,cR,cR,hn.e,k1.e,k2.e,k3.e]
end
open Dg
section
variable {c:bP} {ts:List Tok}
variable{r:bW}{p:Option Nat}{f:ar}{o:Nat}{rec:sY}
def Fq(ac:bT ts)(G:Good c ts rec){slot:Nat}(e:cT ts f (oZ ts rec o slot)=some r)(hf:cq f)(hp:At c f p):∃q,PV c ts (.block o p slot) q/\RR c r q:=by
 have key:=lh ac hf hp e (P:=fun i q=>∀p,p.map (nx c ts)=some i->PV c ts (.block o p slot) q) fun h x hd aj hx=>by
  unfold oZ at hx;have hX:=hd.text;have ff1:=RR.fail (c:=c) hd.1;cases hc:h.cond.at' c with
  |false=>
   simp only[aa5,Z2];split at hx
   ·cases hx;have:=ff1 10;rw[hc]at this;exact this
   ·split at hx
    ·cases hx;have:=ff1 11;rw[hc]at this;exact this
    ·simp only[abI,abJ,ZW]at hx;obtain⟨a,ha,rfl⟩:=hx;have aa:=iA c h;rw[iC hc]at aa;obtain⟨q,h1,h2⟩:=G _ _ ha _ (.seqL (l:=[]) (iq hd.1 aj) aa trivial rfl cq.nil (At.nil c) (.inr rfl));have:q=triv:=h1.det (PV.step0 fun r=>rfl);subst this;have ht:=RR.trivTake ac h2 qD;exact⟨ht.fok,im hd.1 h2.lok,ht.eok,by rw[gm];simp[hc,triv],ht.f,ht.e⟩
  |true=>
   simp only[ZT];rw[hX]at hx;split at hx
   ·rename_i h3;cases hx
    refine⟨_,fun p hp=>PV.step0 fun r=>by simp only[aC,jI,hp];rw[aaq h3],?_⟩;have:=ff1 10;rw[hc]at this;exact this
   ·rename_i h3;split at hx
    ·rename_i h4;cases hx
     refine⟨_,fun p hp=>PV.step0 fun r=>by simp only[aC,jI,hp];rw[ZV h3,aaq h4],?_⟩;have:=ff1 11;rw[hc]at this;exact this
    ·rename_i h4;simp only[abI,abJ,ZW]at hx;obtain⟨a,ha,rfl⟩:=hx;obtain⟨q,h1,h2⟩:=G _ _ ha _ (.seqL (l:=[]) (iq hd.1 aj) (iA c h) trivial rfl cq.nil (At.nil c) (.inr rfl));rw[fp hc]at h1;have ht:=RR.take (rec:=rec) ac h2 qD;refine⟨⟨[⟨6,[],h.at',slot,q.l,tt⟩],(aW ts c q.p qD).1,q.e++(aW ts c q.p qD).2⟩,fun p hp=>h1.step1 fun r hr=>?_,⟨ht.fok,im hd.1 h2.lok,ht.eok,by rw[gm];simp[hc,h2.l],ht.f,ht.e⟩⟩;simp only[aC,jI,hp];rw[ZV h3,ZV h4];simp only[Z9,pL]at hr;rw[hr];rfl
 cases p with
 |none=>exact⟨triv,PV.step0 fun r=>rfl,key⟩
 |some p=>obtain⟨q,h1,h2⟩:=key;exact⟨q,h1 _ rfl,h2⟩
variable{top:Bool}
def KC{r s:oS}(h:Le r s){i:Nat}{q:PR}(e:md ts r top o i=some q):md ts s top o i=some q:=by
 unfold md at e |-;cases top with
 |false=>exact h _ _ e
 |true=>
  simp only[ZT]at e |-;unfold vF at e |-;split at e
  ·rename_i h2;rw[aaq h2];exact h _ _ e
  ·rename_i h2;rw[ZV h2];split at e
   ·rename_i h3;rw[aaq h3];exact h _ _ e
   ·rename_i h3;rw[ZV h3];exact e
variable{h:aB}
def HQ(aj:bT ts)(G:Good c ts rec)(e:zy rec top o h=some r)(hd:Hd ts h)(ac:h.cond≠ff):
  if h.cond.at' c then ∃n q,md ts (bS c ts n) top o h.at'=some q/\RR c r q else RR c r triv:=by
 unfold zy at e;have hX:=hd.text;have ff1:=RR.fail (c:=c) hd.1 10;have aa:=iA c h;have ao:=iq hd.1 ac;cases top with
 |false=>
  simp only[aa5,Z2]at e;obtain⟨q,h1,h2⟩:=G _ _ e _ (.stmt hd ac rfl);cases hc:h.cond.at' c with
  |false=>
   rw[iC hc]at h1;have:q=triv:=h1.det (PV.step0 fun r=>rfl);subst this;simpa using h2
  |true=>
   rw[fp hc]at h1;obtain⟨n,hn⟩:=h1;simp only[ZT];exact⟨n,q,hn,h2⟩
 |true=>
  simp only[ZT]at e;unfold qj at e;rw[hX]at e;cases hc:h.cond.at' c with
  |false=>
   simp only[aa5,Z2];rw[iC hc]at aa;split at e
   ·obtain⟨q,h1,h2⟩:=G _ _ e _ (.vrb ao aa);have:=PV.noneVar h1;subst this;exact h2
   ·split at e
    ·obtain⟨q,h1,h2⟩:=G _ _ e _ (.function ao aa);have:=PV.noneFn h1;subst this;exact h2
    ·cases e;rw[hc]at ff1;exact ff1
  |true=>
   simp only[ZT];rw[fp hc]at aa;split at e
   ·rename_i h3;obtain⟨q,⟨n,hn⟩,h2⟩:=G _ _ e _ (.vrb ao aa);exact⟨n,q,by simp only[md,vF,ZT];rw[aaq h3];exact hn,h2⟩
   ·rename_i h3;split at e
    ·rename_i h4;obtain⟨q,⟨n,hn⟩,h2⟩:=G _ _ e _ (.function ao aa);exact⟨n,q,by simp only[md,vF,ZT];rw[ZV h3,aaq h4];exact hn,h2⟩
    ·rename_i h4;cases e
     rw[hc]at ff1;exact⟨0,_,by simp only[md,vF,ZT];rw[ZV h3,ZV h4],ff1⟩
def KM(hd:Hd ts h)(top:Bool):lF ts top h=tI ts top h.at':=by
 unfold lF tI;rw[hd.text]
variable{l:List Nd}
def Oh{p:Nat}{out:Option Nat}{q:PR}(h:PV c ts (.seqL top o (some (nx c ts p)) l out) q):PV c ts (.seqL top o (some p) l out) q:=by
 obtain⟨n,h⟩:=h;cases n with
 |zero=>cases h
 |succ n=>exact⟨n+1,by simp only[bS,aC,nE,Z9,ce]at h |-;exact h⟩
def CC(hf:cq f)(k:h.cond.ok 0):cq (joinH f h):=eu hf k
def CB(hf:cq f)(k:h.cond.ok 0)(hp:At c f p)(aa:hI c h=none\/p=none):At c (joinH f h) ((hI c h).or p):=by
 have:=At.join hf hp k (a:=h.at') (fun hc=>by
  rcases aa with h1|h1
  ·rw[fp hc]at h1;cases h1
  ·exact h1)
 unfold joinH hI;cases hc:h.cond.at' c<;>rw[hc]at this<;>simpa using this
variable{out':Option Nat}{out:ar}{l':List Nd}
def HP(am:bT ts)(G:Good c ts rec)(e:seqL ts rec top o f l out=some r)(hf:cq f)(hp:At c f p)(hl:iE l)(pl:pL c l=l')(ho:cq out)(po:At c out out')(an:p=none\/out'=none):
  ∃q,PV c ts (.seqL top o p l' out') q/\RR c r q:=by
 unfold seqL at e;have hh:=mW am hf;have ha:=ny.of am hf hp;generalize bE ts f=hs at e hh ha
 suffices H:∃q,PV c ts (.seqL top o (p.map (nx c ts)) l' out') q/\RR c r q by
  obtain⟨q,h1,h2⟩:=H;refine⟨q,?_,h2⟩;cases p with
  |none=>exact h1
  |some p=>exact Oh h1
 have aa:p.map (nx c ts)=none\/out'=none:=an.imp (fun h=>by rw[h];rfl) id;have fixp:(p.map (nx c ts)).map (nx c ts)=p.map (nx c ts):=by cases p<;>simp[ce]
 generalize p.map (nx c ts)=i at ha aa fixp;cases hs with
 |nil=>
  simp only[ZW]at e;subst e;have:=ha.nil_none;subst this;exact⟨⟨l',out',[]⟩,PV.step0 fun r=>rfl,ho,hl,eU,pl,po,rfl⟩
 |cons h hs=>
  obtain⟨hd,ao⟩:=hh.hd;have ht:=hh.tail;have he:=KM hd top;simp only at e;rw[he]at e;cases ak:tI ts top h.at' with
  |true=>
   rw[ak,aaq rfl]at e;rcases ha.cons with ⟨hc,rfl,aj⟩|⟨hc,aj⟩
   ·have ac:out'=none:=by rcases aa with h|h;cases h;exact h
    subst ac;have jo:=CB (h:=h) ho hd.1 po (.inr rfl);rw[fp hc]at jo;have jf:At c (hs.foldl joinH []) none:=by have:=At.joinH cq.nil ht.conds (At.nil c) aj (.inl rfl);simpa using this
    obtain⟨u,h3,h4⟩:=G _ _ e _ (.seqL (f7 cq.nil ht.conds) jf hl pl (CC ho hd.1) jo (.inl rfl));have:u=⟨l',some h.at',[]⟩:=h3.det (PV.step0 fun r=>rfl);subst this;refine⟨_,PV.step0 fun r=>?_,h4⟩;simp only[Z9,ZW]at fixp;simp only[aC,nE,Z9,fixp,ak,ZT]
   ·have jo:=CB (h:=h) ho hd.1 po (.inl (iC hc));rw[iC hc]at jo;have jf:At c (hs.foldl joinH []) i:=by have:=At.joinH cq.nil ht.conds (At.nil c) aj (.inl rfl);simpa using this
    exact G _ _ e _ (.seqL (f7 cq.nil ht.conds) jf hl pl (CC ho hd.1) (by simpa using jo) aa)
  |false=>
   rw[ak]at e;simp only[aa5,Z2,abI,abJ,ZW]at e;obtain⟨a,aq,_,_,b,hb,rfl⟩:=e;have hr:=HQ am G aq hd ao;rcases ha.cons with ⟨hc,rfl,aj⟩|⟨hc,aj⟩
   ·have ac:out'=none:=by rcases aa with h|h;cases h;exact h
    subst ac;rw[hc,aaq rfl]at hr;obtain⟨n,q,h1,h2⟩:=hr;have j0:cq (joinAll [] a.f):=dY (fun s hs=>(h2.fok.1 s hs).1) cq.nil;have a0:At c (joinAll [] a.f) q.p:=by have:=At.joinAll cq.nil h2.fok (At.nil c) h2.f (.inl rfl);simpa using this
    have jf:At c (hs.foldl joinH (joinAll [] a.f)) q.p:=by have:=At.joinH j0 ht.conds a0 aj (.inr rfl);simpa using this
    obtain⟨u,⟨m,h3⟩,h4⟩:=G _ _ hb _ (.seqL (f7 j0 ht.conds) jf (iN.2 ⟨hl,h2.lok⟩) (by rw[fq,pl,h2.l]) ho po (.inr rfl));refine⟨_,⟨max n m+1,?_⟩,h2.app h4⟩;simp only[Z9,ZW]at fixp;simp only[bS,aC,nE,Z9,fixp,ak,aa5,Z2];rw[KC (kY (Nat.le_max_left n m)) h1];simp only[abI,jO];rw[kY (Nat.le_max_right n m) _ _ h3];rfl
   ·rw[hc]at hr;simp only[aa5,Z2]at hr;have j0:cq (joinAll [] a.f):=dY (fun s hs=>(hr.fok.1 s hs).1) cq.nil;have a0:At c (joinAll [] a.f) none:=by have:=At.joinAll cq.nil hr.fok (At.nil c) hr.f (.inl rfl);simpa[triv]using this
    have jf:At c (hs.foldl joinH (joinAll [] a.f)) i:=by have:=At.joinH j0 ht.conds a0 aj (.inl rfl);simpa using this
    obtain⟨u,h3,h4⟩:=G _ _ hb _ (.seqL (f7 j0 ht.conds) jf (iN.2 ⟨hl,hr.lok⟩) (by rw[fq,pl,hr.l]) ho po aa);simp only[triv,aa6]at h3;refine⟨u,h3,?_⟩;have:=hr.app h4;simpa[triv]using this
def ww(hd:h.cond.ok 0)(kind slot:Nat):iE [gz kind h slot]:=im hd trivial
def wi(c:bP)(h:aB)(kind slot:Nat):pL c [gz kind h slot]=jP kind (hI c h) slot:=by
 rw[gm];unfold gz hI jP;cases h.cond.at' c<;>simp[pL]
def kF(l:List Nd):give l []=l:=by
 unfold give
 induction l with
 |nil=>rfl
 |cons n l ih=>rw[aaU,ih];cases n;simp
def Ej(aa:bT ts)(G:Good c ts rec){slot:Nat}(e:branch ts rec o h slot=some r)(hd:Hd ts h)(ac:h.cond≠ff):∃q,PV c ts (.branch o (hI c h) slot) q/\RR c r q:=by
 unfold branch at e;simp only[abI,abJ]at e;obtain⟨a,ha,b,hb,l1,ak,l2,aj,e⟩:=e;have:=bu ak;subst this;have:=bu aj;subst this;obtain⟨q1,h1,k1⟩:=G _ _ ha _ (.inside (iq hd.1 ac) (iA c h));obtain⟨q2,h2,k2⟩:=G _ _ hb _ (.block k1.fok k1.f);obtain⟨s1,s2,s3,s4⟩:=iY aa k2.fok k2.f (pi ts dr) (nW dr);generalize an:aM ts b.f (bD dr)=sp at e s1 s2 s3 s4;obtain⟨xs,out⟩:=sp;simp only[abJ,ZW]at e;obtain⟨d,am,rfl⟩:=e;obtain⟨q3,h3,k3⟩:=G _ _ am _ (.elses s1 s3 (eD (eD (ww hd.1 8 slot) k1.lok) k2.lok) (by rw[fU,fU,wi,k1.l,k2.l]) s2 s4 (iQ _ _));refine⟨_,h1.step3 h2 h3 fun r r1 r2 r3=>by simp only[aC,ku,mz,r1,r2,r3,abI,jO];rfl,?_⟩;exact⟨k3.fok,k3.lok,cI.2 ⟨cI.2 ⟨k1.eok,k2.eok⟩,k3.eok⟩,k3.l,k3.f,by rw[cR,cR,k1.e,k2.e,k3.e]⟩
variable{x:Option Nat}{xs:List aB}
def FC(an:bT ts)(G:Good c ts rec)(e:elses ts rec o xs l out=some r)(aa:vO ts xs)(px:ny c xs x)(hl:iE l)(pl:pL c l=l')(ho:cq out)(po:At c out out')(ak:x=none\/out'=none):
  ∃q,PV c ts (.elses o x l' out') q/\RR c r q:=by
 unfold elses at e;cases xs with
 |nil=>
  simp only[ZW]at e;subst e;have:=px.nil_none;subst this;exact⟨⟨l',out',[]⟩,PV.step0 fun r=>rfl,ho,hl,eU,pl,po,rfl⟩
 |cons h xs=>
  obtain⟨hd,ao⟩:=aa.hd;obtain⟨s1,s2,s3,s4⟩:=iY an (iq hd.1 ao) (iA c h) (pi ts kT) (nW kT);simp only at e;generalize aS:aM ts (bv h) (bD kT)=sp at e s1 s2 s3 s4;obtain⟨ys,rest⟩:=sp;simp only[abI,abJ,ZW]at e;obtain⟨a,ha,l1,aq,b,hb,d,am,rfl⟩:=e;have:=bu aq;subst this;simp only at s1 s2 s3 s4;obtain⟨q1,h1,k1⟩:=G _ _ ha _ (.block s2 s4);have jo:cq (joinAll out a.f):=dY (fun s hs=>(k1.fok.1 s hs).1) ho;rcases px.cons with ⟨hc,rfl,px2⟩|⟨hc,px2⟩
  ·have ac:out'=none:=by rcases ak with h|h;cases h;exact h
   subst ac;rw[fp hc]at h1 s3 s4;have ja:At c (joinAll out a.f) q1.p:=by have:=At.joinAll ho k1.fok po k1.f (.inl rfl);simpa using this
   have aj:qz c ts (some (h.at'+1)) (pi ts kT)=none\/q1.p=none:=by
    rcases iQ ((some (h.at'+1)).map (nx c ts)) (pi ts kT)with h|h
    ·exact .inl h
    ·right
     simp only[Z9]at h1 h;rw[h]at h1;have:=PV.noneBlock h1;subst this;rfl
   obtain⟨q2,h2,k2⟩:=G _ _ hb _ (.ifs s1 s3 (eD hl k1.lok) (by rw[fU,pl,k1.l]) jo ja aj);obtain⟨q3,h3,k3⟩:=G _ _ am _ (.elses aa.tail px2 k2.lok k2.l k2.fok k2.f (.inl rfl));have:q3=⟨q2.l,q2.p,[]⟩:=h3.det (PV.step0 fun r=>rfl);subst this;refine⟨⟨q2.l,q2.p,q1.e++q2.e⟩,h1.step2 h2 fun r r1 r2=>?_,?_⟩
   ·simp only[aC,nP,mz];simp only[Z9]at r1 r2 |-;rw[r1];simp only[abI,jO];rw[r2];rfl
   ·exact⟨k3.fok,k3.lok,cI.2 ⟨cI.2 ⟨k1.eok,k2.eok⟩,k3.eok⟩,k3.l,k3.f,by rw[cR,cR,k1.e,k2.e,k3.e];simp⟩
  ·rw[iC hc]at h1 s3 s4;simp only[aac,Option.filter_none]at h1 s3 s4;have:=PV.noneBlock h1;subst this;have ja:At c (joinAll out a.f) out':=by have:=At.joinAll ho k1.fok po k1.f (.inr rfl);simpa[triv]using this
   have gl:pL c (give l a.l)=l':=by rw[fU,pl,k1.l];exact kF l'
   obtain⟨q2,h2,k2⟩:=G _ _ hb _ (.ifs s1 s3 (eD hl k1.lok) gl jo ja (.inl rfl));have:q2=⟨l',out',[]⟩:=h2.det (PV.step0 fun r=>rfl);subst this;obtain⟨q3,h3,k3⟩:=G _ _ am _ (.elses aa.tail px2 k2.lok k2.l k2.fok k2.f ak);refine⟨q3,h3,k3.fok,k3.lok,cI.2 ⟨cI.2 ⟨k1.eok,k2.eok⟩,k3.eok⟩,k3.l,k3.f,by rw[cR,cR,k1.e,k2.e,k3.e];simp[triv]⟩
def Nz(ao:bT ts)(G:Good c ts rec){ys:List aB}{y:Option Nat}(e:ifs rec o ys l out=some r)(ac:vO ts ys)(py:ny c ys y)(hl:iE l)(pl:pL c l=l')(ho:cq out)(po:At c out out')(aj:y=none\/out'=none):
  ∃q,PV c ts (.ifs o y l' out') q/\RR c r q:=by
 unfold ifs at e;cases ys with
 |nil=>
  simp only[ZW]at e;subst e;have:=py.nil_none;subst this;exact⟨⟨l',out',[]⟩,PV.step0 fun r=>rfl,ho,hl,eU,pl,po,rfl⟩
 |cons h ys=>
  obtain⟨hd,am⟩:=ac.hd;have ff1:=RR.fail (c:=c) hd.1 11;simp only at e;split at e
  ·rename_i ak;simp only[abI,abJ,ZW]at e;obtain⟨b,hb,rfl⟩:=e;rcases py.cons with ⟨hc,rfl,py2⟩|⟨hc,py2⟩
   ·have aa:out'=none:=by rcases aj with h|h;cases h;exact h
    subst aa;obtain⟨q2,h2,k2⟩:=G _ _ hb _ (.ifs ac.tail py2 hl pl ho po (.inl rfl));have:q2=⟨l',none,[]⟩:=h2.det (PV.step0 fun r=>rfl);subst this;refine⟨⟨l',none,[(11,(h.at':Int))]⟩,PV.step0 fun r=>by simp only[aC,BV];rw[aaq ak],k2.fok,k2.lok,cI.2 ⟨ff1.eok,k2.eok⟩,k2.l,k2.f,?_⟩;rw[cR,lq,hc,k2.e];rfl
   ·obtain⟨q2,h2,k2⟩:=G _ _ hb _ (.ifs ac.tail py2 hl pl ho po aj);refine⟨q2,h2,k2.fok,k2.lok,cI.2 ⟨ff1.eok,k2.eok⟩,k2.l,k2.f,?_⟩;rw[cR,lq,hc,k2.e];rfl
  ·rename_i ak;simp only[abI,abJ,ZW]at e;obtain⟨a,ha,l1,an,b,hb,rfl⟩:=e;have:=bu an;subst this;obtain⟨q1,h1,k1⟩:=G _ _ ha _ (.branch hd am rfl);have jo:cq (joinAll out a.f):=dY (fun s hs=>(k1.fok.1 s hs).1) ho;rcases py.cons with ⟨hc,rfl,py2⟩|⟨hc,py2⟩
   ·have aa:out'=none:=by rcases aj with h|h;cases h;exact h
    subst aa;rw[fp hc]at h1;have ja:At c (joinAll out a.f) q1.p:=by have:=At.joinAll ho k1.fok po k1.f (.inl rfl);simpa using this
    obtain⟨q2,h2,k2⟩:=G _ _ hb _ (.ifs ac.tail py2 (eD hl k1.lok) (by rw[fU,pl,k1.l]) jo ja (.inl rfl));have:q2=⟨give l' q1.l,q1.p,[]⟩:=h2.det (PV.step0 fun r=>rfl);subst this;refine⟨⟨give l' q1.l,q1.p,q1.e⟩,h1.step1 fun r hr=>by simp only[aC,BV];rw[ZV ak,hr];rfl,k2.fok,k2.lok,cI.2 ⟨k1.eok,k2.eok⟩,k2.l,k2.f,?_⟩;rw[cR,k1.e,k2.e];simp
   ·rw[iC hc]at h1;have:=PV.noneBranch h1;subst this;have ja:At c (joinAll out a.f) out':=by have:=At.joinAll ho k1.fok po k1.f (.inr rfl);simpa[triv]using this
    obtain⟨q2,h2,k2⟩:=G _ _ hb _ (.ifs ac.tail py2 (eD hl k1.lok) (show _=l' by rw[fU,pl,k1.l];exact kF l') jo ja aj);refine⟨q2,h2,k2.fok,k2.lok,cI.2 ⟨k1.eok,k2.eok⟩,k2.l,k2.f,?_⟩;rw[cR,k1.e,k2.e];simp[triv]
def DM(aS:bT ts)(G:Good c ts rec){g:ar}{g':Option Nat}(e:sCalls rec o h xs l g=some r)(hd:Hd ts h)(ak:vO ts xs)(px:ny c xs x)(hl:iE l)(pl:pL c l=l')(hg:cq g)(pg:At c g g')
  (ac:x=none\/g'=none/\hI c h≠none/\pL c l.tail=[]/\l≠[]):∃q,PV c ts (.sCalls o (hI c h) x l' g') q/\RR c r q:=by
 unfold sCalls at e;cases xs with
 |nil=>
  simp only[ZW]at e;subst e;have:=px.nil_none;subst this;exact⟨⟨l',g',[]⟩,PV.step0 fun r=>by simp only[aC,lu];cases hI c h<;>rfl,hg,hl,eU,pl,pg,rfl⟩
 |cons y xs=>
  simp only[abI,abJ,ZW]at e;obtain⟨a,ha,_,_,b,hb,rfl⟩:=e;obtain⟨yd,yne⟩:=ak.hd;obtain⟨q,h1,h2⟩:=G _ _ ha _ (.listed (mo yd.1 yne) (mn c y));have aa:iE (l++[(⟨19,h.text,h.at',0,a.l,y.cond⟩:Nd)]):=iN.2 ⟨hl,im yd.1 h2.lok⟩;have aj:=G9 yd.1 aa;have jg:cq (joinAll g a.f):=dY (fun s hs=>(h2.fok.1 s hs).1) hg;rcases px.cons with ⟨hc,rfl,px2⟩|⟨hc,px2⟩
  ·rw[fp hc]at h1;rcases ac with ac|⟨rfl,hi,an,ao⟩
   ·cases ac
   have aq:h.cond.at' c=true:=by
    cases hh:h.cond.at' c with
    |true=>rfl
    |false=>exact absurd (iC hh) hi
   have pnew:pL c (kJ (l++[(⟨19,h.text,h.at',0,a.l,y.cond⟩:Nd)]) y.cond)=[⟨19,X ts h.at',h.at',0,q.l,tt⟩]:=by
    rw[wx c yd.1 aa,aaq hc];cases l with
    |nil=>exact absurd rfl ao
    |cons n l=>
     rw[aaz,abL,fq,gm];rw[abL]at an;simp[hc,h2.l,hd.text,an]
   have pj:At c (joinAll g a.f) q.p:=by have:=At.joinAll hg h2.fok pg h2.f (.inl rfl);simpa using this
   obtain⟨u,h3,h4⟩:=G _ _ hb _ (.sCalls hd rfl ak.tail px2 aj pnew jg pj (.inl rfl));have hu:u=⟨[⟨19,X ts h.at',h.at',0,q.l,tt⟩],q.p,[]⟩:=h3.det (PV.step0 fun r=>by simp only[aC,lu];cases hI c h<;>rfl);subst hu;refine⟨_,h1.step1 fun r hr=>?_,h2.app h4⟩;rw[fp aq];simp only[aC,lu,hr,abI,jO,aa6]
  ·rw[iC hc]at h1;have hq:=PV.noneListed h1;subst hq;have pnew:pL c (kJ (l++[(⟨19,h.text,h.at',0,a.l,y.cond⟩:Nd)]) y.cond)=l':=by
    rw[wx c yd.1 aa,fq,gm];simp[hc,pl]
   have pj:At c (joinAll g a.f) g':=by have:=At.joinAll hg h2.fok pg h2.f (.inr rfl);simpa[triv]using this
   have am:x=none\/g'=none/\hI c h≠none/\pL c (kJ (l++[(⟨19,h.text,h.at',0,a.l,y.cond⟩:Nd)]) y.cond).tail=[]/\kJ (l++[(⟨19,h.text,h.at',0,a.l,y.cond⟩:Nd)]) y.cond≠[]:=by
    rcases ac with ac|⟨h5,h6,h7,h8⟩
    ·exact .inl ac
    ·refine .inr ⟨h5,h6,?_,?_⟩
     ·rw[zt];cases l with
      |nil=>exact absurd rfl h8
      |cons n l=>
       rw[abL]at h7;rw[aaz,abL,fq,gm,h7];simp[hc]
     ·cases l with
      |nil=>exact absurd rfl h8
      |cons n l=>simp[kJ]
   obtain⟨u,h3,h4⟩:=G _ _ hb _ (.sCalls hd rfl ak.tail px2 aj pnew jg pj am);refine⟨u,h3,?_⟩;have:=h2.app h4;simpa[triv]using this
def Jo(ac:bT ts)(G:Good c ts rec)(e:stmt ts rec o h=some r)(hd:Hd ts h)(am:h.cond≠ff):∃q,PV c ts (.stmt o (hI c h)) q/\RR c r q:=by
 unfold stmt at e;have hX:=hd.text;have aa:=iA c h;have ao:=iq hd.1 am;by_cases h1:h.text=lT
 ·rw[aaq h1]at e;obtain⟨q,k1,k2⟩:=G _ _ e _ (.vrb ao aa);cases hc:h.cond.at' c with
  |false=>
   rw[iC hc]at k1 |-;have:=PV.noneVar k1;subst this;exact⟨triv,PV.step0 fun r=>rfl,k2⟩
  |true=>
   rw[fp hc]at k1 |-;rw[hX]at h1;exact⟨q,k1.step1 fun r hr=>by simp only[aC,gM];rw[aaq h1];exact hr,k2⟩
 rw[ZV h1]at e;by_cases h2:h.text=kT
 ·rw[aaq h2]at e;obtain⟨q,k1,k2⟩:=G _ _ e _ (.branch hd am rfl);cases hc:h.cond.at' c with
  |false=>
   rw[iC hc]at k1 |-;have:=PV.noneBranch k1;subst this;exact⟨triv,PV.step0 fun r=>rfl,k2⟩
  |true=>
   rw[fp hc]at k1 |-;rw[hX]at h1 h2;exact⟨q,k1.step1 fun r hr=>by simp only[aC,gM];rw[ZV h1,aaq h2];exact hr,k2⟩
 rw[ZV h2]at e;by_cases h3:h.text=jG
 ·rw[aaq h3]at e;simp only[abI,abJ,ZW]at e;obtain⟨a,ha,b,hb,l1,aj,l2,a0,rfl⟩:=e;have:=bu aj;subst this;have:=bu a0;subst this;obtain⟨q1,k1,r1⟩:=G _ _ ha _ (.inside ao aa);obtain⟨q2,k2,r2⟩:=G _ _ hb _ (.block r1.fok r1.f);have R:RR c ⟨give (give [gz 9 h 0] a.l) b.l,b.f,a.e++b.e⟩ ⟨give (give (jP 9 (hI c h) 0) q1.l) q2.l,q2.p,q1.e++q2.e⟩:=
   ⟨r2.fok,eD (eD (ww hd.1 9 0) r1.lok) r2.lok,cI.2 ⟨r1.eok,r2.eok⟩,by rw[fU,fU,wi,r1.l,r2.l],r2.f,by rw[cR,r1.e,r2.e]⟩
  cases hc:h.cond.at' c with
  |false=>
   rw[iC hc]at k1 R |-;have:=PV.noneInside k1;subst this;have:=PV.noneBlock k2;subst this;exact⟨triv,PV.step0 fun r=>rfl,R⟩
  |true=>
   rw[fp hc]at k1 R |-;rw[hX]at h1 h2 h3;refine⟨_,k1.step2 k2 fun r e1 e2=>?_,R⟩;simp only[aC,gM];rw[ZV h1,ZV h2,aaq h3];simp only[Z9]at e1;rw[e1];simp only[abI,jO];rw[e2];rfl
 rw[ZV h3]at e;by_cases h4:h.text=Im
 ·rw[aaq h4]at e;obtain⟨q,k1,k2⟩:=G _ _ e _ (.block (mo hd.1 am) (mn c h));cases hc:h.cond.at' c with
  |false=>
   rw[iC hc]at k1 |-;have:=PV.noneBlock k1;subst this;exact⟨triv,PV.step0 fun r=>rfl,k2⟩
  |true=>
   rw[fp hc]at k1 |-;rw[hX]at h1 h2 h3 h4;exact⟨q,k1.step1 fun r hr=>by simp only[aC,gM];rw[ZV h1,ZV h2,ZV h3,aaq h4];exact hr,k2⟩
 rw[ZV h4]at e;by_cases h5:h.text=iH
 ·rw[aaq h5]at e;obtain⟨s1,s2,s3,s4⟩:=iY ac ao aa (pi ts a8) (nW a8);generalize ak:aM ts (bv h) (bD a8)=sp at e s1 s2 s3 s4;obtain⟨fin,g⟩:=sp;simp only[abI,abJ]at e;obtain⟨a,ha,l1,aj,e⟩:=e;have:=bu aj;subst this;simp only at s1 s2 s3 s4;obtain⟨q1,k1,r1⟩:=G _ _ ha _ (.line s2 s4);have jf:cq (fin.foldl joinH a.f):=f7 r1.fok s1.conds;have an:q1.p=none\/(((hI c h).map (·+1)).map (nx c ts)).filter (pi ts a8)=none:=by
   rcases iQ (((hI c h).map (·+1)).map (nx c ts)) (pi ts a8)with h|h
   ·exact .inr h
   ·rw[h]at k1;have:=PV.noneLine k1;subst this;exact .inl rfl
  have ja:=At.joinH r1.fok s1.conds r1.f s3 an;obtain⟨t1,t2,t3,t4⟩:=iL ac jf ja a8;generalize ak:Syn.take ts (fin.foldl joinH a.f) a8=sp at e t1 t2 t3 t4;obtain⟨f2,e2⟩:=sp;simp only[ZW]at e;subst e;have R:RR c ⟨give [gz 10 h 0] a.l,f2,a.e++e2⟩ ⟨give (jP 10 (hI c h) 0) q1.l,(aW ts c (q1.p.or ((((hI c h).map (·+1)).map (nx c ts)).filter (pi ts a8))) a8).1,q1.e++(aW ts c (q1.p.or ((((hI c h).map (·+1)).map (nx c ts)).filter (pi ts a8))) a8).2⟩:=
   ⟨t1,eD (ww hd.1 10 0) r1.lok,cI.2 ⟨r1.eok,t2⟩,by rw[fU,wi,r1.l],t3,by rw[cR,r1.e,t4]⟩
  cases hc:h.cond.at' c with
  |false=>
   rw[iC hc]at k1 R |-;have:=PV.noneLine k1;subst this;exact⟨triv,PV.step0 fun r=>rfl,R⟩
  |true=>
   rw[fp hc]at k1 R |-;rw[hX]at h1 h2 h3 h4 h5;refine⟨_,k1.step1 fun r e1=>?_,R⟩;simp only[aC,gM];rw[ZV h1,ZV h2,ZV h3,ZV h4,aaq h5];simp only[mz];simp only[Z9]at e1 |-;rw[e1];rfl
 rw[ZV h5]at e;by_cases h6:h.text=jU\/h.text=ew
 ·rw[aaq h6]at e;simp only[abI,abJ]at e;obtain⟨a,ha,l1,aj,e⟩:=e;have:=bu aj;subst this;obtain⟨q1,k1,r1⟩:=G _ _ ha _ (.line ao aa);have ht:=RR.take (rec:=rec) ac r1 a8;generalize ak:Syn.take ts a.f a8=sp at e ht;obtain⟨f2,e2⟩:=sp;simp only[ZW]at e;subst e;have R:∀kd,RR c ⟨give [gz kd h 0] a.l,f2,a.e++e2⟩ ⟨give (jP kd (hI c h) 0) q1.l,(aW ts c q1.p a8).1,q1.e++(aW ts c q1.p a8).2⟩:=fun kd=>
   ⟨ht.fok,eD (ww hd.1 kd 0) r1.lok,ht.eok,by rw[fU,wi,r1.l],ht.f,ht.e⟩
  have R:=R (if h.text=ew then 12 else 11);cases hc:h.cond.at' c with
  |false=>
   rw[iC hc]at k1 R |-;have:=PV.noneLine k1;subst this;exact⟨triv,PV.step0 fun r=>rfl,R⟩
  |true=>
   rw[fp hc]at k1 R |-;rw[hX]at h1 h2 h3 h4 h5 h6 R;rw[hX];refine⟨_,k1.step1 fun r e1=>?_,R⟩;simp only[aC,gM];rw[ZV h1,ZV h2,ZV h3,ZV h4,ZV h5,aaq h6];simp only[Z9]at e1;rw[e1];rfl
 rw[ZV h6]at e;have hn:=nu ac (mo hd.1 am) (mn c h) 7 0;have aS:(named ts (bX h) 7 0).l.tail=[]:=by rw[xT ac hd am];split<;>rfl
 dsimp only at e;by_cases h7:(named ts (bX h) 7 0).l=[]
 ·rw[aaq h7]at e;cases e
  have hp:(aI ts c (hI c h) 7 0).l=[]:=by rw[<-hn.l,h7];rfl
  have aq:(aI ts c (hI c h) 7 0).p=none:=by
   unfold aI at hp |-;generalize (hI c h).map (nx c ts)=w at hp |-;cases w with
   |none=>rfl
   |some i=>
    by_cases hh:K ts i≠1\/dG (X ts i)=true
    ·simp only[aaq hh]
    ·simp only[ZV hh]at hp;cases hp
  have R:RR c ⟨[],[],(named ts (bX h) 7 0).e⟩ ⟨[],none,(aI ts c (hI c h) 7 0).e⟩:=⟨cq.nil,trivial,hn.eok,rfl,rfl,hn.e⟩;cases hc:h.cond.at' c with
  |false=>
   rw[iC hc]at R |-;exact⟨triv,PV.step0 fun r=>rfl,R⟩
  |true=>
   rw[fp hc]at R hp aq |-;rw[hX]at h1 h2 h3 h4 h5 h6;have a2:∀(n:Nat),(∀r:oS,True):=fun _ _=>trivial;refine⟨⟨[],none,(aI ts c (some h.at') 7 0).e⟩,?_,R⟩;have z1:PV c ts (.line 0 o none 0) triv:=by
    have z6:PV c ts (.unary o none 0) triv:=(PV.step0 fun r=>rfl:PV c ts (.unaryH o none 0) triv).step1 fun r hr=>by simp only[aC,ry];exact hr
    have zk:∀k,k<=5->PV c ts (.line (5-k) o none 0) triv:=by
     intro k
     induction k with
     |zero=>intro _;exact z6.step1 fun r hr=>by simp only[aC,ni,aaq];exact hr
     |succ k ih=>
      intro hk;have ih:=ih ab;have e5:5-(k+1)+1=5-k:=by omega
      have zl:PV c ts (.lineL (5-(k+1)) o 0 true [] none none) triv:=PV.step0 fun r=>rfl;exact ih.step2 zl fun r r1 r2=>by
       simp only[aC,ni];rw[ZV ab,e5,r1];simp only[triv]at r2 |-;simp only[abI,jO];rw[r2];rfl
    exact zk 5 ab
   have z2:PV c ts (.sCalls o (some h.at') none [] none) ⟨[],none,[]⟩:=PV.step0 fun r=>rfl;refine z1.step2 z2 fun r r1 r2=>?_;simp only[aC,gM];rw[ZV h1,ZV h2,ZV h3,ZV h4,ZV h5,ZV h6];simp only[hp,aq,qz,aac,Option.filter_none,rH,r1,abI,jO];simp only[triv,give,List.map_nil,r2,jO,rH];simp
 rw[ZV h7]at e;obtain⟨s1,s2,s3,s4⟩:=iY ac hn.fok hn.f (pi ts eM) (nW eM);generalize ak:aM ts (named ts (bX h) 7 0).f (bD eM)=sp at e s1 s2 s3 s4;obtain⟨xs,g⟩:=sp;simp only at s1 s2 s3 s4 e;obtain⟨t1,t2,t3,t4⟩:=iL ac s2 s4 su;generalize ak:Syn.take ts g su=sp at e t1 t2 t3 t4;obtain⟨g1,e1⟩:=sp;simp only[abI,abJ]at e t1 t2 t3 t4;obtain⟨b,hb,l1,aj,d,a1,e⟩:=e;have:=bu aj;subst this;obtain⟨q1,k1,r1⟩:=G _ _ hb _ (.line t1 t3);have an:(((aI ts c (hI c h) 7 0).p.map (nx c ts)).filter (pi ts eM))=none\/q1.p=none/\hI c h≠none/\pL c (give (named ts (bX h) 7 0).l b.l).tail=[]/\give (named ts (bX h) 7 0).l b.l≠[]:=by
  rcases iQ ((aI ts c (hI c h) 7 0).p.map (nx c ts)) (pi ts eM)with h8|h8
  ·exact .inl h8
  ·cases hy:(((aI ts c (hI c h) 7 0).p.map (nx c ts)).filter (pi ts eM))with
   |none=>exact .inl rfl
   |some j=>
    refine .inr ⟨?_,fun hi=>?_,?_,?_⟩
    ·rw[h8]at k1;simp only[rH]at k1;have:=PV.noneLine k1;subst this;rfl
    ·rw[hi]at hy;simp[aI]at hy
    ·have:(give (named ts (bX h) 7 0).l b.l).tail=[]:=by
      unfold give;rw[<-List.map_tail,aS];rfl
     rw[this];rfl
    ·unfold give;simpa using h7
 obtain⟨q2,k2,r2⟩:=G _ _ a1 _ (.sCalls hd rfl s1 s3 (eD hn.lok r1.lok) (by rw[fU,hn.l,r1.l]) r1.fok r1.f an);obtain⟨u1,u2,u3,u4⟩:=iL ac r2.fok r2.f a8;generalize ak:Syn.take ts d.f a8=sp at e u1 u2 u3 u4;obtain⟨f2,e2⟩:=sp;simp only[ZW]at e;subst e;have R:RR c ⟨d.l,f2,(named ts (bX h) 7 0).e++e1++b.e++d.e++e2⟩ ⟨q2.l,(aW ts c q2.p a8).1,(aI ts c (hI c h) 7 0).e++(aW ts c (((aI ts c (hI c h) 7 0).p.map (nx c ts)).filter fun i=>!pi ts eM i) su).2++q1.e++q2.e++(aW ts c q2.p a8).2⟩:=
  ⟨u1,r2.lok,cI.2 ⟨cI.2 ⟨cI.2 ⟨cI.2 ⟨hn.eok,t2⟩,r1.eok⟩,r2.eok⟩,u2⟩,r2.l,u3,by rw[cR,cR,cR,cR,hn.e,t4,r1.e,r2.e,u4]⟩
 cases hc:h.cond.at' c with
 |false=>
  rw[iC hc]at k1 k2 R |-;have:=PV.noneLine k1;subst this;have:q2=triv:=k2.det (PV.step0 fun r=>rfl);subst this;exact⟨triv,PV.step0 fun r=>rfl,R⟩
 |true=>
  rw[fp hc]at k1 k2 R |-;rw[hX]at h1 h2 h3 h4 h5 h6;refine⟨_,k1.step2 k2 fun r z1 z2=>?_,R⟩;simp only[aC,gM];rw[ZV h1,ZV h2,ZV h3,ZV h4,ZV h5,ZV h6];simp only[mz,z1,abI,jO];rw[z2];rfl
def CU(aa:bT ts):∀n,Good c ts (run ts n)
 |0=>fun x r e=>by cases e
 |n+1=>fun x r e y hr=>by
  have G:=CU aa n;have e:step ts (run ts n) x=some r:=e;cases hr with
  |line h1 h2=>exact If aa G e h1 h2
  |lineL h1 h2 h3 h4 h5 h6 h7=>exact EE aa G e h1 h2 h3 h4 h5 h6 h7
  |lineO h1 h2 h3 h4 h5 h6 h7=>exact FJ aa G e h1 h2 h3 h4 h5 h6 h7
  |unary h1 h2=>exact EK aa G e h1 h2
  |unaryH h1 h2 h3=>subst h3;exact Da aa G e h1 h2
  |calls h1 h3 h4 h5 h6 h7 h8 h9 ac=>subst h3;exact FL aa G e h1 h4 h5 h6 h7 h8 h9 ac
  |inside h1 h2=>exact Ck aa G e h1 h2
  |listed h1 h2=>exact Dx aa G e h1 h2
  |listL h1 h2 h3 h4 h5 h6 h7=>exact FE aa G e h1 h2 h3 h4 h5 h6 h7
  |item h1 h2=>exact IZ aa G e h1 h2
  |behind h1 h2=>exact Ee aa G e h1 h2
  |vrb h1 h2=>exact y8 aa G e h1 h2
  |function h1 h2=>exact yP aa G e h1 h2
  |block h1 h2=>exact Fq aa G e h1 h2
  |seqL h1 h2 h3 h4 h5 h6 h7=>exact HP aa G e h1 h2 h3 h4 h5 h6 h7
  |stmt h1 h2 h3=>subst h3;exact Jo aa G e h1 h2
  |sCalls h1 h3 h4 h5 h6 h7 h8 h9 ac=>subst h3;exact DM aa G e h1 h4 h5 h6 h7 h8 h9 ac
  |branch h1 h2 h3=>subst h3;exact Ej aa G e h1 h2
  |elses h1 h2 h3 h4 h5 h6 h7=>exact FC aa G e h1 h2 h3 h4 h5 h6 h7
  |ifs h1 h2 h3 h4 h5 h6 h7=>exact Nz aa G e h1 h2 h3 h4 h5 h6 h7
end
end Syn
