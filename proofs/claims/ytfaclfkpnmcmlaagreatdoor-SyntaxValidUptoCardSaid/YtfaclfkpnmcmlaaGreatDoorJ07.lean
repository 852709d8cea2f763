import Derived.Test.YtfaclfkpnmcmlaaGreatDoorJ05
set_option maxHeartbeats 8000000
set_option linter.all false
namespace Syn
open Dg
section
variable {c:aD} {Z:List Tok}
def Good(c:aD)(Z:List Tok)(rec:fG):Prop:=∀x r,rec x=some r->∀y,io c Z x y->∃q,PV c Z y q/\RR c r q
theorem oO(c:aD)(Z:List Tok)(p:Option Nat)(is:Nat->Bool):bq c Z p is=(p.map (nx c Z)).filter is:=rfl
def pP (o : Option Nat) (is : Nat → Bool) : (o.filter is = none) ∨ (o.filter fun i => !is i) = none := by
  cases o with
  | none => exact .inl rfl
  | some i => cases h : is i
              · exact .inl (by simp [Option.filter, h])
              · exact .inr (by simp [Option.filter, h])
def QI(g:bw Z){rec:fG}(G:Good c Z rec){k o slot:Nat}{f:ad}{p:Option Nat}{r:aw}(e:line rec k o f slot=some r)(hf:aA f)(hp:At c f p):∃q,PV c Z (.line k o p slot) q/\RR c r q:=by
 unfold line at e;split at e
 .rename_i d;obtain⟨q,h1,h2⟩:=G _ _ e _ (.unary hf hp);exact⟨q,h1.step1 fun r hr=>by simp only[ay,mN,ag d];exact hr,h2⟩
 .rename_i d;simp only[cC,eH,a8]at e;obtain⟨a,ha,b,hb,rfl⟩:=e;obtain⟨q,h1,h2⟩:=G _ _ ha _ (.line hf hp);obtain⟨u,h3,h4⟩:=G _ _ hb _ (.lineL h2.lok h2.l h2.fok h2.f aA.nil (At.nil c) (.inr rfl));exact⟨_,h1.step2 h3 fun r hr hs=>by simp only[ay,mN,ab d,hr,cC,dz,hs],h2.app h4⟩
theorem RB(k i:Nat)(d:T):gP k ⟨i,d,K Z i,X Z i⟩=kw Z k i:=rfl
theorem pU(s:al)(i:Nat)(d:T):bg s ⟨i,d,K Z i,X Z i⟩=aY Z s i:=rfl
def QJ (an : bw Z) {rec : fG} (G : Good c Z rec) {k o slot : Nat} {first : Bool} {l l' : List M} {g out : ad} {g' out' : Option Nat} {r : aw} (e : lineL Z rec k o slot first l g out = some r) (hl : cz l) (pl : pL c l = l') (hg : aA g) (pg : At c g g') (ho : aA out) (po : At c out out') (am : g' = none ∨ out' = none) :
    ∃ q, PV c Z (.lineL k o slot first l' g' out') q ∧ RR c r q := by
  unfold lineL at e
  split at e
  · rename_i hz
    subst hz
    cases e
    have : g' = none := by cases g' with
      | none => rfl
      | some i => simp [At, di] at pg
    subst this
    exact ⟨⟨l', out', []⟩, PV.step0 fun r => rfl, ho, hl, jc, pl, po, rfl⟩
  · split at e
    · rename_i hk
      cases e
      refine ⟨⟨l', out'.or g', []⟩, PV.step0 fun r => ?_, lR (fun s hs => (hg.1 s hs).1) ho, hl, jc, pl, At.joinAll ho hg po pg (am.symm), rfl⟩
      simp only [ay, oQ]
      cases g' with
      | none => simp
      | some i => have : out' = none := by rcases am with h | h; cases h; exact h
                  simp [hk, this]
    · rename_i hk
      obtain ⟨s1, s2, s3, s4⟩ := oY an hg pg (kw Z k) (RB k)
      generalize ap : bM Z g (gP k) = sp at e s1 s2 s3 s4
      obtain ⟨ops, rest⟩ := sp
      simp only [cC, eH, a8] at e
      obtain ⟨a, ha, b, hb, rfl⟩ := e
      obtain ⟨q, h1, h2⟩ := G _ _ ha _ (.lineO s1 s3 hl pl aA.nil (At.nil c) (.inr rfl))
      have jo : aA (joinAll out rest) := lR (fun s hs => (s2.1 s hs).1) ho
      cases g' with
      | none =>
        have hq : q = ⟨l', none, []⟩ := h1.det (PV.step0 fun r => rfl)
        subst hq
        have ja : At c (joinAll out rest) out' := by have := At.joinAll ho s2 po s4 (.inr rfl); simpa using this
        obtain ⟨u, h3, h4⟩ := G _ _ hb _ (.lineL h2.lok h2.l h2.fok h2.f jo ja (.inl rfl))
        have hu : u = ⟨l', out', []⟩ := h3.det (PV.step0 fun r => rfl)
        subst hu
        exact ⟨⟨l', out', []⟩, PV.step0 fun r => rfl, h2.app h4⟩
      | some p =>
        have ac : out' = none := by rcases am with h | h; cases h; exact h
        subst ac
        have ja : At c (joinAll out rest) (bq c Z (some p) fun i => !kw Z k i) := by have := At.joinAll ho s2 po s4 (.inl rfl); simpa [bq] using this
        have aa : q.p = none ∨ (bq c Z (some p) fun i => !kw Z k i) = none := by
          rcases pP ((some p).map (nx c Z)) (kw Z k) with h | h
          · left
            rw [h] at h1
            have hq : q = ⟨l', none, []⟩ := h1.det (PV.step0 fun r => rfl)
            rw [hq]
          · exact .inr h
        obtain ⟨u, h3, h4⟩ := G _ _ hb _ (.lineL h2.lok h2.l h2.fok h2.f jo ja aa)
        refine ⟨_, h1.step2 h3 fun r hr hs => ?_, h2.app h4⟩
        simp only [ay, oQ]
        rw [ab hk]
        simp only [oO, hr, cC, dz]
        simp only [oO] at hs
        rw [hs]; rfl
def QL(J:bw Z){rec:fG}(G:Good c Z rec){k o slot:Nat}{ops:List ah}{op:Option Nat}{l l':List M}{g:ad}{g':Option Nat}{r:aw}(e:lineO rec k o slot ops l g=some r)(aa:gh Z ops)(fp:dM c ops op)(n:cz l)(x:pL c l=l')(w:aA g)(z:At c g g')(v:op=none\/g'=none):
  ∃q,PV c Z (.lineO k o slot op l' g') q/\RR c r q:=by
 unfold lineO at e;cases ops with
 |nil=>
  simp only[a8]at e;subst e;have:op=none:=by cases op with
   |none=>rfl
   |some i=>simp[dM,kA]at fp
  subst this;exact⟨⟨l',g',[]⟩,PV.step0 fun r=>rfl,w,n,jc,x,z,rfl⟩
 |cons h ops=>
  simp only[cC,eH,a8]at e;obtain⟨a,ha,_,_,_,_,b,hb,rfl⟩:=e;obtain⟨hd,B⟩:=aa.hd;obtain⟨q,h1,h2⟩:=G _ _ ha _ (.line (nt hd.1 B) (nr c h));have C:=Td hd.1 n;have A:=Un hd.1 n;have m:cz (fK l h.cond++[⟨13,h.text,h.at',slot,fJ l h.cond++a.l,h.cond⟩]):=lY.2 ⟨A,kW hd.1 (lY.2 ⟨C,h2.lok⟩)⟩;have H:aA (joinAll g a.f):=lR (fun s hs=>(h2.fok.1 s hs).1) w;rcases fp.cons with ⟨t,rfl,d⟩|⟨t,d⟩
  .have hi:hI c h=some h.at':=by simp[hI,t]
   rw[hi]at h1;have F:g'=none:=by rcases v with h|h;cases h;exact h
   subst F;have j:pL c (fK l h.cond++[⟨13,h.text,h.at',slot,fJ l h.cond++a.l,h.cond⟩])=[⟨13,X Z h.at',h.at',slot,slot0 l'++q.l,tt⟩]:=by rw[gQ,JP c hd.1 n,ag t,iu];simp only[t,co,gQ,Tc c hd.1 n,x,h2.l,hd.text,aM]
   have y:At c (joinAll g a.f) q.p:=by have:=At.joinAll w h2.fok z h2.f (.inl rfl);simpa using this
   obtain⟨u,h3,h4⟩:=G _ _ hb _ (.lineO aa.tail d m j H y (.inl rfl));have I:u=⟨[⟨13,X Z h.at',h.at',slot,slot0 l'++q.l,tt⟩],q.p,[]⟩:=h3.det (PV.step0 fun r=>rfl);subst I;refine⟨_,h1.step1 fun r hr=>?_,h2.app h4⟩;simp only[ay,rS];simp only[cZ]at hr;rw[hr];simp
  .have hi:hI c h=none:=by simp[hI,t]
   rw[hi]at h1;have K:=PV.noneLine h1;subst K;have j:pL c (fK l h.cond++[⟨13,h.text,h.at',slot,fJ l h.cond++a.l,h.cond⟩])=l':=by rw[gQ,JP c hd.1 n,iu];simp[t,x]
   have y:At c (joinAll g a.f) g':=by have:=At.joinAll w h2.fok z h2.f (.inr rfl);simpa[triv]using this
   obtain⟨u,h3,h4⟩:=G _ _ hb _ (.lineO aa.tail d m j H y v);refine⟨u,h3,?_⟩;have:=h2.app h4;simpa[triv]using this
end
open Dg
section
variable {c:aD} {Z:List Tok}
variable{h:ah}
def gO(a:h.cond.at' c=true):hI c h=some h.at':=by simp[hI,a]
def gN(a:h.cond.at' c=false):hI c h=none:=by simp[hI,a]
def RR.fail(k:h.cond.ok 0)(code:Nat):RR c ⟨[],[],db h code⟩ ⟨[],none,if h.cond.at' c then [(code,(h.at':Int))]else []⟩:=
 ⟨aA.nil,trivial,AS k code,rfl,rfl,qm c h code⟩
theorem RR.take{rec:fG}(b:bw Z){a:aw}{q:PR}(h:RR c a q)(s:al):RR c ⟨a.l,(take Z a.f s).1,a.e++(take Z a.f s).2⟩ ⟨q.l,(de Z c q.p s).1,q.e++(de Z c q.p s).2⟩:=by obtain⟨d,t2,t3,t4⟩:=BK b h.fok h.f s;exact⟨d,h.lok,fo.2 ⟨h.eok,t2⟩,h.l,t3,by rw[eB,h.e,t4]⟩
theorem EE(s:al):de Z c none s=(none,[]):=rfl
def RR.trivTake(b:bw Z){a:aw}(h:RR c a triv)(s:al):RR c ⟨a.l,(Syn.take Z a.f s).1,a.e++(Syn.take Z a.f s).2⟩ triv:=RR.take (rec:=fun _=>none) b h s
variable{rec:fG}
def QS(a:bw Z)(G:Good c Z rec){o slot:Nat}{f:ad}{p:Option Nat}{r:aw}(e:iL Z f (fun h=>rec (.unaryH o h slot))=some r)(hf:aA f)(hp:At c f p):∃q,PV c Z (.unary o p slot) q/\RR c r q:=by
 have key:=AZ a hf hp e (P:=fun i q=>PV c Z (.unaryH o (some i) slot) q) fun h x hd b g=>by
  obtain⟨q,h1,h2⟩:=G _ _ g _ (.unaryH hd b rfl);cases d:h.cond.at' c with
  |true=>rw[gO d]at h1;exact⟨q,h1,h2⟩
  |false=>rw[gN d]at h1;have:q=triv:=h1.det (PV.step0 fun r=>rfl);subst this;exact h2
 cases p with
 |none=>exact⟨triv,(PV.step0 fun r=>rfl:PV c Z (.unaryH o none slot) triv).step1 fun r hr=>by simp only[ay,vh];exact hr,key⟩
 |some p=>obtain⟨q,h1,h2⟩:=key;exact⟨q,h1.step1 fun r hr=>by simp only[ay,vh];exact hr,h2⟩
def QT(s:bw Z)(G:Good c Z rec){o slot:Nat}{r:aw}(e:unaryH Z rec o h slot=some r)(hd:Hd Z h)(k:h.cond≠ff):∃q,PV c Z (.unaryH o (hI c h) slot) q/\RR c r q:=by
 unfold unaryH at e;have hX:=hd.text;have C:=hd.kind;have ha:=nr c h;have d:=nt hd.1 k;cases n:h.cond.at' c with
 |false=>
  have hi:=gN n;rw[hi]at ha |-;refine⟨triv,PV.step0 fun r=>rfl,?_⟩;split at e
  .split at e
   .cases e;have:=RR.fail (c:=c) hd.1 11;rw[n]at this;exact this
   .simp only[cC,eH,a8]at e;obtain⟨a,u,rfl⟩:=e;obtain⟨q,h1,h2⟩:=G _ _ u _ (.unary d ha);have:=PV.noneUnary h1;subst this;exact⟨h2.fok,kW hd.1 h2.lok,h2.eok,by rw[iu];simp[n,triv],h2.f,h2.e⟩
  .split at e
   .obtain⟨q,h1,h2⟩:=G _ _ e _ (.inside (rG hd.1 k) (rF c h));rw[hi]at h1;have:=PV.noneInside h1;subst this;exact h2
   .split at e
    .cases e;exact⟨d,kW hd.1 trivial,jc,by rw[iu];simp[n,triv],ha,rfl⟩
    .split at e
     .cases e;exact⟨d,kW hd.1 trivial,jc,by rw[iu];simp[n,triv],ha,rfl⟩
     .split at e
      .cases e;exact⟨d,kW hd.1 trivial,jc,by rw[iu];simp[n,triv],ha,rfl⟩
      .have m:=uX s (rG hd.1 k) (rF c h) 18 slot;rw[hi]at m;obtain⟨y,x,w,v⟩:=oY s m.fok m.f (aY Z cg) (pU cg);dsimp only at e;generalize A:bM Z (named Z (bG h) 18 slot).f (bg cg)=sp at e y x w v;obtain⟨xs,g⟩:=sp;simp only[cC,eH,a8]at e;obtain⟨b,hb,rfl⟩:=e;obtain⟨q,h1,h2⟩:=G _ _ hb _ (.calls hd hi y w m.lok m.l x v (.inl rfl));have:q=⟨[],none,[]⟩:=h1.det (PV.step0 fun r=>rfl);subst this;exact m.app h2
 |true=>
  have hi:=gO n;rw[hi]at ha |-;rw[hX,C]at e;by_cases h1:X Z h.at'=sd\/X Z h.at'=o5
  .rw[ag h1]at e;split at e
   .rename_i h2;cases e
    refine⟨_,PV.step0 fun r=>by simp only[ay,jW];rw[ag h1,ag h2],?_⟩;have:=RR.fail (c:=c) hd.1 11;rw[n]at this;exact this
   .rename_i h2;simp only[cC,eH,a8]at e;obtain⟨a,u,rfl⟩:=e;obtain⟨q,h3,h4⟩:=G _ _ u _ (.unary d ha);refine⟨⟨[⟨14,X Z h.at',h.at',slot,q.l,tt⟩],q.p,q.e⟩,h3.step1 fun r hr=>?_,⟨h4.fok,kW hd.1 h4.lok,h4.eok,?_,h4.f,h4.e⟩⟩
    .simp only[cZ]at hr;simp only[ay,jW];rw[ag h1,ab h2,hr];rfl
    .rw[iu];simp[n,h4.l]
  .rw[ab h1]at e;by_cases h2:X Z h.at'=cg
   .rw[ag h2]at e;obtain⟨q,h3,h4⟩:=G _ _ e _ (.inside (rG hd.1 k) (rF c h));rw[hi]at h3;refine⟨q,h3.step1 fun r hr=>?_,h4⟩;simp only[ay,jW];rw[ab h1,ag h2,hr]
   .rw[ab h2]at e;by_cases h3:K Z h.at'=2
    .rw[ag h3]at e;cases e
     refine⟨_,PV.step0 fun r=>by simp only[ay,jW];rw[ab h1,ab h2,ag h3],?_⟩;exact⟨d,kW hd.1 trivial,jc,by rw[iu];simp[n,pL],ha,rfl⟩
    .rw[ab h3]at e;by_cases h4:X Z h.at'=o6\/X Z h.at'=qD
     .rw[ag h4]at e;cases e
      refine⟨_,PV.step0 fun r=>by simp only[ay,jW];rw[ab h1,ab h2,ab h3,ag h4],?_⟩;exact⟨d,kW hd.1 trivial,jc,by rw[iu];simp[n,pL],ha,rfl⟩
     .rw[ab h4]at e;by_cases h5:X Z h.at'=tD
      .rw[ag h5]at e;cases e
       refine⟨_,PV.step0 fun r=>by simp only[ay,jW];rw[ab h1,ab h2,ab h3,ab h4,ag h5],?_⟩;exact⟨d,kW hd.1 trivial,jc,by rw[iu];simp[n,pL],ha,rfl⟩
      .rw[ab h5]at e;have m:=uX s (rG hd.1 k) (rF c h) 18 slot;rw[hi]at m;obtain⟨y,x,w,v⟩:=oY s m.fok m.f (aY Z cg) (pU cg);dsimp only at e;have z:(named Z (bG h) 18 slot).l.tail=[]:=by rw[JA s hd k];split<;>rfl
       have t:(bq c Z (bS Z c (some h.at') 18 slot).p (aY Z cg))=none\/(bq c Z (bS Z c (some h.at') 18 slot).p fun i=>!aY Z cg i)=none/\some h.at'≠none/\pL c (named Z (bG h) 18 slot).l.tail=[]:=by
        cases B:bq c Z (bS Z c (some h.at') 18 slot).p (aY Z cg)with
        |none=>exact .inl rfl
        |some j=>
         refine .inr ⟨?_,by simp,?_⟩
         .rcases pP ((bS Z c (some h.at') 18 slot).p.map (nx c Z)) (aY Z cg)with h|h
          .rw[oO,h]at B;cases B
          .exact h
         .rw[z];rfl
       generalize A:bM Z (named Z (bG h) 18 slot).f (bg cg)=sp at e y x w v;obtain⟨xs,g⟩:=sp;simp only[cC,eH,a8]at e;obtain⟨b,hb,rfl⟩:=e;obtain⟨q,h6,F⟩:=G _ _ hb _ (.calls hd hi y w m.lok m.l x v t);refine⟨_,h6.step1 fun r hr=>?_,m.app F⟩;simp only[ay,jW];rw[ab h1,ab h2,ab h3,ab h4,ab h5];simp only[oO]at hr |-;rw[hr];rfl
end
open Dg
section
variable {c:aD} {Z:List Tok}
variable{p:Option Nat}
def dM.nil_none(h:dM c [] p):p=none:=by
 cases p with
 |none=>rfl
 |some i=>simp[dM,kA]at h
variable{r:aw}{o slot:Nat}{rec:fG}
def QC(P:bw Z)(G:Good c Z rec){h:ah}{xs:List ah}{x:Option Nat}{names names':List M}{g:ad}{g':Option Nat}(e:calls rec o h slot xs names g=some r)(hd:Hd Z h)(m:gh Z xs)(J:dM c xs x)(z:cz names)(K:pL c names=names')(A:aA g)(F:At c g g')
  (d:x=none\/g'=none/\hI c h≠none/\pL c names.tail=[]):∃q,PV c Z (.calls o (hI c h) slot x names' g') q/\RR c r q:=by
 unfold calls at e;cases xs with
 |nil=>simp only[a8]at e;subst e;have:=J.nil_none;subst this;exact⟨⟨names',g',[]⟩,PV.step0 fun r=>by simp only[ay,oN];cases hI c h<;>rfl,A,z,jc,K,F,rfl⟩
 |cons y xs=>
  simp only[cC,eH,a8]at e;obtain⟨a,ha,_,_,b,hb,rfl⟩:=e;obtain⟨v,B⟩:=m.hd;obtain⟨q,h1,h2⟩:=G _ _ ha _ (.listed (rG v.1 B) (rF c y));have j:cz (gv names y.cond++[⟨19,h.text,h.at',slot,a.l,y.cond⟩]):=lY.2 ⟨IS v.1 z,kW v.1 h2.lok⟩;have L:aA (joinAll g a.f):=lR (fun s hs=>(h2.fok.1 s hs).1) A;rcases J.cons with ⟨t,rfl,k⟩|⟨t,k⟩
  .rw[gO t]at h1;rcases d with d|⟨rfl,hi,H⟩
   .cases d
   have I:h.cond.at' c=true:=by
    cases S:h.cond.at' c with
    |true=>rfl
    |false=>exact absurd (gN S) hi
   have i:pL c (gv names y.cond++[⟨19,h.text,h.at',slot,a.l,y.cond⟩])=[⟨19,X Z h.at',h.at',slot,q.l,tt⟩]:=by rw[gQ,Au c v.1 z,ag t,H,iu];simp[t,h2.l,hd.text]
   have C:At c (joinAll g a.f) q.p:=by have:=At.joinAll A h2.fok F h2.f (.inl rfl);simpa using this
   obtain⟨u,h3,h4⟩:=G _ _ hb _ (.calls hd rfl m.tail k j i L C (.inl rfl));have N:u=⟨[⟨19,X Z h.at',h.at',slot,q.l,tt⟩],q.p,[]⟩:=h3.det (PV.step0 fun r=>by simp only[ay,oN];cases hI c h<;>rfl);subst N;refine⟨_,h1.step1 fun r hr=>?_,h2.app h4⟩;rw[gO I];simp only[ay,oN,hr,cC,dz,Y]
  .rw[gN t]at h1;have Q:=PV.noneListed h1;subst Q;have i:pL c (gv names y.cond++[⟨19,h.text,h.at',slot,a.l,y.cond⟩])=names':=by rw[gQ,Au c v.1 z,iu];simp[t,K]
   have C:At c (joinAll g a.f) g':=by have:=At.joinAll A h2.fok F h2.f (.inr rfl);simpa[triv]using this
   have w:x=none\/g'=none/\hI c h≠none/\pL c (gv names y.cond++[(⟨19,h.text,h.at',slot,a.l,y.cond⟩:M)]).tail=[]:=by
    rcases d with d|⟨h5,h6,T⟩
    .exact .inl d
    .refine .inr ⟨h5,h6,?_⟩;cases R:gv names y.cond with
     |nil=>rfl
     |cons n l=>
      rw[aN,yT,gQ,iu];have:l=names.tail:=by rw[<-IU names y.cond,R];rfl
      simp[t,this,T]
   obtain⟨u,h3,h4⟩:=G _ _ hb _ (.calls hd rfl m.tail k j i L C w);refine⟨u,h3,?_⟩;have:=h2.app h4;simpa[triv]using this
variable{f:ad}
def QG(g:bw Z)(G:Good c Z rec)(e:iL Z f (rJ Z rec o slot)=some r)(hf:aA f)(hp:At c f p):∃q,PV c Z (.inside o p slot) q/\RR c r q:=by
 have key:=AZ g hf hp e (P:=fun i q=>∀p,p.map (nx c Z)=some i->PV c Z (.inside o p slot) q) fun h x hd k b=>by
  unfold rJ at b;have hX:=hd.text;cases j:h.cond.at' c with
  |false=>
   simp only[dK,dD];have d:=RR.fail (c:=c) hd.1;split at b
   .cases b;have:=d 10;rw[j]at this;exact this
   .split at b
    .cases b;have:=d 11;rw[j]at this;exact this
    .simp only[cC,eH,a8]at b;obtain⟨a,ha,rfl⟩:=b;obtain⟨q,h1,h2⟩:=G _ _ ha _ (.line (nt hd.1 k) (nr c h));rw[gN j]at h1;have:=PV.noneLine h1;subst this;exact RR.trivTake g h2 dm
  |true=>
   simp only[co];have d:=RR.fail (c:=c) hd.1;rw[hX]at b;split at b
   .rename_i h3;cases b
    refine⟨_,fun p hp=>PV.step0 fun r=>by simp only[ay,nH,hp];rw[ag h3],?_⟩;have:=d 10;rw[j]at this;exact this
   .rename_i h3;split at b
    .rename_i h4;cases b
     refine⟨_,fun p hp=>PV.step0 fun r=>by simp only[ay,nH,hp];rw[ab h3,ag h4],?_⟩;have:=d 11;rw[j]at this;exact this
    .rename_i h4;simp only[cC,eH,a8]at b;obtain⟨a,ha,rfl⟩:=b;obtain⟨q,h1,h2⟩:=G _ _ ha _ (.line (nt hd.1 k) (nr c h));rw[gO j]at h1;refine⟨_,fun p hp=>h1.step1 fun r hr=>?_,RR.take (rec:=rec) g h2 dm⟩;simp only[ay,nH,hp];rw[ab h3,ab h4];simp only[cZ]at hr;rw[hr];rfl
 cases p with
 |none=>exact⟨triv,PV.step0 fun r=>rfl,key⟩
 |some p=>obtain⟨q,h1,h2⟩:=key;exact⟨q,h1 _ rfl,h2⟩
variable{par:Bool}
def QN(d:bw Z)(G:Good c Z rec)(e:iL Z f (rN Z rec par o)=some r)(hf:aA f)(hp:At c f p):∃q,PV c Z (.listed par o p) q/\RR c r q:=by
 have key:=AZ d hf hp e (P:=fun i q=>∀p,p.map (nx c Z)=some i->PV c Z (.listed par o p) q) fun h x hd v b=>by
  unfold rN at b;have hX:=hd.text;have j:=RR.fail (c:=c) hd.1;obtain⟨t,s,u,n⟩:=oY d (nt hd.1 v) (nr c h) (aY Z dm) (pU dm);generalize z:bM Z (bT h) (bg dm)=sp at b t s u n;obtain⟨yes,g⟩:=sp;simp only at t s u n;have w:aA (yes.foldl joinH []):=s6 aA.nil t.conds;have y:At c (yes.foldl joinH []) (((hI c h).map (·+1)).map (nx c Z) |>.filter (aY Z dm)):=by have:=At.joinH aA.nil t.conds (At.nil c) u (.inl rfl);simpa using this
  have m:=(pP (((hI c h).map (·+1)).map (nx c Z)) (aY Z dm)).symm;cases k:h.cond.at' c with
  |false=>
   simp only[dK,dD];split at b
   .cases b;have:=j 10;rw[k]at this;exact this
   .split at b
    .cases b;have:=j 11;rw[k]at this;exact this
    .simp only[cC,eH,a8]at b;obtain⟨a,ha,rfl⟩:=b;obtain⟨q,h1,h2⟩:=G _ _ ha _ (.listL (l:=[]) trivial rfl s n w y m);rw[gN k]at h1;have:q=triv:=h1.det (PV.step0 fun r=>rfl);subst this;exact RR.trivTake d h2 dm
  |true=>
   simp only[co];rw[hX]at b;split at b
   .rename_i h3;cases b
    refine⟨_,fun p hp=>PV.step0 fun r=>by simp only[ay,nI,hp];rw[ag h3],?_⟩;have:=j 10;rw[k]at this;exact this
   .rename_i h3;split at b
    .rename_i h4;cases b
     refine⟨_,fun p hp=>PV.step0 fun r=>by simp only[ay,nI,hp];rw[ab h3,ag h4],?_⟩;have:=j 11;rw[k]at this;exact this
    .rename_i h4;simp only[cC,eH,a8]at b;obtain⟨a,ha,rfl⟩:=b;obtain⟨q,h1,h2⟩:=G _ _ ha _ (.listL (l:=[]) trivial rfl s n w y m);rw[gO k]at h1;refine⟨_,fun p hp=>h1.step1 fun r hr=>?_,RR.take (rec:=rec) d h2 dm⟩;simp only[ay,nI,hp,oO];rw[ab h3,ab h4];simp only[cZ]at hr |-;simp only[pL]at hr;rw[hr];rfl
 cases p with
 |none=>exact⟨triv,PV.step0 fun r=>rfl,key⟩
 |some p=>obtain⟨q,h1,h2⟩:=key;exact⟨q,h1 _ rfl,h2⟩
def QM(F:bw Z)(G:Good c Z rec){l l':List M}{g fin:ad}{g' fin':Option Nat}(e:listL Z rec par o l g fin=some r)(H:cz l)(z:pL c l=l')(y:aA g)(J:At c g g')(hf:aA fin)(A:At c fin fin')(w:g'=none\/fin'=none):
  ∃q,PV c Z (.listL par o l' g' fin') q/\RR c r q:=by
 unfold listL at e;cases g with
 |nil=>
  simp only[a8]at e;subst e;have:g'=none:=by cases g' with
   |none=>rfl
   |some i=>simp[At,di]at J
  subst this;exact⟨⟨l',fin',[]⟩,PV.step0 fun r=>rfl,hf,H,jc,z,A,rfl⟩
 |cons s g=>
  simp only[cC,eH,a8]at e;obtain⟨a,ha,_,_,e⟩:=e;have j:=At.one c s.1 s.2;obtain⟨q,h1,h2⟩:=G _ _ ha _ (.item y.head j);obtain⟨t,n,m,k⟩:=oY F h2.fok h2.f (aY Z eM) (pU eM);generalize N:bM Z a.f (bg eM)=sp at e t n m k;obtain⟨more,done⟩:=sp;simp only[eH,a8]at e;obtain⟨b,hb,rfl⟩:=e;simp only at t n m k;have K:aA (more.foldl joinH1 g):=IA y.tail t.conds;have L:aA (joinAll fin done):=lR (fun s hs=>(n.1 s hs).1) hf;rcases J.cons with ⟨I,rfl,d⟩|⟨I,d⟩
  .have x:fin'=none:=by rcases w with h|h;cases h;exact h
   subst x;rw[ag I]at h1;have C:At c (more.foldl joinH1 g) ((bq c Z q.p (aY Z eM)).map (·+1)):=by have:=At.joinH1 y.tail t.conds d m (.inl rfl);simpa[bq]using this
   have B:At c (joinAll fin done) (bq c Z q.p fun i=>!aY Z eM i):=by have:=At.joinAll hf n A k (.inl rfl);simpa[bq]using this
   have v:(bq c Z q.p (aY Z eM)).map (·+1)=none\/(bq c Z q.p fun i=>!aY Z eM i)=none:=by
    rcases pP (q.p.map (nx c Z)) (aY Z eM)with h|h
    .left;rw[oO,h];rfl
    .exact .inr h
   obtain⟨u,h3,h4⟩:=G _ _ hb _ (.listL (lY.2 ⟨H,h2.lok⟩) (by rw[gQ,z,h2.l]) K C L B v);refine⟨_,h1.step2 h3 fun r hr hs=>?_,h2.app h4⟩;simp only[ay,rT,hr,cC,dz,hs]
  .rw[I]at h1;simp only[dK,dD]at h1;have:=PV.noneItem h1;subst this;simp only[triv,kG,Option.filter_none]at m k;have C:At c (more.foldl joinH1 g) g':=by have:=At.joinH1 y.tail t.conds d m (.inr rfl);simpa using this
   have B:At c (joinAll fin done) fin':=by have:=At.joinAll hf n A k (.inr rfl);simpa using this
   obtain⟨u,h3,h4⟩:=G _ _ hb _ (.listL (lY.2 ⟨H,h2.lok⟩) (by rw[gQ,z,h2.l]) K C L B w);simp only[triv,Y]at h3;refine⟨u,h3,?_⟩;have:=h2.app h4;simpa[triv]using this
theorem RR.give{a:aw}{q:PR}{ks kp:List M}{e:List aG}{e':List (Nat×Int)}(i:cz a.l)(b:pL c a.l=q.l)(j:cz ks)(d:pL c ks=kp)(hf:aA f)(g:At c f p)(k:jb e)(h:pE c e=e'):RR c ⟨Syn.give a.l ks,f,e⟩ ⟨Syn.give q.l kp,p,e'⟩:=
 ⟨hf,jB i j,k,by rw[jC,b,d],g,h⟩
def QH(a:bw Z)(G:Good c Z rec)(e:item Z rec par o f=some r)(hf:aA f)(hp:At c f p):∃q,PV c Z (.item par o p) q/\RR c r q:=by
 unfold item at e;cases par with
 |false=>simp only[dK,dD]at e;obtain⟨q,h1,h2⟩:=G _ _ e _ (.line hf hp);exact⟨q,h1.step1 fun r hr=>by simp only[ay,oP];exact hr,h2⟩
 |true=>simp only[co]at e;have d:=uX a hf hp 4 0;have ht:=RR.take (rec:=rec) a d du;generalize h:Syn.take Z (named Z f 4 0).f du=sp at e ht;obtain⟨g,j⟩:=sp;have b:=FD a ht.fok ht.f 0;simp only[cC,eH,a8]at e;obtain⟨l,i,rfl⟩:=e;have:=fx i;subst this;refine⟨_,PV.step0 fun r=>by simp only[ay,oP,co];rfl,?_⟩;exact RR.give d.lok d.l b.lok b.l b.fok b.f (fo.2 ⟨ht.eok,b.eok⟩) (by rw[eB,ht.e,b.e])
def Qz(d:bw Z)(G:Good c Z rec){typ:Bool}{sign:al}(e:behind Z rec typ o f sign slot=some r)(hf:aA f)(hp:At c f p):∃q,PV c Z (.behind typ o p sign slot) q/\RR c r q:=by
 unfold behind at e;obtain⟨j,g,m,k⟩:=oY d hf hp (aY Z sign) (pU sign);generalize u:bM Z f (bg sign)=sp at e j g m k;obtain⟨yes,out⟩:=sp;simp only[cC,eH,a8]at e;obtain⟨a,ha,rfl⟩:=e;simp only at j g m k;have n:aA (yes.foldl joinH1 []):=IA aA.nil j.conds;have t:At c (yes.foldl joinH1 []) ((bq c Z p (aY Z sign)).map (·+1)):=by have:=At.joinH1 aA.nil j.conds (At.nil c) m (.inl rfl);simpa[bq]using this
 unfold zA at ha;have fin:∀q:PR,RR c a q->((bq c Z p (aY Z sign))=none->q.p=none)->RR c ⟨a.l,joinAll out a.f,a.e⟩ ⟨q.l,(bq c Z p fun i=>!aY Z sign i).or q.p,q.e⟩:=fun q b v=>by
  refine⟨lR (fun s hs=>(b.fok.1 s hs).1) g,b.lok,b.eok,b.l,At.joinAll g b.fok k b.f ?_,b.e⟩;rcases pP (p.map (nx c Z)) (aY Z sign)with h|h
  .exact .inr (v h)
  .exact .inl h
 cases typ with
 |true=>simp only[co,a8]at ha;subst ha;refine⟨_,PV.step0 fun r=>by simp only[ay,oM,mL,co];rfl,fin _ (FD d n t slot) fun h=>?_⟩;rw[h];rfl
 |false=>
  simp only[dK,dD]at ha;obtain⟨q,h1,h2⟩:=G _ _ ha _ (.line n t);refine⟨_,h1.step1 fun r hr=>?_,fin q h2 fun h=>?_⟩
  .simp only[ay,oM,mL,dK,dD];rw[hr];rfl
  .rw[h]at h1;have:=PV.noneLine h1;subst this;rfl
def QU(b:bw Z)(G:Good c Z rec)(e:tH Z rec o f=some r)(hf:aA f)(hp:At c f p):∃q,PV c Z (.vrb o p) q/\RR c r q:=by
 unfold tH at e;have j:=uX b hf hp 2 0;have ht:=RR.take (rec:=rec) b j du;dsimp only at e;generalize i:Syn.take Z (named Z f 2 0).f du=sp at e ht;obtain⟨g,u⟩:=sp;have h:=FD b ht.fok ht.f 0;simp only[cC,eH]at e;obtain⟨d,hd,t,m,s,k,e⟩:=e;have:=fx m;subst this;have:=fx k;subst this;obtain⟨q,h1,h2⟩:=G _ _ hd _ (.behind h.fok h.f);have a:=RR.take (rec:=rec) b h2 bO;generalize i:Syn.take Z d.f bO=sp at e a;obtain⟨g2,n⟩:=sp;simp only[a8]at e;subst e;refine⟨_,h1.step1 fun r hr=>by simp only[ay,qr];rw[hr];rfl,?_⟩;refine⟨a.fok,jB (jB j.lok h.lok) h2.lok,?_,?_,a.f,?_⟩
 .have:=a.eok;rw[fo]at this;exact fo.2 ⟨fo.2 ⟨fo.2 ⟨ht.eok,h.eok⟩,this.1⟩,this.2⟩
 .rw[jC,jC,j.l,h.l,h2.l]
 .have e2:=a.e;rw[eB]at e2;have e1:=ht.e;rw[eB]at e1;rw[eB,eB,eB,eB,e1,h.e,cq,e2];simp[cq]
def QE(j:bw Z)(G:Good c Z rec)(e:function Z rec o f=some r)(hf:aA f)(hp:At c f p):∃q,PV c Z (.function o p) q/\RR c r q:=by
 unfold function at e;have i:=uX j hf hp 3 0;dsimp only at e;simp only[cC,eH,a8]at e;obtain⟨b,hb,d,hd,x,v,C,n,B,m,A,k,rfl⟩:=e;have:=fx n;subst this;have:=fx m;subst this;have:=fx k;subst this;obtain⟨z,h1,h⟩:=G _ _ hb _ (.listed i.fok i.f);obtain⟨y,h2,g⟩:=G _ _ hd _ (.behind h.fok h.f);obtain⟨w,h3,a⟩:=G _ _ v _ (.block g.fok g.f);refine⟨_,h1.step3 h2 h3 fun r u t s=>by simp only[ay,qp,u,t,s,cC,dz];rfl,?_⟩;refine⟨a.fok,jB (jB (jB i.lok h.lok) g.lok) a.lok,fo.2 ⟨fo.2 ⟨fo.2 ⟨i.eok,h.eok⟩,g.eok⟩,a.eok⟩,?_,a.f,?_⟩
 .rw[jC,jC,jC,i.l,h.l,g.l,a.l]
 .rw[eB,eB,eB,i.e,h.e,g.e,a.e]
end
open Dg
section
variable {c:aD} {Z:List Tok}
variable{r:aw}{p:Option Nat}{f:ad}{o:Nat}{rec:fG}
def QA(j:bw Z)(G:Good c Z rec){slot:Nat}(e:iL Z f (rq Z rec o slot)=some r)(hf:aA f)(hp:At c f p):∃q,PV c Z (.block o p slot) q/\RR c r q:=by
 have key:=AZ j hf hp e (P:=fun i q=>∀p,p.map (nx c Z)=some i->PV c Z (.block o p slot) q) fun h x hd k b=>by
  unfold rq at b;have hX:=hd.text;have d:=RR.fail (c:=c) hd.1;cases g:h.cond.at' c with
  |false=>
   simp only[dK,dD];split at b
   .cases b;have:=d 10;rw[g]at this;exact this
   .split at b
    .cases b;have:=d 11;rw[g]at this;exact this
    .simp only[cC,eH,a8]at b;obtain⟨a,ha,rfl⟩:=b;have m:=nr c h;rw[gN g]at m;obtain⟨q,h1,h2⟩:=G _ _ ha _ (.seqL (l:=[]) (nt hd.1 k) m trivial rfl aA.nil (At.nil c) (.inr rfl));have:q=triv:=h1.det (PV.step0 fun r=>rfl);subst this;have ht:=RR.trivTake j h2 iR;exact⟨ht.fok,kW hd.1 h2.lok,ht.eok,by rw[iu];simp[g,triv],ht.f,ht.e⟩
  |true=>
   simp only[co];rw[hX]at b;split at b
   .rename_i h3;cases b
    refine⟨_,fun p hp=>PV.step0 fun r=>by simp only[ay,nF,hp];rw[ag h3],?_⟩;have:=d 10;rw[g]at this;exact this
   .rename_i h3;split at b
    .rename_i h4;cases b
     refine⟨_,fun p hp=>PV.step0 fun r=>by simp only[ay,nF,hp];rw[ab h3,ag h4],?_⟩;have:=d 11;rw[g]at this;exact this
    .rename_i h4;simp only[cC,eH,a8]at b;obtain⟨a,ha,rfl⟩:=b;obtain⟨q,h1,h2⟩:=G _ _ ha _ (.seqL (l:=[]) (nt hd.1 k) (nr c h) trivial rfl aA.nil (At.nil c) (.inr rfl));rw[gO g]at h1;have ht:=RR.take (rec:=rec) j h2 iR;refine⟨⟨[⟨6,[],h.at',slot,q.l,tt⟩],(de Z c q.p iR).1,q.e++(de Z c q.p iR).2⟩,fun p hp=>h1.step1 fun r hr=>?_,⟨ht.fok,kW hd.1 h2.lok,ht.eok,by rw[iu];simp[g,h2.l],ht.f,ht.e⟩⟩;simp only[ay,nF,hp];rw[ab h3,ab h4];simp only[cZ,pL]at hr;rw[hr];rfl
 cases p with
 |none=>exact⟨triv,PV.step0 fun r=>rfl,key⟩
 |some p=>obtain⟨q,h1,h2⟩:=key;exact⟨q,h1 _ rfl,h2⟩
variable{top:Bool}
def Uu{r s:jJ}(h:Le r s){i:Nat}{q:PR}(e:kY Z r top o i=some q):kY Z s top o i=some q:=by
 unfold kY at e |-;cases top with
 |false=>exact h _ _ e
 |true=>
  simp only[co]at e |-;unfold nJ at e |-;split at e
  .rename_i h2;rw[ag h2];exact h _ _ e
  .rename_i h2;rw[ab h2];split at e
   .rename_i h3;rw[ag h3];exact h _ _ e
   .rename_i h3;rw[ab h3];exact e
variable{h:ah}
def QO(j:bw Z)(G:Good c Z rec)(e:vz rec top o h=some r)(hd:Hd Z h)(f:h.cond≠ff):
  if h.cond.at' c then ∃n q,kY Z (dC c Z n) top o h.at'=some q/\RR c r q else RR c r triv:=by
 unfold vz at e;have hX:=hd.text;have a:=RR.fail (c:=c) hd.1 10;have d:=nr c h;have i:=nt hd.1 f;cases top with
 |false=>
  simp only[dK,dD]at e;obtain⟨q,h1,h2⟩:=G _ _ e _ (.stmt hd f rfl);cases b:h.cond.at' c with
  |false=>rw[gN b]at h1;have:q=triv:=h1.det (PV.step0 fun r=>rfl);subst this;simpa using h2
  |true=>rw[gO b]at h1;obtain⟨n,g⟩:=h1;simp only[co];exact⟨n,q,g,h2⟩
 |true=>
  simp only[co]at e;unfold vL at e;rw[hX]at e;cases b:h.cond.at' c with
  |false=>
   simp only[dK,dD];rw[gN b]at d;split at e
   .obtain⟨q,h1,h2⟩:=G _ _ e _ (.vrb i d);have:=PV.noneVar h1;subst this;exact h2
   .split at e
    .obtain⟨q,h1,h2⟩:=G _ _ e _ (.function i d);have:=PV.noneFn h1;subst this;exact h2
    .cases e;rw[b]at a;exact a
  |true=>
   simp only[co];rw[gO b]at d;split at e
   .rename_i h3;obtain⟨q,⟨n,g⟩,h2⟩:=G _ _ e _ (.vrb i d);exact⟨n,q,by simp only[kY,nJ,co];rw[ag h3];exact g,h2⟩
   .rename_i h3;split at e
    .rename_i h4;obtain⟨q,⟨n,g⟩,h2⟩:=G _ _ e _ (.function i d);exact⟨n,q,by simp only[kY,nJ,co];rw[ab h3,ag h4];exact g,h2⟩
    .rename_i h4;cases e
     rw[b]at a;exact⟨0,_,by simp only[kY,nJ,co];rw[ab h3,ab h4],a⟩
def Vv(hd:Hd Z h)(top:Bool):nP Z top h=Bc Z top h.at':=by unfold nP Bc;rw[hd.text]
variable{l:List M}
def Vw{p:Nat}{out:Option Nat}{q:PR}(h:PV c Z (.seqL top o (some (nx c Z p)) l out) q):PV c Z (.seqL top o (some p) l out) q:=by
 obtain⟨n,h⟩:=h;cases n with
 |zero=>cases h
 |succ n=>exact⟨n+1,by simp only[dC,ay,oS,cZ,oK]at h |-;exact h⟩
def ID(hf:aA f)(k:h.cond.ok 0):aA (joinH f h):=ir hf k
def IB(hf:aA f)(k:h.cond.ok 0)(hp:At c f p)(b:hI c h=none\/p=none):At c (joinH f h) ((hI c h).or p):=by
 have:=At.join hf hp k (a:=h.at') (fun d=>by
  rcases b with h1|h1
  .rw[gO d]at h1;cases h1
  .exact h1)
 unfold joinH hI;cases d:h.cond.at' c<;>rw[d]at this<;>simpa using this
variable{out':Option Nat}{out:ad}{l':List M}
def QQ(x:bw Z)(G:Good c Z rec)(e:seqL Z rec top o f l out=some r)(hf:aA f)(hp:At c f p)(F:cz l)(A:pL c l=l')(y:aA out)(z:At c out out')(I:p=none\/out'=none):
  ∃q,PV c Z (.seqL top o p l' out') q/\RR c r q:=by
 unfold seqL at e;have K:=uJ x hf;have ha:=dM.of x hf hp;generalize ce Z f=hs at e K ha
 suffices H:∃q,PV c Z (.seqL top o (p.map (nx c Z)) l' out') q/\RR c r q by
  obtain⟨q,h1,h2⟩:=H;refine⟨q,?_,h2⟩;cases p with
  |none=>exact h1
  |some p=>exact Vw h1
 have d:p.map (nx c Z)=none\/out'=none:=I.imp (fun h=>by rw[h];rfl) id;have g:(p.map (nx c Z)).map (nx c Z)=p.map (nx c Z):=by cases p<;>simp[oK]
 generalize p.map (nx c Z)=i at ha d g;cases hs with
 |nil=>simp only[a8]at e;subst e;have:=ha.nil_none;subst this;exact⟨⟨l',out',[]⟩,PV.step0 fun r=>rfl,y,F,jc,A,z,rfl⟩
 |cons h hs=>
  obtain⟨hd,J⟩:=K.hd;have ht:=K.tail;have N:=Vv hd top;simp only at e;rw[N]at e;cases t:Bc Z top h.at' with
  |true=>
   rw[t,ag rfl]at e;rcases ha.cons with ⟨v,rfl,j⟩|⟨v,j⟩
   .have k:out'=none:=by rcases d with h|h;cases h;exact h
    subst k;have B:=IB (h:=h) y hd.1 z (.inr rfl);rw[gO v]at B;have w:At c (hs.foldl joinH []) none:=by have:=At.joinH aA.nil ht.conds (At.nil c) j (.inl rfl);simpa using this
    obtain⟨u,h3,h4⟩:=G _ _ e _ (.seqL (s6 aA.nil ht.conds) w F A (ID y hd.1) B (.inl rfl));have:u=⟨l',some h.at',[]⟩:=h3.det (PV.step0 fun r=>rfl);subst this;refine⟨_,PV.step0 fun r=>?_,h4⟩;simp only[cZ,a8]at g;simp only[ay,oS,cZ,g,t,co]
   .have B:=IB (h:=h) y hd.1 z (.inl (gN v));rw[gN v]at B;have w:At c (hs.foldl joinH []) i:=by have:=At.joinH aA.nil ht.conds (At.nil c) j (.inl rfl);simpa using this
    exact G _ _ e _ (.seqL (s6 aA.nil ht.conds) w F A (ID y hd.1) (by simpa using B) d)
  |false=>
   rw[t]at e;simp only[dK,dD,cC,eH,a8]at e;obtain⟨a,L,_,_,b,hb,rfl⟩:=e;have hr:=QO x G L hd J;rcases ha.cons with ⟨v,rfl,j⟩|⟨v,j⟩
   .have k:out'=none:=by rcases d with h|h;cases h;exact h
    subst k;rw[v,ag rfl]at hr;obtain⟨n,q,h1,h2⟩:=hr;have C:aA (joinAll [] a.f):=lR (fun s hs=>(h2.fok.1 s hs).1) aA.nil;have a0:At c (joinAll [] a.f) q.p:=by have:=At.joinAll aA.nil h2.fok (At.nil c) h2.f (.inl rfl);simpa using this
    have w:At c (hs.foldl joinH (joinAll [] a.f)) q.p:=by have:=At.joinH C ht.conds a0 j (.inr rfl);simpa using this
    obtain⟨u,⟨m,h3⟩,h4⟩:=G _ _ hb _ (.seqL (s6 C ht.conds) w (lY.2 ⟨F,h2.lok⟩) (by rw[gQ,A,h2.l]) y z (.inr rfl));refine⟨_,⟨max n m+1,?_⟩,h2.app h4⟩;simp only[cZ,a8]at g;simp only[dC,ay,oS,cZ,g,t,dK,dD];rw[Uu (qv (Nat.le_max_left n m)) h1];simp only[cC,dz];rw[qv (Nat.le_max_right n m) _ _ h3];rfl
   .rw[v]at hr;simp only[dK,dD]at hr;have C:aA (joinAll [] a.f):=lR (fun s hs=>(hr.fok.1 s hs).1) aA.nil;have a0:At c (joinAll [] a.f) none:=by have:=At.joinAll aA.nil hr.fok (At.nil c) hr.f (.inl rfl);simpa[triv]using this
    have w:At c (hs.foldl joinH (joinAll [] a.f)) i:=by have:=At.joinH C ht.conds a0 j (.inl rfl);simpa using this
    obtain⟨u,h3,h4⟩:=G _ _ hb _ (.seqL (s6 C ht.conds) w (lY.2 ⟨F,hr.lok⟩) (by rw[gQ,A,hr.l]) y z d);simp only[triv,Y]at h3;refine⟨u,h3,?_⟩;have:=hr.app h4;simpa[triv]using this
def BZ(hd:h.cond.ok 0)(kind slot:Nat):cz [gx kind h slot]:=kW hd trivial
def BX(c:aD)(h:ah)(kind slot:Nat):pL c [gx kind h slot]=jg kind (hI c h) slot:=by rw[iu];unfold gx hI jg;cases h.cond.at' c<;>simp[pL]
def HA(l:List M):give l []=l:=by
 unfold give
 induction l with
 |nil=>rfl
 |cons n l a=>rw[ib,a];cases n;simp
def QB(k:bw Z)(G:Good c Z rec){slot:Nat}(e:branch Z rec o h slot=some r)(hd:Hd Z h)(m:h.cond≠ff):∃q,PV c Z (.branch o (hI c h) slot) q/\RR c r q:=by unfold branch at e;simp only[cC,eH]at e;obtain⟨a,ha,b,hb,I,p,H,n,e⟩:=e;have:=fx p;subst this;have:=fx n;subst this;obtain⟨F,h1,j⟩:=G _ _ ha _ (.inside (nt hd.1 m) (nr c h));obtain⟨C,h2,i⟩:=G _ _ hb _ (.block j.fok j.f);obtain⟨w,v,u,t⟩:=oY k i.fok i.f (aY Z iQ) (pU iQ);generalize A:bM Z b.f (bg iQ)=sp at e w v u t;obtain⟨xs,out⟩:=sp;simp only[eH,a8]at e;obtain⟨d,s,rfl⟩:=e;obtain⟨B,h3,g⟩:=G _ _ s _ (.elses w u (jB (jB (BZ hd.1 8 slot) j.lok) i.lok) (by rw[jC,jC,BX,j.l,i.l]) v t (pP _ _));refine⟨_,h1.step3 h2 h3 fun r z y x=>by simp only[ay,ql,oO,z,y,x,cC,dz];rfl,?_⟩;exact⟨g.fok,g.lok,fo.2 ⟨fo.2 ⟨j.eok,i.eok⟩,g.eok⟩,g.l,g.f,by rw[eB,eB,j.e,i.e,g.e]⟩
variable{x:Option Nat}{xs:List ah}
def QD(L:bw Z)(G:Good c Z rec)(e:elses Z rec o xs l out=some r)(t:gh Z xs)(U:dM c xs x)(Q:cz l)(J:pL c l=l')(B:aA out)(I:At c out out')(y:x=none\/out'=none):
  ∃q,PV c Z (.elses o x l' out') q/\RR c r q:=by
 unfold elses at e;cases xs with
 |nil=>simp only[a8]at e;subst e;have:=U.nil_none;subst this;exact⟨⟨l',out',[]⟩,PV.step0 fun r=>rfl,B,Q,jc,J,I,rfl⟩
 |cons h xs=>
  obtain⟨hd,N⟩:=t.hd;obtain⟨A,C,k,u⟩:=oY L (nt hd.1 N) (nr c h) (aY Z eG) (pU eG);simp only at e;generalize W:bM Z (bT h) (bg eG)=sp at e A C k u;obtain⟨ys,rest⟩:=sp;simp only[cC,eH,a8]at e;obtain⟨a,ha,l1,P,b,hb,d,z,rfl⟩:=e;have:=fx P;subst this;simp only at A C k u;obtain⟨H,h1,j⟩:=G _ _ ha _ (.block C u);have V:aA (joinAll out a.f):=lR (fun s hs=>(j.fok.1 s hs).1) B;rcases U.cons with ⟨R,rfl,n⟩|⟨R,n⟩
  .have v:out'=none:=by rcases y with h|h;cases h;exact h
   subst v;rw[gO R]at h1 k u;have K:At c (joinAll out a.f) H.p:=by have:=At.joinAll B j.fok I j.f (.inl rfl);simpa using this
   have w:bq c Z (some (h.at'+1)) (aY Z eG)=none\/H.p=none:=by
    rcases pP ((some (h.at'+1)).map (nx c Z)) (aY Z eG)with h|h
    .exact .inl h
    .right
     simp only[cZ]at h1 h;rw[h]at h1;have:=PV.noneBlock h1;subst this;rfl
   obtain⟨m,h2,i⟩:=G _ _ hb _ (.ifs A k (jB Q j.lok) (by rw[jC,J,j.l]) V K w);obtain⟨F,h3,g⟩:=G _ _ z _ (.elses t.tail n i.lok i.l i.fok i.f (.inl rfl));have:F=⟨m.l,m.p,[]⟩:=h3.det (PV.step0 fun r=>rfl);subst this;refine⟨⟨m.l,m.p,H.e++m.e⟩,h1.step2 h2 fun r T S=>?_,?_⟩
   .simp only[ay,qo,oO];simp only[cZ]at T S |-;rw[T];simp only[cC,dz];rw[S];rfl
   .exact⟨g.fok,g.lok,fo.2 ⟨fo.2 ⟨j.eok,i.eok⟩,g.eok⟩,g.l,g.f,by rw[eB,eB,j.e,i.e,g.e];simp⟩
  .rw[gN R]at h1 k u;simp only[kG,Option.filter_none]at h1 k u;have:=PV.noneBlock h1;subst this;have K:At c (joinAll out a.f) out':=by have:=At.joinAll B j.fok I j.f (.inr rfl);simpa[triv]using this
   have X:pL c (give l a.l)=l':=by rw[jC,J,j.l];exact HA l'
   obtain⟨m,h2,i⟩:=G _ _ hb _ (.ifs A k (jB Q j.lok) X V K (.inl rfl));have:m=⟨l',out',[]⟩:=h2.det (PV.step0 fun r=>rfl);subst this;obtain⟨F,h3,g⟩:=G _ _ z _ (.elses t.tail n i.lok i.l i.fok i.f y);refine⟨F,h3,g.fok,g.lok,fo.2 ⟨fo.2 ⟨j.eok,i.eok⟩,g.eok⟩,g.l,g.f,by rw[eB,eB,j.e,i.e,g.e];simp[triv]⟩
def QF(K:bw Z)(G:Good c Z rec){ys:List ah}{y:Option Nat}(e:ifs rec o ys l out=some r)(j:gh Z ys)(C:dM c ys y)(A:cz l)(z:pL c l=l')(w:aA out)(x:At c out out')(m:y=none\/out'=none):
  ∃q,PV c Z (.ifs o y l' out') q/\RR c r q:=by
 unfold ifs at e;cases ys with
 |nil=>simp only[a8]at e;subst e;have:=C.nil_none;subst this;exact⟨⟨l',out',[]⟩,PV.step0 fun r=>rfl,w,A,jc,z,x,rfl⟩
 |cons h ys=>
  obtain⟨hd,H⟩:=j.hd;have B:=RR.fail (c:=c) hd.1 11;simp only at e;split at e
  .rename_i u;simp only[cC,eH,a8]at e;obtain⟨b,hb,rfl⟩:=e;rcases C.cons with ⟨t,rfl,g⟩|⟨t,g⟩
   .have k:out'=none:=by rcases m with h|h;cases h;exact h
    subst k;obtain⟨n,h2,d⟩:=G _ _ hb _ (.ifs j.tail g A z w x (.inl rfl));have:n=⟨l',none,[]⟩:=h2.det (PV.step0 fun r=>rfl);subst this;refine⟨⟨l',none,[(11,(h.at':Int))]⟩,PV.step0 fun r=>by simp only[ay,qq];rw[ag u],d.fok,d.lok,fo.2 ⟨B.eok,d.eok⟩,d.l,d.f,?_⟩;rw[eB,qm,t,d.e];rfl
   .obtain⟨n,h2,d⟩:=G _ _ hb _ (.ifs j.tail g A z w x m);refine⟨n,h2,d.fok,d.lok,fo.2 ⟨B.eok,d.eok⟩,d.l,d.f,?_⟩;rw[eB,qm,t,d.e];rfl
  .rename_i u;simp only[cC,eH,a8]at e;obtain⟨a,ha,L,I,b,hb,rfl⟩:=e;have:=fx I;subst this;obtain⟨v,h1,i⟩:=G _ _ ha _ (.branch hd H rfl);have J:aA (joinAll out a.f):=lR (fun s hs=>(i.fok.1 s hs).1) w;rcases C.cons with ⟨t,rfl,g⟩|⟨t,g⟩
   .have k:out'=none:=by rcases m with h|h;cases h;exact h
    subst k;rw[gO t]at h1;have F:At c (joinAll out a.f) v.p:=by have:=At.joinAll w i.fok x i.f (.inl rfl);simpa using this
    obtain⟨n,h2,d⟩:=G _ _ hb _ (.ifs j.tail g (jB A i.lok) (by rw[jC,z,i.l]) J F (.inl rfl));have:n=⟨give l' v.l,v.p,[]⟩:=h2.det (PV.step0 fun r=>rfl);subst this;refine⟨⟨give l' v.l,v.p,v.e⟩,h1.step1 fun r hr=>by simp only[ay,qq];rw[ab u,hr];rfl,d.fok,d.lok,fo.2 ⟨i.eok,d.eok⟩,d.l,d.f,?_⟩;rw[eB,i.e,d.e];simp
   .rw[gN t]at h1;have:=PV.noneBranch h1;subst this;have F:At c (joinAll out a.f) out':=by have:=At.joinAll w i.fok x i.f (.inr rfl);simpa[triv]using this
    obtain⟨n,h2,d⟩:=G _ _ hb _ (.ifs j.tail g (jB A i.lok) (show _=l' by rw[jC,z,i.l];exact HA l') J F m);refine⟨n,h2,d.fok,d.lok,fo.2 ⟨i.eok,d.eok⟩,d.l,d.f,?_⟩;rw[eB,i.e,d.e];simp[triv]
def QP(T:bw Z)(G:Good c Z rec){g:ad}{g':Option Nat}(e:sCalls rec o h xs l g=some r)(hd:Hd Z h)(t:gh Z xs)(K:dM c xs x)(P:cz l)(L:pL c l=l')(B:aA g)(H:At c g g')
  (d:x=none\/g'=none/\hI c h≠none/\pL c l.tail=[]/\l≠[]):∃q,PV c Z (.sCalls o (hI c h) x l' g') q/\RR c r q:=by
 unfold sCalls at e;cases xs with
 |nil=>simp only[a8]at e;subst e;have:=K.nil_none;subst this;exact⟨⟨l',g',[]⟩,PV.step0 fun r=>by simp only[ay,oR];cases hI c h<;>rfl,B,P,jc,L,H,rfl⟩
 |cons y xs=>
  simp only[cC,eH,a8]at e;obtain⟨a,ha,_,_,b,hb,rfl⟩:=e;obtain⟨w,C⟩:=t.hd;obtain⟨q,h1,h2⟩:=G _ _ ha _ (.listed (rG w.1 C) (rF c y));have j:cz (l++[(⟨19,h.text,h.at',0,a.l,y.cond⟩:M)]):=lY.2 ⟨P,kW w.1 h2.lok⟩;have k:=IS w.1 j;have N:aA (joinAll g a.f):=lR (fun s hs=>(h2.fok.1 s hs).1) B;rcases K.cons with ⟨v,rfl,m⟩|⟨v,m⟩
  .rw[gO v]at h1;rcases d with d|⟨rfl,hi,z,I⟩
   .cases d
   have J:h.cond.at' c=true:=by
    cases V:h.cond.at' c with
    |true=>rfl
    |false=>exact absurd (gN V) hi
   have i:pL c (gv (l++[(⟨19,h.text,h.at',0,a.l,y.cond⟩:M)]) y.cond)=[⟨19,X Z h.at',h.at',0,q.l,tt⟩]:=by
    rw[Au c w.1 j,ag v];cases l with
    |nil=>exact absurd rfl I
    |cons n l=>rw[aN,yT,gQ,iu];rw[yT]at z;simp[v,h2.l,hd.text,z]
   have F:At c (joinAll g a.f) q.p:=by have:=At.joinAll B h2.fok H h2.f (.inl rfl);simpa using this
   obtain⟨u,h3,h4⟩:=G _ _ hb _ (.sCalls hd rfl t.tail m k i N F (.inl rfl));have S:u=⟨[⟨19,X Z h.at',h.at',0,q.l,tt⟩],q.p,[]⟩:=h3.det (PV.step0 fun r=>by simp only[ay,oR];cases hI c h<;>rfl);subst S;refine⟨_,h1.step1 fun r hr=>?_,h2.app h4⟩;rw[gO J];simp only[ay,oR,hr,cC,dz,Y]
  .rw[gN v]at h1;have U:=PV.noneListed h1;subst U;have i:pL c (gv (l++[(⟨19,h.text,h.at',0,a.l,y.cond⟩:M)]) y.cond)=l':=by rw[Au c w.1 j,gQ,iu];simp[v,L]
   have F:At c (joinAll g a.f) g':=by have:=At.joinAll B h2.fok H h2.f (.inr rfl);simpa[triv]using this
   have A:x=none\/g'=none/\hI c h≠none/\pL c (gv (l++[(⟨19,h.text,h.at',0,a.l,y.cond⟩:M)]) y.cond).tail=[]/\gv (l++[(⟨19,h.text,h.at',0,a.l,y.cond⟩:M)]) y.cond≠[]:=by
    rcases d with d|⟨h5,h6,R,Q⟩
    .exact .inl d
    .refine .inr ⟨h5,h6,?_,?_⟩
     .rw[IU];cases l with
      |nil=>exact absurd rfl Q
      |cons n l=>rw[yT]at R;rw[aN,yT,gQ,iu,R];simp[v]
     .cases l with
      |nil=>exact absurd rfl Q
      |cons n l=>simp[gv]
   obtain⟨u,h3,h4⟩:=G _ _ hb _ (.sCalls hd rfl t.tail m k i N F A);refine⟨u,h3,?_⟩;have:=h2.app h4;simpa[triv]using this
def QR(v:bw Z)(G:Good c Z rec)(e:stmt Z rec o h=some r)(hd:Hd Z h)(B:h.cond≠ff):∃q,PV c Z (.stmt o (hI c h)) q/\RR c r q:=by
 unfold stmt at e;have hX:=hd.text;have V:=nr c h;have U:=nt hd.1 B;by_cases h1:h.text=mX
 .rw[ag h1]at e;obtain⟨q,m,y⟩:=G _ _ e _ (.vrb U V);cases t:h.cond.at' c with
  |false=>rw[gN t]at m |-;have:=PV.noneVar m;subst this;exact⟨triv,PV.step0 fun r=>rfl,y⟩
  |true=>rw[gO t]at m |-;rw[hX]at h1;exact⟨q,m.step1 fun r hr=>by simp only[ay,kz];rw[ag h1];exact hr,y⟩
 rw[ab h1]at e;by_cases h2:h.text=eG
 .rw[ag h2]at e;obtain⟨q,m,y⟩:=G _ _ e _ (.branch hd B rfl);cases t:h.cond.at' c with
  |false=>rw[gN t]at m |-;have:=PV.noneBranch m;subst this;exact⟨triv,PV.step0 fun r=>rfl,y⟩
  |true=>rw[gO t]at m |-;rw[hX]at h1 h2;exact⟨q,m.step1 fun r hr=>by simp only[ay,kz];rw[ab h1,ag h2];exact hr,y⟩
 rw[ab h2]at e;by_cases h3:h.text=tF
 .rw[ag h3]at e;simp only[cC,eH,a8]at e;obtain⟨a,ha,b,hb,l1,z,l2,ac,rfl⟩:=e;have:=fx z;subst this;have:=fx ac;subst this;obtain⟨x,m,s⟩:=G _ _ ha _ (.inside U V);obtain⟨C,y,u⟩:=G _ _ hb _ (.block s.fok s.f);have R:RR c ⟨give (give [gx 9 h 0] a.l) b.l,b.f,a.e++b.e⟩ ⟨give (give (jg 9 (hI c h) 0) x.l) C.l,C.p,x.e++C.e⟩:=
   ⟨u.fok,jB (jB (BZ hd.1 9 0) s.lok) u.lok,fo.2 ⟨s.eok,u.eok⟩,by rw[jC,jC,BX,s.l,u.l],u.f,by rw[eB,s.e,u.e]⟩
  cases t:h.cond.at' c with
  |false=>rw[gN t]at m R |-;have:=PV.noneInside m;subst this;have:=PV.noneBlock y;subst this;exact⟨triv,PV.step0 fun r=>rfl,R⟩
  |true=>rw[gO t]at m R |-;rw[hX]at h1 h2 h3;refine⟨_,m.step2 y fun r e1 e2=>?_,R⟩;simp only[ay,kz];rw[ab h1,ab h2,ag h3];simp only[cZ]at e1;rw[e1];simp only[cC,dz];rw[e2];rfl
 rw[ab h3]at e;by_cases h4:h.text=qE
 .rw[ag h4]at e;obtain⟨q,m,y⟩:=G _ _ e _ (.block (rG hd.1 B) (rF c h));cases t:h.cond.at' c with
  |false=>rw[gN t]at m |-;have:=PV.noneBlock m;subst this;exact⟨triv,PV.step0 fun r=>rfl,y⟩
  |true=>rw[gO t]at m |-;rw[hX]at h1 h2 h3 h4;exact⟨q,m.step1 fun r hr=>by simp only[ay,kz];rw[ab h1,ab h2,ab h3,ag h4];exact hr,y⟩
 rw[ab h4]at e;by_cases h5:h.text=tE
 .rw[ag h5]at e;obtain⟨H,L,J,I⟩:=oY v U V (aY Z bO) (pU bO);generalize A:bM Z (bT h) (bg bO)=sp at e H L J I;obtain⟨fin,g⟩:=sp;simp only[cC,eH]at e;obtain⟨a,ha,l1,z,e⟩:=e;have:=fx z;subst this;simp only at H L J I;obtain⟨x,m,s⟩:=G _ _ ha _ (.line L I);have jf:aA (fin.foldl joinH a.f):=s6 s.fok H.conds;have N:x.p=none\/(((hI c h).map (·+1)).map (nx c Z)).filter (aY Z bO)=none:=by
   rcases pP (((hI c h).map (·+1)).map (nx c Z)) (aY Z bO)with h|h
   .exact .inr h
   .rw[h]at m;have:=PV.noneLine m;subst this;exact .inl rfl
  have ja:=At.joinH s.fok H.conds s.f J N;obtain⟨P,t2,t3,t4⟩:=BK v jf ja bO;generalize A:Syn.take Z (fin.foldl joinH a.f) bO=sp at e P t2 t3 t4;obtain⟨S,e2⟩:=sp;simp only[a8]at e;subst e;have R:RR c ⟨give [gx 10 h 0] a.l,S,a.e++e2⟩ ⟨give (jg 10 (hI c h) 0) x.l,(de Z c (x.p.or ((((hI c h).map (·+1)).map (nx c Z)).filter (aY Z bO))) bO).1,x.e++(de Z c (x.p.or ((((hI c h).map (·+1)).map (nx c Z)).filter (aY Z bO))) bO).2⟩:=
   ⟨P,jB (BZ hd.1 10 0) s.lok,fo.2 ⟨s.eok,t2⟩,by rw[jC,BX,s.l],t3,by rw[eB,s.e,t4]⟩
  cases t:h.cond.at' c with
  |false=>rw[gN t]at m R |-;have:=PV.noneLine m;subst this;exact⟨triv,PV.step0 fun r=>rfl,R⟩
  |true=>rw[gO t]at m R |-;rw[hX]at h1 h2 h3 h4 h5;refine⟨_,m.step1 fun r e1=>?_,R⟩;simp only[ay,kz];rw[ab h1,ab h2,ab h3,ab h4,ag h5];simp only[oO];simp only[cZ]at e1 |-;rw[e1];rfl
 rw[ab h5]at e;by_cases h6:h.text=tC\/h.text=jF
 .rw[ag h6]at e;simp only[cC,eH]at e;obtain⟨a,ha,l1,z,e⟩:=e;have:=fx z;subst this;obtain⟨x,m,s⟩:=G _ _ ha _ (.line U V);have ht:=RR.take (rec:=rec) v s bO;generalize A:Syn.take Z a.f bO=sp at e ht;obtain⟨S,e2⟩:=sp;simp only[a8]at e;subst e;have R:∀kd,RR c ⟨give [gx kd h 0] a.l,S,a.e++e2⟩ ⟨give (jg kd (hI c h) 0) x.l,(de Z c x.p bO).1,x.e++(de Z c x.p bO).2⟩:=fun kd=>
   ⟨ht.fok,jB (BZ hd.1 kd 0) s.lok,ht.eok,by rw[jC,BX,s.l],ht.f,ht.e⟩
  have R:=R (if h.text=jF then 12 else 11);cases t:h.cond.at' c with
  |false=>rw[gN t]at m R |-;have:=PV.noneLine m;subst this;exact⟨triv,PV.step0 fun r=>rfl,R⟩
  |true=>rw[gO t]at m R |-;rw[hX]at h1 h2 h3 h4 h5 h6 R;rw[hX];refine⟨_,m.step1 fun r e1=>?_,R⟩;simp only[ay,kz];rw[ab h1,ab h2,ab h3,ab h4,ab h5,ag h6];simp only[cZ]at e1;rw[e1];rfl
 rw[ab h6]at e;have F:=uX v (rG hd.1 B) (rF c h) 7 0;have aa:(named Z (bG h) 7 0).l.tail=[]:=by rw[JA v hd B];split<;>rfl
 dsimp only at e;by_cases T:(named Z (bG h) 7 0).l=[]
 .rw[ag T]at e;cases e
  have hp:(bS Z c (hI c h) 7 0).l=[]:=by rw[<-F.l,T];rfl
  have Q:(bS Z c (hI c h) 7 0).p=none:=by
   unfold bS at hp |-;generalize (hI c h).map (nx c Z)=w at hp |-;cases w with
   |none=>rfl
   |some i=>
    by_cases hh:K Z i≠1\/fy (X Z i)=true
    .simp only[ag hh]
    .simp only[ab hh]at hp;cases hp
  have R:RR c ⟨[],[],(named Z (bG h) 7 0).e⟩ ⟨[],none,(bS Z c (hI c h) 7 0).e⟩:=⟨aA.nil,trivial,F.eok,rfl,rfl,F.e⟩;cases t:h.cond.at' c with
  |false=>rw[gN t]at R |-;exact⟨triv,PV.step0 fun r=>rfl,R⟩
  |true=>
   rw[gO t]at R hp Q |-;rw[hX]at h1 h2 h3 h4 h5 h6;have an:∀(n:Nat),(∀r:jJ,True):=fun _ _=>trivial;refine⟨⟨[],none,(bS Z c (some h.at') 7 0).e⟩,?_,R⟩;have W:PV c Z (.line 0 o none 0) triv:=by
    have z6:PV c Z (.unary o none 0) triv:=(PV.step0 fun r=>rfl:PV c Z (.unaryH o none 0) triv).step1 fun r hr=>by simp only[ay,vh];exact hr
    have zk:∀k,k<=5->PV c Z (.line (5-k) o none 0) triv:=by
     intro k
     induction k with
     |zero=>intro _;exact z6.step1 fun r hr=>by simp only[ay,mN,ag];exact hr
     |succ k ih=>
      intro hk;have ih:=ih O;have e5:5-(k+1)+1=5-k:=by omega
      have zl:PV c Z (.lineL (5-(k+1)) o 0 true [] none none) triv:=PV.step0 fun r=>rfl;exact ih.step2 zl fun r s u=>by simp only[ay,mN];rw[ab O,e5,s];simp only[triv]at u |-;simp only[cC,dz];rw[u];rfl
    exact zk 5 O
   have z2:PV c Z (.sCalls o (some h.at') none [] none) ⟨[],none,[]⟩:=PV.step0 fun r=>rfl;refine W.step2 z2 fun r s u=>?_;simp only[ay,kz];rw[ab h1,ab h2,ab h3,ab h4,ab h5,ab h6];simp only[hp,Q,bq,kG,Option.filter_none,EE,s,cC,dz];simp only[triv,give,List.map_nil,u,dz,EE];simp
 rw[ab T]at e;obtain⟨H,L,J,I⟩:=oY v F.fok F.f (aY Z cg) (pU cg);generalize A:bM Z (named Z (bG h) 7 0).f (bg cg)=sp at e H L J I;obtain⟨xs,g⟩:=sp;simp only at H L J I e;obtain⟨P,t2,t3,t4⟩:=BK v L I iw;generalize A:Syn.take Z g iw=sp at e P t2 t3 t4;obtain⟨g1,e1⟩:=sp;simp only[cC,eH]at e P t2 t3 t4;obtain⟨b,hb,l1,z,d,am,e⟩:=e;have:=fx z;subst this;obtain⟨x,m,s⟩:=G _ _ hb _ (.line P t3);have N:(((bS Z c (hI c h) 7 0).p.map (nx c Z)).filter (aY Z cg))=none\/x.p=none/\hI c h≠none/\pL c (give (named Z (bG h) 7 0).l b.l).tail=[]/\give (named Z (bG h) 7 0).l b.l≠[]:=by
  rcases pP ((bS Z c (hI c h) 7 0).p.map (nx c Z)) (aY Z cg)with h8|h8
  .exact .inl h8
  .cases hy:(((bS Z c (hI c h) 7 0).p.map (nx c Z)).filter (aY Z cg))with
   |none=>exact .inl rfl
   |some j=>
    refine .inr ⟨?_,fun hi=>?_,?_,?_⟩
    .rw[h8]at m;simp only[EE]at m;have:=PV.noneLine m;subst this;rfl
    .rw[hi]at hy;simp[bS]at hy
    .have:(give (named Z (bG h) 7 0).l b.l).tail=[]:=by unfold give;rw[<-List.map_tail,aa];rfl
     rw[this];rfl
    .unfold give;simpa using T
 obtain⟨C,y,u⟩:=G _ _ am _ (.sCalls hd rfl H J (jB F.lok s.lok) (by rw[jC,F.l,s.l]) s.fok s.f N);obtain⟨u1,u2,u3,u4⟩:=BK v u.fok u.f bO;generalize A:Syn.take Z d.f bO=sp at e u1 u2 u3 u4;obtain⟨S,e2⟩:=sp;simp only[a8]at e;subst e;have R:RR c ⟨d.l,S,(named Z (bG h) 7 0).e++e1++b.e++d.e++e2⟩ ⟨C.l,(de Z c C.p bO).1,(bS Z c (hI c h) 7 0).e++(de Z c (((bS Z c (hI c h) 7 0).p.map (nx c Z)).filter fun i=>!aY Z cg i) iw).2++x.e++C.e++(de Z c C.p bO).2⟩:=
  ⟨u1,u.lok,fo.2 ⟨fo.2 ⟨fo.2 ⟨fo.2 ⟨F.eok,t2⟩,s.eok⟩,u.eok⟩,u2⟩,u.l,u3,by rw[eB,eB,eB,eB,F.e,t4,s.e,u.e,u4]⟩
 cases t:h.cond.at' c with
 |false=>rw[gN t]at m y R |-;have:=PV.noneLine m;subst this;have:C=triv:=y.det (PV.step0 fun r=>rfl);subst this;exact⟨triv,PV.step0 fun r=>rfl,R⟩
 |true=>rw[gO t]at m y R |-;rw[hX]at h1 h2 h3 h4 h5 h6;refine⟨_,m.step2 y fun r W z2=>?_,R⟩;simp only[ay,kz];rw[ab h1,ab h2,ab h3,ab h4,ab h5,ab h6];simp only[oO,W,cC,dz];rw[z2];rfl
def Kf(a:bw Z):∀n,Good c Z (run Z n)
 |0=>fun x r e=>by cases e
 |n+1=>fun x r e y hr=>by
  have G:=Kf a n;have e:step Z (run Z n) x=some r:=e;cases hr with
  |line h1 h2=>exact QI a G e h1 h2
  |lineL h1 h2 h3 h4 h5 h6 b=>exact QJ a G e h1 h2 h3 h4 h5 h6 b
  |lineO h1 h2 h3 h4 h5 h6 b=>exact QL a G e h1 h2 h3 h4 h5 h6 b
  |unary h1 h2=>exact QS a G e h1 h2
  |unaryH h1 h2 h3=>subst h3;exact QT a G e h1 h2
  |calls h1 h3 h4 h5 h6 b g f d=>subst h3;exact QC a G e h1 h4 h5 h6 b g f d
  |inside h1 h2=>exact QG a G e h1 h2
  |listed h1 h2=>exact QN a G e h1 h2
  |listL h1 h2 h3 h4 h5 h6 b=>exact QM a G e h1 h2 h3 h4 h5 h6 b
  |item h1 h2=>exact QH a G e h1 h2
  |behind h1 h2=>exact Qz a G e h1 h2
  |vrb h1 h2=>exact QU a G e h1 h2
  |function h1 h2=>exact QE a G e h1 h2
  |block h1 h2=>exact QA a G e h1 h2
  |seqL h1 h2 h3 h4 h5 h6 b=>exact QQ a G e h1 h2 h3 h4 h5 h6 b
  |stmt h1 h2 h3=>subst h3;exact QR a G e h1 h2
  |sCalls h1 h3 h4 h5 h6 b g f d=>subst h3;exact QP a G e h1 h4 h5 h6 b g f d
  |branch h1 h2 h3=>subst h3;exact QB a G e h1 h2
  |elses h1 h2 h3 h4 h5 h6 b=>exact QD a G e h1 h2 h3 h4 h5 h6 b
  |ifs h1 h2 h3 h4 h5 h6 b=>exact QF a G e h1 h2 h3 h4 h5 h6 b
end
end Syn
