import Derived.Test.YtfaclfkpnmcmlaaGreatDoorE07
import Derived.Test.YtfaclfkpnmcmlaaGreatDoorE13
set_option maxHeartbeats 8000000
set_option linter.all false
namespace Syn
open Dg
section
variable {ts:List Tok} {rec:sY}
variable{out:ar}{l:List Nd}{o:Nat}
def H5(hts:bT ts){xs:List aB}(R:lG ts rec (mu ts (.elses o xs l out)))(t:lX ts (.elses o xs l out))(b:cU ts (.elses o xs l out)<=aN):∃r,elses ts rec o xs l out=some r/\lV ts (.elses o xs l out) r:=by
 obtain⟨hx,fo,hK⟩:=t;simp only[cU]at b;cases xs with
 |nil=>exact⟨⟨l,out,[]⟩,rfl,⟨fo,by simp only[cU,aaO];omega⟩,fun K hk=>by simpa[o8]using hk⟩
 |cons x xs=>
  obtain⟨h0,aa⟩:=hx.head;have hn:=h0.next;rw[bo]at b hK;have fa:=bH h0 aa;have hs:=iM hts fa (bD kT);rw[bz]at hs;have hr:=dC hts fa (bD kT);obtain⟨a,ea,qa⟩:=R (.block o (aM ts (bv x) (bD kT)).2 2) hr (by simp only[cU];omega) (by simp only[mu,bo];omega);have qa2:=qa.1.2;have hj:=eC (N:=ts.length) qa.1.1.ok.all fo.ok;obtain⟨g1,g2,_⟩:=dW (l:=l) (ks:=a.l) (K:=aN-(3*(hp ts.length x+eT ts.length xs))) (fun n hn=>by have:=hK n hn;omega) ab;have gk:∀K,KB K l->KB (K+a.l.length) (give l a.l):=fun K hk n hn=>by
   obtain⟨m,hm,rfl⟩:=List.mem_map.1 hn;have:=hk m hm;simp only[aa9];omega
  have gk2:∀n∈give l a.l,n.kids.length+3*eT ts.length (aM ts (bv x) (bD kT)).1+3*eT ts.length xs<=aN:=fun n hn=>by
   obtain⟨m,hm,rfl⟩:=List.mem_map.1 hn;have:=hK m hm;simp only[aa9];omega
  obtain⟨c,ec,qc,kc⟩:=R (.ifs o (aM ts (bv x) (bD kT)).1 (give l a.l) (joinAll out a.f)) ⟨kG hts fa bg,fo.joinAll qa.1.1,fun n hn=>by have:=gk2 n hn;omega⟩ (by simp only[cU,g2];omega) (by simp only[mu,bo];omega);have qc2:=qc.2;simp only[cU,g2]at qc2;obtain⟨d,ed,qd,kd⟩:=R (.elses o xs c.l c.f) ⟨hx.tail,qc.1,fun n hn=>by
   have:=kc (aN-3*eT ts.length (aM ts (bv x) (bD kT)).1-3*eT ts.length xs) (fun n hn=>by have:=gk2 n hn;omega) n hn;have hh:=gk2;have:3*eT ts.length (aM ts (bv x) (bD kT)).1+3*eT ts.length xs<=aN:=by omega
   omega⟩ (by simp only[cU];omega) (by simp only[mu,bo];omega)
  have qd2:=qd.2;simp only[cU]at qd2;refine⟨⟨d.l,d.f,a.e++c.e++d.e⟩,by simp only[elses,abI,jO,ea,g1,ec,ed],⟨qd.1,?_⟩,fun K hk n hn=>?_⟩
  ·simp only[cU,aa9,bo];omega
  ·have:=kd _ (kc _ (gk K hk)) n hn;rw[bo];omega
def Ph{ys:List aB}(R:lG ts rec (mu ts (.ifs o ys l out)))(t:lX ts (.ifs o ys l out))(b:cU ts (.ifs o ys l out)<=aN):∃r,ifs rec o ys l out=some r/\lV ts (.ifs o ys l out) r:=by
 obtain⟨hx,fo,hK⟩:=t;simp only[cU]at b;cases ys with
 |nil=>exact⟨⟨l,out,[]⟩,rfl,⟨fo,by simp only[cU,aaO];omega⟩,fun K hk=>by simpa[o8]using hk⟩
 |cons y ys=>
  obtain⟨h0,ac⟩:=hx.head;have aa:=h0.pos;rw[bo]at b hK;by_cases e:o=64
  ·obtain⟨d,ed,qd,kd⟩:=R (.ifs o ys l out) ⟨hx.tail,fo,fun n hn=>by have:=hK n hn;omega⟩ (by simp only[cU];omega) (by simp only[mu,bo];omega);have qd2:=qd.2;simp only[cU]at qd2;refine⟨⟨d.l,d.f,cJ y 11++d.e⟩,by simp only[ifs,aaq e,abI,jO,ed],⟨qd.1,?_⟩,fun K hk n hn=>?_⟩
   ·simp only[cU,aa9,bo,nh];omega
   ·have:=kd K hk n hn;rw[bo];omega
  ·obtain⟨a,ea,qa,qa2⟩:=R (.branch (o+1) y 2) ⟨h0,ac⟩ (by simp only[cU];omega) (by simp only[mu,bo];omega);have hj:=eC (N:=ts.length) qa.ok.all fo.ok;obtain⟨g1,g2,_⟩:=dW (l:=l) (ks:=a.l) (K:=aN-(3*(hp ts.length y+eT ts.length ys))) (fun n hn=>by have:=hK n hn;omega) ab;have gk:∀K,KB K l->KB (K+a.l.length) (give l a.l):=fun K hk n hn=>by
    obtain⟨m,hm,rfl⟩:=List.mem_map.1 hn;have:=hk m hm;simp only[aa9];omega
   obtain⟨d,ed,qd,kd⟩:=R (.ifs o ys (give l a.l) (joinAll out a.f)) ⟨hx.tail,fo.joinAll qa,fun n hn=>by
    obtain⟨m,hm,rfl⟩:=List.mem_map.1 hn;have:=hK m hm;simp only[aa9];omega⟩ (by simp only[cU,g2];omega) (by simp only[mu,bo];omega)
   have qd2:=qd.2;simp only[cU,g2]at qd2;refine⟨⟨d.l,d.f,a.e++d.e⟩,by simp only[ifs,ZV e,abI,jO,ea,g1,ed],⟨qd.1,?_⟩,fun K hk n hn=>?_⟩
   ·simp only[cU,aa9,bo];omega
   ·have:=kd _ (gk K hk) n hn;rw[bo];omega
variable{h:aB}
def ET(hts:bT ts){slot:Nat}(R:lG ts rec (mu ts (.branch o h slot)))(t:lX ts (.branch o h slot))(b:cU ts (.branch o h slot)<=aN):∃r,branch ts rec o h slot=some r/\lV ts (.branch o h slot) r:=by
 obtain⟨h0,aa⟩:=t;have hn:=h0.next;simp only[cU]at b;obtain⟨a,ea,qa⟩:=R (.inside o (bv h) 0) (bH h0 aa) (by simp only[cU,bz];omega) (by simp only[mu,bz];omega);have qa2:=qa.1.2;rw[bz]at qa2;obtain⟨c,ec,qc⟩:=R (.block o a.f 1) qa.1.1 (by simp only[cU];omega) (by simp only[mu];omega);have qc2:=qc.1.2;obtain⟨g1,g2,g3⟩:=dW (l:=[gz 8 h slot]) (K:=0) (ks:=a.l) (fun n hn=>by simp at hn;subst hn;exact ZR _) ab;obtain⟨g4,g5,g6⟩:=dW g3 (ks:=c.l) ab;have hs:=iM hts qc.1.1 (bD dr);have hl:(give (give [gz 8 h slot] a.l) c.l).length=1:=by rw[g5,g2];rfl
 obtain⟨d,ed,qd,_⟩:=R (.elses o (aM ts c.f (bD dr)).1 (give (give [gz 8 h slot] a.l) c.l) (aM ts c.f (bD dr)).2) ⟨kG hts qc.1.1 bg,dC hts qc.1.1 _,fun n hn=>by have:=g6 n hn;omega⟩ (by simp only[cU,hl];omega) (by simp only[mu];omega);have qd2:=qd.2;simp only[cU,hl]at qd2;refine⟨⟨d.l,d.f,a.e++c.e++d.e⟩,by simp only[branch,abI,jO,ea,ec,g1,g4,ed],qd.1,?_⟩;simp only[aa9];omega
def tM(k slot:Nat)(h:aB):KB 0 [gz k h slot]:=fun n hn=>by simp at hn;subst hn;exact ZR _
def JK(hts:bT ts)(R:lG ts rec (mu ts (.stmt o h)))(t:lX ts (.stmt o h))(b:cU ts (.stmt o h)<=aN):∃r,stmt ts rec o h=some r/\lV ts (.stmt o h) r:=by
 have h0:kS ts h:=t;have hn:=h0.next;simp only[cU]at b;unfold stmt;split
 ·rename_i e;have fa:=bH h0 (h0.lt2 bg e);obtain⟨a,ea,qa⟩:=R (.vrb o (bv h)) fa (by simp only[cU,bz];omega) (by simp only[mu,bz];omega);have qa2:=qa.2;simp only[cU,bz]at qa2;exact⟨a,ea,qa.1,ab⟩
 split
 ·rename_i e;exact R (.branch o h 0) ⟨h0,h0.lt2 bg e⟩ b (by simp only[mu];omega)
 split
 ·rename_i e;have fa:=bH h0 (h0.lt2 bg e);obtain⟨a,ea,qa⟩:=R (.inside o (bv h) 0) fa (by simp only[cU,bz];omega) (by simp only[mu,bz];omega);have qa2:=qa.1.2;rw[bz]at qa2;obtain⟨c,ec,qc⟩:=R (.block o a.f 1) qa.1.1 (by simp only[cU];omega) (by simp only[mu];omega);have qc2:=qc.1.2;obtain⟨g1,g2,g3⟩:=dW (tM 9 0 h) (ks:=a.l) ab;obtain⟨g4,g5,g6⟩:=dW g3 (ks:=c.l) ab;have hl:(give (give [gz 9 h 0] a.l) c.l).length=1:=by rw[g5,g2];rfl
  refine⟨⟨give (give [gz 9 h 0] a.l) c.l,c.f,a.e++c.e⟩,by simp only[abI,jO,ea,ec,g1,g4],qc.1.1,?_⟩;simp only[aa9,hl];omega
 split
 ·obtain⟨a,ea,qa⟩:=R (.block o (bX h) 0) (jk h0) (by simp only[cU,fR];omega) (by simp only[mu,fR];omega);have q2:=qa.2 (by simp[bX]);rw[fR]at q2;exact⟨a,ea,qa.1.1,q2⟩
 split
 ·rename_i e;have fa:=bH h0 (h0.lt2 bg e);have hs:=iM hts fa (bD a8);rw[bz]at hs;have hr:=dC hts fa (bD a8);have hy:rL ts (aM ts (bv h) (bD a8)).1:=kG hts fa bg;obtain⟨a,ea,qa⟩:=R (.line 0 o (aM ts (bv h) (bD a8)).2 0) ⟨hr,ab⟩ (by simp only[cU];omega) (by simp only[mu];omega);have qa2:=qa.2;simp only[cU]at qa2;obtain⟨g1,g2,g3⟩:=dW (tM 10 0 h) (ks:=a.l) ab;have hl:(give [gz 10 h 0] a.l).length=1:=by rw[g2];rfl
  have hj:=qL (N:=ts.length) (fun x hx=>(hy.all x hx).ok) qa.1.ok;have fj:=lJ hy.all qa.1;have ht:=i7 hts fj a8;refine⟨⟨give [gz 10 h 0] a.l,(take ts ((aM ts (bv h) (bD a8)).1.foldl joinH a.f) a8).1,a.e++(take ts ((aM ts (bv h) (bD a8)).1.foldl joinH a.f) a8).2⟩,by simp only[abI,jO,ea,g1],dK hts fj bg,?_⟩;simp only[aa9,hl];omega
 split
 ·rename_i e;have fa:=bH h0 (e.elim (h0.lt2 bg) (h0.lt2 bg));obtain⟨a,ea,qa⟩:=R (.line 0 o (bv h) 0) ⟨fa,ab⟩ (by simp only[cU,bz];omega) (by simp only[mu,bz];omega);have qa2:=qa.2;simp only[cU,bz]at qa2;obtain⟨g1,g2,g3⟩:=dW (tM (if h.text=ew then 12 else 11) 0 h) (ks:=a.l) ab;have hl:(give [gz (if h.text=ew then 12 else 11) h 0] a.l).length=1:=by rw[g2];rfl
  have ht:=i7 hts qa.1 a8;refine⟨⟨give [gz (if h.text=ew then 12 else 11) h 0] a.l,(take ts a.f a8).1,a.e++(take ts a.f a8).2⟩,by simp only[abI,jO,ea,g1],dK hts qa.1 bg,?_⟩;simp only[aa9,hl];omega
 have fh:=jk h0;obtain⟨⟨_,s1⟩,k1⟩:=nz hts fh 7 0;have s2:=s1 (by simp[bX]);unfold Sp at s2;rw[fR]at s2;have ag:=h0.pos;have fa:=iy hts fh 7 0;by_cases e:(named ts (bX h) 7 0).l=[]
 ·refine⟨⟨[],[],(named ts (bX h) 7 0).e⟩,by simp only[aaq e],FN.nil _,?_⟩;simp only[aaO,dO];omega
 ·have ac:=iM hts fa (bD eM);have fs:=dC hts fa (bD eM);have ht:=i7 hts fs su;have f2:=dK hts fs (s:=su) bg;obtain⟨a,ea,qa⟩:=R (.line 0 o (take ts (aM ts (named ts (bX h) 7 0).f (bD eM)).2 su).1 0) ⟨f2,ab⟩ (by simp only[cU];omega) (by simp only[mu];omega);have qa2:=qa.2;simp only[cU]at qa2;obtain⟨g1,g2,g3⟩:=dW (KB.zero k1) (ks:=a.l) ab;obtain⟨c,ec,qc⟩:=R (.sCalls o h (aM ts (named ts (bX h) 7 0).f (bD eM)).1 (give (named ts (bX h) 7 0).l a.l) a.f) ⟨kG hts fa bg,qa.1⟩ (by simp only[cU,g2];omega) (by simp only[mu];omega);have qc2:=qc.2;simp only[cU,g2]at qc2;have aa:=i7 hts qc.1 a8;refine⟨⟨c.l,(take ts c.f a8).1,(named ts (bX h) 7 0).e++(take ts (aM ts (named ts (bX h) 7 0).f (bD eM)).2 su).2++a.e++c.e++(take ts c.f a8).2⟩,by simp only[ZV e,abI,jO,ea,g1,ec],dK hts qc.1 bg,?_⟩;simp only[aa9];omega
variable{top:Bool}
def Nh(hts:bT ts){m:Nat}(hm:64*hp ts.length h+45<m)(R:lG ts rec m)(h0:kS ts h)(b:3*hp ts.length h<=aN):∃r,zy rec top o h=some r/\Bh ts h r:=by
 have hn:=h0.next;cases top with
 |false=>exact R (.stmt o h) h0 b (by simp only[mu];omega)
 |true=>
  show ∃r,qj rec o h=some r/\_;unfold qj;split
  ·rename_i e;have fa:=bH h0 (h0.lt2 bg e);obtain⟨a,ea,qa⟩:=R (.vrb o (bv h)) fa (by simp only[cU,bz];omega) (by simp only[mu,bz];omega);have qa2:=qa.2;simp only[cU,bz]at qa2;exact⟨a,ea,qa.1,ab⟩
  split
  ·rename_i e;have fa:=bH h0 (h0.lt2 bg e);obtain⟨a,ea,qa⟩:=R (.function o (bv h)) fa (by simp only[cU,bz];omega) (by simp only[mu,bz];omega);have qa2:=qa.2;simp only[cU,bz]at qa2;exact⟨a,ea,qa.1,ab⟩
  ·exact⟨_,rfl,Bh.fail h0 10⟩
def Mw(hts:bT ts){f:ar}(R:lG ts rec (mu ts (.seqL top o f l out)))(t:lX ts (.seqL top o f l out))(b:cU ts (.seqL top o f l out)<=aN):∃r,seqL ts rec top o f l out=some r/\lV ts (.seqL top o f l out) r:=by
 obtain⟨fn,fo⟩:=t;simp only[cU]at b;have hh:=hQ hts fn (N:=ts.length);have hm:=fun h (hm:h∈heads ts f)=>b9 hts fn hm;unfold seqL;split
 ·refine⟨⟨l,out,[]⟩,rfl,fo,?_⟩;simp only[cU,aaO];omega
 ·rename_i h hs eH;rw[eH]at hh hm;rw[bo]at hh;have h0:=hm h (.head _);have ag:=h0.pos;have aa:=fun x (hx:x∈hs)=>hm x (.tail _ hx);have ac:=fun{z:ar}=>qL (N:=ts.length) (f:=z) (fun x hx=>(aa x hx).ok);split
  ·have hj:=ac cq.nil;rw[dO]at hj;have aj:=jF (N:=ts.length) fo.ok.all (a:=h.at') h0.ok;have al:fe ts.length (joinH out h)<=fe ts.length out+hp ts.length h:=aj;obtain⟨a,ea,qa⟩:=R (.seqL top o (hs.foldl joinH []) l (joinH out h)) ⟨lJ aa (FN.nil _),fo.join h0.le h0.ok⟩ (by simp only[cU];omega) (by simp only[mu];omega);have qa2:=qa.2;simp only[cU]at qa2;refine⟨a,ea,qa.1,?_⟩;simp only[cU];omega
  ·obtain⟨a,ea,qa,qa2⟩:=Nh (top:=top) (o:=o) hts (m:=mu ts (.seqL top o f l out)) (by simp only[mu];omega) R h0 ab;have c1:=tS (l:=l++a.l) (by rw[aa9];omega);have ak:=eC (N:=ts.length) qa.ok.all cq.nil;rw[dO]at ak;have f0:=(FN.nil ts.length).joinAll qa;have hj:=ac f0.ok;obtain⟨c,ec,qc⟩:=R (.seqL top o (hs.foldl joinH (joinAll [] a.f)) (l++a.l) out) ⟨lJ aa f0,fo⟩ (by simp only[cU,aa9];omega) (by simp only[mu];omega);have qc2:=qc.2;simp only[cU,aa9]at qc2;refine⟨⟨c.l,c.f,a.e++c.e⟩,by simp only[abI,jO,ea,c1,ec],qc.1,?_⟩;simp only[cU,aa9];omega
def G2(hts:bT ts):∀n,lG ts (run ts n) n
 |0=>fun c _ _ h=>absurd h (Nat.not_lt_zero _)
 |n+1=>fun c t b h=>by
  have R:lG ts (run ts n) (mu ts c):=fun d td bd hd=>G2 hts n d td bd ab;show ∃r,step ts (run ts n) c=some r/\_;cases c with
  |line=>exact Kl (m:=0) R t b
  |lineL=>exact Ic hts R t b
  |lineO=>exact HO R t b
  |unary=>exact HT hts R t b
  |unaryH=>exact Ez hts R t b
  |calls=>exact Ih R t b
  |inside=>exact Fh hts R t b
  |listed=>exact Ff hts R t b
  |listL=>exact Jm hts R t b
  |item=>exact Ll hts R t b
  |behind=>exact F0 hts R t b
  |vrb=>exact Be hts R t b
  |function=>exact AX hts R t b
  |block=>exact Iu hts R t b
  |seqL=>exact Mw hts R t b
  |stmt=>exact JK hts R t b
  |sCalls=>exact FZ R t b
  |branch=>exact ET hts R t b
  |elses=>exact H5 hts R t b
  |ifs=>exact Ph R t b
end
open Dg
section
variable {c:bP} {ts:List Tok}
def Good(c:bP)(ts:List Tok)(rec:sY):Prop:=∀x r,rec x=some r->∀y,yZ c ts x y->∃q,PV c ts y q/\RR c r q
theorem mz(c:bP)(ts:List Tok)(p:Option Nat)(is:Nat->Bool):qz c ts p is=(p.map (nx c ts)).filter is:=rfl
def iQ (o : Option Nat) (is : Nat → Bool) : (o.filter is = none) ∨ (o.filter fun i => !is i) = none := by
  cases o with
  | none => exact .inl rfl
  | some i => cases h : is i
              · exact .inl (by simp [Option.filter, h])
              · exact .inr (by simp [Option.filter, h])
def If(hts:bT ts){rec:sY}(G:Good c ts rec){k o slot:Nat}{f:ar}{p:Option Nat}{r:bW}(e:line rec k o f slot=some r)(hf:cq f)(hp:At c f p):∃q,PV c ts (.line k o p slot) q/\RR c r q:=by
 unfold line at e;split at e
 ·rename_i hk;obtain⟨q,h1,h2⟩:=G _ _ e _ (.unary hf hp);exact⟨q,h1.step1 fun r hr=>by simp only[aC,ni,aaq hk];exact hr,h2⟩
 ·rename_i hk;simp only[abI,abJ,ZW]at e;obtain⟨a,ha,b,hb,rfl⟩:=e;obtain⟨q,h1,h2⟩:=G _ _ ha _ (.line hf hp);obtain⟨u,h3,h4⟩:=G _ _ hb _ (.lineL h2.lok h2.l h2.fok h2.f cq.nil (At.nil c) (.inr rfl));exact⟨_,h1.step2 h3 fun r hr hs=>by simp only[aC,ni,ZV hk,hr,abI,jO,hs],h2.app h4⟩
theorem SM(k i:Nat)(d:T):ti k ⟨i,d,K ts i,X ts i⟩=gK ts k i:=rfl
theorem nW(s:bq)(i:Nat)(d:T):bD s ⟨i,d,K ts i,X ts i⟩=pi ts s i:=rfl
def EE (hts : bT ts) {rec : sY} (G : Good c ts rec) {k o slot : Nat} {first : Bool} {l l' : List Nd} {g out : ar} {g' out' : Option Nat} {r : bW} (e : lineL ts rec k o slot first l g out = some r) (hl : iE l) (pl : pL c l = l') (hg : cq g) (pg : At c g g') (ho : cq out) (po : At c out out') (ag : g' = none ∨ out' = none) :
    ∃ q, PV c ts (.lineL k o slot first l' g' out') q ∧ RR c r q := by
  unfold lineL at e
  split at e
  · rename_i hz
    subst hz
    cases e
    have : g' = none := by cases g' with
      | none => rfl
      | some i => simp [At, eS] at pg
    subst this
    exact ⟨⟨l', out', []⟩, PV.step0 fun r => rfl, ho, hl, eU, pl, po, rfl⟩
  · split at e
    · rename_i hk
      cases e
      refine ⟨⟨l', out'.or g', []⟩, PV.step0 fun r => ?_, dY (fun s hs => (hg.1 s hs).1) ho, hl, eU, pl, At.joinAll ho hg po pg (ag.symm), rfl⟩
      simp only [aC, lP]
      cases g' with
      | none => simp
      | some i => have : out' = none := by rcases ag with h | h; cases h; exact h
                  simp [hk, this]
    · rename_i hk
      obtain ⟨s1, s2, s3, s4⟩ := iY hts hg pg (gK ts k) (SM k)
      generalize aj : aM ts g (ti k) = sp at e s1 s2 s3 s4
      obtain ⟨ops, rest⟩ := sp
      simp only [abI, abJ, ZW] at e
      obtain ⟨a, ha, b, hb, rfl⟩ := e
      obtain ⟨q, h1, h2⟩ := G _ _ ha _ (.lineO s1 s3 hl pl cq.nil (At.nil c) (.inr rfl))
      have jo : cq (joinAll out rest) := dY (fun s hs => (s2.1 s hs).1) ho
      cases g' with
      | none =>
        have hq : q = ⟨l', none, []⟩ := h1.det (PV.step0 fun r => rfl)
        subst hq
        have ja : At c (joinAll out rest) out' := by have := At.joinAll ho s2 po s4 (.inr rfl); simpa using this
        obtain ⟨u, h3, h4⟩ := G _ _ hb _ (.lineL h2.lok h2.l h2.fok h2.f jo ja (.inl rfl))
        have hu : u = ⟨l', out', []⟩ := h3.det (PV.step0 fun r => rfl)
        subst hu
        exact ⟨⟨l', out', []⟩, PV.step0 fun r => rfl, h2.app h4⟩
      | some p =>
        have ac : out' = none := by rcases ag with h | h; cases h; exact h
        subst ac
        have ja : At c (joinAll out rest) (qz c ts (some p) fun i => !gK ts k i) := by have := At.joinAll ho s2 po s4 (.inl rfl); simpa [qz] using this
        have aa : q.p = none ∨ (qz c ts (some p) fun i => !gK ts k i) = none := by
          rcases iQ ((some p).map (nx c ts)) (gK ts k) with h | h
          · left
            rw [h] at h1
            have hq : q = ⟨l', none, []⟩ := h1.det (PV.step0 fun r => rfl)
            rw [hq]
          · exact .inr h
        obtain ⟨u, h3, h4⟩ := G _ _ hb _ (.lineL h2.lok h2.l h2.fok h2.f jo ja aa)
        refine ⟨_, h1.step2 h3 fun r hr hs => ?_, h2.app h4⟩
        simp only [aC, lP]
        rw [ZV hk]
        simp only [mz, hr, abI, jO]
        simp only [mz] at hs
        rw [hs]; rfl
def FJ(hts:bT ts){rec:sY}(G:Good c ts rec){k o slot:Nat}{ops:List aB}{op:Option Nat}{l l':List Nd}{g:ar}{g':Option Nat}{r:bW}(e:lineO rec k o slot ops l g=some r)(ac:vO ts ops)(pR:ny c ops op)(hl:iE l)(pl:pL c l=l')(hg:cq g)(pg:At c g g')(ag:op=none\/g'=none):
  ∃q,PV c ts (.lineO k o slot op l' g') q/\RR c r q:=by
 unfold lineO at e;cases ops with
 |nil=>
  simp only[ZW]at e;subst e;have:op=none:=by cases op with
   |none=>rfl
   |some i=>simp[ny,rM]at pR
  subst this;exact⟨⟨l',g',[]⟩,PV.step0 fun r=>rfl,hg,hl,eU,pl,pg,rfl⟩
 |cons h ops=>
  simp only[abI,abJ,ZW]at e;obtain⟨a,ha,_,_,_,_,b,hb,rfl⟩:=e;obtain⟨hd,ak⟩:=ac.hd;obtain⟨q,h1,h2⟩:=G _ _ ha _ (.line (iq hd.1 ak) (iA c h));have al:=No hd.1 hl;have aj:=JA hd.1 hl;have aa:iE (dH l h.cond++[⟨13,h.text,h.at',slot,fX l h.cond++a.l,h.cond⟩]):=iN.2 ⟨aj,im hd.1 (iN.2 ⟨al,h2.lok⟩)⟩;have jg:cq (joinAll g a.f):=dY (fun s hs=>(h2.fok.1 s hs).1) hg;rcases pR.cons with ⟨hc,rfl,pop2⟩|⟨hc,pop2⟩
  ·have hi:hI c h=some h.at':=by simp[hI,hc]
   rw[hi]at h1;have am:g'=none:=by rcases ag with h|h;cases h;exact h
   subst am;have pnew:pL c (dH l h.cond++[⟨13,h.text,h.at',slot,fX l h.cond++a.l,h.cond⟩])=[⟨13,X ts h.at',h.at',slot,slot0 l'++q.l,tt⟩]:=by
    rw[fq,zQ c hd.1 hl,aaq hc,gm];simp only[hc,ZT,fq,Mi c hd.1 hl,pl,h2.l,hd.text,aaA]
   have pj:At c (joinAll g a.f) q.p:=by have:=At.joinAll hg h2.fok pg h2.f (.inl rfl);simpa using this
   obtain⟨u,h3,h4⟩:=G _ _ hb _ (.lineO ac.tail pop2 aa pnew jg pj (.inl rfl));have hu:u=⟨[⟨13,X ts h.at',h.at',slot,slot0 l'++q.l,tt⟩],q.p,[]⟩:=h3.det (PV.step0 fun r=>rfl);subst hu;refine⟨_,h1.step1 fun r hr=>?_,h2.app h4⟩;simp only[aC,pY];simp only[Z9]at hr;rw[hr];simp
  ·have hi:hI c h=none:=by simp[hI,hc]
   rw[hi]at h1;have hq:=PV.noneLine h1;subst hq;have pnew:pL c (dH l h.cond++[⟨13,h.text,h.at',slot,fX l h.cond++a.l,h.cond⟩])=l':=by
    rw[fq,zQ c hd.1 hl,gm];simp[hc,pl]
   have pj:At c (joinAll g a.f) g':=by have:=At.joinAll hg h2.fok pg h2.f (.inr rfl);simpa[ap]using this
   obtain⟨u,h3,h4⟩:=G _ _ hb _ (.lineO ac.tail pop2 aa pnew jg pj ag);refine⟨u,h3,?_⟩;have:=h2.app h4;simpa[ap]using this
end
open Dg
section
variable {c:bP} {ts:List Tok}
variable{h:aB}
def fp(hc:h.cond.at' c=true):hI c h=some h.at':=by simp[hI,hc]
def iC(hc:h.cond.at' c=false):hI c h=none:=by simp[hI,hc]
def RR.fail(k:h.cond.ok 0)(code:Nat):RR c ⟨[],[],cJ h code⟩ ⟨[],none,if h.cond.at' c then [(code,(h.at':Int))]else []⟩:=
 ⟨cq.nil,trivial,sI k code,rfl,rfl,lq c h code⟩
theorem RR.take{rec:sY}(hts:bT ts){a:bW}{q:PR}(h:RR c a q)(s:bq):RR c ⟨a.l,(take ts a.f s).1,a.e++(take ts a.f s).2⟩ ⟨q.l,(aW ts c q.p s).1,q.e++(aW ts c q.p s).2⟩:=by
 obtain⟨t1,t2,t3,t4⟩:=iL hts h.fok h.f s;exact⟨t1,h.lok,cI.2 ⟨h.eok,t2⟩,h.l,t3,by rw[cR,h.e,t4]⟩
theorem rH(s:bq):aW ts c none s=(none,[]):=rfl
def RR.trivTake(hts:bT ts){a:bW}(h:RR c a ap)(s:bq):RR c ⟨a.l,(Syn.take ts a.f s).1,a.e++(Syn.take ts a.f s).2⟩ ap:=RR.take (rec:=fun _=>none) hts h s
def EK(hts:bT ts){rec:sY}(G:Good c ts rec){o slot:Nat}{f:ar}{p:Option Nat}{r:bW}(e:cT ts f (fun h=>rec (.unaryH o h slot))=some r)(hf:cq f)(hp:At c f p):∃q,PV c ts (.unary o p slot) q/\RR c r q:=by
 have key:=lh hts hf hp e (P:=fun i q=>PV c ts (.unaryH o (some i) slot) q) fun h x hd aa hx=>by
  obtain⟨q,h1,h2⟩:=G _ _ hx _ (.unaryH hd aa rfl);cases hc:h.cond.at' c with
  |true=>rw[fp hc]at h1;exact⟨q,h1,h2⟩
  |false=>
   rw[iC hc]at h1;have:q=ap:=h1.det (PV.step0 fun r=>rfl);subst this;exact h2
 cases p with
 |none=>exact⟨ap,(PV.step0 fun r=>rfl:PV c ts (.unaryH o none slot) ap).step1 fun r hr=>by simp only[aC,ry];exact hr,key⟩
 |some p=>
  obtain⟨q,h1,h2⟩:=key;exact⟨q,h1.step1 fun r hr=>by simp only[aC,ry];exact hr,h2⟩
def Da(hts:bT ts){rec:sY}(G:Good c ts rec){o slot:Nat}{r:bW}(e:unaryH ts rec o h slot=some r)(hd:Hd ts h)(ac:h.cond≠ff):∃q,PV c ts (.unaryH o (hI c h) slot) q/\RR c r q:=by
 unfold unaryH at e;have hX:=hd.text;have hK:=hd.kind;have ha:=iA c h;have aa:=iq hd.1 ac;cases hc:h.cond.at' c with
 |false=>
  have hi:=iC hc;rw[hi]at ha |-;refine⟨ap,PV.step0 fun r=>rfl,?_⟩;split at e
  ·split at e
   ·cases e;have:=RR.fail (c:=c) hd.1 11;rw[hc]at this;exact this
   ·simp only[abI,abJ,ZW]at e;obtain⟨a,aj,rfl⟩:=e;obtain⟨q,h1,h2⟩:=G _ _ aj _ (.unary aa ha);have:=PV.noneUnary h1;subst this;exact⟨h2.fok,im hd.1 h2.lok,h2.eok,by rw[gm];simp[hc,ap],h2.f,h2.e⟩
  ·split at e
   ·obtain⟨q,h1,h2⟩:=G _ _ e _ (.inside (mo hd.1 ac) (mn c h));rw[hi]at h1;have:=PV.noneInside h1;subst this;exact h2
   ·split at e
    ·cases e;exact⟨aa,im hd.1 trivial,eU,by rw[gm];simp[hc,ap],ha,rfl⟩
    ·split at e
     ·cases e;exact⟨aa,im hd.1 trivial,eU,by rw[gm];simp[hc,ap],ha,rfl⟩
     ·split at e
      ·cases e;exact⟨aa,im hd.1 trivial,eU,by rw[gm];simp[hc,ap],ha,rfl⟩
      ·have hn:=nu hts (mo hd.1 ac) (mn c h) 18 slot;rw[hi]at hn;obtain⟨s1,s2,s3,s4⟩:=iY hts hn.fok hn.f (pi ts eM) (nW eM);dsimp only at e;generalize al:aM ts (named ts (bX h) 18 slot).f (bD eM)=sp at e s1 s2 s3 s4;obtain⟨xs,g⟩:=sp;simp only[abI,abJ,ZW]at e;obtain⟨b,hb,rfl⟩:=e;obtain⟨q,h1,h2⟩:=G _ _ hb _ (.calls hd hi s1 s3 hn.lok hn.l s2 s4 (.inl rfl));have:q=⟨[],none,[]⟩:=h1.det (PV.step0 fun r=>rfl);subst this;exact hn.app h2
 |true=>
  have hi:=fp hc;rw[hi]at ha |-;rw[hX,hK]at e;by_cases h1:X ts h.at'=Fg\/X ts h.at'=jS
  ·rw[aaq h1]at e;split at e
   ·rename_i h2;cases e
    refine⟨_,PV.step0 fun r=>by simp only[aC,fZ];rw[aaq h1,aaq h2],?_⟩;have:=RR.fail (c:=c) hd.1 11;rw[hc]at this;exact this
   ·rename_i h2;simp only[abI,abJ,ZW]at e;obtain⟨a,aj,rfl⟩:=e;obtain⟨q,h3,h4⟩:=G _ _ aj _ (.unary aa ha);refine⟨⟨[⟨14,X ts h.at',h.at',slot,q.l,tt⟩],q.p,q.e⟩,h3.step1 fun r hr=>?_,⟨h4.fok,im hd.1 h4.lok,h4.eok,?_,h4.f,h4.e⟩⟩
    ·simp only[Z9]at hr;simp only[aC,fZ];rw[aaq h1,ZV h2,hr];rfl
    ·rw[gm];simp[hc,h4.l]
  ·rw[ZV h1]at e;by_cases h2:X ts h.at'=eM
   ·rw[aaq h2]at e;obtain⟨q,h3,h4⟩:=G _ _ e _ (.inside (mo hd.1 ac) (mn c h));rw[hi]at h3;refine⟨q,h3.step1 fun r hr=>?_,h4⟩;simp only[aC,fZ];rw[ZV h1,aaq h2,hr]
   ·rw[ZV h2]at e;by_cases h3:K ts h.at'=2
    ·rw[aaq h3]at e;cases e
     refine⟨_,PV.step0 fun r=>by simp only[aC,fZ];rw[ZV h1,ZV h2,aaq h3],?_⟩;exact⟨aa,im hd.1 trivial,eU,by rw[gm];simp[hc,pL],ha,rfl⟩
    ·rw[ZV h3]at e;by_cases h4:X ts h.at'=pH\/X ts h.at'=mK
     ·rw[aaq h4]at e;cases e
      refine⟨_,PV.step0 fun r=>by simp only[aC,fZ];rw[ZV h1,ZV h2,ZV h3,aaq h4],?_⟩;exact⟨aa,im hd.1 trivial,eU,by rw[gm];simp[hc,pL],ha,rfl⟩
     ·rw[ZV h4]at e;by_cases h5:X ts h.at'=qX
      ·rw[aaq h5]at e;cases e
       refine⟨_,PV.step0 fun r=>by simp only[aC,fZ];rw[ZV h1,ZV h2,ZV h3,ZV h4,aaq h5],?_⟩;exact⟨aa,im hd.1 trivial,eU,by rw[gm];simp[hc,pL],ha,rfl⟩
      ·rw[ZV h5]at e;have hn:=nu hts (mo hd.1 ac) (mn c h) 18 slot;rw[hi]at hn;obtain⟨s1,s2,s3,s4⟩:=iY hts hn.fok hn.f (pi ts eM) (nW eM);dsimp only at e;have ak:(named ts (bX h) 18 slot).l.tail=[]:=by rw[xT hts hd ac];split<;>rfl
       have ag:(qz c ts (aI ts c (some h.at') 18 slot).p (pi ts eM))=none\/(qz c ts (aI ts c (some h.at') 18 slot).p fun i=>!pi ts eM i)=none/\some h.at'≠none/\pL c (named ts (bX h) 18 slot).l.tail=[]:=by
        cases hy:qz c ts (aI ts c (some h.at') 18 slot).p (pi ts eM)with
        |none=>exact .inl rfl
        |some j=>
         refine .inr ⟨?_,by simp,?_⟩
         ·rcases iQ ((aI ts c (some h.at') 18 slot).p.map (nx c ts)) (pi ts eM)with h|h
          ·rw[mz,h]at hy;cases hy
          ·exact h
         ·rw[ak];rfl
       generalize al:aM ts (named ts (bX h) 18 slot).f (bD eM)=sp at e s1 s2 s3 s4;obtain⟨xs,g⟩:=sp;simp only[abI,abJ,ZW]at e;obtain⟨b,hb,rfl⟩:=e;obtain⟨q,h6,h7⟩:=G _ _ hb _ (.calls hd hi s1 s3 hn.lok hn.l s2 s4 ag);refine⟨_,h6.step1 fun r hr=>?_,hn.app h7⟩;simp only[aC,fZ];rw[ZV h1,ZV h2,ZV h3,ZV h4,ZV h5];simp only[mz]at hr |-;rw[hr];rfl
end
open Dg
section
variable {c:bP} {ts:List Tok}
variable{p:Option Nat}
def ny.nil_none(h:ny c [] p):p=none:=by
 cases p with
 |none=>rfl
 |some i=>simp[ny,rM]at h
variable{r:bW}{o slot:Nat}
def FL(hts:bT ts){rec:sY}(G:Good c ts rec){h:aB}{xs:List aB}{x:Option Nat}{names names':List Nd}{g:ar}{g':Option Nat}(e:calls rec o h slot xs names g=some r)(hd:Hd ts h)(ag:vO ts xs)(px:ny c xs x)(hl:iE names)(pl:pL c names=names')(hg:cq g)(pg:At c g g')
  (aa:x=none\/g'=none/\hI c h≠none/\pL c names.tail=[]):∃q,PV c ts (.calls o (hI c h) slot x names' g') q/\RR c r q:=by
 unfold calls at e;cases xs with
 |nil=>
  simp only[ZW]at e;subst e;have:=px.nil_none;subst this;exact⟨⟨names',g',[]⟩,PV.step0 fun r=>by simp only[aC,nY];cases hI c h<;>rfl,hg,hl,eU,pl,pg,rfl⟩
 |cons y xs=>
  simp only[abI,abJ,ZW]at e;obtain⟨a,ha,_,_,b,hb,rfl⟩:=e;obtain⟨yd,yne⟩:=ag.hd;obtain⟨q,h1,h2⟩:=G _ _ ha _ (.listed (mo yd.1 yne) (mn c y));have ac:iE (kJ names y.cond++[⟨19,h.text,h.at',slot,a.l,y.cond⟩]):=iN.2 ⟨G9 yd.1 hl,im yd.1 h2.lok⟩;have jg:cq (joinAll g a.f):=dY (fun s hs=>(h2.fok.1 s hs).1) hg;rcases px.cons with ⟨hc,rfl,px2⟩|⟨hc,px2⟩
  ·rw[fp hc]at h1;rcases aa with aa|⟨rfl,hi,ak⟩
   ·cases aa
   have al:h.cond.at' c=true:=by
    cases hh:h.cond.at' c with
    |true=>rfl
    |false=>exact absurd (iC hh) hi
   have pnew:pL c (kJ names y.cond++[⟨19,h.text,h.at',slot,a.l,y.cond⟩])=[⟨19,X ts h.at',h.at',slot,q.l,tt⟩]:=by
    rw[fq,wx c yd.1 hl,aaq hc,ak,gm];simp[hc,h2.l,hd.text]
   have pj:At c (joinAll g a.f) q.p:=by have:=At.joinAll hg h2.fok pg h2.f (.inl rfl);simpa using this
   obtain⟨u,h3,h4⟩:=G _ _ hb _ (.calls hd rfl ag.tail px2 ac pnew jg pj (.inl rfl));have hu:u=⟨[⟨19,X ts h.at',h.at',slot,q.l,tt⟩],q.p,[]⟩:=h3.det (PV.step0 fun r=>by simp only[aC,nY];cases hI c h<;>rfl);subst hu;refine⟨_,h1.step1 fun r hr=>?_,h2.app h4⟩;rw[fp al];simp only[aC,nY,hr,abI,jO,aa6]
  ·rw[iC hc]at h1;have hq:=PV.noneListed h1;subst hq;have pnew:pL c (kJ names y.cond++[⟨19,h.text,h.at',slot,a.l,y.cond⟩])=names':=by
    rw[fq,wx c yd.1 hl,gm];simp[hc,pl]
   have pj:At c (joinAll g a.f) g':=by have:=At.joinAll hg h2.fok pg h2.f (.inr rfl);simpa[ap]using this
   have aj:x=none\/g'=none/\hI c h≠none/\pL c (kJ names y.cond++[(⟨19,h.text,h.at',slot,a.l,y.cond⟩:Nd)]).tail=[]:=by
    rcases aa with aa|⟨h5,h6,h7⟩
    ·exact .inl aa
    ·refine .inr ⟨h5,h6,?_⟩;cases hn:kJ names y.cond with
     |nil=>rfl
     |cons n l=>
      rw[aaz,abL,fq,gm];have:l=names.tail:=by rw[<-zt names y.cond,hn];rfl
      simp[hc,this,h7]
   obtain⟨u,h3,h4⟩:=G _ _ hb _ (.calls hd rfl ag.tail px2 ac pnew jg pj aj);refine⟨u,h3,?_⟩;have:=h2.app h4;simpa[ap]using this
variable{f:ar}
def Ck(hts:bT ts){rec:sY}(G:Good c ts rec)(e:cT ts f (ml ts rec o slot)=some r)(hf:cq f)(hp:At c f p):∃q,PV c ts (.inside o p slot) q/\RR c r q:=by
 have key:=lh hts hf hp e (P:=fun i q=>∀p,p.map (nx c ts)=some i->PV c ts (.inside o p slot) q) fun h x hd aa hx=>by
  unfold ml at hx;have hX:=hd.text;cases hc:h.cond.at' c with
  |false=>
   simp only[aa5,Z2];have ff1:=RR.fail (c:=c) hd.1;split at hx
   ·cases hx;have:=ff1 10;rw[hc]at this;exact this
   ·split at hx
    ·cases hx;have:=ff1 11;rw[hc]at this;exact this
    ·simp only[abI,abJ,ZW]at hx;obtain⟨a,ha,rfl⟩:=hx;obtain⟨q,h1,h2⟩:=G _ _ ha _ (.line (iq hd.1 aa) (iA c h));rw[iC hc]at h1;have:=PV.noneLine h1;subst this;exact RR.trivTake hts h2 fK
  |true=>
   simp only[ZT];have ff1:=RR.fail (c:=c) hd.1;rw[hX]at hx;split at hx
   ·rename_i h3;cases hx
    refine⟨_,fun p hp=>PV.step0 fun r=>by simp only[aC,il,hp];rw[aaq h3],?_⟩;have:=ff1 10;rw[hc]at this;exact this
   ·rename_i h3;split at hx
    ·rename_i h4;cases hx
     refine⟨_,fun p hp=>PV.step0 fun r=>by simp only[aC,il,hp];rw[ZV h3,aaq h4],?_⟩;have:=ff1 11;rw[hc]at this;exact this
    ·rename_i h4;simp only[abI,abJ,ZW]at hx;obtain⟨a,ha,rfl⟩:=hx;obtain⟨q,h1,h2⟩:=G _ _ ha _ (.line (iq hd.1 aa) (iA c h));rw[fp hc]at h1;refine⟨_,fun p hp=>h1.step1 fun r hr=>?_,RR.take (rec:=rec) hts h2 fK⟩;simp only[aC,il,hp];rw[ZV h3,ZV h4];simp only[Z9]at hr;rw[hr];rfl
 cases p with
 |none=>exact⟨ap,PV.step0 fun r=>rfl,key⟩
 |some p=>obtain⟨q,h1,h2⟩:=key;exact⟨q,h1 _ rfl,h2⟩
variable{par:Bool}
def Dx(hts:bT ts){rec:sY}(G:Good c ts rec)(e:cT ts f (mw ts rec par o)=some r)(hf:cq f)(hp:At c f p):∃q,PV c ts (.listed par o p) q/\RR c r q:=by
 have key:=lh hts hf hp e (P:=fun i q=>∀p,p.map (nx c ts)=some i->PV c ts (.listed par o p) q) fun h x hd ac hx=>by
  unfold mw at hx;have hX:=hd.text;have ff1:=RR.fail (c:=c) hd.1;obtain⟨s1,s2,s3,s4⟩:=iY hts (iq hd.1 ac) (iA c h) (pi ts fK) (nW fK);generalize ag:aM ts (bv h) (bD fK)=sp at hx s1 s2 s3 s4;obtain⟨yes,g⟩:=sp;simp only at s1 s2 s3 s4;have jf:cq (yes.foldl joinH []):=f7 cq.nil s1.conds;have ja:At c (yes.foldl joinH []) (((hI c h).map (·+1)).map (nx c ts) |>.filter (pi ts fK)):=by have:=At.joinH cq.nil s1.conds (At.nil c) s3 (.inl rfl);simpa using this
  have aa:=(iQ (((hI c h).map (·+1)).map (nx c ts)) (pi ts fK)).symm;cases hc:h.cond.at' c with
  |false=>
   simp only[aa5,Z2];split at hx
   ·cases hx;have:=ff1 10;rw[hc]at this;exact this
   ·split at hx
    ·cases hx;have:=ff1 11;rw[hc]at this;exact this
    ·simp only[abI,abJ,ZW]at hx;obtain⟨a,ha,rfl⟩:=hx;obtain⟨q,h1,h2⟩:=G _ _ ha _ (.listL (l:=[]) trivial rfl s2 s4 jf ja aa);rw[iC hc]at h1;have:q=ap:=h1.det (PV.step0 fun r=>rfl);subst this;exact RR.trivTake hts h2 fK
  |true=>
   simp only[ZT];rw[hX]at hx;split at hx
   ·rename_i h3;cases hx
    refine⟨_,fun p hp=>PV.step0 fun r=>by simp only[aC,ij,hp];rw[aaq h3],?_⟩;have:=ff1 10;rw[hc]at this;exact this
   ·rename_i h3;split at hx
    ·rename_i h4;cases hx
     refine⟨_,fun p hp=>PV.step0 fun r=>by simp only[aC,ij,hp];rw[ZV h3,aaq h4],?_⟩;have:=ff1 11;rw[hc]at this;exact this
    ·rename_i h4;simp only[abI,abJ,ZW]at hx;obtain⟨a,ha,rfl⟩:=hx;obtain⟨q,h1,h2⟩:=G _ _ ha _ (.listL (l:=[]) trivial rfl s2 s4 jf ja aa);rw[fp hc]at h1;refine⟨_,fun p hp=>h1.step1 fun r hr=>?_,RR.take (rec:=rec) hts h2 fK⟩;simp only[aC,ij,hp,mz];rw[ZV h3,ZV h4];simp only[Z9]at hr |-;simp only[pL]at hr;rw[hr];rfl
 cases p with
 |none=>exact⟨ap,PV.step0 fun r=>rfl,key⟩
 |some p=>obtain⟨q,h1,h2⟩:=key;exact⟨q,h1 _ rfl,h2⟩
def FE(hts:bT ts){rec:sY}(G:Good c ts rec){l l':List Nd}{g fin:ar}{g' fin':Option Nat}(e:listL ts rec par o l g fin=some r)(hl:iE l)(pl:pL c l=l')(hg:cq g)(pg:At c g g')(hf:cq fin)(pf:At c fin fin')(ag:g'=none\/fin'=none):
  ∃q,PV c ts (.listL par o l' g' fin') q/\RR c r q:=by
 unfold listL at e;cases g with
 |nil=>
  simp only[ZW]at e;subst e;have:g'=none:=by cases g' with
   |none=>rfl
   |some i=>simp[At,eS]at pg
  subst this;exact⟨⟨l',fin',[]⟩,PV.step0 fun r=>rfl,hf,hl,eU,pl,pf,rfl⟩
 |cons s g=>
  simp only[abI,abJ,ZW]at e;obtain⟨a,ha,_,_,e⟩:=e;have atOne:=At.one c s.1 s.2;obtain⟨q,h1,h2⟩:=G _ _ ha _ (.item hg.head atOne);obtain⟨s1,s2,s3,s4⟩:=iY hts h2.fok h2.f (pi ts bB) (nW bB);generalize aj:aM ts a.f (bD bB)=sp at e s1 s2 s3 s4;obtain⟨more,done⟩:=sp;simp only[abJ,ZW]at e;obtain⟨b,hb,rfl⟩:=e;simp only at s1 s2 s3 s4;have jf:cq (more.foldl joinH1 g):=pA hg.tail s1.conds;have jd:cq (joinAll fin done):=dY (fun s hs=>(s2.1 s hs).1) hf;rcases pg.cons with ⟨hc,rfl,pg2⟩|⟨hc,pg2⟩
  ·have ac:fin'=none:=by rcases ag with h|h;cases h;exact h
   subst ac;rw[aaq hc]at h1;have j1:At c (more.foldl joinH1 g) ((qz c ts q.p (pi ts bB)).map (·+1)):=by have:=At.joinH1 hg.tail s1.conds pg2 s3 (.inl rfl);simpa[qz]using this
   have j2:At c (joinAll fin done) (qz c ts q.p fun i=>!pi ts bB i):=by have:=At.joinAll hf s2 pf s4 (.inl rfl);simpa[qz]using this
   have aa:(qz c ts q.p (pi ts bB)).map (·+1)=none\/(qz c ts q.p fun i=>!pi ts bB i)=none:=by
    rcases iQ (q.p.map (nx c ts)) (pi ts bB)with h|h
    ·left;rw[mz,h];rfl
    ·exact .inr h
   obtain⟨u,h3,h4⟩:=G _ _ hb _ (.listL (iN.2 ⟨hl,h2.lok⟩) (by rw[fq,pl,h2.l]) jf j1 jd j2 aa);refine⟨_,h1.step2 h3 fun r hr hs=>?_,h2.app h4⟩;simp only[aC,oU,hr,abI,jO,hs]
  ·rw[hc]at h1;simp only[aa5,Z2]at h1;have:=PV.noneItem h1;subst this;simp only[ap,aac,Option.filter_none]at s3 s4;have j1:At c (more.foldl joinH1 g) g':=by have:=At.joinH1 hg.tail s1.conds pg2 s3 (.inr rfl);simpa using this
   have j2:At c (joinAll fin done) fin':=by have:=At.joinAll hf s2 pf s4 (.inr rfl);simpa using this
   obtain⟨u,h3,h4⟩:=G _ _ hb _ (.listL (iN.2 ⟨hl,h2.lok⟩) (by rw[fq,pl,h2.l]) jf j1 jd j2 ag);simp only[ap,aa6]at h3;refine⟨u,h3,?_⟩;have:=h2.app h4;simpa[ap]using this
theorem RR.give{a:bW}{q:PR}{ks kp:List Nd}{e:List cO}{e':List (Nat×Int)}(hl:iE a.l)(pl:pL c a.l=q.l)(hk:iE ks)(pk:pL c ks=kp)(hf:cq f)(pf:At c f p)(he:Ce e)(pe:pE c e=e'):RR c ⟨Syn.give a.l ks,f,e⟩ ⟨Syn.give q.l kp,p,e'⟩:=
 ⟨hf,eD hl hk,he,by rw[fU,pl,pk],pf,pe⟩
def IZ(hts:bT ts){rec:sY}(G:Good c ts rec)(e:item ts rec par o f=some r)(hf:cq f)(hp:At c f p):∃q,PV c ts (.item par o p) q/\RR c r q:=by
 unfold item at e;cases par with
 |false=>
  simp only[aa5,Z2]at e;obtain⟨q,h1,h2⟩:=G _ _ e _ (.line hf hp);exact⟨q,h1.step1 fun r hr=>by simp only[aC,ro];exact hr,h2⟩
 |true=>
  simp only[ZT]at e;have hn:=nu hts hf hp 4 0;have ht:=RR.take (rec:=rec) hts hn bA;generalize aa:Syn.take ts (named ts f 4 0).f bA=sp at e ht;obtain⟨g,er⟩:=sp;have hy:=yf hts ht.fok ht.f 0;simp only[abI,abJ,ZW]at e;obtain⟨l,hl,rfl⟩:=e;have:=bu hl;subst this;refine⟨_,PV.step0 fun r=>by simp only[aC,ro,ZT];rfl,?_⟩;exact RR.give hn.lok hn.l hy.lok hy.l hy.fok hy.f (cI.2 ⟨ht.eok,hy.eok⟩) (by rw[cR,ht.e,hy.e])
def Ee(hts:bT ts){rec:sY}(G:Good c ts rec){typ:Bool}{sign:bq}(e:behind ts rec typ o f sign slot=some r)(hf:cq f)(hp:At c f p):∃q,PV c ts (.behind typ o p sign slot) q/\RR c r q:=by
 unfold behind at e;obtain⟨s1,s2,s3,s4⟩:=iY hts hf hp (pi ts sign) (nW sign);generalize aa:aM ts f (bD sign)=sp at e s1 s2 s3 s4;obtain⟨yes,out⟩:=sp;simp only[abI,abJ,ZW]at e;obtain⟨a,ha,rfl⟩:=e;simp only at s1 s2 s3 s4;have jf:cq (yes.foldl joinH1 []):=pA cq.nil s1.conds;have ja:At c (yes.foldl joinH1 []) ((qz c ts p (pi ts sign)).map (·+1)):=by have:=At.joinH1 cq.nil s1.conds (At.nil c) s3 (.inl rfl);simpa[qz]using this
 unfold wu at ha;have fin:∀q:PR,RR c a q->((qz c ts p (pi ts sign))=none->q.p=none)->RR c ⟨a.l,joinAll out a.f,a.e⟩ ⟨q.l,(qz c ts p fun i=>!pi ts sign i).or q.p,q.e⟩:=fun q hq hn=>by
  refine⟨dY (fun s hs=>(hq.fok.1 s hs).1) s2,hq.lok,hq.eok,hq.l,At.joinAll s2 hq.fok s4 hq.f ?_,hq.e⟩;rcases iQ (p.map (nx c ts)) (pi ts sign)with h|h
  ·exact .inr (hn h)
  ·exact .inl h
 cases typ with
 |true=>
  simp only[ZT,ZW]at ha;subst ha;refine⟨_,PV.step0 fun r=>by simp only[aC,kh,fy,ZT];rfl,fin _ (yf hts jf ja slot) fun h=>?_⟩;rw[h];rfl
 |false=>
  simp only[aa5,Z2]at ha;obtain⟨q,h1,h2⟩:=G _ _ ha _ (.line jf ja);refine⟨_,h1.step1 fun r hr=>?_,fin q h2 fun h=>?_⟩
  ·simp only[aC,kh,fy,aa5,Z2];rw[hr];rfl
  ·rw[h]at h1;have:=PV.noneLine h1;subst this;rfl
def y8(hts:bT ts){rec:sY}(G:Good c ts rec)(e:jQ ts rec o f=some r)(hf:cq f)(hp:At c f p):∃q,PV c ts (.vrb o p) q/\RR c r q:=by
 unfold jQ at e;have hn:=nu hts hf hp 2 0;have ht:=RR.take (rec:=rec) hts hn bA;dsimp only at e;generalize ac:Syn.take ts (named ts f 2 0).f bA=sp at e ht;obtain⟨g,er⟩:=sp;have hy:=yf hts ht.fok ht.f 0;simp only[abI,abJ]at e;obtain⟨d,hd,l1,aj,l2,ag,e⟩:=e;have:=bu aj;subst this;have:=bu ag;subst this;obtain⟨q,h1,h2⟩:=G _ _ hd _ (.behind hy.fok hy.f);have aa:=RR.take (rec:=rec) hts h2 a8;generalize ac:Syn.take ts d.f a8=sp at e aa;obtain⟨g2,er2⟩:=sp;simp only[ZW]at e;subst e;refine⟨_,h1.step1 fun r hr=>by simp only[aC,gZ];rw[hr];rfl,?_⟩;refine⟨aa.fok,eD (eD hn.lok hy.lok) h2.lok,?_,?_,aa.f,?_⟩
 ·have:=aa.eok;rw[cI]at this;exact cI.2 ⟨cI.2 ⟨cI.2 ⟨ht.eok,hy.eok⟩,this.1⟩,this.2⟩
 ·rw[fU,fU,hn.l,hy.l,h2.l]
 ·have e2:=aa.e;rw[cR]at e2;have e1:=ht.e;rw[cR]at e1;rw[cR,cR,cR,cR,e1,hy.e,aaT,e2];simp[aaT]
def yP(hts:bT ts){rec:sY}(G:Good c ts rec)(e:function ts rec o f=some r)(hf:cq f)(hp:At c f p):∃q,PV c ts (.function o p) q/\RR c r q:=by
 unfold function at e;have hn:=nu hts hf hp 3 0;dsimp only at e;simp only[abI,abJ,ZW]at e;obtain⟨b,hb,d,hd,x,hx,l1,ag,l2,ac,l3,aa,rfl⟩:=e;have:=bu ag;subst this;have:=bu ac;subst this;have:=bu aa;subst this;obtain⟨q1,h1,k1⟩:=G _ _ hb _ (.listed hn.fok hn.f);obtain⟨q2,h2,k2⟩:=G _ _ hd _ (.behind k1.fok k1.f);obtain⟨q3,h3,k3⟩:=G _ _ hx _ (.block k2.fok k2.f);refine⟨_,h1.step3 h2 h3 fun r r1 r2 r3=>by simp only[aC,gY,r1,r2,r3,abI,jO];rfl,?_⟩;refine⟨k3.fok,eD (eD (eD hn.lok k1.lok) k2.lok) k3.lok,cI.2 ⟨cI.2 ⟨cI.2 ⟨hn.eok,k1.eok⟩,k2.eok⟩,k3.eok⟩,?_,k3.f,?_⟩
 ·rw[fU,fU,fU,hn.l,k1.l,k2.l,k3.l]
 ·rw[cR,cR,cR,hn.e,k1.e,k2.e,k3.e]
end
end Syn
