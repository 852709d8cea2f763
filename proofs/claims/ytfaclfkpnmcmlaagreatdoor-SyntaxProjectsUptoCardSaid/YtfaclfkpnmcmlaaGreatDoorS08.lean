import Derived.Test.YtfaclfkpnmcmlaaGreatDoorS04
import Derived.Test.YtfaclfkpnmcmlaaGreatDoorS07
set_option maxHeartbeats 8000000
set_option linter.all false
namespace Syn
open Dg
section
variable {ts:List Tok} {rec:oR}
theorem Dn(aa:bu ts){o:Nat}{xs:List ay}{l:List Nd}{out:ah}(R:jb ts rec (mu ts (.elses o xs l out)))(t:jx ts (.elses o xs l out))(b:b8 ts (.elses o xs l out)<=aF):∃r,elses ts rec o xs l out=some r/\jy ts (.elses o xs l out) r:=by
 obtain⟨hx,fo,hK⟩:=t;simp only[b8]at b;cases xs with
 |nil=>exact⟨⟨l,out,[]⟩,rfl,⟨fo,by simp only[b8,S9];omega⟩,fun K hk=>by simpa[mo]using hk⟩
 |cons x xs=>
  obtain⟨h0,ac⟩:=hx.head;have hn:=h0.next;rw[aX]at b hK;have fa:=bm h0 ac;have hs:=fZ aa fa (bj ny);rw[bi]at hs;have hr:=cI aa fa (bj ny);obtain⟨a,ea,qa⟩:=R (.block o (aC ts (bh x) (bj ny)).2 2) hr (by simp only[b8];omega) (by simp only[mu,aX];omega);have qa2:=qa.1.2;have hj:=dh (N:=ts.length) qa.1.1.ok.all fo.ok;obtain⟨g1,g2,_⟩:=cY (l:=l) (ks:=a.l) (K:=aF-(3*(hp ts.length x+dD ts.length xs))) (fun n hn=>by have:=hK n hn;omega) Vi;have gk:∀K,KB K l->KB (K+a.l.length) (give l a.l):=fun K hk n hn=>by
   obtain⟨m,hm,rfl⟩:=List.mem_map.1 hn;have:=hk m hm;simp only[Tu];omega
  have gk2:∀n∈give l a.l,n.kids.length+3*dD ts.length (aC ts (bh x) (bj ny)).1+3*dD ts.length xs<=aF:=fun n hn=>by
   obtain⟨m,hm,rfl⟩:=List.mem_map.1 hn;have:=hK m hm;simp only[Tu];omega
  obtain⟨c,ec,qc,kc⟩:=R (.ifs o (aC ts (bh x) (bj ny)).1 (give l a.l) (joinAll out a.f)) ⟨iu aa fa Vm,fo.joinAll qa.1.1,fun n hn=>by have:=gk2 n hn;omega⟩ (by simp only[b8,g2];omega) (by simp only[mu,aX];omega);have qc2:=qc.2;simp only[b8,g2]at qc2;obtain⟨d,ed,qd,kd⟩:=R (.elses o xs c.l c.f) ⟨hx.tail,qc.1,fun n hn=>by
   have:=kc (aF-3*dD ts.length (aC ts (bh x) (bj ny)).1-3*dD ts.length xs) (fun n hn=>by have:=gk2 n hn;omega) n hn;have hh:=gk2;have:3*dD ts.length (aC ts (bh x) (bj ny)).1+3*dD ts.length xs<=aF:=by omega
   omega⟩ (by simp only[b8];omega) (by simp only[mu,aX];omega)
  have qd2:=qd.2;simp only[b8]at qd2;refine⟨⟨d.l,d.f,a.e++c.e++d.e⟩,by simp only[elses,T5,Sm,ea,g1,ec,ed],⟨qd.1,?_⟩,fun K hk n hn=>?_⟩
  ·simp only[b8,Tu,aX];omega
  ·have:=kd _ (kc _ (gk K hk)) n hn;rw[aX];omega
theorem HY{o:Nat}{ys:List ay}{l:List Nd}{out:ah}(R:jb ts rec (mu ts (.ifs o ys l out)))(t:jx ts (.ifs o ys l out))(b:b8 ts (.ifs o ys l out)<=aF):∃r,ifs rec o ys l out=some r/\jy ts (.ifs o ys l out) r:=by
 obtain⟨hx,fo,hK⟩:=t;simp only[b8]at b;cases ys with
 |nil=>exact⟨⟨l,out,[]⟩,rfl,⟨fo,by simp only[b8,S9];omega⟩,fun K hk=>by simpa[mo]using hk⟩
 |cons y ys=>
  obtain⟨h0,ac⟩:=hx.head;have aa:=h0.pos;rw[aX]at b hK;by_cases e:o=64
  ·obtain⟨d,ed,qd,kd⟩:=R (.ifs o ys l out) ⟨hx.tail,fo,fun n hn=>by have:=hK n hn;omega⟩ (by simp only[b8];omega) (by simp only[mu,aX];omega);have qd2:=qd.2;simp only[b8]at qd2;refine⟨⟨d.l,d.f,bR y 11++d.e⟩,by simp only[ifs,SI e,T5,Sm,ed],⟨qd.1,?_⟩,fun K hk n hn=>?_⟩
   ·simp only[b8,Tu,aX,j6];omega
   ·have:=kd K hk n hn;rw[aX];omega
  ·obtain⟨a,ea,qa,qa2⟩:=R (.branch (o+1) y 2) ⟨h0,ac⟩ (by simp only[b8];omega) (by simp only[mu,aX];omega);have hj:=dh (N:=ts.length) qa.ok.all fo.ok;obtain⟨g1,g2,_⟩:=cY (l:=l) (ks:=a.l) (K:=aF-(3*(hp ts.length y+dD ts.length ys))) (fun n hn=>by have:=hK n hn;omega) Vi;have gk:∀K,KB K l->KB (K+a.l.length) (give l a.l):=fun K hk n hn=>by
    obtain⟨m,hm,rfl⟩:=List.mem_map.1 hn;have:=hk m hm;simp only[Tu];omega
   obtain⟨d,ed,qd,kd⟩:=R (.ifs o ys (give l a.l) (joinAll out a.f)) ⟨hx.tail,fo.joinAll qa,fun n hn=>by
    obtain⟨m,hm,rfl⟩:=List.mem_map.1 hn;have:=hK m hm;simp only[Tu];omega⟩ (by simp only[b8,g2];omega) (by simp only[mu,aX];omega)
   have qd2:=qd.2;simp only[b8,g2]at qd2;refine⟨⟨d.l,d.f,a.e++d.e⟩,by simp only[ifs,Sb e,T5,Sm,ea,g1,ed],⟨qd.1,?_⟩,fun K hk n hn=>?_⟩
   ·simp only[b8,Tu,aX];omega
   ·have:=kd _ (gk K hk) n hn;rw[aX];omega
theorem Bc(aa:bu ts){o slot:Nat}{h:ay}(R:jb ts rec (mu ts (.branch o h slot)))(t:jx ts (.branch o h slot))(b:b8 ts (.branch o h slot)<=aF):∃r,branch ts rec o h slot=some r/\jy ts (.branch o h slot) r:=by
 obtain⟨h0,ac⟩:=t;have hn:=h0.next;simp only[b8]at b;obtain⟨a,ea,qa⟩:=R (.inside o (bh h) 0) (bm h0 ac) (by simp only[b8,bi];omega) (by simp only[mu,bi];omega);have qa2:=qa.1.2;rw[bi]at qa2;obtain⟨c,ec,qc⟩:=R (.block o a.f 1) qa.1.1 (by simp only[b8];omega) (by simp only[mu];omega);have qc2:=qc.1.2;obtain⟨g1,g2,g3⟩:=cY (l:=[ix 8 h slot]) (K:=0) (ks:=a.l) (fun n hn=>by simp at hn;subst hn;exact R7 _) Vi;obtain⟨g4,g5,g6⟩:=cY g3 (ks:=c.l) Vi;have hs:=fZ aa qc.1.1 (bj ip);have hl:(give (give [ix 8 h slot] a.l) c.l).length=1:=by rw[g5,g2];rfl
 obtain⟨d,ed,qd,_⟩:=R (.elses o (aC ts c.f (bj ip)).1 (give (give [ix 8 h slot] a.l) c.l) (aC ts c.f (bj ip)).2) ⟨iu aa qc.1.1 Vm,cI aa qc.1.1 _,fun n hn=>by have:=g6 n hn;omega⟩ (by simp only[b8,hl];omega) (by simp only[mu];omega);have qd2:=qd.2;simp only[b8,hl]at qd2;refine⟨⟨d.l,d.f,a.e++c.e++d.e⟩,by simp only[branch,T5,Sm,ea,ec,g1,g4,ed],qd.1,?_⟩;simp only[Tu];omega
theorem pA(k slot:Nat)(h:ay):KB 0 [ix k h slot]:=fun n hn=>by simp at hn;subst hn;exact R7 _
theorem Gf(aa:bu ts){o:Nat}{h:ay}(R:jb ts rec (mu ts (.stmt o h)))(t:jx ts (.stmt o h))(b:b8 ts (.stmt o h)<=aF):∃r,stmt ts rec o h=some r/\jy ts (.stmt o h) r:=by
 have h0:iH ts h:=t;have hn:=h0.next;simp only[b8]at b;unfold stmt;split
 ·rename_i e;have fa:=bm h0 (h0.lt2 Vm e);obtain⟨a,ea,qa⟩:=R (.vrb o (bh h)) fa (by simp only[b8,bi];omega) (by simp only[mu,bi];omega);have qa2:=qa.2;simp only[b8,bi]at qa2;exact⟨a,ea,qa.1,Vi⟩
 split
 ·rename_i e;exact R (.branch o h 0) ⟨h0,h0.lt2 Vm e⟩ b (by simp only[mu];omega)
 split
 ·rename_i e;have fa:=bm h0 (h0.lt2 Vm e);obtain⟨a,ea,qa⟩:=R (.inside o (bh h) 0) fa (by simp only[b8,bi];omega) (by simp only[mu,bi];omega);have qa2:=qa.1.2;rw[bi]at qa2;obtain⟨c,ec,qc⟩:=R (.block o a.f 1) qa.1.1 (by simp only[b8];omega) (by simp only[mu];omega);have qc2:=qc.1.2;obtain⟨g1,g2,g3⟩:=cY (pA 9 0 h) (ks:=a.l) Vi;obtain⟨g4,g5,g6⟩:=cY g3 (ks:=c.l) Vi;have hl:(give (give [ix 9 h 0] a.l) c.l).length=1:=by rw[g5,g2];rfl
  refine⟨⟨give (give [ix 9 h 0] a.l) c.l,c.f,a.e++c.e⟩,by simp only[T5,Sm,ea,ec,g1,g4],qc.1.1,?_⟩;simp only[Tu,hl];omega
 split
 ·obtain⟨a,ea,qa⟩:=R (.block o (bA h) 0) (gB h0) (by simp only[b8,eB];omega) (by simp only[mu,eB];omega);have q2:=qa.2 (by simp[bA]);rw[eB]at q2;exact⟨a,ea,qa.1.1,q2⟩
 split
 ·rename_i e;have fa:=bm h0 (h0.lt2 Vm e);have hs:=fZ aa fa (bj bl);rw[bi]at hs;have hr:=cI aa fa (bj bl);have hy:og ts (aC ts (bh h) (bj bl)).1:=iu aa fa Vm;obtain⟨a,ea,qa⟩:=R (.line 0 o (aC ts (bh h) (bj bl)).2 0) ⟨hr,Vi⟩ (by simp only[b8];omega) (by simp only[mu];omega);have qa2:=qa.2;simp only[b8]at qa2;obtain⟨g1,g2,g3⟩:=cY (pA 10 0 h) (ks:=a.l) Vi;have hl:(give [ix 10 h 0] a.l).length=1:=by rw[g2];rfl
  have hj:=mX (N:=ts.length) (fun x hx=>(hy.all x hx).ok) qa.1.ok;have fj:=jp hy.all qa.1;have ht:=gu aa fj bl;refine⟨⟨give [ix 10 h 0] a.l,(take ts ((aC ts (bh h) (bj bl)).1.foldl joinH a.f) bl).1,a.e++(take ts ((aC ts (bh h) (bj bl)).1.foldl joinH a.f) bl).2⟩,by simp only[T5,Sm,ea,g1],cN aa fj Vm,?_⟩;simp only[Tu,hl];omega
 split
 ·rename_i e;have fa:=bm h0 (e.elim (h0.lt2 Vm) (h0.lt2 Vm));obtain⟨a,ea,qa⟩:=R (.line 0 o (bh h) 0) ⟨fa,Vi⟩ (by simp only[b8,bi];omega) (by simp only[mu,bi];omega);have qa2:=qa.2;simp only[b8,bi]at qa2;obtain⟨g1,g2,g3⟩:=cY (pA (if h.text=fe then 12 else 11) 0 h) (ks:=a.l) Vi;have hl:(give [ix (if h.text=fe then 12 else 11) h 0] a.l).length=1:=by rw[g2];rfl
  have ht:=gu aa qa.1 bl;refine⟨⟨give [ix (if h.text=fe then 12 else 11) h 0] a.l,(take ts a.f bl).1,a.e++(take ts a.f bl).2⟩,by simp only[T5,Sm,ea,g1],cN aa qa.1 Vm,?_⟩;simp only[Tu,hl];omega
 have fh:=gB h0;obtain⟨⟨_,s1⟩,k1⟩:=jV aa fh 7 0;have s2:=s1 (by simp[bA]);unfold Sp at s2;rw[eB]at s2;have ak:=h0.pos;have fa:=fL aa fh 7 0;by_cases e:(named ts (bA h) 7 0).l=[]
 ·refine⟨⟨[],[],(named ts (bA h) 7 0).e⟩,by simp only[SI e],FN.nil _,?_⟩;simp only[S9,cQ];omega
 ·have aj:=fZ aa fa (bj hZ);have fs:=cI aa fa (bj hZ);have ht:=gu aa fs zJ;have f2:=cN aa fs (s:=zJ) Vm;obtain⟨a,ea,qa⟩:=R (.line 0 o (take ts (aC ts (named ts (bA h) 7 0).f (bj hZ)).2 zJ).1 0) ⟨f2,Vi⟩ (by simp only[b8];omega) (by simp only[mu];omega);have qa2:=qa.2;simp only[b8]at qa2;obtain⟨g1,g2,g3⟩:=cY (KB.zero k1) (ks:=a.l) Vi;obtain⟨c,ec,qc⟩:=R (.sCalls o h (aC ts (named ts (bA h) 7 0).f (bj hZ)).1 (give (named ts (bA h) 7 0).l a.l) a.f) ⟨iu aa fa Vm,qa.1⟩ (by simp only[b8,g2];omega) (by simp only[mu];omega);have qc2:=qc.2;simp only[b8,g2]at qc2;have ac:=gu aa qc.1 bl;refine⟨⟨c.l,(take ts c.f bl).1,(named ts (bA h) 7 0).e++(take ts (aC ts (named ts (bA h) 7 0).f (bj hZ)).2 zJ).2++a.e++c.e++(take ts c.f bl).2⟩,by simp only[Sb e,T5,Sm,ea,g1,ec],cN aa qc.1 Vm,?_⟩;simp only[Tu];omega
theorem G0(aa:bu ts){top:Bool}{o m:Nat}{h:ay}(hm:64*hp ts.length h+45<m)(R:jb ts rec m)(h0:iH ts h)(b:3*hp ts.length h<=aF):∃r,uV rec top o h=some r/\Bh ts h r:=by
 have hn:=h0.next;cases top with
 |false=>exact R (.stmt o h) h0 b (by simp only[mu];omega)
 |true=>
  show ∃r,mV rec o h=some r/\_;unfold mV;split
  ·rename_i e;have fa:=bm h0 (h0.lt2 Vm e);obtain⟨a,ea,qa⟩:=R (.vrb o (bh h)) fa (by simp only[b8,bi];omega) (by simp only[mu,bi];omega);have qa2:=qa.2;simp only[b8,bi]at qa2;exact⟨a,ea,qa.1,Vi⟩
  split
  ·rename_i e;have fa:=bm h0 (h0.lt2 Vm e);obtain⟨a,ea,qa⟩:=R (.function o (bh h)) fa (by simp only[b8,bi];omega) (by simp only[mu,bi];omega);have qa2:=qa.2;simp only[b8,bi]at qa2;exact⟨a,ea,qa.1,Vi⟩
  ·exact⟨_,rfl,Bh.fail h0 10⟩
theorem G8(aa:bu ts){top:Bool}{o:Nat}{f:ah}{l:List Nd}{out:ah}(R:jb ts rec (mu ts (.seqL top o f l out)))(t:jx ts (.seqL top o f l out))(b:b8 ts (.seqL top o f l out)<=aF):∃r,seqL ts rec top o f l out=some r/\jy ts (.seqL top o f l out) r:=by
 obtain⟨fn,fo⟩:=t;simp only[b8]at b;have hh:=fw aa fn (N:=ts.length);have hm:=fun h (hm:h∈bk ts f)=>bz aa fn hm;unfold seqL;split
 ·refine⟨⟨l,out,[]⟩,rfl,fo,?_⟩;simp only[b8,S9];omega
 ·rename_i h hs eH;rw[eH]at hh hm;rw[aX]at hh;have h0:=hm h (.head _);have ak:=h0.pos;have ac:=fun x (hx:x∈hs)=>hm x (.tail _ hx);have aj:=fun{z:ah}=>mX (N:=ts.length) (f:=z) (fun x hx=>(ac x hx).ok);split
  ·have hj:=aj bG.nil;rw[cQ]at hj;have am:=gV (N:=ts.length) fo.ok.all (a:=h.at') h0.ok;have ao:dJ ts.length (joinH out h)<=dJ ts.length out+hp ts.length h:=am;obtain⟨a,ea,qa⟩:=R (.seqL top o (hs.foldl joinH []) l (joinH out h)) ⟨jp ac (FN.nil _),fo.join h0.le h0.ok⟩ (by simp only[b8];omega) (by simp only[mu];omega);have qa2:=qa.2;simp only[b8]at qa2;refine⟨a,ea,qa.1,?_⟩;simp only[b8];omega
  ·obtain⟨a,ea,qa,qa2⟩:=G0 (top:=top) (o:=o) aa (m:=mu ts (.seqL top o f l out)) (by simp only[mu];omega) R h0 Vi;have c1:=pJ (l:=l++a.l) (by rw[Tu];omega);have an:=dh (N:=ts.length) qa.ok.all bG.nil;rw[cQ]at an;have f0:=(FN.nil ts.length).joinAll qa;have hj:=aj f0.ok;obtain⟨c,ec,qc⟩:=R (.seqL top o (hs.foldl joinH (joinAll [] a.f)) (l++a.l) out) ⟨jp ac f0,fo⟩ (by simp only[b8,Tu];omega) (by simp only[mu];omega);have qc2:=qc.2;simp only[b8,Tu]at qc2;refine⟨⟨c.l,c.f,a.e++c.e⟩,by simp only[T5,Sm,ea,c1,ec],qc.1,?_⟩;simp only[b8,Tu];omega
theorem Ce(aa:bu ts):∀n,jb ts (run ts n) n
 |0=>fun c _ _ h=>absurd h (Nat.not_lt_zero _)
 |n+1=>fun c t b h=>by
  have R:jb ts (run ts n) (mu ts c):=fun d td bd hd=>Ce aa n d td bd Vi;show ∃r,step ts (run ts n) c=some r/\_;cases c with
  |line=>exact F5 (m:=0) R t b
  |lineL=>exact DV aa R t b
  |lineO=>exact C3 R t b
  |unary=>exact DO aa R t b
  |unaryH=>exact AS aa R t b
  |calls=>exact CL R t b
  |inside=>exact Ap aa R t b
  |listed=>exact AK aa R t b
  |listL=>exact Eo aa R t b
  |item=>exact G4 aa R t b
  |behind=>exact zO aa R t b
  |vrb=>exact wV aa R t b
  |function=>exact xw aa R t b
  |block=>exact DM aa R t b
  |seqL=>exact G8 aa R t b
  |stmt=>exact Gf aa R t b
  |sCalls=>exact zT R t b
  |branch=>exact Bc aa R t b
  |elses=>exact Dn aa R t b
  |ifs=>exact HY R t b
end
open Dg
section
variable {c:cg} {ts:List Tok}
def Good(c:cg)(ts:List Tok)(rec:oR):Prop:=∀x r,rec x=some r->∀y,uz c ts x y->∃q,PV c ts y q/\RR c r q
theorem jS(c:cg)(ts:List Tok)(p:Option Nat)(is:Nat->Bool):pIf c ts p is=(p.map (nx c ts)).filter is:=rfl
theorem fS (o : Option Nat) (is : Nat → Bool) : (o.filter is = none) ∨ (o.filter fun i => !is i) = none := by
  cases o with
  | none => exact .inl rfl
  | some i => cases h : is i
              · exact .inl (by simp [Option.filter, h])
              · exact .inr (by simp [Option.filter, h])
theorem DF(aa:bu ts){rec:oR}(G:Good c ts rec){k o slot:Nat}{f:ah}{p:Option Nat}{r:bE}(e:line rec k o f slot=some r)(hf:bG f)(hp:At c f p):∃q,PV c ts (.line k o p slot) q/\RR c r q:=by
 unfold line at e;split at e
 ·rename_i hk;obtain⟨q,h1,h2⟩:=G _ _ e _ (.unary hf hp);exact⟨q,h1.step1 fun r hr=>by simp only[aN,pd,SI hk];exact hr,h2⟩
 ·rename_i hk;simp only[T5,T6,Sc]at e;obtain⟨a,ha,b,hb,rfl⟩:=e;obtain⟨q,h1,h2⟩:=G _ _ ha _ (.line hf hp);obtain⟨u,h3,h4⟩:=G _ _ hb _ (.lineL h2.lok h2.l h2.fok h2.f bG.nil (At.nil c) (.inr rfl));exact⟨_,h1.step2 h3 fun r hr hs=>by simp only[aN,pd,Sb hk,hr,T5,Sm,hs],h2.app h4⟩
theorem MB(k i:Nat)(d:T):isOp k ⟨i,d,K ts i,X ts i⟩=nu ts k i:=rfl
theorem kL(s:bM)(i:Nat)(d:T):bj s ⟨i,d,K ts i,X ts i⟩=isX ts s i:=rfl
theorem Ah (ak : bu ts) {rec : oR} (G : Good c ts rec) {k o slot : Nat} {first : Bool} {l l' : List Nd} {g out : ah} {g' out' : Option Nat} {r : bE} (e : lineL ts rec k o slot first l g out = some r) (hl : fX l) (pl : pL c l = l') (hg : bG g) (pg : At c g g') (ho : bG out) (po : At c out out') (aj : g' = none ∨ out' = none) :
    ∃ q, PV c ts (.lineL k o slot first l' g' out') q ∧ RR c r q := by
  unfold lineL at e
  split at e
  · rename_i hz
    subst hz
    cases e
    have : g' = none := by cases g' with
      | none => rfl
      | some i => simp [At, dC] at pg
    subst this
    exact ⟨⟨l', out', []⟩, PV.step0 fun r => rfl, ho, hl, dB, pl, po, rfl⟩
  · split at e
    · rename_i hk
      cases e
      refine ⟨⟨l', out'.or g', []⟩, PV.step0 fun r => ?_, cZ (fun s hs => (hg.1 s hs).1) ho, hl, dB, pl, At.joinAll ho hg po pg (aj.symm), rfl⟩
      simp only [aN, nH]
      cases g' with
      | none => simp
      | some i => have : out' = none := by rcases aj with h | h; cases h; exact h
                  simp [hk, this]
    · rename_i hk
      obtain ⟨s1, s2, s3, s4⟩ := gp ak hg pg (nu ts k) (MB k)
      generalize am : aC ts g (isOp k) = sp at e s1 s2 s3 s4
      obtain ⟨ops, rest⟩ := sp
      simp only [T5, T6, Sc] at e
      obtain ⟨a, ha, b, hb, rfl⟩ := e
      obtain ⟨q, h1, h2⟩ := G _ _ ha _ (.lineO s1 s3 hl pl bG.nil (At.nil c) (.inr rfl))
      have jo : bG (joinAll out rest) := cZ (fun s hs => (s2.1 s hs).1) ho
      cases g' with
      | none =>
        have hq : q = ⟨l', none, []⟩ := h1.det (PV.step0 fun r => rfl)
        subst hq
        have ja : At c (joinAll out rest) out' := by have := At.joinAll ho s2 po s4 (.inr rfl); simpa using this
        obtain ⟨u, h3, h4⟩ := G _ _ hb _ (.lineL h2.lok h2.l h2.fok h2.f jo ja (.inl rfl))
        have hu : u = ⟨l', out', []⟩ := h3.det (PV.step0 fun r => rfl)
        subst hu
        exact ⟨⟨l', out', []⟩, PV.step0 fun r => rfl, h2.app h4⟩
      | some p =>
        have ac : out' = none := by rcases aj with h | h; cases h; exact h
        subst ac
        have ja : At c (joinAll out rest) (pIf c ts (some p) fun i => !nu ts k i) := by have := At.joinAll ho s2 po s4 (.inl rfl); simpa [pIf] using this
        have aa : q.p = none ∨ (pIf c ts (some p) fun i => !nu ts k i) = none := by
          rcases fS ((some p).map (nx c ts)) (nu ts k) with h | h
          · left
            rw [h] at h1
            have hq : q = ⟨l', none, []⟩ := h1.det (PV.step0 fun r => rfl)
            rw [hq]
          · exact .inr h
        obtain ⟨u, h3, h4⟩ := G _ _ hb _ (.lineL h2.lok h2.l h2.fok h2.f jo ja aa)
        refine ⟨_, h1.step2 h3 fun r hr hs => ?_, h2.app h4⟩
        simp only [aN, nH]
        rw [Sb hk]
        simp only [jS, hr, T5, Sm]
        simp only [jS] at hs
        rw [hs]; rfl
theorem AE(ap:bu ts){rec:oR}(G:Good c ts rec){k o slot:Nat}{ops:List ay}{op:Option Nat}{l l':List Nd}{g:ah}{g':Option Nat}{r:bE}(e:lineO rec k o slot ops l g=some r)(ac:rf ts ops)(pM:j8 c ops op)(hl:fX l)(pl:pL c l=l')(hg:bG g)(pg:At c g g')(aj:op=none\/g'=none):
  ∃q,PV c ts (.lineO k o slot op l' g') q/\RR c r q:=by
 unfold lineO at e;cases ops with
 |nil=>
  simp only[Sc]at e;subst e;have:op=none:=by cases op with
   |none=>rfl
   |some i=>simp[j8,nF]at pM
  subst this;exact⟨⟨l',g',[]⟩,PV.step0 fun r=>rfl,hg,hl,dB,pl,pg,rfl⟩
 |cons h ops=>
  simp only[T5,T6,Sc]at e;obtain⟨a,ha,_,_,_,_,b,hb,rfl⟩:=e;obtain⟨hd,am⟩:=ac.hd;obtain⟨q,h1,h2⟩:=G _ _ ha _ (.line (fH hd.1 am) (fO c h));have an:=Gy hd.1 hl;have ak:=DB hd.1 hl;have aa:fX (cM l h.cond++[⟨13,h.text,h.at',slot,eF l h.cond++a.l,h.cond⟩]):=fV.2 ⟨ak,fy hd.1 (fV.2 ⟨an,h2.lok⟩)⟩;have jg:bG (joinAll g a.f):=cZ (fun s hs=>(h2.fok.1 s hs).1) hg;rcases pM.cons with ⟨hc,rfl,pop2⟩|⟨hc,pop2⟩
  ·have hi:hI c h=some h.at':=by simp[hI,hc]
   rw[hi]at h1;have ao:g'=none:=by rcases aj with h|h;cases h;exact h
   subst ao;have pnew:pL c (cM l h.cond++[⟨13,h.text,h.at',slot,eF l h.cond++a.l,h.cond⟩])=[⟨13,X ts h.at',h.at',slot,ow l'++q.l,tt⟩]:=by
    rw[dO,vD c hd.1 hl,SI hc,eJ];simp only[hc,R9,dO,FG c hd.1 hl,pl,h2.l,hd.text,SU]
   have pj:At c (joinAll g a.f) q.p:=by have:=At.joinAll hg h2.fok pg h2.f (.inl rfl);simpa using this
   obtain⟨u,h3,h4⟩:=G _ _ hb _ (.lineO ac.tail pop2 aa pnew jg pj (.inl rfl));have hu:u=⟨[⟨13,X ts h.at',h.at',slot,ow l'++q.l,tt⟩],q.p,[]⟩:=h3.det (PV.step0 fun r=>rfl);subst hu;refine⟨_,h1.step1 fun r hr=>?_,h2.app h4⟩;simp only[aN,sE];simp only[So]at hr;rw[hr];simp
  ·have hi:hI c h=none:=by simp[hI,hc]
   rw[hi]at h1;have hq:=PV.noneLine h1;subst hq;have pnew:pL c (cM l h.cond++[⟨13,h.text,h.at',slot,eF l h.cond++a.l,h.cond⟩])=l':=by
    rw[dO,vD c hd.1 hl,eJ];simp[hc,pl]
   have pj:At c (joinAll g a.f) g':=by have:=At.joinAll hg h2.fok pg h2.f (.inr rfl);simpa[triv]using this
   obtain⟨u,h3,h4⟩:=G _ _ hb _ (.lineO ac.tail pop2 aa pnew jg pj aj);refine⟨u,h3,?_⟩;have:=h2.app h4;simpa[triv]using this
end
open Dg
section
variable {c:cg} {ts:List Tok}
theorem dQ{h:ay}(hc:h.cond.at' c=true):hI c h=some h.at':=by simp[hI,hc]
theorem fI{h:ay}(hc:h.cond.at' c=false):hI c h=none:=by simp[hI,hc]
theorem RR.fail{h:ay}(k:h.cond.ok 0)(code:Nat):RR c ⟨[],[],bR h code⟩ ⟨[],none,if h.cond.at' c then [(code,(h.at':Int))]else []⟩:=
 ⟨bG.nil,trivial,oY k code,rfl,rfl,iM c h code⟩
theorem RR.take{rec:oR}(aa:bu ts){a:bE}{q:PR}(h:RR c a q)(s:bM):RR c ⟨a.l,(take ts a.f s).1,a.e++(take ts a.f s).2⟩ ⟨q.l,(cX ts c q.p s).1,q.e++(cX ts c q.p s).2⟩:=by
 obtain⟨t1,t2,t3,t4⟩:=rN aa h.fok h.f s;exact⟨t1,h.lok,bP.2 ⟨h.eok,t2⟩,h.l,t3,by rw[bW,h.e,t4]⟩
theorem n6(s:bM):cX ts c none s=(none,[]):=rfl
theorem RR.trivTake(aa:bu ts){a:bE}(h:RR c a triv)(s:bM):RR c ⟨a.l,(Syn.take ts a.f s).1,a.e++(Syn.take ts a.f s).2⟩ triv:=RR.take (rec:=fun _=>none) aa h s
theorem zV(aa:bu ts){rec:oR}(G:Good c ts rec){o slot:Nat}{f:ah}{p:Option Nat}{r:bE}(e:bY ts f (fun h=>rec (.unaryH o h slot))=some r)(hf:bG f)(hp:At c f p):∃q,PV c ts (.unary o p slot) q/\RR c r q:=by
 have key:=iT aa hf hp e (P:=fun i q=>PV c ts (.unaryH o (some i) slot) q) fun h x hd ac hx=>by
  obtain⟨q,h1,h2⟩:=G _ _ hx _ (.unaryH hd ac rfl);cases hc:h.cond.at' c with
  |true=>rw[dQ hc]at h1;exact⟨q,h1,h2⟩
  |false=>
   rw[fI hc]at h1;have:q=triv:=h1.det (PV.step0 fun r=>rfl);subst this;exact h2
 cases p with
 |none=>exact⟨triv,(PV.step0 fun r=>rfl:PV c ts (.unaryH o none slot) triv).step1 fun r hr=>by simp only[aN,pB];exact hr,key⟩
 |some p=>
  obtain⟨q,h1,h2⟩:=key;exact⟨q,h1.step1 fun r hr=>by simp only[aN,pB];exact hr,h2⟩
theorem xT(aj:bu ts){rec:oR}(G:Good c ts rec){o slot:Nat}{h:ay}{r:bE}(e:unaryH ts rec o h slot=some r)(hd:Hd ts h)(ac:h.cond≠ff):∃q,PV c ts (.unaryH o (hI c h) slot) q/\RR c r q:=by
 unfold unaryH at e;have hX:=hd.text;have hK:=hd.kind;have ha:=fO c h;have aa:=fH hd.1 ac;cases hc:h.cond.at' c with
 |false=>
  have hi:=fI hc;rw[hi]at ha |-;refine⟨triv,PV.step0 fun r=>rfl,?_⟩;split at e
  ·split at e
   ·cases e;have:=RR.fail (c:=c) hd.1 11;rw[hc]at this;exact this
   ·simp only[T5,T6,Sc]at e;obtain⟨a,am,rfl⟩:=e;obtain⟨q,h1,h2⟩:=G _ _ am _ (.unary aa ha);have:=PV.noneUnary h1;subst this;exact⟨h2.fok,fy hd.1 h2.lok,h2.eok,by rw[eJ];simp[hc,triv],h2.f,h2.e⟩
  ·split at e
   ·obtain⟨q,h1,h2⟩:=G _ _ e _ (.inside (jD hd.1 ac) (jJ c h));rw[hi]at h1;have:=PV.noneInside h1;subst this;exact h2
   ·split at e
    ·cases e;exact⟨aa,fy hd.1 trivial,dB,by rw[eJ];simp[hc,triv],ha,rfl⟩
    ·split at e
     ·cases e;exact⟨aa,fy hd.1 trivial,dB,by rw[eJ];simp[hc,triv],ha,rfl⟩
     ·split at e
      ·cases e;exact⟨aa,fy hd.1 trivial,dB,by rw[eJ];simp[hc,triv],ha,rfl⟩
      ·have hn:=kf aj (jD hd.1 ac) (jJ c h) 18 slot;rw[hi]at hn;obtain⟨s1,s2,s3,s4⟩:=gp aj hn.fok hn.f (isX ts hZ) (kL hZ);dsimp only at e;generalize ao:aC ts (named ts (bA h) 18 slot).f (bj hZ)=sp at e s1 s2 s3 s4;obtain⟨xs,g⟩:=sp;simp only[T5,T6,Sc]at e;obtain⟨b,hb,rfl⟩:=e;obtain⟨q,h1,h2⟩:=G _ _ hb _ (.calls hd hi s1 s3 hn.lok hn.l s2 s4 (.inl rfl));have:q=⟨[],none,[]⟩:=h1.det (PV.step0 fun r=>rfl);subst this;exact hn.app h2
 |true=>
  have hi:=dQ hc;rw[hi]at ha |-;rw[hX,hK]at e;by_cases h1:X ts h.at'=C9\/X ts h.at'=nV
  ·rw[SI h1]at e;split at e
   ·rename_i h2;cases e
    refine⟨_,PV.step0 fun r=>by simp only[aN,fU];rw[SI h1,SI h2],?_⟩;have:=RR.fail (c:=c) hd.1 11;rw[hc]at this;exact this
   ·rename_i h2;simp only[T5,T6,Sc]at e;obtain⟨a,am,rfl⟩:=e;obtain⟨q,h3,h4⟩:=G _ _ am _ (.unary aa ha);refine⟨⟨[⟨14,X ts h.at',h.at',slot,q.l,tt⟩],q.p,q.e⟩,h3.step1 fun r hr=>?_,⟨h4.fok,fy hd.1 h4.lok,h4.eok,?_,h4.f,h4.e⟩⟩
    ·simp only[So]at hr;simp only[aN,fU];rw[SI h1,Sb h2,hr];rfl
    ·rw[eJ];simp[hc,h4.l]
  ·rw[Sb h1]at e;by_cases h2:X ts h.at'=hZ
   ·rw[SI h2]at e;obtain⟨q,h3,h4⟩:=G _ _ e _ (.inside (jD hd.1 ac) (jJ c h));rw[hi]at h3;refine⟨q,h3.step1 fun r hr=>?_,h4⟩;simp only[aN,fU];rw[Sb h1,SI h2,hr]
   ·rw[Sb h2]at e;by_cases h3:K ts h.at'=2
    ·rw[SI h3]at e;cases e
     refine⟨_,PV.step0 fun r=>by simp only[aN,fU];rw[Sb h1,Sb h2,SI h3],?_⟩;exact⟨aa,fy hd.1 trivial,dB,by rw[eJ];simp[hc,pL],ha,rfl⟩
    ·rw[Sb h3]at e;by_cases h4:X ts h.at'=qv\/X ts h.at'=oe
     ·rw[SI h4]at e;cases e
      refine⟨_,PV.step0 fun r=>by simp only[aN,fU];rw[Sb h1,Sb h2,Sb h3,SI h4],?_⟩;exact⟨aa,fy hd.1 trivial,dB,by rw[eJ];simp[hc,pL],ha,rfl⟩
     ·rw[Sb h4]at e;by_cases h5:X ts h.at'=tj
      ·rw[SI h5]at e;cases e
       refine⟨_,PV.step0 fun r=>by simp only[aN,fU];rw[Sb h1,Sb h2,Sb h3,Sb h4,SI h5],?_⟩;exact⟨aa,fy hd.1 trivial,dB,by rw[eJ];simp[hc,pL],ha,rfl⟩
      ·rw[Sb h5]at e;have hn:=kf aj (jD hd.1 ac) (jJ c h) 18 slot;rw[hi]at hn;obtain⟨s1,s2,s3,s4⟩:=gp aj hn.fok hn.f (isX ts hZ) (kL hZ);dsimp only at e;have an:(named ts (bA h) 18 slot).l.tail=[]:=by rw[rV aj hd ac];split<;>rfl
       have ak:(pIf c ts (bC ts c (some h.at') 18 slot).p (isX ts hZ))=none\/(pIf c ts (bC ts c (some h.at') 18 slot).p fun i=>!isX ts hZ i)=none/\some h.at'≠none/\pL c (named ts (bA h) 18 slot).l.tail=[]:=by
        cases hy:pIf c ts (bC ts c (some h.at') 18 slot).p (isX ts hZ)with
        |none=>exact .inl rfl
        |some j=>
         refine .inr ⟨?_,by simp,?_⟩
         ·rcases fS ((bC ts c (some h.at') 18 slot).p.map (nx c ts)) (isX ts hZ)with h|h
          ·rw[jS,h]at hy;cases hy
          ·exact h
         ·rw[an];rfl
       generalize ao:aC ts (named ts (bA h) 18 slot).f (bj hZ)=sp at e s1 s2 s3 s4;obtain⟨xs,g⟩:=sp;simp only[T5,T6,Sc]at e;obtain⟨b,hb,rfl⟩:=e;obtain⟨q,h6,h7⟩:=G _ _ hb _ (.calls hd hi s1 s3 hn.lok hn.l s2 s4 ak);refine⟨_,h6.step1 fun r hr=>?_,hn.app h7⟩;simp only[aN,fU];rw[Sb h1,Sb h2,Sb h3,Sb h4,Sb h5];simp only[jS]at hr |-;rw[hr];rfl
end
open Dg
section
variable {c:cg} {ts:List Tok}
theorem j8.nil_none{p:Option Nat}(h:j8 c [] p):p=none:=by
 cases p with
 |none=>rfl
 |some i=>simp[j8,nF]at h
theorem Ac(ao:bu ts){rec:oR}(G:Good c ts rec){o slot:Nat}{h:ay}{xs:List ay}{x:Option Nat}{names names':List Nd}{g:ah}{g':Option Nat}{r:bE}(e:calls rec o h slot xs names g=some r)(hd:Hd ts h)(aj:rf ts xs)(px:j8 c xs x)(hl:fX names)(pl:pL c names=names')(hg:bG g)(pg:At c g g')
  (aa:x=none\/g'=none/\hI c h≠none/\pL c names.tail=[]):∃q,PV c ts (.calls o (hI c h) slot x names' g') q/\RR c r q:=by
 unfold calls at e;cases xs with
 |nil=>
  simp only[Sc]at e;subst e;have:=px.nil_none;subst this;exact⟨⟨names',g',[]⟩,PV.step0 fun r=>by simp only[aN,nC];cases hI c h<;>rfl,hg,hl,dB,pl,pg,rfl⟩
 |cons y xs=>
  simp only[T5,T6,Sc]at e;obtain⟨a,ha,_,_,b,hb,rfl⟩:=e;obtain⟨yd,yne⟩:=aj.hd;obtain⟨q,h1,h2⟩:=G _ _ ha _ (.listed (jD yd.1 yne) (jJ c y));have ac:fX (iA names y.cond++[⟨19,h.text,h.at',slot,a.l,y.cond⟩]):=fV.2 ⟨BM yd.1 hl,fy yd.1 h2.lok⟩;have jg:bG (joinAll g a.f):=cZ (fun s hs=>(h2.fok.1 s hs).1) hg;rcases px.cons with ⟨hc,rfl,px2⟩|⟨hc,px2⟩
  ·rw[dQ hc]at h1;rcases aa with aa|⟨rfl,hi,am⟩
   ·cases aa
   have an:h.cond.at' c=true:=by
    cases hh:h.cond.at' c with
    |true=>rfl
    |false=>exact absurd (fI hh) hi
   have pnew:pL c (iA names y.cond++[⟨19,h.text,h.at',slot,a.l,y.cond⟩])=[⟨19,X ts h.at',h.at',slot,q.l,tt⟩]:=by
    rw[dO,rO c yd.1 hl,SI hc,am,eJ];simp[hc,h2.l,hd.text]
   have pj:At c (joinAll g a.f) q.p:=by have:=At.joinAll hg h2.fok pg h2.f (.inl rfl);simpa using this
   obtain⟨u,h3,h4⟩:=G _ _ hb _ (.calls hd rfl aj.tail px2 ac pnew jg pj (.inl rfl));have hu:u=⟨[⟨19,X ts h.at',h.at',slot,q.l,tt⟩],q.p,[]⟩:=h3.det (PV.step0 fun r=>by simp only[aN,nC];cases hI c h<;>rfl);subst hu;refine⟨_,h1.step1 fun r hr=>?_,h2.app h4⟩;rw[dQ an];simp only[aN,nC,hr,T5,Sm,Tq]
  ·rw[fI hc]at h1;have hq:=PV.noneListed h1;subst hq;have pnew:pL c (iA names y.cond++[⟨19,h.text,h.at',slot,a.l,y.cond⟩])=names':=by
    rw[dO,rO c yd.1 hl,eJ];simp[hc,pl]
   have pj:At c (joinAll g a.f) g':=by have:=At.joinAll hg h2.fok pg h2.f (.inr rfl);simpa[triv]using this
   have ak:x=none\/g'=none/\hI c h≠none/\pL c (iA names y.cond++[(⟨19,h.text,h.at',slot,a.l,y.cond⟩:Nd)]).tail=[]:=by
    rcases aa with aa|⟨h5,h6,h7⟩
    ·exact .inl aa
    ·refine .inr ⟨h5,h6,?_⟩;cases hn:iA names y.cond with
     |nil=>rfl
     |cons n l=>
      rw[SS,T8,dO,eJ];have:l=names.tail:=by rw[<-vz names y.cond,hn];rfl
      simp[hc,this,h7]
   obtain⟨u,h3,h4⟩:=G _ _ hb _ (.calls hd rfl aj.tail px2 ac pnew jg pj ak);refine⟨u,h3,?_⟩;have:=h2.app h4;simpa[triv]using this
theorem yC(aa:bu ts){rec:oR}(G:Good c ts rec){o slot:Nat}{f:ah}{p:Option Nat}{r:bE}(e:bY ts f (jE ts rec o slot)=some r)(hf:bG f)(hp:At c f p):∃q,PV c ts (.inside o p slot) q/\RR c r q:=by
 have key:=iT aa hf hp e (P:=fun i q=>∀p,p.map (nx c ts)=some i->PV c ts (.inside o p slot) q) fun h x hd ac hx=>by
  unfold jE at hx;have hX:=hd.text;cases hc:h.cond.at' c with
  |false=>
   simp only[Tp,Si];have ff1:=RR.fail (c:=c) hd.1;split at hx
   ·cases hx;have:=ff1 10;rw[hc]at this;exact this
   ·split at hx
    ·cases hx;have:=ff1 11;rw[hc]at this;exact this
    ·simp only[T5,T6,Sc]at hx;obtain⟨a,ha,rfl⟩:=hx;obtain⟨q,h1,h2⟩:=G _ _ ha _ (.line (fH hd.1 ac) (fO c h));rw[fI hc]at h1;have:=PV.noneLine h1;subst this;exact RR.trivTake aa h2 iI
  |true=>
   simp only[R9];have ff1:=RR.fail (c:=c) hd.1;rw[hX]at hx;split at hx
   ·rename_i h3;cases hx
    refine⟨_,fun p hp=>PV.step0 fun r=>by simp only[aN,jL,hp];rw[SI h3],?_⟩;have:=ff1 10;rw[hc]at this;exact this
   ·rename_i h3;split at hx
    ·rename_i h4;cases hx
     refine⟨_,fun p hp=>PV.step0 fun r=>by simp only[aN,jL,hp];rw[Sb h3,SI h4],?_⟩;have:=ff1 11;rw[hc]at this;exact this
    ·rename_i h4;simp only[T5,T6,Sc]at hx;obtain⟨a,ha,rfl⟩:=hx;obtain⟨q,h1,h2⟩:=G _ _ ha _ (.line (fH hd.1 ac) (fO c h));rw[dQ hc]at h1;refine⟨_,fun p hp=>h1.step1 fun r hr=>?_,RR.take (rec:=rec) aa h2 iI⟩;simp only[aN,jL,hp];rw[Sb h3,Sb h4];simp only[So]at hr;rw[hr];rfl
 cases p with
 |none=>exact⟨triv,PV.step0 fun r=>rfl,key⟩
 |some p=>obtain⟨q,h1,h2⟩:=key;exact⟨q,h1 _ rfl,h2⟩
theorem zF(aa:bu ts){rec:oR}(G:Good c ts rec){par:Bool}{o:Nat}{f:ah}{p:Option Nat}{r:bE}(e:bY ts f (jH ts rec par o)=some r)(hf:bG f)(hp:At c f p):∃q,PV c ts (.listed par o p) q/\RR c r q:=by
 have key:=iT aa hf hp e (P:=fun i q=>∀p,p.map (nx c ts)=some i->PV c ts (.listed par o p) q) fun h x hd aj hx=>by
  unfold jH at hx;have hX:=hd.text;have ff1:=RR.fail (c:=c) hd.1;obtain⟨s1,s2,s3,s4⟩:=gp aa (fH hd.1 aj) (fO c h) (isX ts iI) (kL iI);generalize ak:aC ts (bh h) (bj iI)=sp at hx s1 s2 s3 s4;obtain⟨yes,g⟩:=sp;simp only at s1 s2 s3 s4;have jf:bG (yes.foldl joinH []):=eK bG.nil s1.conds;have ja:At c (yes.foldl joinH []) (((hI c h).map (·+1)).map (nx c ts) |>.filter (isX ts iI)):=by have:=At.joinH bG.nil s1.conds (At.nil c) s3 (.inl rfl);simpa using this
  have ac:=(fS (((hI c h).map (·+1)).map (nx c ts)) (isX ts iI)).symm;cases hc:h.cond.at' c with
  |false=>
   simp only[Tp,Si];split at hx
   ·cases hx;have:=ff1 10;rw[hc]at this;exact this
   ·split at hx
    ·cases hx;have:=ff1 11;rw[hc]at this;exact this
    ·simp only[T5,T6,Sc]at hx;obtain⟨a,ha,rfl⟩:=hx;obtain⟨q,h1,h2⟩:=G _ _ ha _ (.listL (l:=[]) trivial rfl s2 s4 jf ja ac);rw[fI hc]at h1;have:q=triv:=h1.det (PV.step0 fun r=>rfl);subst this;exact RR.trivTake aa h2 iI
  |true=>
   simp only[R9];rw[hX]at hx;split at hx
   ·rename_i h3;cases hx
    refine⟨_,fun p hp=>PV.step0 fun r=>by simp only[aN,jI,hp];rw[SI h3],?_⟩;have:=ff1 10;rw[hc]at this;exact this
   ·rename_i h3;split at hx
    ·rename_i h4;cases hx
     refine⟨_,fun p hp=>PV.step0 fun r=>by simp only[aN,jI,hp];rw[Sb h3,SI h4],?_⟩;have:=ff1 11;rw[hc]at this;exact this
    ·rename_i h4;simp only[T5,T6,Sc]at hx;obtain⟨a,ha,rfl⟩:=hx;obtain⟨q,h1,h2⟩:=G _ _ ha _ (.listL (l:=[]) trivial rfl s2 s4 jf ja ac);rw[dQ hc]at h1;refine⟨_,fun p hp=>h1.step1 fun r hr=>?_,RR.take (rec:=rec) aa h2 iI⟩;simp only[aN,jI,hp,jS];rw[Sb h3,Sb h4];simp only[So]at hr |-;simp only[pL]at hr;rw[hr];rfl
 cases p with
 |none=>exact⟨triv,PV.step0 fun r=>rfl,key⟩
 |some p=>obtain⟨q,h1,h2⟩:=key;exact⟨q,h1 _ rfl,h2⟩
theorem zX(ak:bu ts){rec:oR}(G:Good c ts rec){par:Bool}{o:Nat}{l l':List Nd}{g fin:ah}{g' fin':Option Nat}{r:bE}(e:listL ts rec par o l g fin=some r)(hl:fX l)(pl:pL c l=l')(hg:bG g)(pg:At c g g')(hf:bG fin)(pf:At c fin fin')(aj:g'=none\/fin'=none):
  ∃q,PV c ts (.listL par o l' g' fin') q/\RR c r q:=by
 unfold listL at e;cases g with
 |nil=>
  simp only[Sc]at e;subst e;have:g'=none:=by cases g' with
   |none=>rfl
   |some i=>simp[At,dC]at pg
  subst this;exact⟨⟨l',fin',[]⟩,PV.step0 fun r=>rfl,hf,hl,dB,pl,pf,rfl⟩
 |cons s g=>
  simp only[T5,T6,Sc]at e;obtain⟨a,ha,_,_,e⟩:=e;have atOne:=At.one c s.1 s.2;obtain⟨q,h1,h2⟩:=G _ _ ha _ (.item hg.head atOne);obtain⟨s1,s2,s3,s4⟩:=gp ak h2.fok h2.f (isX ts cd) (kL cd);generalize am:aC ts a.f (bj cd)=sp at e s1 s2 s3 s4;obtain⟨more,done⟩:=sp;simp only[T6,Sc]at e;obtain⟨b,hb,rfl⟩:=e;simp only at s1 s2 s3 s4;have jf:bG (more.foldl joinH1 g):=lK hg.tail s1.conds;have jd:bG (joinAll fin done):=cZ (fun s hs=>(s2.1 s hs).1) hf;rcases pg.cons with ⟨hc,rfl,pg2⟩|⟨hc,pg2⟩
  ·have ac:fin'=none:=by rcases aj with h|h;cases h;exact h
   subst ac;rw[SI hc]at h1;have j1:At c (more.foldl joinH1 g) ((pIf c ts q.p (isX ts cd)).map (·+1)):=by have:=At.joinH1 hg.tail s1.conds pg2 s3 (.inl rfl);simpa[pIf]using this
   have j2:At c (joinAll fin done) (pIf c ts q.p fun i=>!isX ts cd i):=by have:=At.joinAll hf s2 pf s4 (.inl rfl);simpa[pIf]using this
   have aa:(pIf c ts q.p (isX ts cd)).map (·+1)=none\/(pIf c ts q.p fun i=>!isX ts cd i)=none:=by
    rcases fS (q.p.map (nx c ts)) (isX ts cd)with h|h
    ·left;rw[jS,h];rfl
    ·exact .inr h
   obtain⟨u,h3,h4⟩:=G _ _ hb _ (.listL (fV.2 ⟨hl,h2.lok⟩) (by rw[dO,pl,h2.l]) jf j1 jd j2 aa);refine⟨_,h1.step2 h3 fun r hr hs=>?_,h2.app h4⟩;simp only[aN,tL,hr,T5,Sm,hs]
  ·rw[hc]at h1;simp only[Tp,Si]at h1;have:=PV.noneItem h1;subst this;simp only[triv,Ss,Option.filter_none]at s3 s4;have j1:At c (more.foldl joinH1 g) g':=by have:=At.joinH1 hg.tail s1.conds pg2 s3 (.inr rfl);simpa using this
   have j2:At c (joinAll fin done) fin':=by have:=At.joinAll hf s2 pf s4 (.inr rfl);simpa using this
   obtain⟨u,h3,h4⟩:=G _ _ hb _ (.listL (fV.2 ⟨hl,h2.lok⟩) (by rw[dO,pl,h2.l]) jf j1 jd j2 aj);simp only[triv,Tq]at h3;refine⟨u,h3,?_⟩;have:=h2.app h4;simpa[triv]using this
theorem RR.give{a:bE}{q:PR}{ks kp:List Nd}{f:ah}{p:Option Nat}{e:List bX}{e':List (Nat×Int)}(hl:fX a.l)(pl:pL c a.l=q.l)(hk:fX ks)(pk:pL c ks=kp)(hf:bG f)(pf:At c f p)(he:xQ e)(pe:pE c e=e'):RR c ⟨Syn.give a.l ks,f,e⟩ ⟨Syn.give q.l kp,p,e'⟩:=
 ⟨hf,di hl hk,he,by rw[eu,pl,pk],pf,pe⟩
theorem CV(aa:bu ts){rec:oR}(G:Good c ts rec){par:Bool}{o:Nat}{f:ah}{p:Option Nat}{r:bE}(e:item ts rec par o f=some r)(hf:bG f)(hp:At c f p):∃q,PV c ts (.item par o p) q/\RR c r q:=by
 unfold item at e;cases par with
 |false=>
  simp only[Tp,Si]at e;obtain⟨q,h1,h2⟩:=G _ _ e _ (.line hf hp);exact⟨q,h1.step1 fun r hr=>by simp only[aN,sH];exact hr,h2⟩
 |true=>
  simp only[R9]at e;have hn:=kf aa hf hp 4 0;have ht:=RR.take (rec:=rec) aa hn bS;generalize ac:Syn.take ts (named ts f 4 0).f bS=sp at e ht;obtain⟨g,er⟩:=sp;have hy:=tI aa ht.fok ht.f 0;simp only[T5,T6,Sc]at e;obtain⟨l,hl,rfl⟩:=e;have:=bg hl;subst this;refine⟨_,PV.step0 fun r=>by simp only[aN,sH,R9];rfl,?_⟩;exact RR.give hn.lok hn.l hy.lok hy.l hy.fok hy.f (bP.2 ⟨ht.eok,hy.eok⟩) (by rw[bW,ht.e,hy.e])
theorem yQ(aa:bu ts){rec:oR}(G:Good c ts rec){typ:Bool}{o slot:Nat}{sign:bM}{f:ah}{p:Option Nat}{r:bE}(e:behind ts rec typ o f sign slot=some r)(hf:bG f)(hp:At c f p):∃q,PV c ts (.behind typ o p sign slot) q/\RR c r q:=by
 unfold behind at e;obtain⟨s1,s2,s3,s4⟩:=gp aa hf hp (isX ts sign) (kL sign);generalize ac:aC ts f (bj sign)=sp at e s1 s2 s3 s4;obtain⟨yes,out⟩:=sp;simp only[T5,T6,Sc]at e;obtain⟨a,ha,rfl⟩:=e;simp only at s1 s2 s3 s4;have jf:bG (yes.foldl joinH1 []):=lK bG.nil s1.conds;have ja:At c (yes.foldl joinH1 []) ((pIf c ts p (isX ts sign)).map (·+1)):=by have:=At.joinH1 bG.nil s1.conds (At.nil c) s3 (.inl rfl);simpa[pIf]using this
 unfold rq at ha;have fin:∀q:PR,RR c a q->((pIf c ts p (isX ts sign))=none->q.p=none)->RR c ⟨a.l,joinAll out a.f,a.e⟩ ⟨q.l,(pIf c ts p fun i=>!isX ts sign i).or q.p,q.e⟩:=fun q hq hn=>by
  refine⟨cZ (fun s hs=>(hq.fok.1 s hs).1) s2,hq.lok,hq.eok,hq.l,At.joinAll s2 hq.fok s4 hq.f ?_,hq.e⟩;rcases fS (p.map (nx c ts)) (isX ts sign)with h|h
  ·exact .inr (hn h)
  ·exact .inl h
 cases typ with
 |true=>
  simp only[R9,Sc]at ha;subst ha;refine⟨_,PV.step0 fun r=>by simp only[aN,lq,jc,R9];rfl,fin _ (tI aa jf ja slot) fun h=>?_⟩;rw[h];rfl
 |false=>
  simp only[Tp,Si]at ha;obtain⟨q,h1,h2⟩:=G _ _ ha _ (.line jf ja);refine⟨_,h1.step1 fun r hr=>?_,fin q h2 fun h=>?_⟩
  ·simp only[aN,lq,jc,Tp,Si];rw[hr];rfl
  ·rw[h]at h1;have:=PV.noneLine h1;subst this;rfl
theorem ur(ac:bu ts){rec:oR}(G:Good c ts rec){o:Nat}{f:ah}{p:Option Nat}{r:bE}(e:ig ts rec o f=some r)(hf:bG f)(hp:At c f p):∃q,PV c ts (.vrb o p) q/\RR c r q:=by
 unfold ig at e;have hn:=kf ac hf hp 2 0;have ht:=RR.take (rec:=rec) ac hn bS;dsimp only at e;generalize aj:Syn.take ts (named ts f 2 0).f bS=sp at e ht;obtain⟨g,er⟩:=sp;have hy:=tI ac ht.fok ht.f 0;simp only[T5,T6]at e;obtain⟨d,hd,l1,am,l2,ak,e⟩:=e;have:=bg am;subst this;have:=bg ak;subst this;obtain⟨q,h1,h2⟩:=G _ _ hd _ (.behind hy.fok hy.f);have aa:=RR.take (rec:=rec) ac h2 bl;generalize aj:Syn.take ts d.f bl=sp at e aa;obtain⟨g2,er2⟩:=sp;simp only[Sc]at e;subst e;refine⟨_,h1.step1 fun r hr=>by simp only[aN,iY];rw[hr];rfl,?_⟩;refine⟨aa.fok,di (di hn.lok hy.lok) h2.lok,?_,?_,aa.f,?_⟩
 ·have:=aa.eok;rw[bP]at this;exact bP.2 ⟨bP.2 ⟨bP.2 ⟨ht.eok,hy.eok⟩,this.1⟩,this.2⟩
 ·rw[eu,eu,hn.l,hy.l,h2.l]
 ·have e2:=aa.e;rw[bW]at e2;have e1:=ht.e;rw[bW]at e1;rw[bW,bW,bW,bW,e1,hy.e,Te,e2];simp[Te]
theorem uC(aa:bu ts){rec:oR}(G:Good c ts rec){o:Nat}{f:ah}{p:Option Nat}{r:bE}(e:function ts rec o f=some r)(hf:bG f)(hp:At c f p):∃q,PV c ts (.function o p) q/\RR c r q:=by
 unfold function at e;have hn:=kf aa hf hp 3 0;dsimp only at e;simp only[T5,T6,Sc]at e;obtain⟨b,hb,d,hd,x,hx,l1,ak,l2,aj,l3,ac,rfl⟩:=e;have:=bg ak;subst this;have:=bg aj;subst this;have:=bg ac;subst this;obtain⟨q1,h1,k1⟩:=G _ _ hb _ (.listed hn.fok hn.f);obtain⟨q2,h2,k2⟩:=G _ _ hd _ (.behind k1.fok k1.f);obtain⟨q3,h3,k3⟩:=G _ _ hx _ (.block k2.fok k2.f);refine⟨_,h1.step3 h2 h3 fun r r1 r2 r3=>by simp only[aN,iX,r1,r2,r3,T5,Sm];rfl,?_⟩;refine⟨k3.fok,di (di (di hn.lok k1.lok) k2.lok) k3.lok,bP.2 ⟨bP.2 ⟨bP.2 ⟨hn.eok,k1.eok⟩,k2.eok⟩,k3.eok⟩,?_,k3.f,?_⟩
 ·rw[eu,eu,eu,hn.l,k1.l,k2.l,k3.l]
 ·rw[bW,bW,bW,hn.e,k1.e,k2.e,k3.e]
end
open Dg
section
variable {c:cg} {ts:List Tok}
theorem Ad(ac:bu ts){rec:oR}(G:Good c ts rec){o slot:Nat}{f:ah}{p:Option Nat}{r:bE}(e:bY ts f (mw ts rec o slot)=some r)(hf:bG f)(hp:At c f p):∃q,PV c ts (.block o p slot) q/\RR c r q:=by
 have key:=iT ac hf hp e (P:=fun i q=>∀p,p.map (nx c ts)=some i->PV c ts (.block o p slot) q) fun h x hd aj hx=>by
  unfold mw at hx;have hX:=hd.text;have ff1:=RR.fail (c:=c) hd.1;cases hc:h.cond.at' c with
  |false=>
   simp only[Tp,Si];split at hx
   ·cases hx;have:=ff1 10;rw[hc]at this;exact this
   ·split at hx
    ·cases hx;have:=ff1 11;rw[hc]at this;exact this
    ·simp only[T5,T6,Sc]at hx;obtain⟨a,ha,rfl⟩:=hx;have aa:=fO c h;rw[fI hc]at aa;obtain⟨q,h1,h2⟩:=G _ _ ha _ (.seqL (l:=[]) (fH hd.1 aj) aa trivial rfl bG.nil (At.nil c) (.inr rfl));have:q=triv:=h1.det (PV.step0 fun r=>rfl);subst this;have ht:=RR.trivTake ac h2 uo;exact⟨ht.fok,fy hd.1 h2.lok,ht.eok,by rw[eJ];simp[hc,triv],ht.f,ht.e⟩
  |true=>
   simp only[R9];rw[hX]at hx;split at hx
   ·rename_i h3;cases hx
    refine⟨_,fun p hp=>PV.step0 fun r=>by simp only[aN,mg,hp];rw[SI h3],?_⟩;have:=ff1 10;rw[hc]at this;exact this
   ·rename_i h3;split at hx
    ·rename_i h4;cases hx
     refine⟨_,fun p hp=>PV.step0 fun r=>by simp only[aN,mg,hp];rw[Sb h3,SI h4],?_⟩;have:=ff1 11;rw[hc]at this;exact this
    ·rename_i h4;simp only[T5,T6,Sc]at hx;obtain⟨a,ha,rfl⟩:=hx;obtain⟨q,h1,h2⟩:=G _ _ ha _ (.seqL (l:=[]) (fH hd.1 aj) (fO c h) trivial rfl bG.nil (At.nil c) (.inr rfl));rw[dQ hc]at h1;have ht:=RR.take (rec:=rec) ac h2 uo;refine⟨⟨[⟨6,[],h.at',slot,q.l,tt⟩],(cX ts c q.p uo).1,q.e++(cX ts c q.p uo).2⟩,fun p hp=>h1.step1 fun r hr=>?_,⟨ht.fok,fy hd.1 h2.lok,ht.eok,by rw[eJ];simp[hc,h2.l],ht.f,ht.e⟩⟩;simp only[aN,mg,hp];rw[Sb h3,Sb h4];simp only[So,pL]at hr;rw[hr];rfl
 cases p with
 |none=>exact⟨triv,PV.step0 fun r=>rfl,key⟩
 |some p=>obtain⟨q,h1,h2⟩:=key;exact⟨q,h1 _ rfl,h2⟩
theorem F8{r s:o3}(h:Le r s){top:Bool}{o i:Nat}{q:PR}(e:my ts r top o i=some q):my ts s top o i=some q:=by
 unfold my at e |-;cases top with
 |false=>exact h _ _ e
 |true=>
  simp only[R9]at e |-;unfold zm at e |-;split at e
  ·rename_i h2;rw[SI h2];exact h _ _ e
  ·rename_i h2;rw[Sb h2];split at e
   ·rename_i h3;rw[SI h3];exact h _ _ e
   ·rename_i h3;rw[Sb h3];exact e
theorem DA(aj:bu ts){rec:oR}(G:Good c ts rec){top:Bool}{o:Nat}{h:ay}{r:bE}(e:uV rec top o h=some r)(hd:Hd ts h)(ac:h.cond≠ff):
  if h.cond.at' c then ∃n q,my ts (hQ c ts n) top o h.at'=some q/\RR c r q else RR c r triv:=by
 unfold uV at e;have hX:=hd.text;have ff1:=RR.fail (c:=c) hd.1 10;have aa:=fO c h;have ao:=fH hd.1 ac;cases top with
 |false=>
  simp only[Tp,Si]at e;obtain⟨q,h1,h2⟩:=G _ _ e _ (.stmt hd ac rfl);cases hc:h.cond.at' c with
  |false=>
   rw[fI hc]at h1;have:q=triv:=h1.det (PV.step0 fun r=>rfl);subst this;simpa using h2
  |true=>
   rw[dQ hc]at h1;obtain⟨n,hn⟩:=h1;simp only[R9];exact⟨n,q,hn,h2⟩
 |true=>
  simp only[R9]at e;unfold mV at e;rw[hX]at e;cases hc:h.cond.at' c with
  |false=>
   simp only[Tp,Si];rw[fI hc]at aa;split at e
   ·obtain⟨q,h1,h2⟩:=G _ _ e _ (.vrb ao aa);have:=PV.noneVar h1;subst this;exact h2
   ·split at e
    ·obtain⟨q,h1,h2⟩:=G _ _ e _ (.function ao aa);have:=PV.noneFn h1;subst this;exact h2
    ·cases e;rw[hc]at ff1;exact ff1
  |true=>
   simp only[R9];rw[dQ hc]at aa;split at e
   ·rename_i h3;obtain⟨q,⟨n,hn⟩,h2⟩:=G _ _ e _ (.vrb ao aa);exact⟨n,q,by simp only[my,zm,R9];rw[SI h3];exact hn,h2⟩
   ·rename_i h3;split at e
    ·rename_i h4;obtain⟨q,⟨n,hn⟩,h2⟩:=G _ _ e _ (.function ao aa);exact⟨n,q,by simp only[my,zm,R9];rw[Sb h3,SI h4];exact hn,h2⟩
    ·rename_i h4;cases e
     rw[hc]at ff1;exact⟨0,_,by simp only[my,zm,R9];rw[Sb h3,Sb h4],ff1⟩
theorem FJ{h:ay}(hd:Hd ts h)(top:Bool):ju ts top h=pEnd ts top h.at':=by
 unfold ju pEnd;rw[hd.text]
theorem If{top:Bool}{o p:Nat}{l:List Nd}{out:Option Nat}{q:PR}(h:PV c ts (.seqL top o (some (nx c ts p)) l out) q):PV c ts (.seqL top o (some p) l out) q:=by
 obtain⟨n,h⟩:=h;cases n with
 |zero=>cases h
 |succ n=>exact⟨n+1,by simp only[hQ,aN,tw,So,wT]at h |-;exact h⟩
theorem y8{f:ah}{h:ay}(hf:bG f)(k:h.cond.ok 0):bG (joinH f h):=de hf k
theorem yf{f:ah}{h:ay}{p:Option Nat}(hf:bG f)(k:h.cond.ok 0)(hp:At c f p)(aa:hI c h=none\/p=none):At c (joinH f h) ((hI c h).or p):=by
 have:=At.join hf hp k (a:=h.at') (fun hc=>by
  rcases aa with h1|h1
  ·rw[dQ hc]at h1;cases h1
  ·exact h1)
 unfold joinH hI;cases hc:h.cond.at' c<;>rw[hc]at this<;>simpa using this
theorem Dc(am:bu ts){rec:oR}(G:Good c ts rec){top:Bool}{o:Nat}{f:ah}{p:Option Nat}{l l':List Nd}{out:ah}{out':Option Nat}{r:bE}(e:seqL ts rec top o f l out=some r)(hf:bG f)(hp:At c f p)(hl:fX l)(pl:pL c l=l')(ho:bG out)(po:At c out out')(an:p=none\/out'=none):
  ∃q,PV c ts (.seqL top o p l' out') q/\RR c r q:=by
 unfold seqL at e;have hh:=ko am hf;have ha:=j8.of am hf hp;generalize bk ts f=hs at e hh ha
 suffices H:∃q,PV c ts (.seqL top o (p.map (nx c ts)) l' out') q/\RR c r q by
  obtain⟨q,h1,h2⟩:=H;refine⟨q,?_,h2⟩;cases p with
  |none=>exact h1
  |some p=>exact If h1
 have aa:p.map (nx c ts)=none\/out'=none:=an.imp (fun h=>by rw[h];rfl) id;have fixp:(p.map (nx c ts)).map (nx c ts)=p.map (nx c ts):=by cases p<;>simp[wT]
 generalize p.map (nx c ts)=i at ha aa fixp;cases hs with
 |nil=>
  simp only[Sc]at e;subst e;have:=ha.nil_none;subst this;exact⟨⟨l',out',[]⟩,PV.step0 fun r=>rfl,ho,hl,dB,pl,po,rfl⟩
 |cons h hs=>
  obtain⟨hd,ao⟩:=hh.hd;have ht:=hh.tail;have he:=FJ hd top;simp only at e;rw[he]at e;cases ak:pEnd ts top h.at' with
  |true=>
   rw[ak,SI rfl]at e;rcases ha.cons with ⟨hc,rfl,aj⟩|⟨hc,aj⟩
   ·have ac:out'=none:=by rcases aa with h|h;cases h;exact h
    subst ac;have jo:=yf (h:=h) ho hd.1 po (.inr rfl);rw[dQ hc]at jo;have jf:At c (hs.foldl joinH []) none:=by have:=At.joinH bG.nil ht.conds (At.nil c) aj (.inl rfl);simpa using this
    obtain⟨u,h3,h4⟩:=G _ _ e _ (.seqL (eK bG.nil ht.conds) jf hl pl (y8 ho hd.1) jo (.inl rfl));have:u=⟨l',some h.at',[]⟩:=h3.det (PV.step0 fun r=>rfl);subst this;refine⟨_,PV.step0 fun r=>?_,h4⟩;simp only[So,Sc]at fixp;simp only[aN,tw,So,fixp,ak,R9]
   ·have jo:=yf (h:=h) ho hd.1 po (.inl (fI hc));rw[fI hc]at jo;have jf:At c (hs.foldl joinH []) i:=by have:=At.joinH bG.nil ht.conds (At.nil c) aj (.inl rfl);simpa using this
    exact G _ _ e _ (.seqL (eK bG.nil ht.conds) jf hl pl (y8 ho hd.1) (by simpa using jo) aa)
  |false=>
   rw[ak]at e;simp only[Tp,Si,T5,T6,Sc]at e;obtain⟨a,ap,_,_,b,hb,rfl⟩:=e;have hr:=DA am G ap hd ao;rcases ha.cons with ⟨hc,rfl,aj⟩|⟨hc,aj⟩
   ·have ac:out'=none:=by rcases aa with h|h;cases h;exact h
    subst ac;rw[hc,SI rfl]at hr;obtain⟨n,q,h1,h2⟩:=hr;have j0:bG (joinAll [] a.f):=cZ (fun s hs=>(h2.fok.1 s hs).1) bG.nil;have a0:At c (joinAll [] a.f) q.p:=by have:=At.joinAll bG.nil h2.fok (At.nil c) h2.f (.inl rfl);simpa using this
    have jf:At c (hs.foldl joinH (joinAll [] a.f)) q.p:=by have:=At.joinH j0 ht.conds a0 aj (.inr rfl);simpa using this
    obtain⟨u,⟨m,h3⟩,h4⟩:=G _ _ hb _ (.seqL (eK j0 ht.conds) jf (fV.2 ⟨hl,h2.lok⟩) (by rw[dO,pl,h2.l]) ho po (.inr rfl));refine⟨_,⟨max n m+1,?_⟩,h2.app h4⟩;simp only[So,Sc]at fixp;simp only[hQ,aN,tw,So,fixp,ak,Tp,Si];rw[F8 (iK (Nat.le_max_left n m)) h1];simp only[T5,Sm];rw[iK (Nat.le_max_right n m) _ _ h3];rfl
   ·rw[hc]at hr;simp only[Tp,Si]at hr;have j0:bG (joinAll [] a.f):=cZ (fun s hs=>(hr.fok.1 s hs).1) bG.nil;have a0:At c (joinAll [] a.f) none:=by have:=At.joinAll bG.nil hr.fok (At.nil c) hr.f (.inl rfl);simpa[triv]using this
    have jf:At c (hs.foldl joinH (joinAll [] a.f)) i:=by have:=At.joinH j0 ht.conds a0 aj (.inl rfl);simpa using this
    obtain⟨u,h3,h4⟩:=G _ _ hb _ (.seqL (eK j0 ht.conds) jf (fV.2 ⟨hl,hr.lok⟩) (by rw[dO,pl,hr.l]) ho po aa);simp only[triv,Tq]at h3;refine⟨u,h3,?_⟩;have:=hr.app h4;simpa[triv]using this
theorem rx{h:ay}(hd:h.cond.ok 0)(kind slot:Nat):fX [ix kind h slot]:=fy hd trivial
theorem rm(c:cg)(h:ay)(kind slot:Nat):pL c [ix kind h slot]=je kind (hI c h) slot:=by
 rw[eJ];unfold ix hI je;cases h.cond.at' c<;>simp[pL]
theorem ye(l:List Nd):give l []=l:=by
 unfold give
 induction l with
 |nil=>rfl
 |cons n l ih=>rw[Tf,ih];cases n;simp
theorem xX(aa:bu ts){rec:oR}(G:Good c ts rec){o slot:Nat}{h:ay}{r:bE}(e:branch ts rec o h slot=some r)(hd:Hd ts h)(ac:h.cond≠ff):∃q,PV c ts (.branch o (hI c h) slot) q/\RR c r q:=by
 unfold branch at e;simp only[T5,T6]at e;obtain⟨a,ha,b,hb,l1,ak,l2,aj,e⟩:=e;have:=bg ak;subst this;have:=bg aj;subst this;obtain⟨q1,h1,k1⟩:=G _ _ ha _ (.inside (fH hd.1 ac) (fO c h));obtain⟨q2,h2,k2⟩:=G _ _ hb _ (.block k1.fok k1.f);obtain⟨s1,s2,s3,s4⟩:=gp aa k2.fok k2.f (isX ts ip) (kL ip);generalize an:aC ts b.f (bj ip)=sp at e s1 s2 s3 s4;obtain⟨xs,out⟩:=sp;simp only[T6,Sc]at e;obtain⟨d,am,rfl⟩:=e;obtain⟨q3,h3,k3⟩:=G _ _ am _ (.elses s1 s3 (di (di (rx hd.1 8 slot) k1.lok) k2.lok) (by rw[eu,eu,rm,k1.l,k2.l]) s2 s4 (fS _ _));refine⟨_,h1.step3 h2 h3 fun r r1 r2 r3=>by simp only[aN,mB,jS,r1,r2,r3,T5,Sm];rfl,?_⟩;exact⟨k3.fok,k3.lok,bP.2 ⟨bP.2 ⟨k1.eok,k2.eok⟩,k3.eok⟩,k3.l,k3.f,by rw[bW,bW,k1.e,k2.e,k3.e]⟩
theorem Be(an:bu ts){rec:oR}(G:Good c ts rec){o:Nat}{xs:List ay}{x:Option Nat}{l l':List Nd}{out:ah}{out':Option Nat}{r:bE}(e:elses ts rec o xs l out=some r)(aa:rf ts xs)(px:j8 c xs x)(hl:fX l)(pl:pL c l=l')(ho:bG out)(po:At c out out')(ak:x=none\/out'=none):
  ∃q,PV c ts (.elses o x l' out') q/\RR c r q:=by
 unfold elses at e;cases xs with
 |nil=>
  simp only[Sc]at e;subst e;have:=px.nil_none;subst this;exact⟨⟨l',out',[]⟩,PV.step0 fun r=>rfl,ho,hl,dB,pl,po,rfl⟩
 |cons h xs=>
  obtain⟨hd,ao⟩:=aa.hd;obtain⟨s1,s2,s3,s4⟩:=gp an (fH hd.1 ao) (fO c h) (isX ts ny) (kL ny);simp only at e;generalize aS:aC ts (bh h) (bj ny)=sp at e s1 s2 s3 s4;obtain⟨ys,rest⟩:=sp;simp only[T5,T6,Sc]at e;obtain⟨a,ha,l1,ap,b,hb,d,am,rfl⟩:=e;have:=bg ap;subst this;simp only at s1 s2 s3 s4;obtain⟨q1,h1,k1⟩:=G _ _ ha _ (.block s2 s4);have jo:bG (joinAll out a.f):=cZ (fun s hs=>(k1.fok.1 s hs).1) ho;rcases px.cons with ⟨hc,rfl,px2⟩|⟨hc,px2⟩
  ·have ac:out'=none:=by rcases ak with h|h;cases h;exact h
   subst ac;rw[dQ hc]at h1 s3 s4;have ja:At c (joinAll out a.f) q1.p:=by have:=At.joinAll ho k1.fok po k1.f (.inl rfl);simpa using this
   have aj:pIf c ts (some (h.at'+1)) (isX ts ny)=none\/q1.p=none:=by
    rcases fS ((some (h.at'+1)).map (nx c ts)) (isX ts ny)with h|h
    ·exact .inl h
    ·right
     simp only[So]at h1 h;rw[h]at h1;have:=PV.noneBlock h1;subst this;rfl
   obtain⟨q2,h2,k2⟩:=G _ _ hb _ (.ifs s1 s3 (di hl k1.lok) (by rw[eu,pl,k1.l]) jo ja aj);obtain⟨q3,h3,k3⟩:=G _ _ am _ (.elses aa.tail px2 k2.lok k2.l k2.fok k2.f (.inl rfl));have:q3=⟨q2.l,q2.p,[]⟩:=h3.det (PV.step0 fun r=>rfl);subst this;refine⟨⟨q2.l,q2.p,q1.e++q2.e⟩,h1.step2 h2 fun r r1 r2=>?_,?_⟩
   ·simp only[aN,pD,jS];simp only[So]at r1 r2 |-;rw[r1];simp only[T5,Sm];rw[r2];rfl
   ·exact⟨k3.fok,k3.lok,bP.2 ⟨bP.2 ⟨k1.eok,k2.eok⟩,k3.eok⟩,k3.l,k3.f,by rw[bW,bW,k1.e,k2.e,k3.e];simp⟩
  ·rw[fI hc]at h1 s3 s4;simp only[Ss,Option.filter_none]at h1 s3 s4;have:=PV.noneBlock h1;subst this;have ja:At c (joinAll out a.f) out':=by have:=At.joinAll ho k1.fok po k1.f (.inr rfl);simpa[triv]using this
   have gl:pL c (give l a.l)=l':=by rw[eu,pl,k1.l];exact ye l'
   obtain⟨q2,h2,k2⟩:=G _ _ hb _ (.ifs s1 s3 (di hl k1.lok) gl jo ja (.inl rfl));have:q2=⟨l',out',[]⟩:=h2.det (PV.step0 fun r=>rfl);subst this;obtain⟨q3,h3,k3⟩:=G _ _ am _ (.elses aa.tail px2 k2.lok k2.l k2.fok k2.f ak);refine⟨q3,h3,k3.fok,k3.lok,bP.2 ⟨bP.2 ⟨k1.eok,k2.eok⟩,k3.eok⟩,k3.l,k3.f,by rw[bW,bW,k1.e,k2.e,k3.e];simp[triv]⟩
theorem F4(ao:bu ts){rec:oR}(G:Good c ts rec){o:Nat}{ys:List ay}{y:Option Nat}{l l':List Nd}{out:ah}{out':Option Nat}{r:bE}(e:ifs rec o ys l out=some r)(ac:rf ts ys)(py:j8 c ys y)(hl:fX l)(pl:pL c l=l')(ho:bG out)(po:At c out out')(aj:y=none\/out'=none):
  ∃q,PV c ts (.ifs o y l' out') q/\RR c r q:=by
 unfold ifs at e;cases ys with
 |nil=>
  simp only[Sc]at e;subst e;have:=py.nil_none;subst this;exact⟨⟨l',out',[]⟩,PV.step0 fun r=>rfl,ho,hl,dB,pl,po,rfl⟩
 |cons h ys=>
  obtain⟨hd,am⟩:=ac.hd;have ff1:=RR.fail (c:=c) hd.1 11;simp only at e;split at e
  ·rename_i ak;simp only[T5,T6,Sc]at e;obtain⟨b,hb,rfl⟩:=e;rcases py.cons with ⟨hc,rfl,py2⟩|⟨hc,py2⟩
   ·have aa:out'=none:=by rcases aj with h|h;cases h;exact h
    subst aa;obtain⟨q2,h2,k2⟩:=G _ _ hb _ (.ifs ac.tail py2 hl pl ho po (.inl rfl));have:q2=⟨l',none,[]⟩:=h2.det (PV.step0 fun r=>rfl);subst this;refine⟨⟨l',none,[(11,(h.at':Int))]⟩,PV.step0 fun r=>by simp only[aN,Dt];rw[SI ak],k2.fok,k2.lok,bP.2 ⟨ff1.eok,k2.eok⟩,k2.l,k2.f,?_⟩;rw[bW,iM,hc,k2.e];rfl
   ·obtain⟨q2,h2,k2⟩:=G _ _ hb _ (.ifs ac.tail py2 hl pl ho po aj);refine⟨q2,h2,k2.fok,k2.lok,bP.2 ⟨ff1.eok,k2.eok⟩,k2.l,k2.f,?_⟩;rw[bW,iM,hc,k2.e];rfl
  ·rename_i ak;simp only[T5,T6,Sc]at e;obtain⟨a,ha,l1,an,b,hb,rfl⟩:=e;have:=bg an;subst this;obtain⟨q1,h1,k1⟩:=G _ _ ha _ (.branch hd am rfl);have jo:bG (joinAll out a.f):=cZ (fun s hs=>(k1.fok.1 s hs).1) ho;rcases py.cons with ⟨hc,rfl,py2⟩|⟨hc,py2⟩
   ·have aa:out'=none:=by rcases aj with h|h;cases h;exact h
    subst aa;rw[dQ hc]at h1;have ja:At c (joinAll out a.f) q1.p:=by have:=At.joinAll ho k1.fok po k1.f (.inl rfl);simpa using this
    obtain⟨q2,h2,k2⟩:=G _ _ hb _ (.ifs ac.tail py2 (di hl k1.lok) (by rw[eu,pl,k1.l]) jo ja (.inl rfl));have:q2=⟨give l' q1.l,q1.p,[]⟩:=h2.det (PV.step0 fun r=>rfl);subst this;refine⟨⟨give l' q1.l,q1.p,q1.e⟩,h1.step1 fun r hr=>by simp only[aN,Dt];rw[Sb ak,hr];rfl,k2.fok,k2.lok,bP.2 ⟨k1.eok,k2.eok⟩,k2.l,k2.f,?_⟩;rw[bW,k1.e,k2.e];simp
   ·rw[fI hc]at h1;have:=PV.noneBranch h1;subst this;have ja:At c (joinAll out a.f) out':=by have:=At.joinAll ho k1.fok po k1.f (.inr rfl);simpa[triv]using this
    obtain⟨q2,h2,k2⟩:=G _ _ hb _ (.ifs ac.tail py2 (di hl k1.lok) (show _=l' by rw[eu,pl,k1.l];exact ye l') jo ja aj);refine⟨q2,h2,k2.fok,k2.lok,bP.2 ⟨k1.eok,k2.eok⟩,k2.l,k2.f,?_⟩;rw[bW,k1.e,k2.e];simp[triv]
theorem zi(aS:bu ts){rec:oR}(G:Good c ts rec){o:Nat}{h:ay}{xs:List ay}{x:Option Nat}{l l':List Nd}{g:ah}{g':Option Nat}{r:bE}(e:sCalls rec o h xs l g=some r)(hd:Hd ts h)(ak:rf ts xs)(px:j8 c xs x)(hl:fX l)(pl:pL c l=l')(hg:bG g)(pg:At c g g')
  (ac:x=none\/g'=none/\hI c h≠none/\pL c l.tail=[]/\l≠[]):∃q,PV c ts (.sCalls o (hI c h) x l' g') q/\RR c r q:=by
 unfold sCalls at e;cases xs with
 |nil=>
  simp only[Sc]at e;subst e;have:=px.nil_none;subst this;exact⟨⟨l',g',[]⟩,PV.step0 fun r=>by simp only[aN,kS];cases hI c h<;>rfl,hg,hl,dB,pl,pg,rfl⟩
 |cons y xs=>
  simp only[T5,T6,Sc]at e;obtain⟨a,ha,_,_,b,hb,rfl⟩:=e;obtain⟨yd,yne⟩:=ak.hd;obtain⟨q,h1,h2⟩:=G _ _ ha _ (.listed (jD yd.1 yne) (jJ c y));have aa:fX (l++[(⟨19,h.text,h.at',0,a.l,y.cond⟩:Nd)]):=fV.2 ⟨hl,fy yd.1 h2.lok⟩;have aj:=BM yd.1 aa;have jg:bG (joinAll g a.f):=cZ (fun s hs=>(h2.fok.1 s hs).1) hg;rcases px.cons with ⟨hc,rfl,px2⟩|⟨hc,px2⟩
  ·rw[dQ hc]at h1;rcases ac with ac|⟨rfl,hi,an,ao⟩
   ·cases ac
   have ap:h.cond.at' c=true:=by
    cases hh:h.cond.at' c with
    |true=>rfl
    |false=>exact absurd (fI hh) hi
   have pnew:pL c (iA (l++[(⟨19,h.text,h.at',0,a.l,y.cond⟩:Nd)]) y.cond)=[⟨19,X ts h.at',h.at',0,q.l,tt⟩]:=by
    rw[rO c yd.1 aa,SI hc];cases l with
    |nil=>exact absurd rfl ao
    |cons n l=>
     rw[SS,T8,dO,eJ];rw[T8]at an;simp[hc,h2.l,hd.text,an]
   have pj:At c (joinAll g a.f) q.p:=by have:=At.joinAll hg h2.fok pg h2.f (.inl rfl);simpa using this
   obtain⟨u,h3,h4⟩:=G _ _ hb _ (.sCalls hd rfl ak.tail px2 aj pnew jg pj (.inl rfl));have hu:u=⟨[⟨19,X ts h.at',h.at',0,q.l,tt⟩],q.p,[]⟩:=h3.det (PV.step0 fun r=>by simp only[aN,kS];cases hI c h<;>rfl);subst hu;refine⟨_,h1.step1 fun r hr=>?_,h2.app h4⟩;rw[dQ ap];simp only[aN,kS,hr,T5,Sm,Tq]
  ·rw[fI hc]at h1;have hq:=PV.noneListed h1;subst hq;have pnew:pL c (iA (l++[(⟨19,h.text,h.at',0,a.l,y.cond⟩:Nd)]) y.cond)=l':=by
    rw[rO c yd.1 aa,dO,eJ];simp[hc,pl]
   have pj:At c (joinAll g a.f) g':=by have:=At.joinAll hg h2.fok pg h2.f (.inr rfl);simpa[triv]using this
   have am:x=none\/g'=none/\hI c h≠none/\pL c (iA (l++[(⟨19,h.text,h.at',0,a.l,y.cond⟩:Nd)]) y.cond).tail=[]/\iA (l++[(⟨19,h.text,h.at',0,a.l,y.cond⟩:Nd)]) y.cond≠[]:=by
    rcases ac with ac|⟨h5,h6,h7,h8⟩
    ·exact .inl ac
    ·refine .inr ⟨h5,h6,?_,?_⟩
     ·rw[vz];cases l with
      |nil=>exact absurd rfl h8
      |cons n l=>
       rw[T8]at h7;rw[SS,T8,dO,eJ,h7];simp[hc]
     ·cases l with
      |nil=>exact absurd rfl h8
      |cons n l=>simp[iA]
   obtain⟨u,h3,h4⟩:=G _ _ hb _ (.sCalls hd rfl ak.tail px2 aj pnew jg pj am);refine⟨u,h3,?_⟩;have:=h2.app h4;simpa[triv]using this
theorem DY(ac:bu ts){rec:oR}(G:Good c ts rec){o:Nat}{h:ay}{r:bE}(e:stmt ts rec o h=some r)(hd:Hd ts h)(am:h.cond≠ff):∃q,PV c ts (.stmt o (hI c h)) q/\RR c r q:=by
 unfold stmt at e;have hX:=hd.text;have aa:=fO c h;have ao:=fH hd.1 am;by_cases h1:h.text=rg
 ·rw[SI h1]at e;obtain⟨q,k1,k2⟩:=G _ _ e _ (.vrb ao aa);cases hc:h.cond.at' c with
  |false=>
   rw[fI hc]at k1 |-;have:=PV.noneVar k1;subst this;exact⟨triv,PV.step0 fun r=>rfl,k2⟩
  |true=>
   rw[dQ hc]at k1 |-;rw[hX]at h1;exact⟨q,k1.step1 fun r hr=>by simp only[aN,lG];rw[SI h1];exact hr,k2⟩
 rw[Sb h1]at e;by_cases h2:h.text=ny
 ·rw[SI h2]at e;obtain⟨q,k1,k2⟩:=G _ _ e _ (.branch hd am rfl);cases hc:h.cond.at' c with
  |false=>
   rw[fI hc]at k1 |-;have:=PV.noneBranch k1;subst this;exact⟨triv,PV.step0 fun r=>rfl,k2⟩
  |true=>
   rw[dQ hc]at k1 |-;rw[hX]at h1 h2;exact⟨q,k1.step1 fun r hr=>by simp only[aN,lG];rw[Sb h1,SI h2];exact hr,k2⟩
 rw[Sb h2]at e;by_cases h3:h.text=nK
 ·rw[SI h3]at e;simp only[T5,T6,Sc]at e;obtain⟨a,ha,b,hb,l1,aj,l2,a0,rfl⟩:=e;have:=bg aj;subst this;have:=bg a0;subst this;obtain⟨q1,k1,r1⟩:=G _ _ ha _ (.inside ao aa);obtain⟨q2,k2,r2⟩:=G _ _ hb _ (.block r1.fok r1.f);have R:RR c ⟨give (give [ix 9 h 0] a.l) b.l,b.f,a.e++b.e⟩ ⟨give (give (je 9 (hI c h) 0) q1.l) q2.l,q2.p,q1.e++q2.e⟩:=
   ⟨r2.fok,di (di (rx hd.1 9 0) r1.lok) r2.lok,bP.2 ⟨r1.eok,r2.eok⟩,by rw[eu,eu,rm,r1.l,r2.l],r2.f,by rw[bW,r1.e,r2.e]⟩
  cases hc:h.cond.at' c with
  |false=>
   rw[fI hc]at k1 R |-;have:=PV.noneInside k1;subst this;have:=PV.noneBlock k2;subst this;exact⟨triv,PV.step0 fun r=>rfl,R⟩
  |true=>
   rw[dQ hc]at k1 R |-;rw[hX]at h1 h2 h3;refine⟨_,k1.step2 k2 fun r e1 e2=>?_,R⟩;simp only[aN,lG];rw[Sb h1,Sb h2,SI h3];simp only[So]at e1;rw[e1];simp only[T5,Sm];rw[e2];rfl
 rw[Sb h3]at e;by_cases h4:h.text=Ky
 ·rw[SI h4]at e;obtain⟨q,k1,k2⟩:=G _ _ e _ (.block (jD hd.1 am) (jJ c h));cases hc:h.cond.at' c with
  |false=>
   rw[fI hc]at k1 |-;have:=PV.noneBlock k1;subst this;exact⟨triv,PV.step0 fun r=>rfl,k2⟩
  |true=>
   rw[dQ hc]at k1 |-;rw[hX]at h1 h2 h3 h4;exact⟨q,k1.step1 fun r hr=>by simp only[aN,lG];rw[Sb h1,Sb h2,Sb h3,SI h4];exact hr,k2⟩
 rw[Sb h4]at e;by_cases h5:h.text=lh
 ·rw[SI h5]at e;obtain⟨s1,s2,s3,s4⟩:=gp ac ao aa (isX ts bl) (kL bl);generalize ak:aC ts (bh h) (bj bl)=sp at e s1 s2 s3 s4;obtain⟨fin,g⟩:=sp;simp only[T5,T6]at e;obtain⟨a,ha,l1,aj,e⟩:=e;have:=bg aj;subst this;simp only at s1 s2 s3 s4;obtain⟨q1,k1,r1⟩:=G _ _ ha _ (.line s2 s4);have jf:bG (fin.foldl joinH a.f):=eK r1.fok s1.conds;have an:q1.p=none\/(((hI c h).map (·+1)).map (nx c ts)).filter (isX ts bl)=none:=by
   rcases fS (((hI c h).map (·+1)).map (nx c ts)) (isX ts bl)with h|h
   ·exact .inr h
   ·rw[h]at k1;have:=PV.noneLine k1;subst this;exact .inl rfl
  have ja:=At.joinH r1.fok s1.conds r1.f s3 an;obtain⟨t1,t2,t3,t4⟩:=rN ac jf ja bl;generalize ak:Syn.take ts (fin.foldl joinH a.f) bl=sp at e t1 t2 t3 t4;obtain⟨f2,e2⟩:=sp;simp only[Sc]at e;subst e;have R:RR c ⟨give [ix 10 h 0] a.l,f2,a.e++e2⟩ ⟨give (je 10 (hI c h) 0) q1.l,(cX ts c (q1.p.or ((((hI c h).map (·+1)).map (nx c ts)).filter (isX ts bl))) bl).1,q1.e++(cX ts c (q1.p.or ((((hI c h).map (·+1)).map (nx c ts)).filter (isX ts bl))) bl).2⟩:=
   ⟨t1,di (rx hd.1 10 0) r1.lok,bP.2 ⟨r1.eok,t2⟩,by rw[eu,rm,r1.l],t3,by rw[bW,r1.e,t4]⟩
  cases hc:h.cond.at' c with
  |false=>
   rw[fI hc]at k1 R |-;have:=PV.noneLine k1;subst this;exact⟨triv,PV.step0 fun r=>rfl,R⟩
  |true=>
   rw[dQ hc]at k1 R |-;rw[hX]at h1 h2 h3 h4 h5;refine⟨_,k1.step1 fun r e1=>?_,R⟩;simp only[aN,lG];rw[Sb h1,Sb h2,Sb h3,Sb h4,SI h5];simp only[jS];simp only[So]at e1 |-;rw[e1];rfl
 rw[Sb h5]at e;by_cases h6:h.text=n8\/h.text=fe
 ·rw[SI h6]at e;simp only[T5,T6]at e;obtain⟨a,ha,l1,aj,e⟩:=e;have:=bg aj;subst this;obtain⟨q1,k1,r1⟩:=G _ _ ha _ (.line ao aa);have ht:=RR.take (rec:=rec) ac r1 bl;generalize ak:Syn.take ts a.f bl=sp at e ht;obtain⟨f2,e2⟩:=sp;simp only[Sc]at e;subst e;have R:∀kd,RR c ⟨give [ix kd h 0] a.l,f2,a.e++e2⟩ ⟨give (je kd (hI c h) 0) q1.l,(cX ts c q1.p bl).1,q1.e++(cX ts c q1.p bl).2⟩:=fun kd=>
   ⟨ht.fok,di (rx hd.1 kd 0) r1.lok,ht.eok,by rw[eu,rm,r1.l],ht.f,ht.e⟩
  have R:=R (if h.text=fe then 12 else 11);cases hc:h.cond.at' c with
  |false=>
   rw[fI hc]at k1 R |-;have:=PV.noneLine k1;subst this;exact⟨triv,PV.step0 fun r=>rfl,R⟩
  |true=>
   rw[dQ hc]at k1 R |-;rw[hX]at h1 h2 h3 h4 h5 h6 R;rw[hX];refine⟨_,k1.step1 fun r e1=>?_,R⟩;simp only[aN,lG];rw[Sb h1,Sb h2,Sb h3,Sb h4,Sb h5,SI h6];simp only[So]at e1;rw[e1];rfl
 rw[Sb h6]at e;have hn:=kf ac (jD hd.1 am) (jJ c h) 7 0;have aS:(named ts (bA h) 7 0).l.tail=[]:=by rw[rV ac hd am];split<;>rfl
 dsimp only at e;by_cases h7:(named ts (bA h) 7 0).l=[]
 ·rw[SI h7]at e;cases e
  have hp:(bC ts c (hI c h) 7 0).l=[]:=by rw[<-hn.l,h7];rfl
  have ap:(bC ts c (hI c h) 7 0).p=none:=by
   unfold bC at hp |-;generalize (hI c h).map (nx c ts)=w at hp |-;cases w with
   |none=>rfl
   |some i=>
    by_cases hh:K ts i≠1\/dz (X ts i)=true
    ·simp only[SI hh]
    ·simp only[Sb hh]at hp;cases hp
  have R:RR c ⟨[],[],(named ts (bA h) 7 0).e⟩ ⟨[],none,(bC ts c (hI c h) 7 0).e⟩:=⟨bG.nil,trivial,hn.eok,rfl,rfl,hn.e⟩;cases hc:h.cond.at' c with
  |false=>
   rw[fI hc]at R |-;exact⟨triv,PV.step0 fun r=>rfl,R⟩
  |true=>
   rw[dQ hc]at R hp ap |-;rw[hX]at h1 h2 h3 h4 h5 h6;have a2:∀(n:Nat),(∀r:o3,True):=fun _ _=>trivial;refine⟨⟨[],none,(bC ts c (some h.at') 7 0).e⟩,?_,R⟩;have z1:PV c ts (.line 0 o none 0) triv:=by
    have z6:PV c ts (.unary o none 0) triv:=(PV.step0 fun r=>rfl:PV c ts (.unaryH o none 0) triv).step1 fun r hr=>by simp only[aN,pB];exact hr
    have zk:∀k,k<=5->PV c ts (.line (5-k) o none 0) triv:=by
     intro k
     induction k with
     |zero=>intro _;exact z6.step1 fun r hr=>by simp only[aN,pd,SI];exact hr
     |succ k ih=>
      intro hk;have ih:=ih Vi;have e5:5-(k+1)+1=5-k:=by omega
      have zl:PV c ts (.lineL (5-(k+1)) o 0 true [] none none) triv:=PV.step0 fun r=>rfl;exact ih.step2 zl fun r r1 r2=>by
       simp only[aN,pd];rw[Sb Vi,e5,r1];simp only[triv]at r2 |-;simp only[T5,Sm];rw[r2];rfl
    exact zk 5 Vi
   have z2:PV c ts (.sCalls o (some h.at') none [] none) ⟨[],none,[]⟩:=PV.step0 fun r=>rfl;refine z1.step2 z2 fun r r1 r2=>?_;simp only[aN,lG];rw[Sb h1,Sb h2,Sb h3,Sb h4,Sb h5,Sb h6];simp only[hp,ap,pIf,Ss,Option.filter_none,n6,r1,T5,Sm];simp only[triv,give,List.map_nil,r2,Sm,n6];simp
 rw[Sb h7]at e;obtain⟨s1,s2,s3,s4⟩:=gp ac hn.fok hn.f (isX ts hZ) (kL hZ);generalize ak:aC ts (named ts (bA h) 7 0).f (bj hZ)=sp at e s1 s2 s3 s4;obtain⟨xs,g⟩:=sp;simp only at s1 s2 s3 s4 e;obtain⟨t1,t2,t3,t4⟩:=rN ac s2 s4 zJ;generalize ak:Syn.take ts g zJ=sp at e t1 t2 t3 t4;obtain⟨g1,e1⟩:=sp;simp only[T5,T6]at e t1 t2 t3 t4;obtain⟨b,hb,l1,aj,d,a1,e⟩:=e;have:=bg aj;subst this;obtain⟨q1,k1,r1⟩:=G _ _ hb _ (.line t1 t3);have an:(((bC ts c (hI c h) 7 0).p.map (nx c ts)).filter (isX ts hZ))=none\/q1.p=none/\hI c h≠none/\pL c (give (named ts (bA h) 7 0).l b.l).tail=[]/\give (named ts (bA h) 7 0).l b.l≠[]:=by
  rcases fS ((bC ts c (hI c h) 7 0).p.map (nx c ts)) (isX ts hZ)with h8|h8
  ·exact .inl h8
  ·cases hy:(((bC ts c (hI c h) 7 0).p.map (nx c ts)).filter (isX ts hZ))with
   |none=>exact .inl rfl
   |some j=>
    refine .inr ⟨?_,fun hi=>?_,?_,?_⟩
    ·rw[h8]at k1;simp only[n6]at k1;have:=PV.noneLine k1;subst this;rfl
    ·rw[hi]at hy;simp[bC]at hy
    ·have:(give (named ts (bA h) 7 0).l b.l).tail=[]:=by
      unfold give;rw[<-List.map_tail,aS];rfl
     rw[this];rfl
    ·unfold give;simpa using h7
 obtain⟨q2,k2,r2⟩:=G _ _ a1 _ (.sCalls hd rfl s1 s3 (di hn.lok r1.lok) (by rw[eu,hn.l,r1.l]) r1.fok r1.f an);obtain⟨u1,u2,u3,u4⟩:=rN ac r2.fok r2.f bl;generalize ak:Syn.take ts d.f bl=sp at e u1 u2 u3 u4;obtain⟨f2,e2⟩:=sp;simp only[Sc]at e;subst e;have R:RR c ⟨d.l,f2,(named ts (bA h) 7 0).e++e1++b.e++d.e++e2⟩ ⟨q2.l,(cX ts c q2.p bl).1,(bC ts c (hI c h) 7 0).e++(cX ts c (((bC ts c (hI c h) 7 0).p.map (nx c ts)).filter fun i=>!isX ts hZ i) zJ).2++q1.e++q2.e++(cX ts c q2.p bl).2⟩:=
  ⟨u1,r2.lok,bP.2 ⟨bP.2 ⟨bP.2 ⟨bP.2 ⟨hn.eok,t2⟩,r1.eok⟩,r2.eok⟩,u2⟩,r2.l,u3,by rw[bW,bW,bW,bW,hn.e,t4,r1.e,r2.e,u4]⟩
 cases hc:h.cond.at' c with
 |false=>
  rw[fI hc]at k1 k2 R |-;have:=PV.noneLine k1;subst this;have:q2=triv:=k2.det (PV.step0 fun r=>rfl);subst this;exact⟨triv,PV.step0 fun r=>rfl,R⟩
 |true=>
  rw[dQ hc]at k1 k2 R |-;rw[hX]at h1 h2 h3 h4 h5 h6;refine⟨_,k1.step2 k2 fun r z1 z2=>?_,R⟩;simp only[aN,lG];rw[Sb h1,Sb h2,Sb h3,Sb h4,Sb h5,Sb h6];simp only[jS,z1,T5,Sm];rw[z2];rfl
theorem x4(aa:bu ts):∀n,Good c ts (run ts n)
 |0=>fun x r e=>by cases e
 |n+1=>fun x r e y hr=>by
  have G:=x4 aa n;have e:step ts (run ts n) x=some r:=e;cases hr with
  |line h1 h2=>exact DF aa G e h1 h2
  |lineL h1 h2 h3 h4 h5 h6 h7=>exact Ah aa G e h1 h2 h3 h4 h5 h6 h7
  |lineO h1 h2 h3 h4 h5 h6 h7=>exact AE aa G e h1 h2 h3 h4 h5 h6 h7
  |unary h1 h2=>exact zV aa G e h1 h2
  |unaryH h1 h2 h3=>subst h3;exact xT aa G e h1 h2
  |calls h1 h3 h4 h5 h6 h7 h8 h9 ac=>subst h3;exact Ac aa G e h1 h4 h5 h6 h7 h8 h9 ac
  |inside h1 h2=>exact yC aa G e h1 h2
  |listed h1 h2=>exact zF aa G e h1 h2
  |listL h1 h2 h3 h4 h5 h6 h7=>exact zX aa G e h1 h2 h3 h4 h5 h6 h7
  |item h1 h2=>exact CV aa G e h1 h2
  |behind h1 h2=>exact yQ aa G e h1 h2
  |vrb h1 h2=>exact ur aa G e h1 h2
  |function h1 h2=>exact uC aa G e h1 h2
  |block h1 h2=>exact Ad aa G e h1 h2
  |seqL h1 h2 h3 h4 h5 h6 h7=>exact Dc aa G e h1 h2 h3 h4 h5 h6 h7
  |stmt h1 h2 h3=>subst h3;exact DY aa G e h1 h2
  |sCalls h1 h3 h4 h5 h6 h7 h8 h9 ac=>subst h3;exact zi aa G e h1 h4 h5 h6 h7 h8 h9 ac
  |branch h1 h2 h3=>subst h3;exact xX aa G e h1 h2
  |elses h1 h2 h3 h4 h5 h6 h7=>exact Be aa G e h1 h2 h3 h4 h5 h6 h7
  |ifs h1 h2 h3 h4 h5 h6 h7=>exact F4 aa G e h1 h2 h3 h4 h5 h6 h7
end
open Dg
structure SO{K:Type}(lt:K->K->Bool):Prop where
 irr:∀a,lt a a=false
 tr:∀a b c,lt a b=true->lt b c=true->lt a c=true
 tri:∀a b,lt a b=false->lt b a=false->a=b
section
variable {K:Type} {lt:K->K->Bool}
def qT(lt:K->K->Bool)(k:K):List K->List K
 | []=>[k]
 |x::l=>if lt k x then k::x::l else if lt x k then x::qT lt k l else x::l
def lM(lt:K->K->Bool)(l:List K):List K:=l.foldr (qT lt) []
theorem sO(so:SO lt){k x:K}:∀{l:List K},x∈qT lt k l<->x=k\/x∈l
 | []=>by simp[qT]
 |y::l=>by
  simp only[qT];split
  ·simp
  ·split
   ·rw[Su,sO so,Su];constructor
    ·rintro(h|h|h)
     ·exact .inr (.inl h)
     ·exact .inl h
     ·exact .inr (.inr h)
    ·rintro(h|h|h)
     ·exact .inr (.inl h)
     ·exact .inl h
     ·exact .inr (.inr h)
   ·rename_i h1 h2;have:=so.tri k y (by simpa using h1) (by simpa using h2);subst this;simp
theorem qp(so:SO lt){k:K}:∀{l:List K},l.Pairwise (fun a b=>lt a b=true)->(qT lt k l).Pairwise (fun a b=>lt a b=true)
 | [],_=>by simp[qT]
 |y::l,h=>by
  rw[Sv]at h;simp only[qT];split
  ·rename_i h1;refine List.pairwise_cons.2 ⟨fun z hz=>?_,List.pairwise_cons.2 h⟩;rcases List.mem_cons.1 hz with e|e
   ·subst e;exact h1
   ·exact so.tr _ _ _ h1 (h.1 z e)
  ·split
   ·rename_i h1 h2;refine List.pairwise_cons.2 ⟨fun z hz=>?_,qp so h.2⟩;rcases(sO so).1 hz with e|e
    ·subst e;exact h2
    ·exact h.1 z e
   ·exact List.pairwise_cons.2 h
theorem j4(so:SO lt){x:K}:∀{l:List K},x∈lM lt l<->x∈l
 | []=>Iff.rfl
 |y::l=>by
  show x∈qT lt y (lM lt l)<->_;rw[sO so,j4 so,Su]
theorem eE(so:SO lt):∀(l:List K),(lM lt l).Pairwise (fun a b=>lt a b=true)
 | []=>List.Pairwise.nil
 |_::l=>qp so (eE so l)
theorem kF(so:SO lt):∀{l m:List K},l.Pairwise (fun a b=>lt a b=true)->m.Pairwise (fun a b=>lt a b=true)->(∀x,x∈l<->x∈m)->l=m
 | [],[],_,_,_=>rfl
 | [],y::m,_,_,h=>absurd ((h y).2 (.head _)) SW
 |x::l,[],_,_,h=>absurd ((h x).1 (.head _)) SW
 |x::l,y::m,h1,h2,h=>by
  rw[Sv]at h1 h2;have e:x=y:=by
   rcases List.mem_cons.1 ((h x).1 (.head _))with e|e
   ·exact e
   ·rcases List.mem_cons.1 ((h y).2 (.head _))with e2|e2
    ·exact e2.symm
    ·have:=so.tr _ _ _ (h1.1 y e2) (h2.1 x e);rw[so.irr]at this;cases this
  subst e;congr 1;refine kF so h1.2 h2.2 fun z=>?_;constructor
  ·intro hz;rcases List.mem_cons.1 ((h z).1 (.tail _ hz))with e|e
   ·subst e;have:=h1.1 z hz;rw[so.irr]at this;cases this
   ·exact e
  ·intro hz;rcases List.mem_cons.1 ((h z).2 (.tail _ hz))with e|e
   ·subst e;have:=h2.1 z hz;rw[so.irr]at this;cases this
   ·exact e
end
structure nL where
 slot:Int
 tok:Int
 kind:Nat
 text:bM
deriving DecidableEq
def Nd.key(n:Nd):nL:=⟨n.slot,n.tok,n.kind,n.text⟩
def vj:bM->bM->Bool
 |_,[]=>false
 | [],_::_=>true
 |a::l,b::m=>if a.toNat<b.toNat then true else if b.toNat<a.toNat then false else vj l m
theorem tp:SO vj where
 irr:=by
  intro a
  induction a with
  |nil=>rfl
  |cons x a ih=>simp[vj,ih]
 tr:=by
  intro a
  induction a with
  |nil=>
   intro b c h1 h2;cases c with
   |nil=>cases b<;>simp[vj]at h2
   |cons z c=>rfl
  |cons x a ih=>
   intro b c h1 h2;cases b with
   |nil=>simp[vj]at h1
   |cons y b=>
    cases c with
    |nil=>simp[vj]at h2
    |cons z c=>
     simp only[vj]at h1 h2 |-;by_cases e1:x.toNat<y.toNat
     ·by_cases e2:y.toNat<z.toNat
      ·rw[SI Vi]
      ·rw[Sb e2]at h2;by_cases e3:z.toNat<y.toNat
       ·rw[SI e3]at h2;cases h2
       ·rw[SI Vi]
     ·rw[Sb e1]at h1;by_cases e4:y.toNat<x.toNat
      ·rw[SI e4]at h1;cases h1
      ·rw[Sb e4]at h1;by_cases e2:y.toNat<z.toNat
       ·rw[SI Vi]
       ·rw[Sb e2]at h2;by_cases e3:z.toNat<y.toNat
        ·rw[SI e3]at h2;cases h2
        ·rw[Sb e3]at h2;rw[Sb Vi,Sb Vi];exact ih b c h1 h2
 tri:=by
  intro a
  induction a with
  |nil=>
   intro b h1 h2;cases b with
   |nil=>rfl
   |cons y b=>simp[vj]at h1
  |cons x a ih=>
   intro b h1 h2;cases b with
   |nil=>simp[vj]at h2
   |cons y b=>
    simp only[vj]at h1 h2;by_cases e1:x.toNat<y.toNat
    ·rw[SI e1]at h1;cases h1
    ·by_cases e2:y.toNat<x.toNat
     ·rw[SI e2]at h2;cases h2
     ·rw[Sb e1,Sb e2]at h1;rw[Sb e2,Sb e1]at h2;have:x=y:=UInt8.toNat_inj.1 Vi;rw[this,ih b h1 h2]
def E4(a b:nL):Bool:=
 if a.slot<b.slot then true else if b.slot<a.slot then false else
 if a.tok<b.tok then true else if b.tok<a.tok then false else
 if a.kind<b.kind then true else if b.kind<a.kind then false else vj a.text b.text
theorem jN:SO E4 where
 irr:=by intro a;simp[E4,tp.irr]
 tr:=by
  intro a b c;unfold E4;have ht:=tp.tr a.text b.text c.text;intro h1 h2;by_cases s:a.slot<c.slot
  ·rw[SI s]
  ·rw[Sb s];by_cases a1:a.slot<b.slot
   ·by_cases a2:b.slot<c.slot
    ·omega
    ·rw[Sb a2,SI (show c.slot<b.slot by omega)]at h2;cases h2
   ·rw[Sb a1]at h1;by_cases a2:b.slot<a.slot
    ·rw[SI a2]at h1;cases h1
    ·rw[Sb a2]at h1;by_cases a3:b.slot<c.slot
     ·omega
     ·rw[Sb a3]at h2;by_cases a4:c.slot<b.slot
      ·rw[SI a4]at h2;cases h2
      ·rw[Sb a4]at h2;rw[Sb (show ¬c.slot<a.slot by omega)];by_cases t:a.tok<c.tok
       ·rw[SI t]
       ·rw[Sb t];by_cases b1:a.tok<b.tok
        ·by_cases b2:b.tok<c.tok
         ·omega
         ·rw[Sb b2,SI (show c.tok<b.tok by omega)]at h2;cases h2
        ·rw[Sb b1]at h1;by_cases b2:b.tok<a.tok
         ·rw[SI b2]at h1;cases h1
         ·rw[Sb b2]at h1;by_cases b3:b.tok<c.tok
          ·omega
          ·rw[Sb b3]at h2;by_cases b4:c.tok<b.tok
           ·rw[SI b4]at h2;cases h2
           ·rw[Sb b4]at h2;rw[Sb (show ¬c.tok<a.tok by omega)];by_cases k:a.kind<c.kind
            ·rw[SI k]
            ·rw[Sb k];by_cases c1:a.kind<b.kind
             ·by_cases c2:b.kind<c.kind
              ·omega
              ·rw[Sb c2,SI (show c.kind<b.kind by omega)]at h2;cases h2
             ·rw[Sb c1]at h1;by_cases c2:b.kind<a.kind
              ·rw[SI c2]at h1;cases h1
              ·rw[Sb c2]at h1;by_cases c3:b.kind<c.kind
               ·omega
               ·rw[Sb c3]at h2;by_cases c4:c.kind<b.kind
                ·rw[SI c4]at h2;cases h2
                ·rw[Sb c4]at h2;rw[Sb (show ¬c.kind<a.kind by omega)];exact ht h1 h2
 tri:=by
  intro a b h1 h2;unfold E4 at h1 h2;have s:a.slot=b.slot:=by
   rcases Int.lt_trichotomy a.slot b.slot with h|h|h
   ·rw[SI h]at h1;cases h1
   ·exact h
   ·rw[SI h]at h2;cases h2
  rw[Sb Vi,Sb Vi]at h1 h2;have t:a.tok=b.tok:=by
   rcases Int.lt_trichotomy a.tok b.tok with h|h|h
   ·rw[SI h]at h1;cases h1
   ·exact h
   ·rw[SI h]at h2;cases h2
  rw[Sb Vi,Sb Vi]at h1 h2;have k:a.kind=b.kind:=by
   rcases SD a.kind b.kind with h|h|h
   ·rw[SI h]at h1;cases h1
   ·exact h
   ·rw[SI h]at h2;cases h2
  rw[Sb Vi,Sb Vi]at h1 h2;have x:=tp.tri _ _ h1 h2;cases a;cases b;simp_all
def tS(a b:Int×Nat):Bool:=if a.1<b.1 then true else if b.1<a.1 then false else decide (a.2<b.2)
theorem gQ:SO tS where
 irr:=by intro a;simp[tS]
 tr:=by
  intro a b c;unfold tS;intro h1 h2;by_cases s:a.1<c.1
  ·rw[SI s]
  ·rw[Sb s];by_cases a1:a.1<b.1
   ·rw[Sb (show ¬b.1<c.1 by omega),SI (show c.1<b.1 by omega)]at h2;cases h2
   ·rw[Sb a1]at h1;by_cases a2:b.1<a.1
    ·rw[SI a2]at h1;cases h1
    ·rw[Sb a2]at h1;rw[Sb (show ¬b.1<c.1 by omega)]at h2;by_cases a4:c.1<b.1
     ·rw[SI a4]at h2;cases h2
     ·rw[Sb a4]at h2;rw[Sb (show ¬c.1<a.1 by omega)];simp only[SX]at *;omega
 tri:=by
  intro a b h1 h2;unfold tS at h1 h2;have s:a.1=b.1:=by
   rcases Int.lt_trichotomy a.1 b.1 with h|h|h
   ·rw[SI h]at h1;cases h1
   ·exact h
   ·rw[SI h]at h2;cases h2
  rw[Sb Vi,Sb Vi]at h1 h2;simp only[TK]at h1 h2;exact Prod.ext s Vi
def eY(k:nL)(n:Nd):Bool:=decide (n.key=k) && decide (n.cond≠ff)
def ks(l:List Nd):List nL:=lM E4 ((l.filter fun n=>decide (n.cond≠ff)).map Nd.key)
def cF(l:List Nd)(k:nL):List Nd:=(l.filter (eY k)).flatMap (·.kids)
def gH(l:List Nd)(k:nL):T:=(l.filter (eY k)).foldl (fun d n=>d.or n.cond) ff
def kH:Nat->List Nd->List Nd
 |0,_=>[]
 |d+1,l=>(ks l).map fun k=>⟨k.kind,k.text,k.tok,k.slot,kH d (cF l k),gH l k⟩
mutual
def Aq:Nd->Nat
 |⟨_,_,_,_,ks,_⟩=>eX ks+1
def eX:List Nd->Nat
 | []=>0
 |n::l=>max (Aq n) (eX l)
end
theorem wi(n:Nd):Aq n=eX n.kids+1:=by cases n;rfl
theorem o4{n:Nd}:∀{l:List Nd},n∈l->Aq n<=eX l
 | [],h=>(SW h).elim
 |m::l,h=>by
  simp only[eX];rcases List.mem_cons.1 h with e|e
  ·subst e;omega
  ·have:=o4 e;omega
theorem BI{b:Nat}:∀{l:List Nd},(∀n∈l,Aq n<=b)->eX l<=b
 | [],_=>S6 _
 |m::l,h=>by
  have h1:=h m (.head _);have h2:=BI fun n hn=>h n (.tail _ hn);simp only[eX];omega
theorem js{l:List Nd}{k:nL}{x:Nd}(h:x∈cF l k):∃n∈l,n.key=k/\n.cond≠ff/\x∈n.kids:=by
 obtain⟨n,hn,hx⟩:=List.mem_flatMap.1 h;obtain⟨h1,h2⟩:=List.mem_filter.1 hn;simp only[eY,SG,SX]at h2;exact⟨n,h1,h2.1,h2.2,hx⟩
theorem tT{l:List Nd}{k:nL}{d:Nat}(h:eX l<=d+1):eX (cF l k)<=d:=BI fun x hx=>by
 obtain⟨n,hn,_,_,hx⟩:=js hx;have h1:=o4 hn;rw[wi]at h1;have h2:=o4 hx;omega
theorem uq{l:List Nd}(h:eX l=0):l=[]:=by
 cases l with
 |nil=>rfl
 |cons n l=>simp only[eX,wi]at h;omega
theorem xD(d:Nat):kH d []=[]:=by cases d<;>rfl
theorem o8:∀{d e:Nat} {l:List Nd},eX l<=d->d<=e->kH e l=kH d l
 |0,e,l,h,_=>by rw[uq (Nat.le_zero.1 h),xD,xD]
 |d+1,0,l,h,h2=>by omega
 |d+1,e+1,l,h,h2=>by
  simp only[kH];refine SL fun k _=>?_;rw[o8 (tT h) Vi]
theorem s6{l:List Nd}{k:nL}:k∈ks l<->∃n∈l,n.key=k/\n.cond≠ff:=by
 unfold ks;rw[j4 jN];simp only[SZ,SY,SX];constructor
 ·rintro⟨n,⟨h1,h2⟩,h3⟩;exact⟨n,h1,h3,h2⟩
 ·rintro⟨n,h1,h3,h2⟩;exact⟨n,⟨h1,h2⟩,h3⟩
def Qw(a b:T):Prop:=∀c,a.at' c=true->b.at' c=true
mutual
def wN:Nd->Prop
 |⟨_,_,_,_,ks,d⟩=>wL d ks
def wL:T->List Nd->Prop
 |_,[]=>True
 |d,n::l=>(Qw n.cond d/\wN n)/\wL d l
end
theorem AR{d:T}{l:List Nd}:wL d l<->∀n∈l,Qw n.cond d/\wN n:=by
 induction l with
 |nil=>simp[wL]
 |cons n l ih=>simp[wL,ih]
theorem KR(n:Nd):wN n<->wL n.cond n.kids:=by cases n;rfl
theorem rY{c:cg}:∀{l:List Nd} {z:T},z.ok 0->(∀n∈l,n.cond.ok 0)->(l.foldl (fun d n=>d.or n.cond) z).ok 0/\(l.foldl (fun d n=>d.or n.cond) z).at' c=(z.at' c || l.any fun n=>n.cond.at' c)
 | [],z,hz,_=>⟨hz,by simp⟩
 |n::l,z,hz,h=>by
  have hn:=h n (.head _);have:=rY (c:=c) (l:=l) (z:=z.or n.cond) (T.or_ok hz hn) fun m hm=>h m (.tail _ hm);refine⟨this.1,?_⟩;simp only[Sj,List.any_cons];rw[this.2,T.or_at hz hn,Bool.or_assoc]
theorem Vn{l:List Nd}{k:nL}(h:fX l):(gH l k).ok 0:=(rY (c:=fun _=>false) (z:=ff) trivial fun n hn=>(eC.1 (fD.1 h n (List.mem_filter.1 hn).1)).1).1
theorem vC{l:List Nd}{k:nL}{c:cg}(h:fX l):(gH l k).at' c=true<->∃n∈l,n.key=k/\n.cond.at' c=true:=by
 have h1:=(rY (c:=c) (l:=l.filter (eY k)) (z:=ff) trivial fun n hn=>(eC.1 (fD.1 h n (List.mem_filter.1 hn).1)).1).2;unfold gH;rw[h1,xz,TS,List.any_eq_true];simp only[SY,eY,SG,SX];constructor
 ·rintro⟨n,⟨h1,h2,_⟩,h3⟩;exact⟨n,h1,h2,h3⟩
 ·rintro⟨n,h1,h2,h3⟩;exact⟨n,⟨h1,h2,fun e=>by rw[e]at h3;cases h3⟩,h3⟩
theorem qg{c:cg}{m:Nd}:∀{l:List Nd},m∈pL c l<->∃n∈l,n.cond.at' c=true/\m={ n with kids:=pL c n.kids,cond:=tt }
 | []=>by simp[pL]
 |n::l=>by
  rw[bV];split
  ·rename_i h;simp only[Su,qg (l:=l)];constructor
   ·rintro(e|⟨x,h1,h2,h3⟩)
    ·exact⟨n,.inl rfl,h,e⟩
    ·exact⟨x,.inr h1,h2,h3⟩
   ·rintro⟨x,e|h1,h2,h3⟩
    ·subst e;exact .inl h3
    ·exact .inr ⟨x,h1,h2,h3⟩
  ·rename_i h;simp only[qg (l:=l),Su];constructor
   ·rintro⟨x,h1,h2,h3⟩;exact⟨x,.inr h1,h2,h3⟩
   ·rintro⟨x,e|h1,h2,h3⟩
    ·subst e;exact absurd h2 h
    ·exact⟨x,h1,h2,h3⟩
theorem EK:tt≠ff:=by decide
theorem wJ{c:cg}:∀{l:List Nd},(∀n∈l,n.cond.at' c=false)->pL c l=[]
 | [],_=>rfl
 |n::l,h=>by
  rw[bV,h n (.head _),Sb Vm,wJ fun m hm=>h m (.tail _ hm)]
theorem Ed{c:cg}{l:List Nd}{k:nL}(hw:∀n∈l,wN n):pL c (cF l k)=cF (pL c l) k:=by
 unfold cF
 induction l with
 |nil=>rfl
 |cons n l ih=>
  have hn:=(KR n).1 (hw n (.head _));have h2:=ih fun m hm=>hw m (.tail _ hm);rw[bV];by_cases hc:n.cond.at' c=true
  ·rw[SI hc];have aa:n.cond≠ff:=fun e=>by rw[e]at hc;cases hc
   by_cases hk:n.key=k
   ·have e1:eY k n=true:=by simp[eY,hk,aa]
    have e2:eY k { n with kids:=pL c n.kids,cond:=tt }=true:=by
     have:Nd.key { n with kids:=pL c n.kids,cond:=tt }=n.key:=rfl;simp[eY,this,hk,EK]
    rw[List.filter_cons_of_pos e1,List.filter_cons_of_pos e2,TB,TB,dO,h2]
   ·have e1:¬eY k n=true:=by simp[eY,hk]
    have e2:¬eY k { n with kids:=pL c n.kids,cond:=tt }=true:=by
     have:Nd.key { n with kids:=pL c n.kids,cond:=tt }=n.key:=rfl;simp[eY,this,hk]
    rw[List.filter_cons_of_neg e1,List.filter_cons_of_neg e2,h2]
  ·rw[Sb hc];by_cases e1:eY k n=true
   ·rw[List.filter_cons_of_pos e1,TB,dO,h2,wJ,SU];intro m hm;cases e:m.cond.at' c with
    |false=>rfl
    |true=>exact absurd ((AR.1 hn m hm).1 c e) hc
   ·rw[List.filter_cons_of_neg e1,h2]
theorem qC{K:Type}{R:K->K->Prop}{p:K->Bool}{l:List K}(h:l.Pairwise R):(l.filter p).Pairwise R:=h.sublist List.filter_sublist
theorem KV{c:cg}{l:List Nd}(ho:fX l):(ks l).filter (fun k=>(gH l k).at' c)=ks (pL c l):=by
 refine kF jN (qC (eE jN _)) (eE jN _) fun k=>?_;rw[SY,vC ho,s6,s6];constructor
 ·rintro⟨_,n,h1,h2,h3⟩;exact⟨_,qg.2 ⟨n,h1,h3,rfl⟩,h2,EK⟩
 ·rintro⟨m,h1,h2,h3⟩;obtain⟨n,h4,h5,e⟩:=qg.1 h1;have h6:n.key=k:=by rw[<-h2,e];rfl
  exact⟨⟨n,h4,h6,fun e=>by rw[e]at h5;cases h5⟩,n,h4,h6,h5⟩
theorem nZ{l:List Nd}{k:nL}(h:fX l):fX (cF l k):=fD.2 fun x hx=>by
 obtain⟨n,hn,_,_,hx⟩:=js hx;exact fD.1 (eC.1 (fD.1 h n hn)).2 x hx
theorem Ea{l:List Nd}{k:nL}{c:cg}(ho:fX l)(h:(gH l k).at' c=true):gH (pL c l) k=tt:=by
 have key:∀(m:List Nd),(∀n∈m,n.cond=tt)->∀z:T,(z=tt\/m≠[])->(z=tt\/z=ff)->m.foldl (fun d n=>d.or n.cond) z=tt:=by
  intro m
  induction m with
  |nil=>intro _ z h _;exact h.resolve_right fun h=>h rfl
  |cons n m ih=>
   intro hm z _ hz;simp only[Sj];have e:z.or n.cond=tt:=by rw[hm n (.head _)];rcases hz with e|e<;>subst e<;>rfl
   exact ih (fun x hx=>hm x (.tail _ hx)) _ (.inl e) (.inl e)
 obtain⟨n,h1,h2,h3⟩:=(vC ho).1 h;refine key _ (fun m hm=>?_) ff (.inr fun e=>?_) (.inr rfl)
 ·obtain⟨x,_,_,e⟩:=qg.1 (List.mem_filter.1 hm).1;rw[e]
 ·have:({ n with kids:=pL c n.kids,cond:=tt }:Nd)∈(pL c l).filter (eY k):=List.mem_filter.2 ⟨qg.2 ⟨n,h1,h3,rfl⟩,by
   have:Nd.key { n with kids:=pL c n.kids,cond:=tt }=n.key:=rfl;simp[eY,this,h2,EK]⟩
  rw[e]at this;exact SW this
theorem GP{α:Type}{c:cg}{g:α->Nd}:∀(l:List α),pL c (l.map g)=(l.filter fun a=>(g a).cond.at' c).map fun a=>{ g a with kids:=pL c (g a).kids,cond:=tt }
 | []=>rfl
 |a::l=>by
  rw[Tf,bV,GP l,TU];split<;>rfl
theorem CR{l:List Nd}{k:nL}(h:∀n∈l,wN n):∀n∈cF l k,wN n:=fun x hx=>by
 obtain⟨n,hn,_,_,hx⟩:=js hx;exact(AR.1 ((KR n).1 (h n hn)) x hx).2
theorem Bp(c:cg):∀(d:Nat) {l:List Nd},fX l->(∀n∈l,wN n)->pL c (kH d l)=kH d (pL c l)
 |0,_,_,_=>rfl
 |d+1,l,ho,hw=>by
  simp only[kH];rw[GP,KV ho];refine SL fun k hk=>?_;rw[<-KV ho,SY]at hk;rw[Ea ho hk.2];show (⟨k.kind,k.text,k.tok,k.slot,pL c (kH d (cF l k)),tt⟩:Nd)=_;rw[Bp c d (nZ ho) (CR hw),Ed hw]
mutual
def ll(d:T):List Nd->List Nd
 | []=>[]
 |n::l=>match QR d n with
  |some m=>m::ll d l
  |none=>ll d l
def QR (d:T):Nd->Option Nd
 |⟨k,t,o,s,ks,c⟩=>if c.and d=ff then none else some ⟨k,t,o,s,ll (c.and d) ks,c.and d⟩
end
theorem lQ(d:T)(n:Nd)(l:List Nd):ll d (n::l)=if n.cond.and d=ff then ll d l else { n with kids:=ll (n.cond.and d) n.kids,cond:=n.cond.and d }::ll d l:=by
 cases n;simp only[ll,QR];split<;>rename_i h<;>split at h<;>simp_all
theorem ky:∀(l:List Nd) (d:T),d.ok 0->fX l->fX (ll d l)/\wL d (ll d l)/\(∀n∈ll d l,n.cond≠ff)/\∀c,pL c (ll d l)=if d.at' c then pL c l else []
 | [],d,hd,ho=>⟨trivial,trivial,fun n h=>(SW h).elim,fun c=>by simp[ll,pL]⟩
 |⟨k,t,o,s,ks,e⟩::l,d,hd,ho=>by
  have hn:=ho.1;have he:e.ok 0:=hn.1;have aa:(e.and d).ok 0:=T.and_ok he hd;obtain⟨a1,a2,a3,a4⟩:=ky l d hd ho.2;rw[lQ];show fX (if e.and d=ff then _ else _)/\_;by_cases hf:e.and d=ff
  ·rw[SI hf];refine⟨a1,a2,a3,fun c=>?_⟩;rw[a4,bV];split
   ·rename_i ac;have:(e.and d).at' c=false:=by rw[hf];rfl
    rw[T.and_at he hd,ac,TR]at this;show _=if e.at' c then _ else _
    rw[this];rfl
   ·rfl
  ·rw[Sb hf];obtain⟨b1,b2,b3,b4⟩:=ky ks (e.and d) aa hn.2;refine⟨⟨⟨aa,b1⟩,a1⟩,⟨⟨fun c hc=>?_,b2⟩,a2⟩,fun n hn=>?_,fun c=>?_⟩
   ·rw[T.and_at he hd,SG]at hc;exact hc.2
   ·rcases List.mem_cons.1 hn with x|x
    ·subst x;exact hf
    ·exact a3 n x
   ·rw[bV,bV,a4,b4];show (if (e.and d).at' c then _ else _)=if d.at' c then (if e.at' c then _ else _)else []
    rw[T.and_at he hd];cases ac:d.at' c<;>cases aj:e.at' c<;>simp
 termination_by l=>sizeOf l
def MT(e:List bX):List (Int×Nat):=lM tS ((e.filter fun d=>decide (d.cond≠ff)).map fun d=>(d.tok,d.code))
def Gc(k:Int×Nat)(d:bX):Bool:=decide ((d.tok,d.code)=k) && decide (d.cond≠ff)
def qM(e:List bX)(k:Int×Nat):T:=(e.filter (Gc k)).foldl (fun t d=>t.or d.cond) ff
def yA(e:List bX):List bX:=(MT e).map fun k=>⟨k.2,k.1,qM e k⟩
theorem rX{c:cg}:∀{l:List bX} {z:T},z.ok 0->(∀n∈l,n.cond.ok 0)->(l.foldl (fun t d=>t.or d.cond) z).ok 0/\(l.foldl (fun t d=>t.or d.cond) z).at' c=(z.at' c || l.any fun n=>n.cond.at' c)
 | [],z,hz,_=>⟨hz,by simp⟩
 |n::l,z,hz,h=>by
  have hn:=h n (.head _);have:=rX (c:=c) (l:=l) (z:=z.or n.cond) (T.or_ok hz hn) fun m hm=>h m (.tail _ hm);refine⟨this.1,?_⟩;simp only[Sj,List.any_cons];rw[this.2,T.or_at hz hn,Bool.or_assoc]
theorem Hf{e:List bX}{k:Int×Nat}(h:xQ e):(qM e k).ok 0:=(rX (c:=fun _=>false) (z:=ff) trivial fun n hn=>h n (List.mem_filter.1 hn).1).1
theorem xU{e:List bX}{k:Int×Nat}{c:cg}(h:xQ e):(qM e k).at' c=true<->∃d∈e,(d.tok,d.code)=k/\d.cond.at' c=true:=by
 have h1:=(rX (c:=c) (l:=e.filter (Gc k)) (z:=ff) trivial fun n hn=>h n (List.mem_filter.1 hn).1).2;unfold qM;rw[h1,xz,TS,List.any_eq_true];simp only[SY,Gc,SG,SX];constructor
 ·rintro⟨n,⟨h1,h2,_⟩,h3⟩;exact⟨n,h1,h2,h3⟩
 ·rintro⟨n,h1,h2,h3⟩;exact⟨n,⟨h1,h2,fun e=>by rw[e]at h3;cases h3⟩,h3⟩
def JP(c:cg)(e:List bX):List bX:=(e.filter fun d=>d.cond.at' c).map fun d=>{ d with cond:=tt }
theorem Fc(c:cg){e:List bX}(h:xQ e):JP c (yA e)=(lM tS ((pE c e).map fun x=>(x.2,x.1))).map fun k=>⟨k.2,k.1,tt⟩:=by
 unfold JP yA;rw[List.filter_map,SK];show ((MT e).filter fun k=>(qM e k).at' c).map (fun k=>(⟨k.2,k.1,tt⟩:bX))=_;congr 1;refine kF gQ (qC (eE gQ _)) (eE gQ _) fun k=>?_;rw[SY,xU h,j4 gQ];unfold MT;rw[j4 gQ];simp only[pE,SK,SZ,SY,SX,Function.comp];constructor
 ·rintro⟨_,d,h1,h2,h3⟩;exact⟨d,⟨h1,h3⟩,h2⟩
 ·rintro⟨d,⟨h1,h3⟩,h2⟩;exact⟨⟨d,⟨h1,fun e=>by rw[e]at h3;cases h3⟩,h2⟩,d,h1,h2,h3⟩
open Dg
structure Tr where
 kids:List Nd
 diags:List bX
def prj(c:cg)(t:Tr):Tr:=⟨pL c t.kids,JP c t.diags⟩
def lI(r:bE):List Nd:=[⟨1,[],-1,0,ll (fE r.f) r.l,fE r.f⟩]
def fR:Nat:=2^50
def Jk(ts:List Tok)(w:T)(t:Tr):Prop:=
 w=ff/\t=⟨[],[]⟩\/w≠ff/\∃r,run ts fR (.seqL true 0 [(0,w)] [] [])=some r/\t=⟨kH (eX (lI r)) (lI r),yA r.e⟩
theorem oP{c:cg}{f:ah}(hf:bG f):(fE f).ok 0/\(fE f).at' c=!(dC c f).isEmpty:=by
 have key:∀(f:ah) (z:T),(∀s∈f,s.2.ok 0)->z.ok 0->(f.foldl (fun d s=>d.or s.2) z).ok 0/\(f.foldl (fun d s=>d.or s.2) z).at' c=(z.at' c || !(dC c f).isEmpty):=by
  intro f
  induction f with
  |nil=>intro z _ hz;exact⟨hz,by simp[dC]⟩
  |cons s f ih=>
   intro z h hz;have hs:=h s (.head _);obtain⟨h1,h2⟩:=ih (z.or s.2) (fun t ht=>h t (.tail _ ht)) (T.or_ok hz hs);refine⟨h1,?_⟩;simp only[Sj];rw[h2,T.or_at hz hs,dG];cases z.at' c<;>cases s.2.at' c<;>simp
 obtain⟨h1,h2⟩:=key f ff (fun s hs=>(hf.1 s hs).1) trivial;exact⟨h1,by show (f.foldl _ ff).at' c=_;rw[h2];rfl⟩
theorem xu{r:bE}(hf:bG r.f)(hl:fX r.l):fX (lI r)/\∀n∈lI r,wN n:=by
 have h1:=(oP (c:=fun _=>false) hf).1;obtain⟨a1,a2,_,_⟩:=ky r.l _ h1 hl;refine⟨⟨⟨h1,a1⟩,trivial⟩,fun n hn=>?_⟩;simp only[lI,List.mem_singleton]at hn;subst hn;exact a2
theorem Bb{r:bE}{c:cg}{p:Option Nat}(hf:bG r.f)(hl:fX r.l)(hp:At c r.f p):pL c (lI r)=if p.isSome then [⟨1,[],-1,0,pL c r.l,tt⟩]else []:=by
 obtain⟨h1,h2⟩:=oP (c:=c) hf;unfold lI;rw[eJ];have e:(fE r.f).at' c=p.isSome:=by
  rw[h2,show dC c r.f=p.toList from hp];cases p<;>rfl
 show (if (fE r.f).at' c=true then _ else _)=_;rw[e,(ky r.l _ h1 hl).2.2.2 c,e];cases p<;>rfl
theorem zB{w:T}(hw:w.ok 0)(aa:w≠ff):bG [(0,w)]:=⟨fun s hs=>by simp at hs;subst hs;exact⟨hw,aa⟩,by simp⟩
theorem Ez(c:cg)(w:T):At c [(0,w)] (if w.at' c then some 0 else none):=At.one c 0 w
theorem gG{ts:List Tok}(aa:bu ts){w:T}(hw:w.ok 0)(ac:w≠ff){n:Nat}{r:bE}(e:run ts n (.seqL true 0 [(0,w)] [] [])=some r)(c:cg):
  ∃q,PV c ts (.seqL true 0 (if w.at' c then some 0 else none) [] none) q/\RR c r q:=
 x4 aa n _ _ e _ (.seqL (zB hw ac) (Ez c w) trivial rfl bG.nil (At.nil c) (.inr rfl))
theorem Av(c:cg):∀(l:List Nd),eX (pL c l)<=eX l
 | []=>R7 _
 |⟨k,t,o,s,ks,d⟩::l=>by
  have h1:=Av c ks;have h2:=Av c l;rw[bV];split
  ·simp only[eX,Aq];omega
  ·simp only[eX,Aq];omega
def uL(q:PR):Tr:=⟨kH (eX q.l+1) (if q.p.isSome then [⟨1,[],-1,0,q.l,tt⟩]else []),(lM tS (q.e.map fun x=>(x.2,x.1))).map fun k=>⟨k.2,k.1,tt⟩⟩
theorem u7{ts:List Tok}(aa:bu ts){w:T}(hw:w.ok 0){t:Tr}(h:Jk ts w t){c:cg}(hc:w.at' c=true):∃q,PV c ts (.seqL true 0 (some 0) [] none) q/\prj c t=uL q:=by
 rcases h with ⟨e,_⟩|⟨ac,r,er,et⟩
 ·rw[e]at hc;cases hc
 ·obtain⟨q,hq,R⟩:=gG aa hw ac er c;rw[hc]at hq;refine⟨q,hq,?_⟩;subst et;unfold prj uL;obtain⟨o1,o2⟩:=xu R.fok R.lok;have e1:pL c (kH (eX (lI r)) (lI r))=kH (eX q.l+1) (if q.p.isSome then [⟨1,[],-1,0,q.l,tt⟩]else []):=by
   rw[Bp c _ o1 o2];have hd:=Av c (lI r);rw[Bb R.fok R.lok R.f,R.l]at hd |-;generalize eX (lI r)=D at hd;rw[o8 (R7 _) hd];refine(o8 (R7 _) ?_).symm;split<;>simp[eX,Aq]
  have e2:JP c (yA r.e)=(lM tS (q.e.map fun x=>(x.2,x.1))).map fun k=>⟨k.2,k.1,tt⟩:=by
   rw[Fc c R.eok,R.e]
  show (⟨pL c (kH (eX (lI r)) (lI r)),JP c (yA r.e)⟩:Tr)=_;rw[e1,e2]
theorem BH{ts:List Tok}(aa:bu ts){w v:T}(hw:w.ok 0)(hv:v.ok 0){t u:Tr}(h:Jk ts w t)(k:Jk ts v u){c:cg}(hc:w.at' c=true)(hd:v.at' c=true):prj c t=prj c u:=by
 obtain⟨q,h1,h2⟩:=u7 aa hw h hc;obtain⟨s,k1,k2⟩:=u7 aa hv k hd;rw[h2,k2,h1.det k1]
theorem PV.noneSeq{c:cg}{ts:List Tok}{top:Bool}{o:Nat}{l:List Nd}{out:Option Nat}{q:PR}(h:PV c ts (.seqL top o none l out) q):q=⟨l,out,[]⟩:=by
 refine h.det (PV.step0 fun r=>?_);rfl
theorem IC{ts:List Tok}(aa:bu ts){w:T}(hw:w.ok 0){t:Tr}(h:Jk ts w t){c:cg}(hc:w.at' c=false):prj c t=⟨[],[]⟩:=by
 rcases h with ⟨_,e⟩|⟨ac,r,er,et⟩
 ·subst e;rfl
 ·obtain⟨q,hq,R⟩:=gG aa hw ac er c;rw[hc]at hq;have:=hq.noneSeq;subst this;subst et;obtain⟨o1,o2⟩:=xu R.fok R.lok;show (⟨pL c (kH (eX (lI r)) (lI r)),JP c (yA r.e)⟩:Tr)=_;rw[Bp c _ o1 o2,Bb R.fok R.lok R.f,Fc c R.eok,R.e];show (⟨kH _ [],_⟩:Tr)=_;rw[xD];rfl
theorem AA{ts:List Tok}{w:T}(hw:w.ok 0)(aa:w≠ff):jx ts (.seqL true 0 [(0,w)] [] []):=
 ⟨⟨zB hw aa,fun s hs=>by simp at hs;subst hs;exact S6 _⟩,FN.nil _⟩
theorem Ec{ts:List Tok}(w:T)(hl:ts.length<=16384):b8 ts (.seqL true 0 [(0,w)] [] [])<=aF:=by
 have h:=w.card_le;have:w.card*(ts.length+1)<=2^24*16385:=Nat.mul_le_mul h Vi;simp only[b8,eG,cQ,lp,S9,Nat.sub_zero];unfold aF;omega
theorem Gj{ts:List Tok}(w:T)(hl:ts.length<=16384):mu ts (.seqL true 0 [(0,w)] [] [])<fR:=by
 have h:=w.card_le;have:w.card*(ts.length+1)<=2^24*16385:=Nat.mul_le_mul h Vi;simp only[mu,eG,cQ,lp,Nat.sub_zero];unfold fR;omega
theorem Dk{ts:List Tok}(aa:bu ts){w:T}(hw:w.ok 0)(ac:w≠ff)(hl:ts.length<=16384):∃r,run ts fR (.seqL true 0 [(0,w)] [] [])=some r/\FN ts.length r.f/\r.e.length<=aF/\r.l.length<=aF:=by
 have hb:=Ec w hl;obtain⟨r,er,q1,q2⟩:=Ce aa fR _ (AA hw ac) hb (Gj w hl);exact⟨r,er,q1,Vi,Vi⟩
def Pp(l:List Tr):Tr:=⟨kH (eX (l.flatMap (·.kids))) (l.flatMap (·.kids)),yA (l.flatMap (·.diags))⟩
def bX.key(d:bX):Int×Nat:=(d.tok,d.code)
end Syn
namespace Go.Proofs.YtfaclfkpnmcmlaaGreatDoor
open Go Go.Sx Dg Syn
theorem yM{I A:PH}{v:Value}{n:Nd}{l:List Nd}(h:br I A v (n::l)):∃g cap cur a k,v=.slice (some ⟨g,0,none⟩) (l.length+1) cap/\A=sg g (.cells cur 60 (0,0))/\7<=cur.size/\aQ A g 5 [sD a k n.cond,rD n.cond]/\cu I (.agg #[sD a k n.cond,rD n.cond]) n.cond/\
  ∀(J:PH) (b:Option Addr) (c:Nat) (d:T),I.le J->cu J (.agg #[sD b c d,rD d]) d->br J (sg g (.cells (be cur.toList 5 [sD b c d,rD d]).toArray 60 (0,0))) v ({ n with cond:=d }::l):=by
 obtain⟨g,cap,cur,xs,ev,rfl,c1,c2,c3,c4,c5,ak⟩:=h.open' (by simp) aW.len;simp only[SB]at ev c1 c4 c5;have am:=ak.get aW.len (i:=0) (a:=n) rfl;obtain⟨kv,na,nk,ap,aj,ac,an⟩:=am.shape;have aS:(l.length+1)*7<=cap*7:=Tb _ c1;have aa:=fp (k:=5) (m:=2) (e:=60) (g:=g) (cur:=cur) aW.len ak (i:=0) (by simp) (by simp;omega) (by simpa using c4) ap Vi;simp only[TT,Tm,TW,TV,Nat.zero_mul,Sf]at aa;refine⟨g,cap,cur,na,nk,ev,rfl,Vi,aa,aj,fun J b c d ao hr=>?_⟩;have e:=lz aW.len (ak.mono fun _ _ h=>aW.le h ao) (i:=0) (by simp) ap (k:=5) (cs:=[sD b c d,rD d]) (a:={ n with cond:=d }) (by simp) (aW.mk (n:={ n with cond:=d }) hr (db.le ac ao) an);simp only[Nat.zero_mul,Sf,Ue]at e;refine⟨_,?_,e⟩;rw[ev];exact kI (by simpa using c5) c1 c2 c3 c4 (by simp;omega)
theorem uJ(n:Nd)(l:List Nd)(d:T):iA (n::l) d={ n with cond:=n.cond.and d.not }::l:=rfl
end Go.Proofs.YtfaclfkpnmcmlaaGreatDoor
