import Derived.Test.YtfaclfkpnmcmlaaGreatDoorE13
import Derived.Test.YtfaclfkpnmcmlaaGreatDoorE14
set_option maxHeartbeats 8000000
set_option linter.all false
namespace Syn
open Dg
section
variable {c:bP} {ts:List Tok}
variable{r:bW}{p:Option Nat}{f:ar}{o:Nat}{rec:sY}
def Fq(hts:bT ts)(G:Good c ts rec){slot:Nat}(e:cT ts f (oZ ts rec o slot)=some r)(hf:cq f)(hp:At c f p):∃q,PV c ts (.block o p slot) q/\RR c r q:=by
 have key:=lh hts hf hp e (P:=fun i q=>∀p,p.map (nx c ts)=some i->PV c ts (.block o p slot) q) fun h x hd ac hx=>by
  unfold oZ at hx;have hX:=hd.text;have ff1:=RR.fail (c:=c) hd.1;cases hc:h.cond.at' c with
  |false=>
   simp only[aa5,Z2];split at hx
   ·cases hx;have:=ff1 10;rw[hc]at this;exact this
   ·split at hx
    ·cases hx;have:=ff1 11;rw[hc]at this;exact this
    ·simp only[abI,abJ,ZW]at hx;obtain⟨a,ha,rfl⟩:=hx;have aa:=iA c h;rw[iC hc]at aa;obtain⟨q,h1,h2⟩:=G _ _ ha _ (.seqL (l:=[]) (iq hd.1 ac) aa trivial rfl cq.nil (At.nil c) (.inr rfl));have:q=ap:=h1.det (PV.step0 fun r=>rfl);subst this;have ht:=RR.trivTake hts h2 qD;exact⟨ht.fok,im hd.1 h2.lok,ht.eok,by rw[gm];simp[hc,ap],ht.f,ht.e⟩
  |true=>
   simp only[ZT];rw[hX]at hx;split at hx
   ·rename_i h3;cases hx
    refine⟨_,fun p hp=>PV.step0 fun r=>by simp only[aC,jI,hp];rw[aaq h3],?_⟩;have:=ff1 10;rw[hc]at this;exact this
   ·rename_i h3;split at hx
    ·rename_i h4;cases hx
     refine⟨_,fun p hp=>PV.step0 fun r=>by simp only[aC,jI,hp];rw[ZV h3,aaq h4],?_⟩;have:=ff1 11;rw[hc]at this;exact this
    ·rename_i h4;simp only[abI,abJ,ZW]at hx;obtain⟨a,ha,rfl⟩:=hx;obtain⟨q,h1,h2⟩:=G _ _ ha _ (.seqL (l:=[]) (iq hd.1 ac) (iA c h) trivial rfl cq.nil (At.nil c) (.inr rfl));rw[fp hc]at h1;have ht:=RR.take (rec:=rec) hts h2 qD;refine⟨⟨[⟨6,[],h.at',slot,q.l,tt⟩],(aW ts c q.p qD).1,q.e++(aW ts c q.p qD).2⟩,fun p hp=>h1.step1 fun r hr=>?_,⟨ht.fok,im hd.1 h2.lok,ht.eok,by rw[gm];simp[hc,h2.l],ht.f,ht.e⟩⟩;simp only[aC,jI,hp];rw[ZV h3,ZV h4];simp only[Z9,pL]at hr;rw[hr];rfl
 cases p with
 |none=>exact⟨ap,PV.step0 fun r=>rfl,key⟩
 |some p=>obtain⟨q,h1,h2⟩:=key;exact⟨q,h1 _ rfl,h2⟩
variable{top:Bool}
def KC{r s:oS}(h:Le r s){i:Nat}{q:PR}(e:md ts r top o i=some q):md ts s top o i=some q:=by
 unfold md at e |-;cases top with
 |false=>exact h _ _ e
 |true=>
  simp only[ZT]at e |-;unfold vF at e |-;split at e
  ·rename_i h2;rw[aaq h2];exact h _ _ e
  ·rename_i h2;rw[ZV h2];split at e
   ·rename_i h3;rw[aaq h3];exact h _ _ e
   ·rename_i h3;rw[ZV h3];exact e
variable{h:aB}
def HQ(hts:bT ts)(G:Good c ts rec)(e:zy rec top o h=some r)(hd:Hd ts h)(ac:h.cond≠ff):
  if h.cond.at' c then ∃n q,md ts (bS c ts n) top o h.at'=some q/\RR c r q else RR c r ap:=by
 unfold zy at e;have hX:=hd.text;have ff1:=RR.fail (c:=c) hd.1 10;have aa:=iA c h;have ao:=iq hd.1 ac;cases top with
 |false=>
  simp only[aa5,Z2]at e;obtain⟨q,h1,h2⟩:=G _ _ e _ (.stmt hd ac rfl);cases hc:h.cond.at' c with
  |false=>
   rw[iC hc]at h1;have:q=ap:=h1.det (PV.step0 fun r=>rfl);subst this;simpa using h2
  |true=>
   rw[fp hc]at h1;obtain⟨n,hn⟩:=h1;simp only[ZT];exact⟨n,q,hn,h2⟩
 |true=>
  simp only[ZT]at e;unfold qj at e;rw[hX]at e;cases hc:h.cond.at' c with
  |false=>
   simp only[aa5,Z2];rw[iC hc]at aa;split at e
   ·obtain⟨q,h1,h2⟩:=G _ _ e _ (.vrb ao aa);have:=PV.noneVar h1;subst this;exact h2
   ·split at e
    ·obtain⟨q,h1,h2⟩:=G _ _ e _ (.function ao aa);have:=PV.noneFn h1;subst this;exact h2
    ·cases e;rw[hc]at ff1;exact ff1
  |true=>
   simp only[ZT];rw[fp hc]at aa;split at e
   ·rename_i h3;obtain⟨q,⟨n,hn⟩,h2⟩:=G _ _ e _ (.vrb ao aa);exact⟨n,q,by simp only[md,vF,ZT];rw[aaq h3];exact hn,h2⟩
   ·rename_i h3;split at e
    ·rename_i h4;obtain⟨q,⟨n,hn⟩,h2⟩:=G _ _ e _ (.function ao aa);exact⟨n,q,by simp only[md,vF,ZT];rw[ZV h3,aaq h4];exact hn,h2⟩
    ·rename_i h4;cases e
     rw[hc]at ff1;exact⟨0,_,by simp only[md,vF,ZT];rw[ZV h3,ZV h4],ff1⟩
def KM(hd:Hd ts h)(top:Bool):lF ts top h=tI ts top h.at':=by
 unfold lF tI;rw[hd.text]
variable{l:List Nd}
def Oh{p:Nat}{out:Option Nat}{q:PR}(h:PV c ts (.seqL top o (some (nx c ts p)) l out) q):PV c ts (.seqL top o (some p) l out) q:=by
 obtain⟨n,h⟩:=h;cases n with
 |zero=>cases h
 |succ n=>exact⟨n+1,by simp only[bS,aC,nE,Z9,ce]at h |-;exact h⟩
def CC(hf:cq f)(k:h.cond.ok 0):cq (joinH f h):=eu hf k
def CB(hf:cq f)(k:h.cond.ok 0)(hp:At c f p)(aa:hI c h=none\/p=none):At c (joinH f h) ((hI c h).or p):=by
 have:=At.join hf hp k (a:=h.at') (fun hc=>by
  rcases aa with h1|h1
  ·rw[fp hc]at h1;cases h1
  ·exact h1)
 unfold joinH hI;cases hc:h.cond.at' c<;>rw[hc]at this<;>simpa using this
variable{out':Option Nat}{out:ar}{l':List Nd}
def HP(hts:bT ts)(G:Good c ts rec)(e:seqL ts rec top o f l out=some r)(hf:cq f)(hp:At c f p)(hl:iE l)(pl:pL c l=l')(ho:cq out)(po:At c out out')(ak:p=none\/out'=none):
  ∃q,PV c ts (.seqL top o p l' out') q/\RR c r q:=by
 unfold seqL at e;have hh:=mW hts hf;have ha:=ny.of hts hf hp;generalize heads ts f=hs at e hh ha
 suffices H:∃q,PV c ts (.seqL top o (p.map (nx c ts)) l' out') q/\RR c r q by
  obtain⟨q,h1,h2⟩:=H;refine⟨q,?_,h2⟩;cases p with
  |none=>exact h1
  |some p=>exact Oh h1
 have aa:p.map (nx c ts)=none\/out'=none:=ak.imp (fun h=>by rw[h];rfl) id;have fixp:(p.map (nx c ts)).map (nx c ts)=p.map (nx c ts):=by cases p<;>simp[ce]
 generalize p.map (nx c ts)=i at ha aa fixp;cases hs with
 |nil=>
  simp only[ZW]at e;subst e;have:=ha.nil_none;subst this;exact⟨⟨l',out',[]⟩,PV.step0 fun r=>rfl,ho,hl,eU,pl,po,rfl⟩
 |cons h hs=>
  obtain⟨hd,al⟩:=hh.hd;have ht:=hh.tail;have he:=KM hd top;simp only at e;rw[he]at e;cases aj:tI ts top h.at' with
  |true=>
   rw[aj,aaq rfl]at e;rcases ha.cons with ⟨hc,rfl,ag⟩|⟨hc,ag⟩
   ·have ac:out'=none:=by rcases aa with h|h;cases h;exact h
    subst ac;have jo:=CB (h:=h) ho hd.1 po (.inr rfl);rw[fp hc]at jo;have jf:At c (hs.foldl joinH []) none:=by have:=At.joinH cq.nil ht.conds (At.nil c) ag (.inl rfl);simpa using this
    obtain⟨u,h3,h4⟩:=G _ _ e _ (.seqL (f7 cq.nil ht.conds) jf hl pl (CC ho hd.1) jo (.inl rfl));have:u=⟨l',some h.at',[]⟩:=h3.det (PV.step0 fun r=>rfl);subst this;refine⟨_,PV.step0 fun r=>?_,h4⟩;simp only[Z9,ZW]at fixp;simp only[aC,nE,Z9,fixp,aj,ZT]
   ·have jo:=CB (h:=h) ho hd.1 po (.inl (iC hc));rw[iC hc]at jo;have jf:At c (hs.foldl joinH []) i:=by have:=At.joinH cq.nil ht.conds (At.nil c) ag (.inl rfl);simpa using this
    exact G _ _ e _ (.seqL (f7 cq.nil ht.conds) jf hl pl (CC ho hd.1) (by simpa using jo) aa)
  |false=>
   rw[aj]at e;simp only[aa5,Z2,abI,abJ,ZW]at e;obtain⟨a,am,_,_,b,hb,rfl⟩:=e;have hr:=HQ hts G am hd al;rcases ha.cons with ⟨hc,rfl,ag⟩|⟨hc,ag⟩
   ·have ac:out'=none:=by rcases aa with h|h;cases h;exact h
    subst ac;rw[hc,aaq rfl]at hr;obtain⟨n,q,h1,h2⟩:=hr;have j0:cq (joinAll [] a.f):=dY (fun s hs=>(h2.fok.1 s hs).1) cq.nil;have a0:At c (joinAll [] a.f) q.p:=by have:=At.joinAll cq.nil h2.fok (At.nil c) h2.f (.inl rfl);simpa using this
    have jf:At c (hs.foldl joinH (joinAll [] a.f)) q.p:=by have:=At.joinH j0 ht.conds a0 ag (.inr rfl);simpa using this
    obtain⟨u,⟨m,h3⟩,h4⟩:=G _ _ hb _ (.seqL (f7 j0 ht.conds) jf (iN.2 ⟨hl,h2.lok⟩) (by rw[fq,pl,h2.l]) ho po (.inr rfl));refine⟨_,⟨max n m+1,?_⟩,h2.app h4⟩;simp only[Z9,ZW]at fixp;simp only[bS,aC,nE,Z9,fixp,aj,aa5,Z2];rw[KC (kY (Nat.le_max_left n m)) h1];simp only[abI,jO];rw[kY (Nat.le_max_right n m) _ _ h3];rfl
   ·rw[hc]at hr;simp only[aa5,Z2]at hr;have j0:cq (joinAll [] a.f):=dY (fun s hs=>(hr.fok.1 s hs).1) cq.nil;have a0:At c (joinAll [] a.f) none:=by have:=At.joinAll cq.nil hr.fok (At.nil c) hr.f (.inl rfl);simpa[ap]using this
    have jf:At c (hs.foldl joinH (joinAll [] a.f)) i:=by have:=At.joinH j0 ht.conds a0 ag (.inl rfl);simpa using this
    obtain⟨u,h3,h4⟩:=G _ _ hb _ (.seqL (f7 j0 ht.conds) jf (iN.2 ⟨hl,hr.lok⟩) (by rw[fq,pl,hr.l]) ho po aa);simp only[ap,aa6]at h3;refine⟨u,h3,?_⟩;have:=hr.app h4;simpa[ap]using this
def ww(hd:h.cond.ok 0)(kind slot:Nat):iE [gz kind h slot]:=im hd trivial
def wi(c:bP)(h:aB)(kind slot:Nat):pL c [gz kind h slot]=jP kind (hI c h) slot:=by
 rw[gm];unfold gz hI jP;cases h.cond.at' c<;>simp[pL]
def kF(l:List Nd):give l []=l:=by
 unfold give
 induction l with
 |nil=>rfl
 |cons n l ih=>rw[aaU,ih];cases n;simp
def Ej(hts:bT ts)(G:Good c ts rec){slot:Nat}(e:branch ts rec o h slot=some r)(hd:Hd ts h)(aa:h.cond≠ff):∃q,PV c ts (.branch o (hI c h) slot) q/\RR c r q:=by
 unfold branch at e;simp only[abI,abJ]at e;obtain⟨a,ha,b,hb,l1,ag,l2,ac,e⟩:=e;have:=bu ag;subst this;have:=bu ac;subst this;obtain⟨q1,h1,k1⟩:=G _ _ ha _ (.inside (iq hd.1 aa) (iA c h));obtain⟨q2,h2,k2⟩:=G _ _ hb _ (.block k1.fok k1.f);obtain⟨s1,s2,s3,s4⟩:=iY hts k2.fok k2.f (pi ts dr) (nW dr);generalize ak:aM ts b.f (bD dr)=sp at e s1 s2 s3 s4;obtain⟨xs,out⟩:=sp;simp only[abJ,ZW]at e;obtain⟨d,aj,rfl⟩:=e;obtain⟨q3,h3,k3⟩:=G _ _ aj _ (.elses s1 s3 (eD (eD (ww hd.1 8 slot) k1.lok) k2.lok) (by rw[fU,fU,wi,k1.l,k2.l]) s2 s4 (iQ _ _));refine⟨_,h1.step3 h2 h3 fun r r1 r2 r3=>by simp only[aC,ku,mz,r1,r2,r3,abI,jO];rfl,?_⟩;exact⟨k3.fok,k3.lok,cI.2 ⟨cI.2 ⟨k1.eok,k2.eok⟩,k3.eok⟩,k3.l,k3.f,by rw[cR,cR,k1.e,k2.e,k3.e]⟩
variable{x:Option Nat}{xs:List aB}
def FC(hts:bT ts)(G:Good c ts rec)(e:elses ts rec o xs l out=some r)(aa:vO ts xs)(px:ny c xs x)(hl:iE l)(pl:pL c l=l')(ho:cq out)(po:At c out out')(aj:x=none\/out'=none):
  ∃q,PV c ts (.elses o x l' out') q/\RR c r q:=by
 unfold elses at e;cases xs with
 |nil=>
  simp only[ZW]at e;subst e;have:=px.nil_none;subst this;exact⟨⟨l',out',[]⟩,PV.step0 fun r=>rfl,ho,hl,eU,pl,po,rfl⟩
 |cons h xs=>
  obtain⟨hd,al⟩:=aa.hd;obtain⟨s1,s2,s3,s4⟩:=iY hts (iq hd.1 al) (iA c h) (pi ts kT) (nW kT);simp only at e;generalize an:aM ts (bv h) (bD kT)=sp at e s1 s2 s3 s4;obtain⟨ys,rest⟩:=sp;simp only[abI,abJ,ZW]at e;obtain⟨a,ha,l1,am,b,hb,d,ak,rfl⟩:=e;have:=bu am;subst this;simp only at s1 s2 s3 s4;obtain⟨q1,h1,k1⟩:=G _ _ ha _ (.block s2 s4);have jo:cq (joinAll out a.f):=dY (fun s hs=>(k1.fok.1 s hs).1) ho;rcases px.cons with ⟨hc,rfl,px2⟩|⟨hc,px2⟩
  ·have ac:out'=none:=by rcases aj with h|h;cases h;exact h
   subst ac;rw[fp hc]at h1 s3 s4;have ja:At c (joinAll out a.f) q1.p:=by have:=At.joinAll ho k1.fok po k1.f (.inl rfl);simpa using this
   have ag:qz c ts (some (h.at'+1)) (pi ts kT)=none\/q1.p=none:=by
    rcases iQ ((some (h.at'+1)).map (nx c ts)) (pi ts kT)with h|h
    ·exact .inl h
    ·right
     simp only[Z9]at h1 h;rw[h]at h1;have:=PV.noneBlock h1;subst this;rfl
   obtain⟨q2,h2,k2⟩:=G _ _ hb _ (.ifs s1 s3 (eD hl k1.lok) (by rw[fU,pl,k1.l]) jo ja ag);obtain⟨q3,h3,k3⟩:=G _ _ ak _ (.elses aa.tail px2 k2.lok k2.l k2.fok k2.f (.inl rfl));have:q3=⟨q2.l,q2.p,[]⟩:=h3.det (PV.step0 fun r=>rfl);subst this;refine⟨⟨q2.l,q2.p,q1.e++q2.e⟩,h1.step2 h2 fun r r1 r2=>?_,?_⟩
   ·simp only[aC,nP,mz];simp only[Z9]at r1 r2 |-;rw[r1];simp only[abI,jO];rw[r2];rfl
   ·exact⟨k3.fok,k3.lok,cI.2 ⟨cI.2 ⟨k1.eok,k2.eok⟩,k3.eok⟩,k3.l,k3.f,by rw[cR,cR,k1.e,k2.e,k3.e];simp⟩
  ·rw[iC hc]at h1 s3 s4;simp only[aac,Option.filter_none]at h1 s3 s4;have:=PV.noneBlock h1;subst this;have ja:At c (joinAll out a.f) out':=by have:=At.joinAll ho k1.fok po k1.f (.inr rfl);simpa[ap]using this
   have gl:pL c (give l a.l)=l':=by rw[fU,pl,k1.l];exact kF l'
   obtain⟨q2,h2,k2⟩:=G _ _ hb _ (.ifs s1 s3 (eD hl k1.lok) gl jo ja (.inl rfl));have:q2=⟨l',out',[]⟩:=h2.det (PV.step0 fun r=>rfl);subst this;obtain⟨q3,h3,k3⟩:=G _ _ ak _ (.elses aa.tail px2 k2.lok k2.l k2.fok k2.f aj);refine⟨q3,h3,k3.fok,k3.lok,cI.2 ⟨cI.2 ⟨k1.eok,k2.eok⟩,k3.eok⟩,k3.l,k3.f,by rw[cR,cR,k1.e,k2.e,k3.e];simp[ap]⟩
def Nz(hts:bT ts)(G:Good c ts rec){ys:List aB}{y:Option Nat}(e:ifs rec o ys l out=some r)(ac:vO ts ys)(py:ny c ys y)(hl:iE l)(pl:pL c l=l')(ho:cq out)(po:At c out out')(ag:y=none\/out'=none):
  ∃q,PV c ts (.ifs o y l' out') q/\RR c r q:=by
 unfold ifs at e;cases ys with
 |nil=>
  simp only[ZW]at e;subst e;have:=py.nil_none;subst this;exact⟨⟨l',out',[]⟩,PV.step0 fun r=>rfl,ho,hl,eU,pl,po,rfl⟩
 |cons h ys=>
  obtain⟨hd,ak⟩:=ac.hd;have ff1:=RR.fail (c:=c) hd.1 11;simp only at e;split at e
  ·rename_i aj;simp only[abI,abJ,ZW]at e;obtain⟨b,hb,rfl⟩:=e;rcases py.cons with ⟨hc,rfl,py2⟩|⟨hc,py2⟩
   ·have aa:out'=none:=by rcases ag with h|h;cases h;exact h
    subst aa;obtain⟨q2,h2,k2⟩:=G _ _ hb _ (.ifs ac.tail py2 hl pl ho po (.inl rfl));have:q2=⟨l',none,[]⟩:=h2.det (PV.step0 fun r=>rfl);subst this;refine⟨⟨l',none,[(11,(h.at':Int))]⟩,PV.step0 fun r=>by simp only[aC,BV];rw[aaq aj],k2.fok,k2.lok,cI.2 ⟨ff1.eok,k2.eok⟩,k2.l,k2.f,?_⟩;rw[cR,lq,hc,k2.e];rfl
   ·obtain⟨q2,h2,k2⟩:=G _ _ hb _ (.ifs ac.tail py2 hl pl ho po ag);refine⟨q2,h2,k2.fok,k2.lok,cI.2 ⟨ff1.eok,k2.eok⟩,k2.l,k2.f,?_⟩;rw[cR,lq,hc,k2.e];rfl
  ·rename_i aj;simp only[abI,abJ,ZW]at e;obtain⟨a,ha,l1,al,b,hb,rfl⟩:=e;have:=bu al;subst this;obtain⟨q1,h1,k1⟩:=G _ _ ha _ (.branch hd ak rfl);have jo:cq (joinAll out a.f):=dY (fun s hs=>(k1.fok.1 s hs).1) ho;rcases py.cons with ⟨hc,rfl,py2⟩|⟨hc,py2⟩
   ·have aa:out'=none:=by rcases ag with h|h;cases h;exact h
    subst aa;rw[fp hc]at h1;have ja:At c (joinAll out a.f) q1.p:=by have:=At.joinAll ho k1.fok po k1.f (.inl rfl);simpa using this
    obtain⟨q2,h2,k2⟩:=G _ _ hb _ (.ifs ac.tail py2 (eD hl k1.lok) (by rw[fU,pl,k1.l]) jo ja (.inl rfl));have:q2=⟨give l' q1.l,q1.p,[]⟩:=h2.det (PV.step0 fun r=>rfl);subst this;refine⟨⟨give l' q1.l,q1.p,q1.e⟩,h1.step1 fun r hr=>by simp only[aC,BV];rw[ZV aj,hr];rfl,k2.fok,k2.lok,cI.2 ⟨k1.eok,k2.eok⟩,k2.l,k2.f,?_⟩;rw[cR,k1.e,k2.e];simp
   ·rw[iC hc]at h1;have:=PV.noneBranch h1;subst this;have ja:At c (joinAll out a.f) out':=by have:=At.joinAll ho k1.fok po k1.f (.inr rfl);simpa[ap]using this
    obtain⟨q2,h2,k2⟩:=G _ _ hb _ (.ifs ac.tail py2 (eD hl k1.lok) (show _=l' by rw[fU,pl,k1.l];exact kF l') jo ja ag);refine⟨q2,h2,k2.fok,k2.lok,cI.2 ⟨k1.eok,k2.eok⟩,k2.l,k2.f,?_⟩;rw[cR,k1.e,k2.e];simp[ap]
def DM(hts:bT ts)(G:Good c ts rec){g:ar}{g':Option Nat}(e:sCalls rec o h xs l g=some r)(hd:Hd ts h)(aj:vO ts xs)(px:ny c xs x)(hl:iE l)(pl:pL c l=l')(hg:cq g)(pg:At c g g')
  (ac:x=none\/g'=none/\hI c h≠none/\pL c l.tail=[]/\l≠[]):∃q,PV c ts (.sCalls o (hI c h) x l' g') q/\RR c r q:=by
 unfold sCalls at e;cases xs with
 |nil=>
  simp only[ZW]at e;subst e;have:=px.nil_none;subst this;exact⟨⟨l',g',[]⟩,PV.step0 fun r=>by simp only[aC,lu];cases hI c h<;>rfl,hg,hl,eU,pl,pg,rfl⟩
 |cons y xs=>
  simp only[abI,abJ,ZW]at e;obtain⟨a,ha,_,_,b,hb,rfl⟩:=e;obtain⟨yd,yne⟩:=aj.hd;obtain⟨q,h1,h2⟩:=G _ _ ha _ (.listed (mo yd.1 yne) (mn c y));have aa:iE (l++[(⟨19,h.text,h.at',0,a.l,y.cond⟩:Nd)]):=iN.2 ⟨hl,im yd.1 h2.lok⟩;have ag:=G9 yd.1 aa;have jg:cq (joinAll g a.f):=dY (fun s hs=>(h2.fok.1 s hs).1) hg;rcases px.cons with ⟨hc,rfl,px2⟩|⟨hc,px2⟩
  ·rw[fp hc]at h1;rcases ac with ac|⟨rfl,hi,al,am⟩
   ·cases ac
   have an:h.cond.at' c=true:=by
    cases hh:h.cond.at' c with
    |true=>rfl
    |false=>exact absurd (iC hh) hi
   have pnew:pL c (kJ (l++[(⟨19,h.text,h.at',0,a.l,y.cond⟩:Nd)]) y.cond)=[⟨19,X ts h.at',h.at',0,q.l,tt⟩]:=by
    rw[wx c yd.1 aa,aaq hc];cases l with
    |nil=>exact absurd rfl am
    |cons n l=>
     rw[aaz,abL,fq,gm];rw[abL]at al;simp[hc,h2.l,hd.text,al]
   have pj:At c (joinAll g a.f) q.p:=by have:=At.joinAll hg h2.fok pg h2.f (.inl rfl);simpa using this
   obtain⟨u,h3,h4⟩:=G _ _ hb _ (.sCalls hd rfl aj.tail px2 ag pnew jg pj (.inl rfl));have hu:u=⟨[⟨19,X ts h.at',h.at',0,q.l,tt⟩],q.p,[]⟩:=h3.det (PV.step0 fun r=>by simp only[aC,lu];cases hI c h<;>rfl);subst hu;refine⟨_,h1.step1 fun r hr=>?_,h2.app h4⟩;rw[fp an];simp only[aC,lu,hr,abI,jO,aa6]
  ·rw[iC hc]at h1;have hq:=PV.noneListed h1;subst hq;have pnew:pL c (kJ (l++[(⟨19,h.text,h.at',0,a.l,y.cond⟩:Nd)]) y.cond)=l':=by
    rw[wx c yd.1 aa,fq,gm];simp[hc,pl]
   have pj:At c (joinAll g a.f) g':=by have:=At.joinAll hg h2.fok pg h2.f (.inr rfl);simpa[ap]using this
   have ak:x=none\/g'=none/\hI c h≠none/\pL c (kJ (l++[(⟨19,h.text,h.at',0,a.l,y.cond⟩:Nd)]) y.cond).tail=[]/\kJ (l++[(⟨19,h.text,h.at',0,a.l,y.cond⟩:Nd)]) y.cond≠[]:=by
    rcases ac with ac|⟨h5,h6,h7,h8⟩
    ·exact .inl ac
    ·refine .inr ⟨h5,h6,?_,?_⟩
     ·rw[zt];cases l with
      |nil=>exact absurd rfl h8
      |cons n l=>
       rw[abL]at h7;rw[aaz,abL,fq,gm,h7];simp[hc]
     ·cases l with
      |nil=>exact absurd rfl h8
      |cons n l=>simp[kJ]
   obtain⟨u,h3,h4⟩:=G _ _ hb _ (.sCalls hd rfl aj.tail px2 ag pnew jg pj ak);refine⟨u,h3,?_⟩;have:=h2.app h4;simpa[ap]using this
def Jo(hts:bT ts)(G:Good c ts rec)(e:stmt ts rec o h=some r)(hd:Hd ts h)(aj:h.cond≠ff):∃q,PV c ts (.stmt o (hI c h)) q/\RR c r q:=by
 unfold stmt at e;have hX:=hd.text;have aa:=iA c h;have ao:=iq hd.1 aj;by_cases h1:h.text=lT
 ·rw[aaq h1]at e;obtain⟨q,k1,k2⟩:=G _ _ e _ (.vrb ao aa);cases hc:h.cond.at' c with
  |false=>
   rw[iC hc]at k1 |-;have:=PV.noneVar k1;subst this;exact⟨ap,PV.step0 fun r=>rfl,k2⟩
  |true=>
   rw[fp hc]at k1 |-;rw[hX]at h1;exact⟨q,k1.step1 fun r hr=>by simp only[aC,gM];rw[aaq h1];exact hr,k2⟩
 rw[ZV h1]at e;by_cases h2:h.text=kT
 ·rw[aaq h2]at e;obtain⟨q,k1,k2⟩:=G _ _ e _ (.branch hd aj rfl);cases hc:h.cond.at' c with
  |false=>
   rw[iC hc]at k1 |-;have:=PV.noneBranch k1;subst this;exact⟨ap,PV.step0 fun r=>rfl,k2⟩
  |true=>
   rw[fp hc]at k1 |-;rw[hX]at h1 h2;exact⟨q,k1.step1 fun r hr=>by simp only[aC,gM];rw[ZV h1,aaq h2];exact hr,k2⟩
 rw[ZV h2]at e;by_cases h3:h.text=jG
 ·rw[aaq h3]at e;simp only[abI,abJ,ZW]at e;obtain⟨a,ha,b,hb,l1,ac,l2,an,rfl⟩:=e;have:=bu ac;subst this;have:=bu an;subst this;obtain⟨q1,k1,r1⟩:=G _ _ ha _ (.inside ao aa);obtain⟨q2,k2,r2⟩:=G _ _ hb _ (.block r1.fok r1.f);have R:RR c ⟨give (give [gz 9 h 0] a.l) b.l,b.f,a.e++b.e⟩ ⟨give (give (jP 9 (hI c h) 0) q1.l) q2.l,q2.p,q1.e++q2.e⟩:=
   ⟨r2.fok,eD (eD (ww hd.1 9 0) r1.lok) r2.lok,cI.2 ⟨r1.eok,r2.eok⟩,by rw[fU,fU,wi,r1.l,r2.l],r2.f,by rw[cR,r1.e,r2.e]⟩
  cases hc:h.cond.at' c with
  |false=>
   rw[iC hc]at k1 R |-;have:=PV.noneInside k1;subst this;have:=PV.noneBlock k2;subst this;exact⟨ap,PV.step0 fun r=>rfl,R⟩
  |true=>
   rw[fp hc]at k1 R |-;rw[hX]at h1 h2 h3;refine⟨_,k1.step2 k2 fun r e1 e2=>?_,R⟩;simp only[aC,gM];rw[ZV h1,ZV h2,aaq h3];simp only[Z9]at e1;rw[e1];simp only[abI,jO];rw[e2];rfl
 rw[ZV h3]at e;by_cases h4:h.text=Im
 ·rw[aaq h4]at e;obtain⟨q,k1,k2⟩:=G _ _ e _ (.block (mo hd.1 aj) (mn c h));cases hc:h.cond.at' c with
  |false=>
   rw[iC hc]at k1 |-;have:=PV.noneBlock k1;subst this;exact⟨ap,PV.step0 fun r=>rfl,k2⟩
  |true=>
   rw[fp hc]at k1 |-;rw[hX]at h1 h2 h3 h4;exact⟨q,k1.step1 fun r hr=>by simp only[aC,gM];rw[ZV h1,ZV h2,ZV h3,aaq h4];exact hr,k2⟩
 rw[ZV h4]at e;by_cases h5:h.text=iH
 ·rw[aaq h5]at e;obtain⟨s1,s2,s3,s4⟩:=iY hts ao aa (pi ts a8) (nW a8);generalize ag:aM ts (bv h) (bD a8)=sp at e s1 s2 s3 s4;obtain⟨fin,g⟩:=sp;simp only[abI,abJ]at e;obtain⟨a,ha,l1,ac,e⟩:=e;have:=bu ac;subst this;simp only at s1 s2 s3 s4;obtain⟨q1,k1,r1⟩:=G _ _ ha _ (.line s2 s4);have jf:cq (fin.foldl joinH a.f):=f7 r1.fok s1.conds;have ak:q1.p=none\/(((hI c h).map (·+1)).map (nx c ts)).filter (pi ts a8)=none:=by
   rcases iQ (((hI c h).map (·+1)).map (nx c ts)) (pi ts a8)with h|h
   ·exact .inr h
   ·rw[h]at k1;have:=PV.noneLine k1;subst this;exact .inl rfl
  have ja:=At.joinH r1.fok s1.conds r1.f s3 ak;obtain⟨t1,t2,t3,t4⟩:=iL hts jf ja a8;generalize ag:Syn.take ts (fin.foldl joinH a.f) a8=sp at e t1 t2 t3 t4;obtain⟨f2,e2⟩:=sp;simp only[ZW]at e;subst e;have R:RR c ⟨give [gz 10 h 0] a.l,f2,a.e++e2⟩ ⟨give (jP 10 (hI c h) 0) q1.l,(aW ts c (q1.p.or ((((hI c h).map (·+1)).map (nx c ts)).filter (pi ts a8))) a8).1,q1.e++(aW ts c (q1.p.or ((((hI c h).map (·+1)).map (nx c ts)).filter (pi ts a8))) a8).2⟩:=
   ⟨t1,eD (ww hd.1 10 0) r1.lok,cI.2 ⟨r1.eok,t2⟩,by rw[fU,wi,r1.l],t3,by rw[cR,r1.e,t4]⟩
  cases hc:h.cond.at' c with
  |false=>
   rw[iC hc]at k1 R |-;have:=PV.noneLine k1;subst this;exact⟨ap,PV.step0 fun r=>rfl,R⟩
  |true=>
   rw[fp hc]at k1 R |-;rw[hX]at h1 h2 h3 h4 h5;refine⟨_,k1.step1 fun r e1=>?_,R⟩;simp only[aC,gM];rw[ZV h1,ZV h2,ZV h3,ZV h4,aaq h5];simp only[mz];simp only[Z9]at e1 |-;rw[e1];rfl
 rw[ZV h5]at e;by_cases h6:h.text=jU\/h.text=ew
 ·rw[aaq h6]at e;simp only[abI,abJ]at e;obtain⟨a,ha,l1,ac,e⟩:=e;have:=bu ac;subst this;obtain⟨q1,k1,r1⟩:=G _ _ ha _ (.line ao aa);have ht:=RR.take (rec:=rec) hts r1 a8;generalize ag:Syn.take ts a.f a8=sp at e ht;obtain⟨f2,e2⟩:=sp;simp only[ZW]at e;subst e;have R:∀kd,RR c ⟨give [gz kd h 0] a.l,f2,a.e++e2⟩ ⟨give (jP kd (hI c h) 0) q1.l,(aW ts c q1.p a8).1,q1.e++(aW ts c q1.p a8).2⟩:=fun kd=>
   ⟨ht.fok,eD (ww hd.1 kd 0) r1.lok,ht.eok,by rw[fU,wi,r1.l],ht.f,ht.e⟩
  have R:=R (if h.text=ew then 12 else 11);cases hc:h.cond.at' c with
  |false=>
   rw[iC hc]at k1 R |-;have:=PV.noneLine k1;subst this;exact⟨ap,PV.step0 fun r=>rfl,R⟩
  |true=>
   rw[fp hc]at k1 R |-;rw[hX]at h1 h2 h3 h4 h5 h6 R;rw[hX];refine⟨_,k1.step1 fun r e1=>?_,R⟩;simp only[aC,gM];rw[ZV h1,ZV h2,ZV h3,ZV h4,ZV h5,aaq h6];simp only[Z9]at e1;rw[e1];rfl
 rw[ZV h6]at e;have hn:=nu hts (mo hd.1 aj) (mn c h) 7 0;have am:(named ts (bX h) 7 0).l.tail=[]:=by rw[xT hts hd aj];split<;>rfl
 dsimp only at e;by_cases h7:(named ts (bX h) 7 0).l=[]
 ·rw[aaq h7]at e;cases e
  have hp:(aI ts c (hI c h) 7 0).l=[]:=by rw[<-hn.l,h7];rfl
  have al:(aI ts c (hI c h) 7 0).p=none:=by
   unfold aI at hp |-;generalize (hI c h).map (nx c ts)=w at hp |-;cases w with
   |none=>rfl
   |some i=>
    by_cases hh:K ts i≠1\/dG (X ts i)=true
    ·simp only[aaq hh]
    ·simp only[ZV hh]at hp;cases hp
  have R:RR c ⟨[],[],(named ts (bX h) 7 0).e⟩ ⟨[],none,(aI ts c (hI c h) 7 0).e⟩:=⟨cq.nil,trivial,hn.eok,rfl,rfl,hn.e⟩;cases hc:h.cond.at' c with
  |false=>
   rw[iC hc]at R |-;exact⟨ap,PV.step0 fun r=>rfl,R⟩
  |true=>
   rw[fp hc]at R hp al |-;rw[hX]at h1 h2 h3 h4 h5 h6;have aS:∀(n:Nat),(∀r:oS,True):=fun _ _=>trivial;refine⟨⟨[],none,(aI ts c (some h.at') 7 0).e⟩,?_,R⟩;have z1:PV c ts (.line 0 o none 0) ap:=by
    have z6:PV c ts (.unary o none 0) ap:=(PV.step0 fun r=>rfl:PV c ts (.unaryH o none 0) ap).step1 fun r hr=>by simp only[aC,ry];exact hr
    have zk:∀k,k<=5->PV c ts (.line (5-k) o none 0) ap:=by
     intro k
     induction k with
     |zero=>intro _;exact z6.step1 fun r hr=>by simp only[aC,ni,aaq];exact hr
     |succ k ih=>
      intro hk;have ih:=ih ab;have e5:5-(k+1)+1=5-k:=by omega
      have zl:PV c ts (.lineL (5-(k+1)) o 0 true [] none none) ap:=PV.step0 fun r=>rfl;exact ih.step2 zl fun r r1 r2=>by
       simp only[aC,ni];rw[ZV ab,e5,r1];simp only[ap]at r2 |-;simp only[abI,jO];rw[r2];rfl
    exact zk 5 ab
   have z2:PV c ts (.sCalls o (some h.at') none [] none) ⟨[],none,[]⟩:=PV.step0 fun r=>rfl;refine z1.step2 z2 fun r r1 r2=>?_;simp only[aC,gM];rw[ZV h1,ZV h2,ZV h3,ZV h4,ZV h5,ZV h6];simp only[hp,al,qz,aac,Option.filter_none,rH,r1,abI,jO];simp only[ap,give,List.map_nil,r2,jO,rH];simp
 rw[ZV h7]at e;obtain⟨s1,s2,s3,s4⟩:=iY hts hn.fok hn.f (pi ts eM) (nW eM);generalize ag:aM ts (named ts (bX h) 7 0).f (bD eM)=sp at e s1 s2 s3 s4;obtain⟨xs,g⟩:=sp;simp only at s1 s2 s3 s4 e;obtain⟨t1,t2,t3,t4⟩:=iL hts s2 s4 su;generalize ag:Syn.take ts g su=sp at e t1 t2 t3 t4;obtain⟨g1,e1⟩:=sp;simp only[abI,abJ]at e t1 t2 t3 t4;obtain⟨b,hb,l1,ac,d,aq,e⟩:=e;have:=bu ac;subst this;obtain⟨q1,k1,r1⟩:=G _ _ hb _ (.line t1 t3);have ak:(((aI ts c (hI c h) 7 0).p.map (nx c ts)).filter (pi ts eM))=none\/q1.p=none/\hI c h≠none/\pL c (give (named ts (bX h) 7 0).l b.l).tail=[]/\give (named ts (bX h) 7 0).l b.l≠[]:=by
  rcases iQ ((aI ts c (hI c h) 7 0).p.map (nx c ts)) (pi ts eM)with h8|h8
  ·exact .inl h8
  ·cases hy:(((aI ts c (hI c h) 7 0).p.map (nx c ts)).filter (pi ts eM))with
   |none=>exact .inl rfl
   |some j=>
    refine .inr ⟨?_,fun hi=>?_,?_,?_⟩
    ·rw[h8]at k1;simp only[rH]at k1;have:=PV.noneLine k1;subst this;rfl
    ·rw[hi]at hy;simp[aI]at hy
    ·have:(give (named ts (bX h) 7 0).l b.l).tail=[]:=by
      unfold give;rw[<-List.map_tail,am];rfl
     rw[this];rfl
    ·unfold give;simpa using h7
 obtain⟨q2,k2,r2⟩:=G _ _ aq _ (.sCalls hd rfl s1 s3 (eD hn.lok r1.lok) (by rw[fU,hn.l,r1.l]) r1.fok r1.f ak);obtain⟨u1,u2,u3,u4⟩:=iL hts r2.fok r2.f a8;generalize ag:Syn.take ts d.f a8=sp at e u1 u2 u3 u4;obtain⟨f2,e2⟩:=sp;simp only[ZW]at e;subst e;have R:RR c ⟨d.l,f2,(named ts (bX h) 7 0).e++e1++b.e++d.e++e2⟩ ⟨q2.l,(aW ts c q2.p a8).1,(aI ts c (hI c h) 7 0).e++(aW ts c (((aI ts c (hI c h) 7 0).p.map (nx c ts)).filter fun i=>!pi ts eM i) su).2++q1.e++q2.e++(aW ts c q2.p a8).2⟩:=
  ⟨u1,r2.lok,cI.2 ⟨cI.2 ⟨cI.2 ⟨cI.2 ⟨hn.eok,t2⟩,r1.eok⟩,r2.eok⟩,u2⟩,r2.l,u3,by rw[cR,cR,cR,cR,hn.e,t4,r1.e,r2.e,u4]⟩
 cases hc:h.cond.at' c with
 |false=>
  rw[iC hc]at k1 k2 R |-;have:=PV.noneLine k1;subst this;have:q2=ap:=k2.det (PV.step0 fun r=>rfl);subst this;exact⟨ap,PV.step0 fun r=>rfl,R⟩
 |true=>
  rw[fp hc]at k1 k2 R |-;rw[hX]at h1 h2 h3 h4 h5 h6;refine⟨_,k1.step2 k2 fun r z1 z2=>?_,R⟩;simp only[aC,gM];rw[ZV h1,ZV h2,ZV h3,ZV h4,ZV h5,ZV h6];simp only[mz,z1,abI,jO];rw[z2];rfl
def CU(hts:bT ts):∀n,Good c ts (run ts n)
 |0=>fun x r e=>by cases e
 |n+1=>fun x r e y hr=>by
  have G:=CU hts n;have e:step ts (run ts n) x=some r:=e;cases hr with
  |line h1 h2=>exact If hts G e h1 h2
  |lineL h1 h2 h3 h4 h5 h6 h7=>exact EE hts G e h1 h2 h3 h4 h5 h6 h7
  |lineO h1 h2 h3 h4 h5 h6 h7=>exact FJ hts G e h1 h2 h3 h4 h5 h6 h7
  |unary h1 h2=>exact EK hts G e h1 h2
  |unaryH h1 h2 h3=>subst h3;exact Da hts G e h1 h2
  |calls h1 h3 h4 h5 h6 h7 h8 h9 aa=>subst h3;exact FL hts G e h1 h4 h5 h6 h7 h8 h9 aa
  |inside h1 h2=>exact Ck hts G e h1 h2
  |listed h1 h2=>exact Dx hts G e h1 h2
  |listL h1 h2 h3 h4 h5 h6 h7=>exact FE hts G e h1 h2 h3 h4 h5 h6 h7
  |item h1 h2=>exact IZ hts G e h1 h2
  |behind h1 h2=>exact Ee hts G e h1 h2
  |vrb h1 h2=>exact y8 hts G e h1 h2
  |function h1 h2=>exact yP hts G e h1 h2
  |block h1 h2=>exact Fq hts G e h1 h2
  |seqL h1 h2 h3 h4 h5 h6 h7=>exact HP hts G e h1 h2 h3 h4 h5 h6 h7
  |stmt h1 h2 h3=>subst h3;exact Jo hts G e h1 h2
  |sCalls h1 h3 h4 h5 h6 h7 h8 h9 aa=>subst h3;exact DM hts G e h1 h4 h5 h6 h7 h8 h9 aa
  |branch h1 h2 h3=>subst h3;exact Ej hts G e h1 h2
  |elses h1 h2 h3 h4 h5 h6 h7=>exact FC hts G e h1 h2 h3 h4 h5 h6 h7
  |ifs h1 h2 h3 h4 h5 h6 h7=>exact Nz hts G e h1 h2 h3 h4 h5 h6 h7
end
open Dg
structure SO{K:Type}(lt:K->K->Bool):Prop where
 irr:∀a,lt a a=false
 tr:∀a b c,lt a b=true->lt b c=true->lt a c=true
 tri:∀a b,lt a b=false->lt b a=false->a=b
section
variable {K:Type} {lt:K->K->Bool}
def vI(lt:K->K->Bool)(k:K):List K->List K
 | []=>[k]
 |x::l=>if lt k x then k::x::l else if lt x k then x::vI lt k l else x::l
def pZ(lt:K->K->Bool)(l:List K):List K:=l.foldr (vI lt) []
def yh(so:SO lt){k x:K}:∀{l:List K},x∈vI lt k l<->x=k\/x∈l
 | []=>by simp[vI]
 |y::l=>by
  simp only[vI];split
  ·simp
  ·split
   ·rw[aad,yh so,aad];constructor
    ·rintro(h|h|h)
     ·exact .inr (.inl h)
     ·exact .inl h
     ·exact .inr (.inr h)
    ·rintro(h|h|h)
     ·exact .inr (.inl h)
     ·exact .inl h
     ·exact .inr (.inr h)
   ·rename_i h1 h2;have:=so.tri k y (by simpa using h1) (by simpa using h2);subst this;simp
def uE(so:SO lt){k:K}:∀{l:List K},l.Pairwise (fun a b=>lt a b=true)->(vI lt k l).Pairwise (fun a b=>lt a b=true)
 | [],_=>by simp[vI]
 |y::l,h=>by
  rw[aae]at h;simp only[vI];split
  ·rename_i h1;refine List.pairwise_cons.2 ⟨fun z hz=>?_,List.pairwise_cons.2 h⟩;rcases List.mem_cons.1 hz with e|e
   ·subst e;exact h1
   ·exact so.tr _ _ _ h1 (h.1 z e)
  ·split
   ·rename_i h1 h2;refine List.pairwise_cons.2 ⟨fun z hz=>?_,uE so h.2⟩;rcases(yh so).1 hz with e|e
    ·subst e;exact h2
    ·exact h.1 z e
   ·exact List.pairwise_cons.2 h
def nv(so:SO lt){x:K}:∀{l:List K},x∈pZ lt l<->x∈l
 | []=>Iff.rfl
 |y::l=>by
  show x∈vI lt y (pZ lt l)<->_;rw[yh so,nv so,aad]
def eV(so:SO lt):∀(l:List K),(pZ lt l).Pairwise (fun a b=>lt a b=true)
 | []=>List.Pairwise.nil
 |_::l=>uE so (eV so l)
def ly(so:SO lt):∀{l m:List K},l.Pairwise (fun a b=>lt a b=true)->m.Pairwise (fun a b=>lt a b=true)->(∀x,x∈l<->x∈m)->l=m
 | [],[],_,_,_=>rfl
 | [],y::m,_,_,h=>absurd ((h y).2 (.head _)) aaB
 |x::l,[],_,_,h=>absurd ((h x).1 (.head _)) aaB
 |x::l,y::m,h1,h2,h=>by
  rw[aae]at h1 h2;have e:x=y:=by
   rcases List.mem_cons.1 ((h x).1 (.head _))with e|e
   ·exact e
   ·rcases List.mem_cons.1 ((h y).2 (.head _))with e2|e2
    ·exact e2.symm
    ·have:=so.tr _ _ _ (h1.1 y e2) (h2.1 x e);rw[so.irr]at this;cases this
  subst e;congr 1;refine ly so h1.2 h2.2 fun z=>?_;constructor
  ·intro hz;rcases List.mem_cons.1 ((h z).1 (.tail _ hz))with e|e
   ·subst e;have:=h1.1 z hz;rw[so.irr]at this;cases this
   ·exact e
  ·intro hz;rcases List.mem_cons.1 ((h z).2 (.tail _ hz))with e|e
   ·subst e;have:=h2.1 z hz;rw[so.irr]at this;cases this
   ·exact e
end
structure qT where
 slot:Int
 tok:Int
 kind:Nat
 text:bq
deriving DecidableEq
def Nd.key(n:Nd):qT:=⟨n.slot,n.tok,n.kind,n.text⟩
def zp:bq->bq->Bool
 |_,[]=>false
 | [],_::_=>true
 |a::l,b::m=>if a.toNat<b.toNat then true else if b.toNat<a.toNat then false else zp l m
def yw:SO zp where
 irr:=by
  intro a
  induction a with
  |nil=>rfl
  |cons x a ih=>simp[zp,ih]
 tr:=by
  intro a
  induction a with
  |nil=>
   intro b c h1 h2;cases c with
   |nil=>cases b<;>simp[zp]at h2
   |cons z c=>rfl
  |cons x a ih=>
   intro b c h1 h2;cases b with
   |nil=>simp[zp]at h1
   |cons y b=>
    cases c with
    |nil=>simp[zp]at h2
    |cons z c=>
     simp only[zp]at h1 h2 |-;by_cases e1:x.toNat<y.toNat
     ·by_cases e2:y.toNat<z.toNat
      ·rw[aaq ab]
      ·rw[ZV e2]at h2;by_cases e3:z.toNat<y.toNat
       ·rw[aaq e3]at h2;cases h2
       ·rw[aaq ab]
     ·rw[ZV e1]at h1;by_cases e4:y.toNat<x.toNat
      ·rw[aaq e4]at h1;cases h1
      ·rw[ZV e4]at h1;by_cases e2:y.toNat<z.toNat
       ·rw[aaq ab]
       ·rw[ZV e2]at h2;by_cases e3:z.toNat<y.toNat
        ·rw[aaq e3]at h2;cases h2
        ·rw[ZV e3]at h2;rw[ZV ab,ZV ab];exact ih b c h1 h2
 tri:=by
  intro a
  induction a with
  |nil=>
   intro b h1 h2;cases b with
   |nil=>rfl
   |cons y b=>simp[zp]at h1
  |cons x a ih=>
   intro b h1 h2;cases b with
   |nil=>simp[zp]at h2
   |cons y b=>
    simp only[zp]at h1 h2;by_cases e1:x.toNat<y.toNat
    ·rw[aaq e1]at h1;cases h1
    ·by_cases e2:y.toNat<x.toNat
     ·rw[aaq e2]at h2;cases h2
     ·rw[ZV e1,ZV e2]at h1;rw[ZV e2,ZV e1]at h2;have:x=y:=UInt8.toNat_inj.1 ab;rw[this,ih b h1 h2]
def CW(a b:qT):Bool:=
 if a.slot<b.slot then true else if b.slot<a.slot then false else
 if a.tok<b.tok then true else if b.tok<a.tok then false else
 if a.kind<b.kind then true else if b.kind<a.kind then false else zp a.text b.text
def jZ:SO CW where
 irr:=by intro a;simp[CW,yw.irr]
 tr:=by
  intro a b c;unfold CW;have ht:=yw.tr a.text b.text c.text;intro h1 h2;by_cases s:a.slot<c.slot
  ·rw[aaq s]
  ·rw[ZV s];by_cases a1:a.slot<b.slot
   ·by_cases a2:b.slot<c.slot
    ·omega
    ·rw[ZV a2,aaq (show c.slot<b.slot by omega)]at h2;cases h2
   ·rw[ZV a1]at h1;by_cases a2:b.slot<a.slot
    ·rw[aaq a2]at h1;cases h1
    ·rw[ZV a2]at h1;by_cases a3:b.slot<c.slot
     ·omega
     ·rw[ZV a3]at h2;by_cases a4:c.slot<b.slot
      ·rw[aaq a4]at h2;cases h2
      ·rw[ZV a4]at h2;rw[ZV (show ¬c.slot<a.slot by omega)];by_cases t:a.tok<c.tok
       ·rw[aaq t]
       ·rw[ZV t];by_cases b1:a.tok<b.tok
        ·by_cases b2:b.tok<c.tok
         ·omega
         ·rw[ZV b2,aaq (show c.tok<b.tok by omega)]at h2;cases h2
        ·rw[ZV b1]at h1;by_cases b2:b.tok<a.tok
         ·rw[aaq b2]at h1;cases h1
         ·rw[ZV b2]at h1;by_cases b3:b.tok<c.tok
          ·omega
          ·rw[ZV b3]at h2;by_cases b4:c.tok<b.tok
           ·rw[aaq b4]at h2;cases h2
           ·rw[ZV b4]at h2;rw[ZV (show ¬c.tok<a.tok by omega)];by_cases k:a.kind<c.kind
            ·rw[aaq k]
            ·rw[ZV k];by_cases c1:a.kind<b.kind
             ·by_cases c2:b.kind<c.kind
              ·omega
              ·rw[ZV c2,aaq (show c.kind<b.kind by omega)]at h2;cases h2
             ·rw[ZV c1]at h1;by_cases c2:b.kind<a.kind
              ·rw[aaq c2]at h1;cases h1
              ·rw[ZV c2]at h1;by_cases c3:b.kind<c.kind
               ·omega
               ·rw[ZV c3]at h2;by_cases c4:c.kind<b.kind
                ·rw[aaq c4]at h2;cases h2
                ·rw[ZV c4]at h2;rw[ZV (show ¬c.kind<a.kind by omega)];exact ht h1 h2
 tri:=by
  intro a b h1 h2;unfold CW at h1 h2;have s:a.slot=b.slot:=by
   rcases Int.lt_trichotomy a.slot b.slot with h|h|h
   ·rw[aaq h]at h1;cases h1
   ·exact h
   ·rw[aaq h]at h2;cases h2
  rw[ZV ab,ZV ab]at h1 h2;have t:a.tok=b.tok:=by
   rcases Int.lt_trichotomy a.tok b.tok with h|h|h
   ·rw[aaq h]at h1;cases h1
   ·exact h
   ·rw[aaq h]at h2;cases h2
  rw[ZV ab,ZV ab]at h1 h2;have k:a.kind=b.kind:=by
   rcases aal a.kind b.kind with h|h|h
   ·rw[aaq h]at h1;cases h1
   ·exact h
   ·rw[aaq h]at h2;cases h2
  rw[ZV ab,ZV ab]at h1 h2;have x:=yw.tri _ _ h1 h2;cases a;cases b;simp_all
def x5(a b:Int×Nat):Bool:=if a.1<b.1 then true else if b.1<a.1 then false else decide (a.2<b.2)
def jB:SO x5 where
 irr:=by intro a;simp[x5]
 tr:=by
  intro a b c;unfold x5;intro h1 h2;by_cases s:a.1<c.1
  ·rw[aaq s]
  ·rw[ZV s];by_cases a1:a.1<b.1
   ·rw[ZV (show ¬b.1<c.1 by omega),aaq (show c.1<b.1 by omega)]at h2;cases h2
   ·rw[ZV a1]at h1;by_cases a2:b.1<a.1
    ·rw[aaq a2]at h1;cases h1
    ·rw[ZV a2]at h1;rw[ZV (show ¬b.1<c.1 by omega)]at h2;by_cases a4:c.1<b.1
     ·rw[aaq a4]at h2;cases h2
     ·rw[ZV a4]at h2;rw[ZV (show ¬c.1<a.1 by omega)];simp only[aaC]at *;omega
 tri:=by
  intro a b h1 h2;unfold x5 at h1 h2;have s:a.1=b.1:=by
   rcases Int.lt_trichotomy a.1 b.1 with h|h|h
   ·rw[aaq h]at h1;cases h1
   ·exact h
   ·rw[aaq h]at h2;cases h2
  rw[ZV ab,ZV ab]at h1 h2;simp only[abp]at h1 h2;exact Prod.ext s ab
def fY(k:qT)(n:Nd):Bool:=decide (n.key=k) && decide (n.cond≠ff)
def ks(l:List Nd):List qT:=pZ CW ((l.filter fun n=>decide (n.cond≠ff)).map Nd.key)
def cZ(l:List Nd)(k:qT):List Nd:=(l.filter (fY k)).flatMap (·.kids)
def ib(l:List Nd)(k:qT):T:=(l.filter (fY k)).foldl (fun d n=>d.or n.cond) ff
def mL:Nat->List Nd->List Nd
 |0,_=>[]
 |d+1,l=>(ks l).map fun k=>⟨k.kind,k.text,k.tok,k.slot,mL d (cZ l k),ib l k⟩
mutual
def CE:Nd->Nat
 |⟨_,_,_,_,ks,_⟩=>gJ ks+1
def gJ:List Nd->Nat
 | []=>0
 |n::l=>max (CE n) (gJ l)
end
def wE(n:Nd):CE n=gJ n.kids+1:=by cases n;rfl
def oV{n:Nd}:∀{l:List Nd},n∈l->CE n<=gJ l
 | [],h=>(aaB h).elim
 |m::l,h=>by
  simp only[gJ];rcases List.mem_cons.1 h with e|e
  ·subst e;omega
  ·have:=oV e;omega
def Ht{b:Nat}:∀{l:List Nd},(∀n∈l,CE n<=b)->gJ l<=b
 | [],_=>aaL _
 |m::l,h=>by
  have h1:=h m (.head _);have h2:=Ht fun n hn=>h n (.tail _ hn);simp only[gJ];omega
variable{k:qT}{l:List Nd}
def lL{x:Nd}(h:x∈cZ l k):∃n∈l,n.key=k/\n.cond≠ff/\x∈n.kids:=by
 obtain⟨n,hn,hx⟩:=List.mem_flatMap.1 h;obtain⟨h1,h2⟩:=List.mem_filter.1 hn;simp only[fY,aao,aaC]at h2;exact⟨n,h1,h2.1,h2.2,hx⟩
def yH{d:Nat}(h:gJ l<=d+1):gJ (cZ l k)<=d:=Ht fun x hx=>by
 obtain⟨n,hn,_,_,hx⟩:=lL hx;have h1:=oV hn;rw[wE]at h1;have h2:=oV hx;omega
def rm(h:gJ l=0):l=[]:=by
 cases l with
 |nil=>rfl
 |cons n l=>simp only[gJ,wE]at h;omega
def Ha(d:Nat):mL d []=[]:=by cases d<;>rfl
def tp:∀{d e:Nat} {l:List Nd},gJ l<=d->d<=e->mL e l=mL d l
 |0,e,l,h,_=>by rw[rm (Nat.le_zero.1 h),Ha,Ha]
 |d+1,0,l,h,h2=>by omega
 |d+1,e+1,l,h,h2=>by
  simp only[mL];refine aat fun k _=>?_;rw[tp (yH h) ab]
def um:k∈ks l<->∃n∈l,n.key=k/\n.cond≠ff:=by
 unfold ks;rw[nv jZ];simp only[aaE,aaD,aaC];constructor
 ·rintro⟨n,⟨h1,h2⟩,h3⟩;exact⟨n,h1,h3,h2⟩
 ·rintro⟨n,h1,h3,h2⟩;exact⟨n,⟨h1,h2⟩,h3⟩
def WV(a b:T):Prop:=∀c,a.at' c=true->b.at' c=true
mutual
def wN:Nd->Prop
 |⟨_,_,_,_,ks,d⟩=>wL d ks
def wL:T->List Nd->Prop
 |_,[]=>True
 |d,n::l=>(WV n.cond d/\wN n)/\wL d l
end
def Fy{d:T}:wL d l<->∀n∈l,WV n.cond d/\wN n:=by
 induction l with
 |nil=>simp[wL]
 |cons n l ih=>simp[wL,ih]
def Ro(n:Nd):wN n<->wL n.cond n.kids:=by cases n;rfl
def yu{c:bP}:∀{l:List Nd} {z:T},z.ok 0->(∀n∈l,n.cond.ok 0)->(l.foldl (fun d n=>d.or n.cond) z).ok 0/\(l.foldl (fun d n=>d.or n.cond) z).at' c=(z.at' c || l.any fun n=>n.cond.at' c)
 | [],z,hz,_=>⟨hz,by simp⟩
 |n::l,z,hz,h=>by
  have hn:=h n (.head _);have:=yu (c:=c) (l:=l) (z:=z.or n.cond) (T.or_ok hz hn) fun m hm=>h m (.tail _ hm);refine⟨this.1,?_⟩;simp only[fu,List.any_cons];rw[this.2,T.or_at hz hn,Bool.or_assoc]
def Ag{c:bP}(h:iE l):(ib l k).at' c=true<->∃n∈l,n.key=k/\n.cond.at' c=true:=by
 have h1:=(yu (c:=c) (l:=l.filter (fY k)) (z:=ff) trivial fun n hn=>(fW.1 (ik.1 h n (List.mem_filter.1 hn).1)).1).2;unfold ib;rw[h1,BL,abw,List.any_eq_true];simp only[aaD,fY,aao,aaC];constructor
 ·rintro⟨n,⟨h1,h2,_⟩,h3⟩;exact⟨n,h1,h2,h3⟩
 ·rintro⟨n,h1,h2,h3⟩;exact⟨n,⟨h1,h2,fun e=>by rw[e]at h3;cases h3⟩,h3⟩
def tW{c:bP}{m:Nd}:∀{l:List Nd},m∈pL c l<->∃n∈l,n.cond.at' c=true/\m={ n with kids:=pL c n.kids,cond:=tt }
 | []=>by simp[pL]
 |n::l=>by
  rw[cM];split
  ·rename_i h;simp only[aad,tW (l:=l)];constructor
   ·rintro(e|⟨x,h1,h2,h3⟩)
    ·exact⟨n,.inl rfl,h,e⟩
    ·exact⟨x,.inr h1,h2,h3⟩
   ·rintro⟨x,e|h1,h2,h3⟩
    ·subst e;exact .inl h3
    ·exact .inr ⟨x,h1,h2,h3⟩
  ·rename_i h;simp only[tW (l:=l),aad];constructor
   ·rintro⟨x,h1,h2,h3⟩;exact⟨x,.inr h1,h2,h3⟩
   ·rintro⟨x,e|h1,h2,h3⟩
    ·subst e;exact absurd h2 h
    ·exact⟨x,h1,h2,h3⟩
def Nc:tt≠ff:=by decide
def Bi{c:bP}:∀{l:List Nd},(∀n∈l,n.cond.at' c=false)->pL c l=[]
 | [],_=>rfl
 |n::l,h=>by
  rw[cM,h n (.head _),ZV bg,Bi fun m hm=>h m (.tail _ hm)]
def IL{c:bP}(hw:∀n∈l,wN n):pL c (cZ l k)=cZ (pL c l) k:=by
 unfold cZ
 induction l with
 |nil=>rfl
 |cons n l ih=>
  have hn:=(Ro n).1 (hw n (.head _));have h2:=ih fun m hm=>hw m (.tail _ hm);rw[cM];by_cases hc:n.cond.at' c=true
  ·rw[aaq hc];have aa:n.cond≠ff:=fun e=>by rw[e]at hc;cases hc
   by_cases hk:n.key=k
   ·have e1:fY k n=true:=by simp[fY,hk,aa]
    have e2:fY k { n with kids:=pL c n.kids,cond:=tt }=true:=by
     have:Nd.key { n with kids:=pL c n.kids,cond:=tt }=n.key:=rfl;simp[fY,this,hk,Nc]
    rw[List.filter_cons_of_pos e1,List.filter_cons_of_pos e2,abg,abg,fq,h2]
   ·have e1:¬fY k n=true:=by simp[fY,hk]
    have e2:¬fY k { n with kids:=pL c n.kids,cond:=tt }=true:=by
     have:Nd.key { n with kids:=pL c n.kids,cond:=tt }=n.key:=rfl;simp[fY,this,hk]
    rw[List.filter_cons_of_neg e1,List.filter_cons_of_neg e2,h2]
  ·rw[ZV hc];by_cases e1:fY k n=true
   ·rw[List.filter_cons_of_pos e1,abg,fq,h2,Bi,aaA];intro m hm;cases e:m.cond.at' c with
    |false=>rfl
    |true=>exact absurd ((Fy.1 hn m hm).1 c e) hc
   ·rw[List.filter_cons_of_neg e1,h2]
def vv{K:Type}{R:K->K->Prop}{p:K->Bool}{l:List K}(h:l.Pairwise R):(l.filter p).Pairwise R:=h.sublist List.filter_sublist
def RP{c:bP}(ho:iE l):(ks l).filter (fun k=>(ib l k).at' c)=ks (pL c l):=by
 refine ly jZ (vv (eV jZ _)) (eV jZ _) fun k=>?_;rw[aaD,Ag ho,um,um];constructor
 ·rintro⟨_,n,h1,h2,h3⟩;exact⟨_,tW.2 ⟨n,h1,h3,rfl⟩,h2,Nc⟩
 ·rintro⟨m,h1,h2,h3⟩;obtain⟨n,h4,h5,e⟩:=tW.1 h1;have h6:n.key=k:=by rw[<-h2,e];rfl
  exact⟨⟨n,h4,h6,fun e=>by rw[e]at h5;cases h5⟩,n,h4,h6,h5⟩
def rZ(h:iE l):iE (cZ l k):=ik.2 fun x hx=>by
 obtain⟨n,hn,_,_,hx⟩:=lL hx;exact ik.1 (fW.1 (ik.1 h n hn)).2 x hx
def IT{c:bP}(ho:iE l)(h:(ib l k).at' c=true):ib (pL c l) k=tt:=by
 have key:∀(m:List Nd),(∀n∈m,n.cond=tt)->∀z:T,(z=tt\/m≠[])->(z=tt\/z=ff)->m.foldl (fun d n=>d.or n.cond) z=tt:=by
  intro m
  induction m with
  |nil=>intro _ z h _;exact h.resolve_right fun h=>h rfl
  |cons n m ih=>
   intro hm z _ hz;simp only[fu];have e:z.or n.cond=tt:=by rw[hm n (.head _)];rcases hz with e|e<;>subst e<;>rfl
   exact ih (fun x hx=>hm x (.tail _ hx)) _ (.inl e) (.inl e)
 obtain⟨n,h1,h2,h3⟩:=(Ag ho).1 h;refine key _ (fun m hm=>?_) ff (.inr fun e=>?_) (.inr rfl)
 ·obtain⟨x,_,_,e⟩:=tW.1 (List.mem_filter.1 hm).1;rw[e]
 ·have:({ n with kids:=pL c n.kids,cond:=tt }:Nd)∈(pL c l).filter (fY k):=List.mem_filter.2 ⟨tW.2 ⟨n,h1,h3,rfl⟩,by
   have:Nd.key { n with kids:=pL c n.kids,cond:=tt }=n.key:=rfl;simp[fY,this,h2,Nc]⟩
  rw[e]at this;exact aaB this
def L9{α:Type}{c:bP}{g:α->Nd}:∀(l:List α),pL c (l.map g)=(l.filter fun a=>(g a).cond.at' c).map fun a=>{ g a with kids:=pL c (g a).kids,cond:=tt }
 | []=>rfl
 |a::l=>by
  rw[aaU,cM,L9 l,aby];split<;>rfl
def HR(h:∀n∈l,wN n):∀n∈cZ l k,wN n:=fun x hx=>by
 obtain⟨n,hn,_,_,hx⟩:=lL hx;exact(Fy.1 ((Ro n).1 (h n hn)) x hx).2
def Lv(c:bP):∀(d:Nat) {l:List Nd},iE l->(∀n∈l,wN n)->pL c (mL d l)=mL d (pL c l)
 |0,_,_,_=>rfl
 |d+1,l,ho,hw=>by
  simp only[mL];rw[L9,RP ho];refine aat fun k hk=>?_;rw[<-RP ho,aaD]at hk;rw[IT ho hk.2];show (⟨k.kind,k.text,k.tok,k.slot,pL c (mL d (cZ l k)),tt⟩:Nd)=_;rw[Lv c d (rZ ho) (HR hw),IL hw]
mutual
def nX(d:T):List Nd->List Nd
 | []=>[]
 |n::l=>match YC d n with
  |some m=>m::nX d l
  |none=>nX d l
def YC (d:T):Nd->Option Nd
 |⟨k,t,o,s,ks,c⟩=>if c.and d=ff then none else some ⟨k,t,o,s,nX (c.and d) ks,c.and d⟩
end
def qe(d:T)(n:Nd)(l:List Nd):nX d (n::l)=if n.cond.and d=ff then nX d l else { n with kids:=nX (n.cond.and d) n.kids,cond:=n.cond.and d }::nX d l:=by
 cases n;simp only[nX,YC];split<;>rename_i h<;>split at h<;>simp_all
def mY:∀(l:List Nd) (d:T),d.ok 0->iE l->iE (nX d l)/\wL d (nX d l)/\(∀n∈nX d l,n.cond≠ff)/\∀c,pL c (nX d l)=if d.at' c then pL c l else []
 | [],d,hd,ho=>⟨trivial,trivial,fun n h=>(aaB h).elim,fun c=>by simp[nX,pL]⟩
 |⟨k,t,o,s,ks,e⟩::l,d,hd,ho=>by
  have hn:=ho.1;have he:e.ok 0:=hn.1;have aa:(e.and d).ok 0:=T.and_ok he hd;obtain⟨a1,a2,a3,a4⟩:=mY l d hd ho.2;rw[qe];show iE (if e.and d=ff then _ else _)/\_;by_cases hf:e.and d=ff
  ·rw[aaq hf];refine⟨a1,a2,a3,fun c=>?_⟩;rw[a4,cM];split
   ·rename_i ac;have:(e.and d).at' c=false:=by rw[hf];rfl
    rw[T.and_at he hd,ac,abv]at this;show _=if e.at' c then _ else _
    rw[this];rfl
   ·rfl
  ·rw[ZV hf];obtain⟨b1,b2,b3,b4⟩:=mY ks (e.and d) aa hn.2;refine⟨⟨⟨aa,b1⟩,a1⟩,⟨⟨fun c hc=>?_,b2⟩,a2⟩,fun n hn=>?_,fun c=>?_⟩
   ·rw[T.and_at he hd,aao]at hc;exact hc.2
   ·rcases List.mem_cons.1 hn with x|x
    ·subst x;exact hf
    ·exact a3 n x
   ·rw[cM,cM,a4,b4];show (if (e.and d).at' c then _ else _)=if d.at' c then (if e.at' c then _ else _)else []
    rw[T.and_at he hd];cases ac:d.at' c<;>cases ag:e.at' c<;>simp
 termination_by l=>sizeOf l
def Un(e:List cO):List (Int×Nat):=pZ x5 ((e.filter fun d=>decide (d.cond≠ff)).map fun d=>(d.tok,d.code))
def M8(k:Int×Nat)(d:cO):Bool:=decide ((d.tok,d.code)=k) && decide (d.cond≠ff)
def uO(e:List cO)(k:Int×Nat):T:=(e.filter (M8 k)).foldl (fun t d=>t.or d.cond) ff
def Eo(e:List cO):List cO:=(Un e).map fun k=>⟨k.2,k.1,uO e k⟩
def yb{c:bP}:∀{l:List cO} {z:T},z.ok 0->(∀n∈l,n.cond.ok 0)->(l.foldl (fun t d=>t.or d.cond) z).ok 0/\(l.foldl (fun t d=>t.or d.cond) z).at' c=(z.at' c || l.any fun n=>n.cond.at' c)
 | [],z,hz,_=>⟨hz,by simp⟩
 |n::l,z,hz,h=>by
  have hn:=h n (.head _);have:=yb (c:=c) (l:=l) (z:=z.or n.cond) (T.or_ok hz hn) fun m hm=>h m (.tail _ hm);refine⟨this.1,?_⟩;simp only[fu,List.any_cons];rw[this.2,T.or_at hz hn,Bool.or_assoc]
variable{e:List cO}
def DP{k:Int×Nat}{c:bP}(h:Ce e):(uO e k).at' c=true<->∃d∈e,(d.tok,d.code)=k/\d.cond.at' c=true:=by
 have h1:=(yb (c:=c) (l:=e.filter (M8 k)) (z:=ff) trivial fun n hn=>h n (List.mem_filter.1 hn).1).2;unfold uO;rw[h1,BL,abw,List.any_eq_true];simp only[aaD,M8,aao,aaC];constructor
 ·rintro⟨n,⟨h1,h2,_⟩,h3⟩;exact⟨n,h1,h2,h3⟩
 ·rintro⟨n,h1,h2,h3⟩;exact⟨n,⟨h1,h2,fun e=>by rw[e]at h3;cases h3⟩,h3⟩
def NX(c:bP)(e:List cO):List cO:=(e.filter fun d=>d.cond.at' c).map fun d=>{ d with cond:=tt }
def TY(c:bP)(h:Ce e):NX c (Eo e)=(pZ x5 ((pE c e).map fun x=>(x.2,x.1))).map fun k=>⟨k.2,k.1,tt⟩:=by
 unfold NX Eo;rw[List.filter_map,aas];show ((Un e).filter fun k=>(uO e k).at' c).map (fun k=>(⟨k.2,k.1,tt⟩:cO))=_;congr 1;refine ly jB (vv (eV jB _)) (eV jB _) fun k=>?_;rw[aaD,DP h,nv jB];unfold Un;rw[nv jB];simp only[pE,aas,aaE,aaD,aaC,Function.comp];constructor
 ·rintro⟨_,d,h1,h2,h3⟩;exact⟨d,⟨h1,h3⟩,h2⟩
 ·rintro⟨d,⟨h1,h3⟩,h2⟩;exact⟨⟨d,⟨h1,fun e=>by rw[e]at h3;cases h3⟩,h2⟩,d,h1,h2,h3⟩
open Dg
structure Tr where
 kids:List Nd
 diags:List cO
def prj(c:bP)(t:Tr):Tr:=⟨pL c t.kids,NX c t.diags⟩
def pI(r:bW):List Nd:=[⟨1,[],-1,0,nX (ii r.f) r.l,ii r.f⟩]
def iW:Nat:=2^50
def Rx(ts:List Tok)(w:T)(t:Tr):Prop:=
 w=ff/\t=⟨[],[]⟩\/w≠ff/\∃r,run ts iW (.seqL true 0 [(0,w)] [] [])=some r/\t=⟨mL (gJ (pI r)) (pI r),Eo r.e⟩
def sS{c:bP}{f:ar}(hf:cq f):(ii f).ok 0/\(ii f).at' c=!(eS c f).isEmpty:=by
 have key:∀(f:ar) (z:T),(∀s∈f,s.2.ok 0)->z.ok 0->(f.foldl (fun d s=>d.or s.2) z).ok 0/\(f.foldl (fun d s=>d.or s.2) z).at' c=(z.at' c || !(eS c f).isEmpty):=by
  intro f
  induction f with
  |nil=>intro z _ hz;exact⟨hz,by simp[eS]⟩
  |cons s f ih=>
   intro z h hz;have hs:=h s (.head _);obtain⟨h1,h2⟩:=ih (z.or s.2) (fun t ht=>h t (.tail _ ht)) (T.or_ok hz hs);refine⟨h1,?_⟩;simp only[fu];rw[h2,T.or_at hz hs,fd];cases z.at' c<;>cases s.2.at' c<;>simp
 obtain⟨h1,h2⟩:=key f ff (fun s hs=>(hf.1 s hs).1) trivial;exact⟨h1,by show (f.foldl _ ff).at' c=_;rw[h2];rfl⟩
variable{r:bW}
def E7(hf:cq r.f)(hl:iE r.l):iE (pI r)/\∀n∈pI r,wN n:=by
 have h1:=(sS (c:=fun _=>false) hf).1;obtain⟨a1,a2,_,_⟩:=mY r.l _ h1 hl;refine⟨⟨⟨h1,a1⟩,trivial⟩,fun n hn=>?_⟩;simp only[pI,List.mem_singleton]at hn;subst hn;exact a2
def Nm{c:bP}{p:Option Nat}(hf:cq r.f)(hl:iE r.l)(hp:At c r.f p):pL c (pI r)=if p.isSome then [⟨1,[],-1,0,pL c r.l,tt⟩]else []:=by
 obtain⟨h1,h2⟩:=sS (c:=c) hf;unfold pI;rw[gm];have e:(ii r.f).at' c=p.isSome:=by
  rw[h2,show eS c r.f=p.toList from hp];cases p<;>rfl
 show (if (ii r.f).at' c=true then _ else _)=_;rw[e,(mY r.l _ h1 hl).2.2.2 c,e];cases p<;>rfl
variable{w:T}
def Dl(hw:w.ok 0)(aa:w≠ff):cq [(0,w)]:=⟨fun s hs=>by simp at hs;subst hs;exact⟨hw,aa⟩,by simp⟩
def Mg(c:bP)(w:T):At c [(0,w)] (if w.at' c then some 0 else none):=At.one c 0 w
def jR{ts:List Tok}(hts:bT ts)(hw:w.ok 0)(aa:w≠ff){n:Nat}(e:run ts n (.seqL true 0 [(0,w)] [] [])=some r)(c:bP):
  ∃q,PV c ts (.seqL true 0 (if w.at' c then some 0 else none) [] none) q/\RR c r q:=
 CU hts n _ _ e _ (.seqL (Dl hw aa) (Mg c w) trivial rfl cq.nil (At.nil c) (.inr rfl))
def Fj(c:bP):∀(l:List Nd),gJ (pL c l)<=gJ l
 | []=>ZR _
 |⟨k,t,o,s,ks,d⟩::l=>by
  have h1:=Fj c ks;have h2:=Fj c l;rw[cM];split
  ·simp only[gJ,CE];omega
  ·simp only[gJ,CE];omega
def eZ(q:PR):Tr:=⟨mL (gJ q.l+1) (if q.p.isSome then [⟨1,[],-1,0,q.l,tt⟩]else []),(pZ x5 (q.e.map fun x=>(x.2,x.1))).map fun k=>⟨k.2,k.1,tt⟩⟩
def ug{ts:List Tok}(hts:bT ts)(hw:w.ok 0){t:Tr}(h:Rx ts w t){c:bP}(hc:w.at' c=true):∃q,PV c ts (.seqL true 0 (some 0) [] none) q/\prj c t=eZ q:=by
 rcases h with ⟨e,_⟩|⟨aa,r,er,et⟩
 ·rw[e]at hc;cases hc
 ·obtain⟨q,hq,R⟩:=jR hts hw aa er c;rw[hc]at hq;refine⟨q,hq,?_⟩;subst et;unfold prj eZ;obtain⟨o1,o2⟩:=E7 R.fok R.lok;have e1:pL c (mL (gJ (pI r)) (pI r))=mL (gJ q.l+1) (if q.p.isSome then [⟨1,[],-1,0,q.l,tt⟩]else []):=by
   rw[Lv c _ o1 o2];have hd:=Fj c (pI r);rw[Nm R.fok R.lok R.f,R.l]at hd |-;generalize gJ (pI r)=D at hd;rw[tp (ZR _) hd];refine(tp (ZR _) ?_).symm;split<;>simp[gJ,CE]
  have e2:NX c (Eo r.e)=(pZ x5 (q.e.map fun x=>(x.2,x.1))).map fun k=>⟨k.2,k.1,tt⟩:=by
   rw[TY c R.eok,R.e]
  show (⟨pL c (mL (gJ (pI r)) (pI r)),NX c (Eo r.e)⟩:Tr)=_;rw[e1,e2]
def NZ{ts:List Tok}(hts:bT ts){v:T}(hw:w.ok 0)(hv:v.ok 0){t u:Tr}(h:Rx ts w t)(k:Rx ts v u){c:bP}(hc:w.at' c=true)(hd:v.at' c=true):prj c t=prj c u:=by
 obtain⟨q,h1,h2⟩:=ug hts hw h hc;obtain⟨s,k1,k2⟩:=ug hts hv k hd;rw[h2,k2,h1.det k1]
def PV.noneSeq{c:bP}{ts:List Tok}{top:Bool}{o:Nat}{out:Option Nat}{q:PR}(h:PV c ts (.seqL top o none l out) q):q=⟨l,out,[]⟩:=by
 refine h.det (PV.step0 fun r=>?_);rfl
def EX{ts:List Tok}(hw:w.ok 0)(aa:w≠ff):lX ts (.seqL true 0 [(0,w)] [] []):=
 ⟨⟨Dl hw aa,fun s hs=>by simp at hs;subst hs;exact aaL _⟩,FN.nil _⟩
def IU{ts:List Tok}(w:T)(hl:ts.length<=16384):cU ts (.seqL true 0 [(0,w)] [] [])<=aN:=by
 have h:=w.card_le;have:w.card*(ts.length+1)<=2^24*16385:=Nat.mul_le_mul h ab;simp only[cU,fO,dO,lp,aaO,Nat.sub_zero];unfold aN;omega
def Kx{ts:List Tok}(w:T)(hl:ts.length<=16384):mu ts (.seqL true 0 [(0,w)] [] [])<iW:=by
 have h:=w.card_le;have:w.card*(ts.length+1)<=2^24*16385:=Nat.mul_le_mul h ab;simp only[mu,fO,dO,lp,Nat.sub_zero];unfold iW;omega
def Jd{ts:List Tok}(hts:bT ts)(hw:w.ok 0)(aa:w≠ff)(hl:ts.length<=16384):∃r,run ts iW (.seqL true 0 [(0,w)] [] [])=some r/\FN ts.length r.f/\r.e.length<=aN/\r.l.length<=aN:=by
 have hb:=IU w hl;obtain⟨r,er,q1,q2⟩:=G2 hts iW _ (EX hw aa) hb (Kx w hl);exact⟨r,er,q1,ab,ab⟩
def WM(l:List Tr):Tr:=⟨mL (gJ (l.flatMap (·.kids))) (l.flatMap (·.kids)),Eo (l.flatMap (·.diags))⟩
def cO.key(d:cO):Int×Nat:=(d.tok,d.code)
end Syn
namespace Go.Proofs.YtfaclfkpnmcmlaaGreatDoor
open Go Go.Sx Dg Syn
def CH{I A:PH}{v:Value}{n:Nd}{l:List Nd}(h:bQ I A v (n::l)):∃g cap cur a k,v=.slice (some ⟨g,0,none⟩) (l.length+1) cap/\A=sg g (.cells cur 60 (0,0))/\7<=cur.size/\aP A g 5 [sD a k n.cond,rD n.cond]/\cX I (.agg #[sD a k n.cond,rD n.cond]) n.cond/\
  ∀(J:PH) (b:Option Addr) (c:Nat) (d:T),I.le J->cX J (.agg #[sD b c d,rD d]) d->bQ J (sg g (.cells (br cur.toList 5 [sD b c d,rD d]).toArray 60 (0,0))) v ({ n with cond:=d }::l):=by
 obtain⟨g,cap,cur,xs,ev,rfl,c1,c2,c3,c4,c5,aj⟩:=h.open' (by simp) bm.len;simp only[aaj]at ev c1 c4 c5;have ak:=aj.get bm.len (i:=0) (a:=n) rfl;obtain⟨kv,na,nk,an,ag,ac,al⟩:=ak.shape;have ao:(l.length+1)*7<=cap*7:=aaQ _ c1;have aa:=gQ (k:=5) (m:=2) (e:=60) (g:=g) (cur:=cur) bm.len aj (i:=0) (by simp) (by simp;omega) (by simpa using c4) an ab;simp only[abx,aa1,abA,abz,Nat.zero_mul,ZZ]at aa;refine⟨g,cap,cur,na,nk,ev,rfl,ab,aa,ag,fun J b c d am hr=>?_⟩;have e:=om bm.len (aj.mono fun _ _ h=>bm.le h am) (i:=0) (by simp) an (k:=5) (cs:=[sD b c d,rD d]) (a:={ n with cond:=d }) (by simp) (bm.mk (n:={ n with cond:=d }) hr (eE.le ac am) al);simp only[Nat.zero_mul,ZZ,abR]at e;refine⟨_,?_,e⟩;rw[ev];exact oI (by simpa using c5) c1 c2 c3 c4 (by simp;omega)
theorem zo(n:Nd)(l:List Nd)(d:T):kJ (n::l) d={ n with cond:=n.cond.and d.not }::l:=rfl
end Go.Proofs.YtfaclfkpnmcmlaaGreatDoor
