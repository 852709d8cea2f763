import Derived.Test.YtfaclfkpnmcmlaaGreatDoorE22
set_option maxHeartbeats 8000000
set_option linter.all false
namespace Go.Proofs.YtfaclfkpnmcmlaaGreatDoor
open Go Go.Sx Dg Syn
section
variable {c:bP} {ts:List Syn.Tok} {lv xv:Value} {o:Nat} {e:List (Nat×Int)} {p:Option Nat} {s:PS}
variable{n:Nat}
def rr.two{x:dB}{q:PR}(h:rr c ts (n+1) x q){y:dB}(hy:∀r:oS,aC c ts r x=r y):rr c ts n y q:=by
 obtain⟨m,_,h1,h2⟩:=h.step;rw[hy]at h1;exact h2 _ _ h1
def rr.up{x:dB}{q:PR}(h:rr c ts n x q):rr c ts (n+1) x q:=by
 obtain⟨m,h1,h2⟩:=h;exact⟨m,ab,h2⟩
def gW{α β:Type}{a:Option α}{f:α->Option β}{b:β}(h:a.bind f=some b):∃x,a=some x/\f x=some b:=Option.bind_eq_some_iff.1 h
variable{ms:List Nd}{ps:List (Nat×Value)}
def jV.of{J:PH}{b m:Nat}(h:qP J ps ms)(hb:J b=some (.cells (aD ps).toArray 67 (0,0)))(hm:m=ms.length):jV J (.slice (some ⟨b,0,none⟩) m m) ms:=by
 subst hm;exact⟨_,_,rfl,.inr ⟨b,0,aD ps,rfl,az hb (by simp) (by simp),h.1⟩⟩
def qP.le{J J':PH}(h:qP J ps ms)(k:J.le J'):qP J' ps ms:=⟨h.1.mono fun _ _ h=>iS.le h k,h.2⟩
variable{u:Nat}
def jM{is:Nat->Bool}(h:is (nx c ts u)=true):qz c ts (some u) is=some (nx c ts u):=by unfold qz;simp[Option.filter,h]
def jA{is:Nat->Bool}(h:is (nx c ts u)=false):qz c ts (some u) is=none:=by unfold qz;simp[Option.filter,h]
variable{i:Nat}
def kA{x:bq}(h:X ts i=x):pi ts x i=true:=abU h
def kD{x:bq}(h:X ts i≠x):pi ts x i=false:=abT h
def xy{o slot:Nat}{i g:Option Nat}{l:List Nd}{b:PR}(h:bS c ts n (.calls o i slot none l g)=some b):b=⟨l,g,[]⟩:=by
 cases n with
 |zero=>cases h
 |succ n=>cases i<;>exact(aaZ h).symm
def xh{kd slot:Nat}{n:Nd}(hi:nx c ts i=i)(h:(aI ts c (some i) kd slot).p=some u)(hn:(aI ts c (some i) kd slot).l=[n]):n=⟨kd,X ts i,(i:Nat),slot,[],tt⟩/\(aI ts c (some i) kd slot).e=[]:=by
 unfold aI at h hn |-;simp only[Z9,hi]at h hn |-;split at h
 ·cases h
 ·rename_i hc;rw[ZV hc]at hn |-;simp only[abB,abC]at hn;exact⟨hn.symm,rfl⟩
theorem Pj(hU:GU c ts lv xv (rr c ts n))(cs:GI c ts lv xv (rr c ts n))(hA:GA c ts lv xv (rr c ts n)):GU c ts lv xv (rr c ts (n+1)):=by
 intro slot pb I s t o e q hI h _ b2 hd;have hr:=b2.two (y:=.unaryH o (some (nx c ts t)) slot) fun r=>rfl;clear b2;have hr:=rr.up hr;obtain⟨m,hm,hs,b1⟩:=hr.step;have aa:fZ c ts (bS c ts m) o (some (nx c ts t)) slot=some q:=hs;clear hs hr;have hx:mB (fG c ts) s.pos=X ts (nx c ts t):=h.tx;have hk:=h.kd;have b8:=h.tk;have hl:=hI.len;have e1:=pB (ZS h.le hl);have hb:s.bad=false:=h.2.1;have h':=h.nx;have cc:o<=64:=h.2.2.2.2.2.1;refine iz Tryz.func155 rfl (by simp[Tryz.ntmps155,aU]) fun w0=>?_;simp only[Tryz.ntmps155,aU,pt];refine aT ?_;refine ad hd [0] [sg pb _] [] rfl dq rfl (eN hI h.le) fun v I2 qs b4 am hq=>?_;obtain⟨rfl,rfl⟩:=hq;simp only[Z3]at b4 |-;refine aT ?_;refine ad b4 [0] [sg pb _] [] rfl km rfl (qU (hI.le am) h.le) fun v I3 qs a7 cl hq=>?_;obtain⟨rfl,rfl,rfl⟩:=hq;simp only[Z3]at a7 |-;refine dP ?_;refine XN (l:=[.bool s.bad]) rfl (qQ a7) (.inr ⟨Ep,rfl⟩) ?_;have ba:=gL.le hI am;rw[hx,b8];unfold fZ at aa;simp only at aa;have aS:X ts (nx c ts t)≠[]->Sg c ts { s with pos:=s.pos+1 } (some (nx c ts t+1)) o e:=fun cd=>h.adv (by rw[show pS c ts s=_ from hx];exact cd);by_cases hu:X ts (nx c ts t)=Fg\/X ts (nx c ts t)=jS
 ·rw[aaq hu]at aa;have aq:X ts (nx c ts t)≠[]:=by rcases hu with hu|hu<;>rw[hu]<;>decide
  have ag:(X ts (nx c ts t) == [33])=true\/((X ts (nx c ts t) == [33])=false/\(X ts (nx c ts t) == [45])=true):=by
   rcases hu with hu|hu<;>rw[hu]
   ·exact .inl bg
   ·exact .inr bg
  obtain⟨a,e2,bC,f1,f2,f3⟩:∃(a:PR) (e2:List (Nat×Int)),(∀J,Ex c ts J lv xv->aK Tryz.prog 155 #[pt pb,.int .i64 0] J [sg pb (bG lv xv ts.length (iB c ts s (X ts (nx c ts t))))] (JH c ts pb lv xv a (o+1) e2))/\a.p=q.p/\e2++a.e=e++q.e/\∀t' k,a.p=some t'->a.l=[k]->q.l=[⟨14,X ts (nx c ts t),(nx c ts t:Nat),slot,[k],tt⟩]:=by
   by_cases ho:o=64
   ·rw[aaq ho]at aa;cases aa
    exact⟨ap,_,fun J hJ=>G3 0 pb J _ _ _ hJ (h.enter2 rfl ho (o+1)),rfl,by simp[ap],fun t' k hk=>by cases hk⟩
   ·rw[ZV ho]at aa;obtain⟨a,ha,bd⟩:=gW aa;cases bd
    exact⟨a,e,fun J hJ=>hU 0 pb J _ _ _ _ _ hJ (h.enter3 rfl aq ho) trivial (b1 _ _ ha),rfl,rfl,fun t' k h1 h2=>by simp only[h2]⟩
  rcases ag with h1|⟨h1,h2⟩
  apply RG;simp only[go_sem,hb,h1]
  rotate_left
  apply RG;simp only[go_sem,hb,h1,h2]
  all_goals
   refine ad a7 [0] [sg pb _] [] rfl sf rfl (si (x:=X ts (nx c ts t)) ba h.le) fun v I4 qs aj ac a5=>?_;obtain rfl:=a5;simp only[Z3]at aj |-;refine aT ?_;refine ad aj [0] [sg pb _] [] rfl Ax rfl (bC _ (gL.le ba ac)) fun v I5 qs ak an bs=>?_;obtain⟨s5,n5,vk5,rfl,g5,rfl,bb,a6⟩:=bs;obtain⟨ka5,kc5,rfl,_⟩:=id bb;simp only[Z3]at ak |-;apply RG;simp only[go_sem,cG];refine ax ak (by exact kH) rfl rfl rfl rfl rfl bg fun nb I6 a3 al cf=>?_;refine aT ?_;refine XN (l:=[.int .i64 s5.opn]) rfl (qQ a3) (.inr ⟨jq,rfl⟩) ?_;refine aT ?_;refine bw a3 rfl rfl rfl rfl rfl (by exact uZ) (by simp) fun bc=>?_;refine aT ?_;have g6:=g5.dec;rw[f1,f2]at g6;exact af rfl bc (r:=[cG ⟨14,X ts (nx c ts t),(nx c ts t:Nat),slot,[n5],tt⟩ (.slice (some ⟨nb,0,none⟩) 1 1) eQ]) (by simp only[Tryz.results155,go_sem,iv,cG]) (Em am ac an al) ⟨_,_,_,rfl,g6,rfl,jV.of ((qP.one bb).le al) cf rfl,fun t' ht=>f3 t' n5 (by rw[f1];exact ht) (a6 t' (by rw[f1];exact ht))⟩
 rw[ZV hu]at aa;have h1:(X ts (nx c ts t) == [33])=false:=beq_false_of_ne fun h=>hu (.inl h);have h2:(X ts (nx c ts t) == [45])=false:=beq_false_of_ne fun h=>hu (.inr h);by_cases hp:X ts (nx c ts t)=eM
 ·rw[aaq hp]at aa;have h3:(X ts (nx c ts t) == [40])=true:=by rw[hp];decide
  apply RG;simp only[go_sem,hb,h1,h2,h3];refine ad a7 [0] [sg pb _] [] rfl AI rfl (cs slot pb I3 _ _ _ _ q ba h' trivial (b1 _ _ aa)) fun v I4 qs aj ac a5=>?_;obtain⟨s4,n4,vk4,rfl,g4,rfl,b3,cj⟩:=a5;obtain⟨ka4,kc4,rfl,_⟩:=id b3;simp only[Z3]at aj |-;apply RG;simp only[go_sem,cG];exact af rfl aj (r:=[cG n4 (.slice ka4 n4.kids.length kc4) eQ]) (by simp only[Tryz.results155,go_sem,iv,cG]) (abV am ac) ⟨s4,n4,_,rfl,g4,rfl,b3,cj⟩
 rw[ZV hp]at aa;have h3:(X ts (nx c ts t) == [40])=false:=beq_false_of_ne hp;apply RG;simp only[go_sem,hb,h1,h2,h3];refine ad a7 [0] [sg pb _] [] rfl AB rfl (EV ba h.le) fun v I4 qs aj ac a5=>?_;obtain⟨rfl,rfl⟩:=a5;simp only[Z3]at aj |-;rw[hk];have b6:=gL.le ba ac;have k4:=abV am ac;by_cases h2k:K ts (nx c ts t)=2
 ·rw[aaq h2k]at aa;cases aa
  have h4:((K ts (nx c ts t):Int) == 2)=true:=by rw[h2k];rfl
  have aq:X ts (nx c ts t)≠[]:=by rw[<-hx];exact Li hI (by rw[hk,h2k];decide)
  apply RG;simp only[go_sem,h4];refine XN (l:=[iv s.pos]) rfl (qQ aj) (.inr ⟨jq,rfl⟩) ?_;apply RG;simp only[go_sem,iv,e1];refine bw aj rfl rfl rfl rfl rfl (by exact uZ) (by simp) fun ak=>?_;refine aT ?_;exact af rfl ak (r:=[cG ⟨15,X ts (nx c ts t),(nx c ts t:Nat),slot,[],tt⟩ eQ eQ]) (by simp only[Tryz.results155,go_sem,iv,cG]) k4 ⟨_,_,_,rfl,by simpa using aS aq,rfl,jV.nil _,fun _ _=>rfl⟩
 rw[ZV h2k]at aa;have h4:((K ts (nx c ts t):Int) == 2)=false:=beq_false_of_ne ab;by_cases a1:X ts (nx c ts t)=pH\/X ts (nx c ts t)=mK
 ·rw[aaq a1]at aa;cases aa
  have aq:X ts (nx c ts t)≠[]:=by rcases a1 with h|h<;>rw[h]<;>decide
  have ag:(X ts (nx c ts t) == [116,114,117,101])=true\/((X ts (nx c ts t) == [116,114,117,101])=false/\(X ts (nx c ts t) == [102,97,108,115,101])=true):=by
   rcases a1 with h|h<;>rw[h]
   ·exact .inl bg
   ·exact .inr bg
  rcases ag with h5|⟨h5,h6⟩
  apply RG;simp only[go_sem,h4,h5]
  rotate_left
  apply RG;simp only[go_sem,h4,h5,h6]
  all_goals
   refine XN (l:=[iv s.pos]) rfl (qQ aj) (.inr ⟨jq,rfl⟩) ?_;apply RG;simp only[go_sem,iv,e1];refine bw aj rfl rfl rfl rfl rfl (by exact uZ) (by simp) fun ak=>?_;refine aT ?_;exact af rfl ak (r:=[cG ⟨16,X ts (nx c ts t),(nx c ts t:Nat),slot,[],tt⟩ eQ eQ]) (by simp only[Tryz.results155,go_sem,iv,cG]) k4 ⟨_,_,_,rfl,by simpa using aS aq,rfl,jV.nil _,fun _ _=>rfl⟩
 rw[ZV a1]at aa;have h5:(X ts (nx c ts t) == [116,114,117,101])=false:=beq_false_of_ne fun h=>a1 (.inl h);have h6:(X ts (nx c ts t) == [102,97,108,115,101])=false:=beq_false_of_ne fun h=>a1 (.inr h);by_cases a4:X ts (nx c ts t)=qX
 ·rw[aaq a4]at aa;cases aa
  have aq:X ts (nx c ts t)≠[]:=by rw[a4];decide
  have h7:(X ts (nx c ts t) == [114,101,97,100])=true:=by rw[a4];decide
  apply RG;simp only[go_sem,h4,h5,h6,h7];refine XN (l:=[iv s.pos]) rfl (qQ aj) (.inr ⟨jq,rfl⟩) ?_;apply RG;simp only[go_sem,iv,e1];refine bw aj rfl rfl rfl rfl rfl (by exact uZ) (by simp) fun ak=>?_;refine aT ?_;exact af rfl ak (r:=[cG ⟨17,[],(nx c ts t:Nat),slot,[],tt⟩ eQ eQ]) (by simp only[Tryz.results155,go_sem,iv,cG]) k4 ⟨_,_,_,rfl,by simpa using aS aq,rfl,jV.nil _,fun _ _=>rfl⟩
 rw[ZV a4]at aa;have h7:(X ts (nx c ts t) == [114,101,97,100])=false:=beq_false_of_ne a4;obtain⟨b,ao,bd⟩:=gW aa;cases bd
 apply RG;simp only[go_sem,h4,h5,h6,h7];refine ad aj [0] [sg pb _] [] rfl tC rfl (xV b6 h' 18 slot) fun v I5 qs ak an bs=>?_;obtain⟨s5,n5,rfl,g5,rfl,bb,a6⟩:=bs;simp only[Z3]at ak |-;apply RG;simp only[go_sem,cG];refine XN (l:=[.bool s5.bad]) rfl (qQ ak) (.inr ⟨Ep,rfl⟩) ?_;have k5:=abV k4 an;have b5:=gL.le b6 an;cases a9:(aI ts c (some (nx c ts t)) 18 slot).p with
 |none=>
  rw[a9]at ao g5 a6;have:=xy ao;subst this;have bF:s5.bad=true:=g5.2.1;apply RG;simp only[go_sem,bF];exact af rfl ak (r:=[cG n5 eQ eQ]) (by simp only[Tryz.results155,go_sem,iv,cG]) k5 ⟨s5,n5,_,rfl,by simpa[qz]using g5,rfl,by rw[bb];exact jV.nil _,fun t' ht=>by cases ht⟩
 |some u=>
  obtain⟨en5,ea⟩:=xh (ce c ts t) a9 (a6 u a9);have cp:=a6 u a9;rw[a9]at ao g5;rw[cp]at ao;rw[ea]at g5 |-;simp only[aa6,aaA]at g5 |-;have bF:s5.bad=false:=g5.2.1;have b7:mB (fG c ts) s5.pos=X ts (nx c ts u):=g5.tx;subst en5;apply RG;simp only[go_sem,bF];refine ad ak [0] [sg pb _] [] rfl dq rfl (eN b5 g5.le) fun v I6 qs a3 al cb=>?_;obtain⟨rfl,rfl⟩:=cb;simp only[Z3]at a3 |-;rw[b7];have k6:=abV k5 al;have ct:=gL.le b5 al;by_cases a2:X ts (nx c ts u)=eM
  ·have h8:(X ts (nx c ts u) == [40])=true:=by rw[a2];decide
   rw[jM (kA a2),jA (by simp[kA a2])]at ao;cases m with
   |zero=>cases ao
   |succ m=>
    obtain⟨a',cr,cm⟩:=gW (show (bS c ts m (.listed false o (some (nx c ts u)))).bind (fun a=>some (⟨[⟨19,X ts (nx c ts t),(nx c ts t:Nat),slot,a.l,tt⟩],a.p,a.e⟩:PR))=some b from ao);cases cm
    apply RG;simp only[go_sem,h8];refine ad a3 [0] [sg pb _] [] rfl Hf rfl (hA pb I6 s5 _ o e a' ct g5.nx ⟨m,ab,cr⟩) fun v I7 qs bc bx ca=>?_;obtain⟨s7,ks7,rfl,g7,b0,ci⟩:=ca;obtain⟨ka7,kc7,rfl,_⟩:=id b0;simp only[Z3]at bc |-;refine aT ?_;exact af rfl bc (r:=[cG ⟨19,X ts (nx c ts t),(nx c ts t:Nat),slot,ks7,tt⟩ (.slice ka7 ks7.length kc7) eQ]) (by simp only[Tryz.results155,go_sem,iv,cG]) (abV k6 bx) ⟨s7,_,_,rfl,g7,rfl,b0,fun t' ht=>by simp only[ci t' ht]⟩
  ·have h8:(X ts (nx c ts u) == [40])=false:=beq_false_of_ne a2;rw[jA (kD a2),jM (by simp[kD a2])]at ao;have:=xy ao;subst this;apply RG;simp only[go_sem,h8];exact af rfl a3 (r:=[cG ⟨18,X ts (nx c ts t),(nx c ts t:Nat),slot,[],tt⟩ eQ eQ]) (by simp only[Tryz.results155,go_sem,iv,cG]) k6 ⟨s5,_,_,rfl,by simpa using g5.nx,rfl,jV.nil _,fun _ _=>rfl⟩
end
open Go Go.Sx Dg Syn
section
variable {c:bP} {ts:List Syn.Tok} {lv xv:Value} {o:Nat} {e:List (Nat×Int)} {p:Option Nat} {s:PS} {pb:Nat} {I:PH} {q:PR}
def NM{x:dB}{q:PR}(h:rr c ts 0 x q):False:=by obtain⟨m,hm,_⟩:=h;omega
theorem vY(k slot:Nat):Cb c ts lv xv 86 (aL k slot):=by
 intro pb I s o e hI h hd;have hb:s.bad=true:=h.2.1;refine iz Tryz.func86 rfl (by simp[Tryz.ntmps86,aL]) fun w0=>?_;simp only[Tryz.ntmps86,aL,pt];cases h5:((k:Int) == 5)
 apply RG;simp only[go_sem,h5];refine XN (l:=[.bool s.bad]) rfl (qQ hd) (.inr ⟨Ep,rfl⟩) ?_;apply RG;simp only[go_sem,hb]
 rotate_left
 apply RG;simp only[go_sem,h5]
 all_goals
  refine ad hd [0] [sg pb _] [] rfl Ax rfl (G3 slot pb I s o e hI h) fun v I4 qs ag aa aj=>?_;obtain⟨s4,n4,vk4,rfl,g4,rfl,ac,ak⟩:=aj;obtain⟨ka4,kc4,rfl,_⟩:=id ac;simp only[Z3]at ag |-;apply RG;simp only[go_sem,cG];exact af rfl ag (r:=[cG n4 (.slice ka4 n4.kids.length kc4) eQ]) (by simp only[Tryz.results86,go_sem,iv,cG]) aa ⟨s4,n4,_,rfl,g4,rfl,ac,ak⟩
def sV(h:Sg c ts s p o e){x:bq}(hx:x≠[]):∃p1 e1,Sg c ts (iB c ts s x) p1 (o+1) e1/\
  ((p1=none/\((p=none/\e1=e)\/∃t k,p=some t/\e1=e++[(k,((nx c ts t:Nat):Int))]/\((X ts (nx c ts t)≠x/\k=10)\/(X ts (nx c ts t)=x/\o=64/\k=11))))\/∃t,p=some t/\X ts (nx c ts t)=x/\o≠64/\p1=some (nx c ts t+1)/\e1=e):=by
 cases p with
 |none=>exact⟨none,e,h.enterb hx _,.inl ⟨rfl,.inl ⟨rfl,rfl⟩⟩⟩
 |some t=>
  by_cases h1:X ts (nx c ts t)=x
  ·by_cases h2:o=64
   ·exact⟨none,_,h.enter2 h1 h2 _,.inl ⟨rfl,.inr ⟨t,11,rfl,rfl,.inr ⟨h1,h2,rfl⟩⟩⟩⟩
   ·exact⟨_,e,h.enter3 h1 hx h2,.inr ⟨t,rfl,h1,h2,rfl,rfl⟩⟩
  ·exact⟨none,_,h.enter1 h1 _,.inl ⟨rfl,.inr ⟨t,10,rfl,rfl,.inl ⟨h1,rfl⟩⟩⟩⟩
theorem PA{n:Nat}(hL:GL c ts lv xv (rr c ts n)){slot:Nat}(hI:Ex c ts I lv xv)(h:Sg c ts s p o e)(hn:p=none->q=ap)(hs:∀t,p=some t->rr c ts (n+1) (.inside o (some t) slot) q):
  aK Tryz.prog 229 #[pt pb,.int .i64 slot] I [sg pb (bG lv xv ts.length s)] (JH c ts pb lv xv q o e):=by
 intro hd;obtain⟨p1,e1,g1,hc⟩:=sV h (x:=eM) bg;obtain⟨a,a3,a2,f1,f2,f3⟩:∃a:PR,(p1=none->a=ap)/\(∀t,p1=some t->rr c ts n (.line 0 (o+1) (some t) slot) a)/\(aW ts c a.p fK).1=q.p/\e1++a.e++(aW ts c a.p fK).2=e++q.e/\∀t,q.p=some t->(∃u,a.p=some u)/\a.l=q.l:=by
  rcases hc with ⟨rfl,⟨hp,rfl⟩|⟨t,k,hp,rfl,hk⟩⟩|⟨t,hp,hx,ho,rfl,rfl⟩
  ·rw[hn hp];exact⟨ap,fun _=>rfl,fun t ht=>(by cases ht),rfl,by simp[ap,aW],fun t ht=>by cases ht⟩
  ·obtain⟨m,_,h1,_⟩:=(hs t hp).step;have h2:il c ts (bS c ts m) o (some t) slot=some q:=h1;unfold il at h2;simp only[Z9]at h2;have hq:q=⟨[],none,[(k,((nx c ts t:Nat):Int))]⟩:=by
    rcases hk with ⟨h3,rfl⟩|⟨h3,h4,rfl⟩
    ·rw[aaq h3]at h2;exact(aaZ h2).symm
    ·rw[ZV (by simp[h3]),aaq h4]at h2;exact(aaZ h2).symm
   subst hq;exact⟨ap,fun _=>rfl,fun t ht=>(by cases ht),rfl,by simp[ap,aW],fun t ht=>by cases ht⟩
  ·obtain⟨m,_,h1,an⟩:=(hs t hp).step;have h2:il c ts (bS c ts m) o (some t) slot=some q:=h1;unfold il at h2;simp only[Z9]at h2;rw[ZV (by simp[hx]),ZV ho]at h2;obtain⟨a,ha,h3⟩:=gW h2;cases h3
   exact⟨a,fun h=>(by cases h),fun t' ht=>by cases ht;exact an _ _ ha,rfl,by simp,fun t ht=>⟨gS ht,rfl⟩⟩
 refine ah 14 Tryz.func229 fun w0=>?_
 try simp only[pt]
 refine aT ?_;refine ad hd [0] [sg pb _] [] rfl sf rfl (si (x:=eM) hI h.le) fun v I2 qs am aa aS=>?_;obtain rfl:=aS;simp only[Z3]at am |-;refine aT ?_;refine ad am [0] [sg pb _] [] rfl oe rfl (Cw (vY 0 slot) (hL 0 slot bg) (hI.le aa) g1 a3 (fun t ht=>⟨trivial,a2 t ht⟩)) fun v I4 qs al ag aq=>?_;obtain⟨s4,n4,vk4,rfl,g4,rfl,aj,a1⟩:=aq;obtain⟨ka4,kc4,rfl,_⟩:=id aj;simp only[Z3]at al |-;apply RG;simp only[go_sem,cG];refine ad al [0] [sg pb _] [] rfl oD rfl (n9 (x:=fK) (hI.le (abV aa ag)) g4.le) fun v I5 qs ak ac ao=>?_;obtain rfl:=ao;simp only[Z3]at ak |-;refine aT ?_;have g5:=g4.leave (x:=fK) bg;rw[f1,f2]at g5;refine af rfl ak (r:=[cG n4 (.slice ka4 n4.kids.length kc4) eQ]) (by simp only[Tryz.results229,go_sem,iv,cG]) (uw aa ag ac) ⟨_,n4,_,rfl,g5,rfl,aj.le ac,fun t ht=>?_⟩;obtain⟨⟨u,hu⟩,hl⟩:=f3 t ht;rw[<-hl];exact a1 u hu
def YS:GL c ts lv xv (rr c ts 0):=fun _ _ _ _ _ _ _ _ _ _ _ _ _ h=>(NM h).elim
def ML{n:Nat}(hL:GL c ts lv xv (rr c ts n)):GI c ts lv xv (rr c ts (n+1)):=fun _ _ _ _ _ _ _ _ hI h _ hr=>PA hL hI h (fun ht=>by cases ht) (fun t ht=>by cases ht;exact hr)
end
open Go Go.Sx Dg Syn
def Kp(x:bq){k:Nat}(hk:k<5):(DD x 0 j4 == (k:Int))=decide (dX x=k):=by
 have h:DD x 0 j4=if dX x=9 then -1 else (dX x:Int):=by
  unfold dX;simp only[DD,j4];by_cases h0:x=xU
  ·subst h0;decide
  by_cases h1:x=nK
  ·subst h1;decide
  rw[ZV (by simpa using h0),ZV (by simpa using h1),ZV h0,ZV h1];by_cases h2:[wT,Si,Uc,TZ,S1,Ss].contains x=true
  ·rw[aaq h2,aaq h2];rfl
  rw[ZV h2,ZV h2];by_cases h3:x=ym\/x=jS
  ·rw[aaq (by simpa using h3),aaq h3];rfl
  rw[ZV (by simpa using h3),ZV h3];by_cases h4:[Fi,EG,FM].contains x=true
  ·rw[aaq h4,aaq h4];rfl
  rw[ZV h4,ZV h4];rfl
 rw[h,Bool.eq_iff_iff,beq_iff_eq,aaC];split<;>omega
section
variable {c:bP} {ts:List Syn.Tok} {lv xv:Value} {o:Nat} {e:List (Nat×Int)} {p:Option Nat} {s:PS} {pb:Nat} {I:PH} {q:PR}
variable{b:PR}{l:List Nd}{first:Bool}{n slot:Nat}
def uu{k o:Nat}{out:Option Nat}(h:bS c ts n (.lineL k o slot first l none out)=some b):b=⟨l,out,[]⟩:=by
 cases n with
 |zero=>cases h
 |succ n=>exact(aaZ h).symm
def IQ{k o:Nat}{t:Nat}(h:bS c ts n (.lineL k o slot first l (some t) none)=some b)(hc:(k=2/\first=false)\/gK ts k (nx c ts t)=false):∃u,(u=t\/u=nx c ts t)/\b=⟨l,some u,[]⟩:=by
 cases n with
 |zero=>cases h
 |succ n=>
  simp only[bS,aC,lP]at h;split at h
  ·exact⟨t,.inl rfl,(aaZ h).symm⟩
  ·rename_i hk;have hc:=hc.resolve_left hk;obtain⟨a,ha,h⟩:=gW h;obtain⟨b',hb,h⟩:=gW h;cases h
   rw[jA hc]at ha;rw[jM (by simp[hc])]at hb;have:=xO ha;subst this;have:=uu hb;subst this;exact⟨_,.inr rfl,rfl⟩
def MN{k o:Nat}{t:Nat}(h:bS c ts n (.lineL k o slot first l (some t) none)=some b)(hk:¬(k=2/\first=false))(hc:gK ts k (nx c ts t)=true):
  ∃m a b',m<n/\rr c ts n (.line (k+1) o (some (nx c ts t+1)) 1) a/\bS c ts m (.lineL k o slot false [⟨13,X ts (nx c ts t),(nx c ts t:Nat),slot,slot0 l++a.l,tt⟩] a.p none)=some b'/\b=⟨b'.l,b'.p,a.e++b'.e⟩:=by
 cases n with
 |zero=>cases h
 |succ n=>
  simp only[bS,aC,lP]at h;rw[ZV hk]at h;obtain⟨a,ha,h⟩:=gW h;obtain⟨b',hb,h⟩:=gW h;cases h
  rw[jM hc]at ha;rw[jA (by simp[hc])]at hb;cases n with
  |zero=>cases ha
  |succ n=>
   simp only[bS,aC,pY]at ha;obtain⟨a',aa,ha⟩:=gW ha;cases ha
   exact⟨n+1,a',b',ab,⟨n,ab,aa⟩,hb,rfl⟩
def Gk{a b:Nat}(h:a<=b):cn c ts a<=cn c ts b:=by
 unfold cn fG;have e:ts.take b=ts.take a++(ts.drop a).take (b-a):=by
  conv=>lhs;rw[show b=a+(b-a) by omega,List.take_add]
 rw[e,List.filter_append,aa9];exact Nat.le_add_right _ _
def G4{x:dB}{q:PR}(h:rr c ts n x q)(w:LL c ts x){s:Nat}(hs:HH x=some s){j:Nat}(hj:q.p=some j):cn c ts s<=cn c ts j:=by
 obtain⟨m,_,h⟩:=h;have:=Bv h w;rw[hs,hj]at this;obtain⟨t,h1,h2,_⟩:=this;rcases h1 with ⟨_,j',e1,e2⟩|⟨e1,_⟩
 ·cases e1
  rw[<-vz (p:=s),<-vz (p:=j),e2];exact Gk h2
 ·cases e1
end
open Go Go.Sx Dg Syn
structure Yx where
 i:Nat
 m:Nat
 nd:Nd
 va:Option Addr
 vc:Nat
def yK:List Value:=[.int .u8 0,.string ⟨#[]⟩,.int .i64 0,.int .i64 0,.slice none 0 0,.slice none 0 0]
def WO(n:Nd)(a:Option Addr)(k:Nat):List Value:=[.int .u8 n.kind,.string ⟨⟨n.text⟩⟩,.int .i64 n.tok,.int .i64 n.slot,.slice a n.kids.length k,.slice none 0 0]
def WL(pb k slot:Nat)(x:Yx):St:=⟨dn 76 [(0,.v (pt pb)),(1,.v (iv k)),(2,.v (iv slot)),(6,.p 6 0),(7,.p 7 0),(8,.v (iv x.i))],[⟨6,67,yK⟩,⟨7,67,WO x.nd x.va x.vc⟩]⟩
def Zj(c:bP)(ts:List Syn.Tok)(lv xv:Value)(pb k o slot n:Nat)(q:PR)(e:List (Nat×Int))(I0:PH)(x:Yx)(H:PH):Prop:=
 ∃I s' p' e',H=U [I,sg pb (bG lv xv ts.length s')]/\Dj [I,sg pb (bG lv xv ts.length s')]/\I0.le I/\Sg c ts s' p' o e'/\jV I (.slice x.va x.nd.kids.length x.vc) x.nd.kids/\x.i<=16385/\x.m<=n/\
  (p'=none->q.p=none/\e'=e++q.e)/\∀t,p'=some t->x.i<=s'.pos/\∃b,bS c ts x.m (.lineL k o slot (decide (x.i=0)) [x.nd] (some t) none)=some b/\b.l=q.l/\b.p=q.p/\e'++b.e=e++q.e
section
variable {c:bP} {ts:List Syn.Tok} {lv xv:Value} {o:Nat} {e:List (Nat×Int)} {p:Option Nat} {s:PS} {pb:Nat} {I:PH} {q:PR}
theorem Om{n:Nat}(hU:GU c ts lv xv (rr c ts n))(hL:GL c ts lv xv (rr c ts n)):GL c ts lv xv (rr c ts (n+1)):=by
 intro k slot dx pb I s t o e q hI h _ hr hd;obtain⟨m,hm,hs,b0⟩:=hr.step;have al:ni (bS c ts m) k o (some t) slot=some q:=hs;clear hs hr;have hl:=hI.len;have hb:s.bad=false:=h.2.1;refine iz Tryz.func86 rfl (by simp[Tryz.ntmps86,aL]) fun w0=>?_;simp only[Tryz.ntmps86,aL,pt];unfold ni at al;by_cases h5:k=5
 ·rw[aaq h5]at al;have bF:((k:Int) == 5)=true:=by rw[h5];rfl
  apply RG;simp only[go_sem,bF];refine ad hd [0] [sg pb _] [] rfl Ax rfl (hU slot pb I s t o e q hI h trivial (b0 _ _ al)) fun v I4 qs an aa bb=>?_;obtain⟨s4,n4,vk4,rfl,g4,rfl,b8,c5⟩:=bb;obtain⟨ka4,kc4,rfl,_⟩:=id b8;simp only[Z3]at an |-;apply RG;simp only[go_sem,cG];exact af rfl an (r:=[cG n4 (.slice ka4 n4.kids.length kc4) eQ]) (by simp only[Tryz.results86,go_sem,iv,cG]) aa ⟨s4,n4,_,rfl,g4,rfl,b8,c5⟩
 rw[ZV h5]at al;obtain⟨a,ha,b5⟩:=gW al;obtain⟨b,a7,cr⟩:=gW b5;cases cr
 clear al b5;have bF:((k:Int) == 5)=false:=beq_false_of_ne ab;have ek:IntKind.i64.wrap ((k:Int)+1)=((k+1:Nat):Int):=pB ab;apply RG;simp only[go_sem,bF];refine XN (l:=[.bool s.bad]) rfl (qQ hd) (.inr ⟨Ep,rfl⟩) ?_;apply RG;simp only[go_sem,hb,ek];refine ad hd [0] [sg pb _] [] rfl oe rfl (hL (k+1) slot ab pb I s t o e a hI h trivial (b0 _ _ ha)) fun v I2 qs cf a1 cB=>?_;obtain⟨s2,n2,vk2,rfl,g2,rfl,ca,c6⟩:=cB;obtain⟨ka2,kc2,rfl,_⟩:=id ca;simp only[Z3]at cf |-;apply RG;simp only[go_sem,cG];refine aA (fun x=>x.m) (WL pb k slot) (Zj c ts lv xv pb k o slot m ⟨b.l,b.p,a.e++b.e⟩ e I2) ⟨0,m,n2,ka2,kc2⟩ gP (by simp only[go_sem,aa6,WL,yK,WO]) ?_ ?_
 ·refine⟨I2,s2,a.p,e++a.e,rfl,cf,abW _,g2,ca,aaL _,ZR _,fun hp=>?_,fun t' ht=>⟨aaL _,b,?_,rfl,rfl,by simp⟩⟩
  ·rw[hp]at a7;have:=uu a7;subst this;exact⟨rfl,by simp⟩
  ·rw[ht,c6 t' ht]at a7;exact a7
 rintro⟨i,mm,nd,va,vc⟩ H ⟨I3,s3,p3,e3,rfl,bC,ak,g3,a4,da,c8,a2,ag⟩ ac;simp only at a4 da c8 a2 ag ac;simp only[WL,yK,WO];refine ll ?_;refine XN (l:=[.bool s3.bad]) rfl (qQ bC) (.inr ⟨Ep,rfl⟩) ?_;cases p3 with
 |none=>
  obtain⟨b1,b2⟩:=a2 rfl;have a6:s3.bad=true:=g3.2.1;apply RG;simp only[go_sem,a6];exact af rfl bC (r:=[cG nd (.slice va nd.kids.length vc) eQ]) (by simp only[Tryz.results86,go_sem,iv,cG]) (abV a1 ak) ⟨s3,nd,_,rfl,by rw[b1,<-b2];exact g3,rfl,a4,fun t' ht=>by rw[b1]at ht;cases ht⟩
 |some t3=>
  obtain⟨hi,b3,a6,f1,f2,f3⟩:=ag t3 rfl;have ds:s3.bad=false:=g3.2.1;have k3:=abV a1 ak;have ba:=gL.le hI k3;have dd:=g3.nil;subst dd;have fin:∀J,I.le J->I3.le J->((k=2/\decide (i=0)=false)\/gK ts k (nx c ts t3)=false)->JH c ts pb lv xv ⟨b.l,b.p,a.e++b.e⟩ o e (cG nd (.slice va nd.kids.length vc) eQ) J [sg pb (bG lv xv ts.length s3)]:=fun J _ hJ hc=>by
   obtain⟨u,hu,rfl⟩:=IQ a6 hc;simp only at f1 f2 f3;refine⟨s3,nd,_,rfl,?_,rfl,a4.le hJ,fun t' _=>f1.symm⟩;rw[<-f2,<-f3];simp only[aa6];rcases hu with rfl|rfl
   ·exact g3
   ·exact g3.nx
  have b6:=g3.kd;have b4:mB (fG c ts) s3.pos=X ts (nx c ts t3):=g3.tx;have cp:=g3.tk;apply RG;simp only[go_sem,ds];refine ad bC [0] [sg pb _] [] rfl AB rfl (EV ba g3.le) fun v I4 qs an aa bb=>?_;obtain⟨rfl,rfl⟩:=bb;simp only[Z3]at an |-;rw[b6];by_cases K3:K ts (nx c ts t3)=3
  rotate_left
  ·have K3':((K ts (nx c ts t3):Int) == 3)=false:=beq_false_of_ne ab;apply RG;simp only[go_sem,K3'];exact af rfl an (r:=[cG nd (.slice va nd.kids.length vc) eQ]) (by simp only[Tryz.results86,go_sem,iv,cG]) (abV k3 aa) (fin _ (abV k3 aa) aa (.inr (by simp[gK,K3])))
  have K3':((K ts (nx c ts t3):Int) == 3)=true:=by rw[K3];rfl
  have dv:=gL.le ba aa;apply RG;simp only[go_sem,K3'];refine ad an [0] [sg pb _] [] rfl dq rfl (eN dv g3.le) fun v I5 qs cd bd cA=>?_;obtain⟨rfl,rfl⟩:=cA;simp only[Z3]at cd |-;rw[b4];refine aT ?_;refine ad cd [0] [] [sg pb _] rfl Oq rfl (QQ (X ts (nx c ts t3)) I5) fun v I6 qs a5 bc cy=>?_;obtain⟨rfl,rfl⟩:=cy;simp only[Z3]at a5 |-;have am:=Kp (X ts (nx c ts t3)) (k:=k) ab;have k6:I3.le I6:=uw aa bd bc;have cl:=gL.le ba k6;by_cases a3:dX (X ts (nx c ts t3))=k
  rotate_left
  ·rw[abT a3]at am;apply RG;simp only[go_sem,am];exact af rfl a5 (r:=[cG nd (.slice va nd.kids.length vc) eQ]) (by simp only[Tryz.results86,go_sem,iv,cG]) (abV k3 k6) (fin _ (abV k3 k6) k6 (.inr (by simp[gK,a3])))
  rw[abU a3]at am;by_cases hx:k=2/\i≠0
  ·have c1:((k:Int) != 2)=false:=by rw[hx.1];rfl
   have c2:((i:Int) == 0)=false:=beq_false_of_ne ab;apply RG;simp only[go_sem,am,c1,c2];exact af rfl a5 (r:=[cG nd (.slice va nd.kids.length vc) eQ]) (by simp only[Tryz.results86,go_sem,iv,cG]) (abV k3 k6) (fin _ (abV k3 k6) k6 (.inl ⟨hx.1,abT hx.2⟩))
  have c0:gK ts k (nx c ts t3)=true:=by simp[gK,K3,a3]
  obtain⟨m',a',b',dw,ci,a9,rfl⟩:=MN a6 (by simp;omega) c0;have cm:pS c ts s3≠[]:=Li ba (by rw[b6,K3];decide);have gA:=g3.adv cm;have c7:∀y z,rr c ts mm y z->rr c ts n y z:=fun y z ⟨w,h1,h2⟩=>⟨w,ab,h2⟩;have dc:∀j,a'.p=some j->cn c ts (nx c ts t3+1)<=cn c ts j:=fun j hj=>G4 ci trivial rfl hj;have e1:=pB (ZS g3.le hl);have ei:IntKind.i64.wrap ((i:Int)+1)=((i+1:Nat):Int):=by rw[<-wrap64 (n:=i+1) ab];congr 1
  clear fin;have ao:((k:Int) != 2)=true\/(((k:Int) != 2)=false/\((i:Int) == 0)=true):=by
   by_cases h2:k=2
   ·exact .inr ⟨by rw[h2];rfl,by rw[show i=0 by omega];rfl⟩
   ·exact .inl (by simp;omega)
  rcases ao with c1|⟨c1,c2⟩
  apply RG;simp only[go_sem,am,c1]
  rotate_left
  apply RG;simp only[go_sem,am,c1,c2]
  all_goals
   refine ad a5 [0] [sg pb _] [] rfl dq rfl (eN cl g3.le) fun v I7 qs cc aj cx=>?_;obtain⟨rfl,rfl⟩:=cx;simp only[Z3]at cc |-;rw[b4];have cj:=gL.le cl aj;refine aT ?_;refine ad cc [0] [sg pb _] [] rfl km rfl (qU cj g3.le) fun v I8 qs bx c9 ct=>?_;obtain⟨rfl,rfl,rfl⟩:=ct;simp only[Z3]at bx |-;rw[cp];refine dP ?_;refine XN (l:=[iv s3.pos]) rfl (qQ bx) (.inr ⟨jq,rfl⟩) ?_;apply RG;simp only[go_sem,iv,e1];refine bw bx rfl rfl rfl rfl rfl (by exact uZ) (by simp) fun dk=>?_;refine aT ?_;have bs:Dj [I8,sg pb (bG lv xv ts.length { s3 with pos:=s3.pos+1 })]:=dk;show RC _ _ _ (U [I8,sg pb (bG lv xv ts.length { s3 with pos:=s3.pos+1 })]);refine cK mixed [0,1,2,3,4,5,6,7] [] [] [0] [] [7,9] rfl rfl ?_;apply au;simp only[go_sem,ek];refine aE bs [0] [sg pb _] [] rfl oe rfl (hL (k+1) 1 ab pb I8 _ _ _ _ a' cj gA trivial (c7 _ _ ci)) fun v IA qs cb aS cs=>?_;obtain⟨sA,nA,vkA,rfl,gA2,rfl,b7,c4⟩:=cs;obtain⟨kaA,kcA,rfl,_⟩:=id b7;simp only[Z3]at cb |-;apply au;simp only[go_sem,cG];have hP:qP IA [(0,cG { nd with slot:=0 } (.slice va nd.kids.length vc) eQ),(1,cG nA (.slice kaA nA.kids.length kcA) eQ)] [{ nd with slot:=0 },nA]:=qP.two (a4.le (uw k6 aj aS)) b7 (abW _);refine bj cb (by exact kH) rfl rfl rfl rfl rfl bg fun nb IB dj aq c3=>?_;refine gw ?_;refine aw ?_;apply RG;simp only[go_sem,ei];have kB:I3.le IB:=Em k6 aj aS aq;refine ac ⟨i+1,m',⟨13,X ts (nx c ts t3),(nx c ts t3:Nat),slot,[{ nd with slot:=0 },nA],tt⟩,some ⟨nb,0,none⟩,2⟩ _ _ dt gP (by simp only[go_sem,aa6,WL,yK,WO]) ⟨IB,sA,a'.p,a'.e,rfl,dj,abV ak kB,by simpa using gA2,jV.of (hP.le aq) c3 rfl,by have:=g3.le;simp only;omega,by simp only;omega,fun hp=>?_,fun t' ht=>⟨?_,b',?_,f1,f2,?_⟩⟩
   ·rw[hp]at a9;have:=uu a9;subst this;exact⟨f2.symm,by simpa using f3⟩
   ·have h1:=dc t' ht;have h2:=gA2.2;rw[ht]at h2;have h3:=gA.2.2.2.1;simp only at h3 |-;rw[h2.2.2.1];omega
   ·have:=c4 t' ht;rw[this,ht]at a9;simpa[slot0]using a9
   ·simpa using f3
end
open Go Go.Sx Dg Syn
section
variable {c:bP} {ts:List Syn.Tok} {lv xv:Value} {o:Nat} {e:List (Nat×Int)} {p:Option Nat} {s:PS} {pb:Nat} {I:PH} {q:PR}
def XU(c:bP)(ts:List Syn.Tok)(n:Nat)(par:Bool)(o:Nat)(p:Option Nat)(a:PR):Prop:=
 (par=true/\a=H7 c ts p)\/(par=false/\((p=none/\a=ap)\/∃t,p=some t/\rr c ts n (.line 0 o (some t) 0) a))
variable{l:List Nd}{par:Bool}{n:Nat}
def rX{o:Nat}{fin:Option Nat}{b:PR}(h:bS c ts n (.listL par o l none fin)=some b):b=⟨l,fin,[]⟩:=by
 cases n with
 |zero=>cases h
 |succ n=>exact(aaZ h).symm
def Cs{o:Nat}{p:Nat}{b:PR}(h:bS c ts n (.listL par o l (some p) none)=some b):
  ∃m a b',m<n/\XU c ts n par o (some p) a/\bS c ts m (.listL par o (l++a.l) ((qz c ts a.p (pi ts bB)).map (·+1)) (qz c ts a.p fun i=>!pi ts bB i))=some b'/\b=⟨b'.l,b'.p,a.e++b'.e⟩:=by
 cases n with
 |zero=>cases h
 |succ n=>
  simp only[bS,aC,oU]at h;obtain⟨a,ha,h⟩:=gW h;obtain⟨b',hb,h⟩:=gW h;cases h
  refine⟨n,a,b',ab,?_,hb,rfl⟩;cases n with
  |zero=>cases ha
  |succ n=>
   simp only[bS,aC,ro]at ha;cases par with
   |true=>exact .inl ⟨rfl,(aaZ ha).symm⟩
   |false=>exact .inr ⟨rfl,.inr ⟨p,rfl,n,ab,ha⟩⟩
structure J0(c:bP)(ts:List Syn.Tok)(par:Bool)(o:Nat)(q:PR)(e:List (Nat×Int))(m:Nat)(ks:List Nd)(p':Option Nat)(e':List (Nat×Int))(pos:Nat):Prop where
 len:ks.length<=16385
 bad:p'=none->q.p=none/\e'=e++q.e
 ok:∀t,p'=some t->ks.length<=pos/\∃b,bS c ts m (.listL par (o+1) ks ((qz c ts (some t) (pi ts bB)).map (·+1)) (qz c ts (some t) fun i=>!pi ts bB i))=some b/\(aW ts c b.p fK).1=q.p/\e'++b.e++(aW ts c b.p fK).2=e++q.e/\b.l=q.l
def np(t:Nat)(x:bq):aW ts c (some (nx c ts t)) x=aW ts c (some t) x:=by unfold aW;simp only[Z9,ce]
variable{e':List (Nat×Int)}{t pos m:Nat}
def J0.end{ks:List Nd}(h:J0 c ts par o q e m ks (some t) e' pos)(hx:X ts (nx c ts t)≠bB):q.l=ks/\(aW ts c (some t) fK).1=q.p/\e'++(aW ts c (some t) fK).2=e++q.e:=by
 obtain⟨_,b,hb,h1,h2,h3⟩:=h.ok t rfl;rw[jA (kD hx),jM (by simp[kD hx])]at hb;have:=rX hb;subst this;simp only[np,aa6]at h1 h2 h3;exact⟨h3.symm,h1,h2⟩
def CL{m' n o:Nat}{ks:List Nd}{a b':PR}{q:PR}{e:List (Nat×Int)}{n':Nd}(hm:m'<=m)(hb:bS c ts m' (.listL par (o+1) (ks++a.l) ((qz c ts a.p (pi ts bB)).map (·+1)) (qz c ts a.p fun i=>!pi ts bB i))=some b')(h1:(aW ts c b'.p fK).1=q.p)(h2:e'++(a.e++b'.e)++(aW ts c b'.p fK).2=e++q.e)(h3:b'.l=q.l)
  (hl:ks.length<16385) (hn:∀t,a.p=some t->a.l=[n']/\ks.length<pos):J0 c ts par o q e m' (ks++[n']) a.p (e'++a.e) pos:=by
 refine⟨by simp only[aa9,aaJ];omega,fun hp=>?_,fun t ht=>⟨by have:=(hn t ht).2;simp only[aa9,aaJ];omega,b',?_,h1,by rw[<-h2];simp,h3⟩⟩
 ·rw[hp]at hb;have:=rX hb;subst this;simp only[aW,qz,aac,Option.filter_none]at h1 h2;exact⟨h1.symm,by simpa using h2⟩
 ·rw[(hn t ht).1,ht]at hb;exact hb
def J0.go{ks:List Nd}(h:J0 c ts par o q e m ks (some t) e' pos)(hx:X ts (nx c ts t)=bB):
  ∃m' a,m'<m/\XU c ts m par (o+1) (some (nx c ts t+1)) a/\∀(n':Nd) (pos':Nat),pos<16385->(∀u,a.p=some u->a.l=[n']/\pos<pos')->J0 c ts par o q e m' (ks++[n']) a.p (e'++a.e) pos':=by
 obtain⟨hl,b,hb,h1,h2,h3⟩:=h.ok t rfl;rw[jM (kA hx),jA (by simp[kA hx])]at hb;obtain⟨m',a,b',hm,hi,aa,rfl⟩:=Cs hb;exact⟨m',a,hm,hi,fun n' pos' hp hn=>CL (n:=0) (ZR _) aa h1 h2 h3 ab fun t ht=>⟨(hn t ht).1,by have:=(hn t ht).2;omega⟩⟩
def yy(h:rr c ts (n+1) (.listed par o (some t)) q)(hx:X ts (nx c ts t)=eM)(ho:o≠64):
  (X ts (nx c ts (nx c ts t+1))=fK->q.l=[]/\(aW ts c (some (nx c ts t+1)) fK).1=q.p/\(aW ts c (some (nx c ts t+1)) fK).2=q.e)/\
  (X ts (nx c ts (nx c ts t+1))≠fK->∃m a,m<=n/\XU c ts n par (o+1) (some (nx c ts (nx c ts t+1))) a/\∀(n':Nd) (pos:Nat),(∀u,a.p=some u->a.l=[n']/\0<pos)->J0 c ts par o q e m [n'] a.p (e++a.e) pos):=by
 obtain⟨m,hm,h1,_⟩:=h.step;have h2:ij c ts (bS c ts m) par o (some t)=some q:=h1;unfold ij at h2;simp only[Z9]at h2;rw[ZV (by simp[hx]),ZV ho]at h2;obtain⟨a,ha,h3⟩:=gW h2;cases h3
 constructor
 ·intro hr;rw[jA (by simp[kA hr]),jM (kA hr)]at ha;have:=rX ha;subst this;simp only[np,aaA];exact⟨trivial,trivial,trivial⟩
 ·intro hr;rw[jM (by simp[kD hr]),jA (kD hr)]at ha;obtain⟨m',a',b',ac,hi,aa,rfl⟩:=Cs ha;refine⟨m',a',ab,?_,fun n' pos hn=>CL (n:=0) (ZR _) (ks:=[]) aa rfl (by simp) rfl (by simp) fun t ht=>⟨(hn t ht).1,(hn t ht).2⟩⟩;rcases hi with hi|⟨h1,hi|⟨t',h2,w,h3,h4⟩⟩
  ·exact .inl hi
  ·exact .inr ⟨h1,.inl hi⟩
  ·exact .inr ⟨h1,.inr ⟨t',h2,w,ab,h4⟩⟩
def xF{k:Nat}(h:rr c ts (n+1) (.listed par o (some t)) q)(hk:(X ts (nx c ts t)≠eM/\k=10)\/(X ts (nx c ts t)=eM/\o=64/\k=11)):q=⟨[],none,[(k,((nx c ts t:Nat):Int))]⟩:=by
 obtain⟨m,hm,h1,_⟩:=h.step;have h2:ij c ts (bS c ts m) par o (some t)=some q:=h1;unfold ij at h2;simp only[Z9]at h2;rcases hk with ⟨h3,rfl⟩|⟨h3,h4,rfl⟩
 ·rw[aaq h3]at h2;exact(aaZ h2).symm
 ·rw[ZV (by simp[h3]),aaq h4]at h2;exact(aaZ h2).symm
end
open Go Go.Sx Dg Syn
structure Yq where
 m:Nat
 va:Option Addr
 vn:Nat
 vc:Nat
def WB(pb:Nat)(x:Yq):St:=⟨dn 34 [(0,.v (pt pb)),(3,.v (.slice x.va x.vn x.vc))],[]⟩
def Zr(c:bP)(ts:List Syn.Tok)(lv xv:Value)(pb o:Nat)(n:Nat)(q:PR)(e:List (Nat×Int))(I0:PH)(x:Yq)(H:PH):Prop:=
 ∃I A s' p' e' ks,H=U [I,sg pb (bG lv xv ts.length s'),A]/\Dj [I,sg pb (bG lv xv ts.length s'),A]/\I0.le I/\Sg c ts s' p' (o+1) e'/\qE I A (.slice x.va x.vn x.vc) ks/\x.vn=ks.length/\x.m<=n/\J0 c ts false o q e x.m ks p' e' s'.pos
section
variable {c:bP} {ts:List Syn.Tok} {lv xv:Value} {o:Nat} {e:List (Nat×Int)} {p:Option Nat} {s:PS} {pb:Nat} {I:PH} {q:PR}
theorem Ti{n:Nat}(hL:GL c ts lv xv (rr c ts n)):GA c ts lv xv (rr c ts (n+1)):=by
 intro pb I s t o e q hI h hr hd;have hl:=hI.len;obtain⟨p1,e1,g1,hc⟩:=sV h (x:=eM) bg;refine ah 34 Tryz.func230 fun w0=>?_
 try simp only[pt]
 refine aT ?_;refine ad hd [0] [sg pb _] [] rfl sf rfl (si (x:=eM) hI h.le) fun v I2 qs cx a3 c5=>?_;obtain rfl:=c5;simp only[Z3]at cx |-;have cB:=gL.le hI a3;refine aT ?_;refine ad cx [0] [sg pb _] [] rfl dq rfl (eN cB g1.le) fun v I3 qs ct a2 c4=>?_;obtain⟨rfl,rfl⟩:=c4;simp only[Z3]at ct |-;have cd:=gL.le cB a2;have k3:=abV a3 a2;have an:=ct;refine aR an fun an=>?_;refine bf an [1,0] fun an=>?_;obtain⟨hR,hN⟩:((pS c ts (iB c ts s eM)=fK->(∀t,q.p=some t->q.l=[])/\(aW ts c p1 fK).1=q.p/\e1++(aW ts c p1 fK).2=e++q.e)/\
   (pS c ts (iB c ts s eM)≠fK->∃m a p2,m<=n/\Sg c ts (iB c ts s eM) p2 (o+1) e1/\(p2=none->a=ap)/\(∀t,p2=some t->rr c ts n (.line 0 (o+1) (some t) 0) a/\0<cn c ts t)/\∀(n':Nd) (pos:Nat),(∀u,a.p=some u->a.l=[n']/\0<pos)->J0 c ts false o q e m [n'] a.p (e1++a.e) pos)):=by
  rcases hc with ⟨rfl,⟨hp,_⟩|⟨t',k,hp,rfl,hk⟩⟩|⟨t',hp,cj,ho,rfl,rfl⟩
  ·cases hp
  ·cases hp
   have:=xF hr hk;subst this;exact⟨fun _=>⟨fun t ht=>(by cases ht),rfl,by simp[aW]⟩,fun _=>⟨0,ap,none,aaL _,g1,fun _=>rfl,fun t ht=>(by cases ht),fun n' pos hn=>⟨by simp,fun _=>⟨rfl,by simp[ap]⟩,fun t ht=>(by cases ht)⟩⟩⟩
  ·cases hp
   obtain⟨h1,h2⟩:=yy hr cj ho;rw[g1.tx];refine⟨fun hx=>?_,fun hx=>?_⟩
   ·obtain⟨i1,i2,i3⟩:=h1 hx;exact⟨fun _ _=>i1,i2,by rw[i3]⟩
   ·obtain⟨m,a,hm,hi,hj⟩:=h2 hx;rcases hi with ⟨hi,_⟩|⟨_,⟨hi,_⟩|⟨t',bb,hi⟩⟩
    ·cases hi
    ·cases hi
    ·cases bb
     exact⟨m,a,_,hm,g1.nx,fun h=>(by cases h),fun t ht=>(by cases ht;exact⟨hi,by rw[vz,l6 (gx (by rw[cj];decide))];omega⟩),hj⟩
 clear hc;cases hx:(mB (fG c ts) (jL (fG c ts) (jY c ts 0) ts.length s eM).pos == [41])
 rotate_left
 ·obtain⟨i1,i2,i3⟩:=hR (eq_of_beq hx);apply RG;simp only[go_sem,hx,abQ];refine ad an [0,1] [sg pb _] [PH.no] rfl oD rfl (n9 (x:=fK) cd g1.le) fun v I5 qs cs bx c3=>?_;obtain rfl:=c3;simp only[Z3]at cs |-;have g5:=g1.leave (x:=fK) bg;rw[i2,i3]at g5;refine bf cs [1,0] fun b6=>?_;refine ae b6 fun I6 b6 bs dx=>?_;refine aT ?_;exact af rfl b6 (r:=[_]) rfl (uw k3 bx bs) ⟨_,[],rfl,g5,jV.nil _,i1⟩
 obtain⟨m,a,p2,hm,g2,cy,ca,hj⟩:=hN (ne_of_beq_false hx);apply RG;simp only[go_sem,hx,abK];refine ad an [0,1] [sg pb _] [_] rfl oe rfl (Cw (vY 0 0) (hL 0 0 bg) cd g2 cy (fun t ht=>⟨trivial,(ca t ht).1⟩)) fun v IC7 qs a9 a5 c2=>?_;obtain⟨s7,n7,vk7,rfl,g7,rfl,cr,c8⟩:=c2;obtain⟨ka7,kc7,rfl,_⟩:=id cr;simp only[Z3]at a9 |-;apply RG;simp only[go_sem,cG];refine bf a9 [1,0] fun a9=>?_;refine Hm a9 (qE.le (Ow.nil (iS eQ) 67 6 I3) a5) (qP.one cr) (by simp) (by exact kH) rfl rfl rfl rfl rfl (fun b=>⟨rfl,rfl,rfl⟩) fun b7 na7 nc7 I7 A7 b5 b0 dj=>?_;refine aT ?_;refine bf b5 [1,0] fun b5=>?_;have a1:=abV a5 b0;have dw:=gL.le cd a1;have k7:=abV k3 a1;refine aA (fun x=>x.m) (WB pb) (Zr c ts lv xv pb o n q e I7) ⟨m,na7,1,nc7⟩ gP (by simp only[go_sem,aa6,WB]) ?_ ?_
 ·refine⟨I7,A7,s7,a.p,e1++a.e,[n7],rfl,b5,abW _,g7,dj,rfl,hm,hj n7 s7.pos fun u hu=>⟨c8 u hu,?_⟩⟩;cases p2 with
  |none=>rw[cy rfl]at hu;cases hu
  |some t2=>
   have h1:=G4 (ca t2 rfl).1 trivial rfl hu;have h2:=(ca t2 rfl).2;rw[hu]at g7;rw[g7.2.2.2.1];omega
 rintro⟨mm,va,vn,vc⟩ H ⟨I8,A8,s8,p8,e8,ks,rfl,b4,aS,g8,ba,cl,c9,ao⟩ ak;simp only at ba cl c9 ao ak;subst cl;simp only[WB];have k8:=abV k7 aS;have cc:=gL.le hI k8;refine ll ?_;refine XN (l:=[.bool s8.bad]) rfl (qQ b4) (.inr ⟨Ep,rfl⟩) ?_;have fin:X ts 0=X ts 0->(p8=none\/∃t8,p8=some t8/\X ts (nx c ts t8)≠bB)->Sg c ts (Bb c ts s8 fK) q.p o (e++q.e)/\∀t,q.p=some t->q.l=ks:=fun _ hp=>by
  have g9:=g8.leave (x:=fK) bg;rcases hp with rfl|⟨t8,rfl,aj⟩
  ·obtain⟨b1,b2⟩:=ao.bad rfl;simp only[aW,aac,aa6]at g9;exact⟨by rw[b1,<-b2];exact g9,fun t ht=>by rw[b1]at ht;cases ht⟩
  ·obtain⟨f1,f2,f3⟩:=ao.end aj;rw[f2,f3]at g9;exact⟨g9,fun _ _=>f1⟩
 cases p8 with
 |none=>
  obtain⟨f1,f2⟩:=fin rfl (.inl rfl);have b8:s8.bad=true:=g8.2.1;apply RG;simp only[go_sem,b8];refine ad b4 [0,1] [sg pb _] [A8] rfl oD rfl (n9 (x:=fK) cc g8.le) fun v I9 qs am aa bd=>?_;obtain rfl:=bd;simp only[Z3]at am |-;refine bf am [1,0] fun al=>?_;refine ae al fun IA al ag cf=>?_;refine aT ?_;exact af rfl al (r:=[_]) rfl (uw k8 aa ag) ⟨_,ks,rfl,f1,ba.sl (abV aa ag) cf,f2⟩
 |some t8=>
  have b8:s8.bad=false:=g8.2.1;have c0:mB (fG c ts) s8.pos=X ts (nx c ts t8):=g8.tx;apply RG;simp only[go_sem,b8];refine ad b4 [0,1] [sg pb _] [A8] rfl dq rfl (eN cc g8.le) fun v I9 qs am aa bd=>?_;obtain⟨rfl,rfl⟩:=bd;simp only[Z3]at am |-;rw[c0];have cb:=gL.le cc aa;by_cases aj:X ts (nx c ts t8)=bB
  rotate_left
  ·obtain⟨f1,f2⟩:=fin rfl (.inr ⟨t8,rfl,aj⟩);have ci:(X ts (nx c ts t8) == [44])=false:=beq_false_of_ne aj;apply RG;simp only[go_sem,ci];refine ad am [0,1] [sg pb _] [A8] rfl oD rfl (n9 (x:=fK) cb g8.le) fun v IB qs a6 ac bc=>?_;obtain rfl:=bc;simp only[Z3]at a6 |-;refine bf a6 [1,0] fun al=>?_;refine ae al fun IA al ag cf=>?_;refine aT ?_;exact af rfl al (r:=[_]) rfl (Em k8 aa ac ag) ⟨_,ks,rfl,f1,ba.sl (uw aa ac ag) cf,f2⟩
  have ci:(X ts (nx c ts t8) == [44])=true:=by rw[aj];decide
  obtain⟨m',a',ds,dc,da⟩:=ao.go aj;have cm:rr c ts n (.line 0 (o+1) (some (nx c ts t8+1)) 0) a':=by
   rcases dc with ⟨hi,_⟩|⟨_,⟨hi,_⟩|⟨t',bb,w,h1,h2⟩⟩
   ·cases hi
   ·cases hi
   ·cases bb;exact⟨w,ab,h2⟩
  have gT:=g8.take (x:=bB) bg;have c6:aW ts c (some t8) bB=(some (nx c ts t8+1),[]):=by unfold aW;simp only[Z9];rw[aaq aj]
  rw[c6]at gT;simp only[aa6]at gT;apply RG;simp only[go_sem,ci];refine ad am [0,1] [sg pb _] [A8] rfl eB rfl (f8 (x:=bB) cb g8.le) fun v IB qs a6 ac bc=>?_;obtain rfl:=bc;simp only[Z3]at a6 |-;have cA:=gL.le cb ac;refine aT ?_;refine ad a6 [0,1] [sg pb _] [_] rfl oe rfl (hL 0 0 bg pb IB _ _ _ _ a' cA gT trivial cm) fun v ICC qs a7 a4 c1=>?_;obtain⟨sC,nC,vkC,rfl,gC,rfl,cp,c7⟩:=c1;obtain⟨kaC,kcC,rfl,_⟩:=id cp;simp only[Z3]at a7 |-;apply RG;simp only[go_sem,cG];refine bf a7 [1,0] fun a7=>?_;refine Hm a7 (qE.le (ba.le (abV aa ac)) a4) (qP.one cp) (by have:=ao.len;omega) (by exact kH) rfl rfl rfl rfl rfl (fun b=>⟨rfl,rfl,rfl⟩) fun bC naC ncC IC AC b3 bF dd=>?_;refine aT ?_;refine bf b3 [1,0] fun b3=>?_;have aq:=abV a4 bF;have dv:=gL.le cA aq;have dk:=g8.le;refine ak ⟨m',naC,ks.length+1,ncC⟩ _ _ dt (bJ (by simp only[go_sem,aa6,iv,pt,aa9,aaJ])) (by simp only[go_sem,aa6,WB]) ⟨IC,AC,sC,a'.p,e8++a'.e,ks++[nC],rfl,b3,uw aS (abV aa ac) aq,gC,by simpa using dd,by simp,by simp only;omega,da nC sC.pos ab fun u hu=>⟨c7 u hu,?_⟩⟩;have h1:=G4 cm trivial rfl hu;rw[hu]at gC;have h3:=gT.2.2.2.1;have h4:=l6 (c:=c) (gx (show X ts (nx c ts t8)≠[] by rw[aj];decide));have h5:=g8.2.2.2.1;rw[gC.2.2.2.1];omega
end
open Go Go.Sx Dg Syn
section
variable {c:bP} {ts:List Syn.Tok} {lv xv:Value} {o:Nat} {e:List (Nat×Int)} {p:Option Nat} {s:PS} {pb:Nat} {I:PH} {q:PR}
def O1.lt{a b:Nat}{k:Int}{l:List Nd}(h:O1 a b k l):a<b:=by
 obtain⟨h1,h2,_⟩:=h;cases l with
 |nil=>cases h1
 |cons x l=>
  obtain⟨_,_,h3,h4,_⟩:=h2 x (.head _);omega
def Na{a b:Nat}(h:nx c ts a<nx c ts b)(hb:b<=ts.length):cn c ts a<cn c ts b:=by
 have:=yI (c:=c) hb;have h1:=l6 (c:=c) (ts:=ts) (p:=a) ab;have h2:=Gk (c:=c) (ts:=ts) (a:=nx c ts a+1) (b:=nx c ts b) ab;rw[vz]at h2;omega
def Mc{n:Nat}{x:dB}{q:PR}(h:rr c ts n x q)(w:LL c ts x){s:Nat}(hs:HH x=some s){j:Nat}(hj:q.p=some j):Cl (nx c ts s) (nx c ts j) x q.l:=by
 obtain⟨m,_,h⟩:=h;obtain⟨h1,h2⟩:=An m x q h w;rw[hs,hj]at h1;obtain⟨t,h3,_⟩:=h1;rcases h3 with ⟨e1,_⟩|⟨e1,_⟩
 ·exact h2 s j hs e1 hj
 ·cases e1
variable{b:PR}{m:Nat}
def Oy{o t:Nat}{ks:List Nd}(h:bS c ts m (.seqL false o (some t) ks none)=some b)(hx:X ts (nx c ts t)=qD):b=⟨ks,some (nx c ts t),[]⟩:=by
 cases m with
 |zero=>cases h
 |succ m=>
  simp only[bS,aC,nE,Z9]at h;rw[aaq (show tI ts false (nx c ts t)=true from abU hx)]at h;exact(aaZ h).symm
def Cy{o:Nat}{top:Bool}{ks:List Nd}{out:Option Nat}(h:bS c ts m (.seqL top o none ks out)=some b):b=⟨ks,out,[]⟩:=by
 cases m with
 |zero=>cases h
 |succ m=>exact(aaZ h).symm
def SE{o t:Nat}{ks:List Nd}(h:bS c ts m (.seqL false o (some t) ks none)=some b)(hx:X ts (nx c ts t)≠qD):
  ∃m' a b',m'<m/\rr c ts m (.stmt o (some (nx c ts t))) a/\bS c ts m' (.seqL false o a.p (ks++a.l) none)=some b'/\b=⟨b'.l,b'.p,a.e++b'.e⟩:=by
 cases m with
 |zero=>cases h
 |succ m=>
  simp only[bS,aC,nE,Z9]at h;rw[ZV (show ¬tI ts false (nx c ts t)=true from fun h=>hx (abl h))]at h;obtain⟨a,ha,h⟩:=gW h;obtain⟨b',hb,h⟩:=gW h;cases h
  exact⟨m,a,b',ab,⟨m,ab,ha⟩,hb,rfl⟩
end
structure WE where
 m:Nat
 va:Option Addr
 vn:Nat
 vc:Nat
def WG(pb tk slot:Nat)(x:WE):St:=⟨dn 32 [(0,.v (pt pb)),(4,.p 4 0),(5,.p 5 0)],[⟨4,67,yK⟩,⟨5,67,[.int .u8 6,.string ⟨#[]⟩,.int .i64 tk,.int .i64 slot,.slice x.va x.vn x.vc,.slice none 0 0]⟩]⟩
def Zx(c:bP)(ts:List Syn.Tok)(lv xv:Value)(pb o slot tk:Nat)(n:Nat)(q:PR)(e:List (Nat×Int))(I0:PH)(x:WE)(H:PH):Prop:=
 ∃I A s' p' e' ks,H=U [I,sg pb (bG lv xv ts.length s'),A]/\Dj [I,sg pb (bG lv xv ts.length s'),A]/\I0.le I/\Sg c ts s' p' (o+1) e'/\qE I A (.slice x.va x.vn x.vc) ks/\x.vn=ks.length/\x.m<=n/\ks.length<=16385/\
  (p'=none->q.p=none/\e'=e++q.e)/\∀t,p'=some t->ks.length<=s'.pos/\∃b,bS c ts x.m (.seqL false (o+1) (some t) ks none)=some b/\(aW ts c b.p qD).1=q.p/\e'++b.e++(aW ts c b.p qD).2=e++q.e/\q.l=[⟨6,[],(tk:Nat),slot,b.l,tt⟩]
section
variable {c:bP} {ts:List Syn.Tok} {lv xv:Value} {o:Nat} {e:List (Nat×Int)} {p:Option Nat} {s:PS} {pb:Nat} {I:PH} {q:PR}
theorem Lz{n:Nat}(hS:GS c ts lv xv (rr c ts n)){slot:Nat}(hI:Ex c ts I lv xv)(h:Sg c ts s p o e)(hn:p=none->q=ap)(hs:∀t,p=some t->rr c ts (n+1) (.block o (some t) slot) q):
  aK Tryz.prog 197 #[pt pb,.int .i64 slot] I [sg pb (bG lv xv ts.length s)] (JH c ts pb lv xv q o e):=by
 intro hd;have hl:=hI.len;obtain⟨p1,e1,g1,hc⟩:=sV h (x:=Im) bg;obtain⟨tk,a5⟩:∃tk,vW (jY c ts 0) ts.length s.pos=tk:=⟨_,rfl⟩;obtain⟨m,hm,bc,ci⟩:∃m,m<=n/\(p1=none->q.p=none/\e1=e++q.e)/\∀t,p1=some t->∃b,bS c ts m (.seqL false (o+1) (some t) [] none)=some b/\(aW ts c b.p qD).1=q.p/\e1++b.e++(aW ts c b.p qD).2=e++q.e/\q.l=[⟨6,[],(tk:Nat),slot,b.l,tt⟩]:=by
  rcases hc with ⟨rfl,⟨hp,rfl⟩|⟨t,k,hp,rfl,hk⟩⟩|⟨t,hp,hx,ho,rfl,rfl⟩
  ·rw[hn hp];exact⟨0,aaL _,fun _=>⟨rfl,by simp[ap]⟩,fun t ht=>by cases ht⟩
  ·obtain⟨m,_,h1,_⟩:=(hs t hp).step;have h2:jI c ts (bS c ts m) o (some t) slot=some q:=h1;unfold jI at h2;simp only[Z9]at h2;have hq:q=⟨[],none,[(k,((nx c ts t:Nat):Int))]⟩:=by
    rcases hk with ⟨h3,rfl⟩|⟨h3,h4,rfl⟩
    ·rw[aaq h3]at h2;exact(aaZ h2).symm
    ·rw[ZV (by simp[h3]),aaq h4]at h2;exact(aaZ h2).symm
   subst hq;exact⟨0,aaL _,fun _=>⟨rfl,rfl⟩,fun t ht=>by cases ht⟩
  ·obtain⟨m,hm,h1,cr⟩:=(hs t hp).step;have h2:jI c ts (bS c ts m) o (some t) slot=some q:=h1;unfold jI at h2;simp only[Z9]at h2;rw[ZV (by simp[hx]),ZV ho]at h2;obtain⟨a,ha,h3⟩:=gW h2;cases h3
   subst hp;rw[h.tk]at a5;subst a5;exact⟨m,ab,fun h=>(by cases h),fun t' ht=>(by cases ht;exact⟨a,ha,rfl,by simp,rfl⟩)⟩
 clear hc;refine ah 32 Tryz.func197 fun w0=>?_
 try simp only[pt]
 refine aT ?_;refine ad hd [0] [sg pb _] [] rfl km rfl (qU hI h.le) fun v I2 qs b7 cm cf=>?_;obtain⟨rfl,rfl,rfl⟩:=cf;simp only[Z3]at b7 |-;rw[a5];refine dP ?_;refine ad b7 [0] [sg pb _] [] rfl sf rfl (si (x:=Im) hI h.le) fun v I3 qs al aq cd=>?_;obtain rfl:=cd;simp only[Z3]at al |-;have cB:=gL.le hI aq;refine aR al fun al=>?_;refine bf al [1,0] fun al=>?_;refine aT ?_;refine aA (fun x=>x.m) (WG pb tk slot) (Zx c ts lv xv pb o slot tk n q e I3) ⟨m,none,0,0⟩ gP (by simp only[go_sem,aa6,WG,yK]) ?_ ?_
 ·exact⟨I3,PH.no,_,p1,e1,[],rfl,al,abW _,g1,Ow.nil _ _ _ _,rfl,hm,by simp,bc,fun t ht=>⟨aaL _,ci t ht⟩⟩
 rintro⟨mm,va,vn,vc⟩ H ⟨I8,A8,s8,p8,e8,ks,rfl,ba,ao,g8,a4,b0,cl,cy,b8,b5⟩ ag;simp only at a4 b0 cl b8 b5 ag;subst b0;simp only[WG,yK];have k8:=abV aq ao;have bs:=gL.le hI k8;refine ll ?_;refine XN (l:=[.bool s8.bad]) rfl (qQ ba) (.inr ⟨Ep,rfl⟩) ?_;have g9:=g8.leave (x:=qD) bg;cases p8 with
 |none=>
  obtain⟨b1,b2⟩:=b8 rfl;have bb:s8.bad=true:=g8.2.1;simp only[aW,aac,aa6]at g9;apply RG;simp only[go_sem,bb];refine ad ba [0,1] [sg pb _] [A8] rfl oD rfl (n9 (x:=qD) bs g8.le) fun v I9 qs ak aa a6=>?_;obtain rfl:=a6;simp only[Z3]at ak |-;refine bf ak [1,0] fun aj=>?_;refine ae aj fun IA aj ac bx=>?_;refine aT ?_;exact af rfl aj (r:=[cG ⟨6,[],(tk:Nat),slot,ks,tt⟩ (.slice va ks.length vc) eQ]) (by simp only[Tryz.results197,go_sem,iv,cG]) (uw k8 aa ac) ⟨_,_,_,rfl,by rw[b1,<-b2];exact g9,rfl,a4.sl (abV aa ac) bx,fun t ht=>by rw[b1]at ht;cases ht⟩
 |some t8=>
  obtain⟨cx,b,hb,f1,f2,f3⟩:=b5 t8 rfl;have bb:s8.bad=false:=g8.2.1;have ca:mB (fG c ts) s8.pos=X ts (nx c ts t8):=g8.tx;apply RG;simp only[go_sem,bb];refine ad ba [0,1] [sg pb _] [A8] rfl dq rfl (eN bs g8.le) fun v I9 qs ak aa a6=>?_;obtain⟨rfl,rfl⟩:=a6;simp only[Z3]at ak |-;rw[ca];have bd:=gL.le bs aa;by_cases a1:X ts (nx c ts t8)=qD
  ·have bF:(X ts (nx c ts t8) == [125])=true:=by rw[a1];decide
   have:=Oy hb a1;subst this;simp only[np,aa6]at f1 f2 f3;rw[f1,f2]at g9;apply RG;simp only[go_sem,bF,abQ];refine ad ak [0,1] [sg pb _] [A8] rfl oD rfl (n9 (x:=qD) bd g8.le) fun v IB qs b6 an cc=>?_;obtain rfl:=cc;simp only[Z3]at b6 |-;refine bf b6 [1,0] fun aj=>?_;refine ae aj fun IA aj ac bx=>?_;refine aT ?_;exact af rfl aj (r:=[cG ⟨6,[],(tk:Nat),slot,ks,tt⟩ (.slice va ks.length vc) eQ]) (by simp only[Tryz.results197,go_sem,iv,cG]) (Em k8 aa an ac) ⟨_,_,_,rfl,g9,rfl,a4.sl (uw aa an ac) bx,fun t ht=>f3⟩
  have bF:(X ts (nx c ts t8) == [125])=false:=beq_false_of_ne a1;obtain⟨m',a',b',ct,b3,a3,rfl⟩:=SE hb a1;apply RG;simp only[go_sem,bF,abK];refine cK mixed [0,1,2,3,4,5,6,7] [] [] [1] [] [5] rfl rfl ?_;refine gw ?_;refine aE ak [0,1] [sg pb _] [_] rfl Oo rfl (hS pb I9 _ _ _ _ a' bd g8 trivial (by obtain⟨w,h1,h2⟩:=b3;exact⟨w,ab,h2⟩)) fun v ICC qs a2 aS cb=>?_;obtain⟨sC,nC,vkC,rfl,gC,rfl,b4,cj⟩:=cb;obtain⟨kaC,kcC,rfl,_⟩:=id b4;simp only[Z3]at a2 |-;apply au;simp only[go_sem,cG];refine nI a2 [1,0] fun a2=>?_;refine fF a2 (qE.le (a4.le aa) aS) (qP.one b4) ab (by exact kH) rfl rfl rfl rfl rfl rfl rfl (fun b=>⟨rfl,rfl,rfl⟩) fun bC naC ncC IC AC a9 a7 cp=>?_;refine gw ?_;refine aw ?_;refine aT ?_;refine bf a9 [1,0] fun a9=>?_;have am:=abV aS a7;have cA:=gL.le bd am;have cs:=g8.le;refine ag ⟨m',naC,ks.length+1,ncC⟩ _ _ dt (bJ (by simp only[go_sem,aa6,iv,pt,aa9,aaJ])) (by simp only[go_sem,aa6,WG,yK,aa9,aaJ]) ⟨IC,AC,sC,a'.p,e8++a'.e,ks++[nC],rfl,a9,uw ao aa am,gC,by simpa using cp,by simp,by simp only;omega,by simp only[aa9,aaJ];omega,fun hp=>?_,fun t ht=>⟨?_,b',?_,f1,by rw[<-f2];simp,f3⟩⟩
  ·rw[hp]at a3;have:=Cy a3;subst this;simp only[aW,aac,aa6]at f1 f2;exact⟨f1.symm,f2⟩
  ·rw[ht]at gC;have h1:=O1.lt (Mc b3 (by intro j hj;cases hj;exact ce _ _ _) rfl ht);rw[ce]at h1;have h2:=Na h1 gC.2.2.2.2.1;have h5:=g8.2.2.2.1;rw[gC.2.2.2.1];simp only[aa9,aaJ];omega
  ·rw[cj t ht,ht]at a3;exact a3
end
open Go Go.Sx Dg Syn
section
variable {c:bP} {ts:List Syn.Tok} {lv xv:Value} {o:Nat} {e:List (Nat×Int)} {p:Option Nat} {s:PS} {pb:Nat} {I:PH} {q:PR}
def wF(slot:Nat):Cb c ts lv xv 197 (aU slot):=fun _ _ _ _ _ hI h=>Lz (n:=0) (fun _ _ _ _ _ _ _ _ _ _ h=>(NM h).elim) hI h (fun _=>rfl) (fun t ht=>by cases ht)
variable{n:Nat}
def PT(hS:GS c ts lv xv (rr c ts n)):GB c ts lv xv (rr c ts (n+1)):=fun _ _ _ _ _ _ _ _ hI h _ hr=>Lz hS hI h (fun ht=>by cases ht) (fun t ht=>by cases ht;exact hr)
def Bh(c:bP)(ts:List Syn.Tok)(n:Nat)(typ:Bool)(o:Nat)(p:Option Nat)(sign:bq)(slot:Nat)(d:PR):Prop:=
 (p=none/\d=ap)\/(∃u,p=some u/\X ts (nx c ts u)≠sign/\d=⟨[],some (nx c ts u),[]⟩)\/
  ∃u,p=some u/\X ts (nx c ts u)=sign/\((typ=false/\rr c ts n (.line 0 o (some (nx c ts u+1)) slot) d)\/(typ=true/\d=bI ts c (some (nx c ts u+1)) slot))
variable{d:PR}{sign:bq}{slot:Nat}{typ:Bool}
def wZ{m:Nat}{o:Nat}{p:Option Nat}(h:bS c ts m (.behind typ o p sign slot)=some d)(hm:m<=n):Bh c ts n typ o p sign slot d:=by
 cases p with
 |none=>exact .inl ⟨rfl,PV.noneBehind ⟨m,h⟩⟩
 |some u=>
  cases m with
  |zero=>cases h
  |succ m=>
   simp only[bS,aC,kh]at h;obtain⟨a,ha,h⟩:=gW h;cases h
   by_cases hx:X ts (nx c ts u)=sign
   ·rw[jM (kA hx)]at ha;rw[jA (by simp[kA hx])];refine .inr (.inr ⟨u,rfl,hx,?_⟩);cases typ with
    |true=>exact .inr ⟨rfl,by simpa[fy]using (aaZ ha).symm⟩
    |false=>exact .inl ⟨rfl,m,ab,by simpa[fy]using ha⟩
   ·rw[jA (kD hx)]at ha;rw[jM (by simp[kD hx])];refine .inr (.inl ⟨u,rfl,hx,?_⟩);have:a=ap:=by
     cases typ with
     |true=>simp[fy,bI]at ha;exact ha.symm
     |false=>exact PV.noneLine ⟨m,by simpa[fy]using ha⟩
    subst this;rfl
def QW{u:Nat}(h:rr c ts (n+1) (.vrb o (some u)) q):∃d,Bh c ts n false o (bI ts c (aW ts c (aI ts c (some u) 2 0).p bA).1 0).p su 1 d/\
  q=⟨give (give (aI ts c (some u) 2 0).l (bI ts c (aW ts c (aI ts c (some u) 2 0).p bA).1 0).l) d.l,(aW ts c d.p a8).1,(aI ts c (some u) 2 0).e++(aW ts c (aI ts c (some u) 2 0).p bA).2++(bI ts c (aW ts c (aI ts c (some u) 2 0).p bA).1 0).e++d.e++(aW ts c d.p a8).2⟩:=by
 obtain⟨m,hm,h1,_⟩:=h.step;have h2:gZ c ts (bS c ts m) o (some u)=some q:=h1;unfold gZ at h2;obtain⟨d,hd,h3⟩:=gW h2;cases h3
 exact⟨d,wZ hd ab,rfl⟩
def iL{t:Nat}{x:bq}(h:X ts (nx c ts t)=x):aW ts c (some t) x=(some (nx c ts t+1),[]):=by unfold aW;simp only[Z9];rw[aaq h]
def Bh.no(h:Bh c ts n typ o p sign slot d)(g:Sg c ts s p o e)(hx:pS c ts s≠sign):Sg c ts s d.p o (e++d.e)/\d.l=[]:=by
 rcases h with ⟨rfl,rfl⟩|⟨u,rfl,h1,rfl⟩|⟨u,rfl,h1,_⟩
 ·exact⟨by simpa[ap]using g,rfl⟩
 ·exact⟨by simpa using g.nx,rfl⟩
 ·rw[g.tx]at hx;exact absurd h1 hx
def Bh.yes(h:Bh c ts n typ o p sign slot d)(g:Sg c ts s p o e)(hs:sign≠[])(hx:pS c ts s=sign):
  ∃p2,Sg c ts (xP c ts s sign) p2 o e/\(p2=none->d=ap)/\(∀t,p2=some t->(typ=false->rr c ts n (.line 0 o (some t) slot) d))/\(typ=true->d=bI ts c p2 slot):=by
 have k:=g.take hs;rcases h with ⟨rfl,rfl⟩|⟨u,rfl,h1,rfl⟩|⟨u,rfl,h1,h2⟩
 ·exact⟨none,by simpa[aW]using k,fun _=>rfl,fun t ht=>(by cases ht),fun _=>rfl⟩
 ·rw[g.tx]at hx;exact absurd hx h1
 ·rw[iL h1]at k;refine⟨_,by simpa using k,fun h=>(by cases h),fun t ht hf=>?_,fun hf=>?_⟩
  ·cases ht
   rcases h2 with ⟨_,h2⟩|⟨h3,_⟩
   ·exact h2
   ·rw[hf]at h3;cases h3
  ·rcases h2 with ⟨h3,_⟩|⟨_,h2⟩
   ·rw[hf]at h3;cases h3
   ·exact h2
theorem VN(hL:GL c ts lv xv (rr c ts n)):GV c ts lv xv (rr c ts (n+1)):=by
 intro pb I s t o e q hI h a7 hr hd;obtain⟨d,hB,rfl⟩:=QW hr;have g1:=h.take (x:=lT) bg;rw[iL a7]at g1;simp only[aa6]at g1;refine iz Tryz.func130 rfl (by simp[Tryz.ntmps130,a0]) fun w0=>?_;simp only[Tryz.ntmps130,a0,pt];refine aT ?_;refine ad hd [0] [sg pb _] [] rfl eB rfl (f8 (x:=lT) hI h.le) fun v I1 qs b2 aS cp=>?_;obtain rfl:=cp;simp only[Z3]at b2 |-;have ca:=gL.le hI aS;refine aT ?_;refine ad b2 [0] [sg pb _] [] rfl tC rfl (xV ca g1 2 0) fun v I2 qs b1 aq cm=>?_;obtain⟨s2,n2,rfl,g2,rfl,cx,ct⟩:=cm;simp only[Z3]at b1 |-;have b7:=gL.le ca aq;apply RG;simp only[go_sem,cG];refine ad b1 [0] [sg pb _] [] rfl eB rfl (f8 (x:=bA) b7 g2.le) fun v I3 qs ak ao cl=>?_;obtain rfl:=cl;simp only[Z3]at ak |-;have b6:=gL.le b7 ao;have g3:=g2.take (x:=bA) bg;refine aR ak fun ak=>?_;refine bf ak [1,0] fun ak=>?_;refine aT ?_;refine cK mixed [0,1,2,3,4,5,6,7] [] [] [1] [] [3] rfl rfl ?_;refine gw ?_;refine aE ak [0,1] [sg pb _] [_] rfl Bk rfl (Ba b6 g3 0) fun v IC4 qs a5 a2 cj=>?_;obtain⟨s4,n4,vk4,rfl,g4,rfl,bF,cs⟩:=cj;obtain⟨ka4,kc4,rfl,_⟩:=id bF;simp only[Z3]at a5 |-;apply au;simp only[go_sem,cG];refine nI a5 [1,0] fun a5=>?_;refine fF a5 (qE.le (Ow.nil (iS eQ) 67 6 I3) a2) (qP.one bF) (by simp) (by exact kH) rfl rfl rfl rfl rfl rfl rfl (fun b=>⟨rfl,rfl,rfl⟩) fun b4 na4 nc4 I4 A4 bd ba cb=>?_;refine gw ?_;refine aw ?_;refine aT ?_;refine bf bd [1,0] fun bd=>?_;have an:=abV a2 ba;have b5:=gL.le b6 an;refine ad bd [0,1] [sg pb _] [A4] rfl dq rfl (eN b5 g4.le) fun v I5 qs bc ag ci=>?_;obtain⟨rfl,rfl⟩:=ci;simp only[Z3]at bc |-;have bs:=gL.le b5 ag;have k5:I.le I5:=Kg aS aq ao an ag
 have nodes:∀t1,(bI ts c (aW ts c (aI ts c (some (nx c ts t+1)) 2 0).p bA).1 0).p=some t1->give (aI ts c (some (nx c ts t+1)) 2 0).l (bI ts c (aW ts c (aI ts c (some (nx c ts t+1)) 2 0).p bA).1 0).l=[{ n2 with kids:=[n4] }]:=fun t1 ht=>by
  obtain⟨u,hu⟩:=uQ ht;obtain⟨u',cc⟩:=gS hu;rw[ct u' cc,cs t1 ht];show [{ n2 with kids:=n2.kids++[n4] }]=_;rw[cx];rfl
 have pre:∀t1,d.p=some t1->∃t2,(bI ts c (aW ts c (aI ts c (some (nx c ts t+1)) 2 0).p bA).1 0).p=some t2:=fun t1 ht=>by
  rcases hB with ⟨_,rfl⟩|⟨u,h1,_⟩|⟨u,h1,_⟩
  ·cases ht
  ·exact⟨u,h1⟩
  ·exact⟨u,h1⟩
 cases hx:(mB (fG c ts) s4.pos == [61])
 ·obtain⟨g6,f6⟩:=hB.no g4 (ne_of_beq_false hx);apply RG;simp only[go_sem,hx];refine ad bc [0,1] [sg pb _] [A4] rfl eB rfl (f8 (x:=a8) bs g4.le) fun v I7 qs a3 aa a6=>?_;obtain rfl:=a6;simp only[Z3]at a3 |-;refine bf a3 [1,0] fun aj=>?_;refine ae aj fun I8 aj ac bx=>?_;refine aT ?_;refine af rfl aj (r:=[cG { n2 with kids:=[n4] } (.slice na4 1 nc4) eQ]) (by simp only[Tryz.results130,go_sem,iv,cG]) (uw k5 aa ac) ⟨_,_,_,rfl,by simpa[aaT]using g6.take (x:=a8) bg,rfl,cb.sl (uw ag aa ac) bx,fun t1 ht=>?_⟩;obtain⟨t2,h2⟩:=gS ht;obtain⟨t3,h3⟩:=pre t2 h2;simp only;rw[nodes t3 h3,f6];rfl
 ·obtain⟨p2,g6,f1,f2,_⟩:=hB.yes g4 bg (eq_of_beq hx);apply RG;simp only[go_sem,hx];refine ad bc [0,1] [sg pb _] [A4] rfl eB rfl (f8 (x:=su) bs g4.le) fun v I7 qs a3 aa a6=>?_;obtain rfl:=a6;simp only[Z3]at a3 |-;have b3:=gL.le bs aa;refine aT ?_;refine cK mixed [0,1,2,3,4,5,6,7] [] [] [1] [] [3] rfl rfl ?_;refine gw ?_;refine aE a3 [0,1] [sg pb _] [_] rfl oe rfl (Cw (vY 0 1) (hL 0 1 bg) b3 g6 f1 (fun t ht=>⟨trivial,f2 t ht rfl⟩)) fun v IC8 qs a4 a1 cf=>?_;obtain⟨s8,n8,vk8,rfl,g8,rfl,bC,cr⟩:=cf;obtain⟨ka8,kc8,rfl,_⟩:=id bC;simp only[Z3]at a4 |-;apply au;simp only[go_sem,cG];refine nI a4 [1,0] fun a4=>?_;refine fF a4 (qE.le (cb.le (abV ag aa)) a1) (qP.one bC) (by simp) (by exact kH) rfl rfl rfl rfl rfl rfl rfl (fun b=>⟨rfl,rfl,rfl⟩) fun b8 na8 nc8 I8 A8 aj a9 bx=>?_;refine gw ?_;refine aw ?_;refine aT ?_;refine bf aj [1,0] fun aj=>?_;have ac:=abV a1 a9;have cy:=gL.le b3 ac;refine ad aj [0,1] [sg pb _] [A8] rfl eB rfl (f8 (x:=a8) cy g8.le) fun v I9 qs b0 am cd=>?_;obtain rfl:=cd;simp only[Z3]at b0 |-;refine bf b0 [1,0] fun bb=>?_;refine ae bb fun IA bb al cA=>?_;refine aT ?_;refine af rfl bb (r:=[cG { n2 with kids:=[n4,n8] } (.slice na8 2 nc8) eQ]) (by simp only[Tryz.results130,go_sem,iv,cG]) (Kg k5 aa ac am al) ⟨_,_,_,rfl,by simpa[aaT]using g8.take (x:=a8) bg,rfl,bx.sl (abV am al) cA,fun t1 ht=>?_⟩;obtain⟨t2,h2⟩:=gS ht;obtain⟨t3,h3⟩:=pre t2 h2;simp only;rw[nodes t3 h3,cr t2 h2];rfl
end
end Go.Proofs.YtfaclfkpnmcmlaaGreatDoor
