import Derived.Test.YtfaclfkpnmcmlaaGreatDoorT23
set_option maxHeartbeats 8000000
set_option linter.all false
open Go.Proofs.Tryz hiding f8
namespace Go.Proofs.YtfaclfkpnmcmlaaGreatDoor
open Go Go.Sx Dg Syn
section
variable {c:bP} {ts:List Syn.Tok} {lv xv:Value} {o:Nat} {e:List (Nat×Int)} {p:Option Nat} {s:PS} {pb:Nat} {I:PH} {q:PR}
def JI{n i kd:Nat}{gz:bq}(h:rr c ts (n+1) (.stmt o (some i)) q)(hw:X ts i=gz)(hk:(kd=10/\gz=iH)\/(kd=11/\gz=jU)\/(kd=12/\gz=ew)):
  (kd=10/\X ts (nx c ts (i+1))=a8/\q=⟨[⟨kd,[],(i:Nat),0,[],tt⟩],(aW ts c (some (i+1)) a8).1,(aW ts c (some (i+1)) a8).2⟩)\/
  ((kd=10->X ts (nx c ts (i+1))≠a8)/\∃u a,(u=i+1\/u=nx c ts (i+1))/\rr c ts n (.line 0 o (some u) 0) a/\q=⟨give [⟨kd,[],(i:Nat),0,[],tt⟩] a.l,(aW ts c a.p a8).1,a.e++(aW ts c a.p a8).2⟩):=by
 obtain⟨m,hm,h1,aa⟩:=h.step;have h2:gM c ts (bS c ts m) o (some i)=some q:=h1;unfold gM at h2;simp only at h2;rcases hk with ⟨rfl,rfl⟩|⟨rfl,rfl⟩|⟨rfl,rfl⟩
 ·rw[hw,ZV bg,ZV bg,ZV bg,ZV bg,aaq rfl]at h2;obtain⟨a,ha,h3⟩:=gW h2;cases h3
  by_cases hx:X ts (nx c ts (i+1))=a8
  ·rw[jA (by simp[kA hx])]at ha;have:=PV.noneLine ⟨m,ha⟩;subst this;rw[jM (kA hx)];refine .inl ⟨rfl,hx,?_⟩;simp only[ap,Option.none_or,np,aaA];rfl
  ·rw[jM (by simp[kD hx])]at ha;rw[jA (kD hx),Option.or_none];exact .inr ⟨fun _=>hx,_,a,.inr rfl,aa _ _ ha,rfl⟩
 ·rw[hw,ZV bg,ZV bg,ZV bg,ZV bg,ZV bg,aaq bg]at h2;obtain⟨a,ha,h3⟩:=gW h2;cases h3
  exact .inr ⟨fun h=>(by cases h),_,a,.inl rfl,aa _ _ ha,rfl⟩
 ·rw[hw,ZV bg,ZV bg,ZV bg,ZV bg,ZV bg,aaq bg]at h2;obtain⟨a,ha,h3⟩:=gW h2;cases h3
  exact .inr ⟨fun h=>(by cases h),_,a,.inl rfl,aa _ _ ha,rfl⟩
theorem JX{n:Nat}(hL:GL c ts lv xv (rr c ts n)){kd t:Nat}{gz:bq}(hk:(kd=10/\gz=iH)\/(kd=11/\gz=jU)\/(kd=12/\gz=ew))(hI:Ex c ts I lv xv)(h:Sg c ts s (some t) o e)(hw:X ts (nx c ts t)=gz)(hr:rr c ts (n+1) (.stmt o (some (nx c ts t))) q):
  aK prog 287 #[pt pb,.int .u8 kd,.string ⟨⟨gz⟩⟩] I [sg pb (bG lv xv ts.length s)] (JH c ts pb lv xv q o e):=by
 intro hd;have b2:gz≠[]:=by rcases hk with ⟨_,rfl⟩|⟨_,rfl⟩|⟨_,rfl⟩<;>decide
 have a3:=JI hr hw hk;have b4:=h.tk;have g1:=h.take (x:=gz) b2;rw[iL hw]at g1;simp only[aa6]at g1;refine ah 32 func287 fun w0=>?_
 try simp only[pt]
 refine aT ?_;refine ad hd [0] [sg pb _] [] rfl km rfl (qU hI h.le) fun v I1 qs b1 cb ca=>?_;obtain⟨rfl,rfl,rfl⟩:=ca;simp only[Z3]at b1 |-;rw[b4];refine dP ?_;refine ad b1 [0] [sg pb _] [] rfl eB rfl (f8 (x:=gz) hI h.le) fun v I2 qs bb al b7=>?_;obtain rfl:=b7;simp only[Z3]at bb |-;have a5:=gL.le hI al;have bF:∀(u:Nat) (a:PR) (J:PH),(u=nx c ts t+1\/u=nx c ts (nx c ts t+1))->rr c ts n (.line 0 o (some u) 0) a->Ex c ts J lv xv->aK prog 86 #[pt pb,.int .i64 0,.int .i64 0] J [sg pb (bG lv xv ts.length (xP c ts s gz))] (JH c ts pb lv xv a o e):=fun u a J hu ha hJ=>by
  rcases hu with rfl|rfl
  ·exact hL 0 0 bg pb J _ _ _ _ a hJ g1 trivial ha
  ·exact hL 0 0 bg pb J _ _ _ _ a hJ g1.nx trivial ha
 have b3:mB (fG c ts) (i8 (fG c ts) (jY c ts 0) ts.length s gz).pos=X ts (nx c ts (nx c ts t+1)):=g1.tx;by_cases aq:kd=10
 ·have c1:((kd:Int) != 10)=false:=by rw[aq];rfl
  apply RG;simp only[go_sem,c1];refine ad bb [0] [sg pb _] [] rfl dq rfl (eN a5 g1.le) fun v I3 qs aa an b6=>?_;obtain⟨rfl,rfl⟩:=b6;simp only[Z3]at aa |-;rw[b3];have bd:=gL.le a5 an;rcases a3 with ⟨_,hx,rfl⟩|⟨hx,u,a,hu,ha,rfl⟩
  ·have bC:(X ts (nx c ts (nx c ts t+1)) == [59])=true:=by rw[hx];decide
   apply RG;simp only[go_sem,bC,abQ];refine ad aa [0] [sg pb _] [] rfl eB rfl (f8 (x:=a8) bd g1.le) fun v I4 qs b0 ba b5=>?_;obtain rfl:=b5;simp only[Z3]at b0 |-;refine aT ?_;exact af rfl b0 (r:=[cG ⟨kd,[],(nx c ts t:Nat),0,[],tt⟩ eQ eQ]) (by simp only[results287,go_sem,iv,cG]) (uw al an ba) ⟨_,_,_,rfl,g1.take (x:=a8) bg,rfl,jV.nil _,fun _ _=>rfl⟩
  ·have bC:(X ts (nx c ts (nx c ts t+1)) == [59])=false:=beq_false_of_ne (hx aq);refine aR aa fun aa=>?_;refine bf aa [1,0] fun aa=>?_;apply RG;simp only[go_sem,bC,abK];refine cK mixed [0,1,2,3,4,5,6,7] [] [] [1] [] [7] rfl rfl ?_;refine gw ?_;refine aE aa [0,1] [sg pb _] [_] rfl oe rfl (bF u a I3 hu ha bd) fun v IC8 qs am ak a7=>?_;obtain⟨s8,n8,vk8,rfl,g8,rfl,a2,a9⟩:=a7;obtain⟨ka8,kc8,rfl,_⟩:=id a2;simp only[Z3]at am |-;apply au;simp only[go_sem,cG];refine nI am [1,0] fun am=>?_;refine fF am (qE.le (Ow.nil (iS eQ) 67 6 I3) ak) (qP.one a2) (by simp) (by exact kH) rfl rfl rfl rfl rfl rfl rfl (fun b=>⟨rfl,rfl,rfl⟩) fun b8 na8 nc8 I8 A8 a1 ao bx=>?_;refine gw ?_;refine aw ?_;refine aT ?_;refine bf a1 [1,0] fun a1=>?_;have aj:=abV ak ao;have bc:=gL.le bd aj;refine ad a1 [0,1] [sg pb _] [A8] rfl eB rfl (f8 (x:=a8) bc g8.le) fun v I9 qs a4 ag a6=>?_;obtain rfl:=a6;simp only[Z3]at a4 |-;refine bf a4 [1,0] fun aS=>?_;refine ae aS fun IA aS ac bs=>?_;refine aT ?_;refine af rfl aS (r:=[cG ⟨kd,[],(nx c ts t:Nat),0,[n8],tt⟩ (.slice na8 1 nc8) eQ]) (by simp only[results287,go_sem,iv,cG]) (Kg al an aj ag ac) ⟨_,_,_,rfl,by simpa[aaT]using g8.take (x:=a8) bg,rfl,bx.sl (abV ag ac) bs,fun t1 ht=>?_⟩;obtain⟨t2,h2⟩:=gS ht;simp only;rw[a9 t2 h2];rfl
 ·have c1:((kd:Int) != 10)=true:=by simp;omega
  rcases a3 with ⟨cc,_⟩|⟨_,u,a,hu,ha,rfl⟩
  ·exact absurd cc aq
  have aa:=bb;refine aR aa fun aa=>?_;refine bf aa [1,0] fun aa=>?_;apply RG;simp only[go_sem,c1];refine cK mixed [0,1,2,3,4,5,6,7] [] [] [1] [] [7] rfl rfl ?_;refine gw ?_;refine aE aa [0,1] [sg pb _] [_] rfl oe rfl (bF u a I2 hu ha a5) fun v IC8 qs am ak a7=>?_;obtain⟨s8,n8,vk8,rfl,g8,rfl,a2,a9⟩:=a7;obtain⟨ka8,kc8,rfl,_⟩:=id a2;simp only[Z3]at am |-;apply au;simp only[go_sem,cG];refine nI am [1,0] fun am=>?_;refine fF am (qE.le (Ow.nil (iS eQ) 67 6 I2) ak) (qP.one a2) (by simp) (by exact kH) rfl rfl rfl rfl rfl rfl rfl (fun b=>⟨rfl,rfl,rfl⟩) fun b8 na8 nc8 I8 A8 a1 ao bx=>?_;refine gw ?_;refine aw ?_;refine aT ?_;refine bf a1 [1,0] fun a1=>?_;have aj:=abV ak ao;have bc:=gL.le a5 aj;refine ad a1 [0,1] [sg pb _] [A8] rfl eB rfl (f8 (x:=a8) bc g8.le) fun v I9 qs a4 ag a6=>?_;obtain rfl:=a6;simp only[Z3]at a4 |-;refine bf a4 [1,0] fun aS=>?_;refine ae aS fun IA aS ac bs=>?_;refine aT ?_;refine af rfl aS (r:=[cG ⟨kd,[],(nx c ts t:Nat),0,[n8],tt⟩ (.slice na8 1 nc8) eQ]) (by simp only[results287,go_sem,iv,cG]) (Em al aj ag ac) ⟨_,_,_,rfl,by simpa[aaT]using g8.take (x:=a8) bg,rfl,bx.sl (abV ag ac) bs,fun t1 ht=>?_⟩;obtain⟨t2,h2⟩:=gS ht;simp only;rw[a9 t2 h2];rfl
end
open Go Go.Sx Dg Syn
section
variable {c:bP} {ts:List Syn.Tok} {lv xv:Value} {o:Nat} {e:List (Nat×Int)} {p:Option Nat} {s:PS} {pb:Nat} {I:PH} {q:PR}
def Xx(c:bP)(ts:List Syn.Tok)(n o:Nat)(p:Option Nat)(slot:Nat)(b:PR):Prop:=(p=none->b=ap)/\∀t,p=some t->rr c ts n (.block o (some t) slot) b
def kF(l:List Nd):give l []=l:=by
 induction l with
 |nil=>rfl
 |cons a l ih=>
  simp only[give,aaU,aa6]at ih |-;rw[ih];cases a;rfl
def El (c : bP) (ts : List Syn.Tok) (n o : Nat) (p : Option Nat) (l : List Nd) (d : PR) : Prop :=
  (p = none ∧ d = ⟨l, none, []⟩) ∨ (∃ u, p = some u ∧ X ts (nx c ts u) ≠ dr ∧ d = ⟨l, some (nx c ts u), []⟩) ∨
    ∃ u, p = some u ∧ X ts (nx c ts u) = dr ∧
      ((X ts (nx c ts (nx c ts u + 1)) ≠ kT ∧ ∃ a, rr c ts n (.block o (some (nx c ts (nx c ts u + 1))) 2) a ∧ d = ⟨give l a.l, a.p, a.e⟩) ∨
       (X ts (nx c ts (nx c ts u + 1)) = kT ∧ ((o = 64 ∧ d = ⟨l, none, [(11, ((nx c ts (nx c ts u + 1) : Nat) : Int))]⟩) ∨ (o ≠ 64 ∧ ∃ a, rr c ts n (.branch (o + 1) (some (nx c ts (nx c ts u + 1))) 2) a ∧ d = ⟨give l a.l, a.p, a.e⟩))))
variable{l:List Nd}
def LZ{m o:Nat}{out:Option Nat}{b:PR}(h:bS c ts m (.ifs o none l out)=some b):b=⟨l,out,[]⟩:=by
 cases m with
 |zero=>cases h
 |succ m=>exact(aaZ h).symm
def So{n m o:Nat}{p:Option Nat}{d:PR}(h:bS c ts m (.elses o (qz c ts p (pi ts dr)) l (qz c ts p fun i=>!pi ts dr i))=some d)(hm:m<=n):El c ts n o p l d:=by
 cases p with
 |none=>exact .inl ⟨rfl,PV.noneElses ⟨m,h⟩⟩
 |some u=>
  by_cases hx:X ts (nx c ts u)=dr
  rotate_left
  ·rw[jA (kD hx),jM (by simp[kD hx])]at h;exact .inr (.inl ⟨u,rfl,hx,PV.noneElses ⟨m,h⟩⟩)
  rw[jM (kA hx),jA (by simp[kA hx])]at h;cases m with
  |zero=>cases h
  |succ m=>
   simp only[bS,aC,nP]at h;obtain⟨a,ha,h⟩:=gW h;obtain⟨b,hb,h⟩:=gW h;cases h
   refine .inr (.inr ⟨u,rfl,hx,?_⟩);by_cases hy:X ts (nx c ts (nx c ts u+1))=kT
   ·rw[jA (by simp[kA hy])]at ha;rw[jM (kA hy)]at hb;have:=PV.noneBlock ⟨m,ha⟩;subst this;refine .inr ⟨hy,?_⟩;cases m with
    |zero=>cases hb
    |succ m=>
     simp only[bS,aC,BV]at hb;rw[show (ap:PR).l=[] from rfl,kF]at hb;by_cases ho:o=64
     ·rw[aaq ho]at hb;cases hb
      exact .inl ⟨ho,rfl⟩
     ·rw[ZV ho]at hb;obtain⟨a,ha,hb⟩:=gW hb;cases hb
      exact .inr ⟨ho,a,⟨m,ab,ha⟩,rfl⟩
   ·rw[jM (by simp[kD hy])]at ha;rw[jA (kD hy)]at hb;have:=LZ hb;subst this;exact .inl ⟨hy,a,⟨m,ab,ha⟩,by simp⟩
def E6{n i slot:Nat}(h:rr c ts (n+1) (.branch o (some i) slot) q):∃a b d,rr c ts n (.inside o (some (i+1)) 0) a/\Xx c ts n o a.p 1 b/\El c ts n o b.p (give (give [⟨8,[],(i:Nat),slot,[],tt⟩] a.l) b.l) d/\q=⟨d.l,d.p,a.e++b.e++d.e⟩:=by
 obtain⟨m,hm,h1,aa⟩:=h.step;have h2:ku c ts (bS c ts m) o (some i) slot=some q:=h1;unfold ku at h2;obtain⟨a,ha,h2⟩:=gW h2;obtain⟨b,hb,h2⟩:=gW h2;obtain⟨d,hd,h2⟩:=gW h2;cases h2
 obtain⟨w,hw⟩:=aa _ _ ha;refine⟨a,b,d,aa _ _ ha,?_,So hd ab,rfl⟩;refine⟨fun hp=>?_,fun t ht=>?_⟩
 ·rw[hp]at hb;exact PV.noneBlock ⟨m,hb⟩
 ·rw[ht]at hb;exact aa _ _ hb
def Sg.inc{t:Nat}(h:Sg c ts s (some t) o e)(ho:o≠64):Sg c ts { s with opn:=IntKind.i64.wrap (s.opn+1) } (some t) (o+1) e:=by
 obtain⟨h0,h1,h2,h3,h4,h5,h6⟩:=h;refine⟨h0,h1,?_,h3,h4,ab,h6⟩;show IntKind.i64.wrap (s.opn+1)=_;rw[h2,show ((o:Nat):Int)+1=((o+1:Nat):Int) by omega];exact Hq ab
theorem Km{n:Nat}(dd:GI c ts lv xv (rr c ts n))(hB:GB c ts lv xv (rr c ts n))(hR:GR c ts lv xv (rr c ts n)):GR c ts lv xv (rr c ts (n+1)):=by
 intro slot pb I s t o e q hI h hw hr hd;obtain⟨a,b,d,ha,hb,aq,rfl⟩:=E6 hr;have cB:=h.tk;have g1:=h.take (x:=kT) bg;rw[iL hw]at g1;simp only[aa6]at g1;refine iz func286 rfl (by simp[ntmps286,aU]) fun w0=>?_;simp only[ntmps286,aU,pt];refine aT ?_;refine ad hd [0] [sg pb _] [] rfl km rfl (qU hI h.le) fun v I1 qs cs c9 c4=>?_;obtain⟨rfl,rfl,rfl⟩:=c4;simp only[Z3]at cs |-;rw[cB];refine dP ?_;refine ad cs [0] [sg pb _] [] rfl eB rfl (f8 (x:=kT) hI h.le) fun v I2 qs a2 a7 c3=>?_;obtain rfl:=c3;simp only[Z3]at a2 |-;have cj:=gL.le hI a7;refine aR a2 fun a2=>?_;refine bf a2 [1,0] fun a2=>?_;refine aT ?_;refine cK mixed [0,1,2,4,3,5,6,7,8,9] [] [] [1] [] [5] rfl rfl ?_;refine gw ?_;refine aE a2 [0,1] [sg pb _] [_] rfl AI rfl (dd 0 pb I2 _ _ _ _ a cj g1 trivial ha) fun v IB4 qs ct an ca=>?_;obtain⟨s4a,n4a,vk4a,rfl,g4a,rfl,hk4a,hn4a⟩:=ca;obtain⟨ka4a,kc4a,rfl,_⟩:=id hk4a;simp only[Z3]at ct |-;have hI4a:=gL.le cj an;apply au;simp only[go_sem,cG];refine aE ct [0,1] [sg pb _] [_] rfl qC rfl (Cw (wF 1) (hB 1) hI4a g4a hb.1 (fun t ht=>⟨trivial,hb.2 t ht⟩)) fun v IC4 qs b2 am ca=>?_;obtain⟨s4,n4,vk4,rfl,g4,rfl,cp,c8⟩:=ca;obtain⟨ka4,kc4,rfl,_⟩:=id cp;simp only[Z3]at b2 |-;apply au;simp only[go_sem,cG];refine nI b2 [1,0] fun b2=>?_;refine fF b2 (qE.le (Ow.nil (iS eQ) 67 6 I2) (abV an am)) (qP.two hk4a cp am) (by simp) (by exact kH) rfl rfl rfl rfl rfl rfl rfl (fun b=>⟨rfl,rfl,rfl⟩) fun b4 na4 nc4 I4 A4 a1 cd bs=>?_;refine gw ?_;refine aw ?_;refine aT ?_;refine bf a1 [1,0] fun a1=>?_;have a6:=uw an am cd;have ci:=gL.le cj a6;have k4:=abV a7 a6
 have nodes:∀u,b.p=some u->give (give [⟨8,[],((nx c ts t:Nat):Int),slot,[],tt⟩] a.l) b.l=[⟨8,[],((nx c ts t:Nat):Int),slot,[n4a,n4],tt⟩]:=fun u hu=>by
  cases cx:a.p with
  |none=>rw[hb.1 cx]at hu;cases hu
  |some w=>rw[hn4a w cx,c8 u hu];rfl
 refine XN (l:=[.bool s4.bad]) rfl (qQ a1) (.inr ⟨Ep,rfl⟩) ?_;rcases aq with ⟨ao,rfl⟩|⟨u,ao,hx,rfl⟩|⟨u,ao,hx,aq⟩
 ·rw[ao]at g4;have bc:s4.bad=true:=g4.2.1;apply RG;simp only[go_sem,bc];refine bf a1 [1,0] fun ac=>?_;refine ae ac fun IA ac aa aj=>?_;refine aT ?_;exact af rfl ac (r:=[cG ⟨8,[],(nx c ts t:Nat),slot,[n4a,n4],tt⟩ (.slice na4 2 nc4) eQ]) (by simp only[results286,go_sem,iv,cG]) (abV k4 aa) ⟨s4,_,_,rfl,by simpa[aaT]using g4,rfl,bs.sl aa aj,fun t1 ht=>by cases ht⟩
 ·have hn:=nodes u ao;rw[ao]at g4;have bc:s4.bad=false:=g4.2.1;have b5:mB (fG c ts) s4.pos=X ts (nx c ts u):=g4.tx;have h1:(X ts (nx c ts u) == [101,108,115,101])=false:=beq_false_of_ne hx;apply RG;simp only[go_sem,bc];refine ad a1 [0,1] [sg pb _] [A4] rfl dq rfl (eN ci g4.le) fun v I5 qs bb ag b7=>?_;obtain⟨rfl,rfl⟩:=b7;simp only[Z3]at bb |-;rw[b5];apply RG;simp only[go_sem,h1,abK];refine bf bb [1,0] fun ac=>?_;refine ae ac fun IA ac aa aj=>?_;refine aT ?_;exact af rfl ac (r:=[cG ⟨8,[],(nx c ts t:Nat),slot,[n4a,n4],tt⟩ (.slice na4 2 nc4) eQ]) (by simp only[results286,go_sem,iv,cG]) (uw k4 ag aa) ⟨s4,_,_,rfl,by simpa[aaT]using g4.nx,rfl,bs.sl (abV ag aa) aj,fun t1 ht=>hn⟩
 have hn:=nodes u ao;rw[hn]at aq;rw[ao]at g4;have bc:s4.bad=false:=g4.2.1;have b5:mB (fG c ts) s4.pos=X ts (nx c ts u):=g4.tx;have h1:(X ts (nx c ts u) == [101,108,115,101])=true:=by rw[hx];decide
 have g5:=g4.take (x:=dr) bg;rw[iL hx]at g5;simp only[aa6]at g5;have b3:mB (fG c ts) (i8 (fG c ts) (jY c ts 0) ts.length s4 dr).pos=X ts (nx c ts (nx c ts u+1)):=g5.tx;apply RG;simp only[go_sem,bc];refine ad a1 [0,1] [sg pb _] [A4] rfl dq rfl (eN ci g4.le) fun v I5 qs bb ag b7=>?_;obtain⟨rfl,rfl⟩:=b7;simp only[Z3]at bb |-;rw[b5];have cA:=gL.le ci ag;apply RG;simp only[go_sem,h1,abQ];refine ad bb [0,1] [sg pb _] [A4] rfl eB rfl (f8 (x:=dr) cA g4.le) fun v I6 qs cr a5 c2=>?_;obtain rfl:=c2;simp only[Z3]at cr |-;have cy:=gL.le cA a5;refine aT ?_;refine ad cr [0,1] [sg pb _] [A4] rfl dq rfl (eN cy g5.le) fun v I7 qs aS a4 c1=>?_;obtain⟨rfl,rfl⟩:=c1;simp only[Z3]at aS |-;rw[b3];have bd:=gL.le cy a4;have bx:I4.le I7:=uw ag a5 a4;have k7:=abV k4 bx;rcases aq with ⟨hy,a',cf,rfl⟩|⟨hy,aq⟩
 ·have h2:(X ts (nx c ts (nx c ts u+1)) == [105,102])=false:=beq_false_of_ne hy;apply RG;simp only[go_sem,h2];refine cK mixed [0,1,2,3,4,5,6,7] [] [] [1] [] [5] rfl rfl ?_;refine gw ?_;refine aE aS [0,1] [sg pb _] [_] rfl qC rfl (hB 2 pb I7 _ _ _ _ a' bd g5.nx trivial cf) fun v IC8 qs b1 ba b6=>?_;obtain⟨s8,n8,vk8,rfl,g8,rfl,cm,c7⟩:=b6;obtain⟨ka8,kc8,rfl,_⟩:=id cm;simp only[Z3]at b1 |-;apply au;simp only[go_sem,cG];refine nI b1 [1,0] fun b1=>?_;refine fF b1 (qE.le (bs.le bx) ba) (qP.one cm) (by simp) (by exact kH) rfl rfl rfl rfl rfl rfl rfl (fun b=>⟨rfl,rfl,rfl⟩) fun b8 na8 nc8 I8 A8 ak cc dk=>?_;refine gw ?_;refine aw ?_;refine aT ?_;refine bf ak [1,0] fun ak=>?_;have al:=abV ba cc;have dw:=gL.le bd al;refine bf ak [1,0] fun ac=>?_;refine ae ac fun IA ac aa aj=>?_;refine aT ?_;refine af rfl ac (r:=[cG ⟨8,[],(nx c ts t:Nat),slot,[n4a,n4,n8],tt⟩ (.slice na8 3 nc8) eQ]) (by simp only[results286,go_sem,iv,cG]) (uw k7 al aa) ⟨s8,_,_,rfl,by simpa[aaT]using g8,rfl,dk.sl aa aj,fun t1 ht=>?_⟩;simp only;rw[c7 t1 ht];rfl
 have h2:(X ts (nx c ts (nx c ts u+1)) == [105,102])=true:=by rw[hy];decide
 apply RG;simp only[go_sem,h2];refine XN (l:=[.int .i64 (i8 (fG c ts) (jY c ts 0) ts.length s4 dr).opn]) rfl (qQ aS) (.inr ⟨jq,rfl⟩) ?_;have ds:(i8 (fG c ts) (jY c ts 0) ts.length s4 dr).opn=(o:Int):=g5.2.2.1;have c5:o<=64:=g5.2.2.2.2.2.1;rcases aq with ⟨ho,rfl⟩|⟨ho,a',cf,rfl⟩
 ·have h3:decide ((i8 (fG c ts) (jY c ts 0) ts.length s4 dr).opn>=64)=true:=abU ab;apply RG;simp only[go_sem,h3];refine ad aS [0,1] [sg pb _] [A4] rfl l4 rfl (o6 (code:=11) bd g5.le) fun v I8 qs ak al b6=>?_;obtain⟨rfl,rfl⟩:=b6;simp only[Z3]at ak |-;refine bf ak [1,0] fun ac=>?_;refine ae ac fun IA ac aa aj=>?_;refine aT ?_;exact af rfl ac (r:=[cG ⟨8,[],(nx c ts t:Nat),slot,[n4a,n4],tt⟩ (.slice na4 2 nc4) eQ]) (by simp only[results286,go_sem,iv,cG]) (abV k7 aa) ⟨_,_,_,rfl,by simpa[aaT]using g5.fail 11 o,rfl,bs.sl (abV bx aa) aj,fun t1 ht=>by cases ht⟩
 ·have h3:decide ((i8 (fG c ts) (jY c ts 0) ts.length s4 dr).opn>=64)=false:=abT ab;apply RG;simp only[go_sem,h3];refine XN (l:=[.int .i64 (i8 (fG c ts) (jY c ts 0) ts.length s4 dr).opn]) rfl (qQ aS) (.inr ⟨jq,rfl⟩) ?_;refine aT ?_;refine bw aS rfl rfl rfl rfl rfl (by exact uZ) (by simp) fun ak=>?_;refine aT ?_;have dc:Dj [I7,sg pb (bG lv xv ts.length { i8 (fG c ts) (jY c ts 0) ts.length s4 dr with opn:=IntKind.i64.wrap ((i8 (fG c ts) (jY c ts 0) ts.length s4 dr).opn+1) }),A4]:=ak;show RC _ _ _ (U [I7,sg pb (bG lv xv ts.length { i8 (fG c ts) (jY c ts 0) ts.length s4 dr with opn:=IntKind.i64.wrap ((i8 (fG c ts) (jY c ts 0) ts.length s4 dr).opn+1) }),A4]);refine cK mixed [0,1,2,3,4,5,6,7] [] [] [1] [] [5] rfl rfl ?_;refine gw ?_;refine aE dc [0,1] [sg pb _] [_] rfl GG rfl (hR 2 pb I7 _ _ _ _ a' bd (g5.inc ho) hy cf) fun v ICC qs b0 a9 c0=>?_;obtain⟨sC,nC,vkC,rfl,gC,rfl,cl,c6⟩:=c0;obtain⟨kaC,kcC,rfl,_⟩:=id cl;simp only[Z3]at b0 |-;apply au;simp only[go_sem,cG];refine nI b0 [1,0] fun b0=>?_;refine fF b0 (qE.le (bs.le bx) a9) (qP.one cl) (by simp) (by exact kH) rfl rfl rfl rfl rfl rfl rfl (fun b=>⟨rfl,rfl,rfl⟩) fun bC naC ncC IC AC bF cb dj=>?_;refine gw ?_;refine aw ?_;refine aT ?_;refine bf bF [1,0] fun bF=>?_;have a3:=abV a9 cb;have dv:=gL.le bd a3;refine XN (l:=[.int .i64 sC.opn]) rfl (qQ bF) (.inr ⟨jq,rfl⟩) ?_;refine aT ?_;refine bw bF rfl rfl rfl rfl rfl (by exact uZ) (by simp) fun da=>?_;refine aT ?_;refine bf da [1,0] fun ac=>?_;refine ae ac fun IA ac aa aj=>?_;refine aT ?_
  refine af rfl ac (r:=[cG ⟨8,[],(nx c ts t:Nat),slot,[n4a,n4,nC],tt⟩ (.slice naC 3 ncC) eQ]) (by simp only[results286,go_sem,iv,cG]) (uw k7 a3 aa) ⟨_,_,_,rfl,by simpa[aaT]using gC.dec,rfl,dj.sl aa aj,fun t1 ht=>?_⟩;simp only;rw[c6 t1 ht];rfl
end
open Go Go.Sx Dg Syn
section
variable {c:bP} {ts:List Syn.Tok} {lv xv:Value} {o:Nat} {e:List (Nat×Int)} {p:Option Nat} {s:PS} {pb:Nat} {I:PH} {q:PR}
variable{n i:Nat}
def MQ(h:rr c ts (n+1) (.stmt o (some i)) q)(y:X ts i=lT):rr c ts n (.vrb o (some (i+1))) q:=h.two fun r=>by
 show gM c ts r o (some i)=_;unfold gM;simp only;rw[aaq y]
def OV(h:rr c ts (n+1) (.stmt o (some i)) q)(y:X ts i=kT):rr c ts n (.branch o (some i) 0) q:=h.two fun r=>by
 show gM c ts r o (some i)=_;unfold gM;simp only;rw[y,ZV bg,aaq rfl]
def Kv(h:rr c ts (n+1) (.stmt o (some i)) q)(y:X ts i=Im):rr c ts n (.block o (some i) 0) q:=h.two fun r=>by
 show gM c ts r o (some i)=_;unfold gM;simp only;rw[y,ZV bg,ZV bg,ZV bg,aaq rfl]
def FQ(h:rr c ts (n+1) (.stmt o (some i)) q)(y:X ts i=jG):∃a b,rr c ts n (.inside o (some (i+1)) 0) a/\Xx c ts n o a.p 1 b/\q=⟨give (give [⟨9,[],(i:Nat),0,[],tt⟩] a.l) b.l,b.p,a.e++b.e⟩:=by
 obtain⟨m,hm,h1,aa⟩:=h.step;have h2:gM c ts (bS c ts m) o (some i)=some q:=h1;unfold gM at h2;simp only at h2;rw[y,ZV bg,ZV bg,aaq rfl]at h2;obtain⟨a,ha,h2⟩:=gW h2;obtain⟨b,hb,h2⟩:=gW h2;cases h2
 refine⟨a,b,aa _ _ ha,⟨fun hp=>?_,fun t ht=>?_⟩,rfl⟩
 ·rw[hp]at hb;exact PV.noneBlock ⟨m,hb⟩
 ·rw[ht]at hb;exact aa _ _ hb
def uG{o:Nat}{i g:Option Nat}{l:List Nd}{b:PR}(h:bS c ts n (.sCalls o i none l g)=some b):b=⟨l,g,[]⟩:=by
 cases n with
 |zero=>cases h
 |succ n=>cases i<;>exact(aaZ h).symm
def qr(c:bP)(ts:List Syn.Tok)(n o i:Nat)(q:PR):Prop:=
 ((aI ts c (some i) 7 0).p=none/\q=⟨(aI ts c (some i) 7 0).l,none,(aI ts c (some i) 7 0).e⟩)\/
  ∃u,(aI ts c (some i) 7 0).p=some u/\
   ((X ts (nx c ts u)=eM/\∃a,rr c ts n (.listed false o (some (nx c ts u))) a/\q=⟨[⟨19,X ts i,(i:Nat),0,a.l,tt⟩],(aW ts c a.p a8).1,(aI ts c (some i) 7 0).e++a.e++(aW ts c a.p a8).2⟩)\/
    (X ts (nx c ts u)≠eM/\∃b,((aW ts c (some u) su).1=none->b=ap)/\(∀t,(aW ts c (some u) su).1=some t->rr c ts n (.line 0 o (some t) 0) b)/\
     q=⟨give (aI ts c (some i) 7 0).l b.l,(aW ts c b.p a8).1,(aI ts c (some i) 7 0).e++(aW ts c (some u) su).2++b.e++(aW ts c b.p a8).2⟩))
def JV(h:rr c ts (n+1) (.stmt o (some i)) q)(y1:X ts i≠lT)(y2:X ts i≠kT)(y3:X ts i≠jG)(y4:X ts i≠Im)(y5:X ts i≠iH)(y6:X ts i≠jU)(y7:X ts i≠ew):qr c ts n o i q:=by
 obtain⟨m,hm,h1,ac⟩:=h.step;have h2:gM c ts (bS c ts m) o (some i)=some q:=h1;unfold gM at h2;simp only at h2;rw[ZV y1,ZV y2,ZV y3,ZV y4,ZV y5,ZV (fun h=>h.elim y6 y7)]at h2;obtain⟨b,hb,h2⟩:=gW h2;obtain⟨d,hd,h2⟩:=gW h2;cases h2
 unfold qr;cases aa:(aI ts c (some i) 7 0).p with
 |none=>
  rw[aa]at hb hd;have e1:=PV.noneLine ⟨m,hb⟩;subst e1;have e2:=uG hd;subst e2;refine .inl ⟨rfl,?_⟩;simp[ap,kF,aW,qz]
 |some u=>
  refine .inr ⟨u,rfl,?_⟩;rw[aa]at hb hd;by_cases hx:X ts (nx c ts u)=eM
  ·rw[jA (by simp[kA hx])]at hb;rw[jM (kA hx)]at hd;have e1:=PV.noneLine ⟨m,hb⟩;subst e1;cases m with
   |zero=>cases hd
   |succ m=>
    obtain⟨a,ha,hd⟩:=gW (show (bS c ts m (.listed false o (some (nx c ts u)))).bind (fun a=>some (⟨[⟨19,X ts i,(i:Nat),0,a.l,tt⟩],a.p,a.e⟩:PR))=some d from hd);cases hd
    refine .inl ⟨hx,a,⟨m,ab,ha⟩,?_⟩;rw[jA (by simp[kA hx])];simp[ap,aW]
  ·rw[jM (by simp[kD hx])]at hb;rw[jA (kD hx)]at hd;have e2:=uG hd;subst e2;rw[np]at hb;refine .inr ⟨hx,b,fun hp=>?_,fun t ht=>?_,?_⟩
   ·rw[hp]at hb;exact PV.noneLine ⟨m,hb⟩
   ·rw[ht]at hb;exact ac _ _ hb
   ·rw[jM (by simp[kD hx]),np];simp
theorem TG(hL:GL c ts lv xv (rr c ts n))(c7:GI c ts lv xv (rr c ts n))(hB:GB c ts lv xv (rr c ts n))(hV:GV c ts lv xv (rr c ts n))(hR:GR c ts lv xv (rr c ts n))(hA:GA c ts lv xv (rr c ts n)):GS c ts lv xv (rr c ts (n+1)):=by
 intro pb I s t o e q hI h _ hr hd;have cy:mB (fG c ts) s.pos=X ts (nx c ts t):=h.tx;have cA:=h.tk;refine iz func255 rfl (by simp[ntmps255,a0]) fun w0=>?_;simp only[ntmps255,a0,pt];refine aT ?_;refine ad hd [0] [sg pb _] [] rfl dq rfl (eN hI h.le) fun v I1 qs a2 ag c2=>?_;obtain⟨rfl,rfl⟩:=c2;simp only[Z3]at a2 |-;rw[cy];have aS:=gL.le hI ag;by_cases y1:X ts (nx c ts t)=lT
 ·have b1:(X ts (nx c ts t) == [118,97,114])=true:=by rw[y1];decide
  apply RG;simp only[go_sem,b1];refine ad a2 [0] [sg pb _] [] rfl GW rfl (hV pb I1 _ _ _ _ q aS h y1 (MQ hr y1)) fun v I2 qs ac aa al=>?_;obtain⟨s2,n2,vk2,rfl,g2,rfl,aj,am⟩:=al;obtain⟨ka2,kc2,rfl,_⟩:=id aj;simp only[Z3]at ac |-;apply RG;simp only[go_sem,cG];exact af rfl ac (r:=[cG n2 (.slice ka2 n2.kids.length kc2) eQ]) (by simp only[results255,go_sem,iv,cG]) (abV ag aa) ⟨s2,n2,_,rfl,g2,rfl,aj,am⟩
 have b1:(X ts (nx c ts t) == [118,97,114])=false:=beq_false_of_ne y1;by_cases y2:X ts (nx c ts t)=kT
 ·have b2:(X ts (nx c ts t) == [105,102])=true:=by rw[y2];decide
  apply RG;simp only[go_sem,b1,b2];refine ad a2 [0] [sg pb _] [] rfl GG rfl (hR 0 pb I1 _ _ _ _ q aS h y2 (OV hr y2)) fun v I2 qs ac aa al=>?_;obtain⟨s2,n2,vk2,rfl,g2,rfl,aj,am⟩:=al;obtain⟨ka2,kc2,rfl,_⟩:=id aj;simp only[Z3]at ac |-;apply RG;simp only[go_sem,cG];exact af rfl ac (r:=[cG n2 (.slice ka2 n2.kids.length kc2) eQ]) (by simp only[results255,go_sem,iv,cG]) (abV ag aa) ⟨s2,n2,_,rfl,g2,rfl,aj,am⟩
 have b2:(X ts (nx c ts t) == [105,102])=false:=beq_false_of_ne y2;by_cases y3:X ts (nx c ts t)=jG
 ·have b3:(X ts (nx c ts t) == [119,104,105,108,101])=true:=by rw[y3];decide
  obtain⟨a,b,ha,hb,rfl⟩:=FQ hr y3;have g1:=h.take (x:=jG) bg;rw[iL y3]at g1;simp only[aa6]at g1;apply RG;simp only[go_sem,b1,b2,b3];refine ad a2 [0] [sg pb _] [] rfl km rfl (qU aS h.le) fun v I2 qs ac aa al=>?_;obtain⟨rfl,rfl,rfl⟩:=al;simp only[Z3]at ac |-;rw[cA];refine dP ?_;refine ad ac [0] [sg pb _] [] rfl eB rfl (f8 (x:=jG) aS h.le) fun v I3 qs a1 aq bC=>?_;obtain rfl:=bC;simp only[Z3]at a1 |-;have a3:=gL.le aS aq;refine aR a1 fun a1=>?_;refine bf a1 [1,0] fun a1=>?_;refine aT ?_;refine cK mixed [0,1,2,4,3,5,6,7,8,9] [] [] [1] [] [3] rfl rfl ?_;refine gw ?_;refine aE a1 [0,1] [sg pb _] [_] rfl AI rfl (c7 0 pb I3 _ _ _ _ a a3 g1 trivial ha) fun v IB4 qs cr a6 a4=>?_;obtain⟨s4a,n4a,vk4a,rfl,g4a,rfl,hk4a,hn4a⟩:=a4;obtain⟨ka4a,kc4a,rfl,_⟩:=id hk4a;simp only[Z3]at cr |-;have hI4a:=gL.le a3 a6;apply au;simp only[go_sem,cG];refine aE cr [0,1] [sg pb _] [_] rfl qC rfl (Cw (wF 1) (hB 1) hI4a g4a hb.1 (fun t ht=>⟨trivial,hb.2 t ht⟩)) fun v IC4 qs bx a5 a4=>?_;obtain⟨s4,n4,vk4,rfl,g4,rfl,cl,bF⟩:=a4;obtain⟨ka4,kc4,rfl,_⟩:=id cl;simp only[Z3]at bx |-;apply au;simp only[go_sem,cG];refine nI bx [1,0] fun bx=>?_;refine fF bx (qE.le (Ow.nil (iS eQ) 67 6 I3) (abV a6 a5)) (qP.two hk4a cl a5) (by simp) (by exact kH) rfl rfl rfl rfl rfl rfl rfl (fun b=>⟨rfl,rfl,rfl⟩) fun b4 na4 nc4 I4 A4 an cb da=>?_;refine gw ?_;refine aw ?_;refine aT ?_;refine bf an [1,0] fun an=>?_;have ak:=uw a6 a5 cb;have bd:=gL.le a3 ak;refine bf an [1,0] fun a7=>?_;refine ae a7 fun IA a7 ao cf=>?_;refine aT ?_
  refine af rfl a7 (r:=[cG ⟨9,[],(nx c ts t:Nat),0,[n4a,n4],tt⟩ (.slice na4 2 nc4) eQ]) (by simp only[results255,go_sem,iv,cG]) (Em ag aq ak ao) ⟨s4,_,_,rfl,by simpa[aaT]using g4,rfl,da.sl ao cf,fun u hu=>?_⟩;cases cs:a.p with
  |none=>have:=hb.1 cs;subst this;cases hu
  |some w=>
   simp only;rw[hn4a w cs,bF u hu];rfl
 have b3:(X ts (nx c ts t) == [119,104,105,108,101])=false:=beq_false_of_ne y3;by_cases y4:X ts (nx c ts t)=Im
 ·have b4:(X ts (nx c ts t) == [123])=true:=by rw[y4];decide
  apply RG;simp only[go_sem,b1,b2,b3,b4];refine ad a2 [0] [sg pb _] [] rfl qC rfl (hB 0 pb I1 _ _ _ _ q aS h.nx trivial (Kv hr y4)) fun v I2 qs ac aa al=>?_;obtain⟨s2,n2,vk2,rfl,g2,rfl,aj,am⟩:=al;obtain⟨ka2,kc2,rfl,_⟩:=id aj;simp only[Z3]at ac |-;apply RG;simp only[go_sem,cG];exact af rfl ac (r:=[cG n2 (.slice ka2 n2.kids.length kc2) eQ]) (by simp only[results255,go_sem,iv,cG]) (abV ag aa) ⟨s2,n2,_,rfl,g2,rfl,aj,am⟩
 have b4:(X ts (nx c ts t) == [123])=false:=beq_false_of_ne y4;by_cases y5:X ts (nx c ts t)=iH
 ·have b5:(X ts (nx c ts t) == [114,101,116,117,114,110])=true:=by rw[y5];decide
  apply RG;simp only[go_sem,b1,b2,b3,b4,b5];refine ad a2 [0] [sg pb _] [] rfl Bm rfl (JX hL (.inl ⟨rfl,rfl⟩) aS h y5 hr) fun v I2 qs ac aa al=>?_;obtain⟨s2,n2,vk2,rfl,g2,rfl,aj,am⟩:=al;obtain⟨ka2,kc2,rfl,_⟩:=id aj;simp only[Z3]at ac |-;apply RG;simp only[go_sem,cG];exact af rfl ac (r:=[cG n2 (.slice ka2 n2.kids.length kc2) eQ]) (by simp only[results255,go_sem,iv,cG]) (abV ag aa) ⟨s2,n2,_,rfl,g2,rfl,aj,am⟩
 have b5:(X ts (nx c ts t) == [114,101,116,117,114,110])=false:=beq_false_of_ne y5;by_cases y6:X ts (nx c ts t)=jU
 ·have b6:(X ts (nx c ts t) == [112,114,105,110,116])=true:=by rw[y6];decide
  apply RG;simp only[go_sem,b1,b2,b3,b4,b5,b6];refine ad a2 [0] [sg pb _] [] rfl Bm rfl (JX hL (.inr (.inl ⟨rfl,rfl⟩)) aS h y6 hr) fun v I2 qs ac aa al=>?_;obtain⟨s2,n2,vk2,rfl,g2,rfl,aj,am⟩:=al;obtain⟨ka2,kc2,rfl,_⟩:=id aj;simp only[Z3]at ac |-;apply RG;simp only[go_sem,cG];exact af rfl ac (r:=[cG n2 (.slice ka2 n2.kids.length kc2) eQ]) (by simp only[results255,go_sem,iv,cG]) (abV ag aa) ⟨s2,n2,_,rfl,g2,rfl,aj,am⟩
 have b6:(X ts (nx c ts t) == [112,114,105,110,116])=false:=beq_false_of_ne y6;by_cases y7:X ts (nx c ts t)=ew
 ·have b7:(X ts (nx c ts t) == [97,115,115,101,114,116])=true:=by rw[y7];decide
  apply RG;simp only[go_sem,b1,b2,b3,b4,b5,b6,b7];refine ad a2 [0] [sg pb _] [] rfl Bm rfl (JX hL (.inr (.inr ⟨rfl,rfl⟩)) aS h y7 hr) fun v I2 qs ac aa al=>?_;obtain⟨s2,n2,vk2,rfl,g2,rfl,aj,am⟩:=al;obtain⟨ka2,kc2,rfl,_⟩:=id aj;simp only[Z3]at ac |-;apply RG;simp only[go_sem,cG];exact af rfl ac (r:=[cG n2 (.slice ka2 n2.kids.length kc2) eQ]) (by simp only[results255,go_sem,iv,cG]) (abV ag aa) ⟨s2,n2,_,rfl,g2,rfl,aj,am⟩
 have b7:(X ts (nx c ts t) == [97,115,115,101,114,116])=false:=beq_false_of_ne y7;have hi:=JV hr y1 y2 y3 y4 y5 y6 y7;apply RG;simp only[go_sem,b1,b2,b3,b4,b5,b6,b7];refine ad a2 [0] [sg pb _] [] rfl tC rfl (xV aS h.nx 7 0) fun v I2 qs ac aa al=>?_;obtain⟨s2,n2,rfl,g2,rfl,aj,am⟩:=al;simp only[Z3]at ac |-;have ct:=gL.le aS aa;have k2:=abV ag aa;apply RG;simp only[go_sem,cG];refine XN (l:=[.bool s2.bad]) rfl (qQ ac) (.inr ⟨Ep,rfl⟩) ?_;rcases hi with ⟨hp,rfl⟩|⟨u,hp,hi⟩
 ·rw[hp]at g2;have cd:s2.bad=true:=g2.2.1;apply RG;simp only[go_sem,cd];exact af rfl ac (r:=[cG n2 eQ eQ]) (by simp only[results255,go_sem,iv,cG]) k2 ⟨s2,n2,_,rfl,g2,rfl,by rw[aj];exact jV.nil _,fun t' ht=>by cases ht⟩
 obtain⟨en2,ea⟩:=xh (ce c ts t) hp (am u hp);have c6:=am u hp;rw[hp,ea]at g2;simp only[aa6]at g2;have cd:s2.bad=false:=g2.2.1;have cx:mB (fG c ts) s2.pos=X ts (nx c ts u):=g2.tx;subst en2;apply RG;simp only[go_sem,cd];refine ad ac [0] [sg pb _] [] rfl dq rfl (eN ct g2.le) fun v I3 qs a1 aq bC=>?_;obtain⟨rfl,rfl⟩:=bC;simp only[Z3]at a1 |-;rw[cx];have a3:=gL.le ct aq;have k3:=abV k2 aq;rcases hi with ⟨b0,a,ha,rfl⟩|⟨b0,b,c5,c4,rfl⟩
 ·have b8:(X ts (nx c ts u) == [40])=true:=by rw[b0];decide
  apply RG;simp only[go_sem,b8];refine ad a1 [0] [sg pb _] [] rfl Hf rfl (hA pb I3 s2 _ o e a a3 g2.nx ha) fun v I4 qs an ak a4=>?_;obtain⟨s4,ks4,rfl,g4,ci,bF⟩:=a4;obtain⟨ka4,kc4,rfl,_⟩:=id ci;simp only[Z3]at an |-;have bd:=gL.le a3 ak;refine aT ?_;refine ad an [0] [sg pb _] [] rfl eB rfl (f8 (x:=a8) bd g4.le) fun v I5 qs cp bb c1=>?_;obtain rfl:=c1;simp only[Z3]at cp |-;refine aT ?_;refine af rfl cp (r:=[cG ⟨19,X ts (nx c ts t),(nx c ts t:Nat),0,ks4,tt⟩ (.slice ka4 ks4.length kc4) eQ]) (by simp only[results255,go_sem,iv,cG]) (uw k3 ak bb) ⟨_,_,_,rfl,by simpa[ea,aaT]using g4.take (x:=a8) bg,rfl,ci.le bb,fun t' ht=>?_⟩;obtain⟨t2,h2⟩:=gS ht;simp only[bF t2 h2]
 ·have b8:(X ts (nx c ts u) == [40])=false:=beq_false_of_ne b0;have g3:=g2.take (x:=su) bg;apply RG;simp only[go_sem,b8];refine ad a1 [0] [sg pb _] [] rfl eB rfl (f8 (x:=su) a3 g2.le) fun v I4 qs an ak a4=>?_;obtain rfl:=a4;simp only[Z3]at an |-;have bd:=gL.le a3 ak;refine aR an fun an=>?_;refine bf an [1,0] fun an=>?_;refine aT ?_;refine cK mixed [0,1,2,3,4,5,6,7] [] [] [1] [] [4] rfl rfl ?_;refine gw ?_;refine aE an [0,1] [sg pb _] [_] rfl oe rfl (Cw (vY 0 0) (hL 0 0 bg) bd g3 c5 (fun t ht=>⟨trivial,c4 t ht⟩)) fun v IC6 qs bs bc c0=>?_;obtain⟨s6,n6,vk6,rfl,g6,rfl,cj,c3⟩:=c0;obtain⟨ka6,kc6,rfl,_⟩:=id cj;simp only[Z3]at bs |-;apply au;simp only[go_sem,cG];refine nI bs [1,0] fun bs=>?_;refine fF bs (qE.le (Ow.nil (iS eQ) 67 6 I4) bc) (qP.one cj) (by simp) (by exact kH) rfl rfl rfl rfl rfl rfl rfl (fun b=>⟨rfl,rfl,rfl⟩) fun b6 na6 nc6 I6 A6 cc ca c9=>?_;refine gw ?_;refine aw ?_;refine aT ?_;refine bf cc [1,0] fun cc=>?_;have ba:=abV bc ca;have c8:=gL.le bd ba;refine ad cc [0,1] [sg pb _] [A6] rfl eB rfl (f8 (x:=a8) c8 g6.le) fun v I7 qs cm a9 cB=>?_;obtain rfl:=cB;simp only[Z3]at cm |-;refine bf cm [1,0] fun a7=>?_;refine ae a7 fun IA a7 ao cf=>?_;refine aT ?_;refine af rfl a7 (r:=[cG ⟨7,X ts (nx c ts t),(nx c ts t:Nat),0,[n6],tt⟩ (.slice na6 1 nc6) eQ]) (by simp only[results255,go_sem,iv,cG]) (Kg k3 ak ba a9 ao) ⟨_,_,_,rfl,by simpa[ea,aaT]using g6.take (x:=a8) bg,rfl,c9.sl (abV a9 ao) cf,fun t' ht=>?_⟩;obtain⟨t2,h2⟩:=gS ht;simp only;rw[c6,c3 t2 h2];rfl
end
open Go Go.Sx Dg Syn
section
variable {c:bP} {ts:List Syn.Tok} {lv xv:Value} {o:Nat} {e:List (Nat×Int)} {p:Option Nat} {s:PS} {pb:Nat} {I:PH} {q:PR}
def NJ{t u:Nat}(hu:(H7 c ts (some t)).p=some u):cn c ts t<=cn c ts u:=
 G4 (n:=3) (x:=.item true 0 (some t)) (q:=H7 c ts (some t)) ⟨1,ab,rfl⟩ trivial rfl hu
def Nl{n u:Nat}(h:rr c ts (n+1) (.function o (some u)) q):∃b d f,((aI ts c (some u) 3 0).p=none->b=ap)/\(∀t,(aI ts c (some u) 3 0).p=some t->rr c ts n (.listed true o (some t)) b)/\
  Bh c ts n true o b.p bA 1 d/\Xx c ts n o d.p 2 f/\
  q=⟨give (give (give (aI ts c (some u) 3 0).l b.l) d.l) f.l,f.p,(aI ts c (some u) 3 0).e++b.e++d.e++f.e⟩:=by
 obtain⟨m,hm,h1,aa⟩:=h.step;have h2:gY c ts (bS c ts m) o (some u)=some q:=h1;unfold gY at h2;obtain⟨b,hb,h3⟩:=gW h2;obtain⟨d,hd,h3⟩:=gW h3;obtain⟨f,hf,h3⟩:=gW h3;cases h3
 refine⟨b,d,f,fun hp=>?_,fun t ht=>?_,wZ hd ab,⟨fun hp=>?_,fun t ht=>?_⟩,rfl⟩
 ·rw[hp]at hb;exact PV.noneListed ⟨m,hb⟩
 ·rw[ht]at hb;exact aa _ _ hb
 ·rw[hp]at hf;exact PV.noneBlock ⟨m,hf⟩
 ·rw[ht]at hf;exact aa _ _ hf
def XA{n:Nat}{b:PR}{p1:Option Nat}{e1:List (Nat×Int)}(g1:Sg c ts (iB c ts s eM) p1 (o+1) e1)
  (hc:(p1=none/\((p=none/\e1=e)\/∃t k,p=some t/\e1=e++[(k,((nx c ts t:Nat):Int))]/\((X ts (nx c ts t)≠eM/\k=10)\/(X ts (nx c ts t)=eM/\o=64/\k=11))))\/∃t,p=some t/\X ts (nx c ts t)=eM/\o≠64/\p1=some (nx c ts t+1)/\e1=e)
  (hn:p=none->b=ap) (hs:∀t,p=some t->rr c ts n (.listed true o (some t)) b) :
  (pS c ts (iB c ts s eM)=fK->(∀t,b.p=some t->b.l=[])/\(aW ts c p1 fK).1=b.p/\e1++(aW ts c p1 fK).2=e++b.e)/\
  (pS c ts (iB c ts s eM)≠fK->∃m p2,m<=n/\Sg c ts (iB c ts s eM) p2 (o+1) e1/\(∀t,p2=some t->0<cn c ts t)/\∀(n':Nd) (pos:Nat),(∀u,(H7 c ts p2).p=some u->(H7 c ts p2).l=[n']/\0<pos)->J0 c ts true o b e m [n'] (H7 c ts p2).p (e1++(H7 c ts p2).e) pos):=by
 rcases hc with ⟨rfl,⟨hp,rfl⟩|⟨t',k,hp,rfl,hk⟩⟩|⟨t',hp,aa,ho,rfl,rfl⟩
 ·have:=hn hp;subst this;exact⟨fun _=>⟨fun t ht=>(by cases ht),rfl,by simp[aW,ap]⟩,fun _=>⟨0,none,aaL _,g1,fun t ht=>(by cases ht),fun n' pos hn=>⟨by simp,fun _=>⟨rfl,by simp[ap,H7,aI,aW,bI]⟩,fun t ht=>(by cases ht)⟩⟩⟩
 ·have:=xF (hs t' hp).up hk;subst this;exact⟨fun _=>⟨fun t ht=>(by cases ht),rfl,by simp[aW]⟩,fun _=>⟨0,none,aaL _,g1,fun t ht=>(by cases ht),fun n' pos hn=>⟨by simp,fun _=>⟨rfl,by simp[H7,aI,aW,bI]⟩,fun t ht=>(by cases ht)⟩⟩⟩
 ·obtain⟨h1,h2⟩:=yy (e:=e1) (hs t' hp).up aa ho;rw[g1.tx];refine⟨fun hx=>?_,fun hx=>?_⟩
  ·obtain⟨i1,i2,i3⟩:=h1 hx;exact⟨fun _ _=>i1,i2,by rw[i3]⟩
  ·obtain⟨m,a,hm,hi,hj⟩:=h2 hx;rcases hi with ⟨_,rfl⟩|⟨hi,_⟩
   ·exact⟨m,_,hm,g1.nx,fun t ht=>(by cases ht;rw[vz,l6 (gx (by rw[aa];decide))];omega),hj⟩
   ·cases hi
end
structure Xl where
 m:Nat
 va:Option Addr
 vn:Nat
 vc:Nat
def OQ(pb:Nat)(n:Nd)(x:Xl):St:=⟨dn 61 [(0,.v (pt pb)),(2,.p 2 0),(3,.p 3 0)],[⟨2,67,yK⟩,⟨3,67,[.int .u8 n.kind,.string ⟨⟨n.text⟩⟩,.int .i64 n.tok,.int .i64 n.slot,.slice x.va x.vn x.vc,.slice none 0 0]⟩]⟩
def ZE(c:bP)(ts:List Syn.Tok)(lv xv:Value)(pb o:Nat)(n:Nat)(q:PR)(e:List (Nat×Int))(I0:PH)(x:Xl)(H:PH):Prop:=
 ∃I A s' p' e' ks,H=U [I,sg pb (bG lv xv ts.length s'),A]/\Dj [I,sg pb (bG lv xv ts.length s'),A]/\I0.le I/\Sg c ts s' p' (o+1) e'/\qE I A (.slice x.va x.vn x.vc) ks/\x.vn=ks.length/\x.m<=n/\J0 c ts true o q e x.m ks p' e' s'.pos
def Zq(c:bP)(ts:List Syn.Tok)(lv xv:Value)(pb o:Nat)(q:PR)(e:List (Nat×Int))(I0:PH)(x:Xl)(H:PH):Prop:=
 ∃I A s' ks,H=U [I,sg pb (bG lv xv ts.length s'),A]/\Dj [I,sg pb (bG lv xv ts.length s'),A]/\I0.le I/\s'.pos<=(fG c ts).length/\qE I A (.slice x.va x.vn x.vc) ks/\x.vn=ks.length/\ks.length<=16385/\Sg c ts (Bb c ts s' fK) q.p o (e++q.e)/\∀t,q.p=some t->q.l=ks
section
variable {c:bP} {ts:List Syn.Tok} {lv xv:Value} {o:Nat} {e:List (Nat×Int)} {p:Option Nat} {s:PS} {pb:Nat} {I:PH} {q:PR}
theorem EB{n:Nat}(dw:GB c ts lv xv (rr c ts n)):GF c ts lv xv (rr c ts (n+1)):=by
 intro pb I s t o e q hI h cp hr hd;obtain⟨b,d,f,cA,c9,hB,hf,rfl⟩:=Nl hr;have g1:=h.take (x:=Gg) bg;rw[iL cp]at g1;simp only[aa6]at g1;refine iz func131 rfl (by simp[ntmps131,a0]) fun w0=>?_;simp only[ntmps131,a0,pt];refine aT ?_;refine ad hd [0] [sg pb _] [] rfl eB rfl (f8 (x:=Gg) hI h.le) fun v I1 qs c8 b5 d2=>?_;obtain rfl:=d2;simp only[Z3]at c8 |-;have dv:=gL.le hI b5;refine aT ?_;refine ad c8 [0] [sg pb _] [] rfl tC rfl (xV dv g1 3 0) fun v I2 qs c7 b4 d1=>?_;obtain⟨s2,n2,rfl,g2,rfl,ee,c2⟩:=d1;simp only[Z3]at c7 |-;have ds:=gL.le dv b4;obtain⟨a,em⟩:∃a,aI ts c (some (nx c ts t+1)) 3 0=a:=⟨_,rfl⟩;rw[em]at g2 c2 cA c9 |-;obtain⟨p1,e1,g3,hc⟩:=sV g2 (x:=eM) bg;obtain⟨hR,hN⟩:=XA g3 hc cA c9;clear hc;apply RG;simp only[go_sem,cG];refine ad c7 [0] [sg pb _] [] rfl sf rfl (si (x:=eM) ds g2.le) fun v I3 qs c6 b3 d0=>?_;obtain rfl:=d0;simp only[Z3]at c6 |-;have dk:=gL.le ds b3;refine aT ?_;refine ad c6 [0] [sg pb _] [] rfl dq rfl (eN dk g3.le) fun v I4 qs a6 b0 dT=>?_;obtain⟨rfl,rfl⟩:=dT;simp only[Z3]at a6 |-;have dj:=gL.le dk b0;have k4:I.le I4:=Em b5 b4 b3 b0;refine aR a6 fun a6=>?_;refine bf a6 [1,0] fun a6=>?_;apply EQ (OQ pb n2) (Zq c ts lv xv pb o b (e++a.e) I4)
 ·intro hg;cases hx:(mB (fG c ts) (jL (fG c ts) (jY c ts 0) ts.length s2 eM).pos == [41])
  rotate_left
  ·obtain⟨i1,i2,i3⟩:=hR (eq_of_beq hx);have g5:=g3.leave (x:=fK) bg;rw[i2,i3]at g5;apply bL 5;simp only[go_sem,hx,abQ];exact hg ⟨0,none,0,0⟩ _ _ ⟨I4,PH.no,_,[],rfl,a6,abW _,g3.le,Ow.nil _ _ _ _,rfl,by simp,g5,i1⟩ gP (by simp only[go_sem,aa6,OQ,yK])
  obtain⟨m,p2,hm,g4,el,hj⟩:=hN (ne_of_beq_false hx);apply RG;simp only[go_sem,hx,abK];refine cK mixed [0,1,2,3,4,5,6,7] [] [] [1] [] [3] rfl rfl ?_;refine gw ?_;refine aE a6 [0,1] [sg pb _] [_] rfl Hi rfl (Gx dj g4) fun v IC7 qs cj b8 dI=>?_;obtain⟨s7,n7,vk7,rfl,g7,rfl,c4,eb⟩:=dI;obtain⟨ka7,kc7,rfl,_⟩:=id c4;simp only[Z3]at cj |-;apply au;simp only[go_sem,cG];refine nI cj [1,0] fun cj=>?_;refine fF cj (qE.le (Ow.nil (iS eQ) 67 6 I4) b8) (qP.one c4) (by simp) (by exact kH) rfl rfl rfl rfl rfl rfl rfl (fun b=>⟨rfl,rfl,rfl⟩) fun b7 na7 nc7 I7 A7 cx cs eo=>?_;refine gw ?_;refine aw ?_;refine aT ?_;refine bf cx [1,0] fun cx=>?_;have bx:=abV b8 cs;have er:=gL.le dj bx;refine aA (fun x=>x.m) (OQ pb n2) (ZE c ts lv xv pb o n b (e++a.e) I4) ⟨m,na7,1,nc7⟩ gP (by simp only[go_sem,aa6,OQ,yK]) ?_ ?_
  ·refine⟨I7,A7,s7,_,_,[n7],rfl,cx,bx,g7,eo,rfl,hm,hj n7 s7.pos fun u hu=>⟨eb u hu,?_⟩⟩;cases p2 with
   |none=>cases hu
   |some t2=>
    have h1:=NJ hu;have h2:=el t2 rfl;rw[hu]at g7;rw[g7.2.2.2.1];omega
  rintro⟨mm,va,vn,vc⟩ H ⟨I8,A8,s8,p8,e8,ks,rfl,ca,al,g8,a2,bb,ec,a3⟩ aS;simp only at a2 bb ec a3 aS;subst bb;simp only[OQ,yK];have k8:=abV k4 al;have cd:=gL.le hI k8;have fin:(p8=none\/∃t8,p8=some t8/\X ts (nx c ts t8)≠bB)->Sg c ts (Bb c ts s8 fK) b.p o (e++a.e++b.e)/\∀t,b.p=some t->b.l=ks:=fun hp=>by
   have g9:=g8.leave (x:=fK) bg;rcases hp with rfl|⟨t8,rfl,aq⟩
   ·obtain⟨b1,b2⟩:=a3.bad rfl;simp only[aW,aac,aa6]at g9;exact⟨by rw[b1,<-b2];exact g9,fun t ht=>by rw[b1]at ht;cases ht⟩
   ·obtain⟨f1,f2,f3⟩:=a3.end aq;rw[f2,f3]at g9;exact⟨g9,fun _ _=>f1⟩
  refine ll ?_;refine XN (l:=[.bool s8.bad]) rfl (qQ ca) (.inr ⟨Ep,rfl⟩) ?_;cases p8 with
  |none=>
   obtain⟨f1,f2⟩:=fin (.inl rfl);have cy:s8.bad=true:=g8.2.1;apply bL 10;simp only[go_sem,cy];exact hg ⟨0,va,ks.length,vc⟩ _ _ ⟨I8,A8,s8,ks,rfl,ca,al,g8.le,a2,rfl,a3.len,f1,f2⟩ gP (by simp only[go_sem,aa6,OQ,yK])
  |some t8=>
   have cy:s8.bad=false:=g8.2.1;have dx:mB (fG c ts) s8.pos=X ts (nx c ts t8):=g8.tx;apply RG;simp only[go_sem,cy];refine ad ca [0,1] [sg pb _] [A8] rfl dq rfl (eN cd g8.le) fun v I9 qs ba ac cm=>?_;obtain⟨rfl,rfl⟩:=cm;simp only[Z3]at ba |-;rw[dx];have cc:=gL.le cd ac;by_cases aq:X ts (nx c ts t8)=bB
   rotate_left
   ·obtain⟨f1,f2⟩:=fin (.inr ⟨t8,rfl,aq⟩);have c0:(X ts (nx c ts t8) == [44])=false:=beq_false_of_ne aq;apply bL 6;simp only[go_sem,c0];exact hg ⟨0,va,ks.length,vc⟩ _ _ ⟨I9,A8,s8,ks,rfl,ba,abV al ac,g8.le,a2.le ac,rfl,a3.len,f1,f2⟩ gP (by simp only[go_sem,aa6,OQ,yK])
   have c0:(X ts (nx c ts t8) == [44])=true:=by rw[aq];decide
   obtain⟨m',a',ep,eg,ef⟩:=a3.go aq;obtain rfl:a'=H7 c ts (some (nx c ts t8+1)):=by
    rcases eg with ⟨_,hi⟩|⟨hi,_⟩
    ·exact hi
    ·cases hi
   have gT:=g8.take (x:=bB) bg;have d3:aW ts c (some t8) bB=(some (nx c ts t8+1),[]):=iL aq;rw[d3]at gT;simp only[aa6]at gT;apply RG;simp only[go_sem,c0];refine ad ba [0,1] [sg pb _] [A8] rfl eB rfl (f8 (x:=bB) cc g8.le) fun v IB qs a9 ak cl=>?_;obtain rfl:=cl;simp only[Z3]at a9 |-;have a7:=gL.le cc ak;refine aT ?_;refine cK mixed [0,1,2,3,4,5,6,7] [] [] [1] [] [3] rfl rfl ?_;refine gw ?_;refine aE a9 [0,1] [sg pb _] [_] rfl Hi rfl (Gx a7 gT) fun v ICC qs aj ag bc=>?_;obtain⟨sC,nC,vkC,rfl,gC,rfl,a1,bd⟩:=bc;obtain⟨kaC,kcC,rfl,_⟩:=id a1;simp only[Z3]at aj |-;apply au;simp only[go_sem,cG];refine nI aj [1,0] fun aj=>?_;refine fF aj (qE.le (a2.le (abV ac ak)) ag) (qP.one a1) (by have:=a3.len;omega) (by exact kH) rfl rfl rfl rfl rfl rfl rfl (fun b=>⟨rfl,rfl,rfl⟩) fun bC naC ncC IC AC ao an cf=>?_;refine gw ?_;refine aw ?_;refine aT ?_;refine bf ao [1,0] fun ao=>?_;have aa:=abV ag an;have dd:=gL.le a7 aa;have c1:=g8.le;have ed:=hI.len;refine aS ⟨m',naC,ks.length+1,ncC⟩ _ _ dt (bJ (by simp only[go_sem,aa6,iv,pt,aa9,aaJ])) (by simp only[go_sem,aa6,OQ,yK,aa9,aaJ]) ⟨IC,AC,sC,_,_,ks++[nC],rfl,ao,Em al ac ak aa,gC,by simpa using cf,by simp,by simp only;omega,ef nC sC.pos ab fun u hu=>⟨bd u hu,?_⟩⟩;have h1:=NJ hu;rw[hu]at gC;have h3:=gT.2.2.2.1;have h4:=l6 (c:=c) (gx (show X ts (nx c ts t8)≠[] by rw[aq];decide));have h5:=g8.2.2.2.1;rw[gC.2.2.2.1];omega
 rintro⟨mm,va,vn,vc⟩ H ⟨I8,A8,s8,ks,rfl,ca,al,c1,a2,bb,eq,g9,f9⟩;simp only at a2 bb;subst bb;simp only[OQ,yK];have k8:=abV k4 al;have cd:=gL.le hI k8;refine ll ?_;refine ad ca [0,1] [sg pb _] [A8] rfl oD rfl (n9 (x:=fK) cd c1) fun v I9 qs ba ac cm=>?_;obtain rfl:=cm;simp only[Z3]at ba |-;have cc:=gL.le cd ac;refine aT ?_;refine ad ba [0,1] [sg pb _] [A8] rfl dq rfl (eN cc g9.le) fun v IB qs a9 ak cl=>?_;obtain⟨rfl,rfl⟩:=cl;simp only[Z3]at a9 |-;have a7:=gL.le cc ak;have kB:I8.le IB:=abV ac ak;have pre:∀t1,d.p=some t1->∃t2,b.p=some t2:=fun t1 ht=>by
  rcases hB with ⟨_,rfl⟩|⟨u,h1,_⟩|⟨u,h1,_⟩
  ·cases ht
  ·exact⟨u,h1⟩
  ·exact⟨u,h1⟩
 have nodes:∀t1,d.p=some t1->give a.l b.l=[{ n2 with kids:=ks }]:=fun t1 ht=>by
  obtain⟨t2,h2⟩:=pre t1 ht;rw[f9 t2 h2];cases cb:a.p with
  |none=>have:=cA cb;subst this;cases h2
  |some u=>
   rw[c2 u cb];show [{ n2 with kids:=n2.kids++ks }]=_;rw[ee];rfl
 have pred:∀t1,f.p=some t1->∃t2,d.p=some t2:=fun t1 ht=>by
  cases ei:d.p with
  |none=>have:=hf.1 ei;subst this;cases ht
  |some u=>exact⟨u,rfl⟩
 cases hx:(mB (fG c ts) (Fu (fG c ts) (jY c ts 0) ts.length s8 fK).pos == [58])
 ·obtain⟨g6,f6⟩:=hB.no g9 (ne_of_beq_false hx);apply RG;simp only[go_sem,hx];refine cK mixed [0,1,2,3,4,5,6,7] [] [] [1] [] [3] rfl rfl ?_;refine gw ?_;refine aE a9 [0,1] [sg pb _] [_] rfl qC rfl (Cw (wF 2) (dw 2) a7 g6 hf.1 (fun t ht=>⟨trivial,hf.2 t ht⟩)) fun v ICC qs aj ag bc=>?_;obtain⟨sC,nC,vkC,rfl,gC,rfl,a1,bd⟩:=bc;obtain⟨kaC,kcC,rfl,_⟩:=id a1;simp only[Z3]at aj |-;apply au;simp only[go_sem,cG];refine nI aj [1,0] fun aj=>?_;refine fF aj (qE.le (a2.le kB) ag) (qP.one a1) ab (by exact kH) rfl rfl rfl rfl rfl rfl rfl (fun b=>⟨rfl,rfl,rfl⟩) fun bC naC ncC IC AC ao an cf=>?_;refine gw ?_;refine aw ?_;refine aT ?_;refine bf ao [1,0] fun ao=>?_;have aa:=abV ag an;have dd:=gL.le a7 aa;refine bf ao [1,0] fun a5=>?_;refine ae a5 fun IE a5 am cB=>?_;refine aT ?_;refine af rfl a5 (r:=[cG { n2 with kids:=ks++[nC] } (.slice naC (ks++[nC]).length ncC) eQ]) (by simp only[results131,go_sem,iv,cG]) (Em k8 kB aa am) ⟨_,_,_,rfl,by simpa[aaT]using gC,rfl,cf.sl am cB,fun t1 ht=>?_⟩;obtain⟨t2,h2⟩:=pred t1 ht;simp only;rw[nodes t2 h2,f6,bd t1 ht,kF];rfl
 ·obtain⟨p2,g6,_,_,f3⟩:=hB.yes g9 bg (eq_of_beq hx);have ek:=f3 rfl;subst ek;apply RG;simp only[go_sem,hx];refine ad a9 [0,1] [sg pb _] [A8] rfl eB rfl (f8 (x:=bA) a7 g9.le) fun v ID qs c5 a4 dA=>?_;obtain rfl:=dA;simp only[Z3]at c5 |-;have dc:=gL.le a7 a4;refine aT ?_;refine cK mixed [0,1,2,3,4,5,6,7] [] [] [1] [] [3] rfl rfl ?_;refine gw ?_;refine aE c5 [0,1] [sg pb _] [_] rfl Bk rfl (Ba dc g6 1) fun v ICF qs ci b6 dy=>?_;obtain⟨sF,nF,vkF,rfl,gF,rfl,c3,ea⟩:=dy;obtain⟨kaF,kcF,rfl,_⟩:=id c3;simp only[Z3]at ci |-;apply au;simp only[go_sem,cG];refine nI ci [1,0] fun ci=>?_;refine fF ci (qE.le (a2.le (abV kB a4)) b6) (qP.one c3) ab (by exact kH) rfl rfl rfl rfl rfl rfl rfl (fun b=>⟨rfl,rfl,rfl⟩) fun bF naF ncF IF AF ct cr en=>?_;refine gw ?_;refine aw ?_;refine aT ?_;refine bf ct [1,0] fun ct=>?_;have bs:=abV b6 cr;have da:=gL.le dc bs;refine cK mixed [0,1,2,3,4,5,6,7] [] [] [1] [] [3] rfl rfl ?_;refine gw ?_;refine aE ct [0,1] [sg pb _] [_] rfl qC rfl (Cw (wF 2) (dw 2) da gF hf.1 (fun t ht=>⟨trivial,hf.2 t ht⟩)) fun v ICC qs aj ag bc=>?_;obtain⟨sC,nC,vkC,rfl,gC,rfl,a1,bd⟩:=bc;obtain⟨kaC,kcC,rfl,_⟩:=id a1;simp only[Z3]at aj |-;apply au;simp only[go_sem,cG];refine nI aj [1,0] fun aj=>?_;refine fF aj (qE.le en ag) (qP.one a1) (by simp only[aa9,aaJ];omega) (by exact kH) rfl rfl rfl rfl rfl rfl rfl (fun b=>⟨rfl,rfl,rfl⟩) fun bC naC ncC IC AC ao an cf=>?_;refine gw ?_;refine aw ?_;refine aT ?_;refine bf ao [1,0] fun ao=>?_;have aa:=abV ag an;have dd:=gL.le da aa;refine bf ao [1,0] fun a5=>?_;refine ae a5 fun IE a5 am cB=>?_;refine aT ?_
  refine af rfl a5 (r:=[cG { n2 with kids:=ks++[nF]++[nC] } (.slice naC (ks++[nF]++[nC]).length ncC) eQ]) (by simp only[results131,go_sem,iv,cG]) (Tq k8 kB a4 bs aa am) ⟨_,_,_,rfl,by simpa[aaT]using gC,rfl,cf.sl am cB,fun t1 ht=>?_⟩;obtain⟨t2,h2⟩:=pred t1 ht;simp only;rw[nodes t2 h2,ea t2 h2,bd t1 ht];rfl
end
open Go Go.Sx Dg Syn
section
variable {c:bP} {ts:List Syn.Tok} {o:Nat} {e:List (Nat×Int)} {s:PS}
variable{t:Nat}
def T9(h:nx c ts t=ts.length):cn c ts t=(fG c ts).length:=by
 rw[<-vz,h];unfold cn;rw[aaS]
def IM(h:nx c ts t<ts.length):cn c ts t<(fG c ts).length:=by
 have h1:=l6 h;have h2:=Va (c:=c) (ts:=ts) (nx c ts t+1);omega
def LV{m o:Nat}{ks:List Nd}{b:PR}(h:bS c ts m (.seqL true o (some t) ks none)=some b)(hx:nx c ts t=ts.length):b=⟨ks,some (nx c ts t),[]⟩:=by
 cases m with
 |zero=>cases h
 |succ m=>
  simp only[bS,aC,nE,Z9]at h;rw[aaq (show tI ts true (nx c ts t)=true from abU hx)]at h;exact(aaZ h).symm
def YF(c:bP)(ts:List Syn.Tok)(n o i:Nat)(a:PR):Prop:=
 (X ts i=lT/\rr c ts n (.vrb o (some (i+1))) a)\/(X ts i=Gg/\rr c ts n (.function o (some (i+1))) a)\/(X ts i≠lT/\X ts i≠Gg/\a=⟨[],none,[(10,(i:Int))]⟩)
def QX{m o:Nat}{ks:List Nd}{b:PR}(h:bS c ts m (.seqL true o (some t) ks none)=some b)(hx:nx c ts t≠ts.length):
  ∃m' a b',m'<m/\YF c ts m o (nx c ts t) a/\bS c ts m' (.seqL true o a.p (ks++a.l) none)=some b'/\b=⟨b'.l,b'.p,a.e++b'.e⟩:=by
 cases m with
 |zero=>cases h
 |succ m=>
  simp only[bS,aC,nE,Z9]at h;rw[ZV (show ¬tI ts true (nx c ts t)=true from fun h=>hx (abl h))]at h;obtain⟨a,ha,h⟩:=gW h;obtain⟨b',hb,h⟩:=gW h;cases h
  refine⟨m,a,b',ab,?_,hb,rfl⟩;have h2:vF ts (bS c ts m) o (nx c ts t)=some a:=ha;unfold vF at h2;split at h2
  ·rename_i h3;exact .inl ⟨h3,m,ab,h2⟩
  ·rename_i h3;split at h2
   ·rename_i h4;exact .inr (.inl ⟨h4,m,ab,h2⟩)
   ·rename_i h4;exact .inr (.inr ⟨h3,h4,(aaZ h2).symm⟩)
def TF{n o i u:Nat}{a:PR}(h:YF c ts n o i a)(hu:a.p=some u)(hl:u<=ts.length):cn c ts (i+1)<cn c ts u:=by
 rcases h with ⟨_,h⟩|⟨_,h⟩|⟨_,_,rfl⟩
 ·exact Na (O1.lt (Mc h trivial rfl hu)) hl
 ·exact Na (O1.lt (Mc h trivial rfl hu)) hl
 ·cases hu
end
open Go Go.Sx Dg Syn
section
variable {c:bP} {ts:List Syn.Tok} {lv xv:Value} {o:Nat} {e:List (Nat×Int)} {p:Option Nat} {s:PS} {pb:Nat} {I:PH} {q:PR}
structure ZJ(c:bP)(ts:List Syn.Tok)(lv xv:Value)(n:Nat):Prop where
 u:GU c ts lv xv (rr c ts n)
 l:GL c ts lv xv (rr c ts n)
 i:GI c ts lv xv (rr c ts n)
 b:GB c ts lv xv (rr c ts n)
 v:GV c ts lv xv (rr c ts n)
 f:GF c ts lv xv (rr c ts n)
 s:GS c ts lv xv (rr c ts n)
 r:GR c ts lv xv (rr c ts n)
 a:GA c ts lv xv (rr c ts n)
def XO:∀n:Nat,ZJ c ts lv xv n
 |0=>⟨fun _ _ _ _ _ _ _ _ _ _ _ h=>(NM h).elim,YS,fun _ _ _ _ _ _ _ _ _ _ _ h=>(NM h).elim,fun _ _ _ _ _ _ _ _ _ _ _ h=>(NM h).elim,fun _ _ _ _ _ _ _ _ _ _ h=>(NM h).elim,fun _ _ _ _ _ _ _ _ _ _ h=>(NM h).elim,fun _ _ _ _ _ _ _ _ _ _ h=>(NM h).elim,fun _ _ _ _ _ _ _ _ _ _ _ h=>(NM h).elim,fun _ _ _ _ _ _ _ _ _ h=>(NM h).elim⟩
 |n+1=>by
  have h:=XO n;exact⟨Pj h.u h.i h.a,Om h.u h.l,ML h.l,PT h.s,VN h.l,EB h.b,TG h.l h.i h.b h.v h.r h.a,Km h.i h.b h.r,Ti h.l⟩
def Y0(c:bP)(ts:List Syn.Tok)(pb:Nat)(lv xv:Value)(q:PR):Value->PH->List PH->Prop:=
 fun v I2 qs=>∃s' ks vk,qs=[sg pb (bG lv xv ts.length s')]/\Sg c ts s' q.p 0 q.e/\v=cG ⟨1,[],-1,0,ks,tt⟩ vk eQ/\jV I2 vk ks/\∀t,q.p=some t->q.l=ks
end
def Ul(pb:Nat)(x:WE):St:=⟨dn 45 [(0,.v (pt pb)),(2,.p 2 0),(3,.p 3 0)],[⟨2,67,yK⟩,⟨3,67,[.int .u8 1,.string ⟨#[]⟩,.int .i64 (-1),.int .i64 0,.slice x.va x.vn x.vc,.slice none 0 0]⟩]⟩
def Y6(c:bP)(ts:List Syn.Tok)(lv xv:Value)(pb:Nat)(q:PR)(I0:PH)(x:WE)(H:PH):Prop:=
 ∃I A s' p' e' ks,H=U [I,sg pb (bG lv xv ts.length s'),A]/\Dj [I,sg pb (bG lv xv ts.length s'),A]/\I0.le I/\Sg c ts s' p' 0 e'/\qE I A (.slice x.va x.vn x.vc) ks/\x.vn=ks.length/\ks.length<=16385/\
  (p'=none->q.p=none/\e'=q.e)/\∀t,p'=some t->ks.length<=s'.pos/\∃b,bS c ts x.m (.seqL true 0 (some t) ks none)=some b/\b.p=q.p/\e'++b.e=q.e/\b.l=q.l
section
variable {c:bP} {ts:List Syn.Tok} {lv xv:Value} {o:Nat} {e:List (Nat×Int)} {p:Option Nat} {s:PS} {pb:Nat} {I:PH} {q:PR}
theorem HW{m:Nat}(hI:Ex c ts I lv xv)(h:Sg c ts s (some 0) 0 [])(hq:bS c ts m (.seqL true 0 (some 0) [] none)=some q):
  aK prog 74 #[pt pb] I [sg pb (bG lv xv ts.length s)] (Y0 c ts pb lv xv q):=by
 intro hd;have cj:=hI.len;refine ah 45 func74 fun w0=>?_
 try simp only[pt]
 refine aT ?_;refine aR hd fun hd=>?_;refine bf hd [1,0] fun hd=>?_;refine aA (fun x=>x.m) (Ul pb) (Y6 c ts lv xv pb q I) ⟨m,none,0,0⟩ gP (by simp only[go_sem,aa6,Ul,yK]) ?_ ?_
 ·exact⟨I,PH.no,_,_,_,[],rfl,hd,abW _,h,Ow.nil _ _ _ _,rfl,by simp,fun h=>(by cases h),fun t ht=>by cases ht;exact⟨aaL _,q,hq,rfl,rfl,rfl⟩⟩
 rintro⟨mm,va,vn,vc⟩ H ⟨I8,A8,s8,p8,e8,ks,rfl,a2,ag,g8,a4,b3,cm,b7,b5⟩ ac;simp only at a4 b3 b7 b5 ac;subst b3;simp only[Ul,yK];have bx:=gL.le hI ag;obtain⟨la,lc,rfl,_⟩:=id bx.tok;have m0:aP (U [I8,sg pb (bG (.slice la (fG c ts).length lc) xv ts.length s8),A8]) pb 0 [.slice la (fG c ts).length lc]:=qQ a2;have m3:aP (U [I8,sg pb (bG (.slice la (fG c ts).length lc) xv ts.length s8),A8]) pb 3 [iv s8.pos]:=qQ a2;have m5:aP (U [I8,sg pb (bG (.slice la (fG c ts).length lc) xv ts.length s8),A8]) pb 5 [.bool s8.bad]:=qQ a2;refine ll ?_;refine eP [0,1,2,3,4,5,6,7,8,9,10,11,12,13,14,15,16] [3,9,13] [] ?_;refine FW ?_;refine W7 (l:=[.bool s8.bad]) rfl m5 (.inr ⟨Ep,rfl⟩) ?_;cases p8 with
 |none=>
  obtain⟨b1,b2⟩:=b7 rfl;have bs:s8.bad=true:=g8.2.1;apply au;simp only[go_sem,iv,bs];refine aw ?_;refine bf a2 [1,0] fun a1=>?_;refine ae (c:=.st _) a1 fun IA a1 ak b0=>?_;refine aT ?_;exact af rfl a1 (r:=[cG ⟨1,[],-1,0,ks,tt⟩ (.slice va ks.length vc) eQ]) (by simp only[results74,go_sem,iv,cG]) (abV ag ak) ⟨_,ks,_,rfl,by rw[b1,<-b2];exact g8,rfl,a4.sl ak b0,fun t ht=>by rw[b1]at ht;cases ht⟩
 |some t8=>
  obtain⟨ct,b,hb,f1,f2,f3⟩:=b5 t8 rfl;have bs:s8.bad=false:=g8.2.1;have bc:s8.pos=cn c ts t8:=g8.2.2.2.1;have cd:t8<=ts.length:=g8.2.2.2.2.1;have cc:mB (fG c ts) s8.pos=X ts (nx c ts t8):=g8.tx;apply au;simp only[go_sem,iv,bs];refine W7 (l:=[iv s8.pos]) rfl m3 (.inr ⟨jq,rfl⟩) ?_;refine dS ?_;refine W7 (l:=[.slice la (fG c ts).length lc]) rfl m0 (.inr ⟨Db,rfl⟩) ?_;by_cases aq:nx c ts t8=ts.length
  ·have h1:decide ((s8.pos:Int)<((fG c ts).length:Int))=false:=abT (by rw[bc,T9 aq];omega);have:=LV hb aq;subst this;simp only[aa6]at f1 f2 f3;have g9:=g8.nx;rw[f1,f2]at g9;apply au;simp only[go_sem,iv,h1];refine aw ?_;refine bf a2 [1,0] fun a1=>?_;refine ae (c:=.st _) a1 fun IA a1 ak b0=>?_;refine aT ?_;exact af rfl a1 (r:=[cG ⟨1,[],-1,0,ks,tt⟩ (.slice va ks.length vc) eQ]) (by simp only[results74,go_sem,iv,cG]) (abV ag ak) ⟨_,ks,_,rfl,g9,rfl,a4.sl ak b0,fun t ht=>f3.symm⟩
  have b4:nx c ts t8<ts.length:=by have:=yI (c:=c) cd;omega
  have h1:decide ((s8.pos:Int)<((fG c ts).length:Int))=true:=abU (by have:=IM b4;omega);obtain⟨m',a',b',cs,a5,a3,rfl⟩:=QX hb aq;have cp:=l6 b4;have an:∀u,a'.p=some u->u<=ts.length->s8.pos+1<cn c ts u:=fun u hu cb=>by
   have:=TF a5 hu cb;omega
  have cx:s8.pos<=(fG c ts).length:=g8.le;have bad:a'.p=none->b'=⟨ks++a'.l,none,[]⟩:=fun hp=>by rw[hp]at a3;exact Cy a3
  apply au;simp only[go_sem,iv,h1];refine aw ?_;refine dP ?_;refine ad a2 [0,1] [sg pb _] [A8] rfl dq rfl (eN bx g8.le) fun v I9 qs a9 aa ci=>?_;obtain⟨rfl,rfl⟩:=ci;simp only[Z3]at a9 |-;rw[cc];have a7:=gL.le bx aa;rcases a5 with ⟨hx,ba⟩|⟨hx,ba⟩|⟨ca,b8,rfl⟩
  ·have b1:(X ts (nx c ts t8) == [118,97,114])=true:=by rw[hx];decide
   apply RG;simp only[go_sem,b1];refine cK mixed [0,1,2,3,4,5,6,7] [] [] [1] [] [3] rfl rfl ?_;refine gw ?_;refine aE a9 [0,1] [sg pb _] [_] rfl GW rfl ((XO _).v pb I9 _ _ _ _ a' a7 g8 hx ba) fun v ICC qs am al bb=>?_;obtain⟨sC,nC,vkC,rfl,gC,rfl,a6,bd⟩:=bb;obtain⟨kaC,kcC,rfl,_⟩:=id a6;simp only[Z3]at am |-;apply au;simp only[go_sem,cG];refine nI am [1,0] fun am=>?_;refine fF am (qE.le (a4.le aa) al) (qP.one a6) ab (by exact kH) rfl rfl rfl rfl rfl rfl rfl (fun b=>⟨rfl,rfl,rfl⟩) fun bC naC ncC IC AC aS ao bF=>?_;refine gw ?_;refine aw ?_;refine aT ?_;refine bf aS [1,0] fun aS=>?_;have aj:=abV al ao;have cr:=gL.le a7 aj;refine ac ⟨m',naC,ks.length+1,ncC⟩ _ _ dt (bJ (by simp only[go_sem,aa6,iv,pt,aa9,aaJ])) (by simp only[go_sem,aa6,Ul,yK,aa9,aaJ]) ⟨IC,AC,sC,a'.p,e8++a'.e,ks++[nC],rfl,aS,uw ag aa aj,gC,by simpa using bF,by simp,by simp only[aa9,aaJ];omega,fun hp=>?_,fun t ht=>⟨?_,b',?_,f1,by rw[<-f2];simp,f3⟩⟩
   ·have:=bad hp;subst this;simp only[aa6]at f1 f2;exact⟨f1.symm,f2⟩
   ·rw[ht]at gC;have h5:=an t ht gC.2.2.2.2.1;rw[gC.2.2.2.1];simp only[aa9,aaJ];omega
   ·rw[bd t ht,ht]at a3;exact a3
  ·have b1:(X ts (nx c ts t8) == [118,97,114])=false:=by rw[hx];decide
   have b2:(X ts (nx c ts t8) == [102,110])=true:=by rw[hx];decide
   apply RG;simp only[go_sem,b1,b2];refine cK mixed [0,1,2,3,4,5,6,7] [] [] [1] [] [3] rfl rfl ?_;refine gw ?_;refine aE a9 [0,1] [sg pb _] [_] rfl PN rfl ((XO _).f pb I9 _ _ _ _ a' a7 g8 hx ba) fun v ICC qs am al bb=>?_;obtain⟨sC,nC,vkC,rfl,gC,rfl,a6,bd⟩:=bb;obtain⟨kaC,kcC,rfl,_⟩:=id a6;simp only[Z3]at am |-;apply au;simp only[go_sem,cG];refine nI am [1,0] fun am=>?_;refine fF am (qE.le (a4.le aa) al) (qP.one a6) ab (by exact kH) rfl rfl rfl rfl rfl rfl rfl (fun b=>⟨rfl,rfl,rfl⟩) fun bC naC ncC IC AC aS ao bF=>?_;refine gw ?_;refine aw ?_;refine aT ?_;refine bf aS [1,0] fun aS=>?_;have aj:=abV al ao;have cr:=gL.le a7 aj;refine ac ⟨m',naC,ks.length+1,ncC⟩ _ _ dt (bJ (by simp only[go_sem,aa6,iv,pt,aa9,aaJ])) (by simp only[go_sem,aa6,Ul,yK,aa9,aaJ]) ⟨IC,AC,sC,a'.p,e8++a'.e,ks++[nC],rfl,aS,uw ag aa aj,gC,by simpa using bF,by simp,by simp only[aa9,aaJ];omega,fun hp=>?_,fun t ht=>⟨?_,b',?_,f1,by rw[<-f2];simp,f3⟩⟩
   ·have:=bad hp;subst this;simp only[aa6]at f1 f2;exact⟨f1.symm,f2⟩
   ·rw[ht]at gC;have h5:=an t ht gC.2.2.2.2.1;rw[gC.2.2.2.1];simp only[aa9,aaJ];omega
   ·rw[bd t ht,ht]at a3;exact a3
  ·have b1:(X ts (nx c ts t8) == [118,97,114])=false:=beq_false_of_ne ca;have b2:(X ts (nx c ts t8) == [102,110])=false:=beq_false_of_ne b8;have:=bad rfl;subst this;apply RG;simp only[go_sem,b1,b2];refine ad a9 [0,1] [sg pb _] [A8] rfl l4 rfl (o6 (code:=10) a7 g8.le) fun v IB qs b6 cl cf=>?_;obtain⟨rfl,rfl⟩:=cf;simp only[Z3]at b6 |-;refine aT ?_;exact ac ⟨m',va,ks.length,vc⟩ _ _ dt gP (by simp only[go_sem,aa6,Ul,yK]) ⟨IB,A8,_,none,_,ks,rfl,b6,abV ag aa,g8.fail 10 0,a4.le aa,rfl,cm,fun _=>⟨f1.symm,by rw[<-f2];simp⟩,fun t ht=>by cases ht⟩
end
end Go.Proofs.YtfaclfkpnmcmlaaGreatDoor
