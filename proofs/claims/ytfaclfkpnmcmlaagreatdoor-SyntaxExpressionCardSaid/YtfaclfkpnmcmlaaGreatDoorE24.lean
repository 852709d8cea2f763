import Derived.Test.YtfaclfkpnmcmlaaGreatDoorE10
import Derived.Test.YtfaclfkpnmcmlaaGreatDoorE18
import Derived.Test.YtfaclfkpnmcmlaaGreatDoorE19
import Derived.Test.YtfaclfkpnmcmlaaGreatDoorE23
set_option maxHeartbeats 8000000
set_option linter.all false
namespace Go.Proofs.YtfaclfkpnmcmlaaGreatDoor
open Go Go.Sx Dg Syn
section
variable {c:bP} {ts:List Syn.Tok} {lv xv:Value} {o:Nat} {e:List (Nat×Int)} {p:Option Nat} {s:PS} {pb:Nat} {I:PH} {q:PR}
def JI{n i kd:Nat}{gz:bq}(h:rr c ts (n+1) (.stmt o (some i)) q)(hw:X ts i=gz)(hk:(kd=10/\gz=iH)\/(kd=11/\gz=jU)\/(kd=12/\gz=ew)):
  (kd=10/\X ts (nx c ts (i+1))=a8/\q=⟨[⟨kd,[],(i:Nat),0,[],tt⟩],(aW ts c (some (i+1)) a8).1,(aW ts c (some (i+1)) a8).2⟩)\/
  ((kd=10->X ts (nx c ts (i+1))≠a8)/\∃u a,(u=i+1\/u=nx c ts (i+1))/\rr c ts n (.line 0 o (some u) 0) a/\q=⟨give [⟨kd,[],(i:Nat),0,[],tt⟩] a.l,(aW ts c a.p a8).1,a.e++(aW ts c a.p a8).2⟩):=by
 obtain⟨m,hm,h1,aa⟩:=h.step;have h2:gM c ts (bS c ts m) o (some i)=some q:=h1;unfold gM at h2;simp only at h2;rcases hk with ⟨rfl,rfl⟩|⟨rfl,rfl⟩|⟨rfl,rfl⟩
 ·rw[hw,ZV bg,ZV bg,ZV bg,ZV bg,aaq rfl]at h2;obtain⟨a,ha,h3⟩:=gW h2;cases h3
  by_cases hx:X ts (nx c ts (i+1))=a8
  ·rw[jA (by simp[kA hx])]at ha;have:=PV.noneLine ⟨m,ha⟩;subst this;rw[jM (kA hx)];refine .inl ⟨rfl,hx,?_⟩;simp only[ap,Option.none_or,np,aaA];rfl
  ·rw[jM (by simp[kD hx])]at ha;rw[jA (kD hx),Option.or_none];exact .inr ⟨fun _=>hx,_,a,.inr rfl,aa _ _ ha,rfl⟩
 ·rw[hw,ZV bg,ZV bg,ZV bg,ZV bg,ZV bg,aaq bg]at h2;obtain⟨a,ha,h3⟩:=gW h2;cases h3
  exact .inr ⟨fun h=>(by cases h),_,a,.inl rfl,aa _ _ ha,rfl⟩
 ·rw[hw,ZV bg,ZV bg,ZV bg,ZV bg,ZV bg,aaq bg]at h2;obtain⟨a,ha,h3⟩:=gW h2;cases h3
  exact .inr ⟨fun h=>(by cases h),_,a,.inl rfl,aa _ _ ha,rfl⟩
theorem JX{n:Nat}(hL:GL c ts lv xv (rr c ts n)){kd t:Nat}{gz:bq}(hk:(kd=10/\gz=iH)\/(kd=11/\gz=jU)\/(kd=12/\gz=ew))(hI:Ex c ts I lv xv)(h:Sg c ts s (some t) o e)(hw:X ts (nx c ts t)=gz)(hr:rr c ts (n+1) (.stmt o (some (nx c ts t))) q):
  aK Tryz.prog 287 #[pt pb,.int .u8 kd,.string ⟨⟨gz⟩⟩] I [sg pb (bG lv xv ts.length s)] (JH c ts pb lv xv q o e):=by
 intro hd;have b2:gz≠[]:=by rcases hk with ⟨_,rfl⟩|⟨_,rfl⟩|⟨_,rfl⟩<;>decide
 have a3:=JI hr hw hk;have b4:=h.tk;have g1:=h.take (x:=gz) b2;rw[iL hw]at g1;simp only[aa6]at g1;refine ah 32 Tryz.func287 fun w0=>?_
 try simp only[pt]
 refine aT ?_;refine ad hd [0] [sg pb _] [] rfl km rfl (qU hI h.le) fun v I1 qs b1 cb ca=>?_;obtain⟨rfl,rfl,rfl⟩:=ca;simp only[Z3]at b1 |-;rw[b4];refine dP ?_;refine ad b1 [0] [sg pb _] [] rfl eB rfl (f8 (x:=gz) hI h.le) fun v I2 qs bb al b7=>?_;obtain rfl:=b7;simp only[Z3]at bb |-;have a5:=gL.le hI al;have bF:∀(u:Nat) (a:PR) (J:PH),(u=nx c ts t+1\/u=nx c ts (nx c ts t+1))->rr c ts n (.line 0 o (some u) 0) a->Ex c ts J lv xv->aK Tryz.prog 86 #[pt pb,.int .i64 0,.int .i64 0] J [sg pb (bG lv xv ts.length (xP c ts s gz))] (JH c ts pb lv xv a o e):=fun u a J hu ha hJ=>by
  rcases hu with rfl|rfl
  ·exact hL 0 0 bg pb J _ _ _ _ a hJ g1 trivial ha
  ·exact hL 0 0 bg pb J _ _ _ _ a hJ g1.nx trivial ha
 have b3:mB (fG c ts) (i8 (fG c ts) (jY c ts 0) ts.length s gz).pos=X ts (nx c ts (nx c ts t+1)):=g1.tx;by_cases aq:kd=10
 ·have c1:((kd:Int) != 10)=false:=by rw[aq];rfl
  apply RG;simp only[go_sem,c1];refine ad bb [0] [sg pb _] [] rfl dq rfl (eN a5 g1.le) fun v I3 qs aa an b6=>?_;obtain⟨rfl,rfl⟩:=b6;simp only[Z3]at aa |-;rw[b3];have bd:=gL.le a5 an;rcases a3 with ⟨_,hx,rfl⟩|⟨hx,u,a,hu,ha,rfl⟩
  ·have bC:(X ts (nx c ts (nx c ts t+1)) == [59])=true:=by rw[hx];decide
   apply RG;simp only[go_sem,bC,abQ];refine ad aa [0] [sg pb _] [] rfl eB rfl (f8 (x:=a8) bd g1.le) fun v I4 qs b0 ba b5=>?_;obtain rfl:=b5;simp only[Z3]at b0 |-;refine aT ?_;exact af rfl b0 (r:=[cG ⟨kd,[],(nx c ts t:Nat),0,[],tt⟩ eQ eQ]) (by simp only[Tryz.results287,go_sem,iv,cG]) (uw al an ba) ⟨_,_,_,rfl,g1.take (x:=a8) bg,rfl,jV.nil _,fun _ _=>rfl⟩
  ·have bC:(X ts (nx c ts (nx c ts t+1)) == [59])=false:=beq_false_of_ne (hx aq);refine aR aa fun aa=>?_;refine bf aa [1,0] fun aa=>?_;apply RG;simp only[go_sem,bC,abK];refine cK mixed [0,1,2,3,4,5,6,7] [] [] [1] [] [7] rfl rfl ?_;refine gw ?_;refine aE aa [0,1] [sg pb _] [_] rfl oe rfl (bF u a I3 hu ha bd) fun v IC8 qs am ak a7=>?_;obtain⟨s8,n8,vk8,rfl,g8,rfl,a2,a9⟩:=a7;obtain⟨ka8,kc8,rfl,_⟩:=id a2;simp only[Z3]at am |-;apply au;simp only[go_sem,cG];refine nI am [1,0] fun am=>?_;refine fF am (qE.le (Ow.nil (iS eQ) 67 6 I3) ak) (qP.one a2) (by simp) (by exact kH) rfl rfl rfl rfl rfl rfl rfl (fun b=>⟨rfl,rfl,rfl⟩) fun b8 na8 nc8 I8 A8 a1 ao bx=>?_;refine gw ?_;refine aw ?_;refine aT ?_;refine bf a1 [1,0] fun a1=>?_;have aj:=abV ak ao;have bc:=gL.le bd aj;refine ad a1 [0,1] [sg pb _] [A8] rfl eB rfl (f8 (x:=a8) bc g8.le) fun v I9 qs a4 ag a6=>?_;obtain rfl:=a6;simp only[Z3]at a4 |-;refine bf a4 [1,0] fun aS=>?_;refine ae aS fun IA aS ac bs=>?_;refine aT ?_;refine af rfl aS (r:=[cG ⟨kd,[],(nx c ts t:Nat),0,[n8],tt⟩ (.slice na8 1 nc8) eQ]) (by simp only[Tryz.results287,go_sem,iv,cG]) (Kg al an aj ag ac) ⟨_,_,_,rfl,by simpa[aaT]using g8.take (x:=a8) bg,rfl,bx.sl (abV ag ac) bs,fun t1 ht=>?_⟩;obtain⟨t2,h2⟩:=gS ht;simp only;rw[a9 t2 h2];rfl
 ·have c1:((kd:Int) != 10)=true:=by simp;omega
  rcases a3 with ⟨cc,_⟩|⟨_,u,a,hu,ha,rfl⟩
  ·exact absurd cc aq
  have aa:=bb;refine aR aa fun aa=>?_;refine bf aa [1,0] fun aa=>?_;apply RG;simp only[go_sem,c1];refine cK mixed [0,1,2,3,4,5,6,7] [] [] [1] [] [7] rfl rfl ?_;refine gw ?_;refine aE aa [0,1] [sg pb _] [_] rfl oe rfl (bF u a I2 hu ha a5) fun v IC8 qs am ak a7=>?_;obtain⟨s8,n8,vk8,rfl,g8,rfl,a2,a9⟩:=a7;obtain⟨ka8,kc8,rfl,_⟩:=id a2;simp only[Z3]at am |-;apply au;simp only[go_sem,cG];refine nI am [1,0] fun am=>?_;refine fF am (qE.le (Ow.nil (iS eQ) 67 6 I2) ak) (qP.one a2) (by simp) (by exact kH) rfl rfl rfl rfl rfl rfl rfl (fun b=>⟨rfl,rfl,rfl⟩) fun b8 na8 nc8 I8 A8 a1 ao bx=>?_;refine gw ?_;refine aw ?_;refine aT ?_;refine bf a1 [1,0] fun a1=>?_;have aj:=abV ak ao;have bc:=gL.le a5 aj;refine ad a1 [0,1] [sg pb _] [A8] rfl eB rfl (f8 (x:=a8) bc g8.le) fun v I9 qs a4 ag a6=>?_;obtain rfl:=a6;simp only[Z3]at a4 |-;refine bf a4 [1,0] fun aS=>?_;refine ae aS fun IA aS ac bs=>?_;refine aT ?_;refine af rfl aS (r:=[cG ⟨kd,[],(nx c ts t:Nat),0,[n8],tt⟩ (.slice na8 1 nc8) eQ]) (by simp only[Tryz.results287,go_sem,iv,cG]) (Em al aj ag ac) ⟨_,_,_,rfl,by simpa[aaT]using g8.take (x:=a8) bg,rfl,bx.sl (abV ag ac) bs,fun t1 ht=>?_⟩;obtain⟨t2,h2⟩:=gS ht;simp only;rw[a9 t2 h2];rfl
end
open Go Go.Sx Dg Syn
section
variable {c:bP} {ts:List Syn.Tok} {lv xv:Value} {o:Nat} {e:List (Nat×Int)} {p:Option Nat} {s:PS} {pb:Nat} {I:PH} {q:PR}
def Xx(c:bP)(ts:List Syn.Tok)(n o:Nat)(p:Option Nat)(slot:Nat)(b:PR):Prop:=(p=none->b=ap)/\∀t,p=some t->rr c ts n (.block o (some t) slot) b
def kF(l:List Nd):give l []=l:=by
 induction l with
 |nil=>rfl
 |cons a l ih=>
  simp only[give,aaU,aa6]at ih |-;rw[ih];cases a;rfl
def El (c : bP) (ts : List Syn.Tok) (n o : Nat) (p : Option Nat) (l : List Nd) (d : PR) : Prop :=
  (p = none ∧ d = ⟨l, none, []⟩) ∨ (∃ u, p = some u ∧ X ts (nx c ts u) ≠ dr ∧ d = ⟨l, some (nx c ts u), []⟩) ∨
    ∃ u, p = some u ∧ X ts (nx c ts u) = dr ∧
      ((X ts (nx c ts (nx c ts u + 1)) ≠ kT ∧ ∃ a, rr c ts n (.block o (some (nx c ts (nx c ts u + 1))) 2) a ∧ d = ⟨give l a.l, a.p, a.e⟩) ∨
       (X ts (nx c ts (nx c ts u + 1)) = kT ∧ ((o = 64 ∧ d = ⟨l, none, [(11, ((nx c ts (nx c ts u + 1) : Nat) : Int))]⟩) ∨ (o ≠ 64 ∧ ∃ a, rr c ts n (.branch (o + 1) (some (nx c ts (nx c ts u + 1))) 2) a ∧ d = ⟨give l a.l, a.p, a.e⟩))))
variable{l:List Nd}
def LZ{m o:Nat}{out:Option Nat}{b:PR}(h:bS c ts m (.ifs o none l out)=some b):b=⟨l,out,[]⟩:=by
 cases m with
 |zero=>cases h
 |succ m=>exact(aaZ h).symm
def So{n m o:Nat}{p:Option Nat}{d:PR}(h:bS c ts m (.elses o (qz c ts p (pi ts dr)) l (qz c ts p fun i=>!pi ts dr i))=some d)(hm:m<=n):El c ts n o p l d:=by
 cases p with
 |none=>exact .inl ⟨rfl,PV.noneElses ⟨m,h⟩⟩
 |some u=>
  by_cases hx:X ts (nx c ts u)=dr
  rotate_left
  ·rw[jA (kD hx),jM (by simp[kD hx])]at h;exact .inr (.inl ⟨u,rfl,hx,PV.noneElses ⟨m,h⟩⟩)
  rw[jM (kA hx),jA (by simp[kA hx])]at h;cases m with
  |zero=>cases h
  |succ m=>
   simp only[bS,aC,nP]at h;obtain⟨a,ha,h⟩:=gW h;obtain⟨b,hb,h⟩:=gW h;cases h
   refine .inr (.inr ⟨u,rfl,hx,?_⟩);by_cases hy:X ts (nx c ts (nx c ts u+1))=kT
   ·rw[jA (by simp[kA hy])]at ha;rw[jM (kA hy)]at hb;have:=PV.noneBlock ⟨m,ha⟩;subst this;refine .inr ⟨hy,?_⟩;cases m with
    |zero=>cases hb
    |succ m=>
     simp only[bS,aC,BV]at hb;rw[show (ap:PR).l=[] from rfl,kF]at hb;by_cases ho:o=64
     ·rw[aaq ho]at hb;cases hb
      exact .inl ⟨ho,rfl⟩
     ·rw[ZV ho]at hb;obtain⟨a,ha,hb⟩:=gW hb;cases hb
      exact .inr ⟨ho,a,⟨m,ab,ha⟩,rfl⟩
   ·rw[jM (by simp[kD hy])]at ha;rw[jA (kD hy)]at hb;have:=LZ hb;subst this;exact .inl ⟨hy,a,⟨m,ab,ha⟩,by simp⟩
def E6{n i slot:Nat}(h:rr c ts (n+1) (.branch o (some i) slot) q):∃a b d,rr c ts n (.inside o (some (i+1)) 0) a/\Xx c ts n o a.p 1 b/\El c ts n o b.p (give (give [⟨8,[],(i:Nat),slot,[],tt⟩] a.l) b.l) d/\q=⟨d.l,d.p,a.e++b.e++d.e⟩:=by
 obtain⟨m,hm,h1,aa⟩:=h.step;have h2:ku c ts (bS c ts m) o (some i) slot=some q:=h1;unfold ku at h2;obtain⟨a,ha,h2⟩:=gW h2;obtain⟨b,hb,h2⟩:=gW h2;obtain⟨d,hd,h2⟩:=gW h2;cases h2
 obtain⟨w,hw⟩:=aa _ _ ha;refine⟨a,b,d,aa _ _ ha,?_,So hd ab,rfl⟩;refine⟨fun hp=>?_,fun t ht=>?_⟩
 ·rw[hp]at hb;exact PV.noneBlock ⟨m,hb⟩
 ·rw[ht]at hb;exact aa _ _ hb
def Sg.inc{t:Nat}(h:Sg c ts s (some t) o e)(ho:o≠64):Sg c ts { s with opn:=IntKind.i64.wrap (s.opn+1) } (some t) (o+1) e:=by
 obtain⟨h0,h1,h2,h3,h4,h5,h6⟩:=h;refine⟨h0,h1,?_,h3,h4,ab,h6⟩;show IntKind.i64.wrap (s.opn+1)=_;rw[h2,show ((o:Nat):Int)+1=((o+1:Nat):Int) by omega];exact Hq ab
theorem Km{n:Nat}(dd:GI c ts lv xv (rr c ts n))(hB:GB c ts lv xv (rr c ts n))(hR:GR c ts lv xv (rr c ts n)):GR c ts lv xv (rr c ts (n+1)):=by
 intro slot pb I s t o e q hI h hw hr hd;obtain⟨a,b,d,ha,hb,aq,rfl⟩:=E6 hr;have cB:=h.tk;have g1:=h.take (x:=kT) bg;rw[iL hw]at g1;simp only[aa6]at g1;refine iz Tryz.func286 rfl (by simp[Tryz.ntmps286,aU]) fun w0=>?_;simp only[Tryz.ntmps286,aU,pt];refine aT ?_;refine ad hd [0] [sg pb _] [] rfl km rfl (qU hI h.le) fun v I1 qs cs c9 c4=>?_;obtain⟨rfl,rfl,rfl⟩:=c4;simp only[Z3]at cs |-;rw[cB];refine dP ?_;refine ad cs [0] [sg pb _] [] rfl eB rfl (f8 (x:=kT) hI h.le) fun v I2 qs a2 a7 c3=>?_;obtain rfl:=c3;simp only[Z3]at a2 |-;have cj:=gL.le hI a7;refine aR a2 fun a2=>?_;refine bf a2 [1,0] fun a2=>?_;refine aT ?_;refine cK mixed [0,1,2,4,3,5,6,7,8,9] [] [] [1] [] [5] rfl rfl ?_;refine gw ?_;refine aE a2 [0,1] [sg pb _] [_] rfl AI rfl (dd 0 pb I2 _ _ _ _ a cj g1 trivial ha) fun v IB4 qs ct an ca=>?_;obtain⟨s4a,n4a,vk4a,rfl,g4a,rfl,hk4a,hn4a⟩:=ca;obtain⟨ka4a,kc4a,rfl,_⟩:=id hk4a;simp only[Z3]at ct |-;have hI4a:=gL.le cj an;apply au;simp only[go_sem,cG];refine aE ct [0,1] [sg pb _] [_] rfl qC rfl (Cw (wF 1) (hB 1) hI4a g4a hb.1 (fun t ht=>⟨trivial,hb.2 t ht⟩)) fun v IC4 qs b2 am ca=>?_;obtain⟨s4,n4,vk4,rfl,g4,rfl,cp,c8⟩:=ca;obtain⟨ka4,kc4,rfl,_⟩:=id cp;simp only[Z3]at b2 |-;apply au;simp only[go_sem,cG];refine nI b2 [1,0] fun b2=>?_;refine fF b2 (qE.le (Ow.nil (iS eQ) 67 6 I2) (abV an am)) (qP.two hk4a cp am) (by simp) (by exact kH) rfl rfl rfl rfl rfl rfl rfl (fun b=>⟨rfl,rfl,rfl⟩) fun b4 na4 nc4 I4 A4 a1 cd bs=>?_;refine gw ?_;refine aw ?_;refine aT ?_;refine bf a1 [1,0] fun a1=>?_;have a6:=uw an am cd;have ci:=gL.le cj a6;have k4:=abV a7 a6
 have nodes:∀u,b.p=some u->give (give [⟨8,[],((nx c ts t:Nat):Int),slot,[],tt⟩] a.l) b.l=[⟨8,[],((nx c ts t:Nat):Int),slot,[n4a,n4],tt⟩]:=fun u hu=>by
  cases cx:a.p with
  |none=>rw[hb.1 cx]at hu;cases hu
  |some w=>rw[hn4a w cx,c8 u hu];rfl
 refine XN (l:=[.bool s4.bad]) rfl (qQ a1) (.inr ⟨Ep,rfl⟩) ?_;rcases aq with ⟨ao,rfl⟩|⟨u,ao,hx,rfl⟩|⟨u,ao,hx,aq⟩
 ·rw[ao]at g4;have bc:s4.bad=true:=g4.2.1;apply RG;simp only[go_sem,bc];refine bf a1 [1,0] fun ac=>?_;refine ae ac fun IA ac aa aj=>?_;refine aT ?_;exact af rfl ac (r:=[cG ⟨8,[],(nx c ts t:Nat),slot,[n4a,n4],tt⟩ (.slice na4 2 nc4) eQ]) (by simp only[Tryz.results286,go_sem,iv,cG]) (abV k4 aa) ⟨s4,_,_,rfl,by simpa[aaT]using g4,rfl,bs.sl aa aj,fun t1 ht=>by cases ht⟩
 ·have hn:=nodes u ao;rw[ao]at g4;have bc:s4.bad=false:=g4.2.1;have b5:mB (fG c ts) s4.pos=X ts (nx c ts u):=g4.tx;have h1:(X ts (nx c ts u) == [101,108,115,101])=false:=beq_false_of_ne hx;apply RG;simp only[go_sem,bc];refine ad a1 [0,1] [sg pb _] [A4] rfl dq rfl (eN ci g4.le) fun v I5 qs bb ag b7=>?_;obtain⟨rfl,rfl⟩:=b7;simp only[Z3]at bb |-;rw[b5];apply RG;simp only[go_sem,h1,abK];refine bf bb [1,0] fun ac=>?_;refine ae ac fun IA ac aa aj=>?_;refine aT ?_;exact af rfl ac (r:=[cG ⟨8,[],(nx c ts t:Nat),slot,[n4a,n4],tt⟩ (.slice na4 2 nc4) eQ]) (by simp only[Tryz.results286,go_sem,iv,cG]) (uw k4 ag aa) ⟨s4,_,_,rfl,by simpa[aaT]using g4.nx,rfl,bs.sl (abV ag aa) aj,fun t1 ht=>hn⟩
 have hn:=nodes u ao;rw[hn]at aq;rw[ao]at g4;have bc:s4.bad=false:=g4.2.1;have b5:mB (fG c ts) s4.pos=X ts (nx c ts u):=g4.tx;have h1:(X ts (nx c ts u) == [101,108,115,101])=true:=by rw[hx];decide
 have g5:=g4.take (x:=dr) bg;rw[iL hx]at g5;simp only[aa6]at g5;have b3:mB (fG c ts) (i8 (fG c ts) (jY c ts 0) ts.length s4 dr).pos=X ts (nx c ts (nx c ts u+1)):=g5.tx;apply RG;simp only[go_sem,bc];refine ad a1 [0,1] [sg pb _] [A4] rfl dq rfl (eN ci g4.le) fun v I5 qs bb ag b7=>?_;obtain⟨rfl,rfl⟩:=b7;simp only[Z3]at bb |-;rw[b5];have cA:=gL.le ci ag;apply RG;simp only[go_sem,h1,abQ];refine ad bb [0,1] [sg pb _] [A4] rfl eB rfl (f8 (x:=dr) cA g4.le) fun v I6 qs cr a5 c2=>?_;obtain rfl:=c2;simp only[Z3]at cr |-;have cy:=gL.le cA a5;refine aT ?_;refine ad cr [0,1] [sg pb _] [A4] rfl dq rfl (eN cy g5.le) fun v I7 qs aS a4 c1=>?_;obtain⟨rfl,rfl⟩:=c1;simp only[Z3]at aS |-;rw[b3];have bd:=gL.le cy a4;have bx:I4.le I7:=uw ag a5 a4;have k7:=abV k4 bx;rcases aq with ⟨hy,a',cf,rfl⟩|⟨hy,aq⟩
 ·have h2:(X ts (nx c ts (nx c ts u+1)) == [105,102])=false:=beq_false_of_ne hy;apply RG;simp only[go_sem,h2];refine cK mixed [0,1,2,3,4,5,6,7] [] [] [1] [] [5] rfl rfl ?_;refine gw ?_;refine aE aS [0,1] [sg pb _] [_] rfl qC rfl (hB 2 pb I7 _ _ _ _ a' bd g5.nx trivial cf) fun v IC8 qs b1 ba b6=>?_;obtain⟨s8,n8,vk8,rfl,g8,rfl,cm,c7⟩:=b6;obtain⟨ka8,kc8,rfl,_⟩:=id cm;simp only[Z3]at b1 |-;apply au;simp only[go_sem,cG];refine nI b1 [1,0] fun b1=>?_;refine fF b1 (qE.le (bs.le bx) ba) (qP.one cm) (by simp) (by exact kH) rfl rfl rfl rfl rfl rfl rfl (fun b=>⟨rfl,rfl,rfl⟩) fun b8 na8 nc8 I8 A8 ak cc dk=>?_;refine gw ?_;refine aw ?_;refine aT ?_;refine bf ak [1,0] fun ak=>?_;have al:=abV ba cc;have dw:=gL.le bd al;refine bf ak [1,0] fun ac=>?_;refine ae ac fun IA ac aa aj=>?_;refine aT ?_;refine af rfl ac (r:=[cG ⟨8,[],(nx c ts t:Nat),slot,[n4a,n4,n8],tt⟩ (.slice na8 3 nc8) eQ]) (by simp only[Tryz.results286,go_sem,iv,cG]) (uw k7 al aa) ⟨s8,_,_,rfl,by simpa[aaT]using g8,rfl,dk.sl aa aj,fun t1 ht=>?_⟩;simp only;rw[c7 t1 ht];rfl
 have h2:(X ts (nx c ts (nx c ts u+1)) == [105,102])=true:=by rw[hy];decide
 apply RG;simp only[go_sem,h2];refine XN (l:=[.int .i64 (i8 (fG c ts) (jY c ts 0) ts.length s4 dr).opn]) rfl (qQ aS) (.inr ⟨jq,rfl⟩) ?_;have ds:(i8 (fG c ts) (jY c ts 0) ts.length s4 dr).opn=(o:Int):=g5.2.2.1;have c5:o<=64:=g5.2.2.2.2.2.1;rcases aq with ⟨ho,rfl⟩|⟨ho,a',cf,rfl⟩
 ·have h3:decide ((i8 (fG c ts) (jY c ts 0) ts.length s4 dr).opn>=64)=true:=abU ab;apply RG;simp only[go_sem,h3];refine ad aS [0,1] [sg pb _] [A4] rfl l4 rfl (o6 (code:=11) bd g5.le) fun v I8 qs ak al b6=>?_;obtain⟨rfl,rfl⟩:=b6;simp only[Z3]at ak |-;refine bf ak [1,0] fun ac=>?_;refine ae ac fun IA ac aa aj=>?_;refine aT ?_;exact af rfl ac (r:=[cG ⟨8,[],(nx c ts t:Nat),slot,[n4a,n4],tt⟩ (.slice na4 2 nc4) eQ]) (by simp only[Tryz.results286,go_sem,iv,cG]) (abV k7 aa) ⟨_,_,_,rfl,by simpa[aaT]using g5.fail 11 o,rfl,bs.sl (abV bx aa) aj,fun t1 ht=>by cases ht⟩
 ·have h3:decide ((i8 (fG c ts) (jY c ts 0) ts.length s4 dr).opn>=64)=false:=abT ab;apply RG;simp only[go_sem,h3];refine XN (l:=[.int .i64 (i8 (fG c ts) (jY c ts 0) ts.length s4 dr).opn]) rfl (qQ aS) (.inr ⟨jq,rfl⟩) ?_;refine aT ?_;refine bw aS rfl rfl rfl rfl rfl (by exact uZ) (by simp) fun ak=>?_;refine aT ?_;have dc:Dj [I7,sg pb (bG lv xv ts.length { i8 (fG c ts) (jY c ts 0) ts.length s4 dr with opn:=IntKind.i64.wrap ((i8 (fG c ts) (jY c ts 0) ts.length s4 dr).opn+1) }),A4]:=ak;show RC _ _ _ (U [I7,sg pb (bG lv xv ts.length { i8 (fG c ts) (jY c ts 0) ts.length s4 dr with opn:=IntKind.i64.wrap ((i8 (fG c ts) (jY c ts 0) ts.length s4 dr).opn+1) }),A4]);refine cK mixed [0,1,2,3,4,5,6,7] [] [] [1] [] [5] rfl rfl ?_;refine gw ?_;refine aE dc [0,1] [sg pb _] [_] rfl GG rfl (hR 2 pb I7 _ _ _ _ a' bd (g5.inc ho) hy cf) fun v ICC qs b0 a9 c0=>?_;obtain⟨sC,nC,vkC,rfl,gC,rfl,cl,c6⟩:=c0;obtain⟨kaC,kcC,rfl,_⟩:=id cl;simp only[Z3]at b0 |-;apply au;simp only[go_sem,cG];refine nI b0 [1,0] fun b0=>?_;refine fF b0 (qE.le (bs.le bx) a9) (qP.one cl) (by simp) (by exact kH) rfl rfl rfl rfl rfl rfl rfl (fun b=>⟨rfl,rfl,rfl⟩) fun bC naC ncC IC AC bF cb dj=>?_;refine gw ?_;refine aw ?_;refine aT ?_;refine bf bF [1,0] fun bF=>?_;have a3:=abV a9 cb;have dv:=gL.le bd a3;refine XN (l:=[.int .i64 sC.opn]) rfl (qQ bF) (.inr ⟨jq,rfl⟩) ?_;refine aT ?_;refine bw bF rfl rfl rfl rfl rfl (by exact uZ) (by simp) fun da=>?_;refine aT ?_;refine bf da [1,0] fun ac=>?_;refine ae ac fun IA ac aa aj=>?_;refine aT ?_
  refine af rfl ac (r:=[cG ⟨8,[],(nx c ts t:Nat),slot,[n4a,n4,nC],tt⟩ (.slice naC 3 ncC) eQ]) (by simp only[Tryz.results286,go_sem,iv,cG]) (uw k7 a3 aa) ⟨_,_,_,rfl,by simpa[aaT]using gC.dec,rfl,dj.sl aa aj,fun t1 ht=>?_⟩;simp only;rw[c6 t1 ht];rfl
end
open Go Go.Sx Dg Syn
section
variable {c:bP} {ts:List Syn.Tok} {lv xv:Value} {o:Nat} {e:List (Nat×Int)} {p:Option Nat} {s:PS} {pb:Nat} {I:PH} {q:PR}
variable{n i:Nat}
def MQ(h:rr c ts (n+1) (.stmt o (some i)) q)(y:X ts i=lT):rr c ts n (.vrb o (some (i+1))) q:=h.two fun r=>by
 show gM c ts r o (some i)=_;unfold gM;simp only;rw[aaq y]
def OV(h:rr c ts (n+1) (.stmt o (some i)) q)(y:X ts i=kT):rr c ts n (.branch o (some i) 0) q:=h.two fun r=>by
 show gM c ts r o (some i)=_;unfold gM;simp only;rw[y,ZV bg,aaq rfl]
def Kv(h:rr c ts (n+1) (.stmt o (some i)) q)(y:X ts i=Im):rr c ts n (.block o (some i) 0) q:=h.two fun r=>by
 show gM c ts r o (some i)=_;unfold gM;simp only;rw[y,ZV bg,ZV bg,ZV bg,aaq rfl]
def FQ(h:rr c ts (n+1) (.stmt o (some i)) q)(y:X ts i=jG):∃a b,rr c ts n (.inside o (some (i+1)) 0) a/\Xx c ts n o a.p 1 b/\q=⟨give (give [⟨9,[],(i:Nat),0,[],tt⟩] a.l) b.l,b.p,a.e++b.e⟩:=by
 obtain⟨m,hm,h1,aa⟩:=h.step;have h2:gM c ts (bS c ts m) o (some i)=some q:=h1;unfold gM at h2;simp only at h2;rw[y,ZV bg,ZV bg,aaq rfl]at h2;obtain⟨a,ha,h2⟩:=gW h2;obtain⟨b,hb,h2⟩:=gW h2;cases h2
 refine⟨a,b,aa _ _ ha,⟨fun hp=>?_,fun t ht=>?_⟩,rfl⟩
 ·rw[hp]at hb;exact PV.noneBlock ⟨m,hb⟩
 ·rw[ht]at hb;exact aa _ _ hb
def uG{o:Nat}{i g:Option Nat}{l:List Nd}{b:PR}(h:bS c ts n (.sCalls o i none l g)=some b):b=⟨l,g,[]⟩:=by
 cases n with
 |zero=>cases h
 |succ n=>cases i<;>exact(aaZ h).symm
def qr(c:bP)(ts:List Syn.Tok)(n o i:Nat)(q:PR):Prop:=
 ((aI ts c (some i) 7 0).p=none/\q=⟨(aI ts c (some i) 7 0).l,none,(aI ts c (some i) 7 0).e⟩)\/
  ∃u,(aI ts c (some i) 7 0).p=some u/\
   ((X ts (nx c ts u)=eM/\∃a,rr c ts n (.listed false o (some (nx c ts u))) a/\q=⟨[⟨19,X ts i,(i:Nat),0,a.l,tt⟩],(aW ts c a.p a8).1,(aI ts c (some i) 7 0).e++a.e++(aW ts c a.p a8).2⟩)\/
    (X ts (nx c ts u)≠eM/\∃b,((aW ts c (some u) su).1=none->b=ap)/\(∀t,(aW ts c (some u) su).1=some t->rr c ts n (.line 0 o (some t) 0) b)/\
     q=⟨give (aI ts c (some i) 7 0).l b.l,(aW ts c b.p a8).1,(aI ts c (some i) 7 0).e++(aW ts c (some u) su).2++b.e++(aW ts c b.p a8).2⟩))
def JV(h:rr c ts (n+1) (.stmt o (some i)) q)(y1:X ts i≠lT)(y2:X ts i≠kT)(y3:X ts i≠jG)(y4:X ts i≠Im)(y5:X ts i≠iH)(y6:X ts i≠jU)(y7:X ts i≠ew):qr c ts n o i q:=by
 obtain⟨m,hm,h1,ac⟩:=h.step;have h2:gM c ts (bS c ts m) o (some i)=some q:=h1;unfold gM at h2;simp only at h2;rw[ZV y1,ZV y2,ZV y3,ZV y4,ZV y5,ZV (fun h=>h.elim y6 y7)]at h2;obtain⟨b,hb,h2⟩:=gW h2;obtain⟨d,hd,h2⟩:=gW h2;cases h2
 unfold qr;cases aa:(aI ts c (some i) 7 0).p with
 |none=>
  rw[aa]at hb hd;have e1:=PV.noneLine ⟨m,hb⟩;subst e1;have e2:=uG hd;subst e2;refine .inl ⟨rfl,?_⟩;simp[ap,kF,aW,qz]
 |some u=>
  refine .inr ⟨u,rfl,?_⟩;rw[aa]at hb hd;by_cases hx:X ts (nx c ts u)=eM
  ·rw[jA (by simp[kA hx])]at hb;rw[jM (kA hx)]at hd;have e1:=PV.noneLine ⟨m,hb⟩;subst e1;cases m with
   |zero=>cases hd
   |succ m=>
    obtain⟨a,ha,hd⟩:=gW (show (bS c ts m (.listed false o (some (nx c ts u)))).bind (fun a=>some (⟨[⟨19,X ts i,(i:Nat),0,a.l,tt⟩],a.p,a.e⟩:PR))=some d from hd);cases hd
    refine .inl ⟨hx,a,⟨m,ab,ha⟩,?_⟩;rw[jA (by simp[kA hx])];simp[ap,aW]
  ·rw[jM (by simp[kD hx])]at hb;rw[jA (kD hx)]at hd;have e2:=uG hd;subst e2;rw[np]at hb;refine .inr ⟨hx,b,fun hp=>?_,fun t ht=>?_,?_⟩
   ·rw[hp]at hb;exact PV.noneLine ⟨m,hb⟩
   ·rw[ht]at hb;exact ac _ _ hb
   ·rw[jM (by simp[kD hx]),np];simp
theorem TG(hL:GL c ts lv xv (rr c ts n))(c7:GI c ts lv xv (rr c ts n))(hB:GB c ts lv xv (rr c ts n))(hV:GV c ts lv xv (rr c ts n))(hR:GR c ts lv xv (rr c ts n))(hA:GA c ts lv xv (rr c ts n)):GS c ts lv xv (rr c ts (n+1)):=by
 intro pb I s t o e q hI h _ hr hd;have cy:mB (fG c ts) s.pos=X ts (nx c ts t):=h.tx;have cA:=h.tk;refine iz Tryz.func255 rfl (by simp[Tryz.ntmps255,a0]) fun w0=>?_;simp only[Tryz.ntmps255,a0,pt];refine aT ?_;refine ad hd [0] [sg pb _] [] rfl dq rfl (eN hI h.le) fun v I1 qs a2 ag c2=>?_;obtain⟨rfl,rfl⟩:=c2;simp only[Z3]at a2 |-;rw[cy];have aS:=gL.le hI ag;by_cases y1:X ts (nx c ts t)=lT
 ·have b1:(X ts (nx c ts t) == [118,97,114])=true:=by rw[y1];decide
  apply RG;simp only[go_sem,b1];refine ad a2 [0] [sg pb _] [] rfl GW rfl (hV pb I1 _ _ _ _ q aS h y1 (MQ hr y1)) fun v I2 qs ac aa al=>?_;obtain⟨s2,n2,vk2,rfl,g2,rfl,aj,am⟩:=al;obtain⟨ka2,kc2,rfl,_⟩:=id aj;simp only[Z3]at ac |-;apply RG;simp only[go_sem,cG];exact af rfl ac (r:=[cG n2 (.slice ka2 n2.kids.length kc2) eQ]) (by simp only[Tryz.results255,go_sem,iv,cG]) (abV ag aa) ⟨s2,n2,_,rfl,g2,rfl,aj,am⟩
 have b1:(X ts (nx c ts t) == [118,97,114])=false:=beq_false_of_ne y1;by_cases y2:X ts (nx c ts t)=kT
 ·have b2:(X ts (nx c ts t) == [105,102])=true:=by rw[y2];decide
  apply RG;simp only[go_sem,b1,b2];refine ad a2 [0] [sg pb _] [] rfl GG rfl (hR 0 pb I1 _ _ _ _ q aS h y2 (OV hr y2)) fun v I2 qs ac aa al=>?_;obtain⟨s2,n2,vk2,rfl,g2,rfl,aj,am⟩:=al;obtain⟨ka2,kc2,rfl,_⟩:=id aj;simp only[Z3]at ac |-;apply RG;simp only[go_sem,cG];exact af rfl ac (r:=[cG n2 (.slice ka2 n2.kids.length kc2) eQ]) (by simp only[Tryz.results255,go_sem,iv,cG]) (abV ag aa) ⟨s2,n2,_,rfl,g2,rfl,aj,am⟩
 have b2:(X ts (nx c ts t) == [105,102])=false:=beq_false_of_ne y2;by_cases y3:X ts (nx c ts t)=jG
 ·have b3:(X ts (nx c ts t) == [119,104,105,108,101])=true:=by rw[y3];decide
  obtain⟨a,b,ha,hb,rfl⟩:=FQ hr y3;have g1:=h.take (x:=jG) bg;rw[iL y3]at g1;simp only[aa6]at g1;apply RG;simp only[go_sem,b1,b2,b3];refine ad a2 [0] [sg pb _] [] rfl km rfl (qU aS h.le) fun v I2 qs ac aa al=>?_;obtain⟨rfl,rfl,rfl⟩:=al;simp only[Z3]at ac |-;rw[cA];refine dP ?_;refine ad ac [0] [sg pb _] [] rfl eB rfl (f8 (x:=jG) aS h.le) fun v I3 qs a1 aq bC=>?_;obtain rfl:=bC;simp only[Z3]at a1 |-;have a3:=gL.le aS aq;refine aR a1 fun a1=>?_;refine bf a1 [1,0] fun a1=>?_;refine aT ?_;refine cK mixed [0,1,2,4,3,5,6,7,8,9] [] [] [1] [] [3] rfl rfl ?_;refine gw ?_;refine aE a1 [0,1] [sg pb _] [_] rfl AI rfl (c7 0 pb I3 _ _ _ _ a a3 g1 trivial ha) fun v IB4 qs cr a6 a4=>?_;obtain⟨s4a,n4a,vk4a,rfl,g4a,rfl,hk4a,hn4a⟩:=a4;obtain⟨ka4a,kc4a,rfl,_⟩:=id hk4a;simp only[Z3]at cr |-;have hI4a:=gL.le a3 a6;apply au;simp only[go_sem,cG];refine aE cr [0,1] [sg pb _] [_] rfl qC rfl (Cw (wF 1) (hB 1) hI4a g4a hb.1 (fun t ht=>⟨trivial,hb.2 t ht⟩)) fun v IC4 qs bx a5 a4=>?_;obtain⟨s4,n4,vk4,rfl,g4,rfl,cl,bF⟩:=a4;obtain⟨ka4,kc4,rfl,_⟩:=id cl;simp only[Z3]at bx |-;apply au;simp only[go_sem,cG];refine nI bx [1,0] fun bx=>?_;refine fF bx (qE.le (Ow.nil (iS eQ) 67 6 I3) (abV a6 a5)) (qP.two hk4a cl a5) (by simp) (by exact kH) rfl rfl rfl rfl rfl rfl rfl (fun b=>⟨rfl,rfl,rfl⟩) fun b4 na4 nc4 I4 A4 an cb da=>?_;refine gw ?_;refine aw ?_;refine aT ?_;refine bf an [1,0] fun an=>?_;have ak:=uw a6 a5 cb;have bd:=gL.le a3 ak;refine bf an [1,0] fun a7=>?_;refine ae a7 fun IA a7 ao cf=>?_;refine aT ?_
  refine af rfl a7 (r:=[cG ⟨9,[],(nx c ts t:Nat),0,[n4a,n4],tt⟩ (.slice na4 2 nc4) eQ]) (by simp only[Tryz.results255,go_sem,iv,cG]) (Em ag aq ak ao) ⟨s4,_,_,rfl,by simpa[aaT]using g4,rfl,da.sl ao cf,fun u hu=>?_⟩;cases cs:a.p with
  |none=>have:=hb.1 cs;subst this;cases hu
  |some w=>
   simp only;rw[hn4a w cs,bF u hu];rfl
 have b3:(X ts (nx c ts t) == [119,104,105,108,101])=false:=beq_false_of_ne y3;by_cases y4:X ts (nx c ts t)=Im
 ·have b4:(X ts (nx c ts t) == [123])=true:=by rw[y4];decide
  apply RG;simp only[go_sem,b1,b2,b3,b4];refine ad a2 [0] [sg pb _] [] rfl qC rfl (hB 0 pb I1 _ _ _ _ q aS h.nx trivial (Kv hr y4)) fun v I2 qs ac aa al=>?_;obtain⟨s2,n2,vk2,rfl,g2,rfl,aj,am⟩:=al;obtain⟨ka2,kc2,rfl,_⟩:=id aj;simp only[Z3]at ac |-;apply RG;simp only[go_sem,cG];exact af rfl ac (r:=[cG n2 (.slice ka2 n2.kids.length kc2) eQ]) (by simp only[Tryz.results255,go_sem,iv,cG]) (abV ag aa) ⟨s2,n2,_,rfl,g2,rfl,aj,am⟩
 have b4:(X ts (nx c ts t) == [123])=false:=beq_false_of_ne y4;by_cases y5:X ts (nx c ts t)=iH
 ·have b5:(X ts (nx c ts t) == [114,101,116,117,114,110])=true:=by rw[y5];decide
  apply RG;simp only[go_sem,b1,b2,b3,b4,b5];refine ad a2 [0] [sg pb _] [] rfl Bm rfl (JX hL (.inl ⟨rfl,rfl⟩) aS h y5 hr) fun v I2 qs ac aa al=>?_;obtain⟨s2,n2,vk2,rfl,g2,rfl,aj,am⟩:=al;obtain⟨ka2,kc2,rfl,_⟩:=id aj;simp only[Z3]at ac |-;apply RG;simp only[go_sem,cG];exact af rfl ac (r:=[cG n2 (.slice ka2 n2.kids.length kc2) eQ]) (by simp only[Tryz.results255,go_sem,iv,cG]) (abV ag aa) ⟨s2,n2,_,rfl,g2,rfl,aj,am⟩
 have b5:(X ts (nx c ts t) == [114,101,116,117,114,110])=false:=beq_false_of_ne y5;by_cases y6:X ts (nx c ts t)=jU
 ·have b6:(X ts (nx c ts t) == [112,114,105,110,116])=true:=by rw[y6];decide
  apply RG;simp only[go_sem,b1,b2,b3,b4,b5,b6];refine ad a2 [0] [sg pb _] [] rfl Bm rfl (JX hL (.inr (.inl ⟨rfl,rfl⟩)) aS h y6 hr) fun v I2 qs ac aa al=>?_;obtain⟨s2,n2,vk2,rfl,g2,rfl,aj,am⟩:=al;obtain⟨ka2,kc2,rfl,_⟩:=id aj;simp only[Z3]at ac |-;apply RG;simp only[go_sem,cG];exact af rfl ac (r:=[cG n2 (.slice ka2 n2.kids.length kc2) eQ]) (by simp only[Tryz.results255,go_sem,iv,cG]) (abV ag aa) ⟨s2,n2,_,rfl,g2,rfl,aj,am⟩
 have b6:(X ts (nx c ts t) == [112,114,105,110,116])=false:=beq_false_of_ne y6;by_cases y7:X ts (nx c ts t)=ew
 ·have b7:(X ts (nx c ts t) == [97,115,115,101,114,116])=true:=by rw[y7];decide
  apply RG;simp only[go_sem,b1,b2,b3,b4,b5,b6,b7];refine ad a2 [0] [sg pb _] [] rfl Bm rfl (JX hL (.inr (.inr ⟨rfl,rfl⟩)) aS h y7 hr) fun v I2 qs ac aa al=>?_;obtain⟨s2,n2,vk2,rfl,g2,rfl,aj,am⟩:=al;obtain⟨ka2,kc2,rfl,_⟩:=id aj;simp only[Z3]at ac |-;apply RG;simp only[go_sem,cG];exact af rfl ac (r:=[cG n2 (.slice ka2 n2.kids.length kc2) eQ]) (by simp only[Tryz.results255,go_sem,iv,cG]) (abV ag aa) ⟨s2,n2,_,rfl,g2,rfl,aj,am⟩
 have b7:(X ts (nx c ts t) == [97,115,115,101,114,116])=false:=beq_false_of_ne y7;have hi:=JV hr y1 y2 y3 y4 y5 y6 y7;apply RG;simp only[go_sem,b1,b2,b3,b4,b5,b6,b7];refine ad a2 [0] [sg pb _] [] rfl tC rfl (xV aS h.nx 7 0) fun v I2 qs ac aa al=>?_;obtain⟨s2,n2,rfl,g2,rfl,aj,am⟩:=al;simp only[Z3]at ac |-;have ct:=gL.le aS aa;have k2:=abV ag aa;apply RG;simp only[go_sem,cG];refine XN (l:=[.bool s2.bad]) rfl (qQ ac) (.inr ⟨Ep,rfl⟩) ?_;rcases hi with ⟨hp,rfl⟩|⟨u,hp,hi⟩
 ·rw[hp]at g2;have cd:s2.bad=true:=g2.2.1;apply RG;simp only[go_sem,cd];exact af rfl ac (r:=[cG n2 eQ eQ]) (by simp only[Tryz.results255,go_sem,iv,cG]) k2 ⟨s2,n2,_,rfl,g2,rfl,by rw[aj];exact jV.nil _,fun t' ht=>by cases ht⟩
 obtain⟨en2,ea⟩:=xh (ce c ts t) hp (am u hp);have c6:=am u hp;rw[hp,ea]at g2;simp only[aa6]at g2;have cd:s2.bad=false:=g2.2.1;have cx:mB (fG c ts) s2.pos=X ts (nx c ts u):=g2.tx;subst en2;apply RG;simp only[go_sem,cd];refine ad ac [0] [sg pb _] [] rfl dq rfl (eN ct g2.le) fun v I3 qs a1 aq bC=>?_;obtain⟨rfl,rfl⟩:=bC;simp only[Z3]at a1 |-;rw[cx];have a3:=gL.le ct aq;have k3:=abV k2 aq;rcases hi with ⟨b0,a,ha,rfl⟩|⟨b0,b,c5,c4,rfl⟩
 ·have b8:(X ts (nx c ts u) == [40])=true:=by rw[b0];decide
  apply RG;simp only[go_sem,b8];refine ad a1 [0] [sg pb _] [] rfl Hf rfl (hA pb I3 s2 _ o e a a3 g2.nx ha) fun v I4 qs an ak a4=>?_;obtain⟨s4,ks4,rfl,g4,ci,bF⟩:=a4;obtain⟨ka4,kc4,rfl,_⟩:=id ci;simp only[Z3]at an |-;have bd:=gL.le a3 ak;refine aT ?_;refine ad an [0] [sg pb _] [] rfl eB rfl (f8 (x:=a8) bd g4.le) fun v I5 qs cp bb c1=>?_;obtain rfl:=c1;simp only[Z3]at cp |-;refine aT ?_;refine af rfl cp (r:=[cG ⟨19,X ts (nx c ts t),(nx c ts t:Nat),0,ks4,tt⟩ (.slice ka4 ks4.length kc4) eQ]) (by simp only[Tryz.results255,go_sem,iv,cG]) (uw k3 ak bb) ⟨_,_,_,rfl,by simpa[ea,aaT]using g4.take (x:=a8) bg,rfl,ci.le bb,fun t' ht=>?_⟩;obtain⟨t2,h2⟩:=gS ht;simp only[bF t2 h2]
 ·have b8:(X ts (nx c ts u) == [40])=false:=beq_false_of_ne b0;have g3:=g2.take (x:=su) bg;apply RG;simp only[go_sem,b8];refine ad a1 [0] [sg pb _] [] rfl eB rfl (f8 (x:=su) a3 g2.le) fun v I4 qs an ak a4=>?_;obtain rfl:=a4;simp only[Z3]at an |-;have bd:=gL.le a3 ak;refine aR an fun an=>?_;refine bf an [1,0] fun an=>?_;refine aT ?_;refine cK mixed [0,1,2,3,4,5,6,7] [] [] [1] [] [4] rfl rfl ?_;refine gw ?_;refine aE an [0,1] [sg pb _] [_] rfl oe rfl (Cw (vY 0 0) (hL 0 0 bg) bd g3 c5 (fun t ht=>⟨trivial,c4 t ht⟩)) fun v IC6 qs bs bc c0=>?_;obtain⟨s6,n6,vk6,rfl,g6,rfl,cj,c3⟩:=c0;obtain⟨ka6,kc6,rfl,_⟩:=id cj;simp only[Z3]at bs |-;apply au;simp only[go_sem,cG];refine nI bs [1,0] fun bs=>?_;refine fF bs (qE.le (Ow.nil (iS eQ) 67 6 I4) bc) (qP.one cj) (by simp) (by exact kH) rfl rfl rfl rfl rfl rfl rfl (fun b=>⟨rfl,rfl,rfl⟩) fun b6 na6 nc6 I6 A6 cc ca c9=>?_;refine gw ?_;refine aw ?_;refine aT ?_;refine bf cc [1,0] fun cc=>?_;have ba:=abV bc ca;have c8:=gL.le bd ba;refine ad cc [0,1] [sg pb _] [A6] rfl eB rfl (f8 (x:=a8) c8 g6.le) fun v I7 qs cm a9 cB=>?_;obtain rfl:=cB;simp only[Z3]at cm |-;refine bf cm [1,0] fun a7=>?_;refine ae a7 fun IA a7 ao cf=>?_;refine aT ?_;refine af rfl a7 (r:=[cG ⟨7,X ts (nx c ts t),(nx c ts t:Nat),0,[n6],tt⟩ (.slice na6 1 nc6) eQ]) (by simp only[Tryz.results255,go_sem,iv,cG]) (Kg k3 ak ba a9 ao) ⟨_,_,_,rfl,by simpa[ea,aaT]using g6.take (x:=a8) bg,rfl,c9.sl (abV a9 ao) cf,fun t' ht=>?_⟩;obtain⟨t2,h2⟩:=gS ht;simp only;rw[c6,c3 t2 h2];rfl
end
open Go Go.Sx Dg Syn
section
variable {c:bP} {ts:List Syn.Tok} {lv xv:Value} {o:Nat} {e:List (Nat×Int)} {p:Option Nat} {s:PS} {pb:Nat} {I:PH} {q:PR}
def NJ{t u:Nat}(hu:(H7 c ts (some t)).p=some u):cn c ts t<=cn c ts u:=
 G4 (n:=3) (x:=.item true 0 (some t)) (q:=H7 c ts (some t)) ⟨1,ab,rfl⟩ trivial rfl hu
def Nl{n u:Nat}(h:rr c ts (n+1) (.function o (some u)) q):∃b d f,((aI ts c (some u) 3 0).p=none->b=ap)/\(∀t,(aI ts c (some u) 3 0).p=some t->rr c ts n (.listed true o (some t)) b)/\
  Bh c ts n true o b.p bA 1 d/\Xx c ts n o d.p 2 f/\
  q=⟨give (give (give (aI ts c (some u) 3 0).l b.l) d.l) f.l,f.p,(aI ts c (some u) 3 0).e++b.e++d.e++f.e⟩:=by
 obtain⟨m,hm,h1,aa⟩:=h.step;have h2:gY c ts (bS c ts m) o (some u)=some q:=h1;unfold gY at h2;obtain⟨b,hb,h3⟩:=gW h2;obtain⟨d,hd,h3⟩:=gW h3;obtain⟨f,hf,h3⟩:=gW h3;cases h3
 refine⟨b,d,f,fun hp=>?_,fun t ht=>?_,wZ hd ab,⟨fun hp=>?_,fun t ht=>?_⟩,rfl⟩
 ·rw[hp]at hb;exact PV.noneListed ⟨m,hb⟩
 ·rw[ht]at hb;exact aa _ _ hb
 ·rw[hp]at hf;exact PV.noneBlock ⟨m,hf⟩
 ·rw[ht]at hf;exact aa _ _ hf
def XA{n:Nat}{b:PR}{p1:Option Nat}{e1:List (Nat×Int)}(g1:Sg c ts (iB c ts s eM) p1 (o+1) e1)
  (hc:(p1=none/\((p=none/\e1=e)\/∃t k,p=some t/\e1=e++[(k,((nx c ts t:Nat):Int))]/\((X ts (nx c ts t)≠eM/\k=10)\/(X ts (nx c ts t)=eM/\o=64/\k=11))))\/∃t,p=some t/\X ts (nx c ts t)=eM/\o≠64/\p1=some (nx c ts t+1)/\e1=e)
  (hn:p=none->b=ap) (hs:∀t,p=some t->rr c ts n (.listed true o (some t)) b) :
  (pS c ts (iB c ts s eM)=fK->(∀t,b.p=some t->b.l=[])/\(aW ts c p1 fK).1=b.p/\e1++(aW ts c p1 fK).2=e++b.e)/\
  (pS c ts (iB c ts s eM)≠fK->∃m p2,m<=n/\Sg c ts (iB c ts s eM) p2 (o+1) e1/\(∀t,p2=some t->0<cn c ts t)/\∀(n':Nd) (pos:Nat),(∀u,(H7 c ts p2).p=some u->(H7 c ts p2).l=[n']/\0<pos)->J0 c ts true o b e m [n'] (H7 c ts p2).p (e1++(H7 c ts p2).e) pos):=by
 rcases hc with ⟨rfl,⟨hp,rfl⟩|⟨t',k,hp,rfl,hk⟩⟩|⟨t',hp,aa,ho,rfl,rfl⟩
 ·have:=hn hp;subst this;exact⟨fun _=>⟨fun t ht=>(by cases ht),rfl,by simp[aW,ap]⟩,fun _=>⟨0,none,aaL _,g1,fun t ht=>(by cases ht),fun n' pos hn=>⟨by simp,fun _=>⟨rfl,by simp[ap,H7,aI,aW,bI]⟩,fun t ht=>(by cases ht)⟩⟩⟩
 ·have:=xF (hs t' hp).up hk;subst this;exact⟨fun _=>⟨fun t ht=>(by cases ht),rfl,by simp[aW]⟩,fun _=>⟨0,none,aaL _,g1,fun t ht=>(by cases ht),fun n' pos hn=>⟨by simp,fun _=>⟨rfl,by simp[H7,aI,aW,bI]⟩,fun t ht=>(by cases ht)⟩⟩⟩
 ·obtain⟨h1,h2⟩:=yy (e:=e1) (hs t' hp).up aa ho;rw[g1.tx];refine⟨fun hx=>?_,fun hx=>?_⟩
  ·obtain⟨i1,i2,i3⟩:=h1 hx;exact⟨fun _ _=>i1,i2,by rw[i3]⟩
  ·obtain⟨m,a,hm,hi,hj⟩:=h2 hx;rcases hi with ⟨_,rfl⟩|⟨hi,_⟩
   ·exact⟨m,_,hm,g1.nx,fun t ht=>(by cases ht;rw[vz,l6 (gx (by rw[aa];decide))];omega),hj⟩
   ·cases hi
end
structure Xl where
 m:Nat
 va:Option Addr
 vn:Nat
 vc:Nat
def OQ(pb:Nat)(n:Nd)(x:Xl):St:=⟨dn 61 [(0,.v (pt pb)),(2,.p 2 0),(3,.p 3 0)],[⟨2,67,yK⟩,⟨3,67,[.int .u8 n.kind,.string ⟨⟨n.text⟩⟩,.int .i64 n.tok,.int .i64 n.slot,.slice x.va x.vn x.vc,.slice none 0 0]⟩]⟩
def ZE(c:bP)(ts:List Syn.Tok)(lv xv:Value)(pb o:Nat)(n:Nat)(q:PR)(e:List (Nat×Int))(I0:PH)(x:Xl)(H:PH):Prop:=
 ∃I A s' p' e' ks,H=U [I,sg pb (bG lv xv ts.length s'),A]/\Dj [I,sg pb (bG lv xv ts.length s'),A]/\I0.le I/\Sg c ts s' p' (o+1) e'/\qE I A (.slice x.va x.vn x.vc) ks/\x.vn=ks.length/\x.m<=n/\J0 c ts true o q e x.m ks p' e' s'.pos
def Zq(c:bP)(ts:List Syn.Tok)(lv xv:Value)(pb o:Nat)(q:PR)(e:List (Nat×Int))(I0:PH)(x:Xl)(H:PH):Prop:=
 ∃I A s' ks,H=U [I,sg pb (bG lv xv ts.length s'),A]/\Dj [I,sg pb (bG lv xv ts.length s'),A]/\I0.le I/\s'.pos<=(fG c ts).length/\qE I A (.slice x.va x.vn x.vc) ks/\x.vn=ks.length/\ks.length<=16385/\Sg c ts (Bb c ts s' fK) q.p o (e++q.e)/\∀t,q.p=some t->q.l=ks
section
variable {c:bP} {ts:List Syn.Tok} {lv xv:Value} {o:Nat} {e:List (Nat×Int)} {p:Option Nat} {s:PS} {pb:Nat} {I:PH} {q:PR}
theorem EB{n:Nat}(dw:GB c ts lv xv (rr c ts n)):GF c ts lv xv (rr c ts (n+1)):=by
 intro pb I s t o e q hI h cp hr hd;obtain⟨b,d,f,cA,c9,hB,hf,rfl⟩:=Nl hr;have g1:=h.take (x:=Gg) bg;rw[iL cp]at g1;simp only[aa6]at g1;refine iz Tryz.func131 rfl (by simp[Tryz.ntmps131,a0]) fun w0=>?_;simp only[Tryz.ntmps131,a0,pt];refine aT ?_;refine ad hd [0] [sg pb _] [] rfl eB rfl (f8 (x:=Gg) hI h.le) fun v I1 qs c8 b5 d2=>?_;obtain rfl:=d2;simp only[Z3]at c8 |-;have dv:=gL.le hI b5;refine aT ?_;refine ad c8 [0] [sg pb _] [] rfl tC rfl (xV dv g1 3 0) fun v I2 qs c7 b4 d1=>?_;obtain⟨s2,n2,rfl,g2,rfl,ee,c2⟩:=d1;simp only[Z3]at c7 |-;have ds:=gL.le dv b4;obtain⟨a,em⟩:∃a,aI ts c (some (nx c ts t+1)) 3 0=a:=⟨_,rfl⟩;rw[em]at g2 c2 cA c9 |-;obtain⟨p1,e1,g3,hc⟩:=sV g2 (x:=eM) bg;obtain⟨hR,hN⟩:=XA g3 hc cA c9;clear hc;apply RG;simp only[go_sem,cG];refine ad c7 [0] [sg pb _] [] rfl sf rfl (si (x:=eM) ds g2.le) fun v I3 qs c6 b3 d0=>?_;obtain rfl:=d0;simp only[Z3]at c6 |-;have dk:=gL.le ds b3;refine aT ?_;refine ad c6 [0] [sg pb _] [] rfl dq rfl (eN dk g3.le) fun v I4 qs a6 b0 dT=>?_;obtain⟨rfl,rfl⟩:=dT;simp only[Z3]at a6 |-;have dj:=gL.le dk b0;have k4:I.le I4:=Em b5 b4 b3 b0;refine aR a6 fun a6=>?_;refine bf a6 [1,0] fun a6=>?_;apply EQ (OQ pb n2) (Zq c ts lv xv pb o b (e++a.e) I4)
 ·intro hg;cases hx:(mB (fG c ts) (jL (fG c ts) (jY c ts 0) ts.length s2 eM).pos == [41])
  rotate_left
  ·obtain⟨i1,i2,i3⟩:=hR (eq_of_beq hx);have g5:=g3.leave (x:=fK) bg;rw[i2,i3]at g5;apply bL 5;simp only[go_sem,hx,abQ];exact hg ⟨0,none,0,0⟩ _ _ ⟨I4,PH.no,_,[],rfl,a6,abW _,g3.le,Ow.nil _ _ _ _,rfl,by simp,g5,i1⟩ gP (by simp only[go_sem,aa6,OQ,yK])
  obtain⟨m,p2,hm,g4,el,hj⟩:=hN (ne_of_beq_false hx);apply RG;simp only[go_sem,hx,abK];refine cK mixed [0,1,2,3,4,5,6,7] [] [] [1] [] [3] rfl rfl ?_;refine gw ?_;refine aE a6 [0,1] [sg pb _] [_] rfl Hi rfl (Gx dj g4) fun v IC7 qs cj b8 dI=>?_;obtain⟨s7,n7,vk7,rfl,g7,rfl,c4,eb⟩:=dI;obtain⟨ka7,kc7,rfl,_⟩:=id c4;simp only[Z3]at cj |-;apply au;simp only[go_sem,cG];refine nI cj [1,0] fun cj=>?_;refine fF cj (qE.le (Ow.nil (iS eQ) 67 6 I4) b8) (qP.one c4) (by simp) (by exact kH) rfl rfl rfl rfl rfl rfl rfl (fun b=>⟨rfl,rfl,rfl⟩) fun b7 na7 nc7 I7 A7 cx cs eo=>?_;refine gw ?_;refine aw ?_;refine aT ?_;refine bf cx [1,0] fun cx=>?_;have bx:=abV b8 cs;have er:=gL.le dj bx;refine aA (fun x=>x.m) (OQ pb n2) (ZE c ts lv xv pb o n b (e++a.e) I4) ⟨m,na7,1,nc7⟩ gP (by simp only[go_sem,aa6,OQ,yK]) ?_ ?_
  ·refine⟨I7,A7,s7,_,_,[n7],rfl,cx,bx,g7,eo,rfl,hm,hj n7 s7.pos fun u hu=>⟨eb u hu,?_⟩⟩;cases p2 with
   |none=>cases hu
   |some t2=>
    have h1:=NJ hu;have h2:=el t2 rfl;rw[hu]at g7;rw[g7.2.2.2.1];omega
  rintro⟨mm,va,vn,vc⟩ H ⟨I8,A8,s8,p8,e8,ks,rfl,ca,al,g8,a2,bb,ec,a3⟩ aS;simp only at a2 bb ec a3 aS;subst bb;simp only[OQ,yK];have k8:=abV k4 al;have cd:=gL.le hI k8;have fin:(p8=none\/∃t8,p8=some t8/\X ts (nx c ts t8)≠bB)->Sg c ts (Bb c ts s8 fK) b.p o (e++a.e++b.e)/\∀t,b.p=some t->b.l=ks:=fun hp=>by
   have g9:=g8.leave (x:=fK) bg;rcases hp with rfl|⟨t8,rfl,aq⟩
   ·obtain⟨b1,b2⟩:=a3.bad rfl;simp only[aW,aac,aa6]at g9;exact⟨by rw[b1,<-b2];exact g9,fun t ht=>by rw[b1]at ht;cases ht⟩
   ·obtain⟨f1,f2,f3⟩:=a3.end aq;rw[f2,f3]at g9;exact⟨g9,fun _ _=>f1⟩
  refine ll ?_;refine XN (l:=[.bool s8.bad]) rfl (qQ ca) (.inr ⟨Ep,rfl⟩) ?_;cases p8 with
  |none=>
   obtain⟨f1,f2⟩:=fin (.inl rfl);have cy:s8.bad=true:=g8.2.1;apply bL 10;simp only[go_sem,cy];exact hg ⟨0,va,ks.length,vc⟩ _ _ ⟨I8,A8,s8,ks,rfl,ca,al,g8.le,a2,rfl,a3.len,f1,f2⟩ gP (by simp only[go_sem,aa6,OQ,yK])
  |some t8=>
   have cy:s8.bad=false:=g8.2.1;have dx:mB (fG c ts) s8.pos=X ts (nx c ts t8):=g8.tx;apply RG;simp only[go_sem,cy];refine ad ca [0,1] [sg pb _] [A8] rfl dq rfl (eN cd g8.le) fun v I9 qs ba ac cm=>?_;obtain⟨rfl,rfl⟩:=cm;simp only[Z3]at ba |-;rw[dx];have cc:=gL.le cd ac;by_cases aq:X ts (nx c ts t8)=bB
   rotate_left
   ·obtain⟨f1,f2⟩:=fin (.inr ⟨t8,rfl,aq⟩);have c0:(X ts (nx c ts t8) == [44])=false:=beq_false_of_ne aq;apply bL 6;simp only[go_sem,c0];exact hg ⟨0,va,ks.length,vc⟩ _ _ ⟨I9,A8,s8,ks,rfl,ba,abV al ac,g8.le,a2.le ac,rfl,a3.len,f1,f2⟩ gP (by simp only[go_sem,aa6,OQ,yK])
   have c0:(X ts (nx c ts t8) == [44])=true:=by rw[aq];decide
   obtain⟨m',a',ep,eg,ef⟩:=a3.go aq;obtain rfl:a'=H7 c ts (some (nx c ts t8+1)):=by
    rcases eg with ⟨_,hi⟩|⟨hi,_⟩
    ·exact hi
    ·cases hi
   have gT:=g8.take (x:=bB) bg;have d3:aW ts c (some t8) bB=(some (nx c ts t8+1),[]):=iL aq;rw[d3]at gT;simp only[aa6]at gT;apply RG;simp only[go_sem,c0];refine ad ba [0,1] [sg pb _] [A8] rfl eB rfl (f8 (x:=bB) cc g8.le) fun v IB qs a9 ak cl=>?_;obtain rfl:=cl;simp only[Z3]at a9 |-;have a7:=gL.le cc ak;refine aT ?_;refine cK mixed [0,1,2,3,4,5,6,7] [] [] [1] [] [3] rfl rfl ?_;refine gw ?_;refine aE a9 [0,1] [sg pb _] [_] rfl Hi rfl (Gx a7 gT) fun v ICC qs aj ag bc=>?_;obtain⟨sC,nC,vkC,rfl,gC,rfl,a1,bd⟩:=bc;obtain⟨kaC,kcC,rfl,_⟩:=id a1;simp only[Z3]at aj |-;apply au;simp only[go_sem,cG];refine nI aj [1,0] fun aj=>?_;refine fF aj (qE.le (a2.le (abV ac ak)) ag) (qP.one a1) (by have:=a3.len;omega) (by exact kH) rfl rfl rfl rfl rfl rfl rfl (fun b=>⟨rfl,rfl,rfl⟩) fun bC naC ncC IC AC ao an cf=>?_;refine gw ?_;refine aw ?_;refine aT ?_;refine bf ao [1,0] fun ao=>?_;have aa:=abV ag an;have dd:=gL.le a7 aa;have c1:=g8.le;have ed:=hI.len;refine aS ⟨m',naC,ks.length+1,ncC⟩ _ _ dt (bJ (by simp only[go_sem,aa6,iv,pt,aa9,aaJ])) (by simp only[go_sem,aa6,OQ,yK,aa9,aaJ]) ⟨IC,AC,sC,_,_,ks++[nC],rfl,ao,Em al ac ak aa,gC,by simpa using cf,by simp,by simp only;omega,ef nC sC.pos ab fun u hu=>⟨bd u hu,?_⟩⟩;have h1:=NJ hu;rw[hu]at gC;have h3:=gT.2.2.2.1;have h4:=l6 (c:=c) (gx (show X ts (nx c ts t8)≠[] by rw[aq];decide));have h5:=g8.2.2.2.1;rw[gC.2.2.2.1];omega
 rintro⟨mm,va,vn,vc⟩ H ⟨I8,A8,s8,ks,rfl,ca,al,c1,a2,bb,eq,g9,f9⟩;simp only at a2 bb;subst bb;simp only[OQ,yK];have k8:=abV k4 al;have cd:=gL.le hI k8;refine ll ?_;refine ad ca [0,1] [sg pb _] [A8] rfl oD rfl (n9 (x:=fK) cd c1) fun v I9 qs ba ac cm=>?_;obtain rfl:=cm;simp only[Z3]at ba |-;have cc:=gL.le cd ac;refine aT ?_;refine ad ba [0,1] [sg pb _] [A8] rfl dq rfl (eN cc g9.le) fun v IB qs a9 ak cl=>?_;obtain⟨rfl,rfl⟩:=cl;simp only[Z3]at a9 |-;have a7:=gL.le cc ak;have kB:I8.le IB:=abV ac ak;have pre:∀t1,d.p=some t1->∃t2,b.p=some t2:=fun t1 ht=>by
  rcases hB with ⟨_,rfl⟩|⟨u,h1,_⟩|⟨u,h1,_⟩
  ·cases ht
  ·exact⟨u,h1⟩
  ·exact⟨u,h1⟩
 have nodes:∀t1,d.p=some t1->give a.l b.l=[{ n2 with kids:=ks }]:=fun t1 ht=>by
  obtain⟨t2,h2⟩:=pre t1 ht;rw[f9 t2 h2];cases cb:a.p with
  |none=>have:=cA cb;subst this;cases h2
  |some u=>
   rw[c2 u cb];show [{ n2 with kids:=n2.kids++ks }]=_;rw[ee];rfl
 have pred:∀t1,f.p=some t1->∃t2,d.p=some t2:=fun t1 ht=>by
  cases ei:d.p with
  |none=>have:=hf.1 ei;subst this;cases ht
  |some u=>exact⟨u,rfl⟩
 cases hx:(mB (fG c ts) (Fu (fG c ts) (jY c ts 0) ts.length s8 fK).pos == [58])
 ·obtain⟨g6,f6⟩:=hB.no g9 (ne_of_beq_false hx);apply RG;simp only[go_sem,hx];refine cK mixed [0,1,2,3,4,5,6,7] [] [] [1] [] [3] rfl rfl ?_;refine gw ?_;refine aE a9 [0,1] [sg pb _] [_] rfl qC rfl (Cw (wF 2) (dw 2) a7 g6 hf.1 (fun t ht=>⟨trivial,hf.2 t ht⟩)) fun v ICC qs aj ag bc=>?_;obtain⟨sC,nC,vkC,rfl,gC,rfl,a1,bd⟩:=bc;obtain⟨kaC,kcC,rfl,_⟩:=id a1;simp only[Z3]at aj |-;apply au;simp only[go_sem,cG];refine nI aj [1,0] fun aj=>?_;refine fF aj (qE.le (a2.le kB) ag) (qP.one a1) ab (by exact kH) rfl rfl rfl rfl rfl rfl rfl (fun b=>⟨rfl,rfl,rfl⟩) fun bC naC ncC IC AC ao an cf=>?_;refine gw ?_;refine aw ?_;refine aT ?_;refine bf ao [1,0] fun ao=>?_;have aa:=abV ag an;have dd:=gL.le a7 aa;refine bf ao [1,0] fun a5=>?_;refine ae a5 fun IE a5 am cB=>?_;refine aT ?_;refine af rfl a5 (r:=[cG { n2 with kids:=ks++[nC] } (.slice naC (ks++[nC]).length ncC) eQ]) (by simp only[Tryz.results131,go_sem,iv,cG]) (Em k8 kB aa am) ⟨_,_,_,rfl,by simpa[aaT]using gC,rfl,cf.sl am cB,fun t1 ht=>?_⟩;obtain⟨t2,h2⟩:=pred t1 ht;simp only;rw[nodes t2 h2,f6,bd t1 ht,kF];rfl
 ·obtain⟨p2,g6,_,_,f3⟩:=hB.yes g9 bg (eq_of_beq hx);have ek:=f3 rfl;subst ek;apply RG;simp only[go_sem,hx];refine ad a9 [0,1] [sg pb _] [A8] rfl eB rfl (f8 (x:=bA) a7 g9.le) fun v ID qs c5 a4 dA=>?_;obtain rfl:=dA;simp only[Z3]at c5 |-;have dc:=gL.le a7 a4;refine aT ?_;refine cK mixed [0,1,2,3,4,5,6,7] [] [] [1] [] [3] rfl rfl ?_;refine gw ?_;refine aE c5 [0,1] [sg pb _] [_] rfl Bk rfl (Ba dc g6 1) fun v ICF qs ci b6 dy=>?_;obtain⟨sF,nF,vkF,rfl,gF,rfl,c3,ea⟩:=dy;obtain⟨kaF,kcF,rfl,_⟩:=id c3;simp only[Z3]at ci |-;apply au;simp only[go_sem,cG];refine nI ci [1,0] fun ci=>?_;refine fF ci (qE.le (a2.le (abV kB a4)) b6) (qP.one c3) ab (by exact kH) rfl rfl rfl rfl rfl rfl rfl (fun b=>⟨rfl,rfl,rfl⟩) fun bF naF ncF IF AF ct cr en=>?_;refine gw ?_;refine aw ?_;refine aT ?_;refine bf ct [1,0] fun ct=>?_;have bs:=abV b6 cr;have da:=gL.le dc bs;refine cK mixed [0,1,2,3,4,5,6,7] [] [] [1] [] [3] rfl rfl ?_;refine gw ?_;refine aE ct [0,1] [sg pb _] [_] rfl qC rfl (Cw (wF 2) (dw 2) da gF hf.1 (fun t ht=>⟨trivial,hf.2 t ht⟩)) fun v ICC qs aj ag bc=>?_;obtain⟨sC,nC,vkC,rfl,gC,rfl,a1,bd⟩:=bc;obtain⟨kaC,kcC,rfl,_⟩:=id a1;simp only[Z3]at aj |-;apply au;simp only[go_sem,cG];refine nI aj [1,0] fun aj=>?_;refine fF aj (qE.le en ag) (qP.one a1) (by simp only[aa9,aaJ];omega) (by exact kH) rfl rfl rfl rfl rfl rfl rfl (fun b=>⟨rfl,rfl,rfl⟩) fun bC naC ncC IC AC ao an cf=>?_;refine gw ?_;refine aw ?_;refine aT ?_;refine bf ao [1,0] fun ao=>?_;have aa:=abV ag an;have dd:=gL.le da aa;refine bf ao [1,0] fun a5=>?_;refine ae a5 fun IE a5 am cB=>?_;refine aT ?_
  refine af rfl a5 (r:=[cG { n2 with kids:=ks++[nF]++[nC] } (.slice naC (ks++[nF]++[nC]).length ncC) eQ]) (by simp only[Tryz.results131,go_sem,iv,cG]) (Tq k8 kB a4 bs aa am) ⟨_,_,_,rfl,by simpa[aaT]using gC,rfl,cf.sl am cB,fun t1 ht=>?_⟩;obtain⟨t2,h2⟩:=pred t1 ht;simp only;rw[nodes t2 h2,ea t2 h2,bd t1 ht];rfl
end
open Go Go.Sx Dg Syn
section
variable {c:bP} {ts:List Syn.Tok} {o:Nat} {e:List (Nat×Int)} {s:PS}
end
open Go Go.Sx Dg Syn
section
variable {c:bP} {ts:List Syn.Tok} {lv xv:Value} {o:Nat} {e:List (Nat×Int)} {p:Option Nat} {s:PS} {pb:Nat} {I:PH} {q:PR}
structure ZJ(c:bP)(ts:List Syn.Tok)(lv xv:Value)(n:Nat):Prop where
 u:GU c ts lv xv (rr c ts n)
 l:GL c ts lv xv (rr c ts n)
 i:GI c ts lv xv (rr c ts n)
 b:GB c ts lv xv (rr c ts n)
 v:GV c ts lv xv (rr c ts n)
 f:GF c ts lv xv (rr c ts n)
 s:GS c ts lv xv (rr c ts n)
 r:GR c ts lv xv (rr c ts n)
 a:GA c ts lv xv (rr c ts n)
def XO:∀n:Nat,ZJ c ts lv xv n
 |0=>⟨fun _ _ _ _ _ _ _ _ _ _ _ h=>(NM h).elim,YS,fun _ _ _ _ _ _ _ _ _ _ _ h=>(NM h).elim,fun _ _ _ _ _ _ _ _ _ _ _ h=>(NM h).elim,fun _ _ _ _ _ _ _ _ _ _ h=>(NM h).elim,fun _ _ _ _ _ _ _ _ _ _ h=>(NM h).elim,fun _ _ _ _ _ _ _ _ _ _ h=>(NM h).elim,fun _ _ _ _ _ _ _ _ _ _ _ h=>(NM h).elim,fun _ _ _ _ _ _ _ _ _ h=>(NM h).elim⟩
 |n+1=>by
  have h:=XO n;exact⟨Pj h.u h.i h.a,Om h.u h.l,ML h.l,PT h.s,VN h.l,EB h.b,TG h.l h.i h.b h.v h.r h.a,Km h.i h.b h.r,Ti h.l⟩
end
section
variable {c:bP} {ts:List Syn.Tok} {lv xv:Value} {o:Nat} {e:List (Nat×Int)} {p:Option Nat} {s:PS} {pb:Nat} {I:PH} {q:PR}
end
open Go Go.Sx Dg Syn
def Sr:aO Tryz.prog 95:=⟨_,Tryz.func95,rfl,rfl⟩
def PG:aO Tryz.prog 164:=⟨_,Tryz.func164,rfl,rfl⟩
def PQ:aO Tryz.prog 165:=⟨_,Tryz.func165,rfl,rfl⟩
def Gn:aO Tryz.prog 166:=⟨_,Tryz.func166,rfl,rfl⟩
def Pf:aO Tryz.prog 234:=⟨_,Tryz.func234,rfl,rfl⟩
def Mq:Tryz.prog.underlying 34=some (.slice 80):=by obtain⟨i,z,h,_⟩:=vP;exact h
variable{l:List cO}{v:Value}
def L8{I:PH}(hS:Sl eG I v l)(hl:l.length<=aN):aK Tryz.prog 165 #[v] I [] fun r I2 qs=>∃A,qs=[A]/\eF I2 A r l:=by
 intro hd;obtain⟨fa,fc,rfl,aj⟩:=id hS;unfold aN at hl;refine ah 8 Tryz.func165 fun w0=>?_;cases fa with
 |none=>
  have ak:l=[]:=by
   rcases aj with h|⟨b,off,xs,e,_⟩
   ·exact h
   ·cases e
  subst ak;refine aT ?_;refine nG rfl rfl (by exact Mq) rfl rfl ?_;apply RG;simp only[go_sem,Option.isNone];refine aR hd fun ag=>?_;exact af rfl ag (r:=[_]) rfl (abW _) ⟨_,rfl,Ow.nil _ _ _ _⟩
 |some a=>
  refine aT ?_;refine nG rfl rfl (by exact Mq) rfl rfl ?_;apply RG;simp only[go_sem,Option.isNone];refine fx hd (by exact vP) rfl rfl rfl rfl rfl bg fun b A ag aa=>?_;refine aT ?_;refine bl ag (by exact vP) (xs:=([]:List cO)) (R:=eG) ⟨[],aa,rfl⟩ hS (fun{I J c a} h k=>eG.le h k) (fun{I} c a h=>eG.len c a h) (fun{I} c a h=>eG.ones h) rfl rfl rfl rfl (by simp only[aaO];omega) (by simp only[aaO];unfold maxLen;omega) fun na nc I2 A2 al ac am=>?_;apply RG;simp only[go_sem,aaA];exact af rfl al (r:=[_]) rfl ac ⟨_,rfl,am⟩
def NK{I H:PH}{c:List Value}{d:cO}(h:eG I c d):bO Tryz.prog 166 #[.agg c.toArray] H fun v H2=>v=.bool (decide (d.cond=ff))/\H2=H:=by
 obtain⟨a,k,rfl,hr⟩:=h;refine ah 6 Tryz.func166 fun w0=>?_
 try simp only[sD,rD,iv]
 refine lY ?_;refine WZ rfl jt (gO hr) fun v H2 hv=>?_;obtain⟨rfl,rfl⟩:=hv;refine aT ?_;exact aJ (r:=[_]) rfl ⟨rfl,rfl⟩
def Wr(v vf:Value)(n i:Nat):St:=⟨dn 19 [(0,.v v),(1,.v vf),(6,.v v),(7,.v (iv n)),(8,.v (iv i))],[]⟩
def Y4(l:List cO)(r:Value):Prop:=(∀d∈l,d.cond≠ff)/\r=.int .i64 (-1)\/∃i d,l[i]?=some d/\d.cond=ff/\(∀x∈l.take i,x.cond≠ff)/\r=iv i
def Q5{I A:PH}(hA:eF I A v l)(hl:l.length<=aN):aK Tryz.prog 234 #[v,.func (.func 166) #[] #[]] I [A] fun r I2 qs=>qs=[A]/\I2=I/\Y4 l r:=by
 intro hd;unfold aN at hl;obtain⟨va,vc,rfl⟩:=hA.shape;refine ah 19 Tryz.func234 fun w0=>?_;refine aT ?_;refine aA (fun i=>l.length-i) (Wr (.slice va l.length vc) (.func (.func 166) #[] #[]) l.length) (fun i H=>H=U [I,A]/\i<=l.length/\∀x∈l.take i,x.cond≠ff) 0 bM (by simp only[go_sem,aa6,Wr]) ?_ ?_
 ·exact⟨rfl,aaL _,fun x hx=>by simp at hx⟩
 rintro i H ⟨rfl,hi,hn⟩ aa;simp only[Wr];rcases aaf i l.length with aj|am
 ·have h9:decide ((i:Int)<(l.length:Int))=true:=abU ab;have e1:IntKind.i64.wrap ((i:Int)+1)=((i+1:Nat):Int):=by rw[<-wrap64 (n:=i+1) ab];congr 1
  obtain⟨d,ag⟩:∃d,l[i]?=some d:=⟨_,aak aj⟩;obtain⟨g,cap,cur,c,ev,rfl,c1,c2,hc,al,ac,_⟩:=hA.elem (fun{I} c a h=>eG.len c a h) (fun{I J c a} h k=>eG.le h k) ag;cases ev
  apply RG;simp only[go_sem,iv,h9];refine⟨ab,?_⟩;refine XN (l:=c) (v:=.agg c.toArray) rfl (by simpa using cellsU hd (.tail _ (.head _)) ac) (.inl ⟨by rw[al];exact lW,rfl⟩) ?_;refine dP ?_;refine WZ rfl Gn (NK hc) fun v H2 hv=>?_;obtain⟨rfl,rfl⟩:=hv;cases hb:decide (d.cond=ff)
  ·apply RG;simp only[go_sem,iv,e1];have ak:d.cond≠ff:=abN hb;exact aa (i+1) _ _ ab bM (by simp only[go_sem,aa6,Wr]) ⟨rfl,aj,fun x hx=>by
    rw[db ag]at hx;rcases List.mem_append.1 hx with h|h
    ·exact hn x h
    ·rw[List.mem_singleton.1 h];exact ak⟩
  ·refine dP ?_;exact af rfl hd (r:=[iv i]) rfl (abW _) ⟨rfl,rfl,.inr ⟨i,d,ag,abl hb,hn,rfl⟩⟩
 ·have:i=l.length:=by omega
  subst this;have h9:=Z6 l.length;rw[aaS]at hn;apply RG;simp only[go_sem,iv,h9];exact af rfl hd (r:=[.int .i64 (-1)]) rfl (abW _) ⟨rfl,rfl,.inl ⟨hn,rfl⟩⟩
def mZ(l:List cO):List cO:=l.filter fun d=>decide (d.cond≠ff)
def uA(a b:List cO):mZ (a++b)=mZ a++mZ b:=List.filter_append ..
def zd(h:∀d∈l,d.cond≠ff):mZ l=l:=List.filter_eq_self.2 fun d hd=>abU (h d hd)
def V1(v vf:Value)(i j:Nat):St:=⟨dn 42 [(0,.v v),(1,.v vf),(5,.v (iv i)),(6,.v (iv j))],[]⟩
def Ow.short{α:Type}{R:PH->List Value->α->Prop}{e:TypeId}{size:Nat}{I:PH}{g cap:Nat}{cur:Array Value}{l:List α}{ys:List Value}{i n:Nat}(h:Ow R e size I (sg g (.cells cur e (0,0))) (.slice (some ⟨g,0,none⟩) n cap) l)(hR:∀{I} c a,R I c a->c.length=size)(aj:l.length=n)(hn:0<n)(hi:i<=n)(hy:ys.length=(n-i)*size):
  Ow R e size I (sg g (.cells (br cur.toList (i*size) ys).toArray e (0,0))) (.slice (some ⟨g,0,none⟩) i cap) (l.take i):=by
 subst aj;obtain⟨g',cap',cur',xs,ev,eA,c1,c2,c3,c4,c5,ag⟩:=h.open' hn fun c a k=>hR c a k;cases ev
 have eo:(.cells cur e (0,0):Obj)=.cells cur' e (0,0):=by
  have:=congrFun eA g;simp only[sg,ZT,ZW]at this;exact this
 cases eo
 have an:l.length*size<=cap*size:=aaQ _ c1;have ak:i*size<=l.length*size:=aaQ _ hi;have ac:=(LR.split (fun c a k=>hR c a k) i ag).1;have am:i*size+(l.length-i)*size=l.length*size:=by rw[<-aaP];congr 1;omega
 have aa:(xs.take (i*size)).length=i*size:=by rw[abF,c5];omega
 have al:(br cur.toList (i*size) ys).toArray.size=cap*size:=by simp[aX,c3]
 refine⟨xs.take (i*size),?_,ac⟩;rw[abF,aaN hi];refine mh.of_sg aa ab c2 al ?_;show (br cur.toList (i*size) ys).take (i*size)=_;rw[fE _ _ _ (by simp only[hZ];omega),<-c4];rw[aaT,List.take_left' (by simp only[abF,hZ];omega),aa4,aaN ak]
theorem ME{I A:PH}(hA:eF I A v l)(hl:l.length<=aN):aK Tryz.prog 164 #[v,.func (.func 166) #[] #[]] I [A] fun r I2 qs=>∃A2,qs=[A2]/\I2=I/\eF I A2 r (mZ l):=by
 intro hd;have bb:=hl;unfold aN at bb;obtain⟨va,vc,rfl⟩:=hA.shape;refine ah 42 Tryz.func164 fun w0=>?_;refine aT ?_;refine ad hd [0] [A] [] rfl Pf rfl (Q5 hA hl) fun v I2 qs a1 ba hq=>?_;obtain⟨rfl,rfl,hq⟩:=hq;simp only[Z3]at a1 |-;rcases hq with ⟨hn,rfl⟩|⟨i0,d0,a4,bc,hn,rfl⟩
 ·refine aT ?_;exact af rfl a1 (r:=[_]) rfl (abW _) ⟨A,rfl,rfl,by rw[zd hn];exact hA⟩
 have an:=(List.getElem?_eq_some_iff.1 a4).1;have q1:((i0:Int) == -1)=false:=by rw[abS];omega
 have e1:IntKind.i64.wrap ((i0:Int)+1)=((i0+1:Nat):Int):=by rw[<-wrap64 (n:=i0+1) ab];congr 1
 obtain⟨g0,rfl⟩:∃g0,va=some ⟨g0,0,none⟩:=by
  obtain⟨g,cap,cur,xs,ev,_⟩:=hA.open' ab fun c a k=>eG.len c a k;simp only[Value.slice.injEq]at ev;exact⟨g,ev.1⟩
 apply RG;simp only[go_sem,iv,q1,e1];refine aA (fun x=>l.length-x.2) (fun x=>V1 (.slice (some ⟨g0,0,none⟩) l.length vc) (.func (.func 166) #[] #[]) x.1 x.2) (fun(x:Nat×Nat) H=>∃B m,H=U [I2,B]/\Dj [I2,B]/\m.length=l.length/\eF I2 B (.slice (some ⟨g0,0,none⟩) l.length vc) m/\x.1<x.2/\x.2<=l.length/\m.take x.1=mZ (l.take x.2)/\m.drop x.2=l.drop x.2) (i0,i0+1) bM (by simp only[go_sem,aa6,V1]) ?_ ?_
 ·refine⟨A,l,rfl,a1,rfl,hA,aba _,an,?_,rfl⟩;simp only;rw[db a4,uA,zd hn];simp[mZ,bc]
 rintro⟨i,j⟩ H ⟨B,m,rfl,ak,am,hB,a3,hj,ht,aj⟩ aa;simp only at a3 hj ht aj;simp only[V1];rcases aaf j l.length with ao|bF
 ·have a2:decide ((j:Int)<(l.length:Int))=true:=abU ab;have w1:IntKind.i64.wrap ((j:Int)+1)=((j+1:Nat):Int):=by rw[<-wrap64 (n:=j+1) ab];congr 1
  have w2:IntKind.i64.wrap ((i:Int)+1)=((i+1:Nat):Int):=by rw[<-wrap64 (n:=i+1) ab];congr 1
  obtain⟨d,aq⟩:∃d,l[j]?=some d:=⟨_,aak ao⟩;have a9:m[j]?=some d:=by
   have:=congrArg (fun x:List cO=>x[0]?) aj;simpa[aq]using this
  obtain⟨g,cap,cur,c,ev,rfl,c1,c2,hc,b2,ag,a7⟩:=hB.elem (fun{I} c a h=>eG.len c a h) (fun{I J c a} h k=>eG.le h k) a9;simp only[Value.slice.injEq,ZW,Addr.mk.injEq,abC]at ev;obtain⟨eg,_,ek⟩:=ev;subst eg;subst ek;obtain⟨ca,ck,rfl,b1⟩:=id hc;apply RG;simp only[go_sem,iv,a2];refine⟨ab,?_⟩;refine XN (l:=[.int .u8 d.code,.int .i64 d.tok,sD ca ck d.cond,rD d.cond]) (v:=.agg #[.int .u8 d.code,.int .i64 d.tok,sD ca ck d.cond,rD d.cond]) rfl (by simpa using cellsU ak (.tail _ (.head _)) ag) (.inl ⟨lW,rfl⟩) ?_;refine lY ?_;refine WZ rfl Gn (NK hc) fun v H2 hv=>?_;obtain⟨rfl,rfl⟩:=hv;cases hb:decide (d.cond=ff)
  ·have al:d.cond≠ff:=abN hb;refine lY ?_;refine⟨ab,?_⟩;have mi:(i+1)*4<=m.length*4:=aaQ _ ab;refine bw ak rfl rfl rfl rfl rfl (by exact yM) (by simp;omega) fun aS=>?_;apply RG;simp only[go_sem,iv,w1,w2];have hi:i<m.length:=by omega
   obtain⟨y,hy⟩:∃y,m[i]?=some y:=⟨_,aak hi⟩;obtain⟨g',cap',cur',c',ev',eA,_,_,_,_,_,ac⟩:=hB.elem (fun{I} c a h=>eG.len c a h) (fun{I J c a} h k=>eG.le h k) hy;simp only[Value.slice.injEq,ZW,Addr.mk.injEq,abC]at ev';obtain⟨eg',_,ek'⟩:=ev';subst eg';have ec:cur=cur':=by
    have:=congrFun eA g0;simp only[sg,ZT,ZW,Obj.cells.injEq,abC,true_and]at this;exact this
   subst ec;have bd:=ac I2 [.int .u8 d.code,.int .i64 d.tok,sD ca ck d.cond,rD d.cond] d (abW _) hc;refine aa (i+1,j+1) _ _ dt bM (by simp only[go_sem,aa6,V1]) ⟨_,m.set i d,rfl,aS,by rw[aa0];exact am,bd,by simp only;omega,ao,?_,?_⟩
   ·simp only;rw[db aq,uA,<-ht];have:(m.set i d)[i]?=some d:=List.getElem?_set_self hi;rw[db this,List.take_set_of_le (ZR i)];simp[mZ,al]
   ·simp only;rw[List.drop_set_of_lt ab];rw[<-aa3 (i:=1) (j:=j),<-aa3 (i:=1) (j:=j),aj]
  ·have al:d.cond=ff:=abl hb;apply RG;simp only[go_sem,iv,sD,rD,w1];refine aa (i,j+1) _ _ dt bM (by simp only[go_sem,aa6,V1]) ⟨_,m,rfl,ak,am,hB,by simp only;omega,ao,?_,?_⟩
   ·simp only;rw[db aq,uA,<-ht];simp[mZ,al]
   ·simp only;rw[<-aa3 (i:=1) (j:=j),<-aa3 (i:=1) (j:=j),aj]
 ·have:j=l.length:=by omega
  subst this;have a2:=Z6 l.length;rw[aaS]at ht;have bs:=hB;obtain⟨g,cap,cur,xs,ev,rfl,c1,c2,c3,c4,c5,bx⟩:=hB.open' ab fun c a k=>eG.len c a k;simp only[Value.slice.injEq,ZW,Addr.mk.injEq,abC]at ev;obtain⟨eg,_,ek⟩:=ev;subst eg;subst ek;have b0:l.length*4<=vc*4:=aaQ _ ab;have bC:i*4+(l.length-i)*4=l.length*4:=by rw[<-aaP];congr 1;omega
  have a6:sO (some ⟨g0,0,none⟩) 4 i vc=some ⟨g0,i*4,none⟩:=by
   have:¬vc=i:=by omega
   simp[sO,this,Addr.add];intro h;omega
  have sl0:sO (some ⟨g0,0,none⟩) 4 0 vc=some ⟨g0,0,none⟩:=by simp[sO,Addr.add]
  apply RG;simp only[go_sem,iv,a2,a6];refine⟨ab,?_⟩;refine Ir (off:=i*4) ak (by exact Mq) (by exact Wh) (size:=4) rfl rfl rfl rfl (by rfl) ab fun ys a5 aS=>?_;apply RG;simp only[go_sem,iv,sl0];refine⟨ab,?_⟩;apply RG;simp only[go_sem,iv,sl0];have hS:=bs.short (fun{I} c a h=>eG.len c a h) am ab (aar a3) a5;rw[ht]at hS;exact af rfl aS (r:=[_]) rfl (abW _) ⟨_,rfl,rfl,hS⟩
end Go.Proofs.YtfaclfkpnmcmlaaGreatDoor
