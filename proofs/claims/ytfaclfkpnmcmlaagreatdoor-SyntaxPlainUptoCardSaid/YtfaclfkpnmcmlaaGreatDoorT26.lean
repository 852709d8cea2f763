import Derived.Test.YtfaclfkpnmcmlaaGreatDoorT11
import Derived.Test.YtfaclfkpnmcmlaaGreatDoorT18
import Derived.Test.YtfaclfkpnmcmlaaGreatDoorT19
import Derived.Test.YtfaclfkpnmcmlaaGreatDoorT22
import Derived.Test.YtfaclfkpnmcmlaaGreatDoorT24
import Derived.Test.YtfaclfkpnmcmlaaGreatDoorT25
import Derived.Laws.StructEq
set_option maxHeartbeats 8000000
set_option linter.all false
open Go.Proofs.Tryz
namespace Go.Proofs.YtfaclfkpnmcmlaaGreatDoor
open Go Go.Sx Dg Syn
def DS{K:Type}[DecidableEq K](lt:K->K->Bool)(k:K):∀l:List K,(vI lt k l).length<=l.length+1
 | []=>ZR _
 |y::l=>by
  have:=DS lt k l;simp only[vI];split
  ·simp
  ·split
   ·simp only[aaj];omega
   ·simp
def zJ{K:Type}[DecidableEq K](lt:K->K->Bool):∀l:List K,(pZ lt l).length<=l.length
 | []=>ZR _
 |y::l=>by
  have h1:=zJ lt l;have h2:=DS lt y (pZ lt l);show (vI lt y (pZ lt l)).length<=_;simp only[aaj];omega
def Rb(e:List cO):(Eo e).length<=e.length:=by
 unfold Eo Un;rw[aah];refine ZS (zJ _ _) ?_;rw[aah];exact List.length_filter_le ..
def Ub(t:Tr):Prop:=du t.kids<=aN/\t.diags.length<=aN
theorem Ub.prj{t:Tr}(c:Nat)(h:Ub t):Ub (prj (ch c) t):=⟨ZS (BH _ _) h.1,by
 have h2:((t.diags.filter fun d=>d.cond.at' (ch c)).map fun d=>{ d with cond:=tt }).length<=t.diags.length:=by
  rw[aah];exact List.length_filter_le ..
 exact ZS h2 h.2⟩
def Xs(ts:List Tok)(w:T)(r:Value)(I2:PH):Prop:=∃t,Rx (ts.map refit) w t/\He I2 r t/\Ub t
structure uL(I:PH)(v:Value)(ts:List Tok):Prop where
 sh:∃lv ga gn gc,v=.agg #[lv,.slice ga gn gc]/\Sl dz I lv ts
 ok:bT ts
 len:ts.length<=16384
 txt:∀t∈ts,t.text.length<2^40
variable{ts:List Tok}{v:Value}{I J:PH}
def uL.le(h:uL I v ts)(k:I.le J):uL J v ts:=
 ⟨let ⟨lv,ga,gn,gc,e,hs⟩:=h.sh;⟨lv,ga,gn,gc,e,Sl.le (R:=dz) (fun{I J c a} h k=>dz.le h k) hs k⟩,h.ok,h.len,h.txt⟩
def ns(h:bT ts):bT (ts.map refit):=fun t ht=>by
 obtain⟨s,hs,rfl⟩:=List.mem_map.1 ht;exact h s hs
def Pe(h:∀t∈ts,t.text.length<2^40)(i:Nat):(X (ts.map refit) i).length<4611686018427387904:=by
 unfold X cQ;split
 ·rename_i t ht;split
  ·obtain⟨s,hs,rfl⟩:=List.mem_map.1 (aaV ht);have:=h s hs;show s.text.length<_;omega
  ·simp
 ·simp
theorem DB{vd:Value}{w:T}(hV:ir I)(hT:uL I v ts)(hW:cX I vd w)(b5:∀r,run (ts.map refit) iW (.seqL true 0 [(0,w)] [] [])=some r->p7 (pI r)=true/\(mZ r.e).length<=1):aK prog 22 #[v,vd] I [] fun r I2 qs=>qs=[]/\Xs ts w r I2:=by
 obtain⟨⟨lv,ga,gn,gc,rfl,hS⟩,a2,hl,hx⟩:=hT;obtain⟨la,lc,rfl,_⟩:=id hS;obtain⟨wa,wk,rfl⟩:=hW.shape2;intro hd;refine ah 39 func22 fun w0=>?_
 try simp only[sD,rD,iv]
 refine aT ?_;refine WZ rfl jt (gO (hW.le (cP hd))) fun v H2 hv=>?_;obtain⟨rfl,rfl⟩:=hv;cases b6:decide (w=.lf false)
 rotate_left
 ·have cm:w=ff:=by simpa using b6
  refine aT ?_;exact af rfl hd (r:=[.agg #[.slice none 0 0,.slice none 0 0]]) (by simp only[results22,go_sem,iv]) (abW _) ⟨rfl,⟨[],[]⟩,.inl ⟨cm,rfl⟩,⟨_,_,rfl,⟨none,0,rfl,.inl rfl⟩,lM,⟨none,0,rfl,.inl rfl⟩,lM⟩,by exact⟨aaL _,aaL _⟩⟩
 have a1:w≠ff:=by simpa using b6
 refine aT ?_;refine bV hd rfl TC (CA hV hS hl hx) fun v1 I1 qs cs aq hq=>?_;obtain⟨pb,fv,rfl,rfl,hF⟩:=hq;have hP:zr I1 (ts.map refit) (.slice la ts.length lc) fv:=⟨Sl.refit (Sl.le (R:=dz) (fun{I J c a} h k=>dz.le h k) hS aq),hF,by simpa using hl,ns a2⟩;obtain⟨r,er,fn,re,rl⟩:=Jd (ns a2) hW.1 a1 (by simpa using hl);obtain⟨q0,_,RR0⟩:=jR (ns a2) hW.1 a1 er (fun _=>false);have cd:=Lh (ns a2) (by simpa using hl) hW.1 a1 er;have ci:=TU (ns a2) (by simpa using hl) (Pe hx) hW.1 a1 er;obtain⟨cf,_⟩:=E7 RR0.fok RR0.lok;have c9:du (nX (ii r.f) r.l)+1=du (pI r):=by unfold pI;rw[bp,dJ]
 unfold Tk at cd;refine OZ ?_;refine aR cs fun cr=>?_;refine bf cr [1,0] fun cp=>?_;refine ad cp [0,1] [sg pb _,_] [] rfl Sa rfl (Dp (o:=0) ab er hP (hW.le aq) a1 (Ow.nil _ _ _ _) (by have re':=re;unfold aN at re';simp only[aaO];unfold ux;omega)) fun v2 I2 qs b8 bb hq=>?_;obtain⟨dv2,D2,rs,rfl,a5,⟨A,B,va,vb,rfl,rfl,hA,hB⟩,dc,da⟩:=hq;rw[aaA]at a5;simp only[Z3]at b8 |-;obtain⟨aa,ac,rfl⟩:=hA.shape;obtain⟨ba,bc,rfl⟩:=hB.shape;obtain⟨ea,ec,rfl⟩:=a5.shape;have c6:=hA.capN bm.len;have c3:=Ow.capN (R:=eG) a5 (fun c a h=>eG.len c a h);refine bf b8 [0,1,2,3] fun bC=>?_;refine ae bC fun I3 bC ao ct=>?_;refine bf bC [0,1,2] fun bx=>?_;refine ae bx fun I4 bx an c4=>?_;refine bf bx [0,1] fun bs=>?_;refine ae bs fun I5 bs am c7=>?_;refine bf bs [0] fun bd=>?_;refine ae bd fun I6 bd al c5=>?_;have b4:=abV an (abV am al);have cb:=abV ao b4;have a6:aP I6 pb 4 [.slice ea r.e.length ec]:=(ay (by simp) rfl:aP (sg pb (cg (.slice la ts.length lc) fv (.slice none 0 0) (.slice ea r.e.length ec) 0)) pb 4 [.slice ea r.e.length ec]).le (abV ct b4);have cB:eE I6 (.slice aa r.l.length ac) r.l:=eE.le (bQ.sl (bQ.le hA (abV ao an)) am c7) al;have c2:Sl eG I6 (.slice ea r.e.length ec) r.e:=SlE.le (eF.sl (eF.le a5 ao) an c4) (abV am al);have c1:eR I6 (.slice ba r.f.length bc) r.f:=abX (R:=iD) (fun{I J c a} h k=>iD.le h k) (Ow.le (R:=iD) (fun{I J c a} h k=>iD.le h k) hB (abV ao (abV an am))) al c5;have cc:=abV bb cb;refine aT ?_;refine bV bd rfl Ta (U8 c1 (by have:=fn.len;simp only[aah]at this;omega)) fun v3 I7 qs b7 ak hq=>?_;obtain⟨rfl,a7⟩:=hq;obtain⟨za,zk,rfl⟩:=a7.shape2
 refine dg ?_;refine XN (l:=[.slice ea r.e.length ec]) rfl (cellsU b7 (.head _) (a6.le ak)) (.inr ⟨Te,rfl⟩) ?_;refine lY ?_;refine eP [0,1,3,2,4,5,6,7] [] [] ?_;refine lE ?_;refine cv b7 rfl K8 (Jb (du r.l+1) (aba _) (eE.le cB ak) c6 a7 (by unfold aN;omega)) fun v4 I8 qs b2 a9 hq=>?_;obtain⟨K,rfl,hK⟩:=hq;obtain⟨ka,kc,rfl⟩:=hK.shape;have c0:=hK.capN bm.len;refine lE ?_;refine bj b2 (by exact dQ) rfl rfl rfl rfl rfl bg fun nb I9 b1 a3 cj=>?_;refine lE ?_;refine aw ?_;refine bf b1 [0] fun aS=>?_;refine ae (c:=.st _) aS fun ca aS aj b3=>?_;have cA:eE ca (.slice ka (nX (ii r.f) r.l).length kc) (nX (ii r.f) r.l):=bQ.sl (bQ.le hK a3) aj b3;have k710:=abV a9 (abV a3 aj);have cy:eE ca (.slice (some ⟨nb,0,none⟩) 1 1) (pI r):=iJ ((az cj (by simp[aD,Value.cells]) (by simp[aD,Value.cells,iv,sD,rD]):aP I9 nb 0 _).le aj) (bm.mk (n:=⟨1,[],-1,0,nX (ii r.f) r.l,ii r.f⟩) (a7.le k710) cA c0);refine lY ?_;refine ax aS (by exact Xn) rfl rfl rfl rfl rfl bg fun mb c8 b0 ag cl=>?_;have cx:Sl NT c8 (.slice (some ⟨mb,0,none⟩) 1 1) [⟨pI r,r.e⟩]:=⟨_,_,rfl,.inr ⟨mb,0,_,rfl,az cl (by simp[aD,Value.cells]) (by simp[aD,Value.cells]),.one ⟨_,_,rfl,eE.le cy ag,⟨ZR _,fun _=>by unfold maxLen;omega⟩,SlE.le c2 (abV ak (abV k710 ag)),c3⟩⟩⟩;refine aT ?_;refine bV b0 rfl Tb (Q1 cx (by simp) (by simpa using cf) (by simpa using (b5 r er).1) (by simpa using (b5 r er).2) (by simpa using ci) (by simp only[abg,List.flatMap_nil,aa6];unfold aN;omega) (by simpa using RR0.eok) (by simpa using re)) fun v5 dd qs bF a4 hq=>?_;obtain⟨rfl,hR⟩:=hq;have em:WM [⟨pI r,r.e⟩]=⟨mL (gJ (pI r)) (pI r),Eo r.e⟩:=by simp[WM]
 rw[em]at hR;obtain⟨_,_,rfl,hR⟩:=hR;obtain⟨⟨xa,xc,rfl,_⟩,_,⟨ya,yc,rfl,_⟩,_⟩:=id hR;refine aT ?_;refine af rfl bF (r:=[.agg #[.slice xa (mL (gJ (pI r)) (pI r)).length xc,.slice ya (Eo r.e).length yc]]) (by simp only[results22,go_sem]) (abV aq (abV cc (abV ak (abV k710 (abV ag a4))))) ⟨rfl,_,.inr ⟨a1,r,er,rfl⟩,⟨_,_,rfl,hR⟩,?_,?_⟩
 ·have:=HA (gJ (pI r)) (pI r);show du (mL (gJ (pI r)) (pI r))<=aN;unfold aN;omega
 ·exact ZS (Rb r.e) re
def Vn{c:Nat}(hc:c<2^32):AM .u32 (Gs .u32) (c:Int)=((4294967295 ^^^ c:Nat):Int):=by
 have hm:Gs .u32=((4294967295:Nat):Int):=by decide
 rw[hm];have hb:(4294967295:Nat)<2^32:=by decide
 have ea:BitVec.ofInt 32 ((4294967295:Nat):Int)=BitVec.ofNat _ 4294967295:=by rw[BitVec.ofInt_natCast]
 have eb:BitVec.ofInt 32 (c:Int)=BitVec.ofNat _ c:=by rw[BitVec.ofInt_natCast]
 have hx:4294967295 ^^^ c<2^32:=Nat.xor_lt_two_pow hb hc;have:AM .u32 ((4294967295:Nat):Int) (c:Int)=IntKind.u32.wrap ((BitVec.ofInt 32 ((4294967295:Nat):Int) ^^^ BitVec.ofInt 32 (c:Int)).toNat:Int):=rfl;rw[this,ea,eb,BitVec.toNat_xor,BitVec.toNat_ofNat,BitVec.toNat_ofNat,Nat.mod_eq_of_lt hb,Nat.mod_eq_of_lt hc];simp only[IntKind.wrap,show IntKind.bits .u32=32 from rfl,show IntKind.signed .u32=false from rfl];have:((4294967295 ^^^ c:Nat):Int) % (2^32:Int)=((4294967295 ^^^ c:Nat):Int):=abm ab (by exact_mod_cast hx);simpa using this
def Vh(ts:List Tok)(c:Nat)(r:Value)(I2:PH):Prop:=∃t,Rx (ts.map refit) (jx c (4294967295 ^^^ c)) t/\He I2 r (prj (ch c) t)/\Ub (prj (ch c) t)
def vp(c:Nat):aZ (jx c (4294967295 ^^^ c)) (ch c):=by
 refine⟨zu c,fun d hd i hi=>?_⟩;unfold jx at hd;split at hd
 ·cases hd
 ·obtain⟨h1,h2⟩:=(DV _ _ d 24 (ZR _)).1 hd i ab hi;simp only[abu,uJ,hi,decide_true,abv]at h1 h2;show c.testBit i=d i;cases hc:c.testBit i with
  |true=>exact(h1 hc).symm
  |false=>
   refine(h2 hc ?_).symm;rw[Nat.testBit_xor,hc,show (4294967295:Nat)=2^32-1 from rfl,Nat.testBit_two_pow_sub_one];simp;omega
def Gw{c:Nat}(hV:ir I)(hT:uL I v ts)(hc:c<2^32):aK prog 19 #[v,.int .u32 c] I [] fun r I2 qs=>qs=[]/\Vh ts c r I2:=by
 obtain⟨lv,ga,gn,gc,rfl,hS⟩:=hT.sh;obtain⟨la,lc,rfl,_⟩:=id hS;have hx:4294967295 ^^^ c<2^32:=Nat.xor_lt_two_pow bg hc;intro hd;refine ah 13 func19 fun w0=>?_;refine aT ?_;refine eP [0,1,2,3,6,4,5,7,8] [] [] ?_;apply au;simp only[go_sem,Vn hc];refine cv hd rfl SH (FD hc hx) fun v1 I1 qs ao aa hq=>?_;obtain⟨rfl,hW⟩:=hq;obtain⟨wa,wk,rfl⟩:=hW.shape2;refine gw ?_;refine cv ao rfl L4 (DB (hV.le aa) (hT.le aa) hW (fun r er=>Jy (ns hT.ok) (wQ _ _) (fun e=>by have:=zu c;rw[e]at this;cases this) (vp c) er)) fun v2 I2 qs an ag hq=>?_;obtain⟨rfl,t,hF,hR,al,ak⟩:=hq;obtain⟨xk,xd,rfl,⟨ua,uc,rfl,_⟩,_,⟨wa',wc,rfl,_⟩,_⟩:=id hR;refine gw ?_;refine cv an rfl SK (HU hR hc al ak) fun v3 I3 qs am ac hq=>?_;obtain⟨rfl,aj⟩:=hq;obtain⟨yk,yd,rfl,⟨xa,xc,rfl,_⟩,_,⟨ya,yc,rfl,_⟩,_⟩:=id aj;refine gw ?_;refine aw ?_;refine aT ?_;exact af rfl am (r:=[.agg #[.slice xa (prj (ch c) t).kids.length xc,.slice ya (prj (ch c) t).diags.length yc]]) (by simp only[results19,go_sem]) (abV aa (abV ag ac)) ⟨rfl,t,hF,aj,Ub.prj c ⟨al,ak⟩⟩
def S8:aO prog 16:=⟨_,func16,rfl,rfl⟩
def ot(_:PH)(c:List Value)(x:Nat):Prop:=c=[.int .u32 x]/\x<2^32
def ot.len(c:List Value)(x:Nat)(h:ot I c x):c.length=1:=by rw[h.1];rfl
abbrev O4(I A:PH)(v:Value)(l:List Nat):Prop:=Ow ot 23 1 I A v l
abbrev JF(I:PH)(v:Value)(l:List Nat):Prop:=Sl ot I v l
def O4.le{A:PH}{l:List Nat}(h:O4 I A v l)(k:I.le J):O4 J A v l:=Ow.le (R:=ot) (fun{I J c a} h k=>h) h k
def JF.le{l:List Nat}(h:JF I v l)(k:I.le J):JF J v l:=Sl.le (R:=ot) (fun{I J c a} h k=>h) h k
def Vt(u:Nat)(x:Nat×Value):St:=⟨dn 35 [(0,.v (.int .u32 u)),(3,.v x.2),(4,.v (iv x.1))],[]⟩
def Zy(u:Nat)(I0:PH)(x:Nat×Value)(H:PH):Prop:=∃I A l,H=U [I,A]/\Dj [I,A]/\I0.le I/\x.1<=32/\O4 I A x.2 l/\l=eY u x.1
def QM(u i n:Nat)(x:Nat×Value):St:=⟨dn 35 [(0,.v (.int .u32 u)),(3,.v x.2),(4,.v (iv i)),(5,.v (iv n)),(6,.v (iv x.1))],[]⟩
def Yg(l0:List Nat)(b:Nat)(I0:PH)(x:Nat×Value)(H:PH):Prop:=∃I A l,H=U [I,A]/\Dj [I,A]/\I0.le I/\x.1<=l0.length/\O4 I A x.2 l/\l=l0++(l0.take x.1).map (fun x=>x|||2^b)
def m9(u:Nat):∀i,(eY u i).length=2^pR u i
 |0=>rfl
 |i+1=>by
  have ih:=m9 u i;have hp:pR u (i+1)=pR u i+(u.testBit i).toNat:=rfl;unfold eY;by_cases h:u.testBit i=true
  ·rw[aaq h,hp,h,aa9,aah,ih,show (true:Bool).toNat=1 from rfl,abd];omega
  ·have h':u.testBit i=false:=by simpa using h
   rw[ZV h,hp,h',ih];rfl
variable{u:Nat}
theorem uf(hu:u<2^32)(hp:pR u 32<=8):aK prog 21 #[.int .u32 u] I [] fun r I2 qs=>qs=[]/\JF I2 r (eY u 32):=by
 intro hd;refine ah 35 func21 fun w0=>?_;refine aT ?_;refine fx hd (by exact Lw) rfl rfl rfl rfl rfl bg fun b0 A0 b4 a5=>?_;have b8:O4 I A0 (.slice (some ⟨b0,0,none⟩) 1 1) [0]:=⟨_,a5,⟨[.int .u32 0],[],by simp[aD,Value.cells],⟨rfl,by decide⟩,rfl⟩⟩;refine aT ?_;refine aA (fun x=>32-x.1) (Vt u) (Zy u I) (0,.slice (some ⟨b0,0,none⟩) 1 1) bM (by simp only[go_sem,aa6,Vt]) ?_ ?_
 ·exact⟨I,A0,[0],rfl,b4,abW _,aaL _,b8,rfl⟩
 rintro⟨i,vo⟩ H ⟨I1,A1,l,rfl,a9,ag,hi,hA,aq⟩ aa;simp only at hi hA aq;have a6:l.length=2^pR u i:=by rw[aq];exact m9 u i
 simp only[Vt];obtain⟨oa,oc,rfl⟩:=hA.shape;rcases aaf i 32 with a4|cd
 ·have h9:decide ((i:Int)<32)=true:=abU ab;have e1:=Z7 (i:=i) ab;have a1:=UC hu (i:=i) ab;have ca:=ZS (NA u (i:=i+1) (j:=32) ab) hp;have bc:pR u (i+1)=pR u i+(u.testBit i).toNat:=rfl;have ba:l.length<=256:=by
   rw[a6];exact ZS (abe ab (show pR u i<=8 by omega)) bg
  cases hb:u.testBit i
  ·rw[hb]at a1 bc;apply RG;simp only[go_sem,iv,h9,abt,a1,Bool.toNat_false,abo,e1];exact aa (i+1,.slice oa l.length oc) _ _ dt bM (by simp only[go_sem,aa6,Vt]) ⟨I1,A1,l,rfl,a9,ag,a4,hA,by simp only;rw[aq,eY,ZV (by rw[hb];decide)]⟩
  ·rw[hb]at a1 bc;have cb:(true:Bool).toNat=1:=rfl;have bs:l.length<=128:=by
    rw[a6];exact ZS (abe ab (show pR u i<=7 by omega)) bg
   apply RG;simp only[go_sem,iv,h9,abt,a1,Bool.toNat_true,abo];refine aA (fun x=>l.length-x.1) (QM u i l.length) (Yg l i I1) (0,.slice oa l.length oc) bM (by simp only[go_sem,aa6,QM]) ?_ ?_
   ·exact⟨I1,A1,l,rfl,a9,abW _,aaL _,hA,by simp⟩
   rintro⟨k,vq⟩ H ⟨I2,A2,m,rfl,aj,ao,hk,a3,al⟩ ac;simp only at hk a3 al;have cc:m.length=l.length+k:=by rw[al,aa9,aah,abF];omega
   simp only[QM];obtain⟨qa,qc,rfl⟩:=a3.shape;rcases aaf k l.length with aS|b1
   ·have bb:decide ((k:Int)<(l.length:Int))=true:=abU ab;have e2:=Z7 (i:=k) ab;obtain⟨x,hx⟩:∃x,m[k]?=some x:=⟨_,aak ab⟩;obtain⟨g,cap,cur,c,ev,rfl,c1,c2,hc,cf,a2,_⟩:=a3.elem (fun{I} c a h=>ot.len (I:=I) c a h) (fun{I J c a} h k=>h) hx;cases ev
    obtain⟨rfl,ak⟩:=hc;have bF:l[k]?=some x:=by rw[<-hx,al,aaG aS]
    have bd:2^i<2^32:=Nat.pow_lt_pow_right ab a4;have q1:Uu .u32 (x:Int) (yR .u32 1 (i:Int))=((x|||2^i:Nat):Int):=by rw[RA a4];exact CN ak bd
    have bC:x|||2^i<2^32:=Nat.or_lt_two_pow ak bd;apply RG;simp only[go_sem,iv,bb];refine eP [0,1,2,3,4,5,6,7,8,9,10] [4] [] ?_;refine dS ?_
    try refine⟨ab,?_⟩
    refine W7 (l:=[.int .u32 x]) rfl (by simpa using cellsU aj (.tail _ (.head _)) a2) (.inr ⟨oR,rfl⟩) ?_;apply au;simp only[go_sem,iv,abt,q1];refine bj aj (by exact Lw) rfl rfl rfl rfl rfl bg fun nb I4 b3 am bx=>?_;have b5:Sl ot I4 (.slice (some ⟨nb,0,none⟩) 1 1) [x|||2^i]:=⟨_,_,rfl,.inr ⟨nb,0,_,rfl,az bx (by simp[aD,Value.cells]) (by simp[aD,Value.cells]),.one ⟨rfl,bC⟩⟩⟩;refine dS ?_;refine fP (R:=ot) (xs:=m) (ys:=[x|||2^i]) b3 (by exact Lw) (O4.le a3 am) b5 (fun{I J c a} h k=>h) (fun{I} c a h=>ot.len (I:=I) c a h) (fun{I} c a h=>by rw[h.1];rfl) rfl rfl rfl rfl rfl rfl (by simp only[aaj,aaO];omega) (by simp only[aaj,aaO];unfold maxLen;omega) fun ua uc I5 A5 b2 a7 b6=>?_;refine dS ?_;refine aw ?_;apply RG;simp only[go_sem,iv,e2];exact ac (k+1,.slice ua (m++[x|||2^i]).length uc) _ _ dt bM (by simp only[go_sem,aa6,QM]) ⟨I5,A5,m++[x|||2^i],rfl,b2,abV ao (abV am a7),aS,b6,by simp only;rw[df bF,abP,<-aaT,<-al];rfl⟩
   ·have:k=l.length:=by omega
    subst this;have bb:=Z6 l.length;apply RG;simp only[go_sem,iv,bb,e1];exact aa (i+1,.slice qa m.length qc) _ _ dt bM (by simp only[go_sem,aa6,Vt]) ⟨I2,A2,m,rfl,aj,abV ag ao,a4,a3,by simp only;rw[al,aaS,eY,aaq hb,<-aq]⟩
 ·have:i=32:=by omega
  subst this;have ba:l.length<=256:=by
   rw[a6];exact ZS (abe ab hp) bg
  refine bf a9 [0] fun aj=>?_;refine ae (c:=.st _) aj fun I3 aj an b7=>?_;apply RG;simp only[go_sem,iv,abo];exact af rfl aj (r:=[_]) rfl (abV ag an) ⟨rfl,by rw[<-aq];exact abX (R:=ot) (fun{I J c a} h k=>h) hA an b7⟩
def U3(v:Value)(vc:Value)(x:Nat×Value):St:=⟨dn 30 [(0,.v v),(5,.v x.2),(6,.v vc),(7,.v (iv x.1))],[]⟩
def Zh(m:List Nat)(cl:List (Nat×Nat))(I0:PH)(x:Nat×Value)(H:PH):Prop:=∃I A l,H=U [I,A]/\Dj [I,A]/\I0.le I/\x.1<=m.length/\O4 I A x.2 l/\l=(m.take x.1).filter (Ek cl)
theorem Gz{l:List (Nat×Nat)}(hS:Ch I v l)(hl:l.length<2^60)(hu:u<2^32)(hp:pR u 32<=8):aK prog 25 #[v,.int .u32 u] I [] fun r I2 qs=>qs=[]/\JF I2 r (jE l u):=by
 obtain⟨va,vc,rfl,_⟩:=id hS;intro hd;refine ah 30 func25 fun w0=>?_;refine aT ?_;refine bV hd rfl EO (uf hu hp) fun v1 I1 qs a7 am hq=>?_;obtain⟨rfl,hm⟩:=hq;have a4:(eY u 32).length<=256:=by rw[m9];exact ZS (abe ab hp) bg
 have an:jE l u=(eY u 32).filter (Ek l):=rfl;rw[an];clear an;generalize eY u 32=m at hm a4 |-;obtain⟨ma,mc,rfl,_⟩:=id hm;refine aT ?_;refine aR a7 fun a6=>?_;refine aA (fun x=>m.length-x.1) (U3 (.slice va l.length vc) (.slice ma m.length mc)) (Zh m l I1) (0,.slice none 0 0) bM (by simp only[go_sem,aa6,U3]) ?_ ?_
 ·exact⟨I1,_,[],rfl,a6,abW _,aaL _,Ow.nil _ _ _ _,by simp⟩
 rintro⟨i,vo⟩ H ⟨I2,A2,o,rfl,al,ac,hi,hA,ak⟩ ag;simp only at hi hA ak;have bc:o.length<=i:=by rw[ak];exact ZS (List.length_filter_le _ _) (by rw[abF];omega)
 simp only[U3];obtain⟨oa,oc,rfl⟩:=hA.shape;rcases aaf i m.length with aq|bd
 ·have a1:decide ((i:Int)<(m.length:Int))=true:=abU ab;have e1:=Z7 (i:=i) ab;obtain⟨x,hx⟩:∃x,m[i]?=some x:=⟨_,aak aq⟩;obtain⟨b,off,cs,rfl,⟨rfl,x32⟩,aj⟩:=Sl.load (fun{I} c a h=>ot.len (I:=I) c a h) (JF.le hm ac) hx;apply RG;simp only[go_sem,iv,a1]
  try refine⟨ab,?_⟩
  refine XN (l:=[.int .u32 x]) rfl (cellsU al (.head _) (by simpa using aj)) (.inr ⟨oR,rfl⟩) ?_;refine dP ?_;refine WZ rfl Ts (XZ (Ch.le hS (abV am (abV ac (cP al)))) hl x32) fun v H2 hv=>?_;obtain⟨rfl,rfl⟩:=hv;cases a2:Ek l x
  ·apply RG;simp only[go_sem,iv,e1];exact ag (i+1,.slice oa o.length oc) _ _ dt bM (by simp only[go_sem,aa6,U3]) ⟨I2,A2,o,rfl,al,ac,aq,hA,by simp only;rw[df hx,List.filter_append,<-ak];simp[a2]⟩
  ·refine dP ?_
   try refine⟨ab,?_⟩
   refine XN (l:=[.int .u32 x]) rfl (cellsU al (.head _) (by simpa using aj)) (.inr ⟨oR,rfl⟩) ?_;refine dP ?_;refine ax al (by exact Lw) rfl rfl rfl rfl rfl bg fun nb I4 ao aa a3=>?_;have a9:Sl ot I4 (.slice (some ⟨nb,0,none⟩) 1 1) [x]:=⟨_,_,rfl,.inr ⟨nb,0,_,rfl,az a3 (by simp[aD,Value.cells]) (by simp[aD,Value.cells]),.one ⟨rfl,x32⟩⟩⟩;refine dP ?_;refine bl (R:=ot) (xs:=o) (ys:=[x]) ao (by exact Lw) (O4.le hA aa) a9 (fun{I J c a} h k=>h) (fun{I} c a h=>ot.len (I:=I) c a h) (fun{I} c a h=>by rw[h.1];rfl) rfl rfl rfl rfl (by simp only[aaj,aaO];omega) (by simp only[aaj,aaO];unfold maxLen;omega) fun ua uc I5 A5 a5 aS ba=>?_;apply RG;simp only[go_sem,iv,e1];exact ag (i+1,.slice ua (o++[x]).length uc) _ _ dt bM (by simp only[go_sem,aa6,U3]) ⟨I5,A5,o++[x],rfl,a5,abV ac (abV aa aS),aq,ba,by simp only;rw[df hx,List.filter_append,<-ak];simp[a2]⟩
 ·have:i=m.length:=by omega
  subst this;have a1:=Z6 m.length;refine bf al [0] fun ao=>?_;refine ae (c:=.st _) ao fun I4 ao aa bb=>?_;apply RG;simp only[go_sem,iv,a1];exact af rfl ao (r:=[_]) rfl (abV am (abV ac aa)) ⟨rfl,by rw[aaS]at ak;rw[<-ak];exact abX (R:=ot) (fun{I J c a} h k=>h) hA aa bb⟩
structure It where
 kind:Nat
 text:bq
 cubes:List (Nat×Nat)
def LN(I:PH)(c:List Value)(x:It):Prop:=∃va,c=[.int .u8 x.kind,.string ⟨⟨x.text⟩⟩,va]/\Ch I va x.cubes
variable{x:It}{c:List Value}
def LN.le(h:LN I c x)(k:I.le J):LN J c x:=by
 obtain⟨va,e,h⟩:=h;exact⟨va,e,Ch.le h k⟩
def LN.len(c:List Value)(x:It)(h:LN I c x):c.length=3:=by obtain⟨va,e,_⟩:=h;rw[e];rfl
abbrev Sw(I:PH)(v:Value)(l:List It):Prop:=Sl LN I v l
variable{l:List It}
def Sw.le(h:Sw I v l)(k:I.le J):Sw J v l:=Sl.le (R:=LN) (fun{I J c a} h k=>LN.le h k) h k
def eL(x:It):Tok:=⟨x.kind,x.text,mE x.cubes,true⟩
def W3(x:It):Prop:=x.cubes.length<2^40/\x.text.length<2^40
def U0(x:It):Nat:=1+x.cubes.length+x.text.length / 64
def RW(n0:Nat)(l:List It):Nat:=n0+(l.map U0).sum
def K2(n0:Nat)(l:List It)(x:It):RW n0 (l++[x])=RW n0 l+U0 x:=by
 unfold RW;rw[abP,List.sum_append];simp;omega
def Gp(n0:Nat):∀l:List It,l.length<=RW n0 l
 | []=>aaL _
 |x::l=>by
  have:=Gp n0 l;unfold RW at this |-;simp only[aaU,List.sum_cons,aaj];have:1<=U0 x:=by unfold U0;omega
  omega
def EF(vl vw:Value)(most:Nat)(x:Nat×Nat×Nat):St:=⟨dn 120 [(0,.v vl),(1,.v vw),(2,.v (iv most)),(6,.p 6 0),(7,.v (.slice none 0 0)),(8,.v (.int .u32 0)),(9,.v (.bool false)),(10,.v (.int .u32 x.2.1)),(11,.v (iv x.2.2)),(12,.p 12 0),(13,.v (iv x.1))],[⟨6,27,[.slice none 0 0,.slice none 0 0]⟩,⟨12,27,[.slice none 0 0,.slice none 0 0]⟩]⟩
def vE(vl:Value)(u:Nat)(x:Nat×Value×Value):St:=⟨dn 120 [(0,.v vl),(6,.p 6 0),(10,.v (.int .u32 u)),(12,.p 12 0),(14,.v x.2.2),(15,.v (iv x.1))],[⟨6,27,[.slice none 0 0,.slice none 0 0]⟩,⟨12,27,[x.2.1,.slice none 0 0]⟩]⟩
def fI(u:Nat)(I:PH)(c:List Value)(x:It):Prop:=∃pv ia,c=[.int .u8 x.kind,.string ⟨⟨x.text⟩⟩,pv,.int .i64 0,.int .i64 0,ia]/\Sx.one pv=true/\JF I ia (jE x.cubes u)
def fI.len(c:List Value)(x:It)(h:fI u I c x):c.length=6:=by obtain⟨pv,ia,e,_⟩:=h;rw[e];rfl
def fI.le(h:fI u I c x)(k:I.le J):fI u J c x:=by obtain⟨pv,ia,e,h1,h2⟩:=h;exact⟨pv,ia,e,h1,h2.le k⟩
def fI.ones(h:fI u I c x):c.all Sx.one=true:=by
 obtain⟨pv,ia,rfl,h1,a,b,rfl,_⟩:=h;simp only[List.all_cons,List.all_nil,h1,abv,Bool.true_and];rfl
abbrev NO(u:Nat)(I A:PH)(v:Value)(l:List It):Prop:=Ow (fI u) 136 6 I A v l
def NO.le{A:PH}(h:NO u I A v l)(k:I.le J):NO u J A v l:=Ow.le (R:=fI u) (fun{I J c a} h k=>fI.le h k) h k
def Xm(u:Nat)(l:List It)(I0:PH)(x:Nat×Value×Value)(H:PH):Prop:=∃I A B m,H=U [I,A,B]/\Dj [I,A,B]/\I0.le I/\x.1<=l.length/\yJ I A x.2.1 ((l.take x.1).map eL)/\NO u I B x.2.2 m/\m=l.take x.1
def VX(l:List It)(w:List (Nat×Nat))(most:Nat)(v:Value)(I2:PH):Prop:=
 (∃lv,v=.tuple #[lv,.slice none 0 0,.int .u32 0,.bool false]/\lv=.agg #[.slice none 0 0,.slice none 0 0])\/
 (∃lv a c u,v=.tuple #[lv,.slice a l.length c,.int .u32 (u:Nat),.bool true]/\uL I2 lv (l.map eL)/\l.length<400/\(∃a n k g,lv=.agg #[.slice a n k,g]/\n<=k)/\
  Sl (fI u) I2 (.slice a l.length c) l/\u<2^24/\qb w u/\(∀y∈l,qb y.cubes u)/\pR u 32<=most)
theorem Tl{vl vw:Value}{w:List (Nat×Nat)}{most:Nat}(hS:Sw I vl l)(hW:Ch I vw w)(hb:∀x∈l,W3 x)(hl:l.length<2^40)(hw:w.length<2^40)(hm:most<=8):aK prog 16 #[vl,vw,iv most] I [] fun r I2 qs=>qs=[]/\VX l w most r I2:=by
 obtain⟨la,lc,rfl,_⟩:=id hS;obtain⟨wa,wc,rfl,_⟩:=id hW;intro hd;refine ah 120 func16 fun w0=>?_
 try simp only[iv]
 refine aT ?_;refine WZ rfl LY (JZ (Ch.le hW (cP hd)) ab) fun v H2 hv=>?_;obtain⟨rfl,rfl⟩:=hv;refine aT ?_;apply dF (fun(x:Nat×Nat×Nat)=>l.length-x.1) (EF (.slice la l.length lc) (.slice wa w.length wc) most) (fun x H=>H=U [I]/\x.1<=l.length/\x.2.1<2^24/\x.2.2=RW w.length (l.take x.1)/\x.2.2<2^44/\qb w x.2.1/\∀y∈l.take x.1,qb y.cubes x.2.1) (fun x H=>H=U [I]/\x.2.1<2^24/\x.2.2<2^44/\(x.2.2<400->RW w.length l<400/\qb w x.2.1/\∀y∈l,qb y.cubes x.2.1)) (0,xR w,w.length)
 ·exact bM
 ·exact(by simp only[go_sem,aa6,EF])
 ·exact⟨rfl,aaL _,CD w,by simp[RW],by simp only;omega,zC w,fun y hy=>by simp at hy⟩
 ·rintro⟨i,u,n⟩ H ⟨rfl,hi,hu,hn,bx,bd,a9⟩ aS a3;simp only at hi hu hn bx bd a9;simp only[EF];rcases aaf i l.length with bC|cA
  ·have b5:decide ((i:Int)<(l.length:Int))=true:=abU ab;rcases aaf n 2000 with ct|ct
   ·have ci:decide ((n:Int)<2000)=true:=abU ab;have e1:=Z7 (i:=i) ab;obtain⟨x,hx⟩:∃x,l[i]?=some x:=⟨_,aak bC⟩;obtain⟨b,off,cs,rfl,⟨va,rfl,hc⟩,ak⟩:=Sl.load (fun{I} c a h=>LN.len c a h) hS hx;obtain⟨ca,cc,rfl,_⟩:=id hc;have c1:=ak.get (i:=1) rfl;have c2:=ak.get (i:=2) rfl;obtain⟨b1,b2⟩:=hb x (aaV hx);have e31:=Z7 (i:=n) ab;have e38:IntKind.i64.wrap (((n+1:Nat):Int)+(x.cubes.length:Int))=((n+1+x.cubes.length:Nat):Int):=by rw[<-wrap64 (n:=n+1+x.cubes.length) ab];congr 1
    have e45:IntKind.i64.wrap ((x.text.length:Int).tdiv 64)=((x.text.length / 64:Nat):Int):=by
     have e:(x.text.length:Int).tdiv 64=((x.text.length / 64:Nat):Int):=by
      rw[Int.tdiv_eq_ediv_of_nonneg ab];rfl
     rw[e];exact wrap64 ab
    have e46:IntKind.i64.wrap (((n+1+x.cubes.length:Nat):Int)+((x.text.length / 64:Nat):Int))=((n+1+x.cubes.length+x.text.length / 64:Nat):Int):=by rw[<-wrap64 (n:=n+1+x.cubes.length+x.text.length / 64) ab];congr 1
    apply RG;simp only[go_sem,iv,b5,ci];refine eP [0,1,2,3,4,5,6,7,8,9,10,11,12,13,14,15,16,17] [6,13] [] ?_;apply au;simp only[go_sem,iv,e31]
    try refine⟨ab,?_⟩
    refine W7 (l:=[.slice ca x.cubes.length cc]) rfl (cellsU hd (.head _) (by simpa using c2)) (.inr ⟨Ky,rfl⟩) ?_;apply au;simp only[go_sem,iv,e31,e38]
    try refine⟨ab,?_⟩
    refine W7 (l:=[.string ⟨⟨x.text⟩⟩]) rfl (cellsU hd (.head _) (by simpa using c1)) (.inr ⟨tL,rfl⟩) ?_;apply au;simp only[go_sem,iv,bi,e31,e38,e45,e46];refine aw ?_;refine dP ?_
    try refine⟨ab,?_⟩
    refine XN (l:=[.slice ca x.cubes.length cc]) rfl (cellsU hd (.head _) (by simpa using c2)) (.inr ⟨Ky,rfl⟩) ?_;refine dP ?_;refine WZ rfl LY (JZ (Ch.le hc (cP hd)) ab) fun v H2 hv=>?_;obtain⟨rfl,rfl⟩:=hv;have cp:=CD x.cubes;have q1:=CN (a:=u) (b:=xR x.cubes) ab ab;apply RG;simp only[go_sem,iv,q1,e1];exact aS (i+1,u|||xR x.cubes,n+1+x.cubes.length+x.text.length / 64) _ _ dt bM (by simp only[go_sem,aa6,EF]) ⟨rfl,bC,Nat.or_lt_two_pow hu cp,by simp only;rw[df hx,K2,<-hn];unfold U0;omega,by simp only;omega,bd.left _,fun y hy=>by
     simp only at hy |-;rw[df hx]at hy;rcases List.mem_append.1 hy with hy|hy
     ·exact(a9 y hy).left _
     ·rw[List.mem_singleton]at hy;subst hy;exact(zC _).right _⟩
   ·have ci:decide ((n:Int)<2000)=false:=abT ab;apply bL 14;simp only[go_sem,iv,b5,ci];exact a3 (i,u,n) _ _ bM (by simp only[go_sem,aa6,EF]) ⟨rfl,hu,bx,fun h=>by simp only at h;omega⟩
  ·have:i=l.length:=by omega
   subst this;have b5:=Z6 l.length;rw[aaS]at hn a9;apply bL 14;simp only[go_sem,iv,b5];exact a3 (l.length,u,n) _ _ bM (by simp only[go_sem,aa6,EF]) ⟨rfl,hu,bx,fun h=>⟨by simp only at h;omega,bd,a9⟩⟩
 rintro⟨i,u,n⟩ H ⟨rfl,hu,bx,cj⟩;simp only at hu bx cj;simp only[EF];rcases aaf n 400 with cl|cl
 rotate_left
 ·have cf:decide ((n:Int)>=400)=true:=abU ab;apply RG;simp only[go_sem,iv,cf];exact af rfl hd (r:=[.agg #[.slice none 0 0,.slice none 0 0],.slice none 0 0,.int .u32 0,.bool false]) (by simp only[results16,go_sem,iv]) (abW _) ⟨rfl,.inl ⟨_,rfl,rfl⟩⟩
 have cf:decide ((n:Int)>=400)=false:=abT ab;obtain⟨cr,bd,a9⟩:=cj cl;have cy:=Gp w.length l;apply RG;simp only[go_sem,iv,cf];refine WZ rfl SI (U2 (most:=most) ab) fun v H2 hv=>?_;obtain⟨rfl,rfl⟩:=hv;cases cB:decide (pR u 32<=most)
 ·refine dP ?_;exact af rfl hd (r:=[.agg #[.slice none 0 0,.slice none 0 0],.slice none 0 0,.int .u32 0,.bool false]) (by simp only[results16,go_sem,iv]) (abW _) ⟨rfl,.inl ⟨_,rfl,rfl⟩⟩
 have a2:=abl cB;have bs:pR u 32<=8:=ZS a2 hm;have bb:u<2^32:=by omega
 refine dP ?_;refine aR hd fun c6=>?_;refine aR c6 fun c5=>?_;refine aA (fun x=>l.length-x.1) (vE (.slice la l.length lc) u) (Xm u l I) (0,.slice none 0 0,.slice none 0 0) bM (by simp only[go_sem,aa6,vE]) ?_ ?_
 ·exact⟨I,_,_,[],rfl,c5,abW _,aaL _,Ow.nil _ _ _ _,Ow.nil _ _ _ _,by simp⟩
 rintro⟨j,va,vb⟩ H ⟨I1,A1,B1,m,rfl,b4,a6,hj,hA,hB,b0⟩ aS;simp only at hj hA hB b0;have da:m.length=j:=by rw[b0,abF];omega
 simp only[vE];obtain⟨aa,ac,rfl⟩:=hA.shape;obtain⟨ba,bc,rfl⟩:=hB.shape;rcases aaf j l.length with bC|cA
 ·have cd:decide ((j:Int)<(l.length:Int))=true:=abU ab;have e1:=Z7 (i:=j) ab;obtain⟨x,hx⟩:∃x,l[j]?=some x:=⟨_,aak bC⟩;obtain⟨b,off,cs,rfl,⟨vc,rfl,hc⟩,ak⟩:=Sl.load (fun{I} c a h=>LN.len c a h) (Sw.le hS a6) hx;obtain⟨ca,cc,rfl,_⟩:=id hc;have c0:=ak.get (i:=0) rfl;have c1:=ak.get (i:=1) rfl;have c2:=ak.get (i:=2) rfl;obtain⟨b1,b2⟩:=hb x (aaV hx);have cx:((l.take j).map eL).length=j:=by simp;omega
  have hI:I1.le (U [I1,A1,B1]):=cP b4;apply RG;simp only[go_sem,iv,cd];apply EQ (fun(y:Value)=>vE (.slice (some ⟨b,off,none⟩) l.length lc) u (j,y,.slice ba m.length bc)) (fun y H=>∃I A B,H=U [I,A,B]/\Dj [I,A,B]/\I1.le I/\yJ I A y ((l.take (j+1)).map eL)/\NO u I B (.slice ba m.length bc) m)
  ·intro hg;have fin:∀{J A B:PH} {ua:Option Addr} {uc nb:Nat} {sv:Value} {za:Option Addr} {zk:Nat},I1.le J->yJ J A (.slice ua ((l.take j).map eL++[eL x]).length uc) ((l.take j).map eL++[eL x])->yJ J A (.slice ua ((l.take j).map eL++[eL x]).length uc) ((l.take (j+1)).map eL):=fun _ h=>by rw[df hx,abP];exact h
   refine zT mixed [0,1,2,3,4,5,6,7,8,9,10,11,12,14,15,16,17,18] 13 19 [20,21,22,23,24] [20,21,22,23,24] [] [] [6,11,18] [13,19,21] I1 rfl rfl ?_;apply mI;simp only[go_sem,iv]
   try refine⟨ab,?_⟩
   refine lB (l:=[.int .u8 x.kind]) rfl hI rfl rfl rfl (by simpa using c0) (.inr ⟨Uv,rfl⟩) ?_;apply mI;simp only[go_sem,iv]
   try refine⟨ab,?_⟩
   refine lB (l:=[.string ⟨⟨x.text⟩⟩]) rfl hI rfl rfl rfl (by simpa using c1) (.inr ⟨tL,rfl⟩) ?_;apply mI;simp only[go_sem,iv]
   try refine⟨ab,?_⟩
   refine lB (l:=[.slice ca x.cubes.length cc]) rfl hI rfl rfl rfl (by simpa using c2) (.inr ⟨Ky,rfl⟩) ?_;apply mI;simp only[go_sem,iv];refine wC ?_ ?_;refine bj b4 (by exact tz) rfl rfl rfl rfl rfl bg fun nb I4 a1 ag b6=>?_;refine dS ?_;refine DX a1 [0,1] rfl (fun _=>ag) rfl Lk (by rfl) (ps:=[]) (F:=[A1,B1]) rfl (Rl (Ch.le hc ag) ab) fun v1 I5 qs an am hq=>?_;obtain⟨rfl,hr⟩:=hq;simp only[Z3]at an |-;obtain⟨za,zk,rfl⟩:=hr.shape2;refine lE ?_;refine bj an (by exact IP) rfl rfl rfl rfl rfl bg fun kb I6 aq aj a7=>?_;have a4:=abV ag (abV am aj);have bF:Sl dz I6 (.slice (some ⟨kb,0,none⟩) 1 1) [eL x]:=⟨_,_,rfl,.inr ⟨kb,0,_,rfl,(az a7 (by simp[aD,Value.cells]) (by simp[aD,Value.cells,iv,sD,rD]):aP I6 kb 0 [.int .u8 x.kind,.string ⟨⟨x.text⟩⟩,.slice (some ⟨nb,0,none⟩) 1 1,.int .i64 0,.int .i64 0,sD za zk (mE x.cubes),rD (mE x.cubes)]),.one ⟨.slice (some ⟨nb,0,none⟩) 1 1,0,0,za,zk,by simp[eL,sD,rD,iv],rfl,hr.le aj⟩⟩⟩
   rotate_left
   refine DX b4 [0,1] rfl (fun _=>abW _) rfl Lk (by rfl) (ps:=[]) (F:=[A1,B1]) rfl (Rl hc ab) fun v1 I5 qs an am hq=>?_;obtain⟨rfl,hr⟩:=hq;simp only[Z3]at an |-;obtain⟨za,zk,rfl⟩:=hr.shape2;refine lE ?_;refine bj an (by exact tz) rfl rfl rfl rfl rfl bg fun nb I4 a1 ag b6=>?_;refine lE ?_;refine bj a1 (by exact IP) rfl rfl rfl rfl rfl bg fun kb I6 aq aj a7=>?_;have a4:=abV am (abV ag aj);have bF:Sl dz I6 (.slice (some ⟨kb,0,none⟩) 1 1) [eL x]:=⟨_,_,rfl,.inr ⟨kb,0,_,rfl,(az a7 (by simp[aD,Value.cells]) (by simp[aD,Value.cells,iv,sD,rD]):aP I6 kb 0 [.int .u8 x.kind,.string ⟨⟨x.text⟩⟩,.slice (some ⟨nb,0,none⟩) 1 1,.int .i64 0,.int .i64 0,sD za zk (mE x.cubes),rD (mE x.cubes)]),.one ⟨.slice (some ⟨nb,0,none⟩) 1 1,0,0,za,zk,by simp[eL,sD,rD,iv],rfl,hr.le (abV ag aj)⟩⟩⟩
   all_goals
    refine dS ?_;refine fP (R:=dz) (xs:=(l.take j).map eL) (ys:=[eL x]) aq (by exact IP) (yJ.le hA a4) bF (fun{I J c a} h k=>dz.le h k) (fun{I} c a h=>dz.len c a h) (fun{I} c a h=>dz.ones h) rfl rfl rfl rfl rfl rfl (by simp only[aaj,aaO];omega) (by simp only[aaj,aaO];unfold maxLen;omega) fun ua uc I7 A7 b3 a5 c9=>?_;refine dS ?_;refine aw ?_;have k7:=abV a4 a5;exact hg (.slice ua ((l.take j).map eL++[eL x]).length uc) _ _ ⟨I7,A7,B1,rfl,b3,k7,by rw[df hx,abP];exact c9,NO.le hB k7⟩ bM (by simp only[go_sem,aa6,vE])
  rintro va2 H ⟨I2,A2,B2,rfl,a1,al,cm,b8⟩;obtain⟨aa2,ac2,rfl⟩:=cm.shape;simp only[vE];have c0:=c0.le al;have c1:=c1.le al;have c2:=c2.le al;have hc:=Ch.le hc al;have hI:I2.le (U [I2,A2,B2]):=cP a1;refine dP ?_;apply EQ (fun(y:Value)=>vE (.slice (some ⟨b,off,none⟩) l.length lc) u (j,.slice aa2 ((l.take (j+1)).map eL).length ac2,y)) (fun y H=>∃I A B,H=U [I,A,B]/\Dj [I,A,B]/\I2.le I/\yJ I A (.slice aa2 ((l.take (j+1)).map eL).length ac2) ((l.take (j+1)).map eL)/\NO u I B y (m++[x]))
  ·intro hg;refine zT mixed [0,1,2,3,4,5,6,7,8,9,10,11,13,14,15,16,17,18] 12 19 [20,21,22,23] [20,21,22,23] [] [] [5,10,17] [12,19,21] I2 rfl rfl ?_;apply mI;simp only[go_sem,iv]
   try refine⟨ab,?_⟩
   refine lB (l:=[.int .u8 x.kind]) rfl hI rfl rfl rfl (by simpa using c0) (.inr ⟨Uv,rfl⟩) ?_;apply mI;simp only[go_sem,iv]
   try refine⟨ab,?_⟩
   refine lB (l:=[.string ⟨⟨x.text⟩⟩]) rfl hI rfl rfl rfl (by simpa using c1) (.inr ⟨tL,rfl⟩) ?_;apply mI;simp only[go_sem,iv]
   try refine⟨ab,?_⟩
   refine lB (l:=[.slice ca x.cubes.length cc]) rfl hI rfl rfl rfl (by simpa using c2) (.inr ⟨Ky,rfl⟩) ?_;apply mI;simp only[go_sem,iv];refine wC ?_ ?_;refine bj a1 (by exact tz) rfl rfl rfl rfl rfl bg fun nb I4 an ag b6=>?_;refine dS ?_;refine DX an [0,1] rfl (fun _=>ag) rfl MP (by rfl) (ps:=[]) (F:=[A2,B2]) rfl (Gz (Ch.le hc ag) ab bb bs) fun v1 I5 qs aq am hq=>?_;obtain⟨rfl,ht⟩:=hq;obtain⟨ta,tc,rfl,_⟩:=id ht;simp only[Z3]at aq |-;refine dS ?_;refine bj aq (by exact Iw) rfl rfl rfl rfl rfl bg fun kb I6 b3 aj a7=>?_;have a4:=abV ag (abV am aj);have bF:Sl (fI u) I6 (.slice (some ⟨kb,0,none⟩) 1 1) [x]:=⟨_,_,rfl,.inr ⟨kb,0,_,rfl,(az a7 (by simp[aD,Value.cells]) (by simp[aD,Value.cells,iv]):aP I6 kb 0 [.int .u8 x.kind,.string ⟨⟨x.text⟩⟩,.slice (some ⟨nb,0,none⟩) 1 1,.int .i64 0,.int .i64 0,.slice ta (jE x.cubes u).length tc]),.one ⟨.slice (some ⟨nb,0,none⟩) 1 1,_,rfl,rfl,ht.le aj⟩⟩⟩
   rotate_left
   refine DX a1 [0,1] rfl (fun _=>abW _) rfl MP (by rfl) (ps:=[]) (F:=[A2,B2]) rfl (Gz hc ab bb bs) fun v1 I5 qs aq am hq=>?_;obtain⟨rfl,ht⟩:=hq;obtain⟨ta,tc,rfl,_⟩:=id ht;simp only[Z3]at aq |-;refine dS ?_;refine bj aq (by exact tz) rfl rfl rfl rfl rfl bg fun nb I4 an ag b6=>?_;refine dS ?_;refine bj an (by exact Iw) rfl rfl rfl rfl rfl bg fun kb I6 b3 aj a7=>?_;have a4:=abV am (abV ag aj);have bF:Sl (fI u) I6 (.slice (some ⟨kb,0,none⟩) 1 1) [x]:=⟨_,_,rfl,.inr ⟨kb,0,_,rfl,(az a7 (by simp[aD,Value.cells]) (by simp[aD,Value.cells,iv]):aP I6 kb 0 [.int .u8 x.kind,.string ⟨⟨x.text⟩⟩,.slice (some ⟨nb,0,none⟩) 1 1,.int .i64 0,.int .i64 0,.slice ta (jE x.cubes u).length tc]),.one ⟨.slice (some ⟨nb,0,none⟩) 1 1,_,rfl,rfl,ht.le (abV ag aj)⟩⟩⟩
   all_goals
    refine dS ?_;refine nI b3 [1,0] fun c4=>?_;refine fP (R:=fI u) (xs:=m) (ys:=[x]) c4 (by exact Iw) (NO.le b8 a4) bF (fun{I J c a} h k=>fI.le h k) (fun{I} c a h=>fI.len c a h) (fun{I} c a h=>fI.ones h) rfl rfl rfl rfl rfl rfl (by simp only[aaj,aaO];omega) (by simp only[aaj,aaO];unfold maxLen;omega) fun ua uc I7 B7 c3 a5 c7=>?_;refine dS ?_;refine nI c3 [1,0] fun b7=>?_;refine aw ?_;have k7:=abV a4 a5;exact hg (.slice ua (m++[x]).length uc) _ _ ⟨I7,A2,B7,rfl,b7,k7,yJ.le cm k7,c7⟩ bM (by simp only[go_sem,aa6,vE])
  rintro vb2 H ⟨I3,A3,B3,rfl,an,ao,cb,c8⟩;simp only[vE];apply RG;simp only[go_sem,iv,e1];exact aS (j+1,.slice aa2 ((l.take (j+1)).map eL).length ac2,vb2) _ _ dt bM (by simp only[go_sem,aa6,vE]) ⟨I3,A3,B3,m++[x],rfl,an,abV a6 (abV al ao),bC,cb,c8,by simp only;rw[df hx,<-b0]⟩
 ·have:j=l.length:=by omega
  subst this;have cd:=Z6 l.length;rw[aaS]at hA b0 |-;subst m;refine bf b4 [1,0] fun a1=>?_;refine bf a1 [0,1] fun an=>?_;refine ae (c:=.st _) an fun I2 an al b8=>?_;refine bf an [0] fun aq=>?_;refine ae (c:=.st _) aq fun I3 aq ao cb=>?_;apply RG;simp only[go_sem,iv,cd];refine af rfl aq (r:=[.agg #[.slice aa (l.map eL).length ac,.slice none 0 0],.slice ba l.length bc,.int .u32 u,.bool true]) (by simp only[results16,go_sem,iv]) (abV a6 (abV al ao)) ⟨rfl,.inr ⟨_,_,_,u,rfl,⟨⟨_,_,_,_,rfl,abX (R:=dz) (fun{I J c a} h k=>dz.le h k) (yJ.le hA al) ao cb⟩,?_,?_,?_⟩,ab,⟨_,_,_,_,rfl,hA.cap (fun c a h=>dz.len c a h)⟩,?_,hu,bd,a9,a2⟩⟩
  ·intro t ht;obtain⟨y,hy,rfl⟩:=List.mem_map.1 ht;exact Ju y.cubes
  ·rw[aah];omega
  ·intro t ht;obtain⟨y,hy,rfl⟩:=List.mem_map.1 ht;exact(hb y hy).2
  ·exact abX (R:=fI u) (fun{I J c a} h k=>fI.le h k) hB (abV al ao) (abV b8 ao)
def Oj:aO prog 128:=⟨_,func128,rfl,rfl⟩
def R7:aO prog 73:=⟨_,func73,rfl,rfl⟩
def P8(v:Value)(c:Nat)(i:Nat):St:=⟨dn 18 [(0,.v v),(1,.v (.int .u32 c)),(5,.v (iv i))],[]⟩
variable{H:PH}
def UH{m:List Nat}{c:Nat}(hS:JF H v m)(hl:m.length<2^60):bO prog 128 #[v,.int .u32 c] H fun r H2=>r=.bool (m.contains c)/\H2=H:=by
 obtain⟨va,vc,rfl,_⟩:=id hS;refine ah 18 func128 fun w0=>?_;refine aT ?_;refine aA (fun x=>m.length-x) (P8 (.slice va m.length vc) c) (fun i H2=>H2=H/\i<=m.length/\(m.drop i).contains c=m.contains c) 0 bM (by simp only[go_sem,aa6,P8]) ⟨rfl,aaL _,rfl⟩ ?_;rintro i H2 ⟨rfl,hi,ha⟩ aa;simp only[P8];rcases aaf i m.length with ag|ak
 ·have h9:decide ((i:Int)<(m.length:Int))=true:=abU ab;have e1:=Z7 (i:=i) ab;obtain⟨x,hx⟩:∃x,m[i]?=some x:=⟨_,aak ag⟩;obtain⟨b,off,cs,rfl,⟨rfl,x32⟩,ac⟩:=Sl.load (fun{I} c a h=>ot.len (I:=I) c a h) hS hx;have aj:m.drop i=x::m.drop (i+1):=by
   rw[aaK ag];rw[aak ag]at hx;rw[aaZ hx]
  rw[aj,List.contains_cons]at ha;have hq:((x:Int) == (c:Int))=(c == x):=by rw[Bool.eq_iff_iff,beq_iff_eq,beq_iff_eq];omega
  apply RG;simp only[go_sem,iv,h9]
  try refine⟨ab,?_⟩
  refine XN (l:=[.int .u32 x]) rfl (by simpa using ac) (.inr ⟨oR,rfl⟩) ?_;cases hc:(c == x)
  ·rw[hc,abw]at ha;rw[hc]at hq;apply RG;simp only[go_sem,iv,hq,e1];exact aa (i+1) _ _ ab bM (by simp only[go_sem,aa6,P8]) ⟨rfl,ag,ha⟩
  ·rw[hc,Bool.true_or]at ha;rw[hc]at hq;apply RG;simp only[go_sem,iv,hq];exact aJ (r:=[_]) rfl ⟨by rw[<-ha];rfl,rfl⟩
 ·have:i=m.length:=by omega
  subst this;rw[abH]at ha;have h9:=Z6 m.length;apply RG;simp only[go_sem,iv,h9];exact aJ (r:=[_]) rfl ⟨by rw[<-ha];rfl,rfl⟩
def yU(l:List It):List Syn.Tok:=(l.map eL).map refit
def HE(l:List It):(yU l).length=l.length:=by simp[yU]
variable{t:Syn.Tok}
def Lo(c:bP){ts:List Syn.Tok}{i:Nat}(h:ts[i]?=some t):fG c (ts.take (i+1))=fG c (ts.take i)++(if t.cond.at' c then [t]else [])/\jY c (ts.take (i+1)) 0=jY c (ts.take i) 0++(if t.cond.at' c then [i]else []):=by
 have hl:=(List.getElem?_eq_some_iff.1 h).1;rw[df h];constructor
 ·unfold fG;rw[List.filter_append,aby];split<;>simp_all
 ·rw[AS,abF,ZZ,aaN ab];simp only[jY]
def DT.ones(h:DT I c t):c.all Sx.one=true:=by
 obtain⟨v1,v2,v3,v4,rfl,h1,h2,h3,h4⟩:=h;simp only[List.all_cons,List.all_nil,h1,h2,h3,h4,abv];rfl
abbrev Ip(I A:PH)(v:Value)(l:List Syn.Tok):Prop:=Ow DT 136 6 I A v l
def Ip.le{A:PH}{l:List Syn.Tok}(h:Ip I A v l)(k:I.le J):Ip J A v l:=Ow.le (R:=DT) (fun{I J c a} h k=>h) h k
structure YG where
 i:Nat
 la:Option Addr
 ln:Nat
 lc:Nat
 xa:Option Addr
 xn:Nat
 xc:Nat
def V8(v:Value)(c n:Nat)(x:YG):St:=⟨dn 48 [(0,.v v),(1,.v (.int .u32 c)),(5,.p 10 0),(6,.v (iv x.i))],[⟨10,150,[.slice x.la x.ln x.lc,.slice x.xa x.xn x.xc,iv n,.int .i64 0,.int .i64 0,.bool false,.int .u8 0,.int .i64 0]⟩]⟩
def Zt(c:bP)(l:List It)(I0:PH)(x:YG)(H:PH):Prop:=
 ∃I A B,H=U [I,A,B]/\Dj [I,A,B]/\I0.le I/\x.i<=l.length/\Ip I A (.slice x.la x.ln x.lc) (fG c ((yU l).take x.i))/\x.ln=(fG c ((yU l).take x.i)).length/\Ue I B (.slice x.xa x.xn x.xc) (jY c ((yU l).take x.i) 0)/\x.xn=(jY c ((yU l).take x.i) 0).length
theorem PZ{c:Nat}(hS:Sl (fI u) I v l)(hl:l.length<400)(hu:u<2^24)(a3:∀y∈l,qb y.cubes u)(hp:pR u 32<=8)(hb:∀x∈l,W3 x):
  aK prog 73 #[v,.int .u32 (c&&&u:Nat)] I [] fun r I2 qs=>∃pb lv xv,r=pt pb/\qs=[sg pb (bG lv xv l.length ⟨0,0,false,0,0⟩)]/\Ex (ch c) (yU l) I2 lv xv:=by
 obtain⟨va,vc,rfl,_⟩:=id hS;intro hd;refine ah 48 func73 fun w0=>?_;refine dP ?_;refine aR hd fun ca=>?_;refine aR ca fun b8=>?_;refine aA (fun x=>l.length-x.i) (V8 (.slice va l.length vc) (c&&&u) l.length) (Zt (ch c) l I) ⟨0,none,0,0,none,0,0⟩ bM (by simp only[go_sem,aa6,V8,iv]) ?_ ?_
 ·exact⟨I,_,_,rfl,b8,abW _,aaL _,Ow.nil _ _ _ _,rfl,Ow.nil _ _ _ _,rfl⟩
 rintro⟨i,la,ln,lc,xa,xn,xc⟩ H ⟨I1,A1,B1,rfl,an,ac,hi,hA,ak,hB,am⟩ ag;simp only at hi hA ak hB am;simp only[V8];have bF:=HE l;have b1:ln<=i:=by rw[ak];exact ZS (List.length_filter_le _ _) (by rw[abF];omega)
 have b2:xn<=i:=by rw[am,s9];rw[ak]at b1;exact b1
 rcases aaf i l.length with a6|cl
 ·have ba:decide ((i:Int)<(l.length:Int))=true:=abU ab;have e1:=Z7 (i:=i) ab;obtain⟨x,hx⟩:∃x,l[i]?=some x:=⟨_,aak a6⟩;have bs:(yU l)[i]?=some (refit (eL x)):=by unfold yU;rw[aai,aai,hx];rfl
  obtain⟨f1,f2⟩:=Lo (ch c) bs;have cb:(refit (eL x)).cond.at' (ch c)=Ek x.cubes c:=JC x.cubes c;rw[cb]at f1 f2;have bx:=a3 x (aaV hx);have a5:=Fe (c:=c) (show u<2^32 by omega) bx;have b3:(jE x.cubes u).length<2^60:=by
   have h1:(jE x.cubes u).length<=(eY u 32).length:=List.length_filter_le _ _;rw[m9]at h1;have h2:2^pR u 32<=2^8:=abe ab hp;omega
  obtain⟨b,off,cs,rfl,⟨pv,ia,rfl,a4,bd⟩,aj⟩:=Sl.load (fun{I} c a h=>fI.len (I:=I) c a h) (Sl.le (R:=fI u) (fun{I J c a} h k=>fI.le h k) hS ac) hx;obtain⟨ja,jc,rfl,_⟩:=id bd;have c5:=aj.get (i:=5) rfl;apply RG;simp only[go_sem,iv,ba]
  try refine⟨ab,?_⟩
  refine XN (l:=[.slice ja (jE x.cubes u).length jc]) rfl (cellsU an (.head _) (by simpa using c5)) (.inr ⟨S6,rfl⟩) ?_;refine dP ?_;refine WZ rfl Oj (UH (bd.le (cP an)) b3) fun v H2 hv=>?_;obtain⟨rfl,rfl⟩:=hv;rw[a5];cases bc:Ek x.cubes c
  ·rw[bc]at f1 f2;simp only[aa5,Z2,aa6]at f1 f2;apply RG;simp only[go_sem,iv,e1];exact ag ⟨i+1,la,ln,lc,xa,xn,xc⟩ _ _ dt bM (by simp only[go_sem,aa6,V8,iv]) ⟨I1,A1,B1,rfl,an,ac,a6,by simp only;rw[f1];exact hA,by simp only;rw[f1];exact ak,by simp only;rw[f2];exact hB,by simp only;rw[f2];exact am⟩
  ·rw[bc]at f1 f2;simp only[ZT]at f1 f2;subst ak am;refine dP ?_;refine cK mixed [0,1,2,3,4,5,6,7,8,9,10,11,12,13] [8] [] [4] [] [10] rfl rfl ?_;refine dS ?_
   try refine⟨ab,?_⟩
   unfold Sx.one at a4;refine W7 (l:=[.int .u8 x.kind,.string ⟨⟨x.text⟩⟩,pv,.int .i64 0,.int .i64 0,.slice ja (jE x.cubes u).length jc]) (v:=.agg #[.int .u8 x.kind,.string ⟨⟨x.text⟩⟩,pv,.int .i64 0,.int .i64 0,.slice ja (jE x.cubes u).length jc]) rfl (cellsU an (.head _) (by simpa using aj)) (.inl ⟨MS,rfl⟩) ?_;apply au;simp only[go_sem,iv,a4];refine bj an (by exact Iw) rfl rfl rfl rfl rfl bg fun kb I4 a2 aS b4=>?_;have cc:Sl DT I4 (.slice (some ⟨kb,0,none⟩) 1 1) [refit (eL x)]:=⟨_,_,rfl,.inr ⟨kb,0,_,rfl,(az b4 (by simp[aD,Value.cells]) (by simp[aD,Value.cells]):aP I4 kb 0 [.int .u8 x.kind,.string ⟨⟨x.text⟩⟩,pv,.int .i64 0,.int .i64 0,.slice ja (jE x.cubes u).length jc]),.one ⟨pv,.int .i64 0,.int .i64 0,.slice ja (jE x.cubes u).length jc,rfl,a4,rfl,rfl,rfl⟩⟩⟩;refine dS ?_;refine fP (R:=DT) (xs:=fG (ch c) ((yU l).take i)) (ys:=[refit (eL x)]) a2 (by exact Iw) (Ip.le hA aS) cc (fun{I J c a} h k=>h) (fun{I} c a h=>DT.len (I:=I) c a h) (fun{I} c a h=>DT.ones (I:=I) h) rfl rfl rfl rfl rfl rfl (by simp only[aaj,aaO];omega) (by simp only[aaj,aaO];unfold maxLen;omega) fun ua uc I5 A5 a1 a7 ci=>?_;refine dS ?_;refine aw ?_;refine dP ?_;refine bf a1 [1,0] fun a9=>?_;refine ax a9 (by exact tz) rfl rfl rfl rfl rfl bg fun xb I6 b7 aq bC=>?_;have bb:=abV aS (abV a7 aq);have hX:Sl NQ I6 (.slice (some ⟨xb,0,none⟩) 1 1) [i]:=⟨_,_,rfl,.inr ⟨xb,0,[iv i],rfl,az bC (by simp[aD,Value.cells]) (by simp[aD,Value.cells,iv]),.one rfl⟩⟩;refine dP ?_
   refine bl (R:=NQ) (xs:=jY (ch c) ((yU l).take i) 0) (ys:=[i]) b7 (by exact tz) (Ue.le hB bb) hX (fun{I J c a} h k=>h) (fun{I} c a h=>by rw[show c=_ from h];rfl) (fun{I} c a h=>by rw[show c=_ from h];rfl) rfl rfl rfl rfl (by simp only[aaj,aaO];omega) (by simp only[aaj,aaO];unfold maxLen;omega) fun wa wc I7 B7 b6 ao cd=>?_;refine bf b6 [1,0] fun b5=>?_;apply RG;simp only[go_sem,iv,e1];exact ag ⟨i+1,ua,(fG (ch c) ((yU l).take i)++[refit (eL x)]).length,uc,wa,(jY (ch c) ((yU l).take i) 0++[i]).length,wc⟩ _ _ dt bM (by simp only[go_sem,aa6,V8,iv]) ⟨I7,A5,B7,rfl,b5,abV ac (abV bb ao),a6,by simp only;rw[f1];exact Ip.le ci (abV aq ao),by simp only;rw[f1],by simp only;rw[f2];exact cd,by simp only;rw[f2]⟩
 ·have:i=l.length:=by omega
  subst this;have ba:=Z6 l.length;have et:(yU l).take l.length=yU l:=by rw[<-bF];exact aaS
  rw[et]at hA ak hB am;refine bf an [0,1] fun a2=>?_;refine ae (c:=.st _) a2 fun I2 a2 al cj=>?_;refine bf a2 [0] fun a1=>?_;refine ae (c:=.st _) a1 fun I3 a1 aa cf=>?_;apply bL 7;simp only[go_sem,iv,ba];refine fV 10 a1 rfl fun pb a9=>?_;subst ak am;apply RG;simp only[go_sem,mF,List.map];refine af rfl a9 (r:=[pt pb]) rfl (abV ac (abV al aa)) ⟨pb,_,_,rfl,rfl,⟨abX (R:=DT) (fun{I J c a} h k=>h) hA (abV al aa) (abV cj aa),abX (R:=NQ) (fun{I J c a} h k=>h) hB (abV al aa) cf,s9 _ _ _,?_,?_⟩⟩
  ·have:(fG (ch c) (yU l)).length<=(yU l).length:=List.length_filter_le _ _;omega
  ·intro t ht;have ht:=(List.mem_filter.1 ht).1;unfold yU at ht;obtain⟨t',b0,rfl⟩:=List.mem_map.1 ht;obtain⟨y,hy,rfl⟩:=List.mem_map.1 b0;exact⟨rfl,(hb y hy).2⟩
def Nf:aO prog 75:=⟨_,func75,rfl,rfl⟩
abbrev Vq(w:Value)(I A:PH)(v:Value)(l:List Nd):Prop:=Ow (iS w) 67 6 I A v l
variable{w:Value}
def Vq.le{A:PH}{l:List Nd}(h:Vq w I A v l)(aa:I.le J):Vq w J A v l:=Ow.le (R:=iS w) (fun{I J c a} h k=>iS.le h k) h aa
def SlW.le{l:List Nd}(h:Sl (iS w) I v l)(aa:I.le J):Sl (iS w) J v l:=Sl.le (R:=iS w) (fun{I J c a} h k=>iS.le h k) h aa
def SlW.nil(w:Value)(I:PH):Sl (iS w) I eQ []:=⟨none,0,rfl,.inl rfl⟩
def iS.oneW(hw:Sx.one w=true){n:Nd}(h:iS w I c n):c.all Sx.one=true:=by
 obtain⟨vk,rfl,a,b,rfl,_⟩:=h.shape;simp only[List.all_cons,List.all_nil,hw,abv];rfl
def jK.len{d:Nat}(c:List Value)(n:Nd)(h:jK w d I c n):c.length=6:=iS.len (w:=w) (I:=I) c n ⟨d,h⟩
def SJ(n:Nd)(vk w:Value)(x:Nat×Value):St:=⟨dn 29 [(1,.v w),(2,.p 2 0),(4,.p 4 0),(5,.v x.2),(6,.v (iv x.1))],[⟨2,67,[.int .u8 n.kind,.string ⟨⟨n.text⟩⟩,.int .i64 n.tok,.int .i64 n.slot,vk,w]⟩,⟨4,67,[.int .u8 0,.string ⟨#[]⟩,.int .i64 0,.int .i64 0,.slice none 0 0,.slice none 0 0]⟩]⟩
def YY(n:Nd)(w:Value)(I0:PH)(x:Nat×Value)(H:PH):Prop:=∃I A,H=U [I,A]/\Dj [I,A]/\I0.le I/\x.1<=n.kids.length/\Vq w I A x.2 (n.kids.take x.1)
variable{wa:Option Addr}
theorem Sf{wn wc:Nat}:∀(d:Nat) {I:PH} {vk:Value} {n:Nd},Sl (jK eQ d) I vk n.kids->du n.kids<=aN->aK prog 75 #[cG n vk eQ,.slice wa wn wc] I [] fun r I2 qs=>qs=[]/\∃vk2,r=cG n vk2 (.slice wa wn wc)/\Sl (iS (.slice wa wn wc)) I2 vk2 n.kids:=by
 intro d
 induction d with
 |zero=>
  intro I vk n hS hz;obtain⟨a,b,rfl,h2⟩:=id hS;have ag:n.kids=[]:=by
   rcases h2 with h2|⟨b',off,xs,e1,e2,e3⟩
   ·exact h2
   ·cases hk:n.kids with
    |nil=>rfl
    |cons m l=>
     rw[hk]at e3;obtain⟨_,_,_,h,_⟩:=e3;exact h.elim
  intro hd;have h0:decide (((0:Nat):Int)<(n.kids.length:Int))=false:=by rw[ag];rfl
  have h1:decide ((0:Int)<(n.kids.length:Int))=false:=by rw[ag];rfl
  refine ah 29 func75 fun w0=>?_
  try simp only[cG]
  refine dP ?_;refine aA (fun x=>n.kids.length-x.1) (SJ n (.slice a n.kids.length b) (.slice wa wn wc)) (fun x H=>x=(0,.slice none 0 0)/\H=U [I]) (0,.slice none 0 0) bM (by simp only[go_sem,aa6,SJ]) ⟨rfl,rfl⟩ ?_;rintro⟨i,vo⟩ H ⟨e,rfl⟩ ac;cases e
  simp only[SJ];apply RG;simp only[go_sem,iv,h0,h1];refine af rfl hd (r:=[cG n eQ (.slice wa wn wc)]) (by simp only[results75,go_sem,iv,cG]) (abW _) ⟨rfl,eQ,rfl,by rw[ag];exact SlW.nil _ _⟩
 |succ d ih=>
  intro I vk n hS hz hd;obtain⟨ka,kc,rfl,_⟩:=id hS;have bC:=iI n.kids;have bs:du n.kids<=1099511627776:=hz;refine ah 29 func75 fun w0=>?_
  try simp only[cG]
  refine dP ?_;refine aR hd fun ba=>?_;refine aA (fun x=>n.kids.length-x.1) (SJ n (.slice ka n.kids.length kc) (.slice wa wn wc)) (YY n (.slice wa wn wc) I) (0,.slice none 0 0) bM (by simp only[go_sem,aa6,SJ]) ?_ ?_
  ·exact⟨I,_,rfl,ba,abW _,aaL _,Ow.nil _ _ _ _⟩
  rintro⟨i,vo⟩ H ⟨I1,A1,rfl,ao,ak,hi,hA⟩ ac;simp only at hi hA;simp only[SJ];obtain⟨oa,oc,rfl⟩:=hA.shape;have a1:(n.kids.take i).length=i:=by rw[abF];omega
  rcases aaf i n.kids.length with a2|bF
  ·have aq:decide ((i:Int)<(n.kids.length:Int))=true:=abU ab;have e1:=Z7 (i:=i) ab;obtain⟨m,hm⟩:∃m,n.kids[i]?=some m:=⟨_,aak a2⟩;have a6:=aaV hm;have bx:=oG a6;obtain⟨b,off,cs,rfl,⟨vk2,rfl,a3⟩,am⟩:=Sl.load (R:=jK eQ (d+1)) (fun{I} c a h=>jK.len (I:=I) c a h) (Sl.le (R:=jK eQ (d+1)) (fun{I J c a} h k=>jK.le h k) hS ak) hm;obtain⟨qa,qc,rfl,_⟩:=id a3;apply RG;simp only[go_sem,iv,aq]
   try refine⟨ab,?_⟩
   refine XN (l:=[.int .u8 m.kind,.string ⟨⟨m.text⟩⟩,.int .i64 m.tok,.int .i64 m.slot,.slice qa m.kids.length qc,eQ]) (v:=cG m (.slice qa m.kids.length qc) eQ) rfl (cellsU ao (.head _) (by simpa using am)) (.inl ⟨Tw,rfl⟩) ?_;apply RG;simp only[go_sem,iv,cG];refine ad ao [0] [] [A1] rfl Nf rfl (ih a3 (by unfold aN;omega)) fun v I3 qs al aa a4=>?_;obtain⟨rfl,vk3,rfl,aS⟩:=a4;simp only[Z3]at al |-;obtain⟨ra,rc,rfl,_⟩:=id aS;apply RG;simp only[go_sem,iv,cG];refine ax al (by exact kH) rfl rfl rfl rfl rfl bg fun nb I4 a9 aj a5=>?_;have bb:Sl (iS (.slice wa wn wc)) I4 (.slice (some ⟨nb,0,none⟩) 1 1) [m]:=⟨_,_,rfl,.inr ⟨nb,0,_,rfl,(az a5 (by simp[aD,Value.cells]) (by simp[aD,Value.cells]):aP I4 nb 0 [.int .u8 m.kind,.string ⟨⟨m.text⟩⟩,.int .i64 m.tok,.int .i64 m.slot,.slice ra m.kids.length rc,.slice wa wn wc]),.one (iS.mk (SlW.le aS aj))⟩⟩;refine dP ?_;refine bl (R:=iS (.slice wa wn wc)) (xs:=n.kids.take i) (ys:=[m]) a9 (by exact kH) (Vq.le hA (abV aa aj)) bb (fun{I J c a} h k=>iS.le h k) (fun{I} c a h=>iS.len (I:=I) c a h) (fun{I} c a h=>iS.oneW rfl h) rfl rfl rfl rfl (by rw[a1];simp only[aaj,aaO];omega) (by rw[a1];simp only[aaj,aaO];unfold maxLen;omega) fun ua uc I5 A5 a7 an bc=>?_;apply RG;simp only[go_sem,iv,e1];exact ac (i+1,.slice ua (n.kids.take i++[m]).length uc) _ _ dt bM (by simp only[go_sem,aa6,SJ]) ⟨I5,A5,rfl,a7,abV ak (abV aa (abV aj an)),a2,by simp only;rw[show n.kids.take (i+1)=n.kids.take i++[m] from db hm];exact bc⟩
  ·have:i=n.kids.length:=by omega
   subst this;have aq:=Z6 n.kids.length;rw[aaS]at hA |-;refine bf ao [0] fun al=>?_;refine ae (c:=.st _) al fun I3 al aa bd=>?_;apply RG;simp only[go_sem,iv,aq];exact af rfl al (r:=[cG n (.slice oa n.kids.length oc) (.slice wa wn wc)]) (by simp only[results75,go_sem,iv,cG]) (abV ak aa) ⟨rfl,_,rfl,abX (R:=iS (.slice wa wn wc)) (fun{I J c a} h k=>iS.le h k) hA aa bd⟩
def Tj:aO prog 20:=⟨_,func20,rfl,rfl⟩
def YJ(w:Value)(_:PH)(c:List Value)(d:cO):Prop:=c=[.int .u8 d.code,.int .i64 d.tok,w]
def Yr(w:Value)(I:PH)(v:Value)(t:Tr):Prop:=∃vk vd,v=.agg #[vk,vd]/\Sl (iS w) I vk t.kids/\Sl (YJ w) I vd t.diags
theorem NU{c m:Nat}{q:PR}{wn wc:Nat}(hS:Sl (fI u) I v l)(hl:l.length<400)(hu:u<2^24)(aq:∀y∈l,qb y.cubes u)(hp:pR u 32<=8)(hb:∀x∈l,W3 x)
  (hq:bS (ch c) (yU l) m (.seqL true 0 (some 0) [] none)=some q) (hz:q.p.isSome=true->du q.l<=aN) :
  aK prog 20 #[v,.int .u32 (c&&&u:Nat),.slice wa wn wc] I [] fun r I2 qs=>qs=[]/\Yr (.slice wa wn wc) I2 r (eZ q):=by
 obtain⟨va,vc,rfl,_⟩:=id hS;intro hd;refine ah 35 func20 fun w0=>?_;refine aT ?_;refine bV hd rfl R7 (PZ hS hl hu aq hp hb) fun v I1 qs a9 an bd=>?_;obtain⟨pb,lv,xv,rfl,rfl,bC⟩:=bd;have g0:Sg (ch c) (yU l) ⟨0,0,false,0,0⟩ (some 0) 0 []:=⟨aaL _,rfl,rfl,by simp[cn,fG],aaL _,ab,rfl⟩;have a1:l.length=(yU l).length:=(HE l).symm;rw[a1]at a9 |-;refine OZ ?_;refine ad a9 [0] [sg pb _] [] rfl SQ rfl (HW bC g0 hq) fun v I2 qs ak am bc=>?_;obtain⟨s2,ks,vk,rfl,g2,rfl,a7,bs⟩:=bc;simp only[Z3]at ak |-;obtain⟨ka,kc,rfl,_⟩:=id a7;apply RG;simp only[go_sem,cG];refine XN (l:=[.bool s2.bad]) rfl (qQ ak) (.inr ⟨Ep,rfl⟩) ?_;have bF:=Bv hq (.inr rfl);cases aj:q.p with
 |none=>
  rw[aj]at g2;have a5:s2.bad=true:=g2.2.1;have ba:q.e=[(s2.code,s2.tok)]:=g2.2.2;apply RG;simp only[go_sem,a5];refine eP [0,1,2,3,4,5,6,7,8,9,10,11,12] [3,7] [] ?_;refine J7 ?_;refine W7 (l:=[.int .u8 s2.code]) rfl (qQ ak) (.inr ⟨QT,rfl⟩) ?_;refine J7 ?_;refine W7 (l:=[.int .i64 s2.tok]) rfl (qQ ak) (.inr ⟨jq,rfl⟩) ?_;refine gw ?_;refine bj ak (by exact Xv) rfl rfl rfl rfl rfl bg fun nb I4 a3 ag aS=>?_;refine gw ?_;refine aw ?_;refine bf a3 [0] fun ao=>?_;refine ae (c:=.st _) ao fun I5 ao aa b0=>?_;refine aT ?_;refine af rfl ao (r:=[.agg #[.slice none 0 0,.slice (some ⟨nb,0,none⟩) 1 1]]) (by simp only[results20,go_sem,iv]) (Em an am ag aa) ⟨rfl,_,_,rfl,?_,?_⟩
  ·have:(eZ q).kids=[]:=by unfold eZ;rw[aj];rfl
   rw[this];exact⟨none,0,rfl,.inl rfl⟩
  ·have:(eZ q).diags=[⟨s2.code,s2.tok,tt⟩]:=by unfold eZ;rw[ba];rfl
   rw[this];exact⟨_,_,rfl,.inr ⟨nb,0,_,rfl,((az aS (by simp[aD,Value.cells]) (by simp[aD,Value.cells]):aP I4 nb 0 [.int .u8 s2.code,.int .i64 s2.tok,.slice wa wn wc])).le aa,.one rfl⟩⟩
 |some j=>
  rw[aj]at g2;have a5:s2.bad=false:=g2.2.1;have bx:=bs j aj;have ac:=z8 ⟨m,hq⟩ aj;have hz:=hz (by rw[aj];rfl);rw[bx]at ac hz;have a2:∃d,Sl (jK eQ d) I2 (.slice ka ks.length kc) ks:=by
   obtain⟨a,b,e,h⟩:=a7;rcases h with h|⟨b',off,xs,e1,e2,e3⟩
   ·exact⟨0,a,b,e,.inl h⟩
   ·obtain⟨d,h4⟩:=LR.depthR e3;exact⟨d,a,b,e,.inr ⟨b',off,xs,e1,e2,h4⟩⟩
  obtain⟨d,a2⟩:=a2;refine bf ak [0] fun a4=>?_;refine ae a4 fun I3 a4 al b1=>?_;apply RG;simp only[go_sem,a5];refine bV a4 rfl Nf (Sf d (n:=⟨1,[],-1,0,ks,tt⟩) (Sl.le (R:=jK eQ d) (fun{I J c a} h k=>jK.le h k) a2 al) hz) fun v I4 qs a3 ag bb=>?_;obtain⟨rfl,vk4,rfl,a6⟩:=bb;obtain⟨ra,rc,rfl,_⟩:=id a6;apply RG;simp only[go_sem,cG];refine ax a3 (by exact kH) rfl rfl rfl rfl rfl bg fun nb I5 ao aa aS=>?_;refine aT ?_;refine af rfl ao (r:=[.agg #[.slice (some ⟨nb,0,none⟩) 1 1,.slice none 0 0]]) (by simp only[results20,go_sem,iv]) (Kg an am al ag aa) ⟨rfl,?_⟩;rw[ac];exact⟨_,_,rfl,⟨_,_,rfl,.inr ⟨nb,0,_,rfl,(az aS (by simp[aD,Value.cells]) (by simp[aD,Value.cells]):aP I5 nb 0 [.int .u8 1,.string ⟨#[]⟩,.int .i64 (-1),.int .i64 0,.slice ra ks.length rc,.slice wa wn wc]),.one (iS.mk (n:=⟨1,[],-1,0,ks,tt⟩) (SlW.le a6 aa))⟩⟩,⟨none,0,rfl,.inl rfl⟩⟩
def Oz:aO prog 107:=⟨_,func107,rfl,rfl⟩
def TI:aO prog 53:=⟨_,func53,rfl,rfl⟩
def Yb(P:Program)(T:TypeId)(cs:Array Value):Prop:=P.eqGuardType P.depth T=false/\∀w,(Op.equalIn 10000 T (.agg cs) (.agg cs)).run P w=.ok true w
variable{cs:Array Value}{T2:TypeId}
def Kn{P:Program}{σ:St}{o:Oper}{T:TypeId}{op:BinOp}{x y:Operand}(aa:o.op=.binOp op T x y T2)(ho:op=.eql\/op=.neq)(hx:ev σ x=.v (.agg cs))(hy:ev σ y=.v (.agg cs))(he:Yb P T cs):
  bh σ o.op=true/\∀w,Sub H w->(execOp (bN σ) o).run P w=.ok (.value (.bool (match op with | .neq=>false|_=>true))) w:=by
 constructor
 ·simp[bh,aa,fT,Op.operands,hx,hy,ul]
 ·intro w _;rcases ho with rfl|rfl
  ·simp[execOp,aa,bN,hx,hy,ZY,run_eqGuard_agg w .eql T x y cs cs he.1,run_eql_struct,he.2 w,Result.andThen]
  ·simp[execOp,aa,bN,hx,hy,ZY,run_eqGuard_agg w .neq T x y cs cs he.1,run_neq_struct,he.2 w,Result.andThen]
def TD{C:Cx}{ol:List Oper}{fr:iK}{str:ip}{k:List Item}{σ:St}{i:Nat}{o:Oper}{l:List (Nat×Oper)}{T:TypeId}{x y:Operand}(hf:fr.h.contains i=true)(hw:aH ol σ o=some true)(aa:o.op=.binOp .neq T x y T2)(hx:ev σ x=.v (.agg cs))(hy:ev σ y=.v (.agg cs))(he:Yb C.P T cs)(h:RD C ol fr str l k (σ.put o.dst (.v (.bool false))) H):RD C ol fr str ((i,o)::l) k σ H:=by
 obtain⟨q1,q2⟩:=Kn (H:=H) aa (.inr rfl) hx hy he;exact wB (.bool false) hf hw q1 (by rw[aa];rfl) q2 h
def Ua(a b c:Int):Yb prog 181 #[.int .i64 a,.int .i64 b,.int .i64 c]:=by
 refine⟨by kernel_rfl,fun w=>?_⟩;have hS:prog.underlying 181=some (.struct (prog.fieldsOf 181)):=by kernel_rfl
 have hp:prog.stoodInHeld 181=false:=by kernel_rfl
 have hf:(prog.fieldsOf 181).toList=[⟨ "Var",3,0,false,"","",0⟩,⟨ "Low",3,1,false,"","",8⟩,⟨ "High",3,2,false,"","",16⟩]:=by unfold Program.fieldsOf;rw[Ka]
 have p0:(part 3 #[.int .i64 a,.int .i64 b,.int .i64 c] 0).run prog w=.ok (.int .i64 a) w:=qh (by unfold iR;rw[jq];rfl);have p1:(part 3 #[.int .i64 a,.int .i64 b,.int .i64 c] 1).run prog w=.ok (.int .i64 b) w:=qh (by unfold iR;rw[jq];rfl);have p2:(part 3 #[.int .i64 a,.int .i64 b,.int .i64 c] 2).run prog w=.ok (.int .i64 c) w:=qh (by unfold iR;rw[jq];rfl);rw[show (10000:Nat)=9998+1+1 from rfl,run_equalIn_agg w (9998+1) 181 _ _ hS hp,hf];simp[Op.eqFields,ZY,p0,p1,p2,Result.andThen,run_equalIn_int w 9998 3 .i64 .i64 _ _ S5]
def Qn(v1 v2:Value)(n i:Nat):St:=⟨dn 26 [(0,.v v1),(1,.v v2),(11,.v v1),(12,.v (iv n)),(13,.v (iv i))],[]⟩
def O9{v1 v2:Value}{ts:List T}(h1:uo H v1 ts)(h2:uo H v2 ts)(hl:ts.length<2^40):bO prog 107 #[v1,v2] H fun r H2=>r=.bool true/\H2=H:=by
 obtain⟨a1,c1,rfl,g1⟩:=h1;obtain⟨a2,c2,rfl,g2⟩:=h2;refine ah 26 func107 fun w0=>?_;have h0:((ts.length:Int) != (ts.length:Int))=false:=by simp
 apply RG;simp only[go_sem,h0];refine aA (fun x=>ts.length-x) (Qn (.slice a1 ts.length c1) (.slice a2 ts.length c2) ts.length) (fun i H2=>H2=H/\i<=ts.length) 0 bM (by simp only[go_sem,aa6,Qn]) ⟨rfl,aaL _⟩ ?_;rintro i H2 ⟨rfl,hi⟩ aa;simp only[Qn];rcases aaf i ts.length with ac|ak
 ·have ag:decide ((i:Int)<(ts.length:Int))=true:=abU ab;have e1:=Z7 (i:=i) ab;obtain⟨t,ht⟩:∃t,ts[i]?=some t:=⟨_,aak ac⟩;have aj:(EN ts).length=ts.length*3:=qp _;have ld:∀{a:Option Addr},(ts=[]\/∃b,a=some ⟨b,0,none⟩/\aP H2 b 0 (EN ts))->∃b,a=some ⟨b,0,none⟩/\aP H2 b (i*3) (nt (T.dec ts t)):=by
   rintro a (h|⟨b,e,h⟩)
   ·rw[h]at ac;simp at ac
   ·have hc:=h.sub (i*3) 3 ab;rw[qw ht,ZZ]at hc;exact⟨b,e,hc⟩
  obtain⟨b1,rfl,l1⟩:=ld g1;obtain⟨b2,rfl,l2⟩:=ld g2;apply RG;simp only[go_sem,iv,ag];refine eP [0,1,2,3,4,5,6,7,8] [3,7,8] [] ?_;refine dS ?_
  try refine⟨ab,?_⟩
  refine W7 (l:=nt (T.dec ts t)) (v:=gV (T.dec ts t)) rfl (by simpa using l1) (.inl ⟨uK,rfl⟩) ?_;apply au;simp only[go_sem,iv,gV]
  try refine⟨ab,?_⟩
  refine W7 (l:=nt (T.dec ts t)) (v:=gV (T.dec ts t)) rfl (by simpa using l2) (.inl ⟨uK,rfl⟩) ?_;apply au;simp only[go_sem,iv,gV];refine TD rfl rfl rfl rfl rfl (Ua (T.dec ts t).1 (T.dec ts t).2.1 (T.dec ts t).2.2) ?_;refine dS ?_;refine aw ?_;apply RG;simp only[go_sem,iv,e1];exact aa (i+1) _ _ ab bM (by simp only[go_sem,aa6,Qn]) ⟨rfl,ac⟩
 ·have:i=ts.length:=by omega
  subst this;have ag:=Z6 ts.length;apply RG;simp only[go_sem,iv,ag];exact aJ (r:=[_]) rfl ⟨rfl,rfl⟩
def zL{t:T}(h:t.ok 0):(T.subs t).length+1<=2^24:=by
 obtain⟨us,e1,e2,_⟩:=(T.vis_spec t h ab [] T.Seq.nil).2.2;rw[aaA]at e1;show (t.vis []).length+1<=_;rw[e1];exact e2
def Sv{v1 v2:Value}{t:T}(h1:cX H v1 t)(h2:cX H v2 t):bO prog 53 #[v1,v2] H fun r H2=>r=.bool true/\H2=H:=by
 have hl:=zL h1.1;obtain⟨_,s1,rfl,g1⟩:=h1;obtain⟨_,s2,rfl,g2⟩:=h2;obtain⟨a1,c1,rfl,_⟩:=id g1;obtain⟨a2,c2,rfl,_⟩:=id g2;refine ah 17 func53 fun w0=>?_
 try simp only[iv]
 refine aT ?_;refine WZ rfl Oz (O9 g1 g2 ab) fun v H2 hv=>?_;obtain⟨rfl,rfl⟩:=hv;refine aT ?_;exact aJ (r:=[_]) rfl ⟨rfl,rfl⟩
end Go.Proofs.YtfaclfkpnmcmlaaGreatDoor
