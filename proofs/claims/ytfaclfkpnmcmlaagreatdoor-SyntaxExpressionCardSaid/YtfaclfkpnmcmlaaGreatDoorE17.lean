import Derived.Test.YtfaclfkpnmcmlaaGreatDoorE15
import Derived.Test.YtfaclfkpnmcmlaaGreatDoorE16
import Derived.Sort.AssemblyPlain
set_option maxHeartbeats 8000000
set_option linter.all false
namespace Go.Proofs.YtfaclfkpnmcmlaaGreatDoor
open Go Go.Sx Dg Syn
def E8{ts:List Tok}{f:ar}{kind slot:Nat}(h:(named ts f kind slot).l=[]):(named ts f kind slot).f=[]:=by
 have key:∀(hs:List aB) (z:Syn.bW),(z.l=[]->z.f=[])->((hs.foldl (cE kind slot) z).l=[]->(hs.foldl (cE kind slot) z).f=[]):=by
  intro hs
  induction hs with
  |nil=>intro z hz;exact hz
  |cons x hs ih=>
   intro z hz;refine ih _ ?_;unfold cE;split
   ·exact hz
   ·intro h;simp at h
 rw[lR]at h |-;exact key _ _ (fun _=>rfl) h
section
variable {pb:Nat} {ts:List Tok} {lv fv ov:Value}
def xE(ts:List Tok)(o slot:Nat)(h:aB)(r:Syn.bW)(m:Nat)(xs:List aB)(l:List Nd)(g:ar)(ee:List cO):Prop:=
 ∃b,Syn.run ts m (.calls o h slot xs l g)=some b/\b.l=r.l/\b.f=r.f/\ee++b.e=r.e
variable{ee:List cO}{g:ar}{l:List Nd}{r:Syn.bW}{h:aB}{o slot:Nat}
def IW{m:Nat}(k:xE ts o slot h r m [] l g ee):l=r.l/\g=r.f/\ee=r.e:=by
 obtain⟨b,hb,h1,h2,h3⟩:=k;obtain⟨m',rfl,ac⟩:=bR hb;have aa:Syn.calls (Syn.run ts m') o h slot [] l g=some b:=ac;unfold Syn.calls at aa;simp only at aa;cases aa
 exact⟨h1,h2,by simpa using h3⟩
variable{xs:List aB}
def Fb{m:Nat}{x:aB}(k:xE ts o slot h r m (x::xs) l g ee):∃m' a,m=m'+1/\
  Syn.run ts m' (.listed false o (bX x))=some a/\l.length+1<=aN/\xE ts o slot h r m' xs (kJ l x.cond++[⟨19,h.text,h.at',slot,a.l,x.cond⟩]) (Syn.joinAll g a.f) (ee++a.e):=by
 obtain⟨b0,hb,h1,h2,h3⟩:=k;obtain⟨m',rfl,ak⟩:=bR hb;have aa:Syn.calls (Syn.run ts m') o h slot (x::xs) l g=some b0:=ak;unfold Syn.calls at aa;simp only at aa;obtain⟨a,ha,aj⟩:=bU aa;obtain⟨_,al,ag⟩:=bU aj;obtain⟨b,am,ac⟩:=bU ag;cases ac
 have:=qK al;simp only[aa9,aaJ,Syn.m7]at this;exact⟨m',a,rfl,ha,this,b,am,h1,h2,by simpa[aaT]using h3⟩
def xE.le{m:Nat}(k:xE ts o slot h r m xs l g ee):ee.length<=r.e.length:=by
 obtain⟨b,_,_,_,h⟩:=k;rw[<-h];simp
def Jj(pb slot:Nat)(vh:Value)(n:Nat)(x:Nat×Value×Value×Value):St:=⟨dn 209 [(0,.v (pt pb)),(2,.v (iv slot)),(8,.v x.2.1),(9,.v x.2.2.1),(25,.v vh),(26,.v (iv n)),(27,.v (iv x.1))],[]⟩
def WU(pb slot:Nat)(vl vo vh:Value)(n i:Nat)(cs:List Value)(vx:Value)(n2:Nat)(x:Nat×Nat×Value×Value×Value):St:=⟨dn 209 [(0,.v (pt pb)),(2,.v (iv slot)),(8,.v vl),(9,.v vo),(11,.p 11 0),(16,.v x.2.2.1),(17,.v x.2.2.2.1),(25,.v vh),(26,.v (iv n)),(27,.v (iv i)),(58,.v vx),(59,.v (iv n2)),(60,.v (iv x.1))],[⟨11,227,cs⟩]⟩
def Y8(pb:Nat)(ts:List Tok)(lv fv ov:Value)(o slot M:Nat)(A B:PH)(h:aB)(xs:List aB)(r:Syn.bW)(e:List cO)(I0:PH)(x:Nat×Nat×Value×Value×Value)(H:PH):Prop:=
 ∃I D N G l g ee,H=U [I,sg pb (cg lv fv ov x.2.2.2.2 o),D,A,B,N,G]/\Dj [I,sg pb (cg lv fv ov x.2.2.2.2 o),D,A,B,N,G]/\I0.le I/\x.1<=xs.length/\x.2.1<=M/\xE ts o slot h r x.2.1 (xs.drop x.1) l g ee/\
  bQ I N x.2.2.1 l/\(l≠[]\/xs=[])/\l.length<=aN/\jy I G x.2.2.2.1 g/\FN ts.length g/\eF I D x.2.2.2.2 (e++ee)
theorem OW{n:Nat}(ih:kP pb ts lv fv ov n){f:ar}(hr:Syn.run ts n (.unary o f slot)=some r):vQ pb ts lv fv ov (.unary o f slot) r:=by
 obtain⟨m,rfl,hs⟩:=bR hr;have g4:cT ts f (fun h=>Syn.run ts m (.unaryH o h slot))=some r:=hs;rw[vX]at g4;clear hs hr;intro ho I D dv vf e h hf fn he hm hd;have hl:=h.len;refine ah 209 Tryz.func220 fun w0=>?_
 try simp only[iv,pt]
 refine aT ?_;refine DY hd [0,1] rfl kU rfl (ps:=[sg pb _]) (F:=[D]) rfl (kW h hf fn) fun v I2 qs g6 c8 hq=>?_;obtain⟨rfl,hH⟩:=hq;obtain⟨ha,hc,rfl,_⟩:=id hH;simp only[Z3]at g6 |-;refine dP ?_;have hN:∀x∈heads ts f,kS ts x:=fun x hx=>b9 h.ok fn hx;have i3:=fM h.ok fn;have hY:=hH;generalize heads ts f=b1 at *;refine aR g6 fun hL=>?_;refine aR hL fun hK=>?_;refine bf hK [2,3,0,1] fun hJ=>?_;refine aA (fun x=>b1.length-x.1) (Jj pb slot (.slice ha b1.length hc) b1.length) (WC pb ts lv fv ov o b1 (fun h=>Syn.run ts m (.unaryH o h slot)) r e I2) (0,.slice none 0 0,.slice none 0 0,dv) gP (by simp only[go_sem,aa6,Jj]) ?_ ?_
 ·exact⟨I2,D,PH.no,PH.no,⟨[],[],[]⟩,rfl,hJ,abW _,aaL _,g4,by simpa using eF.le he c8,Ow.nil _ _ _ _,Ow.nil _ _ _ _,FN.nil _,aaL _⟩
 rintro⟨i,va,vb,dv⟩ H ⟨I3,D3,A3,B3,ri,rfl,cx,a7,hD,er,hE,hA,hB,a9,fr⟩ a1;simp only at hD er hE hA hB;simp only[Jj];have hX:qO I3 (.slice ha b1.length hc) b1:=hY.le a7;rcases aaf i b1.length with cA|i9
 ·have gA:decide ((i:Int)<(b1.length:Int))=true:=by simp;omega
  have e1:=wrap64 (n:=i+1) ab;have dA:IntKind.i64.wrap ((i:Int)+1)=((i+1:Nat):Int):=by rw[<-e1];congr 1
  obtain⟨x,hx⟩:∃x,b1[i]?=some x:=⟨_,aak cA⟩;have hj:=aaV hx;have bC:=hN x hj;obtain⟨b,off,cs,rfl,hM,ef⟩:=hX.load l7.len hx;obtain⟨xa,xk,rfl,aS⟩:=hM;obtain⟨r',hn,bx⟩:=oF hx er;have cr:=xq bx;obtain⟨y,hy,b5,rfl⟩:=pC hn;have h3:=h.le (abV c8 a7);simp only[aa9]at cr b5;have cy:∀s:bq,x.text≠s->(x.text == s)=false:=fun s k=>beq_eq_false_iff_ne.2 k;obtain⟨m1,rfl,g3⟩:=bR hy;have a6:Syn.unaryH ts (Syn.run ts m1) o x slot=some y:=g3;clear hy g3;unfold Syn.unaryH at a6;have e2:=wrap64 (n:=x.at'+1) (by have:=bC.le;omega);have gC:IntKind.i64.wrap ((x.at':Int)+1)=((x.at'+1:Nat):Int):=by rw[<-e2];congr 1
  have hk:=bC.le;unfold aN at b5 fr;apply RG;simp only[go_sem,gA,iv,pt];refine⟨ab,?_⟩;refine XN (l:=[iv x.at',sD xa xk x.cond,rD x.cond,.int .u8 x.kind,.string ⟨⟨x.text⟩⟩]) (v:=.agg #[iv x.at',sD xa xk x.cond,rD x.cond,.int .u8 x.kind,.string ⟨⟨x.text⟩⟩]) rfl (cellsU cx (.head _) ef) (.inl ⟨gI,rfl⟩) ?_;by_cases t1:x.text=Fg\/x.text=jS
  ·rw[aaq t1]at a6;have cp:x.at'<ts.length:=t1.elim (bC.lt2 (s:=Fg) bg) (bC.lt2 (s:=jS) bg);by_cases t2:x.text=Fg
   have q1:(x.text == [33])=true:=by rw[t2];decide
   apply RG;simp only[go_sem,iv,pt,sD,rD,q1]
   rotate_left
   have q1:(x.text == [33])=false:=cy _ t2;have q2:(x.text == [45])=true:=by rw[t1.resolve_left t2];decide
   apply RG;simp only[go_sem,iv,pt,sD,rD,q1,q2]
   all_goals
    by_cases c4:o=64
    ·rw[aaq c4]at a6;cases a6
     subst c4;refine ad cx [0,1,2,3] [sg pb _,D3] [A3,B3] rfl jh rfl (nq h3 bC.le aS hE (by simp[cJ]at cr |-;omega)) fun v I4 qs ct am hq=>?_;obtain⟨dv2,D4,rs,rfl,h2,rfl,rfl⟩:=hq;simp only[Z3]at ct |-;apply RG;simp only[go_sem,iv,pt,sD,rD,dA,abK];exact a1 (i+1,va,vb,dv2) _ _ dt gP (by simp only[go_sem,aa6,Jj]) ⟨I4,D4,A3,B3,_,rfl,ct,abV a7 am,cA,bx,by simp only;rw[<-aaT];exact h2,by simpa using bQ.le hA am,jy.le hB am,a9,by simp only[aa6];unfold aN;exact fr⟩
    ·rw[ZV c4]at a6;obtain⟨a,hR,ey⟩:=bU a6;cases ey
     simp only[aaJ]at cr b5;refine ad cx [0,1,2,3] [sg pb _] [D3,A3,B3] rfl jh rfl (lz (h:=x) (a:=xa) (k:=xk) ab) fun v I4 qs ct am hq=>?_;obtain⟨rfl,rfl,rfl⟩:=hq;simp only[Z3]at ct |-;apply RG;simp only[go_sem,iv,pt,sD,rD,abQ];refine ad ct [0,1,2,3] [] [sg pb _,D3,A3,B3] rfl jj rfl (ji (h:=x) ab aS) fun v I5 qs b2 ac hq=>?_;obtain⟨rfl,g9⟩:=hq;simp only[Z3]at b2 |-;refine dg ?_;refine ad b2 [0,1,2,3] [sg pb _,D3] [A3,B3] rfl AH rfl (ih m1 ab (.unary (o+1) (bv x) 0) a hR ab (h3.le ac) g9 (bH bC cp) (hE.le ac) (by simp only[aa9];omega)) fun v I6 qs bd b0 hq=>?_;obtain⟨dv6,D6,rs,rfl,ga,⟨A6,B6,va6,vb6,rfl,rfl,ep,gk⟩,el,hT⟩:=hq;have eg:=ep.capN bm.len;obtain⟨ka,kc,rfl⟩:=ep.shape;simp only[Z3]at bd |-;refine dg ?_;refine XN (l:=[.int .i64 ((o+1:Nat):Int)]) rfl (cellsU bd (.tail _ (.head _)) (ay (by simp[cg]) rfl)) (.inr ⟨jq,rfl⟩) ?_;apply RG;simp only[go_sem,iv,pt,sD,rD,kE o ho];refine bw bd rfl rfl rfl rfl rfl (by exact uZ) (by simp) fun aq=>?_;refine dg ?_;refine bf aq [2,0,1,3,4,5] fun ag=>?_;refine ae ag fun I7 ag an dy=>?_;have fs:eE I7 (.slice ka a.l.length kc) a.l:=ep.sl an dy;refine bf ag [2,0,1,3,4] fun a3=>?_;refine ae a3 fun I9 a3 aj ds=>?_;have f0:eR I9 vb6 a.f:=gk.sl (abV an aj) ds;have dT:=abV an aj;have cm:=abV ac (abV b0 dT);refine ad a3 [3,0,1,2] [B3] [sg pb _,D6,A3] rfl eI rfl (cS (N:=ts.length) ab (jy.le hB cm) a9 f0 el) fun v13 gT qs al aa hq=>?_;obtain⟨B13,rfl,a4⟩:=hq;simp only[Z3]at al |-;refine dg ?_;refine bf al [1,2,3,0] fun ba=>?_;have k313:=abV cm aa;have gc:=ga.le (abV dT aa)
     refine ax ba (by exact dQ) rfl rfl rfl rfl rfl bg fun nb8 I8 b2 ac bF=>?_;have dj:eE I8 (.slice (some ⟨nb8,0,none⟩) 1 1) ([⟨14,x.text,x.at',slot,a.l,x.cond⟩]:List Nd):=iJ (az bF (by simp[aD,Value.cells]) (by simp[aD,Value.cells,iv,sD,rD])) (bm.mk (n:=⟨14,x.text,x.at',slot,a.l,x.cond⟩) ((aS.le k313).le ac) (eE.le fs (abV aj (abV aa ac))) eg);refine dg ?_;refine bf b2 [2,0,1,3] fun bd=>?_;refine bl bd (by exact dQ) (bQ.le hA (abV k313 ac)) (dj) (fun{I J c a} h k=>bm.le h k) (fun{I} c a h=>bm.len c a h) (fun{I} c a h=>bm.ones h) rfl rfl rfl rfl (by first|omega|(simp only[aaj,aaO];omega)) (by unfold maxLen;first|omega|(simp only[aaj,aaO];omega)) fun na nc c3 A10 aq ak bc=>?_;apply RG;simp only[go_sem,iv,pt,sD,rD,dA];refine bf aq [1,2,0,3] fun ag=>?_;have k810:=abV ac ak;obtain⟨ta,tc,rfl⟩:=a4.shape;refine a1 (i+1,.slice na (ri.l++([⟨14,x.text,x.at',slot,a.l,x.cond⟩]:List Nd)).length nc,.slice ta (Syn.joinAll ri.f a.f).length tc,dv6) _ _ dt gP (by simp only[go_sem,aa6,Jj]) ⟨c3,D6,A10,B13,_,rfl,ag,abV a7 (abV k313 k810),cA,bx,by simpa[aaT]using gc.le k810,bc,jy.le a4 k810,a9.joinAll el,by simp only[aa9,aaJ];unfold aN;simpa using b5⟩
  rw[ZV t1]at a6;have q1:(x.text == [33])=false:=cy _ fun k=>t1 (.inl k);have q2:(x.text == [45])=false:=cy _ fun k=>t1 (.inr k);by_cases t3:x.text=eM
  ·rw[aaq t3]at a6;have q3:(x.text == [40])=true:=by rw[t3];decide
   apply RG;simp only[go_sem,iv,pt,sD,rD,q1,q2,q3];refine ax cx (by exact jH) rfl rfl rfl rfl rfl bg fun nb I4 ct am e3=>?_;have f6:eR I4 (.slice (some ⟨nb,0,none⟩) 1 1) (bX x):=qJ (az e3 (by simp[aD,Value.cells]) (by simp[aD,Value.cells,iv,sD,rD])) (aS.le am);refine dg ?_;refine ad ct [0,1,2,3] [sg pb _,D3] [A3,B3] rfl Bj rfl (ih m1 ab (.inside o (bX x) slot) y a6 ho (h3.le am) f6 (jk bC) (hE.le am) (by simp only[aa9];omega)) fun v I6 qs bd b0 hq=>?_;obtain⟨dv6,D6,rs,rfl,ga,⟨A6,B6,va6,vb6,rfl,rfl,ep,gk⟩,el,hT⟩:=hq;simp only[Z3]at bd |-;refine dg ?_;refine bf bd [2,0,1,3,4,5] fun ag=>?_;refine ae ag fun I7 ag an dy=>?_;have fs:eE I7 va6 y.l:=ep.sl an dy;refine bf ag [2,0,1,3,4] fun a3=>?_;refine ae a3 fun I9 a3 aj ds=>?_;have f0:eR I9 vb6 y.f:=gk.sl (abV an aj) ds;have dT:=abV an aj;have cm:=abV am (abV b0 dT);refine bf a3 [2,0,1,3] fun al=>?_;refine bl al (by exact dQ) (bQ.le hA cm) (eE.le fs aj) (fun{I J c a} h k=>bm.le h k) (fun{I} c a h=>bm.len c a h) (fun{I} c a h=>bm.ones h) rfl rfl rfl rfl (by first|omega|(simp only[aaj,aaO];omega)) (by unfold maxLen;first|omega|(simp only[aaj,aaO];omega)) fun na nc c3 A10 ba cd bc=>?_;refine dg ?_;refine ad ba [3,0,1,2] [B3] [A10,sg pb _,D6] rfl eI rfl (cS (N:=ts.length) ab (jy.le hB (abV cm cd)) a9 (f0.le cd) el) fun v15 i0 qs ed c2 hq=>?_;obtain⟨B15,rfl,eo⟩:=hq;obtain⟨ta,tc,rfl⟩:=eo.shape;simp only[Z3]at ed |-;apply RG;simp only[go_sem,iv,pt,sD,rD,dA];refine bf ed [2,3,1,0] fun fa=>?_;have k1015:=abV cd c2
   refine a1 (i+1,.slice na (ri.l++y.l).length nc,.slice ta (Syn.joinAll ri.f y.f).length tc,dv6) _ _ dt gP (by simp only[go_sem,aa6,Jj]) ⟨i0,D6,A10,B15,_,rfl,fa,abV a7 (abV cm k1015),cA,bx,by simpa[aaT]using ga.le (abV dT k1015),bQ.le bc c2,eo,a9.joinAll el,by simp only[aa9]at b5 |-;unfold aN;exact b5⟩
  rw[ZV t3]at a6;have q3:(x.text == [40])=false:=cy _ t3;by_cases t4:x.kind=2
  ·rw[aaq t4]at a6;have q4:((x.kind:Int) == 2)=true:=by rw[t4];rfl
   have cp:x.at'<ts.length:=bC.lt (.inr ab);apply RG;simp only[go_sem,iv,pt,sD,rD,q1,q2,q3,q4];cases a6
   apply RG;simp only[go_sem,iv,pt,sD,rD,gC];refine ad cx [3,0,1,2] [B3] [sg pb _,D3,A3] rfl ej rfl (bK (a:=x.at'+1) hB aS a9.ok.2 (fun t ht=>by have:=a9.le t ht;omega) ab (by have:=a9.len;omega)) fun v13 gT qs al aa hq=>?_;obtain⟨B13,rfl,a4⟩:=hq;simp only[Z3]at al |-;refine dg ?_;refine bf al [1,2,3,0] fun ba=>?_;refine ax ba (by exact dQ) rfl rfl rfl rfl rfl bg fun nb8 I8 b2 ac bF=>?_;have dj:eE I8 (.slice (some ⟨nb8,0,none⟩) 1 1) ([⟨15,x.text,x.at',slot,[],x.cond⟩]:List Nd):=iJ (az bF (by simp[aD,Value.cells]) (by simp[aD,Value.cells,iv,sD,rD])) (bm.mk (n:=⟨15,x.text,x.at',slot,[],x.cond⟩) ((aS.le aa).le ac) (Sl.nil _ _) lM);refine dg ?_;refine bf b2 [2,0,1,3] fun bd=>?_;refine bl bd (by exact dQ) (bQ.le hA (abV aa ac)) (dj) (fun{I J c a} h k=>bm.le h k) (fun{I} c a h=>bm.len c a h) (fun{I} c a h=>bm.ones h) rfl rfl rfl rfl (by first|omega|(simp only[aaj,aaO];omega)) (by unfold maxLen;first|omega|(simp only[aaj,aaO];omega)) fun na nc c3 A10 aq ak bc=>?_;apply RG;simp only[go_sem,iv,pt,sD,rD,dA];refine bf aq [1,2,0,3] fun ag=>?_;have k810:=abV ac ak;obtain⟨ta,tc,rfl⟩:=a4.shape;refine a1 (i+1,.slice na (ri.l++([⟨15,x.text,x.at',slot,[],x.cond⟩]:List Nd)).length nc,.slice ta (Syn.join ri.f (x.at'+1) x.cond).length tc,dv) _ _ dt gP (by simp only[go_sem,aa6,Jj]) ⟨c3,D3,A10,B13,_,rfl,ag,abV a7 (abV aa k810),cA,bx,by simpa using hE.le (abV aa k810),bc,jy.le a4 k810,a9.join ab bC.ok,by simp only[aa9,aaJ];unfold aN;simpa using b5⟩
  rw[ZV t4]at a6;have q4:((x.kind:Int) == 2)=false:=by rw[abS];omega
  by_cases t5:x.text=pH\/x.text=mK
  ·rw[aaq t5]at a6;have cp:x.at'<ts.length:=t5.elim (bC.lt2 (s:=pH) bg) (bC.lt2 (s:=mK) bg);by_cases t6:x.text=pH
   have q5:(x.text == [116,114,117,101])=true:=by rw[t6];decide
   apply RG;simp only[go_sem,iv,pt,sD,rD,q1,q2,q3,q4,q5]
   rotate_left
   have q5:(x.text == [116,114,117,101])=false:=cy _ t6;have q6:(x.text == [102,97,108,115,101])=true:=by rw[t5.resolve_left t6];decide
   apply RG;simp only[go_sem,iv,pt,sD,rD,q1,q2,q3,q4,q5,q6]
   all_goals
    cases a6
    apply RG;simp only[go_sem,iv,pt,sD,rD,gC];refine ad cx [3,0,1,2] [B3] [sg pb _,D3,A3] rfl ej rfl (bK (a:=x.at'+1) hB aS a9.ok.2 (fun t ht=>by have:=a9.le t ht;omega) ab (by have:=a9.len;omega)) fun v13 gT qs al aa hq=>?_;obtain⟨B13,rfl,a4⟩:=hq;simp only[Z3]at al |-;refine dg ?_;refine bf al [1,2,3,0] fun ba=>?_;refine ax ba (by exact dQ) rfl rfl rfl rfl rfl bg fun nb8 I8 b2 ac bF=>?_;have dj:eE I8 (.slice (some ⟨nb8,0,none⟩) 1 1) ([⟨16,x.text,x.at',slot,[],x.cond⟩]:List Nd):=iJ (az bF (by simp[aD,Value.cells]) (by simp[aD,Value.cells,iv,sD,rD])) (bm.mk (n:=⟨16,x.text,x.at',slot,[],x.cond⟩) ((aS.le aa).le ac) (Sl.nil _ _) lM);refine dg ?_;refine bf b2 [2,0,1,3] fun bd=>?_;refine bl bd (by exact dQ) (bQ.le hA (abV aa ac)) (dj) (fun{I J c a} h k=>bm.le h k) (fun{I} c a h=>bm.len c a h) (fun{I} c a h=>bm.ones h) rfl rfl rfl rfl (by first|omega|(simp only[aaj,aaO];omega)) (by unfold maxLen;first|omega|(simp only[aaj,aaO];omega)) fun na nc c3 A10 aq ak bc=>?_;apply RG;simp only[go_sem,iv,pt,sD,rD,dA];refine bf aq [1,2,0,3] fun ag=>?_;have k810:=abV ac ak;obtain⟨ta,tc,rfl⟩:=a4.shape;refine a1 (i+1,.slice na (ri.l++([⟨16,x.text,x.at',slot,[],x.cond⟩]:List Nd)).length nc,.slice ta (Syn.join ri.f (x.at'+1) x.cond).length tc,dv) _ _ dt gP (by simp only[go_sem,aa6,Jj]) ⟨c3,D3,A10,B13,_,rfl,ag,abV a7 (abV aa k810),cA,bx,by simpa using hE.le (abV aa k810),bc,jy.le a4 k810,a9.join ab bC.ok,by simp only[aa9,aaJ];unfold aN;simpa using b5⟩
  rw[ZV t5]at a6;have q5:(x.text == [116,114,117,101])=false:=cy _ fun k=>t5 (.inl k);have q6:(x.text == [102,97,108,115,101])=false:=cy _ fun k=>t5 (.inr k);by_cases t7:x.text=qX
  ·rw[aaq t7]at a6;have cp:x.at'<ts.length:=bC.lt2 (s:=qX) bg t7;have q7:(x.text == [114,101,97,100])=true:=by rw[t7];decide
   apply RG;simp only[go_sem,iv,pt,sD,rD,q1,q2,q3,q4,q5,q6,q7];cases a6
   apply RG;simp only[go_sem,iv,pt,sD,rD,gC];refine ad cx [3,0,1,2] [B3] [sg pb _,D3,A3] rfl ej rfl (bK (a:=x.at'+1) hB aS a9.ok.2 (fun t ht=>by have:=a9.le t ht;omega) ab (by have:=a9.len;omega)) fun v13 gT qs al aa hq=>?_;obtain⟨B13,rfl,a4⟩:=hq;simp only[Z3]at al |-;refine dg ?_;refine bf al [1,2,3,0] fun ba=>?_;refine ax ba (by exact dQ) rfl rfl rfl rfl rfl bg fun nb8 I8 b2 ac bF=>?_;have dj:eE I8 (.slice (some ⟨nb8,0,none⟩) 1 1) ([⟨17,[],x.at',slot,[],x.cond⟩]:List Nd):=iJ (az bF (by simp[aD,Value.cells]) (by simp[aD,Value.cells,iv,sD,rD])) (bm.mk (n:=⟨17,[],x.at',slot,[],x.cond⟩) ((aS.le aa).le ac) (Sl.nil _ _) lM);refine dg ?_;refine bf b2 [2,0,1,3] fun bd=>?_;refine bl bd (by exact dQ) (bQ.le hA (abV aa ac)) (dj) (fun{I J c a} h k=>bm.le h k) (fun{I} c a h=>bm.len c a h) (fun{I} c a h=>bm.ones h) rfl rfl rfl rfl (by first|omega|(simp only[aaj,aaO];omega)) (by unfold maxLen;first|omega|(simp only[aaj,aaO];omega)) fun na nc c3 A10 aq ak bc=>?_;apply RG;simp only[go_sem,iv,pt,sD,rD,dA];refine bf aq [1,2,0,3] fun ag=>?_;have k810:=abV ac ak;obtain⟨ta,tc,rfl⟩:=a4.shape;refine a1 (i+1,.slice na (ri.l++([⟨17,[],x.at',slot,[],x.cond⟩]:List Nd)).length nc,.slice ta (Syn.join ri.f (x.at'+1) x.cond).length tc,dv) _ _ dt gP (by simp only[go_sem,aa6,Jj]) ⟨c3,D3,A10,B13,_,rfl,ag,abV a7 (abV aa k810),cA,bx,by simpa using hE.le (abV aa k810),bc,jy.le a4 k810,a9.join ab bC.ok,by simp only[aa9,aaJ];unfold aN;simpa using b5⟩
  rw[ZV t7]at a6;have q7:(x.text == [114,101,97,100])=false:=cy _ t7;apply RG;simp only[go_sem,iv,pt,sD,rD,q1,q2,q3,q4,q5,q6,q7];refine ax cx (by exact jH) rfl rfl rfl rfl rfl bg fun nb I4 ct am e3=>?_;have f6:eR I4 (.slice (some ⟨nb,0,none⟩) 1 1) (bX x):=qJ (az e3 (by simp[aD,Value.cells]) (by simp[aD,Value.cells,iv,sD,rD])) (aS.le am);have fh:=jk bC;have nf:=iy h.ok fh 18 slot;have nl:=lC h.ok fh 18 slot;obtain⟨xs,g,ez⟩:∃yes g,aM ts (named ts (bX x) 18 slot).f (bD eM)=(yes,g):=⟨_,_,rfl⟩;simp only[ez]at a6;obtain⟨c,hO,ey⟩:=bU a6;cases ey
  simp only[aa9]at cr b5;have fc:=fm h.ok nf (is:=bD eM);have g7:=gE h.ok nf (bD eM);have fC:=dC h.ok nf (bD eM);have c6:(named ts (bX x) 18 slot).l=[]->(aM ts (named ts (bX x) 18 slot).f (bD eM)).1=[]:=fun e=>by
   rw[E8 e];rfl
  rw[ez]at fc g7 fC c6;simp only at fc g7 fC c6;refine dg ?_;refine ad ct [0,1,2,3] [sg pb _,D3] [A3,B3] rfl qI rfl (qA (kind:=18) (slot:=slot) (f:=bX x) (h3.le am) f6 fh (hE.le am) (by simp only[aa9];omega)) fun v I5 qs b2 ac hq=>?_;obtain⟨dv5,D5,rs,rfl,h1,⟨A5,B5,va5,vb5,rfl,rfl,h6,h5⟩,g9,hU⟩:=hq;simp only[Z3]at b2 |-;refine dg ?_;refine bf b2 [3,0,1,2,4,5] fun bd=>?_;refine ae bd fun I6 bd b0 h4=>?_;have h0:eR I6 vb5 (named ts (bX x) 18 slot).f:=h5.sl b0 h4;refine ad bd [0,1,2,3,4] [] [sg pb _,D5,A5,A3,B3] rfl jl rfl (kM (s:=eM)) fun vi I7 qs aq ak hq=>?_;obtain⟨rfl,g8⟩:=hq;simp only[Z3]at aq |-;obtain⟨fi,first,cap,rfl,gi,ci⟩:=id g8;refine dg ?_;have g2:=abV am (abV ac (abV b0 ak));refine ad aq [0,1,2,3,4] [sg pb _] [D5,A5,A3,B3] rfl jD rfl (jC (h3.le g2) (h0.le ak) nf g8) fun v I8 qs ag an hq=>?_;obtain⟨A8,B8,va8,vb8,rfl,rfl,et,gf⟩:=hq;rw[ez]at et gf;simp only at et gf;obtain⟨xsa,xsc,rfl⟩:=et.shape;simp only[Z3]at ag |-;refine dg ?_;refine bf ag [1,0,2,3,4,5,6] fun a3=>?_;refine ae a3 fun I9 a3 aj gs=>?_;have hS:qO I9 (.slice xsa xs.length xsc) xs:=et.sl aj gs;refine bf a3 [0,2,4,5,3,1] fun al=>?_;have g0:=abV an aj;have g1:=abV b0 (abV ak g0);have cm:=abV g2 g0;have h9:=h3.le cm;have hW:xE ts o slot x ⟨c.l,c.f,(named ts (bX x) 18 slot).e++c.e⟩ m1 xs (named ts (bX x) 18 slot).l g (named ts (bX x) 18 slot).e:=⟨c,hO,rfl,rfl,rfl⟩
  refine aA (fun x=>xs.length-x.1) (WU pb slot va vb (.slice (some ⟨b,off,none⟩) b1.length hc) b1.length i [iv x.at',sD xa xk x.cond,rD x.cond,.int .u8 x.kind,.string ⟨⟨x.text⟩⟩] (.slice xsa xs.length xsc) xs.length) (Y8 pb ts lv fv ov o slot m1 A3 B3 x xs ⟨c.l,c.f,(named ts (bX x) 18 slot).e++c.e⟩ (e++ri.e) I9) (0,m1,va5,vb8,dv5) R5 (by simp only[go_sem,aa6,WU,iv,sD,rD]) ?_ ?_
  ·exact⟨I9,D5,A5,B8,_,_,_,rfl,al,abW _,aaL _,ZR _,hW,h6.le g1,by
    by_cases e7:(named ts (bX x) 18 slot).l=[]
    ·exact .inr (c6 e7)
    ·exact .inl e7,hU,gf.le aj,fC,h1.le g1⟩
  rintro⟨j,m2,vn,vg,dw⟩ H ⟨jf,D17,N,G,l,gg,ee,rfl,c9,cc,hz,hu,ei,fo,hv,i4,hG,es,ge⟩ c5;simp only at hz hu ei fo hG ge;simp only[WU];have ex:=abV cm cc;have h7:=h3.le ex;rcases aaf j xs.length with dI|i5
  ·have gt:decide ((j:Int)<(xs.length:Int))=true:=by simp;omega
   have f1:=wrap64 (n:=j+1) ab;have f1':IntKind.i64.wrap ((j:Int)+1)=((j+1:Nat):Int):=by rw[<-f1];congr 1
   obtain⟨y,eq⟩:∃y,xs[j]?=some y:=⟨_,aak dI⟩;obtain⟨hh,i1⟩:=fc y (aaV eq);obtain⟨bb,off2,cs2,rfl,fb,dc⟩:=(hS.le cc).load l7.len eq;obtain⟨ya,yk,rfl,b6⟩:=fb;have hF:xs.drop j=y::xs.drop (j+1):=by
    rw[aaK dI];rw[aak dI]at eq;rw[aaZ eq]
   rw[hF]at ei;obtain⟨m3,aa',rfl,hP,c7,dk⟩:=Fb ei;have d3:=dk.le;simp only[aa9]at d3;apply RG;simp only[go_sem,gt,iv,pt,sD,rD];refine⟨ab,?_⟩;refine XN (l:=[iv y.at',sD ya yk y.cond,rD y.cond,.int .u8 y.kind,.string ⟨⟨y.text⟩⟩]) (v:=.agg #[iv y.at',sD ya yk y.cond,rD y.cond,.int .u8 y.kind,.string ⟨⟨y.text⟩⟩]) rfl (cellsU c9 (.head _) dc) (.inl ⟨gI,rfl⟩) ?_;refine dg ?_;refine ax c9 (by exact jH) rfl rfl rfl rfl rfl bg fun nb2 gF cl ao e0=>?_;have f9:eR gF (.slice (some ⟨nb2,0,none⟩) 1 1) (bX y):=qJ (az e0 (by simp[aD,Value.cells]) (by simp[aD,Value.cells,iv,sD,rD])) (b6.le ao);refine dg ?_;refine ad cl [0,1,2,3,4,5] [sg pb _,D17] [A3,B3,N,G] rfl Bd rfl (ih m3 ab (.listed false o (bX y)) aa' hP ho (h7.le ao) f9 (jk hh) (ge.le ao) (by simp only[aa9];omega)) fun v hg qs b4 bs hq=>?_;obtain⟨dv19,D19,rs,rfl,gb,⟨A19,B19,va19,vb19,rfl,rfl,dx,gn⟩,em,hV⟩:=hq;have dd:=dx.capN bm.len;obtain⟨ka,kc,rfl⟩:=dx.shape;simp only[Z3]at b4 |-;refine dg ?_;refine bf b4 [2,0,1,3,4,5,6,7] fun cj=>?_;refine ae (c:=.st _) cj fun ix cj cb gr=>?_;have fz:eE ix (.slice ka aa'.l.length kc) aa'.l:=dx.sl cb gr;refine bf cj [2,0,1,3,4,5,6] fun cf=>?_;refine ae (c:=.st _) cf fun hb cf a2 gl=>?_;have f3:eR hb vb19 aa'.f:=gn.sl (abV cb a2) gl;have k1921:=abV cb a2;have k1721:=abV ao (abV bs k1921);obtain⟨n1,l1,rfl⟩:∃n1 l1,l=n1::l1:=by
    cases l with
    |nil=>exact absurd rfl (hv.resolve_right fun e=>by rw[e]at dI;exact Nat.not_lt_zero _ dI)
    |cons n1 l1=>exact⟨n1,l1,rfl⟩
   rw[zo]at dk;refine bf cf [4,0,1,2,3,5] fun b3=>?_;obtain⟨g5,cap5,cur,a5,k5,rfl,rfl,i2,da,d0,eA⟩:=CH (bQ.le fo k1721);refine iZ mixed [0,1,2,3,4,5,6,7,8,9,10,11] [] [] [4] [7] (sg g5 (.cells cur 60 (0,0))) rfl rfl ?_;refine qY ?_;refine⟨ab,?_⟩;refine je (l:=[sD a5 k5 n1.cond,rD n1.cond]) (v:=.agg #[sD a5 k5 n1.cond,rD n1.cond]) rfl (di b3) rfl rfl rfl da (.inl ⟨r9,rfl⟩) ?_;refine qY ?_;refine tG b3 [0,1,2,3,4,5] rfl rfl rfl rfl rfl oT (by rfl) (ps:=[]) (F:=[sg g5 _,sg pb _,D19,A3,B3,G]) rfl (di b3) (uX (b6.le k1721)) fun v jd qs ec ca hq=>?_;obtain⟨rfl,d2⟩:=hq;obtain⟨ra,rk,rfl⟩:=d2.shape2;simp only[Z3]at ec |-;refine qY ?_;refine aE ec [0,1,2,3,4,5] [] [sg g5 _,sg pb _,D19,A3,B3,G] rfl kK rfl (oQ (d0.le ca) d2) fun v ic qs eb c0 hq=>?_;obtain⟨rfl,d1⟩:=hq;obtain⟨ta,tk,rfl⟩:=d1.shape2;simp only[Z3]at eb |-;refine qY ?_;refine⟨ab,?_⟩;refine aQ eb rfl rfl rfl rfl rfl rfl (by exact Ds) (by simp;omega) fun e8=>?_;refine aw ?_;have fk:=eA ic ta tk (n1.cond.and y.cond.not) (abV ca c0) d1;have k2126:=abV ca c0;refine dg ?_;refine ax e8 (by exact dQ) rfl rfl rfl rfl rfl bg fun nb3 ia e6 cB eH=>?_;have k2128:=abV k2126 cB;have k1728:=abV k1721 k2128;have fg:eE ia (.slice (some ⟨nb3,0,none⟩) 1 1) ([⟨19,x.text,x.at',slot,aa'.l,y.cond⟩]:List Nd):=iJ (az eH (by simp[aD,Value.cells]) (by simp[aD,Value.cells,iv,sD,rD])) (bm.mk (n:=⟨19,x.text,x.at',slot,aa'.l,y.cond⟩) (b6.le k1728) (eE.le fz (abV a2 k2128)) dd);refine dg ?_;unfold aN at c7;simp only[aaj]at c7
   refine bl e6 (by exact dQ) (bQ.le fk cB) (fg) (fun{I J c a} h k=>bm.le h k) (fun{I} c a h=>bm.len c a h) (fun{I} c a h=>bm.ones h) rfl rfl rfl rfl (by first|omega|(simp only[aaj,aaO];omega)) (by unfold maxLen;first|omega|(simp only[aaj,aaO];omega)) fun wa wc ja N29 e5 b8 fj=>?_;refine dg ?_;have k2129:=abV k2128 b8;refine ad e5 [5,0,1,2,3,4] [G] [N29,sg pb _,D19,A3,B3] rfl eI rfl (cS (N:=ts.length) ab (hG.le (abV k1728 b8)) es (f3.le k2129) em) fun v30 h8 qs ea b7 hq=>?_;obtain⟨G30,rfl,f2⟩:=hq;simp only[Z3]at ea |-;apply RG;simp only[go_sem,iv,pt,sD,rD,f1'];refine bf ea [2,3,4,5,1,0] fun e4=>?_;refine c5 (j+1,m3,.slice wa ((l1++([⟨19,x.text,x.at',slot,aa'.l,y.cond⟩]:List Nd)).length+1) wc,v30,dv19) _ _ dt R5 (by simp only[go_sem,aa6,WU,iv,sD,rD]) ⟨h8,D19,N29,G30,_,_,_,rfl,e4,abV cc (abV k1728 (abV b8 b7)),dI,by simp only;omega,dk,bQ.le fj b7,.inl (List.cons_ne_nil _ _),?_,f2,es.joinAll em,by simpa[aaT]using gb.le (abV k1921 (abV k2129 b7))⟩;simp only[aaj,aa9,aaO]at c7 |-;unfold aN;omega
  ·have hw:j=xs.length:=by omega
   subst hw;have gt:=Z6 xs.length;rw[abH]at ei;obtain⟨rfl,rfl,rfl⟩:=IW ei;apply RG;simp only[go_sem,gt,iv,pt,sD,rD];refine bf c9 [4,0,1,2,3,5] fun cl=>?_;refine ae cl fun gF cl ao fl=>?_;have fA:eE gF vn c.l:=bQ.sl fo ao fl;refine bf cl [4,0,1,2,3] fun b4=>?_;refine ae b4 fun hg b4 bs f5=>?_;have ek:eR hg vg c.f:=jy.sl hG (abV ao bs) f5;have k1719:=abV ao bs;have k319:=abV ex k1719;refine bf b4 [2,0,1,3] fun cj=>?_;refine bl cj (by exact dQ) (bQ.le hA k319) (eE.le fA bs) (fun{I J c a} h k=>bm.le h k) (fun{I} c a h=>bm.len c a h) (fun{I} c a h=>bm.ones h) rfl rfl rfl rfl (by first|omega|(simp only[aaj,aaO];omega)) (by unfold maxLen;first|omega|(simp only[aaj,aaO];omega)) fun na nc hb A21 cf a2 go=>?_;refine dg ?_;refine ad cf [3,0,1,2] [B3] [A21,sg pb _,D17] rfl eI rfl (cS (N:=ts.length) ab (jy.le hB (abV k319 a2)) a9 (ek.le a2) es) fun v22 ie qs b3 c1 hq=>?_;obtain⟨B22,rfl,en⟩:=hq;obtain⟨ta,tc,rfl⟩:=en.shape;simp only[Z3]at b3 |-;apply RG;simp only[go_sem,iv,pt,sD,rD,dA];refine bf b3 [2,3,1,0] fun e9=>?_;have k1722:=abV k1719 (abV a2 c1);refine a1 (i+1,.slice na (ri.l++c.l).length nc,.slice ta (Syn.joinAll ri.f c.f).length tc,dw) _ _ dt gP (by simp only[go_sem,aa6,Jj]) ⟨ie,D17,A21,B22,_,rfl,e9,abV a7 (abV ex k1722),cA,bx,by simpa[aaT]using ge.le k1722,bQ.le go c1,en,a9.joinAll es,by simp only[aa9];unfold aN;exact b5⟩
 ·have hC:i=b1.length:=by omega
  subst hC;have gA:=Z6 b1.length;rw[abH]at er;cases er
  apply RG;simp only[go_sem,gA,iv,pt];exact af rfl cx (r:=[va,vb]) rfl (abV c8 a7) ⟨_,D3,[A3,B3],rfl,hE,⟨A3,B3,va,vb,rfl,rfl,hA,hB⟩,a9,fr⟩
end
open Go Go.Sx Dg Syn
section
variable {pb:Nat} {ts:List Tok} {lv fv ov:Value}
def zI:∀n,kP pb ts lv fv ov n
 |0=>fun m hm=>absurd hm (Nat.not_lt_zero _)
 |n+1=>fun m hm x r hr=>by
  have ih:=zI n;rcases aaf m n with aa|ac
  ·exact ih m aa x r hr
  have:m=n:=by omega
  subst this;cases x with
  |line=>exact SC ih hr
  |unary=>exact OW ih hr
  |inside=>exact J6 ih hr
  |listed=>exact JR ih hr
  |behind=>exact LA ih hr
  |vrb=>exact Fc ih hr
  |function=>exact Fa ih hr
  |block=>exact Qh ih hr
  |stmt=>exact Tm ih hr
  |branch=>exact LC ih hr
  |_=>trivial
def Dp{o:Nat}(ho:o<=64){d:T}{r:Syn.bW}{n:Nat}(hr:Syn.run ts n (.seqL true o [(0,d)] [] [])=some r){I D:PH}{dv:Value}{da:Option Addr}{dk:Nat}{e:List cO}(h:zr I ts lv fv)(ac:cX I (.agg #[sD da dk d,rD d]) d)(aa:d≠ff)(he:eF I D dv e)(hm:e.length+r.e.length<=ux):
  aK Tryz.prog 77 #[pt pb,.agg #[sD da dk d,rD d]] I [sg pb (cg lv fv ov dv o),D] (PP pb lv fv ov o (e++r.e) (Uq ts r)):=
 Il (zI n) ho hr h ac aa he hm
end
open Go Go.Sx Dg Syn
def Av:aO Tryz.prog 161:=⟨_,Tryz.func161,rfl,rfl⟩
def OX:aO Tryz.prog 226:=⟨_,Tryz.func226,rfl,rfl⟩
def QU:aO Tryz.prog 227:=⟨_,Tryz.func227,rfl,rfl⟩
def Hz:aO Tryz.prog 232:=⟨_,Tryz.func232,rfl,rfl⟩
def GT:aO Tryz.prog 281:=⟨_,Tryz.func281,rfl,rfl⟩
def Gb:aO Tryz.prog 282:=⟨_,Tryz.func282,rfl,rfl⟩
def Hp:aO Tryz.prog 160:=⟨_,Tryz.func160,rfl,rfl⟩
def AR:aO Tryz.prog 145:=⟨_,Tryz.func145,rfl,rfl⟩
def OB:aO Tryz.prog 149:=⟨_,Tryz.func149,rfl,rfl⟩
def Pb:aO Tryz.prog 148:=⟨_,Tryz.func148,rfl,rfl⟩
def bO.keep{P:Program}{f:FuncId}{args:Array Value}{I:PH}{w:Value}(h:bO P f args I fun v H2=>v=w/\H2=I):aK P f args I [] fun v I2 qs=>qs=[]/\v=w:=
 bO.toI (h.mono fun v H2 ⟨e1,e2⟩=>⟨by rw[e2];exact abW _,e1⟩)
def kL(a b:Int):Int:=if a<b then -1 else if b<a then 1 else 0
def Es(a b:bq):Int:=if zp a b=true then -1 else if zp b a=true then 1 else 0
def oH:∀(a b:bq),Op.bytesLess a b=zp a b
 |_,[]=>by simp[Op.bytesLess,zp]
 | [],_::_=>rfl
 |x::a,y::b=>by
  have ih:=oH a b;simp only[Op.bytesLess,zp,ih];by_cases h1:x.toNat<y.toNat
  ·have:x<y:=h1;simp[h1,this]
  ·have n1:¬x<y:=h1;by_cases h2:y.toNat<x.toNat
   ·have:(x == y)=false:=by
     rw[abS];intro e;rw[e]at h2;exact Nat.lt_irrefl _ h2
    simp[h1,h2,n1,this]
   ·have e:x=y:=UInt8.toNat_inj.1 ab;subst e;simp[h1]
def C4(a:Int)(H:PH):bO Tryz.prog 232 #[.int .i64 a] H fun v H2=>v=.bool false/\H2=H:=by
 refine cC Tryz.func232 rfl (by simp[Tryz.ntmps232]) fun w0=>?_;simp only[Tryz.ntmps232];apply RG;simp only[go_sem,bne_self_eq_false];exact aJ (r:=[_]) rfl ⟨rfl,rfl⟩
def GD(a:Int)(H:PH):bO Tryz.prog 281 #[.int .u8 a] H fun v H2=>v=.bool false/\H2=H:=by
 refine cC Tryz.func281 rfl (by simp[Tryz.ntmps281]) fun w0=>?_;simp only[Tryz.ntmps281];apply RG;simp only[go_sem,bne_self_eq_false];exact aJ (r:=[_]) rfl ⟨rfl,rfl⟩
def DK(a:bq)(H:PH):bO Tryz.prog 282 #[.string ⟨⟨a⟩⟩] H fun v H2=>v=.bool false/\H2=H:=by
 refine cC Tryz.func282 rfl (by simp[Tryz.ntmps282]) fun w0=>?_;simp only[Tryz.ntmps282];apply RG;simp only[go_sem,bne_self_eq_false];exact aJ (r:=[_]) rfl ⟨rfl,rfl⟩
def yt(a b:Int)(H:PH):bO Tryz.prog 161 #[.int .i64 a,.int .i64 b] H fun v H2=>v=.int .i64 (kL a b)/\H2=H:=by
 refine ah 20 Tryz.func161 fun w0=>?_;refine aT ?_;refine WZ rfl Hz (C4 a H) fun v H2 hv=>?_;obtain⟨rfl,rfl⟩:=hv;refine aT ?_;refine WZ rfl Hz (C4 b H2) fun v H3 hv=>?_;obtain⟨rfl,rfl⟩:=hv;by_cases h1:a<b
 ·have q1:decide (a<b)=true:=abU h1;apply RG;simp only[go_sem,q1];exact aJ (r:=[_]) rfl ⟨by simp[kL,h1,gv],rfl⟩
 ·have q1:decide (a<b)=false:=abT h1;by_cases h2:b<a
  ·have q2:decide (a>b)=true:=abU h2;apply RG;simp only[go_sem,q1,q2,abw,abK];exact aJ (r:=[_]) rfl ⟨by simp[kL,h1,h2,gv],rfl⟩
  ·have q2:decide (a>b)=false:=abT h2;apply RG;simp only[go_sem,q1,q2,abw,abQ];exact aJ (r:=[_]) rfl ⟨by simp[kL,h1,h2,gv],rfl⟩
def QJ(a b:Int)(H:PH):bO Tryz.prog 226 #[.int .u8 a,.int .u8 b] H fun v H2=>v=.int .i64 (kL a b)/\H2=H:=by
 refine ah 20 Tryz.func226 fun w0=>?_;refine aT ?_;refine WZ rfl GT (GD a H) fun v H2 hv=>?_;obtain⟨rfl,rfl⟩:=hv;refine aT ?_;refine WZ rfl GT (GD b H2) fun v H3 hv=>?_;obtain⟨rfl,rfl⟩:=hv;by_cases h1:a<b
 ·have q1:decide (a<b)=true:=abU h1;apply RG;simp only[go_sem,q1];exact aJ (r:=[_]) rfl ⟨by simp[kL,h1,gv],rfl⟩
 ·have q1:decide (a<b)=false:=abT h1;by_cases h2:b<a
  ·have q2:decide (a>b)=true:=abU h2;apply RG;simp only[go_sem,q1,q2,abw,abK];exact aJ (r:=[_]) rfl ⟨by simp[kL,h1,h2,gv],rfl⟩
  ·have q2:decide (a>b)=false:=abT h2;apply RG;simp only[go_sem,q1,q2,abw,abQ];exact aJ (r:=[_]) rfl ⟨by simp[kL,h1,h2,gv],rfl⟩
def MX(a b:bq)(H:PH):bO Tryz.prog 227 #[.string ⟨⟨a⟩⟩,.string ⟨⟨b⟩⟩] H fun v H2=>v=.int .i64 (Es a b)/\H2=H:=by
 refine ah 20 Tryz.func227 fun w0=>?_;refine aT ?_;refine WZ rfl Gb (DK a H) fun v H2 hv=>?_;obtain⟨rfl,rfl⟩:=hv;refine aT ?_;refine WZ rfl Gb (DK b H2) fun v H3 hv=>?_;obtain⟨rfl,rfl⟩:=hv;by_cases h1:zp a b=true
 ·have q1:Op.bytesLess a b=true:=by rw[oH];exact h1
  apply RG;simp only[go_sem,q1];exact aJ (r:=[_]) rfl ⟨by simp[Es,h1,gv],rfl⟩
 ·have q1:Op.bytesLess a b=false:=by rw[oH];simpa using h1
  by_cases h2:zp b a=true
  ·have q2:(a == b)=false:=by rw[abS];intro e;rw[e,yw.irr]at h2;cases h2
   apply RG;simp only[go_sem,q1,q2,abw,abK];exact aJ (r:=[_]) rfl ⟨by simp[Es,h1,h2,gv],rfl⟩
  ·have q2:(a == b)=true:=by rw[beq_iff_eq];exact yw.tri a b (by simpa using h1) (by simpa using h2)
   apply RG;simp only[go_sem,q1,q2,abw,abQ];exact aJ (r:=[_]) rfl ⟨by simp[Es,h1,h2,gv],rfl⟩
def BB:List Int->Int
 | []=>0
 |a::l=>if a=0 then BB l else a
def Qx(sv:Value)(n:Nat)(i:Nat):St:=⟨dn 18 [(3,.v (.int .i64 0)),(6,.v sv),(7,.v (iv n)),(8,.v (iv i))],[]⟩
def UD{H:PH}{b c:Nat}{zs:List Int}(h:aP H b 0 (zs.map fun z=>.int .i64 z))(hl:zs.length<=100):bO Tryz.prog 160 #[.slice (some ⟨b,0,none⟩) zs.length c] H fun v H2=>v=.int .i64 (BB zs)/\H2=H:=by
 refine ah 18 Tryz.func160 fun w0=>?_;refine aT ?_;refine aA (fun x=>zs.length-x) (Qx (.slice (some ⟨b,0,none⟩) zs.length c) zs.length) (fun i H2=>H2=H/\i<=zs.length/\BB (zs.drop i)=BB zs) 0 bM (by simp only[go_sem,aa6,Qx]) ⟨rfl,aaL _,rfl⟩ ?_;rintro i H2 ⟨rfl,hi,hz⟩ ac;simp only[Qx];rcases aaf i zs.length with ag|al
 ·have h9:decide ((i:Int)<(zs.length:Int))=true:=by simp;omega
  have e1:=wrap64 (n:=i+1) ab;have ak:IntKind.i64.wrap ((i:Int)+1)=((i+1:Nat):Int):=by rw[<-e1];congr 1
  obtain⟨z,hg⟩:∃z,zs[i]?=some z:=⟨_,aak ag⟩;have hd:zs.drop i=z::zs.drop (i+1):=by
   rw[aaK ag];rw[aak ag]at hg;rw[aaZ hg]
  have aa:=h.sub i 1 (by simp;omega);have hm:((zs.map fun z=>Value.int .i64 z).drop i).take 1=[.int .i64 z]:=by
   rw[<-List.map_drop,hd];rfl
  rw[hm,ZZ]at aa;rw[hd]at hz;apply RG;simp only[go_sem,h9,iv];refine⟨ab,?_⟩;refine XN (l:=[.int .i64 z]) rfl (by simpa using aa) (.inr ⟨jq,rfl⟩) ?_;by_cases h0:z=0
  ·have q:(z != 0)=false:=by simp[h0]
   apply RG;simp only[go_sem,iv,q,ak];exact ac (i+1) _ _ ab bM (by simp only[go_sem,aa6,Qx]) ⟨rfl,ag,by rw[<-hz];simp[BB,h0]⟩
  ·have q:(z != 0)=true:=by simp[h0]
   apply RG;simp only[go_sem,iv,q];exact aJ (r:=[_]) rfl ⟨by rw[<-hz];simp[BB,h0,gv],rfl⟩
 ·have aj:i=zs.length:=by omega
  subst aj;have h9:=Z6 zs.length;rw[abH]at hz;apply RG;simp only[go_sem,h9,iv];exact aJ (r:=[_]) rfl ⟨by rw[<-hz];rfl,rfl⟩
def MF(k t o g:Int)(x:bq)(ea fa:Option Addr)(en ec fn fc:Nat)(H:PH):bO Tryz.prog 145 #[.agg #[.int .u8 k,.string ⟨⟨x⟩⟩,.int .i64 t,.int .i64 o,.slice ea en ec,.slice fa fn fc,.int .i64 g]] H fun v H2=>v=.agg #[.int .i64 o,.int .i64 t,.int .u8 k,.string ⟨⟨x⟩⟩]/\H2=H:=by
 refine ah 12 Tryz.func145 fun w0=>?_;refine aT ?_;exact aJ (r:=[.agg #[.int .i64 o,.int .i64 t,.int .u8 k,.string ⟨⟨x⟩⟩]]) (by simp only[Tryz.results145,go_sem]) ⟨rfl,rfl⟩
def Se(x y:qT):Int:=BB [kL x.slot y.slot,kL x.tok y.tok,kL x.kind y.kind,Es x.text y.text]
def rK(k:qT):Value:=.agg #[.int .i64 k.slot,.int .i64 k.tok,.int .u8 k.kind,.string ⟨⟨k.text⟩⟩]
def OK(x y:qT):decide (Se x y<0)=CW x y:=by
 unfold Se CW kL Es BB BB BB BB BB;by_cases a1:x.slot<y.slot
 ·simp[a1]
 ·by_cases a2:y.slot<x.slot
  ·simp[a1,a2]
  ·by_cases b1:x.tok<y.tok
   ·simp[a1,a2,b1]
   ·by_cases b2:y.tok<x.tok
    ·simp[a1,a2,b1,b2]
    ·by_cases c1:x.kind<y.kind
     ·simp[a1,a2,b1,b2,c1]
     ·by_cases c2:y.kind<x.kind
      ·simp[a1,a2,b1,b2,c1,c2]
      ·cases d1:zp x.text y.text<;>cases d2:zp y.text x.text<;>simp[a1,a2,b1,b2,c1,c2]
def HY(x y:qT)(I:PH):aK Tryz.prog 149 #[rK x,rK y] I [] fun v I2 qs=>qs=[]/\v=.int .i64 (Se x y):=by
 intro hd;refine ah 27 Tryz.func149 fun w0=>?_
 try simp only[rK]
 refine aT ?_;refine eP [0,1,2,3,5,6,7,8,10,11,12,13,15,16,17,18,4,9,14,19,20,21,22] [] [] ?_;refine gw ?_;refine cv hd rfl Av (bO.keep (yt x.slot y.slot I)) fun v I2 qs a2 al hq=>?_;obtain⟨rfl,rfl⟩:=hq;refine gw ?_;refine cv a2 rfl Av (bO.keep (yt x.tok y.tok I2)) fun v I3 qs a1 ak hq=>?_;obtain⟨rfl,rfl⟩:=hq;refine gw ?_;refine cv a1 rfl OX (bO.keep (QJ x.kind y.kind I3)) fun v I4 qs aS aj hq=>?_;obtain⟨rfl,rfl⟩:=hq;refine gw ?_;refine cv aS rfl QU (bO.keep (MX x.text y.text I4)) fun v I5 qs aq ag hq=>?_;obtain⟨rfl,rfl⟩:=hq;refine gw ?_;refine bj aq (by exact tz) rfl rfl rfl rfl rfl bg fun nb I6 ao ac am=>?_;refine gw ?_;refine cv ao rfl Hp (bO.keep (UD (zs:=[kL x.slot y.slot,kL x.tok y.tok,kL x.kind y.kind,Es x.text y.text]) (az am (by simp[aD,Value.cells]) (by simp[aD,Value.cells])) (by simp))) fun v I7 qs an aa hq=>?_;obtain⟨rfl,rfl⟩:=hq;refine gw ?_;refine aw ?_;refine aT ?_;exact af rfl an (r:=[_]) rfl (abV al (abV ak (abV aj (abV ag (abV ac aa))))) ⟨rfl,rfl⟩
def mC{α:Type}(R:PH->List Value->α->Prop)(lt:α->α->Bool)(vc:Value):Prop:=
 ∃f first cap,vc=.func (.func f) first cap/\aO Tryz.prog f/\∀(J:PH) (x y:α) (cx cy:List Value),R J cx x->R J cy y->
  aK Tryz.prog f (first++[Value.agg cx.toArray,Value.agg cy.toArray].toArray++cap) J [] fun v I2 qs=>qs=[]/\∃z:Int,v=.int .i64 z/\decide (z<0)=lt x y
def dp(x y:Nd):Bool:=CW x.key y.key
def HS{J:PH}{x y:Nd}{cx cy:List Value}(hx:bm J cx x)(hy:bm J cy y):aK Tryz.prog 148 #[.agg cx.toArray,.agg cy.toArray] J [] fun v I2 qs=>qs=[]/\∃z:Int,v=.int .i64 z/\decide (z<0)=dp x y:=by
 intro hd;obtain⟨kv,na,nk,rfl,an,ac,a1⟩:=hx.shape;obtain⟨kv2,na2,nk2,rfl,al,aa,am⟩:=hy.shape;obtain⟨ka,kc,rfl,_⟩:=ac;obtain⟨ka2,kc2,rfl,_⟩:=aa;refine ah 10 Tryz.func148 fun w0=>?_
 try simp only[sD,rD,iv]
 refine aT ?_;refine eP [0,2,1,3,4,5] [] [] ?_;refine gw ?_;refine cv hd rfl AR (bO.keep (MF _ _ _ _ _ _ _ _ _ _ _ J)) fun v I2 qs aS ak hq=>?_;obtain⟨rfl,rfl⟩:=hq;refine gw ?_;refine cv aS rfl AR (bO.keep (MF _ _ _ _ _ _ _ _ _ _ _ I2)) fun v I3 qs aq aj hq=>?_;obtain⟨rfl,rfl⟩:=hq;refine gw ?_;refine cv aq rfl OB (HY x.key y.key I3) fun v I4 qs ao ag hq=>?_;obtain⟨rfl,rfl⟩:=hq;refine gw ?_;refine aw ?_;refine aT ?_;exact af rfl ao (r:=[_]) rfl (abV ak (abV aj ag)) ⟨rfl,_,rfl,OK _ _⟩
def VO:mC bm dp (.func (.func 148) #[] #[]):=⟨148,#[],#[],rfl,Pb,fun J x y cx cy hx hy=>HS hx hy⟩
end Go.Proofs.YtfaclfkpnmcmlaaGreatDoor
namespace Syn
open Dg
mutual
def Yt:Nd->Nat
 |⟨_,_,_,_,ks,_⟩=>du ks+1
def du:List Nd->Nat
 | []=>0
 |n::l=>Yt n+du l
end
def SZ(n:Nd):Yt n=du n.kids+1:=by cases n;rfl
theorem dJ:du []=0:=rfl
def bp(n:Nd)(l:List Nd):du (n::l)=du n.kids+1+du l:=by rw[du,SZ]
def io:∀(a b:List Nd),du (a++b)=du a+du b
 | [],b=>by simp[du]
 |n::a,b=>by rw[aaz,bp,bp,io a b];omega
def oG{n:Nd}:∀{l:List Nd},n∈l->du n.kids+1<=du l
 | [],h=>(aaB h).elim
 |m::l,h=>by
  rw[bp];rcases List.mem_cons.1 h with e|e
  ·subst e;omega
  ·have:=oG e;omega
def iI:∀(l:List Nd),l.length<=du l
 | []=>ZR _
 |n::l=>by rw[bp,aaj];have:=iI l;omega
def fB{l ks:List Nd}(h:l.length<=1):du (give l ks)<=du l+du ks:=by
 match l,h with
 | [],_=>simp[give,du]
 | [n],_=>show du [_]<=_;rw[bp,bp,dJ];show du (n.kids++ks)+1+0<=_;rw[io];omega
def cw(l ks:List Nd):(give l ks).length=l.length:=by simp[give]
def Ah:∀(l:List Nd),du (slot0 l)=du l
 | []=>rfl
 |n::l=>by
  show du (_::slot0 l)=_;rw[bp,bp,Ah l]
section
variable (N:Nat)
def lf:Option Nat->Nat
 |none=>0
 |some p=>N+1-p
theorem kg:lf N none=0:=rfl
theorem iP(p:Nat):lf N (some p)=N+1-p:=rfl
def Rs(x y:Option Nat):lf N (x.or y)<=lf N x+lf N y:=by cases x<;>simp[lf]
def GZ(x:Option Nat):lf N (x.map (·+1))<=lf N x:=by
 cases x with
 |none=>exact ZR _
 |some p=>simp only[Z9,lf];omega
end
section
variable {c:bP} {ts:List Tok}
def sR(p:Option Nat):lf ts.length (p.map (nx c ts))<=lf ts.length p:=by
 cases p with
 |none=>exact ZR _
 |some p=>have:=rh c ts p;simp only[Z9,lf];omega
def lr(p:Option Nat)(is:Nat->Bool):lf ts.length (qz c ts p is)+lf ts.length (qz c ts p fun i=>!is i)<=lf ts.length p:=by
 refine ZS ?_ (sR (c:=c) p);unfold qz;cases p.map (nx c ts)with
 |none=>exact ZR _
 |some i=>cases h:is i<;>simp[Option.filter,h,lf]
variable{i:Nat}{p:Option Nat}
def Dk{is:Nat->Bool}(h:qz c ts p is=some i):is i=true:=by
 unfold qz at h;exact(Option.filter_eq_some_iff.1 h).2
def gx(h:X ts i≠[]):i<ts.length:=by
 rcases aaf i ts.length with h2|h2
 ·exact h2
 ·exact absurd (by unfold X cQ;rw[aan h2]) h
def DO(h:K ts i≠0):i<ts.length:=by
 rcases aaf i ts.length with h2|h2
 ·exact h2
 ·exact absurd (by unfold K cQ;rw[aan h2]) h
def ko(p:Option Nat)(s:bq):lf ts.length (aW ts c p s).1<=lf ts.length p:=by
 refine ZS ?_ (sR (c:=c) p);unfold aW;cases p.map (nx c ts)with
 |none=>exact ZR _
 |some i=>
  simp only;split
  ·simp only[lf];omega
  ·exact aaL _
def qf(p:Option Nat)(kind slot:Nat):du (aI ts c p kind slot).l+lf ts.length (aI ts c p kind slot).p<=lf ts.length p/\(aI ts c p kind slot).l.length<=1:=by
 have h0:=sR (c:=c) (ts:=ts) p;unfold aI;cases e:p.map (nx c ts)with
 |none=>exact⟨aaL _,aaL _⟩
 |some i=>
  rw[e]at h0;simp only;split
  ·exact⟨aaL _,aaL _⟩
  ·rename_i h;have:i<ts.length:=DO fun h2=>h (.inl (by rw[h2];decide));refine⟨?_,ZR _⟩;simp only[bp,dJ,lf]at *;omega
def yi(p:Option Nat)(slot:Nat):du (bI ts c p slot).l+lf ts.length (bI ts c p slot).p<=lf ts.length p:=by
 have h0:=sR (c:=c) (ts:=ts) p;unfold bI;cases e:p.map (nx c ts)with
 |none=>exact aaL _
 |some i=>
  rw[e]at h0;simp only;split
  ·exact aaL _
  ·rename_i h;have:i<ts.length:=gx fun h2=>h (by rw[h2];exact⟨by decide,by decide⟩);simp only[bp,dJ,lf]at *;omega
def wo{kind:Nat}{i:Option Nat}{slot:Nat}(h:∀j,i=some j->j<ts.length):du (jP kind i slot)+lf ts.length (i.map (·+1))<=lf ts.length i/\(jP kind i slot).length<=1:=by
 cases i with
 |none=>exact⟨ZR _,aaL _⟩
 |some j=>
  have:=h j rfl;refine⟨?_,ZR _⟩;show du [_]+_<=_;simp only[bp,dJ,Z9,lf];omega
def wt(N:Nat):dB->Nat
 | .line _ _ p _=>lf N p
 | .lineL _ _ _ _ l g out=>du l+(lf N g+lf N out)
 | .lineO _ _ _ op l g=>du l+(lf N op+lf N g)
 | .unary _ p _=>lf N p
 | .unaryH _ i _=>lf N i
 | .calls _ _ _ x names g=>du names+(lf N x+lf N g)
 | .inside _ p _=>lf N p
 | .listed _ _ p=>lf N p
 | .listL _ _ l g fin=>du l+(lf N g+lf N fin)
 | .item _ _ p=>lf N p
 | .behind _ _ p _ _=>lf N p
 | .vrb _ p=>lf N p
 | .function _ p=>lf N p
 | .block _ p _=>lf N p
 | .seqL _ _ p l out=>du l+(lf N p+lf N out)
 | .stmt _ i=>lf N i
 | .sCalls _ _ x l g=>du l+(lf N x+lf N g)
 | .branch _ i _=>lf N i
 | .elses _ x l out=>du l+(lf N x+lf N out)
 | .ifs _ y l out=>du l+(lf N y+lf N out)
def Lt(N:Nat)(x:Option Nat):Prop:=∀j,x=some j->j<N
def V4(N:Nat):dB->Prop
 | .lineO _ _ _ op _ _=>Lt N op
 | .calls _ _ _ x _ _=>Lt N x
 | .sCalls _ _ x _ _=>Lt N x
 | .branch _ i _=>Lt N i
 | .elses _ _ l _=>l.length<=1
 | .ifs _ y l _=>l.length<=1/\Lt N y
 |_=>True
def S4(N:Nat):dB->PR->Prop
 | .listed _ _ p,q=>∀j,p=some j->j<N->du q.l+lf N q.p+1<=lf N p
 |_,_=>True
def XE(N:Nat)(x:dB)(q:PR):Prop:=du q.l+lf N q.p<=wt N x/\S4 N x q
def sG{s:bq}(hs:s≠[]):Lt ts.length (qz c ts p (pi ts s)):=fun j h=>by
 have:=Dk h;simp only[pi,aaC]at this;exact gx (by rw[this];exact hs)
def BG{k:Nat}:Lt ts.length (qz c ts p (gK ts k)):=fun j h=>by
 have:=Dk h;simp only[gK,aao,aaC]at this;exact DO (by rw[this.1];decide)
def Lt.of(h:i<ts.length):Lt ts.length (some i):=fun j e=>by cases e;exact h
def dh{α β:Type}{a:Option α}{f:α->Option β}{q:β}(e:(a >>= f)=some q):∃x,a=some x/\f x=some q:=Option.bind_eq_some_iff.1 e
def H1{rec:oS}(R:∀x q,rec x=some q->V4 ts.length x->XE ts.length x q):∀x q,aC c ts rec x=some q->V4 ts.length x->XE ts.length x q:=by
 have R1:∀{x q},rec x=some q->V4 ts.length x->du q.l+lf ts.length q.p<=wt ts.length x:=fun h k=>(R _ _ h k).1;intro x q e hi;cases x with
 |line k o p slot=>
  refine⟨?_,trivial⟩;simp only[aC,ni]at e;split at e
  ·have:=R1 e trivial;exact this
  ·obtain⟨a,ea,e⟩:=dh e;obtain⟨b,eb,e⟩:=dh e;cases e
   have h1:=R1 ea trivial;have h2:=R1 eb trivial;simp only[wt,kg]at *;omega
 |lineL k o slot first l g out=>
  refine⟨?_,trivial⟩;simp only[aC,lP]at e;cases g with
  |none=>cases e;simp only[wt,kg];omega
  |some p=>
   simp only at e;split at e
   ·cases e;simp only[wt];omega
   ·obtain⟨a,ea,e⟩:=dh e;obtain⟨b,eb,e⟩:=dh e;cases e
    have h1:=R1 ea BG;have h2:=R1 eb trivial;have h3:=lr (c:=c) (ts:=ts) (some p) (gK ts k);simp only[wt,kg]at *;omega
 |lineO k o slot op l g=>
  refine⟨?_,trivial⟩;simp only[aC,pY]at e;cases op with
  |none=>cases e;simp only[wt,kg];omega
  |some i=>
   obtain⟨a,ea,e⟩:=dh e;cases e
   have h1:=R1 ea trivial;have h2:=hi i rfl;simp only[wt,iP,bp,dJ,io,Ah]at *;omega
 |unary o p slot=>
  refine⟨?_,trivial⟩;have h1:=R1 (x:=.unaryH o (p.map (nx c ts)) slot) e trivial;have h2:=sR (c:=c) (ts:=ts) p;simp only[wt]at *;omega
 |unaryH o i slot=>
  refine⟨?_,trivial⟩;simp only[aC,fZ]at e;cases i with
  |none=>cases e;exact ZR _
  |some i=>
   simp only at e;split at e
   ·rename_i hx;have aa:i<ts.length:=gx (by rcases hx with h|h<;>rw[h]<;>decide);split at e
    ·cases e;exact aaL _
    ·obtain⟨a,ea,e⟩:=dh e;cases e
     have h1:=R1 ea trivial;simp only[wt,iP,bp,dJ]at *;omega
   ·split at e
    ·have:=R1 e trivial;exact this
    ·split at e
     ·rename_i hx;have aa:i<ts.length:=DO (by rw[hx];decide);cases e
      simp only[wt,iP,bp,dJ]at *;omega
     ·split at e
      ·rename_i hx;have aa:i<ts.length:=gx (by rcases hx with h|h<;>rw[h]<;>decide);cases e
       simp only[wt,iP,bp,dJ]at *;omega
      ·split at e
       ·rename_i hx;have aa:i<ts.length:=gx (by rw[hx];decide);cases e
        simp only[wt,iP,bp,dJ]at *;omega
       ·obtain⟨b,eb,e⟩:=dh e;cases e
        have h1:=R1 eb (sG bg);have h2:=(qf (c:=c) (ts:=ts) (some i) 18 slot).1;have h3:=lr (c:=c) (ts:=ts) (aI ts c (some i) 18 slot).p (pi ts eM);simp only[wt]at *;omega
 |calls o i slot x names g=>
  refine⟨?_,trivial⟩;simp only[aC,nY]at e;split at e
  ·rename_i i x;obtain⟨a,ea,e⟩:=dh e;cases e
   have h1:=(R _ _ ea trivial).2 x rfl (hi x rfl);simp only[wt,bp,dJ]at *;omega
  ·cases e;simp only[wt];omega
 |inside o p slot=>
  refine⟨?_,trivial⟩;simp only[aC,il]at e;have h0:=sR (c:=c) (ts:=ts) p;cases hp:p.map (nx c ts)with
  |none=>rw[hp]at e;cases e;exact aaL _
  |some i=>
   rw[hp]at e h0;simp only at e;split at e
   ·cases e;exact aaL _
   ·split at e
    ·cases e;exact aaL _
    ·obtain⟨a,ea,e⟩:=dh e;cases e
     have h1:=R1 ea trivial;have h2:=ko (c:=c) (ts:=ts) a.p fK;simp only[wt,iP]at *;omega
 |listed par o p=>
  simp only[aC,ij]at e;have h0:=sR (c:=c) (ts:=ts) p;cases hp:p.map (nx c ts)with
  |none=>
   rw[hp]at e;cases e;refine⟨aaL _,fun j hj _=>?_⟩;rw[hj]at hp;cases hp
  |some i=>
   rw[hp]at e h0;have hz:∀j,p=some j->j<ts.length->1<=lf ts.length p:=fun j h1 h2=>by rw[h1,iP];omega
   simp only at e;split at e
   ·cases e;exact⟨aaL _,fun j h1 h2=>by simpa[ap,du,lf]using hz j h1 h2⟩
   ·rename_i hx;split at e
    ·cases e;exact⟨aaL _,fun j h1 h2=>by simpa[ap,du,lf]using hz j h1 h2⟩
    ·obtain⟨a,ea,e⟩:=dh e;cases e
     have aa:i<ts.length:=gx (by rw[Classical.not_not.1 hx];decide);have h1:=R1 ea trivial;have h2:=ko (c:=c) (ts:=ts) a.p fK;have h3:=lr (c:=c) (ts:=ts) (some (i+1)) (pi ts fK);have key:du a.l+lf ts.length (aW ts c a.p fK).1+1<=lf ts.length p:=by
      simp only[wt,iP,dJ]at *;omega
     exact⟨by simp only[wt];omega,fun _ _ _=>key⟩
 |listL par o l g fin=>
  refine⟨?_,trivial⟩;simp only[aC,oU]at e;cases g with
  |none=>cases e;simp only[wt,kg];omega
  |some p=>
   obtain⟨a,ea,e⟩:=dh e;obtain⟨b,eb,e⟩:=dh e;cases e
   have h1:=R1 ea trivial;have h2:=R1 eb trivial;have h3:=lr (c:=c) (ts:=ts) a.p (pi ts bB);have h4:=GZ ts.length (qz c ts a.p (pi ts bB));simp only[wt,io]at *;omega
 |item par o p=>
  refine⟨?_,trivial⟩;simp only[aC,ro]at e;split at e
  ·cases e
   have h1:=qf (c:=c) (ts:=ts) p 4 0;have h2:=ko (c:=c) (ts:=ts) (aI ts c p 4 0).p bA;have h3:=yi (c:=c) (ts:=ts) (aW ts c (aI ts c p 4 0).p bA).1 0;have h4:=fB (ks:=(bI ts c (aW ts c (aI ts c p 4 0).p bA).1 0).l) h1.2;have h5:=h1.1;simp only[wt]at *;omega
  ·have:=R1 e trivial;exact this
 |behind typ o p sign slot=>
  refine⟨?_,trivial⟩;simp only[aC,kh]at e;obtain⟨a,ea,e⟩:=dh e;cases e
  have h1:du a.l+lf ts.length a.p<=lf ts.length ((qz c ts p (pi ts sign)).map (·+1)):=by
   unfold fy at ea;split at ea
   ·cases ea;exact yi _ _
   ·exact R1 ea trivial
  have h3:=lr (c:=c) (ts:=ts) p (pi ts sign);have h4:=GZ ts.length (qz c ts p (pi ts sign));have h5:=Rs ts.length (qz c ts p fun i=>!pi ts sign i) a.p;simp only[wt]at *;omega
 |vrb o p=>
  refine⟨?_,trivial⟩;simp only[aC,gZ]at e;obtain⟨d,ed,e⟩:=dh e;cases e
  have h1:=qf (c:=c) (ts:=ts) p 2 0;have h2:=ko (c:=c) (ts:=ts) (aI ts c p 2 0).p bA;have h3:=yi (c:=c) (ts:=ts) (aW ts c (aI ts c p 2 0).p bA).1 0;have h4:=fB (ks:=(bI ts c (aW ts c (aI ts c p 2 0).p bA).1 0).l) h1.2;have h5:=h1.1;have h6:=R1 ed trivial;have h7:=fB (l:=give (aI ts c p 2 0).l (bI ts c (aW ts c (aI ts c p 2 0).p bA).1 0).l) (ks:=d.l) (by rw[cw];exact h1.2);have h8:=ko (c:=c) (ts:=ts) d.p a8;simp only[wt]at *;omega
 |function o p=>
  refine⟨?_,trivial⟩;simp only[aC,gY]at e;obtain⟨b,eb,e⟩:=dh e;obtain⟨d,ed,e⟩:=dh e;obtain⟨f,ef,e⟩:=dh e;cases e
  have h1:=qf (c:=c) (ts:=ts) p 3 0;have h2:=R1 eb trivial;have h3:=R1 ed trivial;have h4:=R1 ef trivial;have h5:=fB (ks:=b.l) h1.2;have h6:=fB (l:=give (aI ts c p 3 0).l b.l) (ks:=d.l) (by rw[cw];exact h1.2);have h7:=fB (l:=give (give (aI ts c p 3 0).l b.l) d.l) (ks:=f.l) (by rw[cw,cw];exact h1.2);have h8:=h1.1;simp only[wt]at *;omega
 |block o p slot=>
  refine⟨?_,trivial⟩;simp only[aC,jI]at e;have h0:=sR (c:=c) (ts:=ts) p;cases hp:p.map (nx c ts)with
  |none=>rw[hp]at e;cases e;exact aaL _
  |some i=>
   rw[hp]at e h0;simp only at e;split at e
   ·cases e;exact aaL _
   ·rename_i hx;have aa:i<ts.length:=gx (by rw[Classical.not_not.1 hx];decide);split at e
    ·cases e;exact aaL _
    ·obtain⟨a,ea,e⟩:=dh e;cases e
     have h1:=R1 ea trivial;have h2:=ko (c:=c) (ts:=ts) a.p qD;simp only[wt,iP,kg,bp,dJ]at *;omega
 |seqL top o p l out=>
  refine⟨?_,trivial⟩;simp only[aC,nE]at e;have h0:=sR (c:=c) (ts:=ts) p;cases hp:p.map (nx c ts)with
  |none=>rw[hp]at e;cases e;simp only[wt];omega
  |some i=>
   rw[hp]at e h0;simp only at e;split at e
   ·cases e;simp only[wt];omega
   ·obtain⟨a,ea,e⟩:=dh e;obtain⟨b,eb,e⟩:=dh e;cases e
    have h1:du a.l+lf ts.length a.p<=lf ts.length (some i):=by
     unfold md at ea;split at ea
     ·unfold vF at ea;split at ea
      ·have:=R1 ea trivial;simp only[wt,iP]at *;omega
      ·split at ea
       ·have:=R1 ea trivial;simp only[wt,iP]at *;omega
       ·cases ea;exact aaL _
     ·exact R1 ea trivial
    have h2:=R1 eb trivial;simp only[wt,kg,io]at *;omega
 |stmt o i=>
  refine⟨?_,trivial⟩;simp only[aC,gM]at e;cases i with
  |none=>cases e;exact ZR _
  |some i=>
   simp only at e;split at e
   ·have:=R1 e trivial;simp only[wt,iP]at *;omega
   ·split at e
    ·rename_i hx;have:=R1 e (show V4 ts.length (.branch o (some i) 0) from Lt.of (gx (by rw[hx];decide)));exact this
    ·split at e
     ·rename_i hx;have aa:i<ts.length:=gx (by rw[hx];decide);obtain⟨a,ea,e⟩:=dh e;obtain⟨b,eb,e⟩:=dh e;cases e
      have h0:=wo (kind:=9) (slot:=0) (Lt.of aa);have h1:=R1 ea trivial;have h2:=R1 eb trivial;have h3:=fB (ks:=a.l) h0.2;have h4:=fB (l:=give (jP 9 (some i) 0) a.l) (ks:=b.l) (by rw[cw];exact h0.2);have h5:=h0.1;simp only[wt,Z9]at *;omega
     ·split at e
      ·have:=R1 e trivial;exact this
      ·split at e
       ·rename_i hx;have aa:i<ts.length:=gx (by rw[hx];decide);obtain⟨a,ea,e⟩:=dh e;cases e
        have h0:=wo (kind:=10) (slot:=0) (Lt.of aa);have h1:=R1 ea trivial;have h3:=fB (ks:=a.l) h0.2;have h5:=h0.1;have h6:=lr (c:=c) (ts:=ts) (some (i+1)) (pi ts a8);have h7:=Rs ts.length a.p (qz c ts (some (i+1)) (pi ts a8));have h8:=ko (c:=c) (ts:=ts) (a.p.or (qz c ts (some (i+1)) (pi ts a8))) a8;simp only[wt,Z9]at *;omega
       ·split at e
        ·rename_i hx;have aa:i<ts.length:=gx (by rcases hx with h|h<;>rw[h]<;>decide);obtain⟨a,ea,e⟩:=dh e;cases e
         have h0:=wo (kind:=if X ts i=ew then 12 else 11) (slot:=0) (Lt.of aa);have h1:=R1 ea trivial;have h3:=fB (ks:=a.l) h0.2;have h5:=h0.1;have h8:=ko (c:=c) (ts:=ts) a.p a8;simp only[wt,Z9]at *;omega
        ·obtain⟨b,eb,e⟩:=dh e;obtain⟨d,ed,e⟩:=dh e;cases e
         have h0:=qf (c:=c) (ts:=ts) (some i) 7 0;have h1:=R1 eb trivial;have h2:=R1 ed (sG bg);have h3:=fB (ks:=b.l) h0.2;have h4:=lr (c:=c) (ts:=ts) (aI ts c (some i) 7 0).p (pi ts eM);have h5:=ko (c:=c) (ts:=ts) (qz c ts (aI ts c (some i) 7 0).p fun i=>!pi ts eM i) su;have h6:=ko (c:=c) (ts:=ts) d.p a8;have h7:=h0.1;simp only[wt]at *;omega
 |sCalls o i x l g=>
  refine⟨?_,trivial⟩;simp only[aC,lu]at e;split at e
  ·rename_i i x;obtain⟨a,ea,e⟩:=dh e;cases e
   have h1:=(R _ _ ea trivial).2 x rfl (hi x rfl);simp only[wt,bp,dJ]at *;omega
  ·cases e;simp only[wt];omega
 |branch o i slot=>
  refine⟨?_,trivial⟩;simp only[aC,ku]at e;obtain⟨a,ea,e⟩:=dh e;obtain⟨b,eb,e⟩:=dh e;obtain⟨d,ed,e⟩:=dh e;cases e
  have h0:=wo (kind:=8) (slot:=slot) hi;have h1:=R1 ea trivial;have h2:=R1 eb trivial;have h3:=R1 ed (show (give (give (jP 8 i slot) a.l) b.l).length<=1 by rw[cw,cw];exact h0.2);have h4:=fB (ks:=a.l) h0.2;have h5:=fB (l:=give (jP 8 i slot) a.l) (ks:=b.l) (by rw[cw];exact h0.2);have h6:=lr (c:=c) (ts:=ts) b.p (pi ts dr);have h7:=h0.1;simp only[wt]at *;omega
 |elses o x l out=>
  refine⟨?_,trivial⟩;simp only[aC,nP]at e;cases x with
  |none=>cases e;simp only[wt,kg];omega
  |some j=>
   obtain⟨a,ea,e⟩:=dh e;obtain⟨b,eb,e⟩:=dh e;cases e
   have h1:=R1 ea trivial;have h2:=R1 eb ⟨by rw[cw];exact hi,sG bg⟩;have h3:=fB (ks:=a.l) hi;have h4:=lr (c:=c) (ts:=ts) (some (j+1)) (pi ts kT);simp only[wt,iP]at *;omega
 |ifs o y l out=>
  refine⟨?_,trivial⟩;simp only[aC,BV]at e;cases y with
  |none=>cases e;simp only[wt,kg];omega
  |some j=>
   simp only at e;split at e
   ·cases e;simp only[wt];omega
   ·obtain⟨a,ea,e⟩:=dh e;cases e
    have h1:=R1 ea hi.2;have h3:=fB (ks:=a.l) hi.1;simp only[wt]at *;omega
def CZ:∀n x q,bS c ts n x=some q->V4 ts.length x->XE ts.length x q
 |0,x,q,e,_=>by cases e
 |n+1,x,q,e,h=>H1 (fun x q e h=>CZ n x q e h) x q e h
end
def vR(f:bP->Nat):Nat->bP->Nat
 |0,c=>f c
 |n+1,c=>vR f n (AT c n false)+vR f n (AT c n true)
def wG{f g h:bP->Nat}(e:∀c,h c=f c+g c):∀(n:Nat) (c:bP),vR h n c=vR f n c+vR g n c
 |0,c=>e c
 |n+1,c=>by simp only[vR,wG e n];omega
def Ca{f:bP->Nat}{M:Nat}(h:∀c,f c<=M):∀(n:Nat) (c:bP),vR f n c<=2^n*M
 |0,c=>by simpa[vR]using h c
 |n+1,c=>by simp only[vR];have:=Ca h n (AT c n false);have:=Ca h n (AT c n true);rw[abd,Nat.mul_assoc,Nat.mul_comm (2^n),Nat.mul_assoc,Nat.mul_comm M];omega
def CK(S:bP->Bool):∀(n:Nat) (c:bP),vR (fun c=>(S c).toNat) n c=AZ S n c
 |0,c=>rfl
 |n+1,c=>by simp only[vR,AZ,CK S n]
mutual
def Zd:Nd->Prop
 |⟨_,_,_,_,ks,d⟩=>d≠ff/\Uf ks
def Uf:List Nd->Prop
 | []=>True
 |n::l=>Zd n/\Uf l
end
def GH{c:bP}{d:T}{l:List Nd}(h:wL d l)(hc:d.at' c=false):pL c l=[]:=Bi fun n hn=>by
 cases e:n.cond.at' c with
 |false=>rfl
 |true=>have:=(Fy.1 h n hn).1 c e;rw[hc]at this;cases this
def yr:∀(l:List Nd) (d:T),iE l->wL d l->Uf l->du l<=vR (fun c=>du (pL c l)) 24 (fun _=>false)
 | [],_,_,_,_=>aaL _
 |⟨k,t,o,s,ks,e⟩::l,d,ho,hw,hn=>by
  have h1:=yr ks e ho.1.2 hw.1.2 hn.1.2;have h2:=yr l d ho.2 hw.2 hn.2;have h3:=T.card_pos ho.1.1 hn.1.1;have e1:∀c,du (pL c (⟨k,t,o,s,ks,e⟩::l))=((e.at' c).toNat+du (pL c ks))+du (pL c l):=fun c=>by
   rw[cM];cases hc:e.at' c with
   |true=>
    rw[aaq rfl,bp];show du (pL c ks)+1+_=1+du (pL c ks)+_;omega
   |false=>
    rw[ZV bg,GH hw.1.2 hc];show _=0+0+_;omega
  rw[wG e1,wG (fun c=>rfl),CK,bp];unfold T.card at h3;show du ks+1+du l<=_;omega
def xQ:∀(l:List Nd) (d:T),Uf (nX d l)
 | [],d=>trivial
 |⟨k,t,o,s,ks,e⟩::l,d=>by
  rw[qe];split
  ·exact xQ l d
  ·rename_i h;exact⟨⟨h,xQ ks (e.and d)⟩,xQ l d⟩
def Tk:Nat:=2^24*16386
def Lh{ts:List Tok}(hts:bT ts)(hl:ts.length<=16384){w:T}(hw:w.ok 0)(ac:w≠ff){n:Nat}{r:bW}(e:run ts n (.seqL true 0 [(0,w)] [] [])=some r):du (pI r)<=Tk:=by
 have hr:=jR hts hw ac e (fun _=>false);obtain⟨_,_,RR0⟩:=hr;obtain⟨o1,o2⟩:=E7 RR0.fok RR0.lok;by_cases hg:ii r.f=ff
 ·have hc:=(sS (c:=fun _=>false) RR0.fok).1;have e1:nX (ii r.f) r.l=[]:=by
   cases h:nX (ii r.f) r.l with
   |nil=>rfl
   |cons n l=>
    exfalso;obtain⟨a1,a2,a3,_⟩:=mY r.l (ii r.f) hc RR0.lok;rw[h]at a1 a2 a3;have hn:n.cond.ok 0:=(fW.1 a1.1).1;obtain⟨x,hx⟩:=T.some_of_ne hn (a3 n (.head _));have:=a2.1.1 x hx;rw[hg]at this;cases this
  unfold pI;rw[e1];simp only[bp,dJ];unfold Tk;omega
 have aa:Uf (pI r):=⟨⟨hg,xQ _ _⟩,trivial⟩;refine ZS (yr (pI r) tt o1 ⟨⟨fun _ _=>rfl,o2 _ (.head _)⟩,trivial⟩ aa) (Ca (fun c=>?_) 24 _);obtain⟨q,hq,R⟩:=jR hts hw ac e c;rw[Nm R.fok R.lok R.f];obtain⟨m,hm⟩:=hq;have h1:=(CZ m _ _ hm trivial).1;have h2:lf ts.length (if w.at' c then some 0 else none)<=ts.length+1:=by split<;>simp[lf]
 simp only[wt,kg,dJ]at h1;rw[R.l];split
 ·rw[bp,dJ];show du q.l+1+0<=_;omega
 ·exact aaL _
end Syn
