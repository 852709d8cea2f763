import Derived.Test.YtfaclfkpnmcmlaaGreatDoorH08
import Derived.Test.YtfaclfkpnmcmlaaGreatDoorH09
import Derived.Test.YtfaclfkpnmcmlaaGreatDoorH16
import Derived.Sort.AssemblyPlain
set_option maxHeartbeats 8000000
set_option linter.all false
namespace Go.Proofs.YtfaclfkpnmcmlaaGreatDoor
open Go Go.Sx Dg Syn
def E8{ts:List Tok}{f:ar}{kind slot:Nat}(h:(named ts f kind slot).l=[]):(named ts f kind slot).f=[]:=by
 have key:∀(hs:List aB) (z:Syn.bW),(z.l=[]->z.f=[])->((hs.foldl (cE kind slot) z).l=[]->(hs.foldl (cE kind slot) z).f=[]):=by
  intro hs
  induction hs with
  |nil=>intro z hz;exact hz
  |cons x hs ih=>
   intro z hz;refine ih _ ?_;unfold cE;split
   ·exact hz
   ·intro h;simp at h
 rw[lR]at h |-;exact key _ _ (fun _=>rfl) h
section
variable {pb:Nat} {ts:List Tok} {lv fv ov:Value}
def xE(ts:List Tok)(o slot:Nat)(h:aB)(r:Syn.bW)(m:Nat)(xs:List aB)(l:List Nd)(g:ar)(ee:List cO):Prop:=
 ∃b,Syn.run ts m (.calls o h slot xs l g)=some b/\b.l=r.l/\b.f=r.f/\ee++b.e=r.e
variable{ee:List cO}{g:ar}{l:List Nd}{r:Syn.bW}{h:aB}{o slot:Nat}
def IW{m:Nat}(k:xE ts o slot h r m [] l g ee):l=r.l/\g=r.f/\ee=r.e:=by
 obtain⟨b,hb,h1,h2,h3⟩:=k;obtain⟨m',rfl,ac⟩:=bR hb;have aa:Syn.calls (Syn.run ts m') o h slot [] l g=some b:=ac;unfold Syn.calls at aa;simp only at aa;cases aa
 exact⟨h1,h2,by simpa using h3⟩
variable{xs:List aB}
def Fb{m:Nat}{x:aB}(k:xE ts o slot h r m (x::xs) l g ee):∃m' a,m=m'+1/\
  Syn.run ts m' (.listed false o (bX x))=some a/\l.length+1<=aN/\xE ts o slot h r m' xs (kJ l x.cond++[⟨19,h.text,h.at',slot,a.l,x.cond⟩]) (Syn.joinAll g a.f) (ee++a.e):=by
 obtain⟨b0,hb,h1,h2,h3⟩:=k;obtain⟨m',rfl,am⟩:=bR hb;have aa:Syn.calls (Syn.run ts m') o h slot (x::xs) l g=some b0:=am;unfold Syn.calls at aa;simp only at aa;obtain⟨a,ha,ak⟩:=bU aa;obtain⟨_,an,aj⟩:=bU ak;obtain⟨b,ao,ac⟩:=bU aj;cases ac
 have:=qK an;simp only[aa9,aaJ,Syn.m7]at this;exact⟨m',a,rfl,ha,this,b,ao,h1,h2,by simpa[aaT]using h3⟩
def xE.le{m:Nat}(k:xE ts o slot h r m xs l g ee):ee.length<=r.e.length:=by
 obtain⟨b,_,_,_,h⟩:=k;rw[<-h];simp
def Jj(pb slot:Nat)(vh:Value)(n:Nat)(x:Nat×Value×Value×Value):St:=⟨dn 209 [(0,.v (pt pb)),(2,.v (iv slot)),(8,.v x.2.1),(9,.v x.2.2.1),(25,.v vh),(26,.v (iv n)),(27,.v (iv x.1))],[]⟩
def WU(pb slot:Nat)(vl vo vh:Value)(n i:Nat)(cs:List Value)(vx:Value)(n2:Nat)(x:Nat×Nat×Value×Value×Value):St:=⟨dn 209 [(0,.v (pt pb)),(2,.v (iv slot)),(8,.v vl),(9,.v vo),(11,.p 11 0),(16,.v x.2.2.1),(17,.v x.2.2.2.1),(25,.v vh),(26,.v (iv n)),(27,.v (iv i)),(58,.v vx),(59,.v (iv n2)),(60,.v (iv x.1))],[⟨11,227,cs⟩]⟩
def Y8(pb:Nat)(ts:List Tok)(lv fv ov:Value)(o slot M:Nat)(A B:PH)(h:aB)(xs:List aB)(r:Syn.bW)(e:List cO)(I0:PH)(x:Nat×Nat×Value×Value×Value)(H:PH):Prop:=
 ∃I D N G l g ee,H=U [I,sg pb (cg lv fv ov x.2.2.2.2 o),D,A,B,N,G]/\Dj [I,sg pb (cg lv fv ov x.2.2.2.2 o),D,A,B,N,G]/\I0.le I/\x.1<=xs.length/\x.2.1<=M/\xE ts o slot h r x.2.1 (xs.drop x.1) l g ee/\
  bQ I N x.2.2.1 l/\(l≠[]\/xs=[])/\l.length<=aN/\jy I G x.2.2.2.1 g/\FN ts.length g/\eF I D x.2.2.2.2 (e++ee)
theorem OW{n:Nat}(ih:kP pb ts lv fv ov n){f:ar}(hr:Syn.run ts n (.unary o f slot)=some r):vQ pb ts lv fv ov (.unary o f slot) r:=by
 obtain⟨m,rfl,hs⟩:=bR hr;have hD:cT ts f (fun h=>Syn.run ts m (.unaryH o h slot))=some r:=hs;rw[vX]at hD;clear hs hr;intro ho I D dv vf e h hf fn he hm hd;have hl:=h.len;refine ah 209 Tryz.func220 fun w0=>?_
 try simp only[iv,pt]
 refine aT ?_;refine DY hd [0,1] rfl kU rfl (ps:=[sg pb _]) (F:=[D]) rfl (kW h hf fn) fun v I2 qs hF d0 hq=>?_;obtain⟨rfl,hH⟩:=hq;obtain⟨ha,hc,rfl,_⟩:=id hH;simp only[Z3]at hF |-;refine dP ?_;have hN:∀x∈bE ts f,kS ts x:=fun x hx=>b9 h.ok fn hx;have kj:=fM h.ok fn;have i2:=hH;generalize bE ts f=cb at *;refine aR hF fun h5=>?_;refine aR h5 fun h4=>?_;refine bf h4 [2,3,0,1] fun h2=>?_;refine aA (fun x=>cb.length-x.1) (Jj pb slot (.slice ha cb.length hc) cb.length) (WC pb ts lv fv ov o cb (fun h=>Syn.run ts m (.unaryH o h slot)) r e I2) (0,.slice none 0 0,.slice none 0 0,dv) gP (by simp only[go_sem,aa6,Jj]) ?_ ?_
 ·exact⟨I2,D,PH.no,PH.no,⟨[],[],[]⟩,rfl,h2,abW _,aaL _,hD,by simpa using eF.le he d0,Ow.nil _ _ _ _,Ow.nil _ _ _ _,FN.nil _,aaL _⟩
 rintro⟨i,va,vb,dv⟩ H ⟨I3,D3,A3,B3,ri,rfl,cm,a4,h0,e6,hE,hA,hB,a7,e8⟩ a2;simp only at h0 e6 hE hA hB;simp only[Jj];have i1:qO I3 (.slice ha cb.length hc) cb:=i2.le a4;rcases aaf i cb.length with ct|kn
 ·have hn:decide ((i:Int)<(cb.length:Int))=true:=by simp;omega
  have e1:=wrap64 (n:=i+1) ab;have c9:IntKind.i64.wrap ((i:Int)+1)=((i+1:Nat):Int):=by rw[<-e1];congr 1
  obtain⟨x,hx⟩:∃x,cb[i]?=some x:=⟨_,aak ct⟩;have hR:=aaV hx;have b3:=hN x hR;obtain⟨b,off,cs,rfl,h6,er⟩:=i1.load l7.len hx;obtain⟨xa,xk,rfl,a1⟩:=h6;obtain⟨r',hT,b0⟩:=oF hx e6;have cc:=xq b0;obtain⟨y,hy,ca,rfl⟩:=pC hT;have h3:=h.le (abV d0 a4);simp only[aa9]at cc ca;have dd:∀s:bq,x.text≠s->(x.text == s)=false:=fun s k=>beq_eq_false_iff_ne.2 k;obtain⟨m1,rfl,hC⟩:=bR hy;have ba:Syn.unaryH ts (Syn.run ts m1) o x slot=some y:=hC;clear hy hC;unfold Syn.unaryH at ba;have e2:=wrap64 (n:=x.at'+1) (by have:=b3.le;omega);have fc:IntKind.i64.wrap ((x.at':Int)+1)=((x.at'+1:Nat):Int):=by rw[<-e2];congr 1
  have hS:=b3.le;unfold aN at ca e8;apply RG;simp only[go_sem,hn,iv,pt];refine⟨ab,?_⟩;refine XN (l:=[iv x.at',sD xa xk x.cond,rD x.cond,.int .u8 x.kind,.string ⟨⟨x.text⟩⟩]) (v:=.agg #[iv x.at',sD xa xk x.cond,rD x.cond,.int .u8 x.kind,.string ⟨⟨x.text⟩⟩]) rfl (cellsU cm (.head _) er) (.inl ⟨gI,rfl⟩) ?_;by_cases t1:x.text=Fg\/x.text=jS
  ·rw[aaq t1]at ba;have cp:x.at'<ts.length:=t1.elim (b3.lt2 (s:=Fg) bg) (b3.lt2 (s:=jS) bg);by_cases t2:x.text=Fg
   ·have q1:(x.text == [33])=true:=by rw[t2];decide
    apply RG;simp only[go_sem,iv,pt,sD,rD,q1];by_cases b5:o=64
    ·rw[aaq b5]at ba;cases ba
     subst b5;refine ad cm [0,1,2,3] [sg pb _,D3] [A3,B3] rfl jh rfl (nq h3 b3.le a1 hE (by simp[cJ]at cc |-;omega)) fun v I4 qs b6 aq hq=>?_;obtain⟨dv2,D4,rs,rfl,g3,rfl,rfl⟩:=hq;simp only[Z3]at b6 |-;apply RG;simp only[go_sem,iv,pt,sD,rD,c9,abK];exact a2 (i+1,va,vb,dv2) _ _ dt gP (by simp only[go_sem,aa6,Jj]) ⟨I4,D4,A3,B3,_,rfl,b6,abV a4 aq,ct,b0,by simp only;rw[<-aaT];exact g3,by simpa using bQ.le hA aq,jy.le hB aq,a7,by simp only[aa6];unfold aN;exact e8⟩
    ·rw[ZV b5]at ba;obtain⟨a,f5,eg⟩:=bU ba;cases eg
     simp only[aaJ]at cc ca;refine ad cm [0,1,2,3] [sg pb _] [D3,A3,B3] rfl jh rfl (lz (h:=x) (a:=xa) (k:=xk) ab) fun v I4 qs b6 aq hq=>?_;obtain⟨rfl,rfl,rfl⟩:=hq;simp only[Z3]at b6 |-;apply RG;simp only[go_sem,iv,pt,sD,rD,abQ];refine ad b6 [0,1,2,3] [] [sg pb _,D3,A3,B3] rfl jj rfl (ji (h:=x) ab a1) fun v I5 qs b1 ac hq=>?_;obtain⟨rfl,fa⟩:=hq;simp only[Z3]at b1 |-;refine dg ?_;refine ad b1 [0,1,2,3] [sg pb _,D3] [A3,B3] rfl AH rfl (ih m1 ab (.unary (o+1) (bv x) 0) a f5 ab (h3.le ac) fa (bH b3 cp) (hE.le ac) (by simp only[aa9];omega)) fun v I6 qs bd b2 hq=>?_;obtain⟨dv6,D6,rs,rfl,eA,⟨A6,B6,va6,vb6,rfl,rfl,da,eH⟩,dy,hK⟩:=hq;have c5:=da.capN bm.len;obtain⟨ka,kc,rfl⟩:=da.shape;simp only[Z3]at bd |-;refine dg ?_;refine XN (l:=[.int .i64 ((o+1:Nat):Int)]) rfl (cellsU bd (.tail _ (.head _)) (ay (by simp[cg]) rfl)) (.inr ⟨jq,rfl⟩) ?_;apply RG;simp only[go_sem,iv,pt,sD,rD,kE o ho];refine bw bd rfl rfl rfl rfl rfl (by exact uZ) (by simp) fun aS=>?_;refine dg ?_;refine bf aS [2,0,1,3,4,5] fun aj=>?_;refine ae aj fun I7 aj ao c8=>?_;have et:eE I7 (.slice ka a.l.length kc) a.l:=da.sl ao c8;refine bf aj [2,0,1,3,4] fun a3=>?_;refine ae a3 fun I9 a3 ak c7=>?_;have ex:eR I9 vb6 a.f:=eH.sl (abV ao ak) c7;have dc:=abV ao ak;have cl:=abV ac (abV b2 dc);refine ad a3 [3,0,1,2] [B3] [sg pb _,D6,A3] rfl eI rfl (cS (N:=ts.length) ab (jy.le hB cl) a7 ex dy) fun v13 e4 qs an aa hq=>?_;obtain⟨B13,rfl,a0⟩:=hq;simp only[Z3]at an |-;refine dg ?_;refine bf an [1,2,3,0] fun a6=>?_;have k313:=abV cl aa;have ec:=eA.le (abV dc aa)
     refine ax a6 (by exact dQ) rfl rfl rfl rfl rfl bg fun nb8 I8 b1 ac bs=>?_;have c6:eE I8 (.slice (some ⟨nb8,0,none⟩) 1 1) ([⟨14,x.text,x.at',slot,a.l,x.cond⟩]:List Nd):=iJ (az bs (by simp[aD,Value.cells]) (by simp[aD,Value.cells,iv,sD,rD])) (bm.mk (n:=⟨14,x.text,x.at',slot,a.l,x.cond⟩) ((a1.le k313).le ac) (eE.le et (abV ak (abV aa ac))) c5);refine dg ?_;refine bf b1 [2,0,1,3] fun bd=>?_;refine bl bd (by exact dQ) (bQ.le hA (abV k313 ac)) (c6) (fun{I J c a} h k=>bm.le h k) (fun{I} c a h=>bm.len c a h) (fun{I} c a h=>bm.ones h) rfl rfl rfl rfl (by first|omega|(simp only[aaj,aaO];omega)) (by unfold maxLen;first|omega|(simp only[aaj,aaO];omega)) fun na nc cn A10 aS am a9=>?_;apply RG;simp only[go_sem,iv,pt,sD,rD,c9];refine bf aS [1,2,0,3] fun aj=>?_;have k810:=abV ac am;obtain⟨ta,tc,rfl⟩:=a0.shape;refine a2 (i+1,.slice na (ri.l++([⟨14,x.text,x.at',slot,a.l,x.cond⟩]:List Nd)).length nc,.slice ta (Syn.joinAll ri.f a.f).length tc,dv6) _ _ dt gP (by simp only[go_sem,aa6,Jj]) ⟨cn,D6,A10,B13,_,rfl,aj,abV a4 (abV k313 k810),ct,b0,by simpa[aaT]using ec.le k810,a9,jy.le a0 k810,a7.joinAll dy,by simp only[aa9,aaJ];unfold aN;simpa using ca⟩
   ·have q1:(x.text == [33])=false:=dd _ t2;have q2:(x.text == [45])=true:=by rw[t1.resolve_left t2];decide
    apply RG;simp only[go_sem,iv,pt,sD,rD,q1,q2];by_cases b5:o=64
    ·rw[aaq b5]at ba;cases ba
     subst b5;refine ad cm [0,1,2,3] [sg pb _,D3] [A3,B3] rfl jh rfl (nq h3 b3.le a1 hE (by simp[cJ]at cc |-;omega)) fun v I4 qs b6 aq hq=>?_;obtain⟨dv2,D4,rs,rfl,g3,rfl,rfl⟩:=hq;simp only[Z3]at b6 |-;apply RG;simp only[go_sem,iv,pt,sD,rD,c9,abK];exact a2 (i+1,va,vb,dv2) _ _ dt gP (by simp only[go_sem,aa6,Jj]) ⟨I4,D4,A3,B3,_,rfl,b6,abV a4 aq,ct,b0,by simp only;rw[<-aaT];exact g3,by simpa using bQ.le hA aq,jy.le hB aq,a7,by simp only[aa6];unfold aN;exact e8⟩
    ·rw[ZV b5]at ba;obtain⟨a,f5,eg⟩:=bU ba;cases eg
     simp only[aaJ]at cc ca;refine ad cm [0,1,2,3] [sg pb _] [D3,A3,B3] rfl jh rfl (lz (h:=x) (a:=xa) (k:=xk) ab) fun v I4 qs b6 aq hq=>?_;obtain⟨rfl,rfl,rfl⟩:=hq;simp only[Z3]at b6 |-;apply RG;simp only[go_sem,iv,pt,sD,rD,abQ];refine ad b6 [0,1,2,3] [] [sg pb _,D3,A3,B3] rfl jj rfl (ji (h:=x) ab a1) fun v I5 qs b1 ac hq=>?_;obtain⟨rfl,fa⟩:=hq;simp only[Z3]at b1 |-;refine dg ?_;refine ad b1 [0,1,2,3] [sg pb _,D3] [A3,B3] rfl AH rfl (ih m1 ab (.unary (o+1) (bv x) 0) a f5 ab (h3.le ac) fa (bH b3 cp) (hE.le ac) (by simp only[aa9];omega)) fun v I6 qs bd b2 hq=>?_;obtain⟨dv6,D6,rs,rfl,eA,⟨A6,B6,va6,vb6,rfl,rfl,da,eH⟩,dy,hK⟩:=hq;have c5:=da.capN bm.len;obtain⟨ka,kc,rfl⟩:=da.shape;simp only[Z3]at bd |-;refine dg ?_;refine XN (l:=[.int .i64 ((o+1:Nat):Int)]) rfl (cellsU bd (.tail _ (.head _)) (ay (by simp[cg]) rfl)) (.inr ⟨jq,rfl⟩) ?_;apply RG;simp only[go_sem,iv,pt,sD,rD,kE o ho];refine bw bd rfl rfl rfl rfl rfl (by exact uZ) (by simp) fun aS=>?_;refine dg ?_;refine bf aS [2,0,1,3,4,5] fun aj=>?_;refine ae aj fun I7 aj ao c8=>?_;have et:eE I7 (.slice ka a.l.length kc) a.l:=da.sl ao c8;refine bf aj [2,0,1,3,4] fun a3=>?_;refine ae a3 fun I9 a3 ak c7=>?_;have ex:eR I9 vb6 a.f:=eH.sl (abV ao ak) c7;have dc:=abV ao ak;have cl:=abV ac (abV b2 dc);refine ad a3 [3,0,1,2] [B3] [sg pb _,D6,A3] rfl eI rfl (cS (N:=ts.length) ab (jy.le hB cl) a7 ex dy) fun v13 e4 qs an aa hq=>?_;obtain⟨B13,rfl,a0⟩:=hq;simp only[Z3]at an |-;refine dg ?_;refine bf an [1,2,3,0] fun a6=>?_;have k313:=abV cl aa;have ec:=eA.le (abV dc aa)
     refine ax a6 (by exact dQ) rfl rfl rfl rfl rfl bg fun nb8 I8 b1 ac bs=>?_;have c6:eE I8 (.slice (some ⟨nb8,0,none⟩) 1 1) ([⟨14,x.text,x.at',slot,a.l,x.cond⟩]:List Nd):=iJ (az bs (by simp[aD,Value.cells]) (by simp[aD,Value.cells,iv,sD,rD])) (bm.mk (n:=⟨14,x.text,x.at',slot,a.l,x.cond⟩) ((a1.le k313).le ac) (eE.le et (abV ak (abV aa ac))) c5);refine dg ?_;refine bf b1 [2,0,1,3] fun bd=>?_;refine bl bd (by exact dQ) (bQ.le hA (abV k313 ac)) (c6) (fun{I J c a} h k=>bm.le h k) (fun{I} c a h=>bm.len c a h) (fun{I} c a h=>bm.ones h) rfl rfl rfl rfl (by first|omega|(simp only[aaj,aaO];omega)) (by unfold maxLen;first|omega|(simp only[aaj,aaO];omega)) fun na nc cn A10 aS am a9=>?_;apply RG;simp only[go_sem,iv,pt,sD,rD,c9];refine bf aS [1,2,0,3] fun aj=>?_;have k810:=abV ac am;obtain⟨ta,tc,rfl⟩:=a0.shape;refine a2 (i+1,.slice na (ri.l++([⟨14,x.text,x.at',slot,a.l,x.cond⟩]:List Nd)).length nc,.slice ta (Syn.joinAll ri.f a.f).length tc,dv6) _ _ dt gP (by simp only[go_sem,aa6,Jj]) ⟨cn,D6,A10,B13,_,rfl,aj,abV a4 (abV k313 k810),ct,b0,by simpa[aaT]using ec.le k810,a9,jy.le a0 k810,a7.joinAll dy,by simp only[aa9,aaJ];unfold aN;simpa using ca⟩
  rw[ZV t1]at ba;have q1:(x.text == [33])=false:=dd _ fun k=>t1 (.inl k);have q2:(x.text == [45])=false:=dd _ fun k=>t1 (.inr k);by_cases t3:x.text=eM
  ·rw[aaq t3]at ba;have q3:(x.text == [40])=true:=by rw[t3];decide
   apply RG;simp only[go_sem,iv,pt,sD,rD,q1,q2,q3];refine ax cm (by exact jH) rfl rfl rfl rfl rfl bg fun nb I4 b6 aq fr=>?_;have g1:eR I4 (.slice (some ⟨nb,0,none⟩) 1 1) (bX x):=qJ (az fr (by simp[aD,Value.cells]) (by simp[aD,Value.cells,iv,sD,rD])) (a1.le aq);refine dg ?_;refine ad b6 [0,1,2,3] [sg pb _,D3] [A3,B3] rfl Bj rfl (ih m1 ab (.inside o (bX x) slot) y ba ho (h3.le aq) g1 (jk b3) (hE.le aq) (by simp only[aa9];omega)) fun v I6 qs bd b2 hq=>?_;obtain⟨dv6,D6,rs,rfl,eA,⟨A6,B6,va6,vb6,rfl,rfl,da,eH⟩,dy,hK⟩:=hq;simp only[Z3]at bd |-;refine dg ?_;refine bf bd [2,0,1,3,4,5] fun aj=>?_;refine ae aj fun I7 aj ao c8=>?_;have et:eE I7 va6 y.l:=da.sl ao c8;refine bf aj [2,0,1,3,4] fun a3=>?_;refine ae a3 fun I9 a3 ak c7=>?_;have ex:eR I9 vb6 y.f:=eH.sl (abV ao ak) c7;have dc:=abV ao ak;have cl:=abV aq (abV b2 dc);refine bf a3 [2,0,1,3] fun an=>?_;refine bl an (by exact dQ) (bQ.le hA cl) (eE.le et ak) (fun{I J c a} h k=>bm.le h k) (fun{I} c a h=>bm.len c a h) (fun{I} c a h=>bm.ones h) rfl rfl rfl rfl (by first|omega|(simp only[aaj,aaO];omega)) (by unfold maxLen;first|omega|(simp only[aaj,aaO];omega)) fun na nc cn A10 a6 c1 a9=>?_;refine dg ?_;refine ad a6 [3,0,1,2] [B3] [A10,sg pb _,D6] rfl eI rfl (cS (N:=ts.length) ab (jy.le hB (abV cl c1)) a7 (ex.le c1) dy) fun v15 j2 qs eq dx hq=>?_;obtain⟨B15,rfl,e3⟩:=hq;obtain⟨ta,tc,rfl⟩:=e3.shape;simp only[Z3]at eq |-;apply RG;simp only[go_sem,iv,pt,sD,rD,c9];refine bf eq [2,3,1,0] fun f2=>?_;have k1015:=abV c1 dx
   refine a2 (i+1,.slice na (ri.l++y.l).length nc,.slice ta (Syn.joinAll ri.f y.f).length tc,dv6) _ _ dt gP (by simp only[go_sem,aa6,Jj]) ⟨j2,D6,A10,B15,_,rfl,f2,abV a4 (abV cl k1015),ct,b0,by simpa[aaT]using eA.le (abV dc k1015),bQ.le a9 dx,e3,a7.joinAll dy,by simp only[aa9]at ca |-;unfold aN;exact ca⟩
  rw[ZV t3]at ba;have q3:(x.text == [40])=false:=dd _ t3;by_cases t4:x.kind=2
  ·rw[aaq t4]at ba;have q4:((x.kind:Int) == 2)=true:=by rw[t4];rfl
   have cp:x.at'<ts.length:=b3.lt (.inr ab);apply RG;simp only[go_sem,iv,pt,sD,rD,q1,q2,q3,q4];cases ba
   apply RG;simp only[go_sem,iv,pt,sD,rD,fc];refine ad cm [3,0,1,2] [B3] [sg pb _,D3,A3] rfl ej rfl (bK (a:=x.at'+1) hB a1 a7.ok.2 (fun t ht=>by have:=a7.le t ht;omega) ab (by have:=a7.len;omega)) fun v13 e4 qs an aa hq=>?_;obtain⟨B13,rfl,a0⟩:=hq;simp only[Z3]at an |-;refine dg ?_;refine bf an [1,2,3,0] fun a6=>?_;refine ax a6 (by exact dQ) rfl rfl rfl rfl rfl bg fun nb8 I8 b1 ac bs=>?_;have c6:eE I8 (.slice (some ⟨nb8,0,none⟩) 1 1) ([⟨15,x.text,x.at',slot,[],x.cond⟩]:List Nd):=iJ (az bs (by simp[aD,Value.cells]) (by simp[aD,Value.cells,iv,sD,rD])) (bm.mk (n:=⟨15,x.text,x.at',slot,[],x.cond⟩) ((a1.le aa).le ac) (Sl.nil _ _) lM);refine dg ?_;refine bf b1 [2,0,1,3] fun bd=>?_;refine bl bd (by exact dQ) (bQ.le hA (abV aa ac)) (c6) (fun{I J c a} h k=>bm.le h k) (fun{I} c a h=>bm.len c a h) (fun{I} c a h=>bm.ones h) rfl rfl rfl rfl (by first|omega|(simp only[aaj,aaO];omega)) (by unfold maxLen;first|omega|(simp only[aaj,aaO];omega)) fun na nc cn A10 aS am a9=>?_;apply RG;simp only[go_sem,iv,pt,sD,rD,c9];refine bf aS [1,2,0,3] fun aj=>?_;have k810:=abV ac am;obtain⟨ta,tc,rfl⟩:=a0.shape;refine a2 (i+1,.slice na (ri.l++([⟨15,x.text,x.at',slot,[],x.cond⟩]:List Nd)).length nc,.slice ta (Syn.join ri.f (x.at'+1) x.cond).length tc,dv) _ _ dt gP (by simp only[go_sem,aa6,Jj]) ⟨cn,D3,A10,B13,_,rfl,aj,abV a4 (abV aa k810),ct,b0,by simpa using hE.le (abV aa k810),a9,jy.le a0 k810,a7.join ab b3.ok,by simp only[aa9,aaJ];unfold aN;simpa using ca⟩
  rw[ZV t4]at ba;have q4:((x.kind:Int) == 2)=false:=by rw[abS];omega
  by_cases t5:x.text=pH\/x.text=mK
  ·rw[aaq t5]at ba;have cp:x.at'<ts.length:=t5.elim (b3.lt2 (s:=pH) bg) (b3.lt2 (s:=mK) bg);by_cases t6:x.text=pH
   ·have q5:(x.text == [116,114,117,101])=true:=by rw[t6];decide
    apply RG;simp only[go_sem,iv,pt,sD,rD,q1,q2,q3,q4,q5];cases ba
    apply RG;simp only[go_sem,iv,pt,sD,rD,fc];refine ad cm [3,0,1,2] [B3] [sg pb _,D3,A3] rfl ej rfl (bK (a:=x.at'+1) hB a1 a7.ok.2 (fun t ht=>by have:=a7.le t ht;omega) ab (by have:=a7.len;omega)) fun v13 e4 qs an aa hq=>?_;obtain⟨B13,rfl,a0⟩:=hq;simp only[Z3]at an |-;refine dg ?_;refine bf an [1,2,3,0] fun a6=>?_;refine ax a6 (by exact dQ) rfl rfl rfl rfl rfl bg fun nb8 I8 b1 ac bs=>?_;have c6:eE I8 (.slice (some ⟨nb8,0,none⟩) 1 1) ([⟨16,x.text,x.at',slot,[],x.cond⟩]:List Nd):=iJ (az bs (by simp[aD,Value.cells]) (by simp[aD,Value.cells,iv,sD,rD])) (bm.mk (n:=⟨16,x.text,x.at',slot,[],x.cond⟩) ((a1.le aa).le ac) (Sl.nil _ _) lM);refine dg ?_;refine bf b1 [2,0,1,3] fun bd=>?_;refine bl bd (by exact dQ) (bQ.le hA (abV aa ac)) (c6) (fun{I J c a} h k=>bm.le h k) (fun{I} c a h=>bm.len c a h) (fun{I} c a h=>bm.ones h) rfl rfl rfl rfl (by first|omega|(simp only[aaj,aaO];omega)) (by unfold maxLen;first|omega|(simp only[aaj,aaO];omega)) fun na nc cn A10 aS am a9=>?_;apply RG;simp only[go_sem,iv,pt,sD,rD,c9];refine bf aS [1,2,0,3] fun aj=>?_;have k810:=abV ac am;obtain⟨ta,tc,rfl⟩:=a0.shape;refine a2 (i+1,.slice na (ri.l++([⟨16,x.text,x.at',slot,[],x.cond⟩]:List Nd)).length nc,.slice ta (Syn.join ri.f (x.at'+1) x.cond).length tc,dv) _ _ dt gP (by simp only[go_sem,aa6,Jj]) ⟨cn,D3,A10,B13,_,rfl,aj,abV a4 (abV aa k810),ct,b0,by simpa using hE.le (abV aa k810),a9,jy.le a0 k810,a7.join ab b3.ok,by simp only[aa9,aaJ];unfold aN;simpa using ca⟩
   ·have q5:(x.text == [116,114,117,101])=false:=dd _ t6;have q6:(x.text == [102,97,108,115,101])=true:=by rw[t5.resolve_left t6];decide
    apply RG;simp only[go_sem,iv,pt,sD,rD,q1,q2,q3,q4,q5,q6];cases ba
    apply RG;simp only[go_sem,iv,pt,sD,rD,fc];refine ad cm [3,0,1,2] [B3] [sg pb _,D3,A3] rfl ej rfl (bK (a:=x.at'+1) hB a1 a7.ok.2 (fun t ht=>by have:=a7.le t ht;omega) ab (by have:=a7.len;omega)) fun v13 e4 qs an aa hq=>?_;obtain⟨B13,rfl,a0⟩:=hq;simp only[Z3]at an |-;refine dg ?_;refine bf an [1,2,3,0] fun a6=>?_;refine ax a6 (by exact dQ) rfl rfl rfl rfl rfl bg fun nb8 I8 b1 ac bs=>?_;have c6:eE I8 (.slice (some ⟨nb8,0,none⟩) 1 1) ([⟨16,x.text,x.at',slot,[],x.cond⟩]:List Nd):=iJ (az bs (by simp[aD,Value.cells]) (by simp[aD,Value.cells,iv,sD,rD])) (bm.mk (n:=⟨16,x.text,x.at',slot,[],x.cond⟩) ((a1.le aa).le ac) (Sl.nil _ _) lM);refine dg ?_;refine bf b1 [2,0,1,3] fun bd=>?_;refine bl bd (by exact dQ) (bQ.le hA (abV aa ac)) (c6) (fun{I J c a} h k=>bm.le h k) (fun{I} c a h=>bm.len c a h) (fun{I} c a h=>bm.ones h) rfl rfl rfl rfl (by first|omega|(simp only[aaj,aaO];omega)) (by unfold maxLen;first|omega|(simp only[aaj,aaO];omega)) fun na nc cn A10 aS am a9=>?_;apply RG;simp only[go_sem,iv,pt,sD,rD,c9];refine bf aS [1,2,0,3] fun aj=>?_;have k810:=abV ac am;obtain⟨ta,tc,rfl⟩:=a0.shape;refine a2 (i+1,.slice na (ri.l++([⟨16,x.text,x.at',slot,[],x.cond⟩]:List Nd)).length nc,.slice ta (Syn.join ri.f (x.at'+1) x.cond).length tc,dv) _ _ dt gP (by simp only[go_sem,aa6,Jj]) ⟨cn,D3,A10,B13,_,rfl,aj,abV a4 (abV aa k810),ct,b0,by simpa using hE.le (abV aa k810),a9,jy.le a0 k810,a7.join ab b3.ok,by simp only[aa9,aaJ];unfold aN;simpa using ca⟩
  rw[ZV t5]at ba;have q5:(x.text == [116,114,117,101])=false:=dd _ fun k=>t5 (.inl k);have q6:(x.text == [102,97,108,115,101])=false:=dd _ fun k=>t5 (.inr k);by_cases t7:x.text=qX
  ·rw[aaq t7]at ba;have cp:x.at'<ts.length:=b3.lt2 (s:=qX) bg t7;have q7:(x.text == [114,101,97,100])=true:=by rw[t7];decide
   apply RG;simp only[go_sem,iv,pt,sD,rD,q1,q2,q3,q4,q5,q6,q7];cases ba
   apply RG;simp only[go_sem,iv,pt,sD,rD,fc];refine ad cm [3,0,1,2] [B3] [sg pb _,D3,A3] rfl ej rfl (bK (a:=x.at'+1) hB a1 a7.ok.2 (fun t ht=>by have:=a7.le t ht;omega) ab (by have:=a7.len;omega)) fun v13 e4 qs an aa hq=>?_;obtain⟨B13,rfl,a0⟩:=hq;simp only[Z3]at an |-;refine dg ?_;refine bf an [1,2,3,0] fun a6=>?_;refine ax a6 (by exact dQ) rfl rfl rfl rfl rfl bg fun nb8 I8 b1 ac bs=>?_;have c6:eE I8 (.slice (some ⟨nb8,0,none⟩) 1 1) ([⟨17,[],x.at',slot,[],x.cond⟩]:List Nd):=iJ (az bs (by simp[aD,Value.cells]) (by simp[aD,Value.cells,iv,sD,rD])) (bm.mk (n:=⟨17,[],x.at',slot,[],x.cond⟩) ((a1.le aa).le ac) (Sl.nil _ _) lM);refine dg ?_;refine bf b1 [2,0,1,3] fun bd=>?_;refine bl bd (by exact dQ) (bQ.le hA (abV aa ac)) (c6) (fun{I J c a} h k=>bm.le h k) (fun{I} c a h=>bm.len c a h) (fun{I} c a h=>bm.ones h) rfl rfl rfl rfl (by first|omega|(simp only[aaj,aaO];omega)) (by unfold maxLen;first|omega|(simp only[aaj,aaO];omega)) fun na nc cn A10 aS am a9=>?_;apply RG;simp only[go_sem,iv,pt,sD,rD,c9];refine bf aS [1,2,0,3] fun aj=>?_;have k810:=abV ac am;obtain⟨ta,tc,rfl⟩:=a0.shape;refine a2 (i+1,.slice na (ri.l++([⟨17,[],x.at',slot,[],x.cond⟩]:List Nd)).length nc,.slice ta (Syn.join ri.f (x.at'+1) x.cond).length tc,dv) _ _ dt gP (by simp only[go_sem,aa6,Jj]) ⟨cn,D3,A10,B13,_,rfl,aj,abV a4 (abV aa k810),ct,b0,by simpa using hE.le (abV aa k810),a9,jy.le a0 k810,a7.join ab b3.ok,by simp only[aa9,aaJ];unfold aN;simpa using ca⟩
  rw[ZV t7]at ba;have q7:(x.text == [114,101,97,100])=false:=dd _ t7;apply RG;simp only[go_sem,iv,pt,sD,rD,q1,q2,q3,q4,q5,q6,q7];refine ax cm (by exact jH) rfl rfl rfl rfl rfl bg fun nb I4 b6 aq fr=>?_;have g1:eR I4 (.slice (some ⟨nb,0,none⟩) 1 1) (bX x):=qJ (az fr (by simp[aD,Value.cells]) (by simp[aD,Value.cells,iv,sD,rD])) (a1.le aq);have fh:=jk b3;have nf:=iy h.ok fh 18 slot;have nl:=lC h.ok fh 18 slot;obtain⟨xs,g,fj⟩:∃yes g,aM ts (named ts (bX x) 18 slot).f (bD eM)=(yes,g):=⟨_,_,rfl⟩;simp only[fj]at ba;obtain⟨c,h7,eg⟩:=bU ba;cases eg
  simp only[aa9]at cc ca;have ga:=fm h.ok nf (is:=bD eM);have hJ:=gE h.ok nf (bD eM);have gr:=dC h.ok nf (bD eM);have dI:(named ts (bX x) 18 slot).l=[]->(aM ts (named ts (bX x) 18 slot).f (bD eM)).1=[]:=fun e=>by
   rw[E8 e];rfl
  rw[fj]at ga hJ gr dI;simp only at ga hJ gr dI;refine dg ?_;refine ad b6 [0,1,2,3] [sg pb _,D3] [A3,B3] rfl qI rfl (qA (kind:=18) (slot:=slot) (f:=bX x) (h3.le aq) g1 fh (hE.le aq) (by simp only[aa9];omega)) fun v I5 qs b1 ac hq=>?_;obtain⟨dv5,D5,rs,rfl,i4,⟨A5,B5,va5,vb5,rfl,rfl,ja,i9⟩,fa,ic⟩:=hq;simp only[Z3]at b1 |-;refine dg ?_;refine bf b1 [3,0,1,2,4,5] fun bd=>?_;refine ae bd fun I6 bd b2 i5=>?_;have i3:eR I6 vb5 (named ts (bX x) 18 slot).f:=i9.sl b2 i5;refine ad bd [0,1,2,3,4] [] [sg pb _,D5,A5,A3,B3] rfl jl rfl (kM (s:=eM)) fun vi I7 qs aS am hq=>?_;obtain⟨rfl,hL⟩:=hq;simp only[Z3]at aS |-;obtain⟨fi,first,cap,rfl,gi,ci⟩:=id hL;refine dg ?_;have hz:=abV aq (abV ac (abV b2 am));refine ad aS [0,1,2,3,4] [sg pb _] [D5,A5,A3,B3] rfl jD rfl (jC (h3.le hz) (i3.le am) nf hL) fun v I8 qs aj ao hq=>?_;obtain⟨A8,B8,va8,vb8,rfl,rfl,fb,g7⟩:=hq;rw[fj]at fb g7;simp only at fb g7;obtain⟨xsa,xsc,rfl⟩:=fb.shape;simp only[Z3]at aj |-;refine dg ?_;refine bf aj [1,0,2,3,4,5,6] fun a3=>?_;refine ae a3 fun I9 a3 ak hj=>?_;have ia:qO I9 (.slice xsa xs.length xsc) xs:=fb.sl ak hj;refine bf a3 [0,2,4,5,3,1] fun an=>?_;have hv:=abV ao ak;have hw:=abV b2 (abV am hv);have cl:=abV hz hv;have h9:=h3.le cl;have i0:xE ts o slot x ⟨c.l,c.f,(named ts (bX x) 18 slot).e++c.e⟩ m1 xs (named ts (bX x) 18 slot).l g (named ts (bX x) 18 slot).e:=⟨c,h7,rfl,rfl,rfl⟩
  refine aA (fun x=>xs.length-x.1) (WU pb slot va vb (.slice (some ⟨b,off,none⟩) cb.length hc) cb.length i [iv x.at',sD xa xk x.cond,rD x.cond,.int .u8 x.kind,.string ⟨⟨x.text⟩⟩] (.slice xsa xs.length xsc) xs.length) (Y8 pb ts lv fv ov o slot m1 A3 B3 x xs ⟨c.l,c.f,(named ts (bX x) 18 slot).e++c.e⟩ (e++ri.e) I9) (0,m1,va5,vb8,dv5) R5 (by simp only[go_sem,aa6,WU,iv,sD,rD]) ?_ ?_
  ·exact⟨I9,D5,A5,B8,_,_,_,rfl,an,abW _,aaL _,ZR _,i0,ja.le hw,by
    by_cases e7:(named ts (bX x) 18 slot).l=[]
    ·exact .inr (dI e7)
    ·exact .inl e7,ic,g7.le ak,gr,i4.le hw⟩
  rintro⟨j,m2,vn,vg,dw⟩ H ⟨kr,D17,N,G,l,gg,ee,rfl,d1,c0,hX,hU,es,gl,hV,kk,hG,e9,g6⟩ dA;simp only at hX hU es gl hG g6;simp only[WU];have fg:=abV cl c0;have jd:=h3.le fg;rcases aaf j xs.length with ef|kl
  ·have hk:decide ((j:Int)<(xs.length:Int))=true:=by simp;omega
   have f1:=wrap64 (n:=j+1) ab;have f1':IntKind.i64.wrap ((j:Int)+1)=((j+1:Nat):Int):=by rw[<-f1];congr 1
   obtain⟨y,e5⟩:∃y,xs[j]?=some y:=⟨_,aak ef⟩;obtain⟨hP,kd⟩:=ga y (aaV e5);obtain⟨bb,off2,cs2,rfl,f3,d3⟩:=(ia.le c0).load l7.len e5;obtain⟨ya,yk,rfl,cr⟩:=f3;have h1:xs.drop j=y::xs.drop (j+1):=by
    rw[aaK ef];rw[aak ef]at e5;rw[aaZ e5]
   rw[h1]at es;obtain⟨m3,aa',rfl,h8,dT,eb⟩:=Fb es;have em:=eb.le;simp only[aa9]at em;apply RG;simp only[go_sem,hk,iv,pt,sD,rD];refine⟨ab,?_⟩;refine XN (l:=[iv y.at',sD ya yk y.cond,rD y.cond,.int .u8 y.kind,.string ⟨⟨y.text⟩⟩]) (v:=.agg #[iv y.at',sD ya yk y.cond,rD y.cond,.int .u8 y.kind,.string ⟨⟨y.text⟩⟩]) rfl (cellsU d1 (.head _) d3) (.inl ⟨gI,rfl⟩) ?_;refine dg ?_;refine ax d1 (by exact jH) rfl rfl rfl rfl rfl bg fun nb2 hu c4 bc fo=>?_;have g2:eR hu (.slice (some ⟨nb2,0,none⟩) 1 1) (bX y):=qJ (az fo (by simp[aD,Value.cells]) (by simp[aD,Value.cells,iv,sD,rD])) (cr.le bc);refine dg ?_;refine ad c4 [0,1,2,3,4,5] [sg pb _,D17] [A3,B3,N,G] rfl Bd rfl (ih m3 ab (.listed false o (bX y)) aa' h8 ho (jd.le bc) g2 (jk hP) (g6.le bc) (by simp only[aa9];omega)) fun v hO qs cj b4 hq=>?_;obtain⟨dv19,D19,rs,rfl,g4,⟨A19,B19,va19,vb19,rfl,rfl,ed,hb⟩,ez,ie⟩:=hq;have ea:=ed.capN bm.len;obtain⟨ka,kc,rfl⟩:=ed.shape;simp only[Z3]at cj |-;refine dg ?_;refine bf cj [2,0,1,3,4,5,6,7] fun c3=>?_;refine ae (c:=.st _) c3 fun j1 c3 cB hh=>?_;have gn:eE j1 (.slice ka aa'.l.length kc) aa'.l:=ed.sl cB hh;refine bf c3 [2,0,1,3,4,5,6] fun c2=>?_;refine ae (c:=.st _) c2 fun hM c2 bx g8=>?_;have gt:eR hM vb19 aa'.f:=hb.sl (abV cB bx) g8;have k1921:=abV cB bx;have k1721:=abV bc (abV b4 k1921);obtain⟨n1,l1,rfl⟩:∃n1 l1,l=n1::l1:=by
    cases l with
    |nil=>exact absurd rfl (hV.resolve_right fun e=>by rw[e]at ef;exact Nat.not_lt_zero _ ef)
    |cons n1 l1=>exact⟨n1,l1,rfl⟩
   rw[zo]at eb;refine bf c2 [4,0,1,2,3,5] fun cf=>?_;obtain⟨g5,cap5,cur,a5,k5,rfl,rfl,ki,d2,ei,fk⟩:=CH (bQ.le gl k1721);refine iZ mixed [0,1,2,3,4,5,6,7,8,9,10,11] [] [] [4] [7] (sg g5 (.cells cur 60 (0,0))) rfl rfl ?_;refine qY ?_;refine⟨ab,?_⟩;refine je (l:=[sD a5 k5 n1.cond,rD n1.cond]) (v:=.agg #[sD a5 k5 n1.cond,rD n1.cond]) rfl (di cf) rfl rfl rfl d2 (.inl ⟨r9,rfl⟩) ?_;refine qY ?_;refine tG cf [0,1,2,3,4,5] rfl rfl rfl rfl rfl oT (by rfl) (ps:=[]) (F:=[sg g5 _,sg pb _,D19,A3,B3,G]) rfl (di cf) (uX (cr.le k1721)) fun v kq qs ep cA hq=>?_;obtain⟨rfl,el⟩:=hq;obtain⟨ra,rk,rfl⟩:=el.shape2;simp only[Z3]at ep |-;refine qY ?_;refine aE ep [0,1,2,3,4,5] [] [sg g5 _,sg pb _,D19,A3,B3,G] rfl kK rfl (oQ (ei.le cA) el) fun v jo qs eo dk hq=>?_;obtain⟨rfl,ek⟩:=hq;obtain⟨ta,tk,rfl⟩:=ek.shape2;simp only[Z3]at eo |-;refine qY ?_;refine⟨ab,?_⟩;refine aQ eo rfl rfl rfl rfl rfl rfl (by exact Ds) (by simp;omega) fun fC=>?_;refine aw ?_;have gf:=fk jo ta tk (n1.cond.and y.cond.not) (abV cA dk) ek;have k2126:=abV cA dk;refine dg ?_;refine ax fC (by exact dQ) rfl rfl rfl rfl rfl bg fun nb3 jg fA dj fl=>?_;have k2128:=abV k2126 dj;have k1728:=abV k1721 k2128;have gb:eE jg (.slice (some ⟨nb3,0,none⟩) 1 1) ([⟨19,x.text,x.at',slot,aa'.l,y.cond⟩]:List Nd):=iJ (az fl (by simp[aD,Value.cells]) (by simp[aD,Value.cells,iv,sD,rD])) (bm.mk (n:=⟨19,x.text,x.at',slot,aa'.l,y.cond⟩) (cr.le k1728) (eE.le gn (abV bx k2128)) ea);refine dg ?_;unfold aN at dT;simp only[aaj]at dT
   refine bl fA (by exact dQ) (bQ.le gf dj) (gb) (fun{I J c a} h k=>bm.le h k) (fun{I} c a h=>bm.len c a h) (fun{I} c a h=>bm.ones h) rfl rfl rfl rfl (by first|omega|(simp only[aaj,aaO];omega)) (by unfold maxLen;first|omega|(simp only[aaj,aaO];omega)) fun wa wc kp N29 fz cy gc=>?_;refine dg ?_;have k2129:=abV k2128 cy;refine ad fz [5,0,1,2,3,4] [G] [N29,sg pb _,D19,A3,B3] rfl eI rfl (cS (N:=ts.length) ab (hG.le (abV k1728 cy)) e9 (gt.le k2129) ez) fun v30 jf qs en cx hq=>?_;obtain⟨G30,rfl,gs⟩:=hq;simp only[Z3]at en |-;apply RG;simp only[go_sem,iv,pt,sD,rD,f1'];refine bf en [2,3,4,5,1,0] fun fs=>?_;refine dA (j+1,m3,.slice wa ((l1++([⟨19,x.text,x.at',slot,aa'.l,y.cond⟩]:List Nd)).length+1) wc,v30,dv19) _ _ dt R5 (by simp only[go_sem,aa6,WU,iv,sD,rD]) ⟨jf,D19,N29,G30,_,_,_,rfl,fs,abV c0 (abV k1728 (abV cy cx)),ef,by simp only;omega,eb,bQ.le gc cx,.inl (List.cons_ne_nil _ _),?_,gs,e9.joinAll ez,by simpa[aaT]using g4.le (abV k1921 (abV k2129 cx))⟩;simp only[aaj,aa9,aaO]at dT |-;unfold aN;omega
  ·have hW:j=xs.length:=by omega
   subst hW;have hk:=Z6 xs.length;rw[abH]at es;obtain⟨rfl,rfl,rfl⟩:=IW es;apply RG;simp only[go_sem,hk,iv,pt,sD,rD];refine bf d1 [4,0,1,2,3,5] fun c4=>?_;refine ae c4 fun hu c4 bc gk=>?_;have go:eE hu vn c.l:=bQ.sl gl bc gk;refine bf c4 [4,0,1,2,3] fun cj=>?_;refine ae cj fun hO cj b4 g0=>?_;have ey:eR hO vg c.f:=jy.sl hG (abV bc b4) g0;have k1719:=abV bc b4;have k319:=abV fg k1719;refine bf cj [2,0,1,3] fun c3=>?_;refine bl c3 (by exact dQ) (bQ.le hA k319) (eE.le go b4) (fun{I J c a} h k=>bm.le h k) (fun{I} c a h=>bm.len c a h) (fun{I} c a h=>bm.ones h) rfl rfl rfl rfl (by first|omega|(simp only[aaj,aaO];omega)) (by unfold maxLen;first|omega|(simp only[aaj,aaO];omega)) fun na nc hM A21 c2 bx hg=>?_;refine dg ?_;refine ad c2 [3,0,1,2] [B3] [A21,sg pb _,D17] rfl eI rfl (cS (N:=ts.length) ab (jy.le hB (abV k319 bx)) a7 (ey.le bx) e9) fun v22 j0 qs cf ds hq=>?_;obtain⟨B22,rfl,e0⟩:=hq;obtain⟨ta,tc,rfl⟩:=e0.shape;simp only[Z3]at cf |-;apply RG;simp only[go_sem,iv,pt,sD,rD,c9];refine bf cf [2,3,1,0] fun f0=>?_;have k1722:=abV k1719 (abV bx ds);refine a2 (i+1,.slice na (ri.l++c.l).length nc,.slice ta (Syn.joinAll ri.f c.f).length tc,dw) _ _ dt gP (by simp only[go_sem,aa6,Jj]) ⟨j0,D17,A21,B22,_,rfl,f0,abV a4 (abV fg k1722),ct,b0,by simpa[aaT]using g6.le k1722,bQ.le hg ds,e0,a7.joinAll e9,by simp only[aa9];unfold aN;exact ca⟩
 ·have hY:i=cb.length:=by omega
  subst hY;have hn:=Z6 cb.length;rw[abH]at e6;cases e6
  apply RG;simp only[go_sem,hn,iv,pt];exact af rfl cm (r:=[va,vb]) rfl (abV d0 a4) ⟨_,D3,[A3,B3],rfl,hE,⟨A3,B3,va,vb,rfl,rfl,hA,hB⟩,a7,e8⟩
end
open Go Go.Sx Dg Syn
section
variable {pb:Nat} {ts:List Tok} {lv fv ov:Value}
def zI:∀n,kP pb ts lv fv ov n
 |0=>fun m hm=>absurd hm (Nat.not_lt_zero _)
 |n+1=>fun m hm x r hr=>by
  have ih:=zI n;rcases aaf m n with aa|ac
  ·exact ih m aa x r hr
  have:m=n:=by omega
  subst this;cases x with
  |line=>exact SC ih hr
  |unary=>exact OW ih hr
  |inside=>exact J6 ih hr
  |listed=>exact JR ih hr
  |behind=>exact LA ih hr
  |vrb=>exact Fc ih hr
  |function=>exact Fa ih hr
  |block=>exact Qh ih hr
  |stmt=>exact Tm ih hr
  |branch=>exact LC ih hr
  |_=>trivial
def Dp{o:Nat}(ho:o<=64){d:T}{r:Syn.bW}{n:Nat}(hr:Syn.run ts n (.seqL true o [(0,d)] [] [])=some r){I D:PH}{dv:Value}{da:Option Addr}{dk:Nat}{e:List cO}(h:zr I ts lv fv)(ac:cX I (.agg #[sD da dk d,rD d]) d)(aa:d≠ff)(he:eF I D dv e)(hm:e.length+r.e.length<=ux):
  aK Tryz.prog 77 #[pt pb,.agg #[sD da dk d,rD d]] I [sg pb (cg lv fv ov dv o),D] (PP pb lv fv ov o (e++r.e) (Uq ts r)):=
 Il (zI n) ho hr h ac aa he hm
end
open Go Go.Sx Dg Syn
def Av:aO Tryz.prog 161:=⟨_,Tryz.func161,rfl,rfl⟩
def Sg:aO Tryz.prog 162:=⟨_,Tryz.func162,rfl,rfl⟩
def OX:aO Tryz.prog 226:=⟨_,Tryz.func226,rfl,rfl⟩
def QU:aO Tryz.prog 227:=⟨_,Tryz.func227,rfl,rfl⟩
def Hz:aO Tryz.prog 232:=⟨_,Tryz.func232,rfl,rfl⟩
def KO:aO Tryz.prog 233:=⟨_,Tryz.func233,rfl,rfl⟩
def GT:aO Tryz.prog 281:=⟨_,Tryz.func281,rfl,rfl⟩
def Gb:aO Tryz.prog 282:=⟨_,Tryz.func282,rfl,rfl⟩
def Hp:aO Tryz.prog 160:=⟨_,Tryz.func160,rfl,rfl⟩
def AR:aO Tryz.prog 145:=⟨_,Tryz.func145,rfl,rfl⟩
def OB:aO Tryz.prog 149:=⟨_,Tryz.func149,rfl,rfl⟩
def Pb:aO Tryz.prog 148:=⟨_,Tryz.func148,rfl,rfl⟩
def Od:aO Tryz.prog 93:=⟨_,Tryz.func93,rfl,rfl⟩
def bO.keep{P:Program}{f:FuncId}{args:Array Value}{I:PH}{w:Value}(h:bO P f args I fun v H2=>v=w/\H2=I):aK P f args I [] fun v I2 qs=>qs=[]/\v=w:=
 bO.toI (h.mono fun v H2 ⟨e1,e2⟩=>⟨by rw[e2];exact abW _,e1⟩)
def kL(a b:Int):Int:=if a<b then -1 else if b<a then 1 else 0
def Es(a b:bq):Int:=if zp a b=true then -1 else if zp b a=true then 1 else 0
def oH:∀(a b:bq),Op.bytesLess a b=zp a b
 |_,[]=>by simp[Op.bytesLess,zp]
 | [],_::_=>rfl
 |x::a,y::b=>by
  have ih:=oH a b;simp only[Op.bytesLess,zp,ih];by_cases h1:x.toNat<y.toNat
  ·have:x<y:=h1;simp[h1,this]
  ·have n1:¬x<y:=h1;by_cases h2:y.toNat<x.toNat
   ·have:(x == y)=false:=by
     rw[abS];intro e;rw[e]at h2;exact Nat.lt_irrefl _ h2
    simp[h1,h2,n1,this]
   ·have e:x=y:=UInt8.toNat_inj.1 ab;subst e;simp[h1]
def C4(a:Int)(H:PH):bO Tryz.prog 232 #[.int .i64 a] H fun v H2=>v=.bool false/\H2=H:=by
 refine cC Tryz.func232 rfl (by simp[Tryz.ntmps232]) fun w0=>?_;simp only[Tryz.ntmps232];apply RG;simp only[go_sem,bne_self_eq_false];exact aJ (r:=[_]) rfl ⟨rfl,rfl⟩
def AC(a:Int)(H:PH):bO Tryz.prog 233 #[.int .u8 a] H fun v H2=>v=.bool false/\H2=H:=by
 refine cC Tryz.func233 rfl (by simp[Tryz.ntmps233]) fun w0=>?_;simp only[Tryz.ntmps233];apply RG;simp only[go_sem,bne_self_eq_false];exact aJ (r:=[_]) rfl ⟨rfl,rfl⟩
def GD(a:Int)(H:PH):bO Tryz.prog 281 #[.int .u8 a] H fun v H2=>v=.bool false/\H2=H:=by
 refine cC Tryz.func281 rfl (by simp[Tryz.ntmps281]) fun w0=>?_;simp only[Tryz.ntmps281];apply RG;simp only[go_sem,bne_self_eq_false];exact aJ (r:=[_]) rfl ⟨rfl,rfl⟩
def DK(a:bq)(H:PH):bO Tryz.prog 282 #[.string ⟨⟨a⟩⟩] H fun v H2=>v=.bool false/\H2=H:=by
 refine cC Tryz.func282 rfl (by simp[Tryz.ntmps282]) fun w0=>?_;simp only[Tryz.ntmps282];apply RG;simp only[go_sem,bne_self_eq_false];exact aJ (r:=[_]) rfl ⟨rfl,rfl⟩
def yt(a b:Int)(H:PH):bO Tryz.prog 161 #[.int .i64 a,.int .i64 b] H fun v H2=>v=.int .i64 (kL a b)/\H2=H:=by
 refine ah 20 Tryz.func161 fun w0=>?_;refine aT ?_;refine WZ rfl Hz (C4 a H) fun v H2 hv=>?_;obtain⟨rfl,rfl⟩:=hv;refine aT ?_;refine WZ rfl Hz (C4 b H2) fun v H3 hv=>?_;obtain⟨rfl,rfl⟩:=hv;by_cases h1:a<b
 ·have q1:decide (a<b)=true:=abU h1;apply RG;simp only[go_sem,q1];exact aJ (r:=[_]) rfl ⟨by simp[kL,h1,gv],rfl⟩
 ·have q1:decide (a<b)=false:=abT h1;by_cases h2:b<a
  ·have q2:decide (a>b)=true:=abU h2;apply RG;simp only[go_sem,q1,q2,abw,abK];exact aJ (r:=[_]) rfl ⟨by simp[kL,h1,h2,gv],rfl⟩
  ·have q2:decide (a>b)=false:=abT h2;apply RG;simp only[go_sem,q1,q2,abw,abQ];exact aJ (r:=[_]) rfl ⟨by simp[kL,h1,h2,gv],rfl⟩
def MO(a b:Int)(H:PH):bO Tryz.prog 162 #[.int .u8 a,.int .u8 b] H fun v H2=>v=.int .i64 (kL a b)/\H2=H:=by
 refine ah 20 Tryz.func162 fun w0=>?_;refine aT ?_;refine WZ rfl KO (AC a H) fun v H2 hv=>?_;obtain⟨rfl,rfl⟩:=hv;refine aT ?_;refine WZ rfl KO (AC b H2) fun v H3 hv=>?_;obtain⟨rfl,rfl⟩:=hv;by_cases h1:a<b
 ·have q1:decide (a<b)=true:=abU h1;apply RG;simp only[go_sem,q1];exact aJ (r:=[_]) rfl ⟨by simp[kL,h1,gv],rfl⟩
 ·have q1:decide (a<b)=false:=abT h1;by_cases h2:b<a
  ·have q2:decide (a>b)=true:=abU h2;apply RG;simp only[go_sem,q1,q2,abw,abK];exact aJ (r:=[_]) rfl ⟨by simp[kL,h1,h2,gv],rfl⟩
  ·have q2:decide (a>b)=false:=abT h2;apply RG;simp only[go_sem,q1,q2,abw,abQ];exact aJ (r:=[_]) rfl ⟨by simp[kL,h1,h2,gv],rfl⟩
def QJ(a b:Int)(H:PH):bO Tryz.prog 226 #[.int .u8 a,.int .u8 b] H fun v H2=>v=.int .i64 (kL a b)/\H2=H:=by
 refine ah 20 Tryz.func226 fun w0=>?_;refine aT ?_;refine WZ rfl GT (GD a H) fun v H2 hv=>?_;obtain⟨rfl,rfl⟩:=hv;refine aT ?_;refine WZ rfl GT (GD b H2) fun v H3 hv=>?_;obtain⟨rfl,rfl⟩:=hv;by_cases h1:a<b
 ·have q1:decide (a<b)=true:=abU h1;apply RG;simp only[go_sem,q1];exact aJ (r:=[_]) rfl ⟨by simp[kL,h1,gv],rfl⟩
 ·have q1:decide (a<b)=false:=abT h1;by_cases h2:b<a
  ·have q2:decide (a>b)=true:=abU h2;apply RG;simp only[go_sem,q1,q2,abw,abK];exact aJ (r:=[_]) rfl ⟨by simp[kL,h1,h2,gv],rfl⟩
  ·have q2:decide (a>b)=false:=abT h2;apply RG;simp only[go_sem,q1,q2,abw,abQ];exact aJ (r:=[_]) rfl ⟨by simp[kL,h1,h2,gv],rfl⟩
def MX(a b:bq)(H:PH):bO Tryz.prog 227 #[.string ⟨⟨a⟩⟩,.string ⟨⟨b⟩⟩] H fun v H2=>v=.int .i64 (Es a b)/\H2=H:=by
 refine ah 20 Tryz.func227 fun w0=>?_;refine aT ?_;refine WZ rfl Gb (DK a H) fun v H2 hv=>?_;obtain⟨rfl,rfl⟩:=hv;refine aT ?_;refine WZ rfl Gb (DK b H2) fun v H3 hv=>?_;obtain⟨rfl,rfl⟩:=hv;by_cases h1:zp a b=true
 ·have q1:Op.bytesLess a b=true:=by rw[oH];exact h1
  apply RG;simp only[go_sem,q1];exact aJ (r:=[_]) rfl ⟨by simp[Es,h1,gv],rfl⟩
 ·have q1:Op.bytesLess a b=false:=by rw[oH];simpa using h1
  by_cases h2:zp b a=true
  ·have q2:(a == b)=false:=by rw[abS];intro e;rw[e,yw.irr]at h2;cases h2
   apply RG;simp only[go_sem,q1,q2,abw,abK];exact aJ (r:=[_]) rfl ⟨by simp[Es,h1,h2,gv],rfl⟩
  ·have q2:(a == b)=true:=by rw[beq_iff_eq];exact yw.tri a b (by simpa using h1) (by simpa using h2)
   apply RG;simp only[go_sem,q1,q2,abw,abQ];exact aJ (r:=[_]) rfl ⟨by simp[Es,h1,h2,gv],rfl⟩
def BB:List Int->Int
 | []=>0
 |a::l=>if a=0 then BB l else a
def Qx(sv:Value)(n:Nat)(i:Nat):St:=⟨dn 18 [(3,.v (.int .i64 0)),(6,.v sv),(7,.v (iv n)),(8,.v (iv i))],[]⟩
def UD{H:PH}{b c:Nat}{zs:List Int}(h:aP H b 0 (zs.map fun z=>.int .i64 z))(hl:zs.length<=100):bO Tryz.prog 160 #[.slice (some ⟨b,0,none⟩) zs.length c] H fun v H2=>v=.int .i64 (BB zs)/\H2=H:=by
 refine ah 18 Tryz.func160 fun w0=>?_;refine aT ?_;refine aA (fun x=>zs.length-x) (Qx (.slice (some ⟨b,0,none⟩) zs.length c) zs.length) (fun i H2=>H2=H/\i<=zs.length/\BB (zs.drop i)=BB zs) 0 bM (by simp only[go_sem,aa6,Qx]) ⟨rfl,aaL _,rfl⟩ ?_;rintro i H2 ⟨rfl,hi,hz⟩ ac;simp only[Qx];rcases aaf i zs.length with aj|an
 ·have h9:decide ((i:Int)<(zs.length:Int))=true:=by simp;omega
  have e1:=wrap64 (n:=i+1) ab;have am:IntKind.i64.wrap ((i:Int)+1)=((i+1:Nat):Int):=by rw[<-e1];congr 1
  obtain⟨z,hg⟩:∃z,zs[i]?=some z:=⟨_,aak aj⟩;have hd:zs.drop i=z::zs.drop (i+1):=by
   rw[aaK aj];rw[aak aj]at hg;rw[aaZ hg]
  have aa:=h.sub i 1 (by simp;omega);have hm:((zs.map fun z=>Value.int .i64 z).drop i).take 1=[.int .i64 z]:=by
   rw[<-List.map_drop,hd];rfl
  rw[hm,ZZ]at aa;rw[hd]at hz;apply RG;simp only[go_sem,h9,iv];refine⟨ab,?_⟩;refine XN (l:=[.int .i64 z]) rfl (by simpa using aa) (.inr ⟨jq,rfl⟩) ?_;by_cases h0:z=0
  ·have q:(z != 0)=false:=by simp[h0]
   apply RG;simp only[go_sem,iv,q,am];exact ac (i+1) _ _ ab bM (by simp only[go_sem,aa6,Qx]) ⟨rfl,aj,by rw[<-hz];simp[BB,h0]⟩
  ·have q:(z != 0)=true:=by simp[h0]
   apply RG;simp only[go_sem,iv,q];exact aJ (r:=[_]) rfl ⟨by rw[<-hz];simp[BB,h0,gv],rfl⟩
 ·have ak:i=zs.length:=by omega
  subst ak;have h9:=Z6 zs.length;rw[abH]at hz;apply RG;simp only[go_sem,h9,iv];exact aJ (r:=[_]) rfl ⟨by rw[<-hz];rfl,rfl⟩
def MF(k t o g:Int)(x:bq)(ea fa:Option Addr)(en ec fn fc:Nat)(H:PH):bO Tryz.prog 145 #[.agg #[.int .u8 k,.string ⟨⟨x⟩⟩,.int .i64 t,.int .i64 o,.slice ea en ec,.slice fa fn fc,.int .i64 g]] H fun v H2=>v=.agg #[.int .i64 o,.int .i64 t,.int .u8 k,.string ⟨⟨x⟩⟩]/\H2=H:=by
 refine ah 12 Tryz.func145 fun w0=>?_;refine aT ?_;exact aJ (r:=[.agg #[.int .i64 o,.int .i64 t,.int .u8 k,.string ⟨⟨x⟩⟩]]) (by simp only[Tryz.results145,go_sem]) ⟨rfl,rfl⟩
def Se(x y:qT):Int:=BB [kL x.slot y.slot,kL x.tok y.tok,kL x.kind y.kind,Es x.text y.text]
def rK(k:qT):Value:=.agg #[.int .i64 k.slot,.int .i64 k.tok,.int .u8 k.kind,.string ⟨⟨k.text⟩⟩]
def OK(x y:qT):decide (Se x y<0)=CW x y:=by
 unfold Se CW kL Es BB BB BB BB BB;by_cases a1:x.slot<y.slot
 ·simp[a1]
 ·by_cases a2:y.slot<x.slot
  ·simp[a1,a2]
  ·by_cases b1:x.tok<y.tok
   ·simp[a1,a2,b1]
   ·by_cases b2:y.tok<x.tok
    ·simp[a1,a2,b1,b2]
    ·by_cases c1:x.kind<y.kind
     ·simp[a1,a2,b1,b2,c1]
     ·by_cases c2:y.kind<x.kind
      ·simp[a1,a2,b1,b2,c1,c2]
      ·cases d1:zp x.text y.text<;>cases d2:zp y.text x.text<;>simp[a1,a2,b1,b2,c1,c2]
def HY(x y:qT)(I:PH):aK Tryz.prog 149 #[rK x,rK y] I [] fun v I2 qs=>qs=[]/\v=.int .i64 (Se x y):=by
 intro hd;refine ah 27 Tryz.func149 fun w0=>?_
 try simp only[rK]
 refine aT ?_;refine eP [0,1,2,3,5,6,7,8,10,11,12,13,15,16,17,18,4,9,14,19,20,21,22] [] [] ?_;refine gw ?_;refine cv hd rfl Av (bO.keep (yt x.slot y.slot I)) fun v I2 qs a3 an hq=>?_;obtain⟨rfl,rfl⟩:=hq;refine gw ?_;refine cv a3 rfl Av (bO.keep (yt x.tok y.tok I2)) fun v I3 qs a2 am hq=>?_;obtain⟨rfl,rfl⟩:=hq;refine gw ?_;refine cv a2 rfl OX (bO.keep (QJ x.kind y.kind I3)) fun v I4 qs a1 ak hq=>?_;obtain⟨rfl,rfl⟩:=hq;refine gw ?_;refine cv a1 rfl QU (bO.keep (MX x.text y.text I4)) fun v I5 qs a0 aj hq=>?_;obtain⟨rfl,rfl⟩:=hq;refine gw ?_;refine bj a0 (by exact tz) rfl rfl rfl rfl rfl bg fun nb I6 aS ac ao=>?_;refine gw ?_;refine cv aS rfl Hp (bO.keep (UD (zs:=[kL x.slot y.slot,kL x.tok y.tok,kL x.kind y.kind,Es x.text y.text]) (az ao (by simp[aD,Value.cells]) (by simp[aD,Value.cells])) (by simp))) fun v I7 qs aq aa hq=>?_;obtain⟨rfl,rfl⟩:=hq;refine gw ?_;refine aw ?_;refine aT ?_;exact af rfl aq (r:=[_]) rfl (abV an (abV am (abV ak (abV aj (abV ac aa))))) ⟨rfl,rfl⟩
def mC{α:Type}(R:PH->List Value->α->Prop)(lt:α->α->Bool)(vc:Value):Prop:=
 ∃f first cap,vc=.func (.func f) first cap/\aO Tryz.prog f/\∀(J:PH) (x y:α) (cx cy:List Value),R J cx x->R J cy y->
  aK Tryz.prog f (first++[Value.agg cx.toArray,Value.agg cy.toArray].toArray++cap) J [] fun v I2 qs=>qs=[]/\∃z:Int,v=.int .i64 z/\decide (z<0)=lt x y
def dp(x y:Nd):Bool:=CW x.key y.key
def HS{J:PH}{x y:Nd}{cx cy:List Value}(hx:bm J cx x)(hy:bm J cy y):aK Tryz.prog 148 #[.agg cx.toArray,.agg cy.toArray] J [] fun v I2 qs=>qs=[]/\∃z:Int,v=.int .i64 z/\decide (z<0)=dp x y:=by
 intro hd;obtain⟨kv,na,nk,rfl,aq,ac,a2⟩:=hx.shape;obtain⟨kv2,na2,nk2,rfl,an,aa,ao⟩:=hy.shape;obtain⟨ka,kc,rfl,_⟩:=ac;obtain⟨ka2,kc2,rfl,_⟩:=aa;refine ah 10 Tryz.func148 fun w0=>?_
 try simp only[sD,rD,iv]
 refine aT ?_;refine eP [0,2,1,3,4,5] [] [] ?_;refine gw ?_;refine cv hd rfl AR (bO.keep (MF _ _ _ _ _ _ _ _ _ _ _ J)) fun v I2 qs a1 am hq=>?_;obtain⟨rfl,rfl⟩:=hq;refine gw ?_;refine cv a1 rfl AR (bO.keep (MF _ _ _ _ _ _ _ _ _ _ _ I2)) fun v I3 qs a0 ak hq=>?_;obtain⟨rfl,rfl⟩:=hq;refine gw ?_;refine cv a0 rfl OB (HY x.key y.key I3) fun v I4 qs aS aj hq=>?_;obtain⟨rfl,rfl⟩:=hq;refine gw ?_;refine aw ?_;refine aT ?_;exact af rfl aS (r:=[_]) rfl (abV am (abV ak aj)) ⟨rfl,_,rfl,OK _ _⟩
def VO:mC bm dp (.func (.func 148) #[] #[]):=⟨148,#[],#[],rfl,Pb,fun J x y cx cy hx hy=>HS hx hy⟩
def GL(x y:cO):Int:=BB [kL x.tok y.tok,kL x.code y.code]
def bF(x y:cO):Bool:=x5 x.key y.key
def Ob(x y:cO):decide (GL x y<0)=bF x y:=by
 unfold GL bF x5 kL BB BB BB cO.key;by_cases a1:x.tok<y.tok
 ·simp[a1]
 ·by_cases a2:y.tok<x.tok
  ·simp[a1,a2]
  ·by_cases b1:x.code<y.code
   ·simp[a1,a2,b1]
   ·by_cases b2:y.code<x.code<;>simp[a1,a2,b1,b2]
def OI(x y:cO):(GL x y == 0)=decide (x.key=y.key):=by
 unfold GL kL BB BB BB cO.key;by_cases a1:x.tok<y.tok
 ·have:x.tok≠y.tok:=by omega
  simp[a1,this]
 ·by_cases a2:y.tok<x.tok
  ·have:x.tok≠y.tok:=by omega
   simp[a1,a2,this]
  ·have e:x.tok=y.tok:=by omega
   by_cases b1:x.code<y.code
   ·have:x.code≠y.code:=by omega
    simp[b1,this,e]
   ·by_cases b2:y.code<x.code
    ·have:x.code≠y.code:=by omega
     simp[b1,b2,this,e]
    ·have e2:x.code=y.code:=by omega
     simp[e,e2]
def Lx{I:PH}{x y:cO}{cx cy:List Value}(hx:eG I cx x)(hy:eG I cy y):aK Tryz.prog 93 #[.agg cx.toArray,.agg cy.toArray] I [] fun v I2 qs=>qs=[]/\v=.int .i64 (GL x y):=by
 intro hd;obtain⟨a1,k1,rfl,h1⟩:=hx;obtain⟨a2,k2,rfl,h2⟩:=hy;refine ah 17 Tryz.func93 fun w0=>?_
 try simp only[sD,rD,iv]
 refine aT ?_;refine eP [0,1,2,3,5,6,7,8,4,9,10,11,12] [] [] ?_;refine gw ?_;refine cv hd rfl Av (bO.keep (yt x.tok y.tok I)) fun v I2 qs aS ak hq=>?_;obtain⟨rfl,rfl⟩:=hq;refine gw ?_;refine cv aS rfl Sg (bO.keep (MO x.code y.code I2)) fun v I3 qs aq aj hq=>?_;obtain⟨rfl,rfl⟩:=hq;refine gw ?_;refine bj aq (by exact tz) rfl rfl rfl rfl rfl bg fun nb I6 ao ac am=>?_;refine gw ?_;refine cv ao rfl Hp (bO.keep (UD (zs:=[kL x.tok y.tok,kL x.code y.code]) (az am (by simp[aD,Value.cells]) (by simp[aD,Value.cells])) (by simp))) fun v I7 qs an aa hq=>?_;obtain⟨rfl,rfl⟩:=hq;refine gw ?_;refine aw ?_;refine aT ?_;exact af rfl an (r:=[_]) rfl (abV ak (abV aj (abV ac aa))) ⟨rfl,rfl⟩
def acv:mC eG bF (.func (.func 93) #[] #[]):=⟨93,#[],#[],rfl,Od,fun J x y cx cy hx hy=>(Lx hx hy).mono fun v I2 qs _ ⟨e1,e2⟩=>⟨e1,_,e2,Ob x y⟩⟩
def K8:aO Tryz.prog 79:=⟨_,Tryz.func79,rfl,rfl⟩
def Pm{n:Nat}(h:n<=maxLen):IntKind.i64.wrap (n:Int)=(n:Int):=by
 unfold maxLen at h;simp only[IntKind.wrap,show IntKind.bits .i64=64 from rfl,show IntKind.signed .i64=true from rfl];simp;omega
def we{i n c:Nat}{a:Option Addr}(hC:sB (.slice a n c))(hi:i<n):IntKind.i64.wrap ((i:Int)+1)=((i+1:Nat):Int):=by
 have h:n<=c/\(0<n->c<=maxLen):=hC;have h2:=h.2 ab;have:=Pm (n:=i+1) ab;rw[<-this];congr 1
def sZ(w:T):∀a b:List Nd,nX w (a++b)=nX w a++nX w b
 | [],b=>rfl
 |n::a,b=>by
  rw[aaz,qe,qe,sZ w a b];split<;>rfl
def Bz(w:T)(n:Nd):nX w [n]=if n.cond.and w=ff then []else [{ n with kids:=nX (n.cond.and w) n.kids,cond:=n.cond.and w }]:=by
 rw[qe];rfl
def db{α:Type}{l:List α}{i:Nat}{n:α}(h:l[i]?=some n):l.take (i+1)=l.take i++[n]:=by
 rw[List.take_add_one,h];rfl
def CM(w:T)(i:Nat)(l:List Nd):du (nX w (l.take i))<=du (nX w l):=by
 conv=>rhs;rw[<-abq i l]
 rw[sZ,io];omega
def Ve(vl:Value)(n:Nat)(wa:Option Addr)(wk:Nat)(w:T)(x:Nat×Value):St:=⟨dn 35 [(3,.p 3 0),(5,.v x.2),(8,.v vl),(9,.v (iv n)),(10,.v (iv x.1))],[⟨3,50,[sD wa wk w,rD w]⟩]⟩
def Zk(l:List Nd)(w:T)(I0:PH)(x:Nat×Value)(H:PH):Prop:=∃I A,H=U [I,A]/\Dj [I,A]/\I0.le I/\x.1<=l.length/\bQ I A x.2 (nX w (l.take x.1))
theorem Jb:∀(m:Nat) {I:PH} {v vw:Value} {l:List Nd} {w:T},du l<m->eE I v l->sB v->cX I vw w->du (nX w l)<=aN->
  aK Tryz.prog 79 #[v,vw] I [] fun r I2 qs=>∃A,qs=[A]/\bQ I2 A r (nX w l):=by
 intro m
 induction m with
 |zero=>intro I v vw l w hm;omega
 |succ m ih=>
 intro I v vw l w hm hS hC hW hz hd;obtain⟨va,vc,rfl,_⟩:=id hS;obtain⟨wa,wk,rfl⟩:=hW.shape2;unfold aN at hz;refine ah 35 Tryz.func79 fun w0=>?_
 try simp only[iv,sD,rD]
 refine aT ?_;refine aR hd fun b4=>?_;refine aA (fun x=>l.length-x.1) (Ve (.slice va l.length vc) l.length wa wk w) (Zk l w I) (0,.slice none 0 0) Tp (by simp only[go_sem,aa6,Ve,iv,sD,rD]) ?_ ?_
 ·exact⟨I,PH.no,rfl,b4,abW _,aaL _,Ow.nil _ _ _ _⟩
 rintro⟨i,vo⟩ H ⟨I1,A1,rfl,a9,ac,hi,hA⟩ aj;simp only at hi hA;simp only[Ve];obtain⟨oa,oc,rfl⟩:=hA.shape;rcases aaf i l.length with aS|cl
 ·have bb:decide ((i:Int)<(l.length:Int))=true:=by simp;omega
  have bs:=we hC aS;obtain⟨n,hn⟩:∃n,l[i]?=some n:=⟨_,aak aS⟩;obtain⟨b,off,cs,rfl,b5,ao⟩:=Sl.load bm.len (eE.le hS ac) hn;obtain⟨vk,na,nk,rfl,a3,ak,ba⟩:=b5.shape;obtain⟨ka,kc,rfl,_⟩:=id ak;have ci:=oG (aaV hn);have a2:=CM w (i+1) l;rw[db hn,sZ,io]at a2;have cj:=iI (nX w (l.take i));apply RG;simp only[go_sem,bb,iv,sD,rD];refine⟨ab,?_⟩;refine XN (l:=[.int .u8 n.kind,.string ⟨⟨n.text⟩⟩,.int .i64 n.tok,.int .i64 n.slot,.slice ka n.kids.length kc,sD na nk n.cond,rD n.cond]) (v:=.agg #[.int .u8 n.kind,.string ⟨⟨n.text⟩⟩,.int .i64 n.tok,.int .i64 n.slot,.slice ka n.kids.length kc,sD na nk n.cond,rD n.cond]) rfl (cellsU a9 (.head _) ao) (.inl ⟨cL,rfl⟩) ?_;refine lY ?_;refine ad a9 [0] [] [A1] rfl kK rfl (oQ a3 (hW.le ac)) fun v I3 qs a7 aa hq=>?_;obtain⟨rfl,aq⟩:=hq;obtain⟨za,zk,rfl⟩:=aq.shape2;simp only[Z3]at a7 |-;refine lY ?_;refine WZ rfl jt (gO aq) fun v H2 hv=>?_;obtain⟨rfl,rfl⟩:=hv;cases a0:decide (n.cond.and w=.lf false)
  ·have bc:n.cond.and w≠ff:=by simpa using a0
   rw[Bz,ZV bc,bp,dJ]at a2;simp only at a2;apply RG;simp only[go_sem,iv,sD,rD,a0,abK];refine ad a7 [0] [] [A1] rfl K8 rfl (ih (w:=n.cond.and w) ab (eE.le ak aa) ba aq (by unfold aN;omega)) fun v I4 qs bd a5 hq=>?_;obtain⟨K,rfl,hK⟩:=hq;simp only[Z3]at bd |-;obtain⟨qa,qc,rfl⟩:=hK.shape;have cb:=hK.capN bm.len;refine bf bd [0,1] fun a6=>?_;refine ae a6 fun I5 a6 an cc=>?_;have ca:eE I5 (.slice qa (nX (n.cond.and w) n.kids).length qc) (nX (n.cond.and w) n.kids):=bQ.sl hK an cc;refine lY ?_;refine ax a6 (by exact dQ) rfl rfl rfl rfl rfl bg fun nb I6 b3 am b0=>?_;have a1:=abV a5 (abV an am);have b6:eE I6 (.slice (some ⟨nb,0,none⟩) 1 1) [{ n with kids:=nX (n.cond.and w) n.kids,cond:=n.cond.and w }]:=iJ (az b0 (by simp[aD,Value.cells]) (by simp[aD,Value.cells,iv,sD,rD])) (bm.mk (n:={ n with kids:=nX (n.cond.and w) n.kids,cond:=n.cond.and w }) (aq.le a1) (eE.le ca am) cb);refine lY ?_;refine bl b3 (by exact dQ) (bQ.le hA (abV aa a1)) (b6) (fun{I J c a} h k=>bm.le h k) (fun{I} c a h=>bm.len c a h) (fun{I} c a h=>bm.ones h) rfl rfl rfl rfl (by first|omega|(simp only[aaj,aaO];omega)) (by unfold maxLen;first|omega|(simp only[aaj,aaO];omega)) fun ua uc I7 A7 b2 a4 cf=>?_;apply RG;simp only[go_sem,iv,sD,rD,bs];have bx:=abV ac (abV aa (abV a1 a4));exact aj (i+1,.slice ua (nX w (l.take i)++[{ n with kids:=nX (n.cond.and w) n.kids,cond:=n.cond.and w }]).length uc) _ _ dt Tp (by simp only[go_sem,aa6,Ve,iv,sD,rD]) ⟨I7,A7,rfl,b2,bx,aS,by simp only;rw[db hn,sZ,Bz,ZV bc];exact cf⟩
  ·have b1:n.cond.and w=ff:=by simpa using a0
   apply RG;simp only[go_sem,iv,sD,rD,a0,abQ,bs];exact aj (i+1,.slice oa (nX w (l.take i)).length oc) _ _ dt Tp (by simp only[go_sem,aa6,Ve,iv,sD,rD]) ⟨I3,A1,rfl,a7,abV ac aa,aS,by simp only;rw[db hn,sZ,Bz,aaq b1,aa6];exact bQ.le hA aa⟩
 ·have:i=l.length:=by omega
  subst this;have bb:=Z6 l.length;apply RG;simp only[go_sem,bb,iv,sD,rD];exact af rfl a9 (r:=[_]) rfl ac ⟨A1,rfl,by rw[aaS]at hA |-;exact hA⟩
end Go.Proofs.YtfaclfkpnmcmlaaGreatDoor
