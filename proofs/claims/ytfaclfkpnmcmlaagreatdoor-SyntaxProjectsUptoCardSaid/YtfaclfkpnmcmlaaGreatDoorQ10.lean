import Derived.Test.YtfaclfkpnmcmlaaGreatDoorQ09
import Derived.Sort.AssemblyPlain
set_option maxHeartbeats 8000000
set_option linter.all false
namespace Go.Proofs.YtfaclfkpnmcmlaaGreatDoor
open Go Go.Sx Dg Syn
theorem Ar{ts:List Tok}{f:ah}{kind slot:Nat}(h:(named ts f kind slot).l=[]):(named ts f kind slot).f=[]:=by
 have key:∀(hs:List ay) (z:Syn.bE),(z.l=[]->z.f=[])->((hs.foldl (bN kind slot) z).l=[]->(hs.foldl (bN kind slot) z).f=[]):=by
  intro hs
  induction hs with
  |nil=>intro z hz;exact hz
  |cons x hs ih=>
   intro z hz;refine ih _ ?_;unfold bN;split
   ·exact hz
   ·intro h;simp at h
 rw[jn]at h |-;exact key _ _ (fun _=>rfl) h
section
variable {pb:Nat} {ts:List Tok} {lv fv ov:Value}
def tC(ts:List Tok)(o slot:Nat)(h:ay)(r:Syn.bE)(m:Nat)(xs:List ay)(l:List Nd)(g:ah)(ee:List bX):Prop:=
 ∃b,Syn.run ts m (.calls o h slot xs l g)=some b/\b.l=r.l/\b.f=r.f/\ee++b.e=r.e
theorem Df{o slot m:Nat}{h:ay}{r:Syn.bE}{l:List Nd}{g:ah}{ee:List bX}(k:tC ts o slot h r m [] l g ee):l=r.l/\g=r.f/\ee=r.e:=by
 obtain⟨b,hb,h1,h2,h3⟩:=k;obtain⟨m',rfl,ac⟩:=bt hb;have aa:Syn.calls (Syn.run ts m') o h slot [] l g=some b:=ac;unfold Syn.calls at aa;simp only at aa;cases aa
 exact⟨h1,h2,by simpa using h3⟩
theorem Ak{o slot m:Nat}{h:ay}{r:Syn.bE}{x:ay}{xs:List ay}{l:List Nd}{g:ah}{ee:List bX}(k:tC ts o slot h r m (x::xs) l g ee):∃m' a,m=m'+1/\
  Syn.run ts m' (.listed false o (bA x))=some a/\l.length+1<=aF/\tC ts o slot h r m' xs (iA l x.cond++[⟨19,h.text,h.at',slot,a.l,x.cond⟩]) (Syn.joinAll g a.f) (ee++a.e):=by
 obtain⟨b0,hb,h1,h2,h3⟩:=k;obtain⟨m',rfl,am⟩:=bt hb;have aa:Syn.calls (Syn.run ts m') o h slot (x::xs) l g=some b0:=am;unfold Syn.calls at aa;simp only at aa;obtain⟨a,ha,ak⟩:=bw aa;obtain⟨_,an,aj⟩:=bw ak;obtain⟨b,ao,ac⟩:=bw aj;cases ac
 have:=m0 an;simp only[Tu,S4,Syn.jW]at this;exact⟨m',a,rfl,ha,this,b,ao,h1,h2,by simpa[Te]using h3⟩
theorem tC.le{o slot m:Nat}{h:ay}{r:Syn.bE}{xs:List ay}{l:List Nd}{g:ah}{ee:List bX}(k:tC ts o slot h r m xs l g ee):ee.length<=r.e.length:=by
 obtain⟨b,_,_,_,h⟩:=k;rw[<-h];simp
def Dw(pb slot:Nat)(vh:Value)(n:Nat)(x:Nat×Value×Value×Value):St:=⟨dn 209 [(0,.v (pt pb)),(2,.v (iv slot)),(8,.v x.2.1),(9,.v x.2.2.1),(25,.v vh),(26,.v (iv n)),(27,.v (iv x.1))],[]⟩
def Pn(pb slot:Nat)(vl vo vh:Value)(n i:Nat)(cs:List Value)(vx:Value)(n2:Nat)(x:Nat×Nat×Value×Value×Value):St:=⟨dn 209 [(0,.v (pt pb)),(2,.v (iv slot)),(8,.v vl),(9,.v vo),(11,.p 11 0),(16,.v x.2.2.1),(17,.v x.2.2.2.1),(25,.v vh),(26,.v (iv n)),(27,.v (iv i)),(58,.v vx),(59,.v (iv n2)),(60,.v (iv x.1))],[⟨11,227,cs⟩]⟩
def RI(pb:Nat)(ts:List Tok)(lv fv ov:Value)(o slot M:Nat)(A B:PH)(h:ay)(xs:List ay)(r:Syn.bE)(e:List bX)(I0:PH)(x:Nat×Nat×Value×Value×Value)(H:PH):Prop:=
 ∃I D N G l g ee,H=U [I,sg pb (bD lv fv ov x.2.2.2.2 o),D,A,B,N,G]/\Dj [I,sg pb (bD lv fv ov x.2.2.2.2 o),D,A,B,N,G]/\I0.le I/\x.1<=xs.length/\x.2.1<=M/\tC ts o slot h r x.2.1 (xs.drop x.1) l g ee/\
  br I N x.2.2.1 l/\(l≠[]\/xs=[])/\l.length<=aF/\gP I G x.2.2.2.1 g/\FN ts.length g/\dl I D x.2.2.2.2 (e++ee)
theorem JK{n:Nat}(ih:iE pb ts lv fv ov n){o:Nat}{f:ah}{slot:Nat}{r:Syn.bE}(hr:Syn.run ts n (.unary o f slot)=some r):qS pb ts lv fv ov (.unary o f slot) r:=by
 obtain⟨m,rfl,hs⟩:=bt hr;have hj:bY ts f (fun h=>Syn.run ts m (.unaryH o h slot))=some r:=hs;rw[ru]at hj;clear hs hr;intro ho I D dv vf e h hf fn he hm hd;have hl:=h.len;refine Ot Tryz.func220 rfl fun w0=>?_;simp only[Tryz.ntmps220,iv,pt];apply RG;simp only[go_sem];refine NB hd [0,1] rfl iS rfl (ps:=[sg pb _]) (F:=[D]) rfl (iN h hf fn) fun v I2 qs hn d0 hq=>?_;obtain⟨rfl,hH⟩:=hq;obtain⟨ha,hc,rfl,_⟩:=id hH;simp only[Z3]at hn |-;apply RG;simp only[go_sem,iv];have hN:∀x∈bk ts f,iH ts x:=fun x hx=>bz h.ok fn hx;have jd:=dZ h.ok fn;have h6:=hH;generalize bk ts f=cj at *;refine aT hn fun hV=>?_;refine aT hV fun hU=>?_;refine ab hU [2,3,0,1] rfl fun hk=>?_;simp only[Z4]at hk |-;refine aB (fun x=>cj.length-x.1) (Dw pb slot (.slice ha cj.length hc) cj.length) (Pd pb ts lv fv ov o cj (fun h=>Syn.run ts m (.unaryH o h slot)) r e I2) (0,.slice none 0 0,.slice none 0 0,dv) (ae (by simp only[go_sem,Tq,iv,pt])) (by simp only[go_sem,Tq,Dw]) ?_ ?_
 ·exact⟨I2,D,PH.no,PH.no,⟨[],[],[]⟩,rfl,hk,Uj _,S6 _,hj,by simpa using dl.le he d0,Ow.nil _ _ _ _,Ow.nil _ _ _ _,FN.nil _,S6 _⟩
 rintro⟨i,va,vb,dv⟩ H ⟨I3,D3,A3,B3,ri,rfl,cr,a7,hS,e3,hE,hA,hB,a9,e4⟩ a6;simp only at hS e3 hE hA hB;simp only[Dw];have h5:m9 I3 (.slice ha cj.length hc) cj:=h6.le a7;rcases Sw i cj.length with cA|jo
 ·have g6:decide ((i:Int)<(cj.length:Int))=true:=by simp;omega
  have e1:=wrap64 (n:=i+1) (by omega);have c9:IntKind.i64.wrap ((i:Int)+1)=((i+1:Nat):Int):=by rw[<-e1];congr 1
  obtain⟨x,hx⟩:∃x,cj[i]?=some x:=⟨_,SC cA⟩;have hF:=Tg hx;have b3:=hN x hF;obtain⟨b,off,cs,rfl,hW,eo⟩:=h5.load jA.len hx;obtain⟨xa,xk,rfl,a3⟩:=hW;obtain⟨r',hK,b0⟩:=ls hx e3;have cl:=s7 b0;obtain⟨y,hy,cf,rfl⟩:=l7 hK;have h3:=h.le (Ui d0 a7);simp only[Tu]at cl cf;have dd:∀s:bM,x.text≠s->(x.text == s)=false:=fun s k=>beq_eq_false_iff_ne.2 k;obtain⟨m1,rfl,hh⟩:=bt hy;have bc:Syn.unaryH ts (Syn.run ts m1) o x slot=some y:=hh;clear hy hh;unfold Syn.unaryH at bc;have e2:=wrap64 (n:=x.at'+1) (by have:=b3.le;omega);have e9:IntKind.i64.wrap ((x.at':Int)+1)=((x.at'+1:Nat):Int):=by rw[<-e2];congr 1
  have hJ:=b3.le;unfold aF at cf e4;apply RG;simp only[go_sem,g6,iv,pt];refine⟨by omega,?_⟩;refine Qz (l:=[iv x.at',sD xa xk x.cond,rD x.cond,.int .u8 x.kind,.string ⟨⟨x.text⟩⟩]) (v:=.agg #[iv x.at',sD xa xk x.cond,rD x.cond,.int .u8 x.kind,.string ⟨⟨x.text⟩⟩]) rfl (cellsU cr (.head _) eo) (.inl ⟨eS,rfl⟩) ?_;by_cases t1:x.text=C9\/x.text=nV
  ·rw[SI t1]at bc;have cx:x.at'<ts.length:=t1.elim (b3.lt2 (s:=C9) (by decide)) (b3.lt2 (s:=nV) (by decide));by_cases t2:x.text=C9
   ·have q1:(x.text == [33])=true:=by rw[t2];decide
    apply RG;simp only[go_sem,iv,pt,sD,rD,q1];by_cases b5:o=64
    ·rw[SI b5]at bc;cases bc
     subst b5;refine NB cr [0,1,2,3] rfl gz (by rfl) (ps:=[sg pb _,D3]) (F:=[A3,B3]) rfl (ke h3 b3.le a3 hE (by simp[bR]at cl |-;omega)) fun v I4 qs b6 ap hq=>?_;obtain⟨dv2,D4,rs,rfl,gn,rfl,rfl⟩:=hq;simp only[Z3]at b6 |-;apply RG;simp only[go_sem,iv,pt,sD,rD,c9,T7];exact a6 (i+1,va,vb,dv2) _ _ (by simp only;omega) (ae (by simp only[go_sem,Tq,iv,pt])) (by simp only[go_sem,Tq,Dw]) ⟨I4,D4,A3,B3,_,rfl,b6,Ui a7 ap,cA,b0,by simp only;rw[<-Te];exact gn,by simpa using br.le hA ap,gP.le hB ap,a9,by simp only[Tq];unfold aF;exact e4⟩
    ·rw[Sb b5]at bc;obtain⟨a,fz,ea⟩:=bw bc;cases ea
     simp only[S4]at cl cf;refine NB cr [0,1,2,3] rfl gz (by rfl) (ps:=[sg pb _]) (F:=[D3,A3,B3]) rfl (iV (h:=x) (a:=xa) (k:=xk) (by omega)) fun v I4 qs b6 ap hq=>?_;obtain⟨rfl,rfl,rfl⟩:=hq;simp only[Z3]at b6 |-;apply RG;simp only[go_sem,iv,pt,sD,rD,Ud];refine NB b6 [0,1,2,3] rfl gC (by rfl) (ps:=[]) (F:=[sg pb _,D3,A3,B3]) rfl (gx (h:=x) (by omega) a3) fun v I5 qs b1 ac hq=>?_;obtain⟨rfl,e6⟩:=hq;simp only[Z3]at b1 |-;apply RG;simp only[go_sem,iv,pt,sD,rD];refine NB b1 [0,1,2,3] rfl xe (by rfl) (ps:=[sg pb _,D3]) (F:=[A3,B3]) rfl (ih m1 (by omega) (.unary (o+1) (bh x) 0) a fz (by omega) (h3.le ac) e6 (bm b3 cx) (hE.le ac) (by simp only[Tu];omega)) fun v I6 qs a4 b2 hq=>?_;obtain⟨dv6,D6,rs,rfl,ex,⟨A6,B6,va6,vb6,rfl,rfl,da,ey⟩,dy,hv⟩:=hq;have c5:=da.capN aW.len;obtain⟨ka,kc,rfl⟩:=da.shape;simp only[Z3]at a4 |-;apply RG;simp only[go_sem,iv,pt,sD,rD];refine Qz (l:=[.int .i64 ((o+1:Nat):Int)]) rfl (cellsU a4 (.tail _ (.head _)) (aU (by simp[bD]) rfl)) (.inr ⟨mF,rfl⟩) ?_;apply RG;simp only[go_sem,iv,pt,sD,rD,iq o ho];refine cG a4 rfl rfl rfl rfl rfl (by exact Gn) (by simp) fun a1=>?_;apply RG;simp only[go_sem,iv,pt,sD,rD];refine ab a1 [2,0,1,3,4,5] rfl fun aj=>?_;simp only[Z4]at aj |-;refine ag aj fun I7 aj ao c8=>?_;have eq:db I7 (.slice ka a.l.length kc) a.l:=da.sl ao c8;refine ab aj [2,0,1,3,4] rfl fun a0=>?_;simp only[Z4]at a0 |-;refine ag a0 fun I9 a0 ak c7=>?_;have er:du I9 vb6 a.f:=ey.sl (Ui ao ak) c7;have dc:=Ui ao ak;have cp:=Ui ac (Ui b2 dc)
     refine NB a0 [3,0,1,2] rfl dp (by rfl) (ps:=[B3]) (F:=[sg pb _,D6,A3]) rfl (b7 (N:=ts.length) (by omega) (gP.le hB cp) a9 er dy) fun v13 eH qs an aa hq=>?_;obtain⟨B13,rfl,a2⟩:=hq;simp only[Z3]at an |-;apply RG;simp only[go_sem,iv,pt,sD,rD];refine ab an [1,2,3,0] rfl fun aS=>?_;simp only[Z4]at aS |-;have k313:=Ui cp aa;have d6:=ex.le (Ui dc aa);refine av aS (by exact cT) rfl rfl rfl rfl rfl (by decide) fun nb8 I8 b1 ac bs=>?_;have c6:db I8 (.slice (some ⟨nb8,0,none⟩) 1 1) ([⟨14,x.text,x.at',slot,a.l,x.cond⟩]:List Nd):=fT (az bs (by simp[aE,Value.cells]) (by simp[aE,Value.cells,iv,sD,rD])) (aW.mk (n:=⟨14,x.text,x.at',slot,a.l,x.cond⟩) ((a3.le k313).le ac) (db.le eq (Ui ak (Ui aa ac))) c5);apply RG;simp only[go_sem,iv,pt,sD,rD];refine ab b1 [2,0,1,3] rfl fun a4=>?_;simp only[Z4]at a4 |-;refine aY a4 (by exact cT) (br.le hA (Ui k313 ac)) (c6) (fun{I J c a} h k=>aW.le h k) (fun{I} c a h=>aW.len c a h) (fun{I} c a h=>aW.ones h) rfl rfl rfl rfl (by first|omega|(simp only[SB,S9];omega)) (by unfold maxLen;first|omega|(simp only[SB,S9];omega)) fun na nc ct A10 a1 am ba=>?_;apply RG;simp only[go_sem,iv,pt,sD,rD,c9];refine ab a1 [1,2,0,3] rfl fun aj=>?_;simp only[Z4]at aj |-;have k810:=Ui ac am;obtain⟨ta,tc,rfl⟩:=a2.shape
     refine a6 (i+1,.slice na (ri.l++([⟨14,x.text,x.at',slot,a.l,x.cond⟩]:List Nd)).length nc,.slice ta (Syn.joinAll ri.f a.f).length tc,dv6) _ _ (by simp only;omega) (ae (by simp only[go_sem,Tq,iv,pt])) (by simp only[go_sem,Tq,Dw]) ⟨ct,D6,A10,B13,_,rfl,aj,Ui a7 (Ui k313 k810),cA,b0,by simpa[Te]using d6.le k810,ba,gP.le a2 k810,a9.joinAll dy,by simp only[Tu,S4];unfold aF;simpa using cf⟩
   ·have q1:(x.text == [33])=false:=dd _ t2;have q2:(x.text == [45])=true:=by rw[t1.resolve_left t2];decide
    apply RG;simp only[go_sem,iv,pt,sD,rD,q1,q2];by_cases b5:o=64
    ·rw[SI b5]at bc;cases bc
     subst b5;refine NB cr [0,1,2,3] rfl gz (by rfl) (ps:=[sg pb _,D3]) (F:=[A3,B3]) rfl (ke h3 b3.le a3 hE (by simp[bR]at cl |-;omega)) fun v I4 qs b6 ap hq=>?_;obtain⟨dv2,D4,rs,rfl,gn,rfl,rfl⟩:=hq;simp only[Z3]at b6 |-;apply RG;simp only[go_sem,iv,pt,sD,rD,c9,T7];exact a6 (i+1,va,vb,dv2) _ _ (by simp only;omega) (ae (by simp only[go_sem,Tq,iv,pt])) (by simp only[go_sem,Tq,Dw]) ⟨I4,D4,A3,B3,_,rfl,b6,Ui a7 ap,cA,b0,by simp only;rw[<-Te];exact gn,by simpa using br.le hA ap,gP.le hB ap,a9,by simp only[Tq];unfold aF;exact e4⟩
    ·rw[Sb b5]at bc;obtain⟨a,fz,ea⟩:=bw bc;cases ea
     simp only[S4]at cl cf;refine NB cr [0,1,2,3] rfl gz (by rfl) (ps:=[sg pb _]) (F:=[D3,A3,B3]) rfl (iV (h:=x) (a:=xa) (k:=xk) (by omega)) fun v I4 qs b6 ap hq=>?_;obtain⟨rfl,rfl,rfl⟩:=hq;simp only[Z3]at b6 |-;apply RG;simp only[go_sem,iv,pt,sD,rD,Ud];refine NB b6 [0,1,2,3] rfl gC (by rfl) (ps:=[]) (F:=[sg pb _,D3,A3,B3]) rfl (gx (h:=x) (by omega) a3) fun v I5 qs b1 ac hq=>?_;obtain⟨rfl,e6⟩:=hq;simp only[Z3]at b1 |-;apply RG;simp only[go_sem,iv,pt,sD,rD];refine NB b1 [0,1,2,3] rfl xe (by rfl) (ps:=[sg pb _,D3]) (F:=[A3,B3]) rfl (ih m1 (by omega) (.unary (o+1) (bh x) 0) a fz (by omega) (h3.le ac) e6 (bm b3 cx) (hE.le ac) (by simp only[Tu];omega)) fun v I6 qs a4 b2 hq=>?_;obtain⟨dv6,D6,rs,rfl,ex,⟨A6,B6,va6,vb6,rfl,rfl,da,ey⟩,dy,hv⟩:=hq;have c5:=da.capN aW.len;obtain⟨ka,kc,rfl⟩:=da.shape;simp only[Z3]at a4 |-;apply RG;simp only[go_sem,iv,pt,sD,rD];refine Qz (l:=[.int .i64 ((o+1:Nat):Int)]) rfl (cellsU a4 (.tail _ (.head _)) (aU (by simp[bD]) rfl)) (.inr ⟨mF,rfl⟩) ?_;apply RG;simp only[go_sem,iv,pt,sD,rD,iq o ho];refine cG a4 rfl rfl rfl rfl rfl (by exact Gn) (by simp) fun a1=>?_;apply RG;simp only[go_sem,iv,pt,sD,rD];refine ab a1 [2,0,1,3,4,5] rfl fun aj=>?_;simp only[Z4]at aj |-;refine ag aj fun I7 aj ao c8=>?_;have eq:db I7 (.slice ka a.l.length kc) a.l:=da.sl ao c8;refine ab aj [2,0,1,3,4] rfl fun a0=>?_;simp only[Z4]at a0 |-;refine ag a0 fun I9 a0 ak c7=>?_;have er:du I9 vb6 a.f:=ey.sl (Ui ao ak) c7;have dc:=Ui ao ak;have cp:=Ui ac (Ui b2 dc)
     refine NB a0 [3,0,1,2] rfl dp (by rfl) (ps:=[B3]) (F:=[sg pb _,D6,A3]) rfl (b7 (N:=ts.length) (by omega) (gP.le hB cp) a9 er dy) fun v13 eH qs an aa hq=>?_;obtain⟨B13,rfl,a2⟩:=hq;simp only[Z3]at an |-;apply RG;simp only[go_sem,iv,pt,sD,rD];refine ab an [1,2,3,0] rfl fun aS=>?_;simp only[Z4]at aS |-;have k313:=Ui cp aa;have d6:=ex.le (Ui dc aa);refine av aS (by exact cT) rfl rfl rfl rfl rfl (by decide) fun nb8 I8 b1 ac bs=>?_;have c6:db I8 (.slice (some ⟨nb8,0,none⟩) 1 1) ([⟨14,x.text,x.at',slot,a.l,x.cond⟩]:List Nd):=fT (az bs (by simp[aE,Value.cells]) (by simp[aE,Value.cells,iv,sD,rD])) (aW.mk (n:=⟨14,x.text,x.at',slot,a.l,x.cond⟩) ((a3.le k313).le ac) (db.le eq (Ui ak (Ui aa ac))) c5);apply RG;simp only[go_sem,iv,pt,sD,rD];refine ab b1 [2,0,1,3] rfl fun a4=>?_;simp only[Z4]at a4 |-;refine aY a4 (by exact cT) (br.le hA (Ui k313 ac)) (c6) (fun{I J c a} h k=>aW.le h k) (fun{I} c a h=>aW.len c a h) (fun{I} c a h=>aW.ones h) rfl rfl rfl rfl (by first|omega|(simp only[SB,S9];omega)) (by unfold maxLen;first|omega|(simp only[SB,S9];omega)) fun na nc ct A10 a1 am ba=>?_;apply RG;simp only[go_sem,iv,pt,sD,rD,c9];refine ab a1 [1,2,0,3] rfl fun aj=>?_;simp only[Z4]at aj |-;have k810:=Ui ac am;obtain⟨ta,tc,rfl⟩:=a2.shape
     refine a6 (i+1,.slice na (ri.l++([⟨14,x.text,x.at',slot,a.l,x.cond⟩]:List Nd)).length nc,.slice ta (Syn.joinAll ri.f a.f).length tc,dv6) _ _ (by simp only;omega) (ae (by simp only[go_sem,Tq,iv,pt])) (by simp only[go_sem,Tq,Dw]) ⟨ct,D6,A10,B13,_,rfl,aj,Ui a7 (Ui k313 k810),cA,b0,by simpa[Te]using d6.le k810,ba,gP.le a2 k810,a9.joinAll dy,by simp only[Tu,S4];unfold aF;simpa using cf⟩
  rw[Sb t1]at bc;have q1:(x.text == [33])=false:=dd _ fun k=>t1 (.inl k);have q2:(x.text == [45])=false:=dd _ fun k=>t1 (.inr k);by_cases t3:x.text=hZ
  ·rw[SI t3]at bc;have q3:(x.text == [40])=true:=by rw[t3];decide
   apply RG;simp only[go_sem,iv,pt,sD,rD,q1,q2,q3];refine av cr (by exact gY) rfl rfl rfl rfl rfl (by decide) fun nb I4 b6 ap fk=>?_;have gk:du I4 (.slice (some ⟨nb,0,none⟩) 1 1) (bA x):=mI (az fk (by simp[aE,Value.cells]) (by simp[aE,Value.cells,iv,sD,rD])) (a3.le ap);apply RG;simp only[go_sem,iv,pt,sD,rD];refine NB b6 [0,1,2,3] rfl wA (by rfl) (ps:=[sg pb _,D3]) (F:=[A3,B3]) rfl (ih m1 (by omega) (.inside o (bA x) slot) y bc ho (h3.le ap) gk (gB b3) (hE.le ap) (by simp only[Tu];omega)) fun v I6 qs a4 b2 hq=>?_;obtain⟨dv6,D6,rs,rfl,ex,⟨A6,B6,va6,vb6,rfl,rfl,da,ey⟩,dy,hv⟩:=hq;simp only[Z3]at a4 |-;apply RG;simp only[go_sem,iv,pt,sD,rD];refine ab a4 [2,0,1,3,4,5] rfl fun aj=>?_;simp only[Z4]at aj |-;refine ag aj fun I7 aj ao c8=>?_;have eq:db I7 va6 y.l:=da.sl ao c8;refine ab aj [2,0,1,3,4] rfl fun a0=>?_;simp only[Z4]at a0 |-;refine ag a0 fun I9 a0 ak c7=>?_;have er:du I9 vb6 y.f:=ey.sl (Ui ao ak) c7;have dc:=Ui ao ak;have cp:=Ui ap (Ui b2 dc);refine ab a0 [2,0,1,3] rfl fun an=>?_;simp only[Z4]at an |-;refine aY an (by exact cT) (br.le hA cp) (db.le eq ak) (fun{I J c a} h k=>aW.le h k) (fun{I} c a h=>aW.len c a h) (fun{I} c a h=>aW.ones h) rfl rfl rfl rfl (by first|omega|(simp only[SB,S9];omega)) (by unfold maxLen;first|omega|(simp only[SB,S9];omega)) fun na nc ct A10 aS c4 ba=>?_;apply RG;simp only[go_sem,iv,pt,sD,rD];refine NB aS [3,0,1,2] rfl dp (by rfl) (ps:=[B3]) (F:=[A10,sg pb _,D6]) rfl (b7 (N:=ts.length) (by omega) (gP.le hB (Ui cp c4)) a9 (er.le c4) dy) fun v15 i6 qs en dx hq=>?_
   obtain⟨B15,rfl,eA⟩:=hq;obtain⟨ta,tc,rfl⟩:=eA.shape;simp only[Z3]at en |-;apply RG;simp only[go_sem,iv,pt,sD,rD,c9];refine ab en [2,3,1,0] rfl fun em=>?_;simp only[Z4]at em |-;have k1015:=Ui c4 dx;refine a6 (i+1,.slice na (ri.l++y.l).length nc,.slice ta (Syn.joinAll ri.f y.f).length tc,dv6) _ _ (by simp only;omega) (ae (by simp only[go_sem,Tq,iv,pt])) (by simp only[go_sem,Tq,Dw]) ⟨i6,D6,A10,B15,_,rfl,em,Ui a7 (Ui cp k1015),cA,b0,by simpa[Te]using ex.le (Ui dc k1015),br.le ba dx,eA,a9.joinAll dy,by simp only[Tu]at cf |-;unfold aF;exact cf⟩
  rw[Sb t3]at bc;have q3:(x.text == [40])=false:=dd _ t3;by_cases t4:x.kind=2
  ·rw[SI t4]at bc;have q4:((x.kind:Int) == 2)=true:=by rw[t4];rfl
   have cx:x.at'<ts.length:=b3.lt (.inr (by omega));apply RG;simp only[go_sem,iv,pt,sD,rD,q1,q2,q3,q4];cases bc
   apply RG;simp only[go_sem,iv,pt,sD,rD,e9];refine NB cr [3,0,1,2] rfl df (by rfl) (ps:=[B3]) (F:=[sg pb _,D3,A3]) rfl (bo (a:=x.at'+1) hB a3 a9.ok.2 (fun t ht=>by have:=a9.le t ht;omega) (by omega) (by have:=a9.len;omega)) fun v13 eH qs an aa hq=>?_;obtain⟨B13,rfl,a2⟩:=hq;simp only[Z3]at an |-;apply RG;simp only[go_sem,iv,pt,sD,rD];refine ab an [1,2,3,0] rfl fun aS=>?_;simp only[Z4]at aS |-;refine av aS (by exact cT) rfl rfl rfl rfl rfl (by decide) fun nb8 I8 b1 ac bs=>?_;have c6:db I8 (.slice (some ⟨nb8,0,none⟩) 1 1) ([⟨15,x.text,x.at',slot,[],x.cond⟩]:List Nd):=fT (az bs (by simp[aE,Value.cells]) (by simp[aE,Value.cells,iv,sD,rD])) (aW.mk (n:=⟨15,x.text,x.at',slot,[],x.cond⟩) ((a3.le aa).le ac) (Sl.nil _ _) jq);apply RG;simp only[go_sem,iv,pt,sD,rD];refine ab b1 [2,0,1,3] rfl fun a4=>?_;simp only[Z4]at a4 |-;refine aY a4 (by exact cT) (br.le hA (Ui aa ac)) (c6) (fun{I J c a} h k=>aW.le h k) (fun{I} c a h=>aW.len c a h) (fun{I} c a h=>aW.ones h) rfl rfl rfl rfl (by first|omega|(simp only[SB,S9];omega)) (by unfold maxLen;first|omega|(simp only[SB,S9];omega)) fun na nc ct A10 a1 am ba=>?_;apply RG;simp only[go_sem,iv,pt,sD,rD,c9];refine ab a1 [1,2,0,3] rfl fun aj=>?_;simp only[Z4]at aj |-;have k810:=Ui ac am;obtain⟨ta,tc,rfl⟩:=a2.shape
   refine a6 (i+1,.slice na (ri.l++([⟨15,x.text,x.at',slot,[],x.cond⟩]:List Nd)).length nc,.slice ta (Syn.join ri.f (x.at'+1) x.cond).length tc,dv) _ _ (by simp only;omega) (ae (by simp only[go_sem,Tq,iv,pt])) (by simp only[go_sem,Tq,Dw]) ⟨ct,D3,A10,B13,_,rfl,aj,Ui a7 (Ui aa k810),cA,b0,by simpa using hE.le (Ui aa k810),ba,gP.le a2 k810,a9.join (by omega) b3.ok,by simp only[Tu,S4];unfold aF;simpa using cf⟩
  rw[Sb t4]at bc;have q4:((x.kind:Int) == 2)=false:=by rw[Uf];omega
  by_cases t5:x.text=qv\/x.text=oe
  ·rw[SI t5]at bc;have cx:x.at'<ts.length:=t5.elim (b3.lt2 (s:=qv) (by decide)) (b3.lt2 (s:=oe) (by decide));by_cases t6:x.text=qv
   ·have q5:(x.text == [116,114,117,101])=true:=by rw[t6];decide
    apply RG;simp only[go_sem,iv,pt,sD,rD,q1,q2,q3,q4,q5];cases bc
    apply RG;simp only[go_sem,iv,pt,sD,rD,e9];refine NB cr [3,0,1,2] rfl df (by rfl) (ps:=[B3]) (F:=[sg pb _,D3,A3]) rfl (bo (a:=x.at'+1) hB a3 a9.ok.2 (fun t ht=>by have:=a9.le t ht;omega) (by omega) (by have:=a9.len;omega)) fun v13 eH qs an aa hq=>?_;obtain⟨B13,rfl,a2⟩:=hq;simp only[Z3]at an |-;apply RG;simp only[go_sem,iv,pt,sD,rD];refine ab an [1,2,3,0] rfl fun aS=>?_;simp only[Z4]at aS |-;refine av aS (by exact cT) rfl rfl rfl rfl rfl (by decide) fun nb8 I8 b1 ac bs=>?_;have c6:db I8 (.slice (some ⟨nb8,0,none⟩) 1 1) ([⟨16,x.text,x.at',slot,[],x.cond⟩]:List Nd):=fT (az bs (by simp[aE,Value.cells]) (by simp[aE,Value.cells,iv,sD,rD])) (aW.mk (n:=⟨16,x.text,x.at',slot,[],x.cond⟩) ((a3.le aa).le ac) (Sl.nil _ _) jq);apply RG;simp only[go_sem,iv,pt,sD,rD];refine ab b1 [2,0,1,3] rfl fun a4=>?_;simp only[Z4]at a4 |-;refine aY a4 (by exact cT) (br.le hA (Ui aa ac)) (c6) (fun{I J c a} h k=>aW.le h k) (fun{I} c a h=>aW.len c a h) (fun{I} c a h=>aW.ones h) rfl rfl rfl rfl (by first|omega|(simp only[SB,S9];omega)) (by unfold maxLen;first|omega|(simp only[SB,S9];omega)) fun na nc ct A10 a1 am ba=>?_;apply RG;simp only[go_sem,iv,pt,sD,rD,c9];refine ab a1 [1,2,0,3] rfl fun aj=>?_;simp only[Z4]at aj |-;have k810:=Ui ac am;obtain⟨ta,tc,rfl⟩:=a2.shape
    refine a6 (i+1,.slice na (ri.l++([⟨16,x.text,x.at',slot,[],x.cond⟩]:List Nd)).length nc,.slice ta (Syn.join ri.f (x.at'+1) x.cond).length tc,dv) _ _ (by simp only;omega) (ae (by simp only[go_sem,Tq,iv,pt])) (by simp only[go_sem,Tq,Dw]) ⟨ct,D3,A10,B13,_,rfl,aj,Ui a7 (Ui aa k810),cA,b0,by simpa using hE.le (Ui aa k810),ba,gP.le a2 k810,a9.join (by omega) b3.ok,by simp only[Tu,S4];unfold aF;simpa using cf⟩
   ·have q5:(x.text == [116,114,117,101])=false:=dd _ t6;have q6:(x.text == [102,97,108,115,101])=true:=by rw[t5.resolve_left t6];decide
    apply RG;simp only[go_sem,iv,pt,sD,rD,q1,q2,q3,q4,q5,q6];cases bc
    apply RG;simp only[go_sem,iv,pt,sD,rD,e9];refine NB cr [3,0,1,2] rfl df (by rfl) (ps:=[B3]) (F:=[sg pb _,D3,A3]) rfl (bo (a:=x.at'+1) hB a3 a9.ok.2 (fun t ht=>by have:=a9.le t ht;omega) (by omega) (by have:=a9.len;omega)) fun v13 eH qs an aa hq=>?_;obtain⟨B13,rfl,a2⟩:=hq;simp only[Z3]at an |-;apply RG;simp only[go_sem,iv,pt,sD,rD];refine ab an [1,2,3,0] rfl fun aS=>?_;simp only[Z4]at aS |-;refine av aS (by exact cT) rfl rfl rfl rfl rfl (by decide) fun nb8 I8 b1 ac bs=>?_;have c6:db I8 (.slice (some ⟨nb8,0,none⟩) 1 1) ([⟨16,x.text,x.at',slot,[],x.cond⟩]:List Nd):=fT (az bs (by simp[aE,Value.cells]) (by simp[aE,Value.cells,iv,sD,rD])) (aW.mk (n:=⟨16,x.text,x.at',slot,[],x.cond⟩) ((a3.le aa).le ac) (Sl.nil _ _) jq);apply RG;simp only[go_sem,iv,pt,sD,rD];refine ab b1 [2,0,1,3] rfl fun a4=>?_;simp only[Z4]at a4 |-;refine aY a4 (by exact cT) (br.le hA (Ui aa ac)) (c6) (fun{I J c a} h k=>aW.le h k) (fun{I} c a h=>aW.len c a h) (fun{I} c a h=>aW.ones h) rfl rfl rfl rfl (by first|omega|(simp only[SB,S9];omega)) (by unfold maxLen;first|omega|(simp only[SB,S9];omega)) fun na nc ct A10 a1 am ba=>?_;apply RG;simp only[go_sem,iv,pt,sD,rD,c9];refine ab a1 [1,2,0,3] rfl fun aj=>?_;simp only[Z4]at aj |-;have k810:=Ui ac am;obtain⟨ta,tc,rfl⟩:=a2.shape
    refine a6 (i+1,.slice na (ri.l++([⟨16,x.text,x.at',slot,[],x.cond⟩]:List Nd)).length nc,.slice ta (Syn.join ri.f (x.at'+1) x.cond).length tc,dv) _ _ (by simp only;omega) (ae (by simp only[go_sem,Tq,iv,pt])) (by simp only[go_sem,Tq,Dw]) ⟨ct,D3,A10,B13,_,rfl,aj,Ui a7 (Ui aa k810),cA,b0,by simpa using hE.le (Ui aa k810),ba,gP.le a2 k810,a9.join (by omega) b3.ok,by simp only[Tu,S4];unfold aF;simpa using cf⟩
  rw[Sb t5]at bc;have q5:(x.text == [116,114,117,101])=false:=dd _ fun k=>t5 (.inl k);have q6:(x.text == [102,97,108,115,101])=false:=dd _ fun k=>t5 (.inr k);by_cases t7:x.text=tj
  ·rw[SI t7]at bc;have cx:x.at'<ts.length:=b3.lt2 (s:=tj) (by decide) t7;have q7:(x.text == [114,101,97,100])=true:=by rw[t7];decide
   apply RG;simp only[go_sem,iv,pt,sD,rD,q1,q2,q3,q4,q5,q6,q7];cases bc
   apply RG;simp only[go_sem,iv,pt,sD,rD,e9];refine NB cr [3,0,1,2] rfl df (by rfl) (ps:=[B3]) (F:=[sg pb _,D3,A3]) rfl (bo (a:=x.at'+1) hB a3 a9.ok.2 (fun t ht=>by have:=a9.le t ht;omega) (by omega) (by have:=a9.len;omega)) fun v13 eH qs an aa hq=>?_;obtain⟨B13,rfl,a2⟩:=hq;simp only[Z3]at an |-;apply RG;simp only[go_sem,iv,pt,sD,rD];refine ab an [1,2,3,0] rfl fun aS=>?_;simp only[Z4]at aS |-;refine av aS (by exact cT) rfl rfl rfl rfl rfl (by decide) fun nb8 I8 b1 ac bs=>?_;have c6:db I8 (.slice (some ⟨nb8,0,none⟩) 1 1) ([⟨17,[],x.at',slot,[],x.cond⟩]:List Nd):=fT (az bs (by simp[aE,Value.cells]) (by simp[aE,Value.cells,iv,sD,rD])) (aW.mk (n:=⟨17,[],x.at',slot,[],x.cond⟩) ((a3.le aa).le ac) (Sl.nil _ _) jq);apply RG;simp only[go_sem,iv,pt,sD,rD];refine ab b1 [2,0,1,3] rfl fun a4=>?_;simp only[Z4]at a4 |-;refine aY a4 (by exact cT) (br.le hA (Ui aa ac)) (c6) (fun{I J c a} h k=>aW.le h k) (fun{I} c a h=>aW.len c a h) (fun{I} c a h=>aW.ones h) rfl rfl rfl rfl (by first|omega|(simp only[SB,S9];omega)) (by unfold maxLen;first|omega|(simp only[SB,S9];omega)) fun na nc ct A10 a1 am ba=>?_;apply RG;simp only[go_sem,iv,pt,sD,rD,c9];refine ab a1 [1,2,0,3] rfl fun aj=>?_;simp only[Z4]at aj |-;have k810:=Ui ac am;obtain⟨ta,tc,rfl⟩:=a2.shape
   refine a6 (i+1,.slice na (ri.l++([⟨17,[],x.at',slot,[],x.cond⟩]:List Nd)).length nc,.slice ta (Syn.join ri.f (x.at'+1) x.cond).length tc,dv) _ _ (by simp only;omega) (ae (by simp only[go_sem,Tq,iv,pt])) (by simp only[go_sem,Tq,Dw]) ⟨ct,D3,A10,B13,_,rfl,aj,Ui a7 (Ui aa k810),cA,b0,by simpa using hE.le (Ui aa k810),ba,gP.le a2 k810,a9.join (by omega) b3.ok,by simp only[Tu,S4];unfold aF;simpa using cf⟩
  rw[Sb t7]at bc;have q7:(x.text == [114,101,97,100])=false:=dd _ t7;apply RG;simp only[go_sem,iv,pt,sD,rD,q1,q2,q3,q4,q5,q6,q7];refine av cr (by exact gY) rfl rfl rfl rfl rfl (by decide) fun nb I4 b6 ap fk=>?_;have gk:du I4 (.slice (some ⟨nb,0,none⟩) 1 1) (bA x):=mI (az fk (by simp[aE,Value.cells]) (by simp[aE,Value.cells,iv,sD,rD])) (a3.le ap);have fh:=gB b3;have nf:=fL h.ok fh 18 slot;have nl:=iU h.ok fh 18 slot;obtain⟨xs,g,fb⟩:∃yes g,aC ts (named ts (bA x) 18 slot).f (bj hZ)=(yes,g):=⟨_,_,rfl⟩;simp only[fb]at bc;obtain⟨c,hX,ea⟩:=bw bc;cases ea
  simp only[Tu]at cl cf;have fA:=dH h.ok nf (is:=bj hZ);have hu:=eR h.ok nf (bj hZ);have gb:=cI h.ok nf (bj hZ);have dI:(named ts (bA x) 18 slot).l=[]->(aC ts (named ts (bA x) 18 slot).f (bj hZ)).1=[]:=fun e=>by
   rw[Ar e];rfl
  rw[fb]at fA hu gb dI;simp only at fA hu gb dI;apply RG;simp only[go_sem,iv,pt,sD,rD];refine NB b6 [0,1,2,3] rfl mC (by rfl) (ps:=[sg pb _,D3]) (F:=[A3,B3]) rfl (mQ (kind:=18) (slot:=slot) (f:=bA x) (h3.le ap) gk fh (hE.le ap) (by simp only[Tu];omega)) fun v I5 qs b1 ac hq=>?_;obtain⟨dv5,D5,rs,rfl,h8,⟨A5,B5,va5,vb5,rfl,rfl,ie,ic⟩,e6,h1⟩:=hq;simp only[Z3]at b1 |-;apply RG;simp only[go_sem,iv,pt,sD,rD];refine ab b1 [3,0,1,2,4,5] rfl fun a4=>?_;simp only[Z4]at a4 |-;refine ag a4 fun I6 a4 b2 ia=>?_;have h7:du I6 vb5 (named ts (bA x) 18 slot).f:=ic.sl b2 ia;refine NB a4 [0,1,2,3,4] rfl gy (by rfl) (ps:=[]) (F:=[sg pb _,D5,A5,A3,B3]) rfl (iz (s:=hZ)) fun vi I7 qs a1 am hq=>?_;obtain⟨rfl,hw⟩:=hq;simp only[Z3]at a1 |-;obtain⟨fi,first,cap,rfl,gi,ci⟩:=id hw;apply RG;simp only[go_sem,iv,pt,sD,rD];have hg:=Ui ap (Ui ac (Ui b2 am));refine NB a1 [0,1,2,3,4] rfl gX (by rfl) (ps:=[sg pb _]) (F:=[D5,A5,A3,B3]) rfl (gT (h3.le hg) (h7.le am) nf hw) fun v I8 qs aj ao hq=>?_;obtain⟨A8,B8,va8,vb8,rfl,rfl,e8,gs⟩:=hq;rw[fb]at e8 gs;simp only at e8 gs;obtain⟨xsa,xsc,rfl⟩:=e8.shape;simp only[Z3]at aj |-;apply RG;simp only[go_sem,iv,pt,sD,rD];refine ab aj [1,0,2,3,4,5,6] rfl fun a0=>?_;simp only[Z4]at a0 |-;refine ag a0 fun I9 a0 ak g3=>?_;have h0:m9 I9 (.slice xsa xs.length xsc) xs:=e8.sl ak g3;refine ab a0 [0,2,4,5,3,1] rfl fun an=>?_;simp only[Z4]at an |-;have g8:=Ui ao ak;have hb:=Ui b2 (Ui am g8);have cp:=Ui hg g8;have h9:=h3.le cp
  have h4:tC ts o slot x ⟨c.l,c.f,(named ts (bA x) 18 slot).e++c.e⟩ m1 xs (named ts (bA x) 18 slot).l g (named ts (bA x) 18 slot).e:=⟨c,hX,rfl,rfl,rfl⟩;refine aB (fun x=>xs.length-x.1) (Pn pb slot va vb (.slice (some ⟨b,off,none⟩) cj.length hc) cj.length i [iv x.at',sD xa xk x.cond,rD x.cond,.int .u8 x.kind,.string ⟨⟨x.text⟩⟩] (.slice xsa xs.length xsc) xs.length) (RI pb ts lv fv ov o slot m1 A3 B3 x xs ⟨c.l,c.f,(named ts (bA x) 18 slot).e++c.e⟩ (e++ri.e) I9) (0,m1,va5,vb8,dv5) (ae (by simp only[go_sem,Tq,iv,pt,sD,rD])) (by simp only[go_sem,Tq,Pn,iv,sD,rD]) ?_ ?_
  ·exact⟨I9,D5,A5,B8,_,_,_,rfl,an,Uj _,S6 _,R7 _,h4,ie.le hb,by
    by_cases e7:(named ts (bA x) 18 slot).l=[]
    ·exact .inr (dI e7)
    ·exact .inl e7,h1,gs.le ak,gb,h8.le hb⟩
  rintro⟨j,m2,vn,vg,dw⟩ H ⟨j2,D17,N,G,l,gg,ee,rfl,d1,c3,hP,hL,ep,f5,hM,jf,hG,e5,gr⟩ dA;simp only at hP hL ep f5 hG gr;simp only[Pn];have fa:=Ui cp c3;have i0:=h3.le fa;rcases Sw j xs.length with d9|jg
  ·have g4:decide ((j:Int)<(xs.length:Int))=true:=by simp;omega
   have f1:=wrap64 (n:=j+1) (by omega);have f1':IntKind.i64.wrap ((j:Int)+1)=((j+1:Nat):Int):=by rw[<-f1];congr 1
   obtain⟨y,e0⟩:∃y,xs[j]?=some y:=⟨_,SC d9⟩;obtain⟨hD,i9⟩:=fA y (Tg e0);obtain⟨bb,off2,cs2,rfl,fs,d3⟩:=(h0.le c3).load jA.len e0;obtain⟨ya,yk,rfl,cy⟩:=fs;have hT:xs.drop j=y::xs.drop (j+1):=by
    rw[S5 d9];rw[SC d9]at e0;rw[Tk e0]
   rw[hT]at ep;obtain⟨m3,aa',rfl,hY,dT,d5⟩:=Ak ep;have ef:=d5.le;simp only[Tu]at ef;apply RG;simp only[go_sem,g4,iv,pt,sD,rD];refine⟨by omega,?_⟩;refine Qz (l:=[iv y.at',sD ya yk y.cond,rD y.cond,.int .u8 y.kind,.string ⟨⟨y.text⟩⟩]) (v:=.agg #[iv y.at',sD ya yk y.cond,rD y.cond,.int .u8 y.kind,.string ⟨⟨y.text⟩⟩]) rfl (cellsU d1 (.head _) d3) (.inl ⟨eS,rfl⟩) ?_;apply RG;simp only[go_sem,iv,pt,sD,rD];refine av d1 (by exact gY) rfl rfl rfl rfl rfl (by decide) fun nb2 g7 cn bd fj=>?_;have gl:du g7 (.slice (some ⟨nb2,0,none⟩) 1 1) (bA y):=mI (az fj (by simp[aE,Value.cells]) (by simp[aE,Value.cells,iv,sD,rD])) (cy.le bd);apply RG;simp only[go_sem,iv,pt,sD,rD];refine NB cn [0,1,2,3,4,5] rfl wE (by rfl) (ps:=[sg pb _,D17]) (F:=[A3,B3,N,G]) rfl (ih m3 (by omega) (.listed false o (bA y)) aa' hY ho (i0.le bd) gl (gB hD) (gr.le bd) (by simp only[Tu];omega)) fun v hC qs cc b4 hq=>?_;obtain⟨dv19,D19,rs,rfl,gq,⟨A19,B19,va19,vb19,rfl,rfl,d7,g0⟩,et,h2⟩:=hq;have d4:=d7.capN aW.len;obtain⟨ka,kc,rfl⟩:=d7.shape;simp only[Z3]at cc |-;apply RG;simp only[go_sem,iv,pt,sD,rD];refine ab cc [2,0,1,3,4,5,6,7] rfl fun cb=>?_;simp only[Z4]at cb |-;refine ag (c:=.st _) cb fun i5 cb c2 g2=>?_;have f7:db i5 (.slice ka aa'.l.length kc) aa'.l:=d7.sl c2 g2;refine ab cb [2,0,1,3,4,5,6] rfl fun cm=>?_;simp only[Z4]at cm |-;refine ag (c:=.st _) cm fun hz cm bx gt=>?_;have gf:du hz vb19 aa'.f:=g0.sl (Ui c2 bx) gt;have k1921:=Ui c2 bx;have k1721:=Ui bd (Ui b4 k1921);obtain⟨n1,l1,rfl⟩:∃n1 l1,l=n1::l1:=by
    cases l with
    |nil=>exact absurd rfl (hM.resolve_right fun e=>by rw[e]at d9;exact Nat.not_lt_zero _ d9)
    |cons n1 l1=>exact⟨n1,l1,rfl⟩
   rw[uJ]at d5;refine ab cm [4,0,1,2,3,5] rfl fun ca=>?_;simp only[Z4]at ca |-;obtain⟨g5,cap5,cur,a5,k5,rfl,rfl,ja,d2,eb,fc⟩:=yM (br.le f5 k1721);refine go mixed [0,1,2,3,4,5,6,7,8,9,10,11] [] [] [4] [7] (sg g5 (.cells cur 60 (0,0))) rfl rfl ?_;apply af;simp only[go_sem,iv,pt,sD,rD];refine⟨by omega,?_⟩;refine gm (l:=[sD a5 k5 n1.cond,rD n1.cond]) (v:=.agg #[sD a5 k5 n1.cond,rD n1.cond]) rfl (cw ca) rfl rfl rfl d2 (.inl ⟨oQ,rfl⟩) ?_;apply af;simp only[go_sem,iv,pt,sD,rD];refine pw ca [0,1,2,3,4,5] rfl rfl rfl rfl rfl mn (by rfl) (ps:=[]) (F:=[sg g5 _,sg pb _,D19,A3,B3,G]) rfl (cw ca) (qK (cy.le k1721)) fun v j1 qs ek c1 hq=>?_;obtain⟨rfl,ed⟩:=hq;obtain⟨ra,rk,rfl⟩:=ed.shape2;simp only[Z3]at ek |-;apply af;simp only[go_sem,iv,pt,sD,rD];refine Og ek [0,1,2,3,4,5] rfl (fun h=>by cases h) rfl iy (by rfl) (ps:=[]) (F:=[sg g5 _,sg pb _,D19,A3,B3,G]) rfl (lE (eb.le c1) ed) fun v i3 qs ei dk hq=>?_;obtain⟨rfl,ec⟩:=hq;obtain⟨ta,tk,rfl⟩:=ec.shape2;simp only[Z3]at ei |-;apply af;simp only[go_sem,iv,pt,sD,rD];refine⟨by omega,?_⟩;refine aH ei rfl rfl rfl rfl rfl rfl (by exact zp) (by simp;omega) fun fr=>?_;refine aw ?_;have f2:=fc i3 ta tk (n1.cond.and y.cond.not) (Ui c1 dk) ec;have k2126:=Ui c1 dk;apply RG;simp only[go_sem,iv,pt,sD,rD];refine av fr (by exact cT) rfl rfl rfl rfl rfl (by decide) fun nb3 i2 fo dj fg=>?_;have k2128:=Ui k2126 dj;have k1728:=Ui k1721 k2128
   have fC:db i2 (.slice (some ⟨nb3,0,none⟩) 1 1) ([⟨19,x.text,x.at',slot,aa'.l,y.cond⟩]:List Nd):=fT (az fg (by simp[aE,Value.cells]) (by simp[aE,Value.cells,iv,sD,rD])) (aW.mk (n:=⟨19,x.text,x.at',slot,aa'.l,y.cond⟩) (cy.le k1728) (db.le f7 (Ui bx k2128)) d4);apply RG;simp only[go_sem,iv,pt,sD,rD];unfold aF at dT;simp only[SB]at dT;refine aY fo (by exact cT) (br.le f2 dj) (fC) (fun{I J c a} h k=>aW.le h k) (fun{I} c a h=>aW.len c a h) (fun{I} c a h=>aW.ones h) rfl rfl rfl rfl (by first|omega|(simp only[SB,S9];omega)) (by unfold maxLen;first|omega|(simp only[SB,S9];omega)) fun wa wc j0 N29 fl c0 f0=>?_;apply RG;simp only[go_sem,iv,pt,sD,rD];have k2129:=Ui k2128 c0;refine NB fl [5,0,1,2,3,4] rfl dp (by rfl) (ps:=[G]) (F:=[N29,sg pb _,D19,A3,B3]) rfl (b7 (N:=ts.length) (by omega) (hG.le (Ui k1728 c0)) e5 (gf.le k2129) et) fun v30 i1 qs eh cB hq=>?_;obtain⟨G30,rfl,gc⟩:=hq;simp only[Z3]at eh |-;apply RG;simp only[go_sem,iv,pt,sD,rD,f1'];refine ab eh [2,3,4,5,1,0] rfl fun eg=>?_;simp only[Z4]at eg |-;refine dA (j+1,m3,.slice wa ((l1++([⟨19,x.text,x.at',slot,aa'.l,y.cond⟩]:List Nd)).length+1) wc,v30,dv19) _ _ (by simp only;omega) (ae (by simp only[go_sem,Tq,iv,pt,sD,rD])) (by simp only[go_sem,Tq,Pn,iv,sD,rD]) ⟨i1,D19,N29,G30,_,_,_,rfl,eg,Ui c3 (Ui k1728 (Ui c0 cB)),d9,by simp only;omega,d5,br.le f0 cB,.inl (List.cons_ne_nil _ _),?_,gc,e5.joinAll et,by simpa[Te]using gq.le (Ui k1921 (Ui k2129 cB))⟩
   simp only[SB,Tu,S9]at dT |-;unfold aF;omega
  ·have hO:j=xs.length:=by omega
   subst hO;have g4:=Z6 xs.length;rw[T4]at ep;obtain⟨rfl,rfl,rfl⟩:=Df ep;apply RG;simp only[go_sem,g4,iv,pt,sD,rD];refine ab d1 [4,0,1,2,3,5] rfl fun cn=>?_;simp only[Z4]at cn |-;refine ag cn fun g7 cn bd f3=>?_;have ga:db g7 vn c.l:=br.sl f5 bd f3;refine ab cn [4,0,1,2,3] rfl fun cc=>?_;simp only[Z4]at cc |-;refine ag cc fun hC cc b4 gj=>?_;have es:du hC vg c.f:=gP.sl hG (Ui bd b4) gj;have k1719:=Ui bd b4;have k319:=Ui fa k1719;refine ab cc [2,0,1,3] rfl fun cb=>?_;simp only[Z4]at cb |-;refine aY cb (by exact cT) (br.le hA k319) (db.le ga b4) (fun{I J c a} h k=>aW.le h k) (fun{I} c a h=>aW.len c a h) (fun{I} c a h=>aW.ones h) rfl rfl rfl rfl (by first|omega|(simp only[SB,S9];omega)) (by unfold maxLen;first|omega|(simp only[SB,S9];omega)) fun na nc hz A21 cm bx g1=>?_;apply RG;simp only[go_sem,iv,pt,sD,rD];refine NB cm [3,0,1,2] rfl dp (by rfl) (ps:=[B3]) (F:=[A21,sg pb _,D17]) rfl (b7 (N:=ts.length) (by omega) (gP.le hB (Ui k319 bx)) a9 (es.le bx) e5) fun v22 i4 qs ca ds hq=>?_;obtain⟨B22,rfl,ez⟩:=hq;obtain⟨ta,tc,rfl⟩:=ez.shape;simp only[Z3]at ca |-;apply RG;simp only[go_sem,iv,pt,sD,rD,c9];refine ab ca [2,3,1,0] rfl fun el=>?_;simp only[Z4]at el |-;have k1722:=Ui k1719 (Ui bx ds)
   refine a6 (i+1,.slice na (ri.l++c.l).length nc,.slice ta (Syn.joinAll ri.f c.f).length tc,dw) _ _ (by simp only;omega) (ae (by simp only[go_sem,Tq,iv,pt])) (by simp only[go_sem,Tq,Dw]) ⟨i4,D17,A21,B22,_,rfl,el,Ui a7 (Ui fa k1722),cA,b0,by simpa[Te]using gr.le k1722,br.le g1 ds,ez,a9.joinAll e5,by simp only[Tu];unfold aF;exact cf⟩
 ·have hR:i=cj.length:=by omega
  subst hR;have g6:=Z6 cj.length;rw[T4]at e3;cases e3
  apply RG;simp only[go_sem,g6,iv,pt];exact ai rfl cr (r:=[va,vb]) rfl (Ui d0 a7) ⟨_,D3,[A3,B3],rfl,hE,⟨A3,B3,va,vb,rfl,rfl,hA,hB⟩,a9,e4⟩
end
open Go Go.Sx Dg Syn
section
variable {pb:Nat} {ts:List Tok} {lv fv ov:Value}
theorem uW:∀n,iE pb ts lv fv ov n
 |0=>fun m hm=>absurd hm (Nat.not_lt_zero _)
 |n+1=>fun m hm x r hr=>by
  have ih:=uW n;rcases Sw m n with aa|ac
  ·exact ih m aa x r hr
  have:m=n:=by omega
  subst this;cases x with
  |line=>exact MI ih hr
  |unary=>exact JK ih hr
  |inside=>exact GC ih hr
  |listed=>exact E5 ih hr
  |behind=>exact GX ih hr
  |vrb=>exact AG ih hr
  |function=>exact Ae ih hr
  |block=>exact HZ ih hr
  |stmt=>exact L8 ih hr
  |branch=>exact Gl ih hr
  |_=>trivial
theorem yr{o:Nat}(ho:o<=64){d:T}{r:Syn.bE}{n:Nat}(hr:Syn.run ts n (.seqL true o [(0,d)] [] [])=some r){I D:PH}{dv:Value}{da:Option Addr}{dk:Nat}{e:List bX}(h:vF I ts lv fv)(ac:cu I (.agg #[sD da dk d,rD d]) d)(aa:d≠ff)(he:dl I D dv e)(hm:e.length+r.e.length<=pY):
  aO Tryz.prog 77 #[pt pb,.agg #[sD da dk d,rD d]] I [sg pb (bD lv fv ov dv o),D] (PP pb lv fv ov o (e++r.e) (MW ts r)):=
 DE (uW n) ho hr h ac aa he hm
end
end Go.Proofs.YtfaclfkpnmcmlaaGreatDoor
namespace Syn
open Dg
mutual
def nN:Nd->Prop
 |⟨_,_,_,_,ks,d⟩=>d.ok 0/\d≠ff/\(∀m∈ks,Qw m.cond d)/\(ks.map Nd.key).Pairwise (fun a b=>E4 a b=true)/\nA ks
def nA:List Nd->Prop
 | []=>True
 |n::l=>nN n/\nA l
end
open Dg
def bX.key(d:bX):Int×Nat:=(d.tok,d.code)
def Pp(l:List Tr):Tr:=⟨kH (eX (l.flatMap (·.kids))) (l.flatMap (·.kids)),yA (l.flatMap (·.diags))⟩
end Syn
namespace Go.Proofs.YtfaclfkpnmcmlaaGreatDoor
open Go Go.Sx Dg Syn
theorem xy:aP Tryz.prog 161:=⟨_,Tryz.func161,rfl,rfl⟩
theorem HK:aP Tryz.prog 162:=⟨_,Tryz.func162,rfl,rfl⟩
theorem Jv:aP Tryz.prog 226:=⟨_,Tryz.func226,rfl,rfl⟩
theorem JE:aP Tryz.prog 227:=⟨_,Tryz.func227,rfl,rfl⟩
theorem BV:aP Tryz.prog 232:=⟨_,Tryz.func232,rfl,rfl⟩
theorem BO:aP Tryz.prog 233:=⟨_,Tryz.func233,rfl,rfl⟩
theorem Cb:aP Tryz.prog 281:=⟨_,Tryz.func281,rfl,rfl⟩
theorem Bz:aP Tryz.prog 282:=⟨_,Tryz.func282,rfl,rfl⟩
theorem Cr:aP Tryz.prog 160:=⟨_,Tryz.func160,rfl,rfl⟩
theorem oB:aP Tryz.prog 145:=⟨_,Tryz.func145,rfl,rfl⟩
theorem IH:aP Tryz.prog 149:=⟨_,Tryz.func149,rfl,rfl⟩
theorem JO:aP Tryz.prog 148:=⟨_,Tryz.func148,rfl,rfl⟩
theorem AV:aP Tryz.prog 93:=⟨_,Tryz.func93,rfl,rfl⟩
theorem bv.keep{P:Program}{f:FuncId}{args:Array Value}{I:PH}{w:Value}(h:bv P f args I fun v H2=>v=w/\H2=I):aO P f args I [] fun v I2 qs=>qs=[]/\v=w:=
 bv.toI (h.mono fun v H2 ⟨e1,e2⟩=>⟨by rw[e2];exact Uj _,e1⟩)
def iC(a b:Int):Int:=if a<b then -1 else if b<a then 1 else 0
def z7(a b:bM):Int:=if vj a b=true then -1 else if vj b a=true then 1 else 0
theorem ly:∀(a b:bM),Op.bytesLess a b=vj a b
 |_,[]=>by simp[Op.bytesLess,vj]
 | [],_::_=>rfl
 |x::a,y::b=>by
  have ih:=ly a b;simp only[Op.bytesLess,vj,ih];by_cases h1:x.toNat<y.toNat
  ·have:x<y:=h1;simp[h1,this]
  ·have n1:¬x<y:=h1;by_cases h2:y.toNat<x.toNat
   ·have:(x == y)=false:=by
     rw[Uf];intro e;rw[e]at h2;exact Nat.lt_irrefl _ h2
    simp[h1,h2,n1,this]
   ·have e:x=y:=UInt8.toNat_inj.1 (by omega);subst e;simp[h1]
theorem zf(a:Int)(H:PH):bv Tryz.prog 232 #[.int .i64 a] H fun v H2=>v=.bool false/\H2=H:=by
 refine bK Tryz.func232 rfl (by simp[Tryz.ntmps232]) fun w0=>?_;simp only[Tryz.ntmps232];apply RG;simp only[go_sem,bne_self_eq_false];exact aK (r:=[_]) rfl ⟨rfl,rfl⟩
theorem uY(a:Int)(H:PH):bv Tryz.prog 233 #[.int .u8 a] H fun v H2=>v=.bool false/\H2=H:=by
 refine bK Tryz.func233 rfl (by simp[Tryz.ntmps233]) fun w0=>?_;simp only[Tryz.ntmps233];apply RG;simp only[go_sem,bne_self_eq_false];exact aK (r:=[_]) rfl ⟨rfl,rfl⟩
theorem BR(a:Int)(H:PH):bv Tryz.prog 281 #[.int .u8 a] H fun v H2=>v=.bool false/\H2=H:=by
 refine bK Tryz.func281 rfl (by simp[Tryz.ntmps281]) fun w0=>?_;simp only[Tryz.ntmps281];apply RG;simp only[go_sem,bne_self_eq_false];exact aK (r:=[_]) rfl ⟨rfl,rfl⟩
theorem zr(a:bM)(H:PH):bv Tryz.prog 282 #[.string ⟨⟨a⟩⟩] H fun v H2=>v=.bool false/\H2=H:=by
 refine bK Tryz.func282 rfl (by simp[Tryz.ntmps282]) fun w0=>?_;simp only[Tryz.ntmps282];apply RG;simp only[go_sem,bne_self_eq_false];exact aK (r:=[_]) rfl ⟨rfl,rfl⟩
theorem tK(a b:Int)(H:PH):bv Tryz.prog 161 #[.int .i64 a,.int .i64 b] H fun v H2=>v=.int .i64 (iC a b)/\H2=H:=by
 refine Ot Tryz.func161 rfl fun w0=>?_;simp only[Tryz.ntmps161];apply RG;simp only[go_sem];refine Pf rfl BV (zf a H) fun v H2 hv=>?_;obtain⟨rfl,rfl⟩:=hv;apply RG;simp only[go_sem];refine Pf rfl BV (zf b H2) fun v H3 hv=>?_;obtain⟨rfl,rfl⟩:=hv;by_cases h1:a<b
 ·have q1:decide (a<b)=true:=Uh h1;apply RG;simp only[go_sem,q1];exact aK (r:=[_]) rfl ⟨by simp[iC,h1,eN],rfl⟩
 ·have q1:decide (a<b)=false:=Ug h1;by_cases h2:b<a
  ·have q2:decide (a>b)=true:=Uh h2;apply RG;simp only[go_sem,q1,q2,TS,T7];exact aK (r:=[_]) rfl ⟨by simp[iC,h1,h2,eN],rfl⟩
  ·have q2:decide (a>b)=false:=Ug h2;apply RG;simp only[go_sem,q1,q2,TS,Ud];exact aK (r:=[_]) rfl ⟨by simp[iC,h1,h2,eN],rfl⟩
theorem CQ(a b:Int)(H:PH):bv Tryz.prog 162 #[.int .u8 a,.int .u8 b] H fun v H2=>v=.int .i64 (iC a b)/\H2=H:=by
 refine Ot Tryz.func162 rfl fun w0=>?_;simp only[Tryz.ntmps162];apply RG;simp only[go_sem];refine Pf rfl BO (uY a H) fun v H2 hv=>?_;obtain⟨rfl,rfl⟩:=hv;apply RG;simp only[go_sem];refine Pf rfl BO (uY b H2) fun v H3 hv=>?_;obtain⟨rfl,rfl⟩:=hv;by_cases h1:a<b
 ·have q1:decide (a<b)=true:=Uh h1;apply RG;simp only[go_sem,q1];exact aK (r:=[_]) rfl ⟨by simp[iC,h1,eN],rfl⟩
 ·have q1:decide (a<b)=false:=Ug h1;by_cases h2:b<a
  ·have q2:decide (a>b)=true:=Uh h2;apply RG;simp only[go_sem,q1,q2,TS,T7];exact aK (r:=[_]) rfl ⟨by simp[iC,h1,h2,eN],rfl⟩
  ·have q2:decide (a>b)=false:=Ug h2;apply RG;simp only[go_sem,q1,q2,TS,Ud];exact aK (r:=[_]) rfl ⟨by simp[iC,h1,h2,eN],rfl⟩
theorem Jn(a b:Int)(H:PH):bv Tryz.prog 226 #[.int .u8 a,.int .u8 b] H fun v H2=>v=.int .i64 (iC a b)/\H2=H:=by
 refine Ot Tryz.func226 rfl fun w0=>?_;simp only[Tryz.ntmps226];apply RG;simp only[go_sem];refine Pf rfl Cb (BR a H) fun v H2 hv=>?_;obtain⟨rfl,rfl⟩:=hv;apply RG;simp only[go_sem];refine Pf rfl Cb (BR b H2) fun v H3 hv=>?_;obtain⟨rfl,rfl⟩:=hv;by_cases h1:a<b
 ·have q1:decide (a<b)=true:=Uh h1;apply RG;simp only[go_sem,q1];exact aK (r:=[_]) rfl ⟨by simp[iC,h1,eN],rfl⟩
 ·have q1:decide (a<b)=false:=Ug h1;by_cases h2:b<a
  ·have q2:decide (a>b)=true:=Uh h2;apply RG;simp only[go_sem,q1,q2,TS,T7];exact aK (r:=[_]) rfl ⟨by simp[iC,h1,h2,eN],rfl⟩
  ·have q2:decide (a>b)=false:=Ug h2;apply RG;simp only[go_sem,q1,q2,TS,Ud];exact aK (r:=[_]) rfl ⟨by simp[iC,h1,h2,eN],rfl⟩
theorem Fl(a b:bM)(H:PH):bv Tryz.prog 227 #[.string ⟨⟨a⟩⟩,.string ⟨⟨b⟩⟩] H fun v H2=>v=.int .i64 (z7 a b)/\H2=H:=by
 refine Ot Tryz.func227 rfl fun w0=>?_;simp only[Tryz.ntmps227];apply RG;simp only[go_sem];refine Pf rfl Bz (zr a H) fun v H2 hv=>?_;obtain⟨rfl,rfl⟩:=hv;apply RG;simp only[go_sem];refine Pf rfl Bz (zr b H2) fun v H3 hv=>?_;obtain⟨rfl,rfl⟩:=hv;by_cases h1:vj a b=true
 ·have q1:Op.bytesLess a b=true:=by rw[ly];exact h1
  apply RG;simp only[go_sem,q1];exact aK (r:=[_]) rfl ⟨by simp[z7,h1,eN],rfl⟩
 ·have q1:Op.bytesLess a b=false:=by rw[ly];simpa using h1
  by_cases h2:vj b a=true
  ·have q2:(a == b)=false:=by rw[Uf];intro e;rw[e,tp.irr]at h2;cases h2
   apply RG;simp only[go_sem,q1,q2,TS,T7];exact aK (r:=[_]) rfl ⟨by simp[z7,h1,h2,eN],rfl⟩
  ·have q2:(a == b)=true:=by rw[beq_iff_eq];exact tp.tri a b (by simpa using h1) (by simpa using h2)
   apply RG;simp only[go_sem,q1,q2,TS,Ud];exact aK (r:=[_]) rfl ⟨by simp[z7,h1,h2,eN],rfl⟩
def wZ:List Int->Int
 | []=>0
 |a::l=>if a=0 then wZ l else a
def Jr(sv:Value)(n:Nat)(i:Nat):St:=⟨dn 18 [(3,.v (.int .i64 0)),(6,.v sv),(7,.v (iv n)),(8,.v (iv i))],[]⟩
theorem OM{H:PH}{b c:Nat}{zs:List Int}(h:aQ H b 0 (zs.map fun z=>.int .i64 z))(hl:zs.length<=100):bv Tryz.prog 160 #[.slice (some ⟨b,0,none⟩) zs.length c] H fun v H2=>v=.int .i64 (wZ zs)/\H2=H:=by
 refine Ot Tryz.func160 rfl fun w0=>?_;simp only[Tryz.ntmps160];apply RG;simp only[go_sem];refine aB (fun x=>zs.length-x) (Jr (.slice (some ⟨b,0,none⟩) zs.length c) zs.length) (fun i H2=>H2=H/\i<=zs.length/\wZ (zs.drop i)=wZ zs) 0 (ae (by simp only[go_sem,Tq,iv])) (by simp only[go_sem,Tq,Jr]) ⟨rfl,S6 _,rfl⟩ ?_;rintro i H2 ⟨rfl,hi,hz⟩ ac;simp only[Jr];rcases Sw i zs.length with aj|an
 ·have h9:decide ((i:Int)<(zs.length:Int))=true:=by simp;omega
  have e1:=wrap64 (n:=i+1) (by omega);have am:IntKind.i64.wrap ((i:Int)+1)=((i+1:Nat):Int):=by rw[<-e1];congr 1
  obtain⟨z,hg⟩:∃z,zs[i]?=some z:=⟨_,SC aj⟩;have hd:zs.drop i=z::zs.drop (i+1):=by
   rw[S5 aj];rw[SC aj]at hg;rw[Tk hg]
  have aa:=h.sub i 1 (by simp;omega);have hm:((zs.map fun z=>Value.int .i64 z).drop i).take 1=[.int .i64 z]:=by
   rw[<-List.map_drop,hd];rfl
  rw[hm,Sf]at aa;rw[hd]at hz;apply RG;simp only[go_sem,h9,iv];refine⟨by omega,?_⟩;refine Qz (l:=[.int .i64 z]) rfl (by simpa using aa) (.inr ⟨mF,rfl⟩) ?_;by_cases h0:z=0
  ·have q:(z != 0)=false:=by simp[h0]
   apply RG;simp only[go_sem,iv,q,am];exact ac (i+1) _ _ (by omega) (ae (by simp only[go_sem,Tq,iv])) (by simp only[go_sem,Tq,Jr]) ⟨rfl,aj,by rw[<-hz];simp[wZ,h0]⟩
  ·have q:(z != 0)=true:=by simp[h0]
   apply RG;simp only[go_sem,iv,q];exact aK (r:=[_]) rfl ⟨by rw[<-hz];simp[wZ,h0,eN],rfl⟩
 ·have ak:i=zs.length:=by omega
  subst ak;have h9:=Z6 zs.length;rw[T4]at hz;apply RG;simp only[go_sem,h9,iv];exact aK (r:=[_]) rfl ⟨by rw[<-hz];rfl,rfl⟩
theorem yz(k t o g:Int)(x:bM)(ea fa:Option Addr)(en ec fn fc:Nat)(H:PH):bv Tryz.prog 145 #[.agg #[.int .u8 k,.string ⟨⟨x⟩⟩,.int .i64 t,.int .i64 o,.slice ea en ec,.slice fa fn fc,.int .i64 g]] H fun v H2=>v=.agg #[.int .i64 o,.int .i64 t,.int .u8 k,.string ⟨⟨x⟩⟩]/\H2=H:=by
 refine Ot Tryz.func145 rfl fun w0=>?_;simp only[Tryz.ntmps145];apply RG;simp only[go_sem];exact aK (r:=[.agg #[.int .i64 o,.int .i64 t,.int .u8 k,.string ⟨⟨x⟩⟩]]) (by simp only[Tryz.results145,go_sem]) ⟨rfl,rfl⟩
def LQ(x y:nL):Int:=wZ [iC x.slot y.slot,iC x.tok y.tok,iC x.kind y.kind,z7 x.text y.text]
def nJ(k:nL):Value:=.agg #[.int .i64 k.slot,.int .i64 k.tok,.int .u8 k.kind,.string ⟨⟨k.text⟩⟩]
theorem JH(x y:nL):decide (LQ x y<0)=E4 x y:=by
 unfold LQ E4 iC z7 wZ wZ wZ wZ wZ;by_cases a1:x.slot<y.slot
 ·simp[a1]
 ·by_cases a2:y.slot<x.slot
  ·simp[a1,a2]
  ·by_cases b1:x.tok<y.tok
   ·simp[a1,a2,b1]
   ·by_cases b2:y.tok<x.tok
    ·simp[a1,a2,b1,b2]
    ·by_cases c1:x.kind<y.kind
     ·simp[a1,a2,b1,b2,c1]
     ·by_cases c2:y.kind<x.kind
      ·simp[a1,a2,b1,b2,c1,c2]
      ·cases d1:vj x.text y.text<;>cases d2:vj y.text x.text<;>simp[a1,a2,b1,b2,c1,c2]
theorem D0(x y:nL)(I:PH):aO Tryz.prog 149 #[nJ x,nJ y] I [] fun v I2 qs=>qs=[]/\v=.int .i64 (LQ x y):=by
 intro hd;refine Ot Tryz.func149 rfl fun w0=>?_;simp only[Tryz.ntmps149,nJ];apply RG;simp only[go_sem];refine ax mixed [0,1,2,3,5,6,7,8,10,11,12,13,15,16,17,18,4,9,14,19,20,21,22] [] [] rfl rfl ?_;apply af;simp only[go_sem];refine Og hd [] rfl (fun h=>by cases h) rfl xy (by rfl) (ps:=[]) (F:=[]) rfl (bv.keep (tK x.slot y.slot I)) fun v I2 qs a1 an hq=>?_;obtain⟨rfl,rfl⟩:=hq;simp only[Z3]at a1 |-;apply af;simp only[go_sem];refine Og a1 [] rfl (fun h=>by cases h) rfl xy (by rfl) (ps:=[]) (F:=[]) rfl (bv.keep (tK x.tok y.tok I2)) fun v I3 qs a0 am hq=>?_;obtain⟨rfl,rfl⟩:=hq;simp only[Z3]at a0 |-;apply af;simp only[go_sem];refine Og a0 [] rfl (fun h=>by cases h) rfl Jv (by rfl) (ps:=[]) (F:=[]) rfl (bv.keep (Jn x.kind y.kind I3)) fun v I4 qs aS ak hq=>?_;obtain⟨rfl,rfl⟩:=hq;simp only[Z3]at aS |-;apply af;simp only[go_sem];refine Og aS [] rfl (fun h=>by cases h) rfl JE (by rfl) (ps:=[]) (F:=[]) rfl (bv.keep (Fl x.text y.text I4)) fun v I5 qs ap aj hq=>?_;obtain⟨rfl,rfl⟩:=hq;simp only[Z3]at ap |-;apply af;simp only[go_sem];refine aZ ap (by exact qX) rfl rfl rfl rfl rfl (by decide) fun nb I6 a3 ac a2=>?_;apply af;simp only[go_sem];refine Og a3 [] rfl (fun h=>by cases h) rfl Cr (by rfl) (ps:=[]) (F:=[]) rfl (bv.keep (OM (zs:=[iC x.slot y.slot,iC x.tok y.tok,iC x.kind y.kind,z7 x.text y.text]) (az a2 (by simp[aE,Value.cells]) (by simp[aE,Value.cells])) (by simp))) fun v I7 qs ao aa hq=>?_;obtain⟨rfl,rfl⟩:=hq;simp only[Z3]at ao |-;apply af;simp only[go_sem];refine aw ?_;apply RG;simp only[go_sem];exact ai rfl ao (r:=[_]) rfl (Ui an (Ui am (Ui ak (Ui aj (Ui ac aa))))) ⟨rfl,rfl⟩
def jT{α:Type}(R:PH->List Value->α->Prop)(lt:α->α->Bool)(vc:Value):Prop:=
 ∃f first cap,vc=.func (.func f) first cap/\aP Tryz.prog f/\∀(J:PH) (x y:α) (cx cy:List Value),R J cx x->R J cy y->
  aO Tryz.prog f (first++[Value.agg cx.toArray,Value.agg cy.toArray].toArray++cap) J [] fun v I2 qs=>qs=[]/\∃z:Int,v=.int .i64 z/\decide (z<0)=lt x y
def cz(x y:Nd):Bool:=E4 x.key y.key
theorem CX{J:PH}{x y:Nd}{cx cy:List Value}(hx:aW J cx x)(hy:aW J cy y):aO Tryz.prog 148 #[.agg cx.toArray,.agg cy.toArray] J [] fun v I2 qs=>qs=[]/\∃z:Int,v=.int .i64 z/\decide (z<0)=cz x y:=by
 intro hd;obtain⟨kv,na,nk,rfl,a1,ac,a2⟩:=hx.shape;obtain⟨kv2,na2,nk2,rfl,an,aa,a0⟩:=hy.shape;obtain⟨ka,kc,rfl,_⟩:=ac;obtain⟨ka2,kc2,rfl,_⟩:=aa;refine Ot Tryz.func148 rfl fun w0=>?_;simp only[Tryz.ntmps148,sD,rD,iv];apply RG;simp only[go_sem];refine ax mixed [0,2,1,3,4,5] [] [] rfl rfl ?_;apply af;simp only[go_sem];refine Og hd [] rfl (fun h=>by cases h) rfl oB (by rfl) (ps:=[]) (F:=[]) rfl (bv.keep (yz _ _ _ _ _ _ _ _ _ _ _ J)) fun v I2 qs aS am hq=>?_;obtain⟨rfl,rfl⟩:=hq;simp only[Z3]at aS |-;apply af;simp only[go_sem];refine Og aS [] rfl (fun h=>by cases h) rfl oB (by rfl) (ps:=[]) (F:=[]) rfl (bv.keep (yz _ _ _ _ _ _ _ _ _ _ _ I2)) fun v I3 qs ap ak hq=>?_;obtain⟨rfl,rfl⟩:=hq;simp only[Z3]at ap |-;apply af;simp only[go_sem];refine Og ap [] rfl (fun h=>by cases h) rfl IH (by rfl) (ps:=[]) (F:=[]) rfl (D0 x.key y.key I3) fun v I4 qs ao aj hq=>?_;obtain⟨rfl,rfl⟩:=hq;simp only[Z3]at ao |-;apply af;simp only[go_sem];refine aw ?_;apply RG;simp only[go_sem];exact ai rfl ao (r:=[_]) rfl (Ui am (Ui ak aj)) ⟨rfl,_,rfl,JH _ _⟩
theorem NJ:jT aW cz (.func (.func 148) #[] #[]):=⟨148,#[],#[],rfl,JO,fun J x y cx cy hx hy=>CX hx hy⟩
def uU(x y:bX):Int:=wZ [iC x.tok y.tok,iC x.code y.code]
def g9(x y:bX):Bool:=tS x.key y.key
theorem Ge(x y:bX):decide (uU x y<0)=g9 x y:=by
 unfold uU g9 tS iC wZ wZ wZ bX.key;by_cases a1:x.tok<y.tok
 ·simp[a1]
 ·by_cases a2:y.tok<x.tok
  ·simp[a1,a2]
  ·by_cases b1:x.code<y.code
   ·simp[a1,a2,b1]
   ·by_cases b2:y.code<x.code<;>simp[a1,a2,b1,b2]
theorem yT(x y:bX):(uU x y == 0)=decide (x.key=y.key):=by
 unfold uU iC wZ wZ wZ bX.key;by_cases a1:x.tok<y.tok
 ·have:x.tok≠y.tok:=by omega
  simp[a1,this]
 ·by_cases a2:y.tok<x.tok
  ·have:x.tok≠y.tok:=by omega
   simp[a1,a2,this]
  ·have e:x.tok=y.tok:=by omega
   by_cases b1:x.code<y.code
   ·have:x.code≠y.code:=by omega
    simp[b1,this,e]
   ·by_cases b2:y.code<x.code
    ·have:x.code≠y.code:=by omega
     simp[b1,b2,this,e]
    ·have e2:x.code=y.code:=by omega
     simp[e,e2]
theorem wh{I:PH}{x y:bX}{cx cy:List Value}(hx:dg I cx x)(hy:dg I cy y):aO Tryz.prog 93 #[.agg cx.toArray,.agg cy.toArray] I [] fun v I2 qs=>qs=[]/\v=.int .i64 (uU x y):=by
 intro hd;obtain⟨a1,k1,rfl,h1⟩:=hx;obtain⟨a2,k2,rfl,h2⟩:=hy;refine Ot Tryz.func93 rfl fun w0=>?_;simp only[Tryz.ntmps93,sD,rD,iv];apply RG;simp only[go_sem];refine ax mixed [0,1,2,3,5,6,7,8,4,9,10,11,12] [] [] rfl rfl ?_;apply af;simp only[go_sem];refine Og hd [] rfl (fun h=>by cases h) rfl xy (by rfl) (ps:=[]) (F:=[]) rfl (bv.keep (tK x.tok y.tok I)) fun v I2 qs ao ak hq=>?_;obtain⟨rfl,rfl⟩:=hq;simp only[Z3]at ao |-;apply af;simp only[go_sem];refine Og ao [] rfl (fun h=>by cases h) rfl HK (by rfl) (ps:=[]) (F:=[]) rfl (bv.keep (CQ x.code y.code I2)) fun v I3 qs an aj hq=>?_;obtain⟨rfl,rfl⟩:=hq;simp only[Z3]at an |-;apply af;simp only[go_sem];refine aZ an (by exact qX) rfl rfl rfl rfl rfl (by decide) fun nb I6 aS ac ap=>?_;apply af;simp only[go_sem];refine Og aS [] rfl (fun h=>by cases h) rfl Cr (by rfl) (ps:=[]) (F:=[]) rfl (bv.keep (OM (zs:=[iC x.tok y.tok,iC x.code y.code]) (az ap (by simp[aE,Value.cells]) (by simp[aE,Value.cells])) (by simp))) fun v I7 qs am aa hq=>?_;obtain⟨rfl,rfl⟩:=hq;simp only[Z3]at am |-;apply af;simp only[go_sem];refine aw ?_;apply RG;simp only[go_sem];exact ai rfl am (r:=[_]) rfl (Ui ak (Ui aj (Ui ac aa))) ⟨rfl,rfl⟩
theorem Om:jT dg g9 (.func (.func 93) #[] #[]):=⟨93,#[],#[],rfl,AV,fun J x y cx cy hx hy=>(wh hx hy).mono fun v I2 qs _ ⟨e1,e2⟩=>⟨e1,_,e2,Ge x y⟩⟩
end Go.Proofs.YtfaclfkpnmcmlaaGreatDoor
namespace Syn
open Dg
mutual
def QO:Nd->Nat
 |⟨_,_,_,_,ks,_⟩=>cK ks+1
def cK:List Nd->Nat
 | []=>0
 |n::l=>QO n+cK l
end
theorem Mr(n:Nd):QO n=cK n.kids+1:=by cases n;rfl
theorem cR:cK []=0:=rfl
theorem a8(n:Nd)(l:List Nd):cK (n::l)=cK n.kids+1+cK l:=by rw[cK,Mr]
theorem fB:∀(a b:List Nd),cK (a++b)=cK a+cK b
 | [],b=>by simp[cK]
 |n::a,b=>by rw[SS,a8,a8,fB a b];omega
theorem oE{n:Nd}:∀{l:List Nd},n∈l->cK n.kids+1<=cK l
 | [],h=>(SW h).elim
 |m::l,h=>by
  rw[a8];rcases List.mem_cons.1 h with e|e
  ·subst e;omega
  ·have:=oE e;omega
theorem gw:∀(l:List Nd),l.length<=cK l
 | []=>R7 _
 |n::l=>by rw[a8,SB];have:=gw l;omega
theorem dL{l ks:List Nd}(h:l.length<=1):cK (give l ks)<=cK l+cK ks:=by
 match l,h with
 | [],_=>simp[give,cK]
 | [n],_=>show cK [_]<=_;rw[a8,a8,cR];show cK (n.kids++ks)+1+0<=_;rw[fB];omega
theorem bI(l ks:List Nd):(give l ks).length=l.length:=by simp[give]
theorem uQ:∀(l:List Nd),cK (ow l)=cK l
 | []=>rfl
 |n::l=>by
  show cK (_::ow l)=_;rw[a8,a8,uQ l]
section
variable (N:Nat)
def lf:Option Nat->Nat
 |none=>0
 |some p=>N+1-p
theorem im:lf N none=0:=rfl
theorem fW(p:Nat):lf N (some p)=N+1-p:=rfl
theorem KN(x y:Option Nat):lf N (x.or y)<=lf N x+lf N y:=by cases x<;>simp[lf]
theorem Bw(x:Option Nat):lf N (x.map (·+1))<=lf N x:=by
 cases x with
 |none=>exact R7 _
 |some p=>simp only[So,lf];omega
end
section
variable {c:cg} {ts:List Tok}
theorem o7(p:Option Nat):lf ts.length (p.map (nx c ts))<=lf ts.length p:=by
 cases p with
 |none=>exact R7 _
 |some p=>have:=EN c ts p;simp only[So,lf];omega
theorem iP(p:Option Nat)(is:Nat->Bool):lf ts.length (ir c ts p is)+lf ts.length (ir c ts p fun i=>!is i)<=lf ts.length p:=by
 refine R8 ?_ (o7 (c:=c) p);unfold ir;cases p.map (nx c ts)with
 |none=>exact R7 _
 |some i=>cases h:is i<;>simp[Option.filter,h,lf]
theorem yY{p:Option Nat}{is:Nat->Bool}{i:Nat}(h:ir c ts p is=some i):is i=true:=by
 unfold ir at h;exact(Option.filter_eq_some_iff.1 h).2
theorem kC{i:Nat}(h:X ts i≠[]):i<ts.length:=by
 rcases Sw i ts.length with h2|h2
 ·exact h2
 ·exact absurd (by unfold X cL;rw[SF h2]) h
theorem DJ{i:Nat}(h:K ts i≠0):i<ts.length:=by
 rcases Sw i ts.length with h2|h2
 ·exact h2
 ·exact absurd (by unfold K cL;rw[SF h2]) h
theorem il(p:Option Nat)(s:bM):lf ts.length (cX ts c p s).1<=lf ts.length p:=by
 refine R8 ?_ (o7 (c:=c) p);unfold cX;cases p.map (nx c ts)with
 |none=>exact R7 _
 |some i=>
  simp only;split
  ·simp only[lf];omega
  ·exact S6 _
theorem mp(p:Option Nat)(kind slot:Nat):cK (bC ts c p kind slot).l+lf ts.length (bC ts c p kind slot).p<=lf ts.length p/\(bC ts c p kind slot).l.length<=1:=by
 have h0:=o7 (c:=c) (ts:=ts) p;unfold bC;cases e:p.map (nx c ts)with
 |none=>exact⟨S6 _,S6 _⟩
 |some i=>
  rw[e]at h0;simp only;split
  ·exact⟨S6 _,S6 _⟩
  ·rename_i h;have:i<ts.length:=DJ fun h2=>h (.inl (by rw[h2];decide));refine⟨?_,R7 _⟩;simp only[a8,cR,lf]at *;omega
theorem sR(p:Option Nat)(slot:Nat):cK (gE ts c p slot).l+lf ts.length (gE ts c p slot).p<=lf ts.length p:=by
 have h0:=o7 (c:=c) (ts:=ts) p;unfold gE;cases e:p.map (nx c ts)with
 |none=>exact S6 _
 |some i=>
  rw[e]at h0;simp only;split
  ·exact S6 _
  ·rename_i h;have:i<ts.length:=kC fun h2=>h (by rw[h2];exact⟨by decide,by decide⟩);simp only[a8,cR,lf]at *;omega
theorem rF{kind:Nat}{i:Option Nat}{slot:Nat}(h:∀j,i=some j->j<ts.length):cK (je kind i slot)+lf ts.length (i.map (·+1))<=lf ts.length i/\(je kind i slot).length<=1:=by
 cases i with
 |none=>exact⟨R7 _,S6 _⟩
 |some j=>
  have:=h j rfl;refine⟨?_,R7 _⟩;show cK [_]+_<=_;simp only[a8,cR,So,lf];omega
def wt(N:Nat):jj->Nat
 | .line _ _ p _=>lf N p
 | .lineL _ _ _ _ l g out=>cK l+(lf N g+lf N out)
 | .lineO _ _ _ op l g=>cK l+(lf N op+lf N g)
 | .unary _ p _=>lf N p
 | .unaryH _ i _=>lf N i
 | .calls _ _ _ x names g=>cK names+(lf N x+lf N g)
 | .inside _ p _=>lf N p
 | .listed _ _ p=>lf N p
 | .listL _ _ l g fin=>cK l+(lf N g+lf N fin)
 | .item _ _ p=>lf N p
 | .behind _ _ p _ _=>lf N p
 | .vrb _ p=>lf N p
 | .function _ p=>lf N p
 | .block _ p _=>lf N p
 | .seqL _ _ p l out=>cK l+(lf N p+lf N out)
 | .stmt _ i=>lf N i
 | .sCalls _ _ x l g=>cK l+(lf N x+lf N g)
 | .branch _ i _=>lf N i
 | .elses _ x l out=>cK l+(lf N x+lf N out)
 | .ifs _ y l out=>cK l+(lf N y+lf N out)
def Lt(N:Nat)(x:Option Nat):Prop:=∀j,x=some j->j<N
def Od(N:Nat):jj->Prop
 | .lineO _ _ _ op _ _=>Lt N op
 | .calls _ _ _ x _ _=>Lt N x
 | .sCalls _ _ x _ _=>Lt N x
 | .branch _ i _=>Lt N i
 | .elses _ _ l _=>l.length<=1
 | .ifs _ y l _=>l.length<=1/\Lt N y
 |_=>True
def Mv(N:Nat):jj->PR->Prop
 | .listed _ _ p,q=>∀j,p=some j->j<N->cK q.l+lf N q.p+1<=lf N p
 |_,_=>True
def PC(N:Nat)(x:jj)(q:PR):Prop:=cK q.l+lf N q.p<=wt N x/\Mv N x q
theorem Ca{p:Option Nat}{s:bM}(hs:s≠[]):Lt ts.length (ir c ts p (f6 ts s)):=fun j h=>by
 have:=yY h;simp only[f6,SX]at this;exact kC (by rw[this];exact hs)
theorem EQ{p:Option Nat}{k:Nat}:Lt ts.length (ir c ts p (nu ts k)):=fun j h=>by
 have:=yY h;simp only[nu,SG,SX]at this;exact DJ (by rw[this.1];decide)
theorem Lt.of{i:Nat}(h:i<ts.length):Lt ts.length (some i):=fun j e=>by cases e;exact h
theorem gh{α β:Type}{a:Option α}{f:α->Option β}{q:β}(e:(a >>= f)=some q):∃x,a=some x/\f x=some q:=Option.bind_eq_some_iff.1 e
theorem Dd{rec:o3}(R:∀x q,rec x=some q->Od ts.length x->PC ts.length x q):∀x q,aN c ts rec x=some q->Od ts.length x->PC ts.length x q:=by
 have R1:∀{x q},rec x=some q->Od ts.length x->cK q.l+lf ts.length q.p<=wt ts.length x:=fun h k=>(R _ _ h k).1;intro x q e hi;cases x with
 |line k o p slot=>
  refine⟨?_,trivial⟩;simp only[aN,pd]at e;split at e
  ·have:=R1 e trivial;exact this
  ·obtain⟨a,ea,e⟩:=gh e;obtain⟨b,eb,e⟩:=gh e;cases e
   have h1:=R1 ea trivial;have h2:=R1 eb trivial;simp only[wt,im]at *;omega
 |lineL k o slot first l g out=>
  refine⟨?_,trivial⟩;simp only[aN,nH]at e;cases g with
  |none=>cases e;simp only[wt,im];omega
  |some p=>
   simp only at e;split at e
   ·cases e;simp only[wt];omega
   ·obtain⟨a,ea,e⟩:=gh e;obtain⟨b,eb,e⟩:=gh e;cases e
    have h1:=R1 ea EQ;have h2:=R1 eb trivial;have h3:=iP (c:=c) (ts:=ts) (some p) (nu ts k);simp only[wt,im]at *;omega
 |lineO k o slot op l g=>
  refine⟨?_,trivial⟩;simp only[aN,sE]at e;cases op with
  |none=>cases e;simp only[wt,im];omega
  |some i=>
   obtain⟨a,ea,e⟩:=gh e;cases e
   have h1:=R1 ea trivial;have h2:=hi i rfl;simp only[wt,fW,a8,cR,fB,uQ]at *;omega
 |unary o p slot=>
  refine⟨?_,trivial⟩;have h1:=R1 (x:=.unaryH o (p.map (nx c ts)) slot) e trivial;have h2:=o7 (c:=c) (ts:=ts) p;simp only[wt]at *;omega
 |unaryH o i slot=>
  refine⟨?_,trivial⟩;simp only[aN,fU]at e;cases i with
  |none=>cases e;exact R7 _
  |some i=>
   simp only at e;split at e
   ·rename_i hx;have aa:i<ts.length:=kC (by rcases hx with h|h<;>rw[h]<;>decide);split at e
    ·cases e;exact S6 _
    ·obtain⟨a,ea,e⟩:=gh e;cases e
     have h1:=R1 ea trivial;simp only[wt,fW,a8,cR]at *;omega
   ·split at e
    ·have:=R1 e trivial;exact this
    ·split at e
     ·rename_i hx;have aa:i<ts.length:=DJ (by rw[hx];decide);cases e
      simp only[wt,fW,a8,cR]at *;omega
     ·split at e
      ·rename_i hx;have aa:i<ts.length:=kC (by rcases hx with h|h<;>rw[h]<;>decide);cases e
       simp only[wt,fW,a8,cR]at *;omega
      ·split at e
       ·rename_i hx;have aa:i<ts.length:=kC (by rw[hx];decide);cases e
        simp only[wt,fW,a8,cR]at *;omega
       ·obtain⟨b,eb,e⟩:=gh e;cases e
        have h1:=R1 eb (Ca (by decide));have h2:=(mp (c:=c) (ts:=ts) (some i) 18 slot).1;have h3:=iP (c:=c) (ts:=ts) (bC ts c (some i) 18 slot).p (f6 ts hZ);simp only[wt]at *;omega
 |calls o i slot x names g=>
  refine⟨?_,trivial⟩;simp only[aN,nC]at e;split at e
  ·rename_i i x;obtain⟨a,ea,e⟩:=gh e;cases e
   have h1:=(R _ _ ea trivial).2 x rfl (hi x rfl);simp only[wt,a8,cR]at *;omega
  ·cases e;simp only[wt];omega
 |inside o p slot=>
  refine⟨?_,trivial⟩;simp only[aN,jL]at e;have h0:=o7 (c:=c) (ts:=ts) p;cases hp:p.map (nx c ts)with
  |none=>rw[hp]at e;cases e;exact S6 _
  |some i=>
   rw[hp]at e h0;simp only at e;split at e
   ·cases e;exact S6 _
   ·split at e
    ·cases e;exact S6 _
    ·obtain⟨a,ea,e⟩:=gh e;cases e
     have h1:=R1 ea trivial;have h2:=il (c:=c) (ts:=ts) a.p iI;simp only[wt,fW]at *;omega
 |listed par o p=>
  simp only[aN,jI]at e;have h0:=o7 (c:=c) (ts:=ts) p;cases hp:p.map (nx c ts)with
  |none=>
   rw[hp]at e;cases e;refine⟨S6 _,fun j hj _=>?_⟩;rw[hj]at hp;cases hp
  |some i=>
   rw[hp]at e h0;have hz:∀j,p=some j->j<ts.length->1<=lf ts.length p:=fun j h1 h2=>by rw[h1,fW];omega
   simp only at e;split at e
   ·cases e;exact⟨S6 _,fun j h1 h2=>by simpa[triv,cK,lf]using hz j h1 h2⟩
   ·rename_i hx;split at e
    ·cases e;exact⟨S6 _,fun j h1 h2=>by simpa[triv,cK,lf]using hz j h1 h2⟩
    ·obtain⟨a,ea,e⟩:=gh e;cases e
     have aa:i<ts.length:=kC (by rw[Classical.not_not.1 hx];decide);have h1:=R1 ea trivial;have h2:=il (c:=c) (ts:=ts) a.p iI;have h3:=iP (c:=c) (ts:=ts) (some (i+1)) (f6 ts iI);have key:cK a.l+lf ts.length (cX ts c a.p iI).1+1<=lf ts.length p:=by
      simp only[wt,fW,cR]at *;omega
     exact⟨by simp only[wt];omega,fun _ _ _=>key⟩
 |listL par o l g fin=>
  refine⟨?_,trivial⟩;simp only[aN,tL]at e;cases g with
  |none=>cases e;simp only[wt,im];omega
  |some p=>
   obtain⟨a,ea,e⟩:=gh e;obtain⟨b,eb,e⟩:=gh e;cases e
   have h1:=R1 ea trivial;have h2:=R1 eb trivial;have h3:=iP (c:=c) (ts:=ts) a.p (f6 ts cd);have h4:=Bw ts.length (ir c ts a.p (f6 ts cd));simp only[wt,fB]at *;omega
 |item par o p=>
  refine⟨?_,trivial⟩;simp only[aN,sH]at e;split at e
  ·cases e
   have h1:=mp (c:=c) (ts:=ts) p 4 0;have h2:=il (c:=c) (ts:=ts) (bC ts c p 4 0).p bS;have h3:=sR (c:=c) (ts:=ts) (cX ts c (bC ts c p 4 0).p bS).1 0;have h4:=dL (ks:=(gE ts c (cX ts c (bC ts c p 4 0).p bS).1 0).l) h1.2;have h5:=h1.1;simp only[wt]at *;omega
  ·have:=R1 e trivial;exact this
 |behind typ o p sign slot=>
  refine⟨?_,trivial⟩;simp only[aN,lq]at e;obtain⟨a,ea,e⟩:=gh e;cases e
  have h1:cK a.l+lf ts.length a.p<=lf ts.length ((ir c ts p (f6 ts sign)).map (·+1)):=by
   unfold jc at ea;split at ea
   ·cases ea;exact sR _ _
   ·exact R1 ea trivial
  have h3:=iP (c:=c) (ts:=ts) p (f6 ts sign);have h4:=Bw ts.length (ir c ts p (f6 ts sign));have h5:=KN ts.length (ir c ts p fun i=>!f6 ts sign i) a.p;simp only[wt]at *;omega
 |vrb o p=>
  refine⟨?_,trivial⟩;simp only[aN,iY]at e;obtain⟨d,ed,e⟩:=gh e;cases e
  have h1:=mp (c:=c) (ts:=ts) p 2 0;have h2:=il (c:=c) (ts:=ts) (bC ts c p 2 0).p bS;have h3:=sR (c:=c) (ts:=ts) (cX ts c (bC ts c p 2 0).p bS).1 0;have h4:=dL (ks:=(gE ts c (cX ts c (bC ts c p 2 0).p bS).1 0).l) h1.2;have h5:=h1.1;have h6:=R1 ed trivial;have h7:=dL (l:=give (bC ts c p 2 0).l (gE ts c (cX ts c (bC ts c p 2 0).p bS).1 0).l) (ks:=d.l) (by rw[bI];exact h1.2);have h8:=il (c:=c) (ts:=ts) d.p bl;simp only[wt]at *;omega
 |function o p=>
  refine⟨?_,trivial⟩;simp only[aN,iX]at e;obtain⟨b,eb,e⟩:=gh e;obtain⟨d,ed,e⟩:=gh e;obtain⟨f,ef,e⟩:=gh e;cases e
  have h1:=mp (c:=c) (ts:=ts) p 3 0;have h2:=R1 eb trivial;have h3:=R1 ed trivial;have h4:=R1 ef trivial;have h5:=dL (ks:=b.l) h1.2;have h6:=dL (l:=give (bC ts c p 3 0).l b.l) (ks:=d.l) (by rw[bI];exact h1.2);have h7:=dL (l:=give (give (bC ts c p 3 0).l b.l) d.l) (ks:=f.l) (by rw[bI,bI];exact h1.2);have h8:=h1.1;simp only[wt]at *;omega
 |block o p slot=>
  refine⟨?_,trivial⟩;simp only[aN,mg]at e;have h0:=o7 (c:=c) (ts:=ts) p;cases hp:p.map (nx c ts)with
  |none=>rw[hp]at e;cases e;exact S6 _
  |some i=>
   rw[hp]at e h0;simp only at e;split at e
   ·cases e;exact S6 _
   ·rename_i hx;have aa:i<ts.length:=kC (by rw[Classical.not_not.1 hx];decide);split at e
    ·cases e;exact S6 _
    ·obtain⟨a,ea,e⟩:=gh e;cases e
     have h1:=R1 ea trivial;have h2:=il (c:=c) (ts:=ts) a.p uo;simp only[wt,fW,im,a8,cR]at *;omega
 |seqL top o p l out=>
  refine⟨?_,trivial⟩;simp only[aN,tw]at e;have h0:=o7 (c:=c) (ts:=ts) p;cases hp:p.map (nx c ts)with
  |none=>rw[hp]at e;cases e;simp only[wt];omega
  |some i=>
   rw[hp]at e h0;simp only at e;split at e
   ·cases e;simp only[wt];omega
   ·obtain⟨a,ea,e⟩:=gh e;obtain⟨b,eb,e⟩:=gh e;cases e
    have h1:cK a.l+lf ts.length a.p<=lf ts.length (some i):=by
     unfold my at ea;split at ea
     ·unfold zm at ea;split at ea
      ·have:=R1 ea trivial;simp only[wt,fW]at *;omega
      ·split at ea
       ·have:=R1 ea trivial;simp only[wt,fW]at *;omega
       ·cases ea;exact S6 _
     ·exact R1 ea trivial
    have h2:=R1 eb trivial;simp only[wt,im,fB]at *;omega
 |stmt o i=>
  refine⟨?_,trivial⟩;simp only[aN,lG]at e;cases i with
  |none=>cases e;exact R7 _
  |some i=>
   simp only at e;split at e
   ·have:=R1 e trivial;simp only[wt,fW]at *;omega
   ·split at e
    ·rename_i hx;have:=R1 e (show Od ts.length (.branch o (some i) 0) from Lt.of (kC (by rw[hx];decide)));exact this
    ·split at e
     ·rename_i hx;have aa:i<ts.length:=kC (by rw[hx];decide);obtain⟨a,ea,e⟩:=gh e;obtain⟨b,eb,e⟩:=gh e;cases e
      have h0:=rF (kind:=9) (slot:=0) (Lt.of aa);have h1:=R1 ea trivial;have h2:=R1 eb trivial;have h3:=dL (ks:=a.l) h0.2;have h4:=dL (l:=give (je 9 (some i) 0) a.l) (ks:=b.l) (by rw[bI];exact h0.2);have h5:=h0.1;simp only[wt,So]at *;omega
     ·split at e
      ·have:=R1 e trivial;exact this
      ·split at e
       ·rename_i hx;have aa:i<ts.length:=kC (by rw[hx];decide);obtain⟨a,ea,e⟩:=gh e;cases e
        have h0:=rF (kind:=10) (slot:=0) (Lt.of aa);have h1:=R1 ea trivial;have h3:=dL (ks:=a.l) h0.2;have h5:=h0.1;have h6:=iP (c:=c) (ts:=ts) (some (i+1)) (f6 ts bl);have h7:=KN ts.length a.p (ir c ts (some (i+1)) (f6 ts bl));have h8:=il (c:=c) (ts:=ts) (a.p.or (ir c ts (some (i+1)) (f6 ts bl))) bl;simp only[wt,So]at *;omega
       ·split at e
        ·rename_i hx;have aa:i<ts.length:=kC (by rcases hx with h|h<;>rw[h]<;>decide);obtain⟨a,ea,e⟩:=gh e;cases e
         have h0:=rF (kind:=if X ts i=fe then 12 else 11) (slot:=0) (Lt.of aa);have h1:=R1 ea trivial;have h3:=dL (ks:=a.l) h0.2;have h5:=h0.1;have h8:=il (c:=c) (ts:=ts) a.p bl;simp only[wt,So]at *;omega
        ·obtain⟨b,eb,e⟩:=gh e;obtain⟨d,ed,e⟩:=gh e;cases e
         have h0:=mp (c:=c) (ts:=ts) (some i) 7 0;have h1:=R1 eb trivial;have h2:=R1 ed (Ca (by decide));have h3:=dL (ks:=b.l) h0.2;have h4:=iP (c:=c) (ts:=ts) (bC ts c (some i) 7 0).p (f6 ts hZ);have h5:=il (c:=c) (ts:=ts) (ir c ts (bC ts c (some i) 7 0).p fun i=>!f6 ts hZ i) zJ;have h6:=il (c:=c) (ts:=ts) d.p bl;have h7:=h0.1;simp only[wt]at *;omega
 |sCalls o i x l g=>
  refine⟨?_,trivial⟩;simp only[aN,kS]at e;split at e
  ·rename_i i x;obtain⟨a,ea,e⟩:=gh e;cases e
   have h1:=(R _ _ ea trivial).2 x rfl (hi x rfl);simp only[wt,a8,cR]at *;omega
  ·cases e;simp only[wt];omega
 |branch o i slot=>
  refine⟨?_,trivial⟩;simp only[aN,mB]at e;obtain⟨a,ea,e⟩:=gh e;obtain⟨b,eb,e⟩:=gh e;obtain⟨d,ed,e⟩:=gh e;cases e
  have h0:=rF (kind:=8) (slot:=slot) hi;have h1:=R1 ea trivial;have h2:=R1 eb trivial;have h3:=R1 ed (show (give (give (je 8 i slot) a.l) b.l).length<=1 by rw[bI,bI];exact h0.2);have h4:=dL (ks:=a.l) h0.2;have h5:=dL (l:=give (je 8 i slot) a.l) (ks:=b.l) (by rw[bI];exact h0.2);have h6:=iP (c:=c) (ts:=ts) b.p (f6 ts ip);have h7:=h0.1;simp only[wt]at *;omega
 |elses o x l out=>
  refine⟨?_,trivial⟩;simp only[aN,pD]at e;cases x with
  |none=>cases e;simp only[wt,im];omega
  |some j=>
   obtain⟨a,ea,e⟩:=gh e;obtain⟨b,eb,e⟩:=gh e;cases e
   have h1:=R1 ea trivial;have h2:=R1 eb ⟨by rw[bI];exact hi,Ca (by decide)⟩;have h3:=dL (ks:=a.l) hi;have h4:=iP (c:=c) (ts:=ts) (some (j+1)) (f6 ts ny);simp only[wt,fW]at *;omega
 |ifs o y l out=>
  refine⟨?_,trivial⟩;simp only[aN,Dt]at e;cases y with
  |none=>cases e;simp only[wt,im];omega
  |some j=>
   simp only at e;split at e
   ·cases e;simp only[wt];omega
   ·obtain⟨a,ea,e⟩:=gh e;cases e
    have h1:=R1 ea hi.2;have h3:=dL (ks:=a.l) hi.1;simp only[wt]at *;omega
theorem xZ:∀n x q,hQ c ts n x=some q->Od ts.length x->PC ts.length x q
 |0,x,q,e,_=>by cases e
 |n+1,x,q,e,h=>Dd (fun x q e h=>xZ n x q e h) x q e h
end
def qY(f:cg->Nat):Nat->cg->Nat
 |0,c=>f c
 |n+1,c=>qY f n (wz c n false)+qY f n (wz c n true)
theorem tP{f g h:cg->Nat}(e:∀c,h c=f c+g c):∀(n:Nat) (c:cg),qY h n c=qY f n c+qY g n c
 |0,c=>e c
 |n+1,c=>by simp only[qY,tP e n];omega
theorem xt{f:cg->Nat}{M:Nat}(h:∀c,f c<=M):∀(n:Nat) (c:cg),qY f n c<=2^n*M
 |0,c=>by simpa[qY]using h c
 |n+1,c=>by simp only[qY];have:=xt h n (wz c n false);have:=xt h n (wz c n true);rw[Ty,Nat.mul_assoc,Nat.mul_comm (2^n),Nat.mul_assoc,Nat.mul_comm M];omega
theorem yg(S:cg->Bool):∀(n:Nat) (c:cg),qY (fun c=>(S c).toNat) n c=wx S n c
 |0,c=>rfl
 |n+1,c=>by simp only[qY,wx,yg S n]
mutual
def Rc:Nd->Prop
 |⟨_,_,_,_,ks,d⟩=>d≠ff/\MY ks
def MY:List Nd->Prop
 | []=>True
 |n::l=>Rc n/\MY l
end
theorem BC{c:cg}{d:T}{l:List Nd}(h:wL d l)(hc:d.at' c=false):pL c l=[]:=wJ fun n hn=>by
 cases e:n.cond.at' c with
 |false=>rfl
 |true=>have:=(AR.1 h n hn).1 c e;rw[hc]at this;cases this
theorem sI:∀(l:List Nd) (d:T),fX l->wL d l->MY l->cK l<=qY (fun c=>cK (pL c l)) 24 (fun _=>false)
 | [],_,_,_,_=>S6 _
 |⟨k,t,o,s,ks,e⟩::l,d,ho,hw,hn=>by
  have h1:=sI ks e ho.1.2 hw.1.2 hn.1.2;have h2:=sI l d ho.2 hw.2 hn.2;have h3:=T.card_pos ho.1.1 hn.1.1;have e1:∀c,cK (pL c (⟨k,t,o,s,ks,e⟩::l))=((e.at' c).toNat+cK (pL c ks))+cK (pL c l):=fun c=>by
   rw[bV];cases hc:e.at' c with
   |true=>
    rw[SI rfl,a8];show cK (pL c ks)+1+_=1+cK (pL c ks)+_;omega
   |false=>
    rw[Sb (by decide),BC hw.1.2 hc];show _=0+0+_;omega
  rw[tP e1,tP (fun c=>rfl),yg,a8];unfold T.card at h3;show cK ks+1+cK l<=_;omega
theorem s5:∀(l:List Nd) (d:T),MY (ll d l)
 | [],d=>trivial
 |⟨k,t,o,s,ks,e⟩::l,d=>by
  rw[lQ];split
  ·exact s5 l d
  ·rename_i h;exact⟨⟨h,s5 ks (e.and d)⟩,s5 l d⟩
def LL:Nat:=2^24*16386
theorem Ff{ts:List Tok}(ac:bu ts)(hl:ts.length<=16384){w:T}(hw:w.ok 0)(aj:w≠ff){n:Nat}{r:bE}(e:run ts n (.seqL true 0 [(0,w)] [] [])=some r):cK (lI r)<=LL:=by
 have hr:=gG ac hw aj e (fun _=>false);obtain⟨_,_,RR0⟩:=hr;obtain⟨o1,o2⟩:=xu RR0.fok RR0.lok;by_cases hg:fE r.f=ff
 ·have hc:=(oP (c:=fun _=>false) RR0.fok).1;have e1:ll (fE r.f) r.l=[]:=by
   cases h:ll (fE r.f) r.l with
   |nil=>rfl
   |cons n l=>
    exfalso;obtain⟨a1,a2,a3,_⟩:=ky r.l (fE r.f) hc RR0.lok;rw[h]at a1 a2 a3;have hn:n.cond.ok 0:=(eC.1 a1.1).1;obtain⟨x,hx⟩:=T.some_of_ne hn (a3 n (.head _));have:=a2.1.1 x hx;rw[hg]at this;cases this
  unfold lI;rw[e1];simp only[a8,cR];unfold LL;omega
 have aa:MY (lI r):=⟨⟨hg,s5 _ _⟩,trivial⟩;refine R8 (sI (lI r) tt o1 ⟨⟨fun _ _=>rfl,o2 _ (.head _)⟩,trivial⟩ aa) (xt (fun c=>?_) 24 _);obtain⟨q,hq,R⟩:=gG ac hw aj e c;rw[Bb R.fok R.lok R.f];obtain⟨m,hm⟩:=hq;have h1:=(xZ m _ _ hm trivial).1;have h2:lf ts.length (if w.at' c then some 0 else none)<=ts.length+1:=by split<;>simp[lf]
 simp only[wt,im,cR]at h1;rw[R.l];split
 ·rw[a8,cR];show cK q.l+1+0<=_;omega
 ·exact S6 _
theorem AZ(l:List Nd)(k:nL):cK (cF l k)<=cK l:=by
 unfold cF
 induction l with
 |nil=>exact R7 _
 |cons n l ih=>
  rw[a8,TU];split
  ·rw[TB,fB];omega
  ·omega
open Dg
def eW(l:List Nd)(k:nL):Nd:=⟨k.kind,k.text,k.tok,k.slot,cF l k,gH l k⟩
def pW:List Nd->Nd->List Nd
 | [],n=>[n]
 |m::out,n=>if m.key=n.key then { m with kids:=m.kids++n.kids,cond:=m.cond.or n.cond }::out else m::pW out n
def qU(out:List Nd)(n:Nd):List Nd:=if n.cond=ff then out else pW out n
theorem oF:∀{out:List Nd} {n:Nd},(∀m∈out,m.key≠n.key)->pW out n=out++[n]
 | [],n,_=>rfl
 |m::out,n,h=>by
  rw[pW,Sb (h m (.head _)),oF fun x hx=>h x (.tail _ hx)];rfl
theorem rM:∀{out:List Nd} {n m:Nd} {i:Nat},out.Pairwise (fun a b=>a.key≠b.key)->out[i]?=some m->m.key=n.key->pW out n=out.set i { m with kids:=m.kids++n.kids,cond:=m.cond.or n.cond }
 | [],n,m,i,_,h,_=>by simp at h
 |x::out,n,m,0,hp,h,hk=>by
  simp only[TC,Sc]at h;subst h;rw[pW,SI hk];rfl
 |x::out,n,m,i+1,hp,h,hk=>by
  simp only[TD]at h;have h1:=(List.pairwise_cons.1 hp).1 m (Tg h);rw[pW,Sb (by rw[<-hk];exact h1),rM (List.pairwise_cons.1 hp).2 h hk];rfl
theorem lT(p:List Nd)(n:Nd)(k:nL):cF (p++[n]) k=cF p k++if eY k n then n.kids else []:=by
 unfold cF;rw[List.filter_append,TF];congr 1;cases h:eY k n<;>simp[TU,h]
theorem me(p:List Nd)(n:Nd)(k:nL):gH (p++[n]) k=if eY k n then (gH p k).or n.cond else gH p k:=by
 unfold gH;rw[List.filter_append,T9];cases h:eY k n<;>simp[TU,h]
theorem x8{p:List Nd}{k:nL}(h:∀n∈p,n.cond≠ff->n.key≠k):gH p k=ff/\cF p k=[]:=by
 have:p.filter (eY k)=[]:=List.filter_eq_nil_iff.2 fun n hn hm=>by
  simp only[eY,SG,SX]at hm;exact h n hn hm.2 hm.1
 unfold gH cF;rw[this];exact⟨rfl,rfl⟩
theorem Np{a:T}(h:a.ok 0):T.or ff a=a:=T.ext (T.or_ok (show (ff:T).ok 0 from trivial) h) h fun c=>by
 rw[T.or_at (show (ff:T).ok 0 from trivial) h,xz,TS]
structure CK(p out:List Nd):Prop where
 dist:out.Pairwise (fun a b=>a.key≠b.key)
 node:∀m∈out,m=eW p m.key
 has:∀n∈p,n.cond≠ff->∃m∈out,m.key=n.key
 from':∀m∈out,∃n∈p,n.cond≠ff/\n.key=m.key
theorem CK.nil:CK [] []:=⟨List.Pairwise.nil,fun _ h=>(SW h).elim,fun _ h=>(SW h).elim,fun _ h=>(SW h).elim⟩
theorem lC{p:List Nd}{n:Nd}{k:nL}(h:n.cond=ff\/n.key≠k):eW (p++[n]) k=eW p k:=by
 have:eY k n=false:=by
  rcases h with h|h<;>simp[eY,h]
 unfold eW;rw[lT,me,this];simp
theorem CK.step{p out:List Nd}{n:Nd}(h:CK p out)(hn:n.cond.ok 0):CK (p++[n]) (qU out n):=by
 unfold qU;split
 ·rename_i a0;refine⟨h.dist,fun m hm=>by rw[lC (.inl a0)];exact h.node m hm,fun x hx ak=>?_,fun m hm=>?_⟩
  ·rcases List.mem_append.1 hx with e|e
   ·exact h.has x e ak
   ·rw[List.mem_singleton.1 e]at ak;exact absurd a0 ak
  ·obtain⟨x,hx,k⟩:=h.from' m hm;exact⟨x,SM _ hx,k⟩
 ·rename_i ak;by_cases a3:∃m∈out,m.key=n.key
  ·obtain⟨m,hm,hk⟩:=a3;obtain⟨i,hi⟩:=List.mem_iff_getElem?.1 hm;rw[rM h.dist hi hk];have ao:=(List.getElem?_eq_some_iff.1 hi).1;have emine:eY n.key n=true:=by simp[eY,ak]
   have em:({ m with kids:=m.kids++n.kids,cond:=m.cond.or n.cond }:Nd)=eW (p++[n]) n.key:=by
    have e1:=h.node m hm;rw[hk]at e1;have e2:m.kids=cF p n.key:=by rw[e1];rfl
    have e3:m.cond=gH p n.key:=by rw[e1];rfl
    have e4:eW (p++[n]) n.key=⟨n.key.kind,n.key.text,n.key.tok,n.key.slot,cF p n.key++n.kids,(gH p n.key).or n.cond⟩:=by
     unfold eW;rw[lT,me,SI emine,SI emine]
    rw[e4,<-e2,<-e3,<-hk];rfl
   have aj:∀{x:Nd} {j:Nat},(out.set i { m with kids:=m.kids++n.kids,cond:=m.cond.or n.cond })[j]?=some x->j=i/\x={ m with kids:=m.kids++n.kids,cond:=m.cond.or n.cond }\/j≠i/\out[j]?=some x:=fun{x j} e=>by
    rw[Tj]at e;split at e
    ·rename_i ap
     first
      |exact .inl ⟨ap.symm,(Tk e).symm⟩
      |(rw[SI ao]at e;exact .inl ⟨ap.symm,(Tk e).symm⟩)
    ·rename_i ap;exact .inr ⟨fun e2=>ap e2.symm,e⟩
   have ac:∀{x y:Nd} {j l:Nat},out[j]?=some x->out[l]?=some y->j≠l->x.key≠y.key:=fun{x y j l} h1 h2 h3=>by
    obtain⟨a1,rfl⟩:=List.getElem?_eq_some_iff.1 h1;obtain⟨a2,rfl⟩:=List.getElem?_eq_some_iff.1 h2;rcases Nat.lt_or_gt_of_ne h3 with ao|a6
    ·exact List.pairwise_iff_getElem.1 h.dist j l a1 a2 ao
    ·exact fun e=>List.pairwise_iff_getElem.1 h.dist l j a2 a1 a6 e.symm
   refine⟨?_,fun x hx=>?_,fun x hx aa=>?_,fun x hx=>?_⟩
   ·refine List.pairwise_iff_getElem.2 fun j l hj hl a7=>?_;have g1:=aj (SC hj);have g2:=aj (SC hl);rcases g1 with ⟨a,b⟩|⟨a,b⟩<;>rcases g2 with ⟨c,d⟩|⟨c,d⟩
    ·omega
    ·rw[b];exact(ac (x:=m) hi d (by omega):m.key≠_)
    ·rw[d];exact(ac (y:=m) b hi (by omega):_≠m.key)
    ·exact ac b d (by omega)
   ·obtain⟨j,hj⟩:=List.mem_iff_getElem?.1 hx;rcases aj hj with ⟨a,b⟩|⟨a,b⟩
    ·have:x.key=n.key:=by rw[b];exact hk
     rw[this,b,em]
    ·rw[lC (.inr fun e=>ac hi b (by omega) (by rw[hk,e]))];exact h.node x (Tg b)
   ·have put:∀y∈out,∃z∈out.set i { m with kids:=m.kids++n.kids,cond:=m.cond.or n.cond },z.key=y.key:=fun y hy=>by
     obtain⟨j,hj⟩:=List.mem_iff_getElem?.1 hy;by_cases e:j=i
     ·subst e;rw[hi]at hj;cases hj
      exact⟨{ m with kids:=m.kids++n.kids,cond:=m.cond.or n.cond },List.mem_iff_getElem?.2 ⟨j,List.getElem?_set_self ao⟩,rfl⟩
     ·exact⟨y,List.mem_iff_getElem?.2 ⟨j,by rw[List.getElem?_set_ne (fun e2=>e e2.symm)];exact hj⟩,rfl⟩
    rcases List.mem_append.1 hx with e|e
    ·obtain⟨y,hy,a4⟩:=h.has x e aa;obtain⟨z,hz,aS⟩:=put y hy;exact⟨z,hz,aS.trans a4⟩
    ·rw[List.mem_singleton.1 e];obtain⟨z,hz,aS⟩:=put m hm;exact⟨z,hz,aS.trans hk⟩
   ·obtain⟨j,hj⟩:=List.mem_iff_getElem?.1 hx;rcases aj hj with ⟨a,b⟩|⟨a,b⟩
    ·exact⟨n,SN _ (.head _),ak,by rw[b];exact hk.symm⟩
    ·obtain⟨y,hy,k⟩:=h.from' x (Tg b);exact⟨y,SM _ hy,k⟩
  ·have an:∀m∈out,m.key≠n.key:=fun m hm e=>a3 ⟨m,hm,e⟩;rw[oF an];have emine:eY n.key n=true:=by simp[eY,ak]
   have am:∀x∈p,x.cond≠ff->x.key≠n.key:=fun x hx aa e=>by
    obtain⟨m,hm,a5⟩:=h.has x hx aa;exact an m hm (a5.trans e)
   obtain⟨c1,c2⟩:=x8 am;refine⟨List.pairwise_append.2 ⟨h.dist,Th _ _,fun a ha b hb=>by rw[List.mem_singleton.1 hb];exact an a ha⟩,fun m hm=>?_,fun x hx aa=>?_,fun m hm=>?_⟩
   ·rcases List.mem_append.1 hm with e|e
    ·rw[lC (.inr fun e2=>an m e e2.symm)];exact h.node m e
    ·rw[List.mem_singleton.1 e];unfold eW;rw[lT,me,SI emine,SI emine,c1,c2,Np hn,SU];cases n;rfl
   ·rcases List.mem_append.1 hx with e|e
    ·obtain⟨m,hm,k⟩:=h.has x e aa;exact⟨m,SM _ hm,k⟩
    ·exact⟨n,SN _ (.head _),by rw[List.mem_singleton.1 e]⟩
   ·rcases List.mem_append.1 hm with e|e
    ·obtain⟨x,hx,k⟩:=h.from' m e;exact⟨x,SM _ hx,k⟩
    ·exact⟨n,SN _ (.head _),ak,by rw[List.mem_singleton.1 e]⟩
theorem CK.of{l:List Nd}(h:∀n∈l,n.cond.ok 0):∀i,i<=l.length->CK (l.take i) ((l.take i).foldl qU [])
 |0,_=>CK.nil
 |i+1,hi=>by
  have aa:i<l.length:=by omega
  rw[S7 aa,T9];exact(CK.of h i (by omega)).step (h _ (List.getElem_mem aa))
theorem CK.sorted{l out L:List Nd}(h:CK l out)(hp:L.Perm out)(hs:L.Pairwise (fun a b=>E4 b.key a.key=false)):L=(ks l).map (eW l):=by
 have hd:L.Pairwise (fun a b=>a.key≠b.key):=(hp.pairwise_iff (fun{a b} h e=>h e.symm)).2 h.dist;have e1:L.map Nd.key=ks l:=by
  refine kF jN ?_ (eE jN _) fun k=>?_
  ·rw[List.pairwise_map];refine(hs.and hd).imp fun{a b} h=>?_;cases aj:E4 a.key b.key with
   |true=>rfl
   |false=>exact absurd (jN.tri _ _ aj h.1) h.2
  ·rw[s6];constructor
   ·intro hk;obtain⟨m,hm,rfl⟩:=List.mem_map.1 hk;obtain⟨n,hn,aa,ac⟩:=h.from' m (hp.mem_iff.1 hm);exact⟨n,hn,ac,aa⟩
   ·rintro⟨n,hn,rfl,aa⟩;obtain⟨m,hm,hk⟩:=h.has n hn aa;exact List.mem_map.2 ⟨m,hp.mem_iff.2 hm,hk⟩
 rw[<-e1,SK];have:L.map id=L.map (eW l∘Nd.key):=SL fun m hm=>h.node m (hp.mem_iff.1 hm)
 rwa [List.map_id]at this
theorem s8(d:Nat)(l:List Nd):kH (d+1) l=((ks l).map (eW l)).map fun m=>{ m with kids:=kH d m.kids }:=by
 rw[kH,SK];rfl
theorem EC:∀(K:List nL) (l:List Nd),K.Pairwise (fun a b=>a≠b)->(∀k∈K,∃n∈l,n.key=k/\n.cond≠ff)->cK (K.map (eW l))<=cK l
 | [],l,_,_=>S6 _
 |k::K,l,h,ac=>by
  have h2:=List.pairwise_cons.1 h;obtain⟨n0,aj,ak,am⟩:=ac k (.head _);have e1:∀(l:List Nd),cK l=cK (l.filter fun n=>decide (n.key=k))+cK (l.filter fun n=>!decide (n.key=k)):=fun l=>by
   induction l with
   |nil=>rfl
   |cons n l ih=>cases hn:decide (n.key=k)<;>simp[TU,hn,a8]<;>omega
  have e2:∀(l:List Nd),cK (cF l k)+((l.filter (eY k)).length)<=cK (l.filter fun n=>decide (n.key=k)):=fun l=>by
   induction l with
   |nil=>exact R7 _
   |cons n l ih=>
    unfold cF at ih |-;by_cases hn:n.key=k
    ·by_cases hc:n.cond=ff
     ·have m1:eY k n=false:=by simp[eY,hc]
      simp only[TU,m1,hn,decide_true,R9,Tp,Si,a8];omega
     ·have m1:eY k n=true:=by simp[eY,hn,hc]
      simp only[TU,m1,hn,decide_true,R9,TB,fB,SB,a8];omega
    ·have m1:eY k n=false:=by simp[eY,hn]
     simp only[TU,m1,hn,decide_false,Tp,Si];exact ih
  have e3:1<=(l.filter (eY k)).length:=by
   have:n0∈l.filter (eY k):=List.mem_filter.2 ⟨aj,by simp[eY,ak,am]⟩;exact List.length_pos_of_mem this
  have e4:∀k'∈K,cF (l.filter fun n=>!decide (n.key=k)) k'=cF l k':=fun k' aa=>by
   unfold cF;rw[List.filter_filter];congr 1;refine List.filter_congr fun n _=>?_;have:=h2.1 k' aa;by_cases e:n.key=k'
   ·have h3:n.key≠k:=fun e2=>this (e2.symm.trans e);simp[eY,e,show k'≠k from fun e2=>this e2.symm]
   ·simp[eY,e]
  have h5:=EC K (l.filter fun n=>!decide (n.key=k)) h2.2 fun k' aa=>by
   obtain⟨n,hn,hk,hc⟩:=ac k' (.tail _ aa);refine⟨n,List.mem_filter.2 ⟨hn,?_⟩,hk,hc⟩;have:=h2.1 k' aa;rw[hk];simp only[SR,TK];exact fun e=>this e.symm
  have e5:cK (K.map (eW l))=cK (K.map (eW (l.filter fun n=>!decide (n.key=k)))):=by
   clear h5 h h2 ac
   induction K with
   |nil=>rfl
   |cons x K ih=>
    rw[Tf,Tf,a8,a8,ih fun k' aa=>e4 k' (.tail _ aa)];show cK (cF l x)+1+_=cK (cF _ x)+1+_;rw[e4 x (.head _)]
  have e6:=e1 l;have e7:=e2 l;rw[Tf,a8,e5];show cK (cF l k)+1+_<=_;omega
theorem By{f:List Nd->List Nd}:∀{L:List Nd},(∀n∈L,cK (f n.kids)<=cK n.kids)->cK (L.map fun m=>{ m with kids:=f m.kids })<=cK L
 | [],_=>R7 _
 |n::L,h=>by
  rw[Tf,a8,a8];have h1:=h n (.head _);have h2:=By (f:=f) (L:=L) fun m hm=>h m (.tail _ hm);show cK (f n.kids)+1+_<=_;omega
theorem Cp(l:List Nd):(ks l).Pairwise (fun a b=>a≠b):=(eE jN _).imp fun{a b} h e=>by rw[e,jN.irr]at h;cases h
theorem uP(l:List Nd):cK ((ks l).map (eW l))<=cK l:=EC _ l (Cp l) fun k hk=>by
 obtain⟨n,h1,h2,h3⟩:=s6.1 hk;exact⟨n,h1,h2,h3⟩
theorem Cw:∀(d:Nat) (l:List Nd),cK (kH d l)<=cK l
 |0,l=>S6 _
 |d+1,l=>by
  rw[s8];exact R8 (By fun n _=>Cw d n.kids) (uP l)
theorem vY(c:cg):∀(l:List Nd),cK (pL c l)<=cK l
 | []=>R7 _
 |⟨k,t,o,s,ks,e⟩::l=>by
  have h1:=vY c ks;have h2:=vY c l;rw[bV];split
  ·rw[a8,a8];show cK (pL c ks)+1+_<=cK ks+1+_;omega
  ·rw[a8];omega
end Syn
namespace Go.Proofs.YtfaclfkpnmcmlaaGreatDoor
open Go Go.Sx Dg Syn
theorem ES:aP Tryz.prog 79:=⟨_,Tryz.func79,rfl,rfl⟩
theorem JQ{n:Nat}(h:n<=maxLen):IntKind.i64.wrap (n:Int)=(n:Int):=by
 unfold maxLen at h;simp only[IntKind.wrap,show IntKind.bits .i64=64 from rfl,show IntKind.signed .i64=true from rfl];simp;omega
theorem rJ{i n c:Nat}{a:Option Addr}(hC:oU (.slice a n c))(hi:i<n):IntKind.i64.wrap ((i:Int)+1)=((i+1:Nat):Int):=by
 have h:n<=c/\(0<n->c<=maxLen):=hC;have h2:=h.2 (by omega);have:=JQ (n:=i+1) (by omega);rw[<-this];congr 1
theorem pq(w:T):∀a b:List Nd,ll w (a++b)=ll w a++ll w b
 | [],b=>rfl
 |n::a,b=>by
  rw[SS,lQ,lQ,pq w a b];split<;>rfl
theorem xf(w:T)(n:Nd):ll w [n]=if n.cond.and w=ff then []else [{ n with kids:=ll (n.cond.and w) n.kids,cond:=n.cond.and w }]:=by
 rw[lQ];rfl
theorem cv{α:Type}{l:List α}{i:Nat}{n:α}(h:l[i]?=some n):l.take (i+1)=l.take i++[n]:=by
 rw[List.take_add_one,h];rfl
theorem yq(w:T)(i:Nat)(l:List Nd):cK (ll w (l.take i))<=cK (ll w l):=by
 conv=>rhs;rw[<-TL i l]
 rw[pq,fB];omega
def Nr(vl:Value)(n:Nat)(wa:Option Addr)(wk:Nat)(w:T)(x:Nat×Value):St:=⟨dn 35 [(3,.p 3 0),(5,.v x.2),(8,.v vl),(9,.v (iv n)),(10,.v (iv x.1))],[⟨3,50,[sD wa wk w,rD w]⟩]⟩
def Rs(l:List Nd)(w:T)(I0:PH)(x:Nat×Value)(H:PH):Prop:=∃I A,H=U [I,A]/\Dj [I,A]/\I0.le I/\x.1<=l.length/\br I A x.2 (ll w (l.take x.1))
theorem C0:∀(m:Nat) {I:PH} {v vw:Value} {l:List Nd} {w:T},cK l<m->db I v l->oU v->cu I vw w->cK (ll w l)<=aF->
  aO Tryz.prog 79 #[v,vw] I [] fun r I2 qs=>∃A,qs=[A]/\br I2 A r (ll w l):=by
 intro m
 induction m with
 |zero=>intro I v vw l w hm;omega
 |succ m ih=>
 intro I v vw l w hm hS hC hW hz hd;obtain⟨va,vc,rfl,_⟩:=id hS;obtain⟨wa,wk,rfl⟩:=hW.shape2;unfold aF at hz;refine Ot Tryz.func79 rfl fun w0=>?_;simp only[Tryz.ntmps79,iv,sD,rD];apply RG;simp only[go_sem];refine aT hd fun b4=>?_;refine aB (fun x=>l.length-x.1) (Nr (.slice va l.length vc) l.length wa wk w) (Rs l w I) (0,.slice none 0 0) (ae (by simp only[go_sem,Tq,iv,sD,rD])) (by simp only[go_sem,Tq,Nr,iv,sD,rD]) ?_ ?_
 ·exact⟨I,PH.no,rfl,b4,Uj _,S6 _,Ow.nil _ _ _ _⟩
 rintro⟨i,vo⟩ H ⟨I1,A1,rfl,a9,ac,hi,hA⟩ aj;simp only at hi hA;simp only[Nr];obtain⟨oa,oc,rfl⟩:=hA.shape;rcases Sw i l.length with aS|cl
 ·have bb:decide ((i:Int)<(l.length:Int))=true:=by simp;omega
  have bs:=rJ hC aS;obtain⟨n,hn⟩:∃n,l[i]?=some n:=⟨_,SC aS⟩;obtain⟨b,off,cs,rfl,b5,ao⟩:=Sl.load aW.len (db.le hS ac) hn;obtain⟨vk,na,nk,rfl,a4,ak,ba⟩:=b5.shape;obtain⟨ka,kc,rfl,_⟩:=id ak;have ci:=oE (Tg hn);have a3:=yq w (i+1) l;rw[cv hn,pq,fB]at a3;have cj:=gw (ll w (l.take i));apply RG;simp only[go_sem,bb,iv,sD,rD];refine⟨by omega,?_⟩;refine Qz (l:=[.int .u8 n.kind,.string ⟨⟨n.text⟩⟩,.int .i64 n.tok,.int .i64 n.slot,.slice ka n.kids.length kc,sD na nk n.cond,rD n.cond]) (v:=.agg #[.int .u8 n.kind,.string ⟨⟨n.text⟩⟩,.int .i64 n.tok,.int .i64 n.slot,.slice ka n.kids.length kc,sD na nk n.cond,rD n.cond]) rfl (cellsU a9 (.head _) ao) (.inl ⟨bT,rfl⟩) ?_;apply RG;simp only[go_sem,iv,sD,rD];refine NB a9 [0] rfl iy (by rfl) (ps:=[]) (F:=[A1]) rfl (lE a4 (hW.le ac)) fun v I3 qs a7 aa hq=>?_;obtain⟨rfl,ap⟩:=hq;obtain⟨za,zk,rfl⟩:=ap.shape2;simp only[Z3]at a7 |-;apply RG;simp only[go_sem,iv,sD,rD];refine Pf rfl gK (fq ap) fun v H2 hv=>?_;obtain⟨rfl,rfl⟩:=hv;cases a0:decide (n.cond.and w=.lf false)
  ·have bc:n.cond.and w≠ff:=by simpa using a0
   rw[xf,Sb bc,a8,cR]at a3;simp only at a3;apply RG;simp only[go_sem,iv,sD,rD,a0,T7];refine NB a7 [0] rfl ES (by rfl) (ps:=[]) (F:=[A1]) rfl (ih (w:=n.cond.and w) (by omega) (db.le ak aa) ba ap (by unfold aF;omega)) fun v I4 qs bd a6 hq=>?_;obtain⟨K,rfl,hK⟩:=hq;simp only[Z3]at bd |-;obtain⟨qa,qc,rfl⟩:=hK.shape;have cb:=hK.capN aW.len;refine ab bd [0,1] rfl fun a1=>?_;simp only[Z4]at a1 |-;refine ag a1 fun I5 a1 an cc=>?_;have ca:db I5 (.slice qa (ll (n.cond.and w) n.kids).length qc) (ll (n.cond.and w) n.kids):=br.sl hK an cc;apply RG;simp only[go_sem,iv,sD,rD];refine av a1 (by exact cT) rfl rfl rfl rfl rfl (by decide) fun nb I6 b3 am b0=>?_;have a2:=Ui a6 (Ui an am);have b6:db I6 (.slice (some ⟨nb,0,none⟩) 1 1) [{ n with kids:=ll (n.cond.and w) n.kids,cond:=n.cond.and w }]:=fT (az b0 (by simp[aE,Value.cells]) (by simp[aE,Value.cells,iv,sD,rD])) (aW.mk (n:={ n with kids:=ll (n.cond.and w) n.kids,cond:=n.cond.and w }) (ap.le a2) (db.le ca am) cb);apply RG;simp only[go_sem,iv,sD,rD];refine aY b3 (by exact cT) (br.le hA (Ui aa a2)) (b6) (fun{I J c a} h k=>aW.le h k) (fun{I} c a h=>aW.len c a h) (fun{I} c a h=>aW.ones h) rfl rfl rfl rfl (by first|omega|(simp only[SB,S9];omega)) (by unfold maxLen;first|omega|(simp only[SB,S9];omega)) fun ua uc I7 A7 b2 a5 cf=>?_;apply RG;simp only[go_sem,iv,sD,rD,bs];have bx:=Ui ac (Ui aa (Ui a2 a5))
   exact aj (i+1,.slice ua (ll w (l.take i)++[{ n with kids:=ll (n.cond.and w) n.kids,cond:=n.cond.and w }]).length uc) _ _ (by simp only;omega) (ae (by simp only[go_sem,Tq,iv,sD,rD])) (by simp only[go_sem,Tq,Nr,iv,sD,rD]) ⟨I7,A7,rfl,b2,bx,aS,by simp only;rw[cv hn,pq,xf,Sb bc];exact cf⟩
  ·have b1:n.cond.and w=ff:=by simpa using a0
   apply RG;simp only[go_sem,iv,sD,rD,a0,Ud,bs];exact aj (i+1,.slice oa (ll w (l.take i)).length oc) _ _ (by simp only;omega) (ae (by simp only[go_sem,Tq,iv,sD,rD])) (by simp only[go_sem,Tq,Nr,iv,sD,rD]) ⟨I3,A1,rfl,a7,Ui ac aa,aS,by simp only;rw[cv hn,pq,xf,SI b1,Tq];exact br.le hA aa⟩
 ·have:i=l.length:=by omega
  subst this;have bb:=Z6 l.length;apply RG;simp only[go_sem,bb,iv,sD,rD];exact ai rfl a9 (r:=[_]) rfl ac ⟨A1,rfl,by rw[Td]at hA |-;exact hA⟩
end Go.Proofs.YtfaclfkpnmcmlaaGreatDoor
