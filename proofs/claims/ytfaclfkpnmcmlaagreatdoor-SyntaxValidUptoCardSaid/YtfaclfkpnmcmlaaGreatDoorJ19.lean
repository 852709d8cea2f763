import Derived.Test.YtfaclfkpnmcmlaaGreatDoorJ08
import Derived.Test.YtfaclfkpnmcmlaaGreatDoorJ09
import Derived.Test.YtfaclfkpnmcmlaaGreatDoorJ16
import Derived.Test.YtfaclfkpnmcmlaaGreatDoorJ18
import Derived.Sort.AssemblyPlain
set_option maxHeartbeats 8000000
set_option linter.all false
open Go.Proofs.Tryz hiding d6
namespace Go.Proofs.YtfaclfkpnmcmlaaGreatDoor
open Go Go.Sx Dg Syn
def T5{Z:List Tok}{f:ad}{kind slot:Nat}(h:(named Z f kind slot).l=[]):(named Z f kind slot).f=[]:=by
 have key:∀(hs:List ah) (z:Syn.aw),(z.l=[]->z.f=[])->((hs.foldl (dR kind slot) z).l=[]->(hs.foldl (dR kind slot) z).f=[]):=by
  intro hs
  induction hs with
  |nil=>intro z a;exact a
  |cons x hs b=>
   intro z a;refine b _ ?_;unfold dR;split
   .exact a
   .intro h;simp at h
 rw[xC]at h |-;exact key _ _ (fun _=>rfl) h
section
variable {pb:Nat} {Z:List Tok} {lv fv ov:Value}
def sC(Z:List Tok)(o slot:Nat)(h:ah)(r:Syn.aw)(m:Nat)(xs:List ah)(l:List M)(g:ad)(ee:List aG):Prop:=
 ∃b,Syn.run Z m (.calls o h slot xs l g)=some b/\b.l=r.l/\b.f=r.f/\ee++b.e=r.e
variable{ee:List aG}{g:ad}{l:List M}{r:Syn.aw}{h:ah}{o slot:Nat}
def SX{m:Nat}(k:sC Z o slot h r m [] l g ee):l=r.l/\g=r.f/\ee=r.e:=by
 obtain⟨b,hb,h1,h2,h3⟩:=k;obtain⟨m',rfl,c⟩:=fq hb;have a:Syn.calls (Syn.run Z m') o h slot [] l g=some b:=c;unfold Syn.calls at a;simp only at a;cases a
 exact⟨h1,h2,by simpa using h3⟩
variable{xs:List ah}
def SW{m:Nat}{x:ah}(k:sC Z o slot h r m (x::xs) l g ee):∃m' a,m=m'+1/\
  Syn.run Z m' (.listed false o (bG x))=some a/\l.length+1<=ao/\sC Z o slot h r m' xs (gv l x.cond++[⟨19,h.text,h.at',slot,a.l,x.cond⟩]) (Syn.joinAll g a.f) (ee++a.e):=by
 obtain⟨s,hb,h1,h2,h3⟩:=k;obtain⟨m',rfl,n⟩:=fq hb;have c:Syn.calls (Syn.run Z m') o h slot (x::xs) l g=some s:=n;unfold Syn.calls at c;simp only at c;obtain⟨a,ha,j⟩:=cN c;obtain⟨_,p,i⟩:=cN j;obtain⟨b,q,d⟩:=cN i;cases d
 have:=uy p;simp only[aE,gy,Syn.uO]at this;exact⟨m',a,rfl,ha,this,b,q,h1,h2,by simpa[cq]using h3⟩
def sC.le{m:Nat}(k:sC Z o slot h r m xs l g ee):ee.length<=r.e.length:=by obtain⟨b,_,_,_,h⟩:=k;rw[<-h];simp
def o9(pb slot:Nat)(a:Value)(n:Nat)(x:Nat×Value×Value×Value):St:=⟨dn 209 [(0,.v (pt pb)),(2,.v (E slot)),(8,.v x.2.1),(9,.v x.2.2.1),(25,.v a),(26,.v (E n)),(27,.v (E x.1))],[]⟩
def BO(pb slot:Nat)(vl vo b:Value)(n i:Nat)(cs:List Value)(a:Value)(c:Nat)(x:Nat×Nat×Value×Value×Value):St:=⟨dn 209 [(0,.v (pt pb)),(2,.v (E slot)),(8,.v vl),(9,.v vo),(11,.p 11 0),(16,.v x.2.2.1),(17,.v x.2.2.2.1),(25,.v b),(26,.v (E n)),(27,.v (E i)),(58,.v a),(59,.v (E c)),(60,.v (E x.1))],[⟨11,227,cs⟩]⟩
def Xl(pb:Nat)(Z:List Tok)(lv fv ov:Value)(o slot X:Nat)(A B:PH)(h:ah)(xs:List ah)(r:Syn.aw)(e:List aG)(a:PH)(x:Nat×Nat×Value×Value×Value)(H:PH):Prop:=
 ∃I W N G l g ee,H=U [I,sg pb (bN lv fv ov x.2.2.2.2 o),W,A,B,N,G]/\Dj [I,sg pb (bN lv fv ov x.2.2.2.2 o),W,A,B,N,G]/\a.le I/\x.1<=xs.length/\x.2.1<=X/\sC Z o slot h r x.2.1 (xs.drop x.1) l g ee/\
  ar I N x.2.2.1 l/\(l≠[]\/xs=[])/\l.length<=ao/\cU I G x.2.2.2.1 g/\FN Z.length g/\bj I W x.2.2.2.2 (e++ee)
theorem Xr{n:Nat}(ih:jO pb Z lv fv ov n){f:ad}(hr:Syn.run Z n (.unary o f slot)=some r):mp pb Z lv fv ov (.unary o f slot) r:=by
 obtain⟨m,rfl,hs⟩:=fq hr;have hk:iL Z f (fun h=>Syn.run Z m (.unaryH o h slot))=some r:=hs;rw[Ba]at hk;clear hs hr;intro ho I X dv vf e h hf fn he hm hd;have hl:=h.len;refine aP 209 func220 fun w0=>?_
 try simp only[E,pt]
 refine ai ?_;refine F2 hd [0,1] rfl pS rfl (ps:=[sg pb _]) (F:=[X]) rfl (pV h hf fn) ?_;rintro v I2 qs hn cA⟨rfl,hH⟩;obtain⟨ha,hc,rfl,_⟩:=id hH;simp only[Z3]at hn |-;refine bF ?_;have hN:∀x∈ce Z f,dp Z x:=fun x hx=>gp h.ok fn hx;have j7:=mF h.ok fn;have ia:=hH;generalize ce Z f=a2 at *;refine dg hn fun hW=>?_;refine dg hW fun hV=>?_;refine aj hV [2,3,0,1] fun hT=>?_;refine bY (fun x=>a2.length-x.1) (o9 pb slot (.slice ha a2.length hc) a2.length) (AR pb Z lv fv ov o a2 (fun h=>Syn.run Z m (.unaryH o h slot)) r e I2) (0,.slice none 0 0,.slice none 0 0,dv) cJ (by simp only[go_sem,Y,o9]) ?_ ?_
 .exact⟨I2,X,PH.no,PH.no,⟨[],[],[]⟩,rfl,hT,aC _,aF _,hk,by simpa using bj.le he cA,Ow.nil _ _ _ _,Ow.nil _ _ _ _,FN.nil _,aF _⟩
 rintro⟨i,va,vb,dv⟩ H ⟨I3,D3,A3,B3,ri,rfl,ca,W,hR,eh,hE,hA,hB,K,fl⟩ aa;simp only at hR eh hE hA hB;simp only[o9];have h8:fH I3 (.slice ha a2.length hc) a2:=ia.le W;rcases aI i a2.length with cc|ki
 .have g0:decide ((i:Int)<(a2.length:Int))=true:=by simp;omega
  have e1:=wrap64 (n:=i+1) O;have c8:IntKind.i64.wrap ((i:Int)+1)=((i+1:Nat):Int):=by rw[<-e1];congr 1
  obtain⟨x,hx⟩:∃x,a2[i]?=some x:=⟨_,aZ cc⟩;have hD:=cY hx;have aS:=hN x hD;obtain⟨b,off,cs,rfl,hX,d3⟩:=h8.load dJ.len hx;obtain⟨xa,xk,rfl,S⟩:=hX;obtain⟨r',hJ,aq⟩:=zY hx eh;have b7:=xK aq;obtain⟨y,hy,a7,rfl⟩:=xL hJ;have h3:=h.le (D cA W);simp only[aE]at b7 a7;have cb:∀s:al,x.text≠s->(x.text == s)=false:=fun s k=>beq_eq_false_iff_ne.2 k;obtain⟨m1,rfl,hj⟩:=fq hy;have C:Syn.unaryH Z (Syn.run Z m1) o x slot=some y:=hj;clear hy hj;unfold Syn.unaryH at C;have e2:=wrap64 (n:=x.at'+1) (by have:=aS.le;omega);have g1:IntKind.i64.wrap ((x.at':Int)+1)=((x.at'+1:Nat):Int):=by rw[<-e2];congr 1
  have hF:=aS.le;unfold ao at a7 fl;refine eb g0 ?_;refine⟨O,?_⟩;refine X5 (l:=[E x.at',sD xa xk x.cond,rD x.cond,.int .u8 x.kind,.string ⟨⟨x.text⟩⟩]) (v:=.agg #[E x.at',sD xa xk x.cond,rD x.cond,.int .u8 x.kind,.string ⟨⟨x.text⟩⟩]) rfl (cellsU ca (.head _) d3) (.inl ⟨gm,rfl⟩) ?_;by_cases t1:x.text=sd\/x.text=o5
  .rw[ag t1]at C;have b6:x.at'<Z.length:=t1.elim (aS.lt2 (s:=sd) af) (aS.lt2 (s:=o5) af);by_cases t2:x.text=sd
   have q1:(x.text == [33])=true:=by rw[t2];decide
   refine dB q1 ?_
   rotate_left
   have q1:(x.text == [33])=false:=cb _ t2;have q2:(x.text == [45])=true:=by rw[t1.resolve_left t2];decide
   apply RG;simp only[go_sem,E,pt,sD,rD,q1,q2]
   all_goals
    by_cases cp:o=64
    .rw[ag cp]at C;cases C
     subst cp;refine au ca [0,1,2,3] [sg pb _,D3] [A3,B3] rfl oB rfl (wU h3 aS.le S hE (by simp[db]at b7 |-;omega)) ?_;rintro v I4 qs b8 B⟨dv2,D4,rs,rfl,i0,rfl,rfl⟩;simp only[Z3]at b8 |-;apply RG;simp only[go_sem,E,pt,sD,rD,c8,ds];exact aa (i+1,va,vb,dv2) _ _ bh cJ (by simp only[go_sem,Y,o9]) ⟨I4,D4,A3,B3,_,rfl,b8,D W B,cc,aq,by simp only;rw[<-cq];exact i0,by simpa using ar.le hA B,cU.le hB B,K,by simp only[Y];unfold ao;exact fl⟩
    .rw[ab cp]at C;obtain⟨a,h1,el⟩:=cN C;cases el
     simp only[gy]at b7 a7;refine au ca [0,1,2,3] [sg pb _] [D3,A3,B3] rfl oB rfl (wV (h:=x) (a:=xa) (k:=xk) O) ?_;rintro v I4 qs b8 B⟨rfl,rfl,rfl⟩;simp only[Z3]at b8 |-;apply RG;simp only[go_sem,E,pt,sD,rD,cP];refine au b8 [0,1,2,3] [] [sg pb _,D3,A3,B3] rfl nz rfl (ns (h:=x) O S) ?_;rintro v I5 qs a3 p⟨rfl,hv⟩;simp only[Z3]at a3 |-;refine aW ?_;refine au a3 [0,1,2,3] [sg pb _,D3] [A3,B3] rfl HR rfl (ih m1 O (.unary (o+1) (bT x) 0) a h1 O (h3.le p) hv (eu aS b6) (hE.le p) (by simp only[aE];omega)) ?_;rintro v I6 qs R a1⟨dv6,D6,rs,rfl,f6,⟨A6,B6,va6,vb6,rfl,rfl,ef,gf⟩,d9,h4⟩;have d4:=ef.capN ae.len;obtain⟨ka,kc,rfl⟩:=ef.shape;simp only[Z3]at R |-;refine aW ?_;refine X5 (l:=[.int .i64 ((o+1:Nat):Int)]) rfl (cellsU R (.tail _ (.head _)) (dt (by simp[bN]) rfl)) (.inr ⟨fI,rfl⟩) ?_;apply RG;simp only[go_sem,E,pt,sD,rD,yJ o ho];refine kK R rfl rfl rfl rfl rfl (by exact r9) (by simp) fun P=>?_;refine aW ?_;refine aj P [2,0,1,3,4,5] fun q=>?_;refine aH q fun I7 q L c7=>?_;have fr:bu I7 (.slice ka a.l.length kc) a.l:=ef.sl L c7;refine aj q [2,0,1,3,4] fun U=>?_;refine aH U fun I9 U w c5=>?_;have fC:bK I9 vb6 a.f:=gf.sl (D L w) c5;have da:=D L w;have b5:=D p (D a1 da);refine au U [3,0,1,2] [B3] [sg pb _,D6,A3] rfl jS rfl (jT (N:=Z.length) O (cU.le hB b5) K fC d9) ?_;rintro v13 g3 qs A d⟨B13,rfl,V⟩;simp only[Z3]at A |-;refine aW ?_;refine aj A [1,2,3,0] fun am=>?_;have k313:=D b5 d;have ga:=f6.le (D da d);refine cH am (by exact df) rfl rfl rfl rfl rfl af fun nb8 I8 a3 p a0=>?_
     have c3:bu I8 (.slice (some ⟨nb8,0,none⟩) 1 1) ([⟨14,x.text,x.at',slot,a.l,x.cond⟩]:List M):=nV (bz a0 (by simp[av,Value.cells]) (by simp[av,Value.cells,E,sD,rD])) (ae.mk (n:=⟨14,x.text,x.at',slot,a.l,x.cond⟩) ((S.le k313).le p) (bu.le fr (D w (D d p))) d4);refine aW ?_;refine aj a3 [2,0,1,3] fun R=>?_;refine fT R (by exact df) (ar.le hA (D k313 p)) (c3) (fun{I J c a} h k=>ae.le h k) (fun{I} c a h=>ae.len c a h) (fun{I} c a h=>ae.ones h) rfl rfl rfl rfl (by first|omega|(simp only[bm,bo];omega)) (by unfold maxLen;first|omega|(simp only[bm,bo];omega)) fun na nc cn A10 P z an=>?_;refine dB c8 ?_;refine aj P [1,2,0,3] fun q=>?_;have u:=D p z;obtain⟨ta,tc,rfl⟩:=V.shape;refine aa (i+1,.slice na (ri.l++([⟨14,x.text,x.at',slot,a.l,x.cond⟩]:List M)).length nc,.slice ta (Syn.joinAll ri.f a.f).length tc,dv6) _ _ bh cJ (by simp only[go_sem,Y,o9]) ⟨cn,D6,A10,B13,_,rfl,q,D W (D k313 u),cc,aq,by simpa[cq]using ga.le u,an,cU.le V u,K.joinAll d9,by simp only[aE,gy];unfold ao;simpa using a7⟩
  rw[ab t1]at C;have q1:(x.text == [33])=false:=cb _ fun k=>t1 (.inl k);have q2:(x.text == [45])=false:=cb _ fun k=>t1 (.inr k);by_cases t3:x.text=cg
  .rw[ag t3]at C;have q3:(x.text == [40])=true:=by rw[t3];decide
   apply RG;simp only[go_sem,E,pt,sD,rD,q1,q2,q3];refine cH ca (by exact jp) rfl rfl rfl rfl rfl af fun nb I4 b8 B et=>?_;have f4:bK I4 (.slice (some ⟨nb,0,none⟩) 1 1) (bG x):=vG (bz et (by simp[av,Value.cells]) (by simp[av,Value.cells,E,sD,rD])) (S.le B);refine aW ?_;refine au b8 [0,1,2,3] [sg pb _,D3] [A3,B3] rfl DU rfl (ih m1 O (.inside o (bG x) slot) y C ho (h3.le B) f4 (mG aS) (hE.le B) (by simp only[aE];omega)) ?_;rintro v I6 qs R a1⟨dv6,D6,rs,rfl,f6,⟨A6,B6,va6,vb6,rfl,rfl,ef,gf⟩,d9,h4⟩;simp only[Z3]at R |-;refine aW ?_;refine aj R [2,0,1,3,4,5] fun q=>?_;refine aH q fun I7 q L c7=>?_;have fr:bu I7 va6 y.l:=ef.sl L c7;refine aj q [2,0,1,3,4] fun U=>?_;refine aH U fun I9 U w c5=>?_;have fC:bK I9 vb6 y.f:=gf.sl (D L w) c5;have da:=D L w;have b5:=D B (D a1 da);refine aj U [2,0,1,3] fun A=>?_;refine fT A (by exact df) (ar.le hA b5) (bu.le fr w) (fun{I J c a} h k=>ae.le h k) (fun{I} c a h=>ae.len c a h) (fun{I} c a h=>ae.ones h) rfl rfl rfl rfl (by first|omega|(simp only[bm,bo];omega)) (by unfold maxLen;first|omega|(simp only[bm,bo];omega)) fun na nc cn A10 am b1 an=>?_;refine aW ?_;refine au am [3,0,1,2] [B3] [A10,sg pb _,D6] rfl jS rfl (jT (N:=Z.length) O (cU.le hB (D b5 b1)) K (fC.le b1) d9) ?_;rintro v15 j2 qs d2 cm⟨B15,rfl,ed⟩;obtain⟨ta,tc,rfl⟩:=ed.shape;simp only[Z3]at d2 |-;refine dB c8 ?_;refine aj d2 [2,3,1,0] fun e3=>?_;have k1015:=D b1 cm
   refine aa (i+1,.slice na (ri.l++y.l).length nc,.slice ta (Syn.joinAll ri.f y.f).length tc,dv6) _ _ bh cJ (by simp only[go_sem,Y,o9]) ⟨j2,D6,A10,B15,_,rfl,e3,D W (D b5 k1015),cc,aq,by simpa[cq]using f6.le (D da k1015),ar.le an cm,ed,K.joinAll d9,by simp only[aE]at a7 |-;unfold ao;exact a7⟩
  rw[ab t3]at C;have q3:(x.text == [40])=false:=cb _ t3;by_cases t4:x.kind=2
  .rw[ag t4]at C;have q4:((x.kind:Int) == 2)=true:=by rw[t4];rfl
   have b6:x.at'<Z.length:=aS.lt (.inr O);apply RG;simp only[go_sem,E,pt,sD,rD,q1,q2,q3,q4];cases C
   refine dB g1 ?_;refine au ca [3,0,1,2] [B3] [sg pb _,D3,A3] rfl jl rfl (jm (a:=x.at'+1) hB S K.ok.2 (fun t ht=>by have:=K.le t ht;omega) O (by have:=K.len;omega)) ?_;rintro v13 g3 qs A d⟨B13,rfl,V⟩;simp only[Z3]at A |-;refine aW ?_;refine aj A [1,2,3,0] fun am=>?_;refine cH am (by exact df) rfl rfl rfl rfl rfl af fun nb8 I8 a3 p a0=>?_;have c3:bu I8 (.slice (some ⟨nb8,0,none⟩) 1 1) ([⟨15,x.text,x.at',slot,[],x.cond⟩]:List M):=nV (bz a0 (by simp[av,Value.cells]) (by simp[av,Value.cells,E,sD,rD])) (ae.mk (n:=⟨15,x.text,x.at',slot,[],x.cond⟩) ((S.le d).le p) (Sl.nil _ _) oo);refine aW ?_;refine aj a3 [2,0,1,3] fun R=>?_;refine fT R (by exact df) (ar.le hA (D d p)) (c3) (fun{I J c a} h k=>ae.le h k) (fun{I} c a h=>ae.len c a h) (fun{I} c a h=>ae.ones h) rfl rfl rfl rfl (by first|omega|(simp only[bm,bo];omega)) (by unfold maxLen;first|omega|(simp only[bm,bo];omega)) fun na nc cn A10 P z an=>?_;refine dB c8 ?_;refine aj P [1,2,0,3] fun q=>?_;have u:=D p z;obtain⟨ta,tc,rfl⟩:=V.shape;refine aa (i+1,.slice na (ri.l++([⟨15,x.text,x.at',slot,[],x.cond⟩]:List M)).length nc,.slice ta (Syn.join ri.f (x.at'+1) x.cond).length tc,dv) _ _ bh cJ (by simp only[go_sem,Y,o9]) ⟨cn,D3,A10,B13,_,rfl,q,D W (D d u),cc,aq,by simpa using hE.le (D d u),an,cU.le V u,K.join O aS.ok,by simp only[aE,gy];unfold ao;simpa using a7⟩
  rw[ab t4]at C;have q4:((x.kind:Int) == 2)=false:=by rw[iU];omega
  by_cases t5:x.text=o6\/x.text=qD
  .rw[ag t5]at C;have b6:x.at'<Z.length:=t5.elim (aS.lt2 (s:=o6) af) (aS.lt2 (s:=qD) af);by_cases t6:x.text=o6
   have q5:(x.text == [116,114,117,101])=true:=by rw[t6];decide
   apply RG;simp only[go_sem,E,pt,sD,rD,q1,q2,q3,q4,q5]
   rotate_left
   have q5:(x.text == [116,114,117,101])=false:=cb _ t6;have q6:(x.text == [102,97,108,115,101])=true:=by rw[t5.resolve_left t6];decide
   apply RG;simp only[go_sem,E,pt,sD,rD,q1,q2,q3,q4,q5,q6]
   all_goals
    cases C
    refine dB g1 ?_;refine au ca [3,0,1,2] [B3] [sg pb _,D3,A3] rfl jl rfl (jm (a:=x.at'+1) hB S K.ok.2 (fun t ht=>by have:=K.le t ht;omega) O (by have:=K.len;omega)) ?_;rintro v13 g3 qs A d⟨B13,rfl,V⟩;simp only[Z3]at A |-;refine aW ?_;refine aj A [1,2,3,0] fun am=>?_;refine cH am (by exact df) rfl rfl rfl rfl rfl af fun nb8 I8 a3 p a0=>?_;have c3:bu I8 (.slice (some ⟨nb8,0,none⟩) 1 1) ([⟨16,x.text,x.at',slot,[],x.cond⟩]:List M):=nV (bz a0 (by simp[av,Value.cells]) (by simp[av,Value.cells,E,sD,rD])) (ae.mk (n:=⟨16,x.text,x.at',slot,[],x.cond⟩) ((S.le d).le p) (Sl.nil _ _) oo);refine aW ?_;refine aj a3 [2,0,1,3] fun R=>?_;refine fT R (by exact df) (ar.le hA (D d p)) (c3) (fun{I J c a} h k=>ae.le h k) (fun{I} c a h=>ae.len c a h) (fun{I} c a h=>ae.ones h) rfl rfl rfl rfl (by first|omega|(simp only[bm,bo];omega)) (by unfold maxLen;first|omega|(simp only[bm,bo];omega)) fun na nc cn A10 P z an=>?_;refine dB c8 ?_;refine aj P [1,2,0,3] fun q=>?_;have u:=D p z;obtain⟨ta,tc,rfl⟩:=V.shape;refine aa (i+1,.slice na (ri.l++([⟨16,x.text,x.at',slot,[],x.cond⟩]:List M)).length nc,.slice ta (Syn.join ri.f (x.at'+1) x.cond).length tc,dv) _ _ bh cJ (by simp only[go_sem,Y,o9]) ⟨cn,D3,A10,B13,_,rfl,q,D W (D d u),cc,aq,by simpa using hE.le (D d u),an,cU.le V u,K.join O aS.ok,by simp only[aE,gy];unfold ao;simpa using a7⟩
  rw[ab t5]at C;have q5:(x.text == [116,114,117,101])=false:=cb _ fun k=>t5 (.inl k);have q6:(x.text == [102,97,108,115,101])=false:=cb _ fun k=>t5 (.inr k);by_cases t7:x.text=tD
  .rw[ag t7]at C;have b6:x.at'<Z.length:=aS.lt2 (s:=tD) af t7;have q7:(x.text == [114,101,97,100])=true:=by rw[t7];decide
   apply RG;simp only[go_sem,E,pt,sD,rD,q1,q2,q3,q4,q5,q6,q7];cases C
   refine dB g1 ?_;refine au ca [3,0,1,2] [B3] [sg pb _,D3,A3] rfl jl rfl (jm (a:=x.at'+1) hB S K.ok.2 (fun t ht=>by have:=K.le t ht;omega) O (by have:=K.len;omega)) ?_;rintro v13 g3 qs A d⟨B13,rfl,V⟩;simp only[Z3]at A |-;refine aW ?_;refine aj A [1,2,3,0] fun am=>?_;refine cH am (by exact df) rfl rfl rfl rfl rfl af fun nb8 I8 a3 p a0=>?_;have c3:bu I8 (.slice (some ⟨nb8,0,none⟩) 1 1) ([⟨17,[],x.at',slot,[],x.cond⟩]:List M):=nV (bz a0 (by simp[av,Value.cells]) (by simp[av,Value.cells,E,sD,rD])) (ae.mk (n:=⟨17,[],x.at',slot,[],x.cond⟩) ((S.le d).le p) (Sl.nil _ _) oo);refine aW ?_;refine aj a3 [2,0,1,3] fun R=>?_;refine fT R (by exact df) (ar.le hA (D d p)) (c3) (fun{I J c a} h k=>ae.le h k) (fun{I} c a h=>ae.len c a h) (fun{I} c a h=>ae.ones h) rfl rfl rfl rfl (by first|omega|(simp only[bm,bo];omega)) (by unfold maxLen;first|omega|(simp only[bm,bo];omega)) fun na nc cn A10 P z an=>?_;refine dB c8 ?_;refine aj P [1,2,0,3] fun q=>?_;have u:=D p z;obtain⟨ta,tc,rfl⟩:=V.shape;refine aa (i+1,.slice na (ri.l++([⟨17,[],x.at',slot,[],x.cond⟩]:List M)).length nc,.slice ta (Syn.join ri.f (x.at'+1) x.cond).length tc,dv) _ _ bh cJ (by simp only[go_sem,Y,o9]) ⟨cn,D3,A10,B13,_,rfl,q,D W (D d u),cc,aq,by simpa using hE.le (D d u),an,cU.le V u,K.join O aS.ok,by simp only[aE,gy];unfold ao;simpa using a7⟩
  rw[ab t7]at C;have q7:(x.text == [114,101,97,100])=false:=cb _ t7;apply RG;simp only[go_sem,E,pt,sD,rD,q1,q2,q3,q4,q5,q6,q7];refine cH ca (by exact jp) rfl rfl rfl rfl rfl af fun nb I4 b8 B et=>?_;have f4:bK I4 (.slice (some ⟨nb,0,none⟩) 1 1) (bG x):=vG (bz et (by simp[av,Value.cells]) (by simp[av,Value.cells,E,sD,rD])) (S.le B);have fh:=mG aS;have nf:=nE h.ok fh 18 slot;have nl:=uY h.ok fh 18 slot;obtain⟨xs,g,em⟩:∃yes g,bM Z (named Z (bG x) 18 slot).f (bg cg)=(yes,g):=⟨_,_,rfl⟩;simp only[em]at C;obtain⟨c,hY,el⟩:=cN C;cases el
  simp only[aE]at b7 a7;have e5:=nW h.ok nf (is:=bg cg);have hq:=qA h.ok nf (bg cg);have fA:=jq h.ok nf (bg cg);have cx:(named Z (bG x) 18 slot).l=[]->(bM Z (named Z (bG x) 18 slot).f (bg cg)).1=[]:=fun e=>by rw[T5 e];rfl
  rw[em]at e5 hq fA cx;simp only at e5 hq fA cx;refine aW ?_;refine au b8 [0,1,2,3] [sg pb _,D3] [A3,B3] rfl uG rfl (uZ (kind:=18) (slot:=slot) (f:=bG x) (h3.le B) f4 fh (hE.le B) (by simp only[aE];omega)) ?_;rintro v I5 qs a3 p⟨dv5,D5,rs,rfl,ie,⟨A5,B5,va5,vb5,rfl,rfl,i3,i2⟩,hv,h5⟩;simp only[Z3]at a3 |-;refine aW ?_;refine aj a3 [3,0,1,2,4,5] fun R=>?_;refine aH R fun I6 R a1 i1=>?_;have ic:bK I6 vb5 (named Z (bG x) 18 slot).f:=i2.sl a1 i1;refine au R [0,1,2,3,4] [] [sg pb _,D5,A5,A3,B3] rfl nB rfl (n6 (s:=cg)) ?_;rintro vi I7 qs P z⟨rfl,hu⟩;simp only[Z3]at P |-;obtain⟨fi,first,cap,rfl,gi,ci⟩:=id hu;refine aW ?_;have hh:=D B (D p (D a1 z));refine au P [0,1,2,3,4] [sg pb _] [D5,A5,A3,B3] rfl oA rfl (oZ (h3.le hh) (ic.le z) nf hu) ?_;rintro v I8 qs q L⟨A8,B8,va8,vb8,rfl,rfl,ej,gc⟩;rw[em]at ej gc;simp only at ej gc;obtain⟨xsa,xsc,rfl⟩:=ej.shape;simp only[Z3]at q |-;refine aW ?_;refine aj q [1,0,2,3,4,5,6] fun U=>?_;refine aH U fun I9 U w gs=>?_;have h2:fH I9 (.slice xsa xs.length xsc) xs:=ej.sl w gs;refine aj U [0,2,4,5,3,1] fun A=>?_;have hb:=D L w;have hg:=D a1 (D z hb);have b5:=D hh hb;have h9:=h3.le b5;have h7:sC Z o slot x ⟨c.l,c.f,(named Z (bG x) 18 slot).e++c.e⟩ m1 xs (named Z (bG x) 18 slot).l g (named Z (bG x) 18 slot).e:=⟨c,hY,rfl,rfl,rfl⟩
  refine bY (fun x=>xs.length-x.1) (BO pb slot va vb (.slice (some ⟨b,off,none⟩) a2.length hc) a2.length i [E x.at',sD xa xk x.cond,rD x.cond,.int .u8 x.kind,.string ⟨⟨x.text⟩⟩] (.slice xsa xs.length xsc) xs.length) (Xl pb Z lv fv ov o slot m1 A3 B3 x xs ⟨c.l,c.f,(named Z (bG x) 18 slot).e++c.e⟩ (e++ri.e) I9) (0,m1,va5,vb8,dv5) tp (by simp only[go_sem,Y,BO,E,sD,rD]) ?_ ?_
  .exact⟨I9,D5,A5,B8,_,_,_,rfl,A,aC _,aF _,aR _,h7,i3.le hg,by
    by_cases e7:(named Z (bG x) 18 slot).l=[]
    .exact .inr (cx e7)
    .exact .inl e7,h5,gc.le w,fA,ie.le hg⟩
  rintro⟨j,m2,vn,vg,dw⟩ H ⟨kn,D17,N,G,l,gg,ee,rfl,cB,b0,hO,hK,d5,fc,hL,j9,hG,ei,gb⟩ cr;simp only at hO hK d5 fc hG gb;simp only[BO];have ek:=D b5 b0;have i4:=h3.le ek;rcases aI j xs.length with c9|kd
  .have gt:decide ((j:Int)<(xs.length:Int))=true:=by simp;omega
   have f1:=wrap64 (n:=j+1) O;have f1':IntKind.i64.wrap ((j:Int)+1)=((j+1:Nat):Int):=by rw[<-f1];congr 1
   obtain⟨y,eg⟩:∃y,xs[j]?=some y:=⟨_,aZ c9⟩;obtain⟨hC,j3⟩:=e5 y (cY eg);obtain⟨bb,off2,cs2,rfl,e4,c1⟩:=(h2.le b0).load dJ.len eg;obtain⟨ya,yk,rfl,a9⟩:=e4;have hS:xs.drop j=y::xs.drop (j+1):=by rw[js c9];rw[aZ c9]at eg;rw[cW eg]
   rw[hS]at d5;obtain⟨m3,aa',rfl,h0,cy,c4⟩:=SW d5;have dx:=c4.le;simp only[aE]at dx;refine dB gt ?_;refine⟨O,?_⟩;refine X5 (l:=[E y.at',sD ya yk y.cond,rD y.cond,.int .u8 y.kind,.string ⟨⟨y.text⟩⟩]) (v:=.agg #[E y.at',sD ya yk y.cond,rD y.cond,.int .u8 y.kind,.string ⟨⟨y.text⟩⟩]) rfl (cellsU cB (.head _) c1) (.inl ⟨gm,rfl⟩) ?_;refine aW ?_;refine cH cB (by exact jp) rfl rfl rfl rfl rfl af fun nb2 g2 b4 T es=>?_;have f5:bK g2 (.slice (some ⟨nb2,0,none⟩) 1 1) (bG y):=vG (bz es (by simp[av,Value.cells]) (by simp[av,Value.cells,E,sD,rD])) (a9.le T);refine aW ?_;refine au b4 [0,1,2,3,4,5] [sg pb _,D17] [A3,B3,N,G] rfl DO rfl (ih m3 O (.listed false o (bG y)) aa' h0 ho (i4.le T) f5 (mG hC) (gb.le T) (by simp only[aE];omega)) ?_;rintro v hz qs a6 ap⟨dv19,D19,rs,rfl,f7,⟨A19,B19,va19,vb19,rfl,rfl,c6,gn⟩,ea,h6⟩;have c2:=c6.capN ae.len;obtain⟨ka,kc,rfl⟩:=c6.shape;simp only[Z3]at a6 |-;refine aW ?_;refine aj a6 [2,0,1,3,4,5,6,7] fun b3=>?_;refine aH (c:=.st _) b3 fun j1 b3 bx gr=>?_;have fs:bu j1 (.slice ka aa'.l.length kc) aa'.l:=c6.sl bx gr;refine aj b3 [2,0,1,3,4,5,6] fun b2=>?_;refine aH (c:=.st _) b2 fun hw b2 ac gl=>?_;have f2:bK hw vb19 aa'.f:=gn.sl (D bx ac) gl;have k1921:=D bx ac;have k1721:=D T (D ap k1921);obtain⟨n1,l1,rfl⟩:∃n1 l1,l=n1::l1:=by
    cases l with
    |nil=>exact absurd rfl (hL.resolve_right fun e=>by rw[e]at c9;exact Nat.not_lt_zero _ c9)
    |cons n1 l1=>exact⟨n1,l1,rfl⟩
   rw[IR]at c4;refine aj b2 [4,0,1,2,3,5] fun a4=>?_;obtain⟨g5,cap5,cur,a5,k5,rfl,rfl,j5,c0,dc,eq⟩:=IT (ar.le fc k1721);refine q8 mixed [0,1,2,3,4,5,6,7,8,9,10,11] [] [] [4] [7] (sg g5 (.cells cur 60 (0,0))) rfl rfl ?_;refine fj ?_;refine⟨O,?_⟩;refine qY (l:=[sD a5 k5 n1.cond,rD n1.cond]) (v:=.agg #[sD a5 k5 n1.cond,rD n1.cond]) rfl (jn a4) rfl rfl rfl c0 (.inl ⟨iB,rfl⟩) ?_;refine fj ?_;refine zd a4 [0,1,2,3,4,5] rfl rfl rfl rfl rfl pT (by rfl) (ps:=[]) (F:=[sg g5 _,sg pb _,D19,A3,B3,G]) rfl (jn a4) (qf (a9.le k1721)) ?_;rintro v kk qs d1 bs⟨rfl,dk⟩;obtain⟨ra,rk,rfl⟩:=dk.shape2;simp only[Z3]at d1 |-;refine fj ?_;refine cE d1 [0,1,2,3,4,5] [] [sg g5 _,sg pb _,D19,A3,B3,G] rfl kT rfl (kP (dc.le bs) dk) ?_;rintro v ja qs d0 cj⟨rfl,dd⟩;obtain⟨ta,tk,rfl⟩:=dd.shape2;simp only[Z3]at d0 |-;refine fj ?_;refine⟨O,?_⟩;refine cT d0 rfl rfl rfl rfl rfl rfl (by exact qC) (by simp;omega) fun eA=>?_;apply aL;have fa:=eq ja ta tk (n1.cond.and y.cond.not) (D bs cj) dd;have k2126:=D bs cj;refine aW ?_;refine cH eA (by exact df) rfl rfl rfl rfl rfl af fun nb3 i9 ez cf er=>?_;have k2128:=D k2126 cf;have k1728:=D k1721 k2128;have e6:bu i9 (.slice (some ⟨nb3,0,none⟩) 1 1) ([⟨19,x.text,x.at',slot,aa'.l,y.cond⟩]:List M):=nV (bz er (by simp[av,Value.cells]) (by simp[av,Value.cells,E,sD,rD])) (ae.mk (n:=⟨19,x.text,x.at',slot,aa'.l,y.cond⟩) (a9.le k1728) (bu.le fs (D ac k2128)) c2);refine aW ?_;unfold ao at cy;simp only[bm]at cy
   refine fT ez (by exact df) (ar.le fa cf) (e6) (fun{I J c a} h k=>ae.le h k) (fun{I} c a h=>ae.len c a h) (fun{I} c a h=>ae.ones h) rfl rfl rfl rfl (by first|omega|(simp only[bm,bo];omega)) (by unfold maxLen;first|omega|(simp only[bm,bo];omega)) fun wa wc kj N29 ey bc e8=>?_;refine aW ?_;have k2129:=D k2128 bc;refine au ey [5,0,1,2,3,4] [G] [N29,sg pb _,D19,A3,B3] rfl jS rfl (jT (N:=Z.length) O (hG.le (D k1728 bc)) ei (f2.le k2129) ea) ?_;rintro v30 i5 qs dT ba⟨G30,rfl,f0⟩;simp only[Z3]at dT |-;refine dB f1' ?_;refine aj dT [2,3,4,5,1,0] fun ex=>?_;refine cr (j+1,m3,.slice wa ((l1++([⟨19,x.text,x.at',slot,aa'.l,y.cond⟩]:List M)).length+1) wc,v30,dv19) _ _ bh tp (by simp only[go_sem,Y,BO,E,sD,rD]) ⟨i5,D19,N29,G30,_,_,_,rfl,ex,D b0 (D k1728 (D bc ba)),c9,by simp only;omega,c4,ar.le e8 ba,.inl (List.cons_ne_nil _ _),?_,f0,ei.joinAll ea,by simpa[cq]using f7.le (D k1921 (D k2129 ba))⟩;simp only[bm,aE,bo]at cy |-;unfold ao;omega
  .have hM:j=xs.length:=by omega
   subst hM;have gt:=Z6 xs.length;rw[jk]at d5;obtain⟨rfl,rfl,rfl⟩:=SX d5;refine dB gt ?_;refine aj cB [4,0,1,2,3,5] fun b4=>?_;refine aH b4 fun g2 b4 T fb=>?_;have fz:bu g2 vn c.l:=ar.sl fc T fb;refine aj b4 [4,0,1,2,3] fun a6=>?_;refine aH a6 fun hz a6 ap f3=>?_;have d7:bK hz vg c.f:=cU.sl hG (D T ap) f3;have k1719:=D T ap;have k319:=D ek k1719;refine aj a6 [2,0,1,3] fun b3=>?_;refine fT b3 (by exact df) (ar.le hA k319) (bu.le fz ap) (fun{I J c a} h k=>ae.le h k) (fun{I} c a h=>ae.len c a h) (fun{I} c a h=>ae.ones h) rfl rfl rfl rfl (by first|omega|(simp only[bm,bo];omega)) (by unfold maxLen;first|omega|(simp only[bm,bo];omega)) fun na nc hw A21 b2 ac gq=>?_;refine aW ?_;refine au b2 [3,0,1,2] [B3] [A21,sg pb _,D17] rfl jS rfl (jT (N:=Z.length) O (cU.le hB (D k319 ac)) K (d7.le ac) ei) ?_;rintro v22 jf qs a4 cl⟨B22,rfl,ec⟩;obtain⟨ta,tc,rfl⟩:=ec.shape;simp only[Z3]at a4 |-;refine dB c8 ?_;refine aj a4 [2,3,1,0] fun e0=>?_;have k1722:=D k1719 (D ac cl);refine aa (i+1,.slice na (ri.l++c.l).length nc,.slice ta (Syn.joinAll ri.f c.f).length tc,dw) _ _ bh cJ (by simp only[go_sem,Y,o9]) ⟨jf,D17,A21,B22,_,rfl,e0,D W (D ek k1722),cc,aq,by simpa[cq]using gb.le k1722,ar.le gq cl,ec,K.joinAll ei,by simp only[aE];unfold ao;exact a7⟩
 .have hP:i=a2.length:=by omega
  subst hP;have g0:=Z6 a2.length;rw[jk]at eh;cases eh
  refine eb g0 ?_;exact az rfl ca (r:=[va,vb]) rfl (D cA W) ⟨_,D3,[A3,B3],rfl,hE,⟨A3,B3,va,vb,rfl,rfl,hA,hB⟩,K,fl⟩
end
open Go Go.Sx Dg Syn
section
variable {pb:Nat} {Z:List Tok} {lv fv ov:Value}
def LH:∀n,jO pb Z lv fv ov n
 |0=>fun m hm=>absurd hm (Nat.not_lt_zero _)
 |n+1=>fun m hm x r hr=>by
  have a:=LH n;rcases aI m n with b|c
  .exact a m b x r hr
  have:m=n:=by omega
  subst this;cases x with
  |line=>exact Tp a hr
  |unary=>exact Xr a hr
  |inside=>exact Rv a hr
  |listed=>exact Tw a hr
  |behind=>exact No a hr
  |vrb=>exact Xz a hr
  |function=>exact Pd a hr
  |block=>exact Nv a hr
  |stmt=>exact Ws a hr
  |branch=>exact Ny a hr
  |_=>trivial
def UW{o:Nat}(c:o<=64){d:T}{r:Syn.aw}{n:Nat}(hr:Syn.run Z n (.seqL true o [(0,d)] [] [])=some r){I X:PH}{dv:Value}{da:Option Addr}{dk:Nat}{e:List aG}(h:iz I Z lv fv)(b:bU I (.agg #[sD da dk d,rD d]) d)(a:d≠ff)(f:bj I X dv e)(hm:e.length+r.e.length<=lV):
  aT prog 77 #[pt pb,.agg #[sD da dk d,rD d]] I [sg pb (bN lv fv ov dv o),X] (PP pb lv fv ov o (e++r.e) (ub Z r)):=
 UX (LH n) c hr h b a f hm
end
open Go Go.Sx Dg Syn
def DK:ax prog 161:=⟨_,func161,rfl,rfl⟩
def Pt:ax prog 162:=⟨_,func162,rfl,rfl⟩
def PO:ax prog 226:=⟨_,func226,rfl,rfl⟩
def PQ:ax prog 227:=⟨_,func227,rfl,rfl⟩
def HU:ax prog 232:=⟨_,func232,rfl,rfl⟩
def HV:ax prog 233:=⟨_,func233,rfl,rfl⟩
def H1:ax prog 281:=⟨_,func281,rfl,rfl⟩
def H4:ax prog 282:=⟨_,func282,rfl,rfl⟩
def HI:ax prog 160:=⟨_,func160,rfl,rfl⟩
def xf:ax prog 145:=⟨_,func145,rfl,rfl⟩
def HG:ax prog 149:=⟨_,func149,rfl,rfl⟩
def Pr:ax prog 148:=⟨_,func148,rfl,rfl⟩
def D0:ax prog 93:=⟨_,func93,rfl,rfl⟩
variable{I:PH}
def br.keep{P:Program}{f:FuncId}{args:Array Value}{w:Value}(h:br P f args I fun v H2=>v=w/\H2=I):aT P f args I [] fun v b a=>a=[]/\v=w:=
 br.toI (h.mono fun v H2 ⟨e1,e2⟩=>⟨by rw[e2];exact aC _,e1⟩)
def go(a b:Int):Int:=if a<b then -1 else if b<a then 1 else 0
def sR(a b:al):Int:=if iT a b=true then -1 else if iT b a=true then 1 else 0
def CW:∀(a b:al),Op.bytesLess a b=iT a b
 |_,[]=>by simp[Op.bytesLess,iT]
 | [],_::_=>rfl
 |x::a,y::b=>by
  have d:=CW a b;simp only[Op.bytesLess,iT,d];by_cases h1:x.toNat<y.toNat
  .have:x<y:=h1;simp[h1,this]
  .have c:¬x<y:=h1;by_cases h2:y.toNat<x.toNat
   .have:(x == y)=false:=by rw[iU];intro e;rw[e]at h2;exact Nat.lt_irrefl _ h2
    simp[h1,h2,c,this]
   .have e:x=y:=UInt8.toNat_inj.1 O;subst e;simp[h1]
def JF(a:Int)(H:PH):br prog 232 #[.int .i64 a] H fun v H2=>v=.bool false/\H2=H:=by refine eX func232 rfl (by simp[ntmps232]) fun w0=>?_;simp only[ntmps232];apply RG;simp only[go_sem,bne_self_eq_false];exact aU (r:=[_]) rfl ⟨rfl,rfl⟩
def JE(a:Int)(H:PH):br prog 233 #[.int .u8 a] H fun v H2=>v=.bool false/\H2=H:=by refine eX func233 rfl (by simp[ntmps233]) fun w0=>?_;simp only[ntmps233];apply RG;simp only[go_sem,bne_self_eq_false];exact aU (r:=[_]) rfl ⟨rfl,rfl⟩
def JH(a:Int)(H:PH):br prog 281 #[.int .u8 a] H fun v H2=>v=.bool false/\H2=H:=by refine eX func281 rfl (by simp[ntmps281]) fun w0=>?_;simp only[ntmps281];apply RG;simp only[go_sem,bne_self_eq_false];exact aU (r:=[_]) rfl ⟨rfl,rfl⟩
def JG(a:al)(H:PH):br prog 282 #[.string ⟨⟨a⟩⟩] H fun v H2=>v=.bool false/\H2=H:=by refine eX func282 rfl (by simp[ntmps282]) fun w0=>?_;simp only[ntmps282];apply RG;simp only[go_sem,bne_self_eq_false];exact aU (r:=[_]) rfl ⟨rfl,rfl⟩
def C3(a b:Int)(H:PH):br prog 161 #[.int .i64 a,.int .i64 b] H fun v H2=>v=.int .i64 (go a b)/\H2=H:=by
 refine aP 20 func161 fun w0=>?_;refine ai ?_;refine X4 rfl HU (JF a H) ?_;rintro v H2⟨rfl,rfl⟩;refine ai ?_;refine X4 rfl HU (JF b H2) ?_;rintro v e⟨rfl,rfl⟩;by_cases h1:a<b
 .have c:decide (a<b)=true:=bl h1;refine dq c ?_;exact aU (r:=[_]) rfl ⟨by simp[go,h1,dS],rfl⟩
 .have c:decide (a<b)=false:=cd h1;by_cases h2:b<a
  .have d:decide (a>b)=true:=bl h2;apply RG;simp only[go_sem,c,d,me,ds];exact aU (r:=[_]) rfl ⟨by simp[go,h1,h2,dS],rfl⟩
  .have d:decide (a>b)=false:=cd h2;apply RG;simp only[go_sem,c,d,me,cP];exact aU (r:=[_]) rfl ⟨by simp[go,h1,h2,dS],rfl⟩
def N9(a b:Int)(H:PH):br prog 162 #[.int .u8 a,.int .u8 b] H fun v H2=>v=.int .i64 (go a b)/\H2=H:=by
 refine aP 20 func162 fun w0=>?_;refine ai ?_;refine X4 rfl HV (JE a H) ?_;rintro v H2⟨rfl,rfl⟩;refine ai ?_;refine X4 rfl HV (JE b H2) ?_;rintro v e⟨rfl,rfl⟩;by_cases h1:a<b
 .have c:decide (a<b)=true:=bl h1;refine dq c ?_;exact aU (r:=[_]) rfl ⟨by simp[go,h1,dS],rfl⟩
 .have c:decide (a<b)=false:=cd h1;by_cases h2:b<a
  .have d:decide (a>b)=true:=bl h2;apply RG;simp only[go_sem,c,d,me,ds];exact aU (r:=[_]) rfl ⟨by simp[go,h1,h2,dS],rfl⟩
  .have d:decide (a>b)=false:=cd h2;apply RG;simp only[go_sem,c,d,me,cP];exact aU (r:=[_]) rfl ⟨by simp[go,h1,h2,dS],rfl⟩
def Od(a b:Int)(H:PH):br prog 226 #[.int .u8 a,.int .u8 b] H fun v H2=>v=.int .i64 (go a b)/\H2=H:=by
 refine aP 20 func226 fun w0=>?_;refine ai ?_;refine X4 rfl H1 (JH a H) ?_;rintro v H2⟨rfl,rfl⟩;refine ai ?_;refine X4 rfl H1 (JH b H2) ?_;rintro v e⟨rfl,rfl⟩;by_cases h1:a<b
 .have c:decide (a<b)=true:=bl h1;refine dq c ?_;exact aU (r:=[_]) rfl ⟨by simp[go,h1,dS],rfl⟩
 .have c:decide (a<b)=false:=cd h1;by_cases h2:b<a
  .have d:decide (a>b)=true:=bl h2;apply RG;simp only[go_sem,c,d,me,ds];exact aU (r:=[_]) rfl ⟨by simp[go,h1,h2,dS],rfl⟩
  .have d:decide (a>b)=false:=cd h2;apply RG;simp only[go_sem,c,d,me,cP];exact aU (r:=[_]) rfl ⟨by simp[go,h1,h2,dS],rfl⟩
def Oc(a b:al)(H:PH):br prog 227 #[.string ⟨⟨a⟩⟩,.string ⟨⟨b⟩⟩] H fun v H2=>v=.int .i64 (sR a b)/\H2=H:=by
 refine aP 20 func227 fun w0=>?_;refine ai ?_;refine X4 rfl H4 (JG a H) ?_;rintro v H2⟨rfl,rfl⟩;refine ai ?_;refine X4 rfl H4 (JG b H2) ?_;rintro v f⟨rfl,rfl⟩;by_cases h1:iT a b=true
 .have c:Op.bytesLess a b=true:=by rw[CW];exact h1
  refine dq c ?_;exact aU (r:=[_]) rfl ⟨by simp[sR,h1,dS],rfl⟩
 .have c:Op.bytesLess a b=false:=by rw[CW];simpa using h1
  by_cases h2:iT b a=true
  .have d:(a == b)=false:=by rw[iU];intro e;rw[e,yE.irr]at h2;cases h2
   apply RG;simp only[go_sem,c,d,me,ds];exact aU (r:=[_]) rfl ⟨by simp[sR,h1,h2,dS],rfl⟩
  .have d:(a == b)=true:=by rw[beq_iff_eq];exact yE.tri a b (by simpa using h1) (by simpa using h2)
   apply RG;simp only[go_sem,c,d,me,cP];exact aU (r:=[_]) rfl ⟨by simp[sR,h1,h2,dS],rfl⟩
def je:List Int->Int
 | []=>0
 |a::l=>if a=0 then je l else a
def AX(sv:Value)(n:Nat)(i:Nat):St:=⟨dn 18 [(3,.v (.int .i64 0)),(6,.v sv),(7,.v (E n)),(8,.v (E i))],[]⟩
variable{H:PH}
def JO{b c:Nat}{zs:List Int}(h:aX H b 0 (zs.map fun z=>.int .i64 z))(p:zs.length<=100):br prog 160 #[.slice (some ⟨b,0,none⟩) zs.length c] H fun v H2=>v=.int .i64 (je zs)/\H2=H:=by
 refine aP 18 func160 fun w0=>?_;refine ai ?_;refine bY (fun x=>zs.length-x) (AX (.slice (some ⟨b,0,none⟩) zs.length c) zs.length) (fun i H2=>H2=H/\i<=zs.length/\je (zs.drop i)=je zs) 0 ak (by simp only[go_sem,Y,AX]) ⟨rfl,aF _,rfl⟩ ?_;rintro i H2 ⟨rfl,hi,f⟩ e;simp only[AX];rcases aI i zs.length with d|o
 .have j:decide ((i:Int)<(zs.length:Int))=true:=by simp;omega
  have e1:=wrap64 (n:=i+1) O;have k:IntKind.i64.wrap ((i:Int)+1)=((i+1:Nat):Int):=by rw[<-e1];congr 1
  obtain⟨z,m⟩:∃z,zs[i]?=some z:=⟨_,aZ d⟩;have hd:zs.drop i=z::zs.drop (i+1):=by rw[js d];rw[aZ d]at m;rw[cW m]
  have a:=h.sub i 1 (by simp;omega);have hm:((zs.map fun z=>Value.int .i64 z).drop i).take 1=[.int .i64 z]:=by rw[<-List.map_drop,hd];rfl
  rw[hm,ii]at a;rw[hd]at f;refine be j ?_;refine⟨O,?_⟩;refine X5 (l:=[.int .i64 z]) rfl (by simpa using a) (.inr ⟨fI,rfl⟩) ?_;by_cases h0:z=0
  .have q:(z != 0)=false:=by simp[h0]
   refine dW q k ?_;exact e (i+1) _ _ O ak (by simp only[go_sem,Y,AX]) ⟨rfl,d,by rw[<-f];simp[je,h0]⟩
  .have q:(z != 0)=true:=by simp[h0]
   refine be q ?_;exact aU (r:=[_]) rfl ⟨by rw[<-f];simp[je,h0,dS],rfl⟩
 .have g:i=zs.length:=by omega
  subst g;have j:=Z6 zs.length;rw[jk]at f;refine be j ?_;exact aU (r:=[_]) rfl ⟨by rw[<-f];rfl,rfl⟩
def xv(k t o g:Int)(x:al)(e b:Option Addr)(c d fn a:Nat)(H:PH):br prog 145 #[.agg #[.int .u8 k,.string ⟨⟨x⟩⟩,.int .i64 t,.int .i64 o,.slice e c d,.slice b fn a,.int .i64 g]] H fun v H2=>v=.agg #[.int .i64 o,.int .i64 t,.int .u8 k,.string ⟨⟨x⟩⟩]/\H2=H:=by refine aP 12 func145 fun w0=>?_;refine ai ?_;exact aU (r:=[.agg #[.int .i64 o,.int .i64 t,.int .u8 k,.string ⟨⟨x⟩⟩]]) (by simp only[results145,go_sem]) ⟨rfl,rfl⟩
def An(x y:eP):Int:=je [go x.slot y.slot,go x.tok y.tok,go x.kind y.kind,sR x.text y.text]
def ky(k:eP):Value:=.agg #[.int .i64 k.slot,.int .i64 k.tok,.int .u8 k.kind,.string ⟨⟨k.text⟩⟩]
def II(x y:eP):decide (An x y<0)=jU x y:=by
 unfold An jU go sR je je je je je;by_cases a:x.slot<y.slot
 .simp[a]
 .by_cases a2:y.slot<x.slot
  .simp[a,a2]
  .by_cases b:x.tok<y.tok
   .simp[a,a2,b]
   .by_cases c:y.tok<x.tok
    .simp[a,a2,b,c]
    .by_cases c1:x.kind<y.kind
     .simp[a,a2,b,c,c1]
     .by_cases c2:y.kind<x.kind
      .simp[a,a2,b,c,c1,c2]
      .cases e:iT x.text y.text<;>cases d:iT y.text x.text<;>simp[a,a2,b,c,c1,c2]
def G1(x y:eP)(I:PH):aT prog 149 #[ky x,ky y] I [] fun v p b=>b=[]/\v=.int .i64 (An x y):=by
 intro hd;refine aP 27 func149 fun w0=>?_
 try simp only[ky]
 refine ai ?_;refine bE [0,1,2,3,5,6,7,8,10,11,12,13,15,16,17,18,4,9,14,19,20,21,22] [] [] ?_;refine d6 ?_;refine eY hd rfl DK (br.keep (C3 x.slot y.slot I)) ?_;rintro v p b o h⟨rfl,rfl⟩;refine d6 ?_;refine eY o rfl DK (br.keep (C3 x.tok y.tok p)) ?_;rintro v s b n g⟨rfl,rfl⟩;refine d6 ?_;refine eY n rfl PO (br.keep (Od x.kind y.kind s)) ?_;rintro v q b m f⟨rfl,rfl⟩;refine d6 ?_;refine eY m rfl PQ (br.keep (Oc x.text y.text q)) ?_;rintro v w b l e⟨rfl,rfl⟩;refine d6 ?_;refine im l (by exact mV) rfl rfl rfl rfl rfl af fun nb u k d i=>?_;refine d6 ?_;refine eY k rfl HI (br.keep (JO (zs:=[go x.slot y.slot,go x.tok y.tok,go x.kind y.kind,sR x.text y.text]) (bz i (by simp[av,Value.cells]) (by simp[av,Value.cells])) (by simp))) ?_;rintro v t b j c⟨rfl,rfl⟩;refine d6 ?_;apply aL;refine ai ?_;exact az rfl j (r:=[_]) rfl (D h (D g (D f (D e (D d c))))) ⟨rfl,rfl⟩
def ik{α:Type}(R:PH->List Value->α->Prop)(lt:α->α->Bool)(vc:Value):Prop:=
 ∃f first cap,vc=.func (.func f) first cap/\ax prog f/\∀(J:PH) (x y:α) (b a:List Value),R J b x->R J a y->
  aT prog f (first++[Value.agg b.toArray,Value.agg a.toArray].toArray++cap) J [] fun v d c=>c=[]/\∃z:Int,v=.int .i64 z/\decide (z<0)=lt x y
def aQ(x y:M):Bool:=jU x.key y.key
def TO{J:PH}{x y:M}{cx cy:List Value}(A:ae J cx x)(w:ae J cy y):aT prog 148 #[.agg cx.toArray,.agg cy.toArray] J [] fun v o g=>g=[]/\∃z:Int,v=.int .i64 z/\decide (z<0)=aQ x y:=by
 intro hd;obtain⟨G,F,C,rfl,m,b,n⟩:=A.shape;obtain⟨s,q,p,rfl,h,a,l⟩:=w.shape;obtain⟨I,H,rfl,_⟩:=b;obtain⟨u,t,rfl,_⟩:=a;refine aP 10 func148 fun w0=>?_
 try simp only[sD,rD,E]
 refine ai ?_;refine bE [0,2,1,3,4,5] [] [] ?_;refine d6 ?_;refine eY hd rfl xf (br.keep (xv _ _ _ _ _ _ _ _ _ _ _ J)) ?_;rintro v o g k f⟨rfl,rfl⟩;refine d6 ?_;refine eY k rfl xf (br.keep (xv _ _ _ _ _ _ _ _ _ _ _ o)) ?_;rintro v B g j e⟨rfl,rfl⟩;refine d6 ?_;refine eY j rfl HG (G1 x.key y.key B) ?_;rintro v K g i d⟨rfl,rfl⟩;refine d6 ?_;apply aL;refine ai ?_;exact az rfl i (r:=[_]) rfl (D f (D e d)) ⟨rfl,_,rfl,II _ _⟩
def Ob:ik ae aQ (.func (.func 148) #[] #[]):=⟨148,#[],#[],rfl,Pr,fun J x y d c b a=>TO b a⟩
def uA(x y:aG):Int:=je [go x.tok y.tok,go x.code y.code]
def cQ(x y:aG):Bool:=gD x.key y.key
def Hb(x y:aG):decide (uA x y<0)=cQ x y:=by
 unfold uA cQ gD go je je je aG.key;by_cases a:x.tok<y.tok
 .simp[a]
 .by_cases a2:y.tok<x.tok
  .simp[a,a2]
  .by_cases b:x.code<y.code
   .simp[a,a2,b]
   .by_cases c:y.code<x.code<;>simp[a,a2,b,c]
def Ou(x y:aG):(uA x y == 0)=decide (x.key=y.key):=by
 unfold uA go je je je aG.key;by_cases b:x.tok<y.tok
 .have:x.tok≠y.tok:=by omega
  simp[b,this]
 .by_cases a2:y.tok<x.tok
  .have:x.tok≠y.tok:=by omega
   simp[b,a2,this]
  .have e:x.tok=y.tok:=by omega
   by_cases a:x.code<y.code
   .have:x.code≠y.code:=by omega
    simp[a,this,e]
   .by_cases c:y.code<x.code
    .have:x.code≠y.code:=by omega
     simp[a,c,this,e]
    .have e2:x.code=y.code:=by omega
     simp[e,e2]
def Dh{x y:aG}{cx cy:List Value}(n:bi I cx x)(m:bi I cy y):aT prog 93 #[.agg cx.toArray,.agg cy.toArray] I [] fun v l f=>f=[]/\v=.int .i64 (uA x y):=by
 intro hd;obtain⟨q,p,rfl,h1⟩:=n;obtain⟨a2,o,rfl,h2⟩:=m;refine aP 17 func93 fun w0=>?_
 try simp only[sD,rD,E]
 refine ai ?_;refine bE [0,1,2,3,5,6,7,8,4,9,10,11,12] [] [] ?_;refine d6 ?_;refine eY hd rfl DK (br.keep (C3 x.tok y.tok I)) ?_;rintro v l f k e⟨rfl,rfl⟩;refine d6 ?_;refine eY k rfl Pt (br.keep (N9 x.code y.code l)) ?_;rintro v u f j d⟨rfl,rfl⟩;refine d6 ?_;refine im j (by exact mV) rfl rfl rfl rfl rfl af fun nb t i c g=>?_;refine d6 ?_;refine eY i rfl HI (br.keep (JO (zs:=[go x.tok y.tok,go x.code y.code]) (bz g (by simp[av,Value.cells]) (by simp[av,Value.cells])) (by simp))) ?_;rintro v s f h b⟨rfl,rfl⟩;refine d6 ?_;apply aL;refine ai ?_;exact az rfl h (r:=[_]) rfl (D e (D d (D c b))) ⟨rfl,rfl⟩
def Oa:ik bi cQ (.func (.func 93) #[] #[]):=⟨93,#[],#[],rfl,D0,fun J x y e d b a=>(Dh b a).mono fun v f c _ ⟨e1,e2⟩=>⟨e1,_,e2,Hb x y⟩⟩
def Ih:ax prog 79:=⟨_,func79,rfl,rfl⟩
def XM{n:Nat}(h:n<=maxLen):IntKind.i64.wrap (n:Int)=(n:Int):=by unfold maxLen at h;simp only[IntKind.wrap,show IntKind.bits .i64=64 from rfl,show IntKind.signed .i64=true from rfl];simp;omega
variable{i:Nat}
def n7{n c:Nat}{a:Option Addr}(b:kH (.slice a n c))(hi:i<n):IntKind.i64.wrap ((i:Int)+1)=((i+1:Nat):Int):=by have h:n<=c/\(0<n->c<=maxLen):=b;have h2:=h.2 O;have:=XM (n:=i+1) O;rw[<-this];congr 1
def yq(w:T):∀a b:List M,dZ w (a++b)=dZ w a++dZ w b
 | [],b=>rfl
 |n::a,b=>by rw[aN,yr,yr,yq w a b];split<;>rfl
def E9(w:T)(n:M):dZ w [n]=if n.cond.and w=ff then []else [{ n with kids:=dZ (n.cond.and w) n.kids,cond:=n.cond.and w }]:=by rw[yr];rfl
def ji{α:Type}{l:List α}{n:α}(h:l[i]?=some n):l.take (i+1)=l.take i++[n]:=by rw[List.take_add_one,h];rfl
def Wr(w:T)(i:Nat)(l:List M):aO (dZ w (l.take i))<=aO (dZ w l):=by
 conv=>rhs;rw[<-tL i l]
 rw[yq,lm];omega
def yp(vl:Value)(n:Nat)(b:Option Addr)(a:Nat)(w:T)(x:Nat×Value):St:=⟨dn 35 [(3,.p 3 0),(5,.v x.2),(8,.v vl),(9,.v (E n)),(10,.v (E x.1))],[⟨3,50,[sD b a w,rD w]⟩]⟩
def Wj(l:List M)(w:T)(a:PH)(x:Nat×Value)(H:PH):Prop:=∃I A,H=U [I,A]/\Dj [I,A]/\a.le I/\x.1<=l.length/\ar I A x.2 (dZ w (l.take x.1))
theorem Vz:∀(m:Nat) {I:PH} {v W:Value} {l:List M} {w:T},aO l<m->bu I v l->kH v->bU I W w->aO (dZ w l)<=ao->
  aT prog 79 #[v,W] I [] fun r I2 Z=>∃A,Z=[A]/\ar I2 A r (dZ w l):=by
 intro m
 induction m with
 |zero=>intro I v W l w hm;omega
 |succ m ih=>
 intro I v W l w hm hS hC hW hz hd;obtain⟨va,vc,rfl,_⟩:=id hS;obtain⟨wa,wk,rfl⟩:=hW.shape2;unfold ao at hz;refine aP 35 func79 fun w0=>?_
 try simp only[E,sD,rD]
 refine ai ?_;refine dg hd fun aq=>?_;refine bY (fun x=>l.length-x.1) (yp (.slice va l.length vc) l.length wa wk w) (Wj l w I) (0,.slice none 0 0) tq (by simp only[go_sem,Y,yp,E,sD,rD]) ?_ ?_
 .exact⟨I,PH.no,rfl,aq,aC _,aF _,Ow.nil _ _ _ _⟩
 rintro⟨i,vo⟩ H ⟨I1,X,rfl,B,e,hi,G⟩ f;simp only at hi G;simp only[yp];obtain⟨oa,oc,rfl⟩:=G.shape;rcases aI i l.length with o|a7
 .have F:decide ((i:Int)<(l.length:Int))=true:=by simp;omega
  have V:=n7 hC o;obtain⟨n,P⟩:∃n,l[i]?=some n:=⟨_,aZ o⟩;obtain⟨b,off,cs,rfl,aS,C⟩:=Sl.load ae.len (bu.le hS e) P;obtain⟨vk,na,nk,rfl,L,g,U⟩:=aS.shape;obtain⟨ka,kc,rfl,_⟩:=id g;have a5:=vK (cY P);have u:=Wr w (i+1) l;rw[ji P,yq,lm]at u;have a6:=nX (dZ w (l.take i));refine dP F ?_;refine⟨O,?_⟩;refine X5 (l:=[.int .u8 n.kind,.string ⟨⟨n.text⟩⟩,.int .i64 n.tok,.int .i64 n.slot,.slice ka n.kids.length kc,sD na nk n.cond,rD n.cond]) (v:=.agg #[.int .u8 n.kind,.string ⟨⟨n.text⟩⟩,.int .i64 n.tok,.int .i64 n.slot,.slice ka n.kids.length kc,sD na nk n.cond,rD n.cond]) rfl (cellsU B (.head _) C) (.inl ⟨b9,rfl⟩) ?_;refine cv ?_;refine au B [0] [] [X] rfl kT rfl (kP L (hW.le e)) ?_;rintro v I3 Z z d⟨rfl,j⟩;obtain⟨za,zk,rfl⟩:=j.shape2;simp only[Z3]at z |-;refine cv ?_;refine X4 rfl iG (iE j) ?_;rintro v H2⟨rfl,rfl⟩;cases p:decide (n.cond.and w=.lf false)
  .have N:n.cond.and w≠ff:=by simpa using p
   rw[E9,ab N,dl,gG]at u;simp only at u;apply RG;simp only[go_sem,E,sD,rD,p,ds];refine au z [0] [] [X] rfl Ih rfl (ih (w:=n.cond.and w) O (bu.le g d) U j (by unfold ao;omega)) ?_;rintro v I4 Z S R⟨K,rfl,hK⟩;simp only[Z3]at S |-;obtain⟨qa,qc,rfl⟩:=hK.shape;have a2:=hK.capN ae.len;refine aj S [0,1] fun y=>?_;refine aH y fun I5 y s a3=>?_;have a1:bu I5 (.slice qa (dZ (n.cond.and w) n.kids).length qc) (dZ (n.cond.and w) n.kids):=ar.sl hK s a3;refine cv ?_;refine cH y (by exact df) rfl rfl rfl rfl rfl af fun nb I6 ap q ac=>?_;have t:=D R (D s q);have a0:bu I6 (.slice (some ⟨nb,0,none⟩) 1 1) [{ n with kids:=dZ (n.cond.and w) n.kids,cond:=n.cond.and w }]:=nV (bz ac (by simp[av,Value.cells]) (by simp[av,Value.cells,E,sD,rD])) (ae.mk (n:={ n with kids:=dZ (n.cond.and w) n.kids,cond:=n.cond.and w }) (j.le t) (bu.le a1 q) a2);refine cv ?_;refine fT ap (by exact df) (ar.le G (D d t)) (a0) (fun{I J c a} h k=>ae.le h k) (fun{I} c a h=>ae.len c a h) (fun{I} c a h=>ae.ones h) rfl rfl rfl rfl (by first|omega|(simp only[bm,bo];omega)) (by unfold maxLen;first|omega|(simp only[bm,bo];omega)) fun ua uc I7 A7 an Q a4=>?_;refine dP V ?_;have aa:=D e (D d (D t Q));exact f (i+1,.slice ua (dZ w (l.take i)++[{ n with kids:=dZ (n.cond.and w) n.kids,cond:=n.cond.and w }]).length uc) _ _ bh tq (by simp only[go_sem,Y,yp,E,sD,rD]) ⟨I7,A7,rfl,an,aa,o,by simp only;rw[ji P,yq,E9,ab N];exact a4⟩
  .have am:n.cond.and w=ff:=by simpa using p
   apply RG;simp only[go_sem,E,sD,rD,p,cP,V];exact f (i+1,.slice oa (dZ w (l.take i)).length oc) _ _ bh tq (by simp only[go_sem,Y,yp,E,sD,rD]) ⟨I3,X,rfl,z,D e d,o,by simp only;rw[ji P,yq,E9,ag am,Y];exact ar.le G d⟩
 .have:i=l.length:=by omega
  subst this;have F:decide (((l.length:Nat):Int)<(l.length:Int))=false:=by simp
  refine dP F ?_;exact az rfl B (r:=[_]) rfl e ⟨X,rfl,by rw[dO]at G |-;exact G⟩
def DR:ax prog 23:=⟨_,func23,rfl,rfl⟩
def Qk:ax prog 34:=⟨_,func34,rfl,rfl⟩
def H8:ax prog 63:=⟨_,func63,rfl,rfl⟩
def Qp:ax prog 64:=⟨_,func64,rfl,rfl⟩
def PE:ax prog 21:=⟨_,func21,rfl,rfl⟩
def HX:ax prog 25:=⟨_,func25,rfl,rfl⟩
def If:ax prog 69:=⟨_,func69,rfl,rfl⟩
def sB(_:PH)(c:List Value)(x:Nat×Nat):Prop:=c=[.int .u32 x.1,.int .u32 x.2]/\x.1<2^32/\x.2<2^32
abbrev g4(I:PH)(v:Value)(l:List (Nat×Nat)):Prop:=Sl sB I v l
def sB.len(c:List Value)(x:Nat×Nat)(h:sB I c x):c.length=2:=by rw[h.1];rfl
variable{l:List (Nat×Nat)}{v:Value}
def g4.le{J:PH}(h:g4 I v l)(k:I.le J):g4 J v l:=Sl.le (R:=sB) (fun{I J c a} h k=>h) h k
def Bt(v:Value)(x:Nat×Option Addr×Nat×T):St:=⟨dn 26 [(0,.v v),(2,.p 2 0),(3,.p 3 0),(4,.v (E x.1))],[⟨2,50,[.slice none 0 0,.int .i64 0]⟩,⟨3,50,[sD x.2.1 x.2.2.1 x.2.2.2,rD x.2.2.2]⟩]⟩
def Vx(l:List (Nat×Nat))(a:PH)(x:Nat×Option Addr×Nat×T)(H:PH):Prop:=∃I,H=U [I]/\Dj [I]/\a.le I/\x.1<=l.length/\x.2.2.2=kS (l.take x.1)/\bU I (.agg #[sD x.2.1 x.2.2.1 x.2.2.2,rD x.2.2.2]) x.2.2.2
def md{α:Type}{l:List α}{n:α}(h:l[i]?=some n):l.take (i+1)=l.take i++[n]:=by rw[List.take_add_one,h];rfl
theorem E0(B:g4 I v l)(W:l.length<2^60):aT prog 23 #[v] I [] fun r C t=>t=[]/\bU C r (kS l):=by
 obtain⟨L,vc,rfl,_⟩:=id B;intro hd;refine aP 26 func23 fun w0=>?_;refine ai ?_;refine X4 rfl sZ (sW _) ?_;rintro v H2⟨rfl,rfl⟩;refine bF ?_;refine bY (fun x=>l.length-x.1) (Bt (.slice L l.length vc)) (Vx l I) (0,none,0,.lf false) ak (by simp only[go_sem,Y,Bt,sD,rD,E,T.subs,T.vis,T.plc,bo,dK,dD]) ?_ ?_
 .exact⟨I,rfl,hd,aC _,aF _,rfl,oV I false⟩
 rintro⟨i,Q,P,d⟩ H ⟨X,rfl,j,e,hi,g,hr⟩ m;simp only at hi g hr;simp only[Bt];rcases aI i l.length with p|N
 .have z:=Z5 i l.length;have e1:=Z7 i;obtain⟨x,A⟩:∃x,l[i]?=some x:=⟨_,aZ p⟩;obtain⟨b,off,cs,rfl,⟨rfl,K,J⟩,f⟩:=Sl.load (fun{I} c a h=>sB.len (I:=I) c a h) (g4.le B e) A;have c0:=f.get (i:=0) rfl;have c1:=f.get (i:=1) rfl;refine be z ?_;refine bE [0,1,2,3,4,5,6,7,8,9,10,11,12,13] [5,10] [] ?_;refine cF ?_
  try refine⟨O,?_⟩
  refine X6 (l:=[.int .u32 x.1]) rfl (cellsU j (.head _) (by simpa using c0)) (.inr ⟨my,rfl⟩) ?_;refine cF ?_
  try refine⟨O,?_⟩
  refine X6 (l:=[.int .u32 x.2]) rfl (cellsU j (.head _) (by simpa using c1)) (.inr ⟨my,rfl⟩) ?_;refine cF ?_;refine eY j rfl If (Dd K J) ?_;rintro V C t y k⟨rfl,s⟩;obtain⟨U,S,rfl⟩:=s.shape2;refine cF ?_;refine eY y rfl oC (oL (hr.le k) s) ?_;rintro v2 R t w q⟨rfl,o⟩;obtain⟨G,F,rfl⟩:=o.shape2;refine cF ?_;apply aL;refine be e1 ?_;refine m (i+1,G,F,d.or (iD x.1 x.2)) _ _ bh ak (by simp only[go_sem,Y,Bt,sD,rD,E]) ⟨R,rfl,w,D e (D k q),p,?_,o⟩;simp only;rw[md A,g];unfold kS;rw[pg];rfl
 .have:i=l.length:=by omega
  subst this;rw[dO]at g;have z:decide (((l.length:Nat):Int)<(l.length:Int))=false:=by simp
  refine dP z ?_;exact az rfl j (r:=[.agg #[sD Q P d,rD d]]) (by simp only[results23,go_sem,E,sD,rD]) e ⟨rfl,by rw[<-g];exact hr⟩
def xq(v:Value)(c:Nat)(i:Nat):St:=⟨dn 38 [(0,.v v),(1,.v (.int .u32 c)),(5,.v (E i))],[]⟩
theorem Rf{c:Nat}(t:g4 H v l)(C:l.length<2^60)(m:c<2^32):br prog 34 #[v,.int .u32 c] H fun r H2=>r=.bool (pW l c)/\H2=H:=by
 obtain⟨y,vc,rfl,_⟩:=id t;refine aP 38 func34 fun w0=>?_;refine ai ?_;refine bY (fun x=>l.length-x) (xq (.slice y l.length vc) c) (fun i H2=>H2=H/\i<=l.length/\pW l c=(l.drop i).any (nC c)) 0 ak (by simp only[go_sem,Y,xq]) ⟨rfl,aF _,rfl⟩ ?_;rintro i H2 ⟨rfl,hi,ha⟩ d;simp only[xq];rcases aI i l.length with e|z
 .have q:=Z5 i l.length;have e1:=Z7 i;obtain⟨x,o⟩:∃x,l[i]?=some x:=⟨_,aZ e⟩;obtain⟨b,off,cs,rfl,⟨rfl,s,w⟩,g⟩:=Sl.load (fun{I} c a h=>sB.len (I:=I) c a h) t o;have c0:=g.get (i:=0) rfl;have c1:=g.get (i:=1) rfl;have p:l.drop i=x::l.drop (i+1):=by rw[js e];rw[aZ e]at o;rw[cW o]
  rw[p,List.any_cons]at ha;have B:c&&&x.1<2^32:=v7 Nat.and_le_left m;have A:c&&&x.2<2^32:=v7 Nat.and_le_left m;have u:=lM m s;have a2:mz .u32 ((c&&&x.1:Nat):Int) 16777215=(((c&&&x.1)&&&16777215:Nat):Int):=lM B af;have a3:mz .u32 ((x.1:Nat):Int) 16777215=((x.1&&&16777215:Nat):Int):=lM s af;have a4:=lM m w;have a5:mz .u32 ((c&&&x.2:Nat):Int) 16777215=(((c&&&x.2)&&&16777215:Nat):Int):=lM A af;have k:=rH ((c&&&x.1)&&&16777215) (x.1&&&16777215);have j:((((c&&&x.2)&&&16777215:Nat):Int) == 0)=decide ((c&&&x.2)&&&16777215=0):=lP _;refine be q ?_;refine bE [0,1,2,3,4,5,6,7,8,9,10,11,12,13,14,15,16,17,18,19,20,21,22,23,24,25] [5,12,21] [] ?_;refine bR ?_
  try refine⟨O,?_⟩
  refine X6 (l:=[.int .u32 x.1]) rfl (by simpa using c0) (.inr ⟨my,rfl⟩) ?_;refine bR ?_
  try refine⟨O,?_⟩
  refine X6 (l:=[.int .u32 x.1]) rfl (by simpa using c0) (.inr ⟨my,rfl⟩) ?_;cases h1:decide ((c&&&x.1)&&&16777215=x.1&&&16777215)
  .rw[h1]at k;have f:nC c x=false:=by unfold nC;rw[h1];rfl
   refine fZ u a2 a3 k ?_;apply aL;refine be e1 ?_;exact d (i+1) _ _ O ak (by simp only[go_sem,Y,xq]) ⟨rfl,e,by rw[ha,f,me]⟩
  .rw[h1]at k;refine fZ u a2 a3 k ?_
   try refine⟨O,?_⟩
   refine X6 (l:=[.int .u32 x.2]) rfl (by simpa using c1) (.inr ⟨my,rfl⟩) ?_;cases h2:decide ((c&&&x.2)&&&16777215=0)
   .rw[h2]at j;have f:nC c x=false:=by unfold nC;rw[h2,Bool.and_false]
    apply bd;simp only[go_sem,E,a4,a5,j];apply aL;refine be e1 ?_;exact d (i+1) _ _ O ak (by simp only[go_sem,Y,xq]) ⟨rfl,e,by rw[ha,f,me]⟩
   .rw[h2]at j;have f:nC c x=true:=by unfold nC;rw[h1,h2];rfl
    apply bd;simp only[go_sem,E,a4,a5,j];apply aL;refine bF ?_;exact aU (r:=[_]) rfl ⟨by rw[ha,f];rfl,rfl⟩
 .have:i=l.length:=by omega
  subst this;rw[jk]at ha;have q:decide (((l.length:Nat):Int)<(l.length:Int))=false:=by simp
  refine be q ?_;exact aU (r:=[_]) rfl ⟨by rw[ha];rfl,rfl⟩
def zE(v:Value)(x:Nat×Nat):St:=⟨dn 26 [(0,.v v),(3,.v (.int .u32 x.2)),(4,.v (E x.1))],[]⟩
def GK(s:g4 H v l)(B:l.length<2^60):br prog 63 #[v] H fun r H2=>r=.int .u32 (sP l:Nat)/\H2=H:=by
 obtain⟨t,vc,rfl,_⟩:=id s;refine aP 26 func63 fun w0=>?_;refine ai ?_;refine bY (fun x=>l.length-x.1) (zE (.slice t l.length vc)) (fun x H2=>H2=H/\x.1<=l.length/\x.2<2^32/\x.2=wM (l.take x.1)) (0,0) ak (by simp only[go_sem,Y,zE]) ⟨rfl,aF _,by decide,rfl⟩ ?_;rintro⟨i,u⟩ H2 ⟨rfl,hi,k,e⟩ f;simp only at hi k e;simp only[zE];rcases aI i l.length with j|z
 .have m:=Z5 i l.length;have e1:=Z7 i;obtain⟨x,q⟩:∃x,l[i]?=some x:=⟨_,aZ j⟩;obtain⟨b,off,cs,rfl,⟨rfl,p,o⟩,d⟩:=Sl.load (fun{I} c a h=>sB.len (I:=I) c a h) s q;have c0:=d.get (i:=0) rfl;have c1:=d.get (i:=1) rfl;have g:=Nat.or_lt_two_pow k p;have y:=AV k p;have w:=AV g o;refine be m ?_;refine bE [0,1,2,3,4,5,6,7,8,9,10,11,12,13] [5,11] [] ?_;refine bR ?_
  try refine⟨O,?_⟩
  refine X6 (l:=[.int .u32 x.1]) rfl (by simpa using c0) (.inr ⟨my,rfl⟩) ?_;refine bJ y ?_
  try refine⟨O,?_⟩
  refine X6 (l:=[.int .u32 x.2]) rfl (by simpa using c1) (.inr ⟨my,rfl⟩) ?_;refine bJ w ?_;apply aL;refine be e1 ?_;exact f (i+1,(u|||x.1)|||x.2) _ _ bh ak (by simp only[go_sem,Y,zE]) ⟨rfl,j,Nat.or_lt_two_pow g o,by simp only;rw[md q,Nt,<-e]⟩
 .have:i=l.length:=by omega
  subst this;have m:decide (((l.length:Nat):Int)<(l.length:Int))=false:=by simp
  have A:mz .u32 (u:Int) 16777215=((u&&&16777215:Nat):Int):=lM k af;refine dW m A ?_;rw[dO]at e;exact aU (r:=[_]) rfl ⟨by rw[e];rfl,rfl⟩
def fp(u:Nat):Nat->Nat
 |0=>0
 |i+1=>fp u i+(u.testBit i).toNat
def EK(u:Nat):∀i,fp u i<=i
 |0=>aR _
 |i+1=>by have:=EK u i;show fp u i+(u.testBit i).toNat<=i+1;cases u.testBit i<;>simp<;>omega
def UL(u:Nat){j:Nat}(h:i<=j):fp u i<=fp u j:=by
 induction h with
 |refl=>exact aR _
 |step _ a=>exact fD a (Nat.le_add_right _ _)
def Ns(u i:Nat):(u >>> i)&&&1=(u.testBit i).toNat:=by rw[Nat.and_one_is_mod,Nat.testBit_eq_decide_div_mod_eq,qK];have:=Nat.mod_two_eq_zero_or_one (u / 2^i);rcases this with h|h<;>simp[h]
def GI{u:Nat}(a:u<2^32)(hi:i<=32):mz .u32 (l8 .u32 (u:Int) (i:Int)) 1=(((u.testBit i).toNat:Nat):Int):=by rw[Bv hi,<-Ns];exact lM (b:=1) (Bw a) af
def z1(u most:Nat)(i:Nat):St:=⟨dn 21 [(0,.v (.int .u32 u)),(1,.v (E most)),(5,.v (E (fp u i))),(6,.v (E i))],[]⟩
def OU{u most:Nat}(f:u<2^32):br prog 64 #[.int .u32 u,E most] H fun r H2=>r=.bool (decide (fp u 32<=most))/\H2=H:=by
 refine aP 21 func64 fun w0=>?_
 try simp only[E]
 refine ai ?_;refine bY (fun x=>32-x) (z1 u most) (fun i H2=>H2=H/\i<=32) 0 (ft (by simp only[go_sem,Y,E,fp])) (by simp only[go_sem,Y,z1]) ⟨rfl,aF _⟩ ?_;rintro i H2 ⟨rfl,hi⟩ a;simp only[z1];have hp:=EK u i;rcases aI i 32 with b|g
 .have h:decide ((i:Int)<32)=true:=bl O;have e1:=Z7 i;have j:=GI f (i:=i) O;have k:(u.testBit i).toNat<=1:=by cases u.testBit i<;>simp
  have d:IntKind.i64.wrap (((u.testBit i).toNat:Nat):Int)=(((u.testBit i).toNat:Nat):Int):=wrap64 O;have w2:IntKind.i64.wrap ((fp u i:Int)+(((u.testBit i).toNat:Nat):Int))=((fp u (i+1):Nat):Int):=by
   have e:(fp u i:Int)+(((u.testBit i).toNat:Nat):Int)=((fp u (i+1):Nat):Int):=by show _=(((fp u i+(u.testBit i).toNat:Nat)):Int);omega
   rw[e];exact wrap64 (by have:=EK u (i+1);omega)
  apply RG;simp only[go_sem,E,h,gH,j,d,w2,e1];exact a (i+1) _ _ O ak (by simp only[go_sem,Y,z1]) ⟨rfl,b⟩
 .have:i=32:=by omega
  subst this;have c:decide ((fp u 32:Int)<=(most:Int))=decide (fp u 32<=most):=by rw[Bool.eq_iff_iff,dA,dA];omega
  apply RG;simp only[go_sem,E,dL,c];exact aU (r:=[_]) rfl ⟨rfl,rfl⟩
end Go.Proofs.YtfaclfkpnmcmlaaGreatDoor
