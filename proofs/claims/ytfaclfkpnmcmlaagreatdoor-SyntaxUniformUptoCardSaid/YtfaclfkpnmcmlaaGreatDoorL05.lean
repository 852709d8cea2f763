import Derived.Test.YtfaclfkpnmcmlaaGreatDoorL02
import Derived.Test.YtfaclfkpnmcmlaaGreatDoorL04
import Derived.Sort.AssemblyPlain
set_option maxHeartbeats 8000000
set_option linter.all false
open Go.Proofs.Tryz hiding d6 t8
namespace Go.Proofs.YtfaclfkpnmcmlaaGreatDoor
open Go Go.Sx Dg Syn
section
variable {pb:Nat} {Z:Zs} {lv fv ov:Value}
def th(Z:Zs)(o:Nat)(h:aj)(r:Syn.aA)(m:Nat)(xs:List aj)(l:List M)(g:ad)(ee:List aI):Prop:=
 ∃b,Syn.run Z m (.sCalls o h xs l g)=some b/\b.l=r.l/\b.f=r.f/\ee++b.e=r.e
variable{ee:List aI}{g:ad}{l:List M}{r:Syn.aA}{h:aj}{o:Nat}
def Un{m:Nat}(k:th Z o h r m [] l g ee):l=r.l/\g=r.f/\ee=r.e:=by
 obtain⟨b,hb,h1,h2,h3⟩:=k;obtain⟨m',rfl,c⟩:=fD hb;have a:Syn.sCalls (Syn.run Z m') o h [] l g=some b:=c;unfold Syn.sCalls at a;simp only at a;cases a
 exact⟨h1,h2,by simpa using h3⟩
variable{xs:List aj}
def Um{m:Nat}{x:aj}(k:th Z o h r m (x::xs) l g ee):∃m' a,m=m'+1/\
  Syn.run Z m' (.listed false o (bL x))=some a/\l.length+1<=ar/\th Z o h r m' xs (gz (l++[⟨19,h.text,h.at',0,a.l,x.cond⟩]) x.cond) (Syn.joinAll g a.f) (ee++a.e):=by
 obtain⟨s,hb,h1,h2,h3⟩:=k;obtain⟨m',rfl,n⟩:=fD hb;have c:Syn.sCalls (Syn.run Z m') o h (x::xs) l g=some s:=n;unfold Syn.sCalls at c;simp only at c;obtain⟨a,ha,j⟩:=cQ c;obtain⟨_,p,i⟩:=cQ j;obtain⟨b,q,d⟩:=cQ i;cases d
 have:=u6 p;simp only[aH,gM]at this;exact⟨m',a,rfl,ha,this,b,q,h1,h2,by simpa[cD]using h3⟩
def th.le{m:Nat}(k:th Z o h r m xs l g ee):ee.length<=r.e.length:=by obtain⟨b,_,_,_,h⟩:=k;rw[<-h];simp
def wu{I:PH}{nb a:Nat}{d:T}{b:Option Addr}{k:Nat}(h:a8 I nb 0 [E a,sD b k d,rD d])(hr:bW I (.agg #[sD b k d,rD d]) d):bM I (.slice (some ⟨nb,0,none⟩) 1 1) [(a,d)]:=
 ⟨_,_,rfl,.inr ⟨nb,0,[E a,sD b k d,rD d],rfl,h,.one ⟨_,_,rfl,hr⟩⟩⟩
def BN(pb hb:Nat)(vc:Value)(vl a:Value)(n:Nat)(b:au)(x:Nat×Value):St:=⟨dn 216 [(0,.v (pt pb)),(3,.v (pt hb)),(6,.v vc),(11,.v x.2),(12,.v vl),(94,.v a),(95,.v (E n)),(96,.v (E x.1))],[]⟩
def Ww(pb:Nat)(Z:Zs)(a:Obj)(X:PH)(fin:List aj)(b:ad)(c:PH)(x:Nat×Value)(H:PH):Prop:=
 ∃I B,H=U [I,sg pb a,X,B]/\Dj [I,sg pb a,X,B]/\c.le I/\x.1<=fin.length/\cV I B x.2 ((fin.take x.1).foldl joinH b)
def BQ(pb hb:Nat)(vc:Value)(a:Value)(n:Nat)(x:Nat×Nat×Value×Value×Value):St:=⟨dn 216 [(0,.v (pt pb)),(3,.v (pt hb)),(18,.v x.2.2.1),(19,.v x.2.2.2.1),(167,.v a),(168,.v (E n)),(169,.v (E x.1))],[]⟩
def WM(pb:Nat)(Z:Zs)(lv fv ov:Value)(o X:Nat)(h:aj)(xs:List aj)(r:Syn.aA)(e:List aI)(a:PH)(x:Nat×Nat×Value×Value×Value)(H:PH):Prop:=
 ∃I W A B l g ee,H=U [I,sg pb (bS lv fv ov x.2.2.2.2 o),W,A,B]/\Dj [I,sg pb (bS lv fv ov x.2.2.2.2 o),W,A,B]/\a.le I/\x.1<=xs.length/\x.2.1<=X/\th Z o h r x.2.1 (xs.drop x.1) l g ee/\
  aw I A x.2.2.1 l/\l≠[]/\l.length<=ar/\cV I B x.2.2.2.1 g/\FN Z.length g/\bt I W x.2.2.2.2 (e++ee)
theorem XD{n:Nat}(ih:jZ pb Z lv fv ov n){h0:aj}(hr:Syn.run Z n (.stmt o h0)=some r):mG pb Z lv fv ov (.stmt o h0) r:=by
 obtain⟨m,rfl,hs⟩:=fD hr;have A:Syn.stmt Z (Syn.run Z m) o h0=some r:=hs;clear hs hr;intro ho I X dv xa xk e h hx g3 he hm hd;have hl:=h.len;unfold Syn.stmt at A;have dk:∀s:au,h0.text≠s->(h0.text == s)=false:=fun s k=>beq_eq_false_iff_ne.2 k;refine aP 216 func264 fun w0=>?_
 try simp only[E,pt,ij,sD,rD]
 apply cE 5;simp only[go_sem];refine jW 3 hd rfl fun hb j3=>?_;refine aJ (c:=.st _) j3 fun I2 P aq j9=>?_;have hc:a8 I2 hb 0 [E h0.at',sD xa xk h0.cond,rD h0.cond,.int .u8 h0.kind,.string ⟨⟨h0.text⟩⟩]:=(dz ao rfl:a8 (sg hb (.cells [E h0.at',sD xa xk h0.cond,rD h0.cond,.int .u8 h0.kind,.string ⟨⟨h0.text⟩⟩].toArray 227 (0,0))) hb 0 _).le j9;have gl:=hc.sub 0 1 ao;have hC:=hc.sub 1 2 ao;have fr:=hc.sub 4 1 ao;simp only[mq,io,mB,mC,g8]at gl hC fr;have h2:=h.le aq;have c8:=bt.le he aq;have C:=g3.le aq;apply RG;simp only[go_sem,iR,List.map,pt];refine Zm (l:=[.string ⟨⟨h0.text⟩⟩]) rfl (cellsU P (.head _) fr) (.inr ⟨gF,rfl⟩) ?_;by_cases e1:h0.text=nq
 .rw[ah e1]at A;have q1:(h0.text == [118,97,114])=true:=by rw[e1];decide
  have a4:=hx.lt2 (s:=nq) af e1;apply RG;simp only[go_sem,q1,pt];refine Zm (l:=[E h0.at',sD xa xk h0.cond,rD h0.cond,.int .u8 h0.kind,.string ⟨⟨h0.text⟩⟩]) (v:=.agg #[E h0.at',sD xa xk h0.cond,rD h0.cond,.int .u8 h0.kind,.string ⟨⟨h0.text⟩⟩]) rfl (cellsU P (.head _) hc) (.inl ⟨gv,rfl⟩) ?_;refine aZ ?_;refine av P [0,1] [] [sg pb _,X] rfl nN rfl (nG (h:=h0) O C) ?_;rintro v I4 qs R d⟨rfl,b5⟩;simp only[Z3]at R |-;refine aZ ?_;refine av R [0,1] [sg pb _,X] [] rfl Iy rfl (ih m (eF m) (.vrb o (bY h0)) r A ho (h2.le d) b5 (eH hx a4) (c8.le d) hm) ?_;rintro v I5 qs Q J⟨dv5,D5,rs,rfl,c0,⟨A5,B5,va5,vb5,rfl,rfl,b6,c6⟩,dc,c5⟩;simp only[Z3]at Q |-;refine aZ ?_;exact az rfl Q (r:=[va5,vb5]) rfl (D aq (D d J)) ⟨dv5,D5,[A5,B5],rfl,c0,⟨A5,B5,va5,vb5,rfl,rfl,b6,c6⟩,dc,c5⟩
 rw[ab e1]at A;have q1:(h0.text == [118,97,114])=false:=dk _ e1;by_cases e2:h0.text=eN
 .rw[ah e2]at A;have q2:(h0.text == [105,102])=true:=by rw[e2];decide
  apply RG;simp only[go_sem,q1,q2,pt];refine Zm (l:=[E h0.at',sD xa xk h0.cond,rD h0.cond,.int .u8 h0.kind,.string ⟨⟨h0.text⟩⟩]) (v:=.agg #[E h0.at',sD xa xk h0.cond,rD h0.cond,.int .u8 h0.kind,.string ⟨⟨h0.text⟩⟩]) rfl (cellsU P (.head _) hc) (.inl ⟨gv,rfl⟩) ?_;refine aZ ?_;refine av P [0,1] [sg pb _,X] [] rfl IX rfl (ih m (eF m) (.branch o h0 0) r A ho (by rw[e2];decide) h2 hx C c8 hm) ?_;rintro v I5 qs Q J⟨dv5,D5,rs,rfl,c0,⟨A5,B5,va5,vb5,rfl,rfl,b6,c6⟩,dc,c5⟩;simp only[Z3]at Q |-;refine aZ ?_;exact az rfl Q (r:=[va5,vb5]) rfl (D aq J) ⟨dv5,D5,[A5,B5],rfl,c0,⟨A5,B5,va5,vb5,rfl,rfl,b6,c6⟩,dc,c5⟩
 rw[ab e2]at A;have q2:(h0.text == [105,102])=false:=dk _ e2;by_cases e3:h0.text=uq
 .rw[ah e3]at A;obtain⟨a,ha,d2⟩:=cQ A;obtain⟨b,hF,b7⟩:=cQ d2;obtain⟨l1,cm,es⟩:=cQ b7;obtain⟨l2,ie,ja⟩:=cQ es;cases ja
  have a0:=kI cm;have hq:=kI ie;obtain rfl:=fH cm;obtain rfl:=fH ie;simp only[aH]at hm;have q3:(h0.text == [119,104,105,108,101])=true:=by rw[e3];decide
  have a4:=hx.lt2 (s:=uq) af e3;apply RG;simp only[go_sem,q1,q2,q3,pt];refine Zm (l:=[E h0.at',sD xa xk h0.cond,rD h0.cond,.int .u8 h0.kind,.string ⟨⟨h0.text⟩⟩]) (v:=.agg #[E h0.at',sD xa xk h0.cond,rD h0.cond,.int .u8 h0.kind,.string ⟨⟨h0.text⟩⟩]) rfl (cellsU P (.head _) hc) (.inl ⟨gv,rfl⟩) ?_;refine aZ ?_;refine av P [0,1] [] [sg pb _,X] rfl nN rfl (nG (h:=h0) O C) ?_;rintro v I4 qs R d⟨rfl,b5⟩;simp only[Z3]at R |-;refine aZ ?_;refine av R [0,1] [sg pb _,X] [] rfl Ez rfl (ih m (eF m) (.inside o (bY h0) 0) a ha ho (h2.le d) b5 (eH hx a4) (c8.le d) O) ?_;rintro v I5 qs Q J⟨dv5,D5,rs,rfl,c0,⟨A5,B5,va5,vb5,rfl,rfl,b6,c6⟩,dc,c5⟩;simp only[Z3]at Q |-;refine aZ ?_;refine ak Q [2,0,1,3] fun b4=>?_;refine aJ b4 fun I6 b4 aS ef=>?_;have kp:bk I6 va5 a.l:=b6.sl aS ef;refine ak b4 [2,0,1] fun b3=>?_;refine aJ b3 fun I7 b3 U k1=>?_;have ej:=D aS U;have kt:bM I7 vb5 a.f:=c6.sl ej k1;have eq:=D d (D J ej);refine av b3 [0,1] [sg pb _,D5] [] rfl xO rfl (ih m (eF m) (.block o a.f 1) b hF ho (h2.le eq) kt dc (c0.le ej) (by simp only[aH];omega)) ?_;rintro v I8 qs cn a6⟨dv8,D8,rs,rfl,kO,⟨A8,B8,va8,vb8,rfl,rfl,el,ec⟩,kx,lb⟩;simp only[Z3]at cn |-;refine aZ ?_;refine ak cn [2,0,1,3] fun a1=>?_;refine aJ a1 fun I9 a1 K dd=>?_;have kn:bk I9 va8 b.l:=el.sl K dd;have ia:=D a6 K;have gs:=D eq ia;refine av a1 [0,1,2] [] [sg pb _,D8,B8] rfl AD rfl (CD (kind:=9) (h:=h0) (hc.le gs) (C.le gs)) ?_;rintro v c7 qs w j⟨A10,rfl,bx⟩;simp only[Z3]at w |-;refine aZ ?_
  refine av w [0,1,2,3] [A10] [sg pb _,D8,B8] rfl kL rfl (kK bx (bk.le kp (D U (D ia j))) (by simp[ar]) a0) ?_;rintro v em qs B p⟨A11,rfl,h6⟩;simp only[Z3]at B |-;refine aZ ?_;refine av B [0,1,2,3] [A11] [sg pb _,D8,B8] rfl kL rfl (kK h6 (bk.le kn (D j p)) (by rw[eK];simp[ar]) hq) ?_;rintro v12 ei qs G u⟨A12,rfl,c4⟩;simp only[Z3]at G |-;refine aZ ?_;refine ak G [1,2,0,3] fun V=>?_;have k912:=D K (D j (D p u));exact az rfl V (r:=[v12,vb8]) rfl (D aq (D gs (D j (D p u)))) ⟨dv8,D8,[A12,B8],rfl,by simpa[cD]using kO.le k912,⟨A12,B8,v12,vb8,rfl,rfl,c4,ec.le k912⟩,kx,by simp only[eK];simp[ar]⟩
 rw[ab e3]at A;have q3:(h0.text == [119,104,105,108,101])=false:=dk _ e3;by_cases e4:h0.text=qY
 .rw[ah e4]at A;have q4:(h0.text == [123])=true:=by rw[e4];decide
  apply RG;simp only[go_sem,q1,q2,q3,q4,pt];refine Zm (l:=[E h0.at']) rfl (cellsU P (.head _) gl) (.inr ⟨eR,rfl⟩) ?_;refine aZ ?_;refine Zm (l:=[sD xa xk h0.cond,rD h0.cond]) (v:=.agg #[sD xa xk h0.cond,rD h0.cond]) rfl (cellsU P (.head _) hC) (.inl ⟨jG,rfl⟩) ?_;refine aZ ?_;refine cI P (by exact jw) rfl rfl rfl rfl rfl af fun nb I4 R d hj=>?_;have b5:bM I4 (.slice (some ⟨nb,0,none⟩) 1 1) (bL h0):=wu (bA hj (by simp[ax,Value.cells]) (by simp[ax,Value.cells,E,sD,rD])) (C.le d);refine aZ ?_;refine av R [0,1] [sg pb _,X] [] rfl xO rfl (ih m (eF m) (.block o (bL h0) 0) r A ho (h2.le d) b5 (mT hx) (c8.le d) hm) ?_;rintro v I5 qs Q J⟨dv5,D5,rs,rfl,c0,⟨A5,B5,va5,vb5,rfl,rfl,b6,c6⟩,dc,c5⟩;simp only[Z3]at Q |-;refine aZ ?_;exact az rfl Q (r:=[va5,vb5]) rfl (D aq (D d J)) ⟨dv5,D5,[A5,B5],rfl,c0,⟨A5,B5,va5,vb5,rfl,rfl,b6,c6⟩,dc,c5⟩
 rw[ab e4]at A;have q4:(h0.text == [123])=false:=dk _ e4;by_cases e5:h0.text=uo
 .rw[ah e5]at A;obtain⟨fin,g,d1⟩:∃yes g,bP Z (bY h0) (bq bT)=(yes,g):=⟨_,_,rfl⟩;rw[d1]at A;simp only at A;obtain⟨a,ha,d2⟩:=cQ A;obtain⟨l1,cm,b7⟩:=cQ d2;obtain⟨f2,ee2,ht⟩:∃g e1,Syn.take Z (fin.foldl joinH a.f) bT=(g,e1):=⟨_,_,rfl⟩;rw[ht]at b7;simp only at b7;cases b7
  have a0:=kI cm;obtain rfl:=fH cm;simp only[aH]at hm;have q5:(h0.text == [114,101,116,117,114,110])=true:=by rw[e5];decide
  have a4:=hx.lt2 (s:=uo) af e5;have dx:=oh h.ok (eH hx a4) (is:=bq bT);have fA:=qU h.ok (eH hx a4) (bq bT);have dT:=jx h.ok (eH hx a4) (bq bT);rw[d1]at dx fA dT;simp only at dx fA dT;apply RG;simp only[go_sem,q1,q2,q3,q4,q5,pt];refine Zm (l:=[E h0.at',sD xa xk h0.cond,rD h0.cond,.int .u8 h0.kind,.string ⟨⟨h0.text⟩⟩]) (v:=.agg #[E h0.at',sD xa xk h0.cond,rD h0.cond,.int .u8 h0.kind,.string ⟨⟨h0.text⟩⟩]) rfl (cellsU P (.head _) hc) (.inl ⟨gv,rfl⟩) ?_;refine aZ ?_;refine av P [0,1] [] [sg pb _,X] rfl nN rfl (nG (h:=h0) O C) ?_;rintro v I4 qs R d⟨rfl,b5⟩;simp only[Z3]at R |-;refine aZ ?_;refine av R [0,1] [] [sg pb _,X] rfl nO rfl (oq (s:=bT)) ?_;rintro vi I5 qs Q J⟨rfl,f0⟩;simp only[Z3]at Q |-;obtain⟨fi,first,cap,rfl,gi,ci⟩:=id f0;refine aZ ?_;refine av Q [0,1] [sg pb _] [X] rfl oN rfl (pj (h2.le (D d J)) (b5.le J) (eH hx a4) f0) ?_;rintro v I6 qs b4 aS⟨A6,B6,va6,vb6,rfl,rfl,ef,f7⟩;rw[d1]at ef f7;simp only at ef f7;obtain⟨xsa,xsc,rfl⟩:=ef.shape;simp only[Z3]at b4 |-;refine aZ ?_;refine ak b4 [1,0,2,3] fun b3=>?_;refine aJ b3 fun I7 b3 U i1=>?_;have hG:fM I7 (.slice xsa fin.length xsc) fin:=ef.sl U i1;refine ak b3 [1,0,2] fun cn=>?_;refine aJ cn fun I8 cn a6 ec=>?_;have kq:bM I8 vb6 g:=f7.sl (D U a6) ec;have gt:=D d (D J (D aS (D U a6)));refine av cn [0,1] [sg pb _,X] [] rfl tL rfl (tF (ih m (eF m) (.line 0 o g 0) a ha) ho (h2.le gt) kq dT (c8.le gt) O) ?_;rintro v I9 qs a1 K⟨dv9,D9,rs,rfl,gq,⟨A9,B9,va9,vb9,rfl,rfl,dd,f6⟩,f4,i0⟩;simp only[Z3]at a1 |-;refine aZ ?_;refine ak a1 [2,0,1,3] fun w=>?_;refine aJ w fun c7 w j bx=>?_;have da:bk c7 va9 a.l:=dd.sl j bx
  have fz:=hG.le (D a6 (D K j));have k210:=D gt (D K j);refine bV (fun x=>fin.length-x.1) (BN pb hb (.func (.func 291) #[] #[pt hb]) va9 (.slice xsa fin.length xsc) fin.length h0.text) (Ww pb Z (bS lv fv ov dv9 o) D9 fin a.f c7) (0,vb9) cN (by simp only[go_sem,Y,BN]) ?_ ?_
  .exact⟨c7,B9,rfl,w,aD _,aE _,f6.le j⟩
  rintro⟨i,vb⟩ H ⟨em,B11,rfl,B,p,hn,W⟩ ca;simp only at hn W;simp only[BN];have ek:=vD (Z:=Z) (hs:=fin.take i) (fun y hy=>(dx y (lL hy)).1) f4;rcases aK i fin.length with eA|j1
  .have h7:decide ((i:Int)<(fin.length:Int))=true:=by simp;omega
   have f1:=wrap64 (n:=i+1) O;have f1':IntKind.i64.wrap ((i:Int)+1)=((i+1:Nat):Int):=by rw[<-f1];congr 1
   obtain⟨y,g2⟩:∃y,fin[i]?=some y:=⟨_,aY eA⟩;have i5:=(dx y (db g2)).1;obtain⟨bc,off2,cs2,rfl,hz,d7⟩:=(fz.le p).load dM.len g2;obtain⟨ya,yk,rfl,et⟩:=hz;have er:=sd (g:=joinH) (z:=a.f) g2;have i4:=i5.le;refine eB h7 ?_;refine⟨O,?_⟩;refine Zm (l:=[E y.at',sD ya yk y.cond,rD y.cond,.int .u8 y.kind,.string ⟨⟨y.text⟩⟩]) (v:=.agg #[E y.at',sD ya yk y.cond,rD y.cond,.int .u8 y.kind,.string ⟨⟨y.text⟩⟩]) rfl (cellsU B (.head _) d7) (.inl ⟨gv,rfl⟩) ?_;refine aZ ?_;refine av B [2,0,1] [B11] [sg pb _,D9] rfl jK rfl (jL (a:=y.at') W et ek.ok.2 (fun t ht=>by have:=ek.le t ht;omega) O (by have:=ek.len;omega)) ?_;rintro v12 ei qs G u⟨B12,rfl,ed⟩;simp only[Z3]at G |-;refine dR f1' ?_;refine ak G [1,2,0] fun V=>?_;exact ca (i+1,v12) _ _ bi cN (by simp only[go_sem,Y,BN]) ⟨ei,B12,rfl,V,D p u,eA,by simp only;rw[er];exact ed⟩
  .have hk:i=fin.length:=by omega
   subst hk;have h7:decide ((fin.length:Int)<(fin.length:Int))=false:=ao;rw[dK]at W ek;refine eB h7 ?_;have S:=D k210 p;refine av B [0,1,2] [] [sg pb _,D9,B11] rfl AD rfl (CD (kind:=10) (h:=h0) (hc.le S) (C.le S)) ?_;rintro v ei qs G u⟨A12,rfl,c4⟩;simp only[Z3]at G |-;refine aZ ?_;refine av G [0,1,2,3] [A12] [sg pb _,D9,B11] rfl kL rfl (kK c4 (bk.le da (D p u)) (by simp[ar]) a0) ?_;rintro v13 i3 qs V ap⟨A13,rfl,c3⟩;simp only[Z3]at V |-;refine aZ ?_;refine ak V [3,0,1,2] fun a7=>?_;refine aJ a7 fun h9 a7 an hX=>?_;have k1114:=D u (D ap an);have hM:bM h9 vb (fin.foldl joinH a.f):=cV.sl (W.le (D u ap)) an hX;have k914:=D j (D p k1114);refine av a7 [1,2,0] [sg pb _,D9] [A13] rfl oM rfl (pw (s:=bT) (h2.le (D S k1114)) hM ek af (gq.le k914) (by rw[ht];simp only[aH];omega)) ?_;rintro v15 gr qs a3 am⟨dv15,D15,rs,rfl,a9,B15,rfl,ba⟩;rw[ht]at a9 ba;have tf:=iX h.ok ek (s:=bT) af;rw[ht]at tf;simp only at a9 ba tf;simp only[Z3]at a3 |-;refine aZ ?_;refine ak a3 [0,1,3,2] fun cA=>?_;exact az rfl cA (r:=[v13,v15]) rfl (D aq (D S (D k1114 am))) ⟨dv15,D15,[A13,B15],rfl,by simpa[cD]using a9,⟨A13,B15,v13,v15,rfl,rfl,c3.le (D an am),ba⟩,tf,by simp only[eK];simp[ar]⟩
 rw[ab e5]at A;have q5:(h0.text == [114,101,116,117,114,110])=false:=dk _ e5;by_cases e6:h0.text=um\/h0.text=jP
 .rw[ah e6]at A;obtain⟨a,ha,d2⟩:=cQ A;obtain⟨l1,cm,b7⟩:=cQ d2;obtain⟨f2,ee2,ht⟩:∃g e1,Syn.take Z a.f bT=(g,e1):=⟨_,_,rfl⟩;rw[ht]at b7;simp only at b7;cases b7
  have a0:=kI cm;obtain rfl:=fH cm;simp only[aH]at hm;have a4:h0.at'<Z.length:=e6.elim (hx.lt2 (s:=um) af) (hx.lt2 (s:=jP) af);by_cases e7:h0.text=jP
  have q6:(h0.text == [112,114,105,110,116])=false:=by rw[e7];decide
  have q7:(h0.text == [97,115,115,101,114,116])=true:=by rw[e7];decide
  rw[ah e7]at a0 |-;apply RG;simp only[go_sem,q1,q2,q3,q4,q5,q6,q7,pt];refine Zm (l:=[.string ⟨⟨h0.text⟩⟩]) rfl (cellsU P (.head _) fr) (.inr ⟨gF,rfl⟩) ?_;apply RG;simp only[go_sem,q7,pt];refine Zm (l:=[E h0.at',sD xa xk h0.cond,rD h0.cond,.int .u8 h0.kind,.string ⟨⟨h0.text⟩⟩]) (v:=.agg #[E h0.at',sD xa xk h0.cond,rD h0.cond,.int .u8 h0.kind,.string ⟨⟨h0.text⟩⟩]) rfl (cellsU P (.head _) hc) (.inl ⟨gv,rfl⟩) ?_;refine aZ ?_;refine av P [0,1] [] [sg pb _,X] rfl nN rfl (nG (h:=h0) O C) ?_;rintro v I4 qs R d⟨rfl,b5⟩;simp only[Z3]at R |-;refine aZ ?_;refine av R [0,1] [sg pb _,X] [] rfl tL rfl (tF (ih m (eF m) (.line 0 o (bY h0) 0) a ha) ho (h2.le d) b5 (eH hx a4) (c8.le d) O) ?_;rintro v I9 qs a1 K⟨dv9,D9,rs,rfl,gq,⟨A9,B9,va9,vb9,rfl,rfl,dd,f6⟩,f4,i0⟩;simp only[Z3]at a1 |-;refine aZ ?_;refine ak a1 [2,0,1,3] fun w=>?_;refine aJ w fun c7 w j bx=>?_;have da:bk c7 va9 a.l:=dd.sl j bx;refine ak w [2,0,1] fun B=>?_;refine aJ B fun em B p W=>?_;have f3:bM em vb9 a.f:=f6.sl (D j p) W;have S:=D d (D K (D j p));refine av B [0,1] [] [sg pb _,D9] rfl AD rfl (CD (kind:=12) (h:=h0) (hc.le S) (C.le S)) fun v ei qs G u q=>?_
  rotate_left
  have q6:(h0.text == [112,114,105,110,116])=true:=by rw[e6.resolve_right e7];decide
  have q7:(h0.text == [97,115,115,101,114,116])=false:=dk _ e7;rw[ab e7]at a0 |-;apply RG;simp only[go_sem,q1,q2,q3,q4,q5,q6,pt];refine Zm (l:=[.string ⟨⟨h0.text⟩⟩]) rfl (cellsU P (.head _) fr) (.inr ⟨gF,rfl⟩) ?_;apply RG;simp only[go_sem,q7,pt];refine Zm (l:=[E h0.at',sD xa xk h0.cond,rD h0.cond,.int .u8 h0.kind,.string ⟨⟨h0.text⟩⟩]) (v:=.agg #[E h0.at',sD xa xk h0.cond,rD h0.cond,.int .u8 h0.kind,.string ⟨⟨h0.text⟩⟩]) rfl (cellsU P (.head _) hc) (.inl ⟨gv,rfl⟩) ?_;refine aZ ?_;refine av P [0,1] [] [sg pb _,X] rfl nN rfl (nG (h:=h0) O C) ?_;rintro v I4 qs R d⟨rfl,b5⟩;simp only[Z3]at R |-;refine aZ ?_;refine av R [0,1] [sg pb _,X] [] rfl tL rfl (tF (ih m (eF m) (.line 0 o (bY h0) 0) a ha) ho (h2.le d) b5 (eH hx a4) (c8.le d) O) ?_;rintro v I9 qs a1 K⟨dv9,D9,rs,rfl,gq,⟨A9,B9,va9,vb9,rfl,rfl,dd,f6⟩,f4,i0⟩;simp only[Z3]at a1 |-;refine aZ ?_;refine ak a1 [2,0,1,3] fun w=>?_;refine aJ w fun c7 w j bx=>?_;have da:bk c7 va9 a.l:=dd.sl j bx;refine ak w [2,0,1] fun B=>?_;refine aJ B fun em B p W=>?_;have f3:bM em vb9 a.f:=f6.sl (D j p) W;have S:=D d (D K (D j p));refine av B [0,1] [] [sg pb _,D9] rfl AD rfl (CD (kind:=11) (h:=h0) (hc.le S) (C.le S)) fun v ei qs G u q=>?_
  all_goals
   obtain⟨A12,rfl,c4⟩:=q;simp only[Z3]at G |-;refine aZ ?_;refine av G [0,1,2] [A12] [sg pb _,D9] rfl kL rfl (kK c4 (bk.le da (D p u)) (by simp[ar]) a0) ?_;rintro v13 i3 qs V ap⟨A13,rfl,c3⟩;simp only[Z3]at V |-;refine aZ ?_;have k1113:=D u ap;refine av V [1,2,0] [sg pb _,D9] [A13] rfl oM rfl (pw (s:=bT) (h2.le (D S k1113)) (f3.le k1113) f4 af (gq.le (D j (D p k1113))) (by rw[ht];simp only[aH];omega)) ?_;rintro v15 gr qs a3 am⟨dv15,D15,rs,rfl,a9,B15,rfl,ba⟩;rw[ht]at a9 ba;have tf:=iX h.ok f4 (s:=bT) af;rw[ht]at tf;simp only at a9 ba tf;simp only[Z3]at a3 |-;refine aZ ?_;refine ak a3 [0,1,3,2] fun cA=>?_;exact az rfl cA (r:=[v13,v15]) rfl (D aq (D S (D k1113 am))) ⟨dv15,D15,[A13,B15],rfl,by simpa[cD]using a9,⟨A13,B15,v13,v15,rfl,rfl,c3.le am,ba⟩,tf,by simp only[eK];simp[ar]⟩
 rw[ab e6]at A;have q6:(h0.text == [112,114,105,110,116])=false:=dk _ fun k=>e6 (.inl k);have q7:(h0.text == [97,115,115,101,114,116])=false:=dk _ fun k=>e6 (.inr k);simp only at A;apply RG;simp only[go_sem,q1,q2,q3,q4,q5,q6,q7,pt];refine Zm (l:=[E h0.at']) rfl (cellsU P (.head _) gl) (.inr ⟨eR,rfl⟩) ?_;refine aZ ?_;refine Zm (l:=[sD xa xk h0.cond,rD h0.cond]) (v:=.agg #[sD xa xk h0.cond,rD h0.cond]) rfl (cellsU P (.head _) hC) (.inl ⟨jG,rfl⟩) ?_;refine aZ ?_;refine cI P (by exact jw) rfl rfl rfl rfl rfl af fun nb I4 R d hj=>?_;have b5:bM I4 (.slice (some ⟨nb,0,none⟩) 1 1) (bL h0):=wu (bA hj (by simp[ax,Value.cells]) (by simp[ax,Value.cells,E,sD,rD])) (C.le d);have fh:=mT hx;have nf:=nT h.ok fh 7 0;have nl:=vO h.ok fh 7 0;refine aZ ?_;by_cases e7:(named Z (bL h0) 7 0).l=[]
 .rw[ah e7]at A;cases A
  refine av R [0,1] [sg pb _,X] [] rfl vm rfl (vP (kind:=7) (slot:=0) (f:=bL h0) (h2.le d) b5 fh (c8.le d) (by simpa using hm)) ?_;rintro v I5 qs Q J⟨dv5,D5,rs,rfl,c0,⟨A5,B5,va5,vb5,rfl,rfl,b6,c6⟩,dc,c5⟩;obtain⟨aa,ac,rfl⟩:=b6.shape;simp only[Z3]at Q |-;have h0l:(((named Z (bL h0) 7 0).l.length:Int) == 0)=true:=by rw[e7];rfl
  apply RG;simp only[go_sem,E,pt,sD,rD,h0l];refine ak Q [2,0,1,3] fun b4=>?_;refine aJ b4 fun I6 b4 aS ef=>?_;refine ak b4 [2,0,1] fun b3=>?_;refine aJ b3 fun I7 b3 U i1=>?_;have ej:=D aS U;refine de b3 fun cn=>?_;refine de cn fun a1=>?_;refine ak a1 [2,3,0,1] fun w=>?_;exact az rfl w (r:=[.slice none 0 0,.slice none 0 0]) rfl (D aq (D d (D J ej))) ⟨dv5,D5,[PH.no,PH.no],rfl,c0.le ej,⟨PH.no,PH.no,_,_,rfl,rfl,Ow.nil _ _ _ _,Ow.nil _ _ _ _⟩,FN.nil _,aE _⟩
 rw[ab e7]at A;obtain⟨xs,g,d1⟩:∃yes g,bP Z (named Z (bL h0) 7 0).f (bq cq)=(yes,g):=⟨_,_,rfl⟩;rw[d1]at A;simp only at A;obtain⟨g1,ee1,ht⟩:∃g1 e1,Syn.take Z g iC=(g1,e1):=⟨_,_,rfl⟩;rw[ht]at A;simp only at A;obtain⟨b,hF,d2⟩:=cQ A;obtain⟨l1,cm,b7⟩:=cQ d2;obtain⟨c,j7,es⟩:=cQ b7;obtain⟨f2,ee2,gf⟩:∃g e1,Syn.take Z c.f bT=(g,e1):=⟨_,_,rfl⟩;rw[gf]at es;simp only at es;cases es
 have a0:=kI cm;obtain rfl:=fH cm;simp only[aH]at hm;have dx:=oh h.ok nf (is:=bq cq);have fA:=qU h.ok nf (bq cq);have dT:=jx h.ok nf (bq cq);rw[d1]at dx fA dT;simp only at dx fA dT;have tf:=iX h.ok dT (s:=iC) af;rw[ht]at tf;simp only at tf;refine av R [0,1] [sg pb _,X] [] rfl vm rfl (vP (kind:=7) (slot:=0) (f:=bL h0) (h2.le d) b5 fh (c8.le d) O) ?_;rintro v I5 qs Q J⟨dv5,D5,rs,rfl,c0,⟨A5,B5,va5,vb5,rfl,rfl,b6,c6⟩,dc,c5⟩;obtain⟨aa,ac,rfl⟩:=b6.shape;simp only[Z3]at Q |-;have h0l:(((named Z (bL h0) 7 0).l.length:Int) == 0)=false:=by rw[i7];intro k;exact e7 (List.length_eq_zero_iff.1 O)
 apply RG;simp only[go_sem,E,pt,sD,rD,h0l];refine ak Q [3,0,1,2] fun b4=>?_;refine aJ b4 fun I6 b4 aS f7=>?_;have kv:bM I6 vb5 (named Z (bL h0) 7 0).f:=c6.sl aS f7;refine av b4 [0,1,2] [] [sg pb _,D5,A5] rfl nO rfl (oq (s:=cq)) ?_;rintro vi I7 qs b3 U⟨rfl,f0⟩;simp only[Z3]at b3 |-;obtain⟨fi,first,cap,rfl,gi,ci⟩:=id f0;refine aZ ?_;have eq:=D d (D J (D aS U));refine av b3 [0,1,2] [sg pb _] [D5,A5] rfl oN rfl (pj (h2.le eq) (kv.le U) nf f0) ?_;rintro v I8 qs cn a6⟨A8,B8,va8,vb8,rfl,rfl,el,ec⟩;rw[d1]at el ec;simp only at el ec;obtain⟨xsa,xsc,rfl⟩:=el.shape;simp only[Z3]at cn |-;refine aZ ?_;refine ak cn [1,0,2,3,4] fun a1=>?_;refine aJ a1 fun I9 a1 K dd=>?_;have hG:fM I9 (.slice xsa xs.length xsc) xs:=el.sl K dd;refine ak a1 [1,0,2,3] fun w=>?_;refine aJ w fun c7 w j h1=>?_;have hO:bM c7 vb8 g:=ec.sl (D K j) h1;have k710:=D a6 (D K j);have k510:=D aS (D U k710);have k210:=D eq k710;refine av w [0,1,2] [sg pb _,D5] [A5] rfl oM rfl (pw (s:=iC) (h2.le k210) hO dT af (c0.le k510) (by rw[ht];simp only[aH];omega)) ?_;rintro v em qs B p⟨dv11,D11,rs,rfl,ea,B11,rfl,W⟩;rw[ht]at ea W;simp only at ea W;simp only[Z3]at B |-;refine aZ ?_;refine ak B [2,0,1,3] fun G=>?_;refine aJ G fun ei G u ed=>?_;have hN:bM ei v g1:=W.sl u ed;have k1012:=D p u;refine av G [0,1,2] [sg pb _,D11] [A5] rfl tL rfl (tF (ih m (eF m) (.line 0 o g1 0) b hF) ho (h2.le (D k210 k1012)) hN tf (ea.le u) (by simp only[aH];omega)) fun v i3 qs V ap q=>?_
 obtain⟨dv13,D13,rs,rfl,hS,⟨A13,B13,va13,vb13,rfl,rfl,c3,hY⟩,hR,kj⟩:=q;simp only[Z3]at V |-;refine aZ ?_;refine ak V [2,0,1,3,4] fun a7=>?_;refine aJ a7 fun h9 a7 an h5=>?_;have hJ:bk h9 va13 b.l:=c3.sl an h5;have k514:=D k510 (D k1012 (D ap an));have k214:=D k210 (D k1012 (D ap an));refine av a7 [3,0,1,2] [A5] [sg pb _,D13,B13] rfl kL rfl (kK (b6.le k514) hJ c5 a0) ?_;rintro v15 gr qs a3 am⟨A15,rfl,gb⟩;obtain⟨za,zc,rfl⟩:=gb.shape;simp only[Z3]at a3 |-;refine aZ ?_;refine ak a3 [1,2,0,3] fun cA=>?_;have k1315:=D an am;have kk:th Z o h0 ⟨c.l,c.f,(named Z (bL h0) 7 0).e++ee1++b.e++c.e⟩ m xs (give (named Z (bL h0) 7 0).l b.l) b.f ((named Z (bL h0) 7 0).e++ee1++b.e):=⟨c,j7,rfl,rfl,rfl⟩;have fs:=hG.le (D j (D k1012 (D ap k1315)));have k215:=D k214 am;refine bV (fun x=>xs.length-x.1) (BQ pb hb (.func (.func 291) #[] #[pt hb]) (.slice xsa xs.length xsc) xs.length) (WM pb Z lv fv ov o m h0 xs ⟨c.l,c.f,(named Z (bL h0) 7 0).e++ee1++b.e++c.e⟩ e gr) (0,m,.slice za (give (named Z (bL h0) 7 0).l b.l).length zc,vb13,dv13) cN (by simp only[go_sem,Y,BQ]) ?_ ?_
 .exact⟨gr,D13,A15,B13,_,_,_,rfl,cA,aD _,aE _,aR _,kk,gb,fun k=>e7 (by simpa[give]using k),by rw[eK];exact c5,hY.le k1315,hR,by simpa[cD]using hS.le k1315⟩
 rintro⟨i,m',va,vb,dw⟩ H ⟨li,D17,A17,B17,l,gg,ee,rfl,d4,cl,hn,jf,fC,hA,jo,ic,hB,gn,hE⟩ ca;simp only at hn jf fC hA hB hE;simp only[BQ];have g0:=D k215 cl;have i2:=h2.le g0;rcases aK i xs.length with a4|j1
 .have eh:decide ((i:Int)<(xs.length:Int))=true:=by simp;omega
  have f1:=wrap64 (n:=i+1) O;have f1':IntKind.i64.wrap ((i:Int)+1)=((i+1:Nat):Int):=by rw[<-f1];congr 1
  obtain⟨x,gc⟩:∃x,xs[i]?=some x:=⟨_,aY a4⟩;obtain⟨i9,k9⟩:=dx x (db gc);obtain⟨bb,off,cs,rfl,j5,fn⟩:=(fs.le cl).load dM.len gc;obtain⟨ya,yk,rfl,b8⟩:=j5;have j2:xs.drop i=x::xs.drop (i+1):=by rw[jz a4];rw[aY a4]at gc;rw[cX gc]
  rw[j2]at fC;obtain⟨m'',aa',rfl,kd,e0,c9⟩:=Um fC;have e8:=c9.le;simp only[aH]at e8;refine eB eh ?_;refine⟨O,?_⟩;refine Zm (l:=[E x.at',sD ya yk x.cond,rD x.cond,.int .u8 x.kind,.string ⟨⟨x.text⟩⟩]) (v:=.agg #[E x.at',sD ya yk x.cond,rD x.cond,.int .u8 x.kind,.string ⟨⟨x.text⟩⟩]) rfl (cellsU d4 (.head _) fn) (.inl ⟨gv,rfl⟩) ?_;refine aZ ?_;refine cI d4 (by exact jw) rfl rfl rfl rfl rfl af fun nb2 h8 cy L hh=>?_;have hP:bM h8 (.slice (some ⟨nb2,0,none⟩) 1 1) (bL x):=wu (bA hh (by simp[ax,Value.cells]) (by simp[ax,Value.cells,E,sD,rD])) (b8.le L);refine aZ ?_;refine av cy [0,1,2,3] [sg pb _,D17] [A17,B17] rfl Et rfl (ih m'' O (.listed false o (bL x)) aa' kd ho (i2.le L) hP (mT i9) (hE.le L) (by simp only[aH];omega)) ?_;rintro v k8 qs cx a2⟨dv19,D19,rs,rfl,c1,⟨A19,B19,va19,vb19,rfl,rfl,eg,c2⟩,f5,ki⟩;have d9:=eg.capN ag.len;obtain⟨ka,kc,rfl⟩:=eg.shape;simp only[Z3]at cx |-;refine aZ ?_;refine ak cx [2,0,1,3,4,5] fun cr=>?_;refine aJ cr fun k7 cr cj h4=>?_;have hH:bk k7 (.slice ka aa'.l.length kc) aa'.l:=eg.sl cj h4;refine ak cr [2,0,1,3,4] fun cp=>?_;refine aJ cp fun k6 cp cf hV=>?_;have hK:bM k6 vb19 aa'.f:=c2.sl (D cj cf) hV;have k1921:=D cj cf;have k1721:=D L (D a2 k1921);have k221:=D g0 k1721;refine Zm (l:=[.string ⟨⟨h0.text⟩⟩]) rfl (cellsU cp (.head _) (fr.le k221)) (.inr ⟨gF,rfl⟩) ?_;refine aZ ?_;refine Zm (l:=[E h0.at']) rfl (cellsU cp (.head _) (gl.le k221)) (.inr ⟨eR,rfl⟩) ?_;refine aZ ?_;refine cI cp (by exact dr) rfl rfl rfl rfl rfl af fun nb3 ld hw b2 hg=>?_;refine aZ ?_;refine ak hw [2,0,1,3] fun fl=>?_
  have k1722:=D k1721 b2;obtain⟨bs,ds,hD⟩:=hA;obtain⟨wa,wc,rfl⟩:=ds.slice;unfold ar at e0 ic;refine oB (m:=1) fl (by exact dr) ds rfl rfl rfl rfl (cellsU fl (.head _) (bA (l:=[.int .u8 19,.string ⟨⟨h0.text⟩⟩,.int .i64 h0.at',.int .i64 0,.slice ka aa'.l.length kc,.slice ya (T.subs x.cond).length yk,E (T.plc (T.subs x.cond) x.cond)]) hg (by simp[ax,Value.cells]) (by simp[ax,Value.cells,E]))) rfl rfl O (by unfold maxLen;omega) fun v' k4 A24 d3 b1 ga=>?_;obtain⟨na,nc,rfl⟩:=ga.slice;have k1724:=D k1722 b1;have k1824:=D a2 (D k1921 (D b2 b1));have d0:aw k4 A24 (.slice na (l.length+1) nc) (l++[⟨19,h0.text,h0.at',0,aa'.l,x.cond⟩]):=by refine⟨_,by rw[aH];exact ga,LR.app (hD.mono fun _ _ h=>ag.le h k1724) (.one (ag.mk (n:=⟨19,h0.text,h0.at',0,aa'.l,x.cond⟩) (b8.le k1724) (hH.le (D cf (D b2 b1))) d9))⟩
  obtain⟨n1,l1,rfl⟩:∃n1 l1,l=n1::l1:=by
   cases l with
   |nil=>exact absurd rfl jo
   |cons n1 l1=>exact⟨n1,l1,rfl⟩
  rw[aU]at d0 c9;rw[JN]at c9;obtain⟨g5,cap5,cur,a5,k5,ev,rfl,la,d5,ex,hf⟩:=JP d0;have ev1:na=some ⟨g5,0,none⟩:=by injection ev
  subst ev1;refine aZ ?_;refine rK mixed [0,1,2,3,4,5,6,7,8,9,10,11] [] [] [4] [7] (sg g5 (.cells cur 60 (0,0))) rfl rfl ?_;refine ft ?_;refine⟨O,?_⟩;refine rI (l:=[sD a5 k5 n1.cond,rD n1.cond]) (v:=.agg #[sD a5 k5 n1.cond,rD n1.cond]) rfl (ju d3) rfl rfl rfl d5 (.inl ⟨jG,rfl⟩) ?_;refine ft ?_;refine zI d3 [0,1,2,3] rfl rfl rfl rfl rfl qp (by rfl) (ps:=[]) (F:=[sg g5 _,sg pb _,D19,B17]) rfl (ju d3) (qA (b8.le k1724)) ?_;rintro v lc qs fc b0⟨rfl,ez⟩;obtain⟨ra,rk,rfl⟩:=ez.shape2;simp only[Z3]at fc |-;refine ft ?_;refine cH fc [0,1,2,3] [] [sg g5 _,sg pb _,D19,B17] rfl ls rfl (ln (ex.le b0) ez) ?_;rintro v k3 qs fb cc⟨rfl,ey⟩;obtain⟨ta,tk,rfl⟩:=ey.shape2;simp only[Z3]at fb |-;refine ft ?_;refine⟨O,?_⟩;refine cY fb rfl rfl rfl rfl rfl rfl (by exact qW) (by simp;omega) fun hv=>?_;apply aN;have h3:=hf k3 ta tk (n1.cond.and x.cond.not) (D b0 cc) ey;refine aZ ?_;have k1726:=D k1724 (D b0 cc);have k2126:=D b2 (D b1 (D b0 cc));refine av hv [3,0,1,2] [B17] [sg g5 _,sg pb _,D19] rfl j8 rfl (ke (N:=Z.length) O (hB.le k1726) gn (hK.le k2126) f5) ?_;rintro v28 k2 qs fa cb⟨B28,rfl,hT⟩;simp only[Z3]at fa |-;refine dR f1' ?_;refine ak fa [2,3,1,0] fun hu=>?_;refine ca (i+1,m'',.slice (some ⟨g5,0,none⟩) (l1.length+1+1) nc,v28,dv19) _ _ bi cN (by simp only[go_sem,Y,BQ]) ⟨k2,D19,_,B28,_,_,_,rfl,hu,D cl (D k1726 cb),a4,by simp only;omega,c9,aw.le h3 cb,List.cons_ne_nil _ _,?_,hT,gn.joinAll f5,by simpa[cD]using c1.le (D k1921 (D k2126 cb))⟩
  simp only[bl,aH,bg]at e0 |-;unfold ar;omega
 .have hk:i=xs.length:=by omega
  subst hk;have eh:decide ((xs.length:Int)<(xs.length:Int))=false:=ao;rw[js]at fC;obtain⟨rfl,rfl,rfl⟩:=Un fC;refine eB eh ?_;refine ak d4 [3,0,1,2] fun cy=>?_;refine aJ cy fun h8 cy L hW=>?_;have hL:bM h8 vb c.f:=cV.sl hB L hW;refine av cy [0,1,2] [sg pb _,D17] [A17] rfl oM rfl (pw (s:=bT) (i2.le L) hL gn af (hE.le L) (by rw[gf];simp only[aH];omega)) ?_;rintro v19 k8 qs cx a2⟨dv19,D19,rs,rfl,c1,B19,rfl,c2⟩;rw[gf]at c1 c2;have tf2:=iX h.ok gn (s:=bT) af;rw[gf]at tf2;simp only at c1 c2 tf2;simp only[Z3]at cx |-;refine aZ ?_;refine ak cx [0,1,3,2] fun cr=>?_;exact az rfl cr (r:=[va,v19]) rfl (D aq (D g0 (D L a2))) ⟨dv19,D19,[A17,B19],rfl,by simpa[cD]using c1,⟨A17,B19,va,v19,rfl,rfl,aw.le hA (D L a2),c2⟩,tf2,ic⟩
end
open Go Go.Sx Dg Syn
section
variable {pb:Nat} {Z:Zs} {lv fv ov:Value}
def IK:ay prog 220:=⟨_,func220,rfl,rfl⟩
def rx(Z:Zs)(k o slot:Nat)(r:Syn.aA)(m:Nat)(first:Bool)(l:List M)(g out:ad)(ee:List aI):Prop:=
 ∃b,Syn.run Z m (.lineL k o slot first l g out)=some b/\b.l=r.l/\b.f=r.f/\ee++b.e=r.e
def tg(Z:Zs)(k o slot:Nat)(r:Syn.aA)(m:Nat)(ops:List aj)(l:List M)(g:ad)(ee:List aI):Prop:=
 ∃b,Syn.run Z m (.lineO k o slot ops l g)=some b/\b.l=r.l/\b.f=r.f/\ee++b.e=r.e
variable{ee:List aI}{g:ad}{l:List M}{r:Syn.aA}{k o slot m:Nat}
def Uk(h:tg Z k o slot r m [] l g ee):l=r.l/\g=r.f/\ee=r.e:=by
 obtain⟨b,hb,h1,h2,h3⟩:=h;obtain⟨m',rfl,c⟩:=fD hb;have a:Syn.lineO (Syn.run Z m') k o slot [] l g=some b:=c;unfold Syn.lineO at a;simp only at a;cases a
 exact⟨h1,h2,by simpa using h3⟩
variable{xs:List aj}
def Uj{x:aj}(h:tg Z k o slot r m (x::xs) l g ee):∃m' a,m=m'+1/\
  Syn.run Z m' (.line (k+1) o (bY x) 1)=some a/\(fO l x.cond).length+a.l.length<=ar/\(fP l x.cond).length+1<=ar/\
  tg Z k o slot r m' xs (fP l x.cond++[⟨13,x.text,x.at',slot,fO l x.cond++a.l,x.cond⟩]) (Syn.joinAll g a.f) (ee++a.e):=by
 obtain⟨u,hb,h1,h2,h3⟩:=h;obtain⟨m',rfl,q⟩:=fD hb;have c:Syn.lineO (Syn.run Z m') k o slot (x::xs) l g=some u:=q;unfold Syn.lineO at c;simp only at c;obtain⟨a,ha,p⟩:=cQ c;obtain⟨_,s,n⟩:=cQ p;obtain⟨_,d,j⟩:=cQ n;obtain⟨b,t,i⟩:=cQ j;cases i
 have h4:=u6 s;have h5:=u6 d;simp only[aH,gM]at h4 h5;exact⟨m',a,rfl,ha,h4,h5,b,t,h1,h2,by simpa[cD]using h3⟩
variable{out:ad}{first:Bool}
def Uh(h:rx Z k o slot r m first l [] out ee):l=r.l/\out=r.f/\ee=r.e:=by
 obtain⟨b,hb,h1,h2,h3⟩:=h;obtain⟨m',rfl,c⟩:=fD hb;have a:Syn.lineL Z (Syn.run Z m') k o slot first l [] out=some b:=c;unfold Syn.lineL at a;rw[ah rfl]at a;cases a
 exact⟨h1,h2,by simpa using h3⟩
def Ui(h:rx Z k o slot r m first l g out ee)(i:g≠[])(d:k=2/\first=false):l=r.l/\Syn.joinAll out g=r.f/\ee=r.e:=by
 obtain⟨b,hb,h1,h2,h3⟩:=h;obtain⟨m',rfl,c⟩:=fD hb;have a:Syn.lineL Z (Syn.run Z m') k o slot first l g out=some b:=c;unfold Syn.lineL at a;rw[ab i,ah d]at a;cases a
 exact⟨h1,h2,by simpa using h3⟩
def Ug(h:rx Z k o slot r m first l g out ee)(s:g≠[])(q:¬(k=2/\first=false)):
  ∃m' a,m=m'+1/\tg Z k o slot a m' (bP Z g (gV k)).1 l [] []/\rx Z k o slot r m' false a.l a.f (Syn.joinAll out (bP Z g (gV k)).2) (ee++a.e):=by
 obtain⟨t,hb,h1,h2,h3⟩:=h;obtain⟨m',rfl,n⟩:=fD hb;have c:Syn.lineL Z (Syn.run Z m') k o slot first l g out=some t:=n;unfold Syn.lineL at c;rw[ab s,ab q]at c;obtain⟨ops,rest,d⟩:∃yes no,bP Z g (gV k)=(yes,no):=⟨_,_,rfl⟩;rw[d]at c |-;simp only at c |-;obtain⟨a,ha,j⟩:=cQ c;obtain⟨b,p,i⟩:=cQ j;cases i
 exact⟨m',a,rfl,⟨a,ha,rfl,rfl,rfl⟩,b,p,h1,h2,by simpa[cD]using h3⟩
def rx.le(h:rx Z k o slot r m first l g out ee):ee.length<=r.e.length:=by obtain⟨b,_,_,_,h⟩:=h;rw[<-h];simp
def tg.le(h:tg Z k o slot r m xs l g ee):ee.length<=r.e.length:=by obtain⟨b,_,_,_,h⟩:=h;rw[<-h];simp
variable{n:M}
def AS{d:T}{i:Nat}(h:l[i]?=some n):fO (l.take (i+1)) d=fO (l.take i) d++(if n.cond.and d=ff then []else [{ n with cond:=n.cond.and d,slot:=0 }]):=by
 have a:i<l.length:=by
  rcases aK i l.length with b|b
  .exact b
  .rw[fp b]at h;cases h
 rw[aY a]at h;unfold fO;rw[pH a,List.filterMap_append,cX h];congr 1;by_cases hf:n.cond.and d=ff
 .simp[hf]
 .simp[hf]
def By{d:T}{i:Nat}(h:l[i]?=some n):fP (l.take (i+1)) d=fP (l.take i) d++(if n.cond.and d.not=ff then []else [{ n with cond:=n.cond.and d.not }]):=by
 have a:i<l.length:=by
  rcases aK i l.length with b|b
  .exact b
  .rw[fp b]at h;cases h
 rw[aY a]at h;unfold fP;rw[pH a,List.filterMap_append,cX h];congr 1;by_cases hf:n.cond.and d.not=ff
 .simp[hf]
 .simp[hf]
def Ni{C:Cx}{k:List Item}{σ0:St}{H:PH}{P:Prop}(h1:RC C (.st k) σ0 H->P)(h:RC C (.st k) σ0 H):P:=h1 h
def og{I:PH}{nb:Nat}{cs:Zo}(h:a8 I nb 0 cs)(a:ag I cs n):bk I (.slice (some ⟨nb,0,none⟩) 1 1) [n]:=⟨_,_,rfl,.inr ⟨nb,0,cs,rfl,h,.one a⟩⟩
def vF(pb hb slot:Nat)(vl a vo:Value):St:=⟨dn 139 [(0,.v (pt pb)),(3,.v (E slot)),(5,.v (pt hb)),(10,.v vl),(11,.v a),(12,.v vo)],[]⟩
def AW(pb hb slot:Nat)(x:Nat×Bool×Value×Value×Value×Value):St:=⟨dn 139 [(0,.v (pt pb)),(3,.v (E slot)),(5,.v (pt hb)),(10,.v x.2.2.1),(11,.v x.2.2.2.1),(12,.v x.2.2.2.2.1),(13,.v (.bool x.2.1))],[]⟩
def UJ(pb:Nat)(Z:Zs)(lv fv ov:Value)(k o slot X:Nat)(r:Syn.aA)(e:List aI)(a:PH)(x:Nat×Bool×Value×Value×Value×Value)(H:PH):Prop:=
 ∃I W A B C l g out ee,H=U [I,sg pb (bS lv fv ov x.2.2.2.2.2 o),W,A,B,C]/\Dj [I,sg pb (bS lv fv ov x.2.2.2.2.2 o),W,A,B,C]/\a.le I/\x.1<=X/\rx Z k o slot r x.1 x.2.1 l g out ee/\
  aw I A x.2.2.1 l/\l.length<=ar/\cV I B x.2.2.2.1 g/\FN Z.length g/\cV I C x.2.2.2.2.1 out/\FN Z.length out/\bt I W x.2.2.2.2.2 (e++ee)
def AX(pb hb slot:Nat)(a b:Value)(n:Nat)(x:Nat×Nat×Value×Value×Value):St:=⟨dn 139 [(0,.v (pt pb)),(3,.v (E slot)),(5,.v (pt hb)),(10,.v x.2.2.1),(11,.v x.2.2.2.1),(12,.v a),(66,.v b),(67,.v (E n)),(68,.v (E x.1))],[]⟩
def UK(pb:Nat)(Z:Zs)(lv fv ov:Value)(k o slot X:Nat)(C:PH)(ops:List aj)(r:Syn.aA)(e:List aI)(a:PH)(x:Nat×Nat×Value×Value×Value)(H:PH):Prop:=
 ∃I W A B l g ee,H=U [I,sg pb (bS lv fv ov x.2.2.2.2 o),W,A,B,C]/\Dj [I,sg pb (bS lv fv ov x.2.2.2.2 o),W,A,B,C]/\a.le I/\x.1<=ops.length/\x.2.1<=X/\tg Z k o slot r x.2.1 (ops.drop x.1) l g ee/\
  aw I A x.2.2.1 l/\l.length<=ar/\cV I B x.2.2.2.1 g/\FN Z.length g/\bt I W x.2.2.2.2 (e++ee)
def tU(pb hb slot:Nat)(c a b:Value)(n i:Nat)(cs:Zo)(vl:Value)(d:Nat)(x:Nat×Value×Value):St:=⟨dn 139 [(0,.v (pt pb)),(3,.v (E slot)),(5,.v (pt hb)),(11,.v c),(12,.v a),(17,.p 17 0),(18,.v x.2.1),(19,.v x.2.2),(66,.v b),(67,.v (E n)),(68,.v (E i)),(72,.v vl),(73,.v (E d)),(74,.v (E x.1))],[⟨17,227,cs⟩]⟩
def UL(pb:Nat)(a:Obj)(X B C:PH)(l:List M)(d:T)(b:PH)(x:Nat×Value×Value)(H:PH):Prop:=
 ∃I L W,H=U [I,sg pb a,X,B,C,L,W]/\Dj [I,sg pb a,X,B,C,L,W]/\b.le I/\x.1<=l.length/\aw I L x.2.1 (fO (l.take x.1) d)/\aw I W x.2.2 (fP (l.take x.1) d)
theorem UC{n:Nat}(ih:jZ pb Z lv fv ov n){f:ad}(hr:Syn.run Z n (.line k o f slot)=some r):mG pb Z lv fv ov (.line k o f slot) r:=by
 obtain⟨m,rfl,hs⟩:=fD hr;have dd:Syn.line (Syn.run Z m) k o f slot=some r:=hs;clear hs hr;intro hk ho I X dv vf e h hf fn he hm hd;have hl:=h.len;unfold Syn.line at dd;refine aP 139 func144 fun w0=>?_
 try simp only[E,pt]
 apply cE 5;simp only[go_sem];refine jW 5 hd rfl fun hb jo=>?_;refine aJ (c:=.st _) jo fun I2 ez a0 j2=>?_;have hc:a8 I2 hb 0 [E k]:=(dz ao rfl:a8 (sg hb (.cells [E k].toArray 3 (0,0))) hb 0 [E k]).le j2;have h2:=h.le a0;have hS:=bt.le he a0;have hR:=hf.le a0;apply RG;simp only[go_sem,iR,List.map,pt];refine Zm (l:=[E k]) rfl (cellsU ez (.head _) hc) (.inr ⟨eR,rfl⟩) ?_;by_cases h5:k=5
 .rw[ah h5]at dd;have q5:((k:Int) == 5)=true:=by rw[h5];rfl
  refine eB q5 ?_;refine av ez [0,1] [sg pb _,X] [] rfl IK rfl (ih m (eF m) (.unary o f slot) r dd ho h2 hR fn hS hm) ?_;rintro v I5 qs d7 cA⟨dv5,D5,rs,rfl,gn,⟨A5,B5,va5,vb5,rfl,rfl,hq,g0⟩,gi,f5⟩;simp only[Z3]at d7 |-;refine dL ?_;exact az rfl d7 (r:=[va5,vb5]) rfl (D a0 cA) ⟨dv5,D5,[A5,B5],rfl,gn,⟨A5,B5,va5,vb5,rfl,rfl,hq,g0⟩,gi,f5⟩
 rw[ab h5]at dd;have q5:((k:Int) == 5)=false:=by rw[i7];omega
 obtain⟨a,ha,h7⟩:=cQ dd;obtain⟨b,j3,h6⟩:=cQ h7;cases h6
 simp only[aH]at hm;have w1:=wrap64 (n:=k+1) O;have w1':IntKind.i64.wrap ((k:Int)+1)=((k+1:Nat):Int):=by rw[<-w1];congr 1
 refine eB q5 ?_;refine Zm (l:=[E k]) rfl (cellsU ez (.head _) hc) (.inr ⟨eR,rfl⟩) ?_;apply RG;simp only[go_sem,E,pt,q5,w1'];refine av ez [0,1] [sg pb _,X] [] rfl Em rfl (ih m (eF m) (.line (k+1) o f slot) a ha O ho h2 hR fn hS O) ?_;rintro v I5 qs d7 cA⟨dv5,D5,rs,rfl,gn,⟨A5,B5,va5,vb5,rfl,rfl,hq,g0⟩,gi,f5⟩;simp only[Z3]at d7 |-;refine dL ?_;refine de d7 fun jf=>?_;refine ak jf [1,2,3,4,0] fun ja=>?_;have ki:rx Z k o slot ⟨b.l,b.f,a.e++b.e⟩ m true a.l a.f [] a.e:=⟨b,j3,rfl,rfl,rfl⟩;refine bV (fun x=>x.1) (AW pb hb slot) (UJ pb Z lv fv ov k o slot m ⟨b.l,b.f,a.e++b.e⟩ e I5) (m,true,va5,vb5,.slice none 0 0,dv5) cN (by simp only[go_sem,Y,AW]) ?_ ?_
 .exact⟨I5,D5,A5,B5,PH.no,_,_,_,_,rfl,ja,aD _,aR _,ki,hq,f5,g0,gi,Ow.nil _ _ _ _,FN.nil _,gn⟩
 rintro⟨m1,first,vl,vg,vo,dw⟩ H ⟨I8,D8,A8,B8,C8,l,g,out,ee,rfl,ey,d1,h9,e3,hA,fc,hB,da,hC,ek,hE⟩ ds;simp only at h9 e3 hA hB hC hE;simp only[AW];have k8:=D cA d1;obtain⟨ga,gc,rfl⟩:=hB.shape;rcases jA g.length with h0|h0
 .have q45:decide ((g.length:Int)>0)=false:=ch O;refine eB q45 ?_;have i4:g=[]:=List.length_eq_zero_iff.1 h0;subst i4;obtain⟨rfl,rfl,rfl⟩:=Uh e3;refine ak ey [0,1,2,4,3] fun cc=>?_;refine ak cc [4,0,1,2,3] fun K=>?_;refine aJ K fun h1 K y ca=>?_;exact az rfl K (r:=[vl,vo]) rfl (D a0 (D k8 y)) ⟨dw,D8,[A8,C8],rfl,hE.le y,⟨A8,C8,vl,vo,rfl,rfl,aw.le hA y,hC.le y⟩,ek,fc⟩
 have hg:g≠[]:=fun e=>by rw[e]at h0;exact Nat.lt_irrefl _ h0
 have q45:decide ((g.length:Int)>0)=true:=bm O;refine eB q45 ?_;refine Zm (l:=[E k]) rfl (cellsU ey (.head _) (hc.le k8)) (.inr ⟨eR,rfl⟩) ?_;by_cases ap:k=2/\first=false
 .obtain⟨rfl,e2,rfl⟩:=Ui e3 hg ap;obtain⟨rfl,rfl⟩:=ap;apply RG;simp only[go_sem,E,pt,dP,dg];refine ak ey [3,0,1,2,4] fun cc=>?_;refine aJ cc fun I9 cc V gt=>?_;have gf:bM I9 _ g:=cV.sl hB V gt;refine av cc [3,0,1,2] [C8] [sg pb _,D8,A8] rfl j8 rfl (ke (N:=Z.length) O (hC.le V) ek gf da) ?_;rintro v10 h1 qs K y⟨C10,rfl,em⟩;simp only[Z3]at K |-;refine dL ?_;refine ak K [1,2,3,0] fun b6=>?_;have k910:=D V y;exact az rfl b6 (r:=[vl,v10]) rfl (D a0 (D k8 k910)) ⟨dw,D8,[A8,C10],rfl,hE.le k910,⟨A8,C10,vl,v10,rfl,rfl,aw.le hA k910,by rw[e2]at em;exact em⟩,by have:=ek.joinAll da;rw[e2]at this;exact this,fc⟩
 obtain⟨m2,a2,rfl,f4,cj⟩:=Ug e3 hg ap;have d4:=cj.le;simp only[aH]at d4;have i3:∀(Φ:Prop),(k=2->first=true->Φ)->(k≠2->Φ)->Φ:=fun Φ p q=>by
  by_cases c9:k=2
  .cases first with
   |true=>exact p c9 rfl
   |false=>exact absurd ⟨c9,rfl⟩ ap
  .exact q c9
 obtain⟨ops,rest,hM⟩:∃yes g',bP Z g (gV k)=(yes,g'):=⟨_,_,rfl⟩;have eA:=oh h.ok da (is:=gV k);have hV:=qU h.ok da (gV k);have e0:=jx h.ok da (gV k);rw[hM]at eA hV e0 f4 cj;simp only at eA hV e0 f4 cj;have f0:∀x∈ops,x.at'<Z.length:=fun x hx=>by obtain⟨e7,hK⟩:=eA x hx;refine e7.lt (.inr fun e=>?_);simp[gV,e]at hK
 apply Ni (σ0:=vF pb hb slot vl (.slice ga g.length gc) vo)
 .intro dT;by_cases c9:k=2
  .have i5:first=true:=i3 _ (fun _ p=>p) (fun p=>absurd c9 p);have q47:((k:Int) == 2)=true:=by rw[c9];rfl
   apply cE 9;simp only[go_sem,E,pt,q47,i5,cL];refine gP (σ':=vF pb hb slot vl (.slice ga g.length gc) vo) ?_ ?_ ?_
   .exact cN
   .exact(by simp only[go_sem,Y,vF])
   .exact dT
  .have q47:((k:Int) == 2)=false:=by rw[i7];omega
   apply cE 9;simp only[go_sem,E,pt,q47,cL];refine gP (σ':=vF pb hb slot vl (.slice ga g.length gc) vo) ?_ ?_ ?_
   .exact cN
   .exact(by simp only[go_sem,Y,vF])
   .exact dT
 simp only[vF];refine ak ey [3,0,1,2,4] fun cc=>?_;refine aJ cc fun I9 cc V gt=>?_;have gf:bM I9 _ g:=cV.sl hB V gt;have k9:=D k8 V;have kj:mE I9 (.func (.func 222) #[] #[pt hb]) (gV k):=⟨222,#[],#[pt hb],rfl,QU,fun J hJ x a c hr=>bh.toI ((UB (H:=J) (b:=hb) (k:=k) ((hc.le k9).le hJ) O).mono fun v H2 ⟨e1,e2⟩=>⟨by rw[e2];exact aD _,e1⟩)⟩;refine dL ?_;refine av cc [0,1,2,3] [sg pb _] [D8,A8,C8] rfl oN rfl (pj (h2.le k9) gf da kj) ?_;rintro v h1 qs K y⟨A10,B10,va10,vb10,rfl,rfl,ca,c8⟩;rw[hM]at ca c8;simp only at ca c8;obtain⟨xsa,xsc,rfl⟩:=ca.shape;simp only[Z3]at K |-;refine dL ?_;refine ak K [1,0,2,3,4,5] fun b6=>?_;refine aJ b6 fun kx b6 b0 hw=>?_;have j7:fM kx (.slice xsa ops.length xsc) ops:=ca.sl b0 hw;refine ak b6 [1,0,2,3,4] fun c3=>?_;refine aJ c3 fun kv c3 bx hn=>?_;have f3:bM kv vb10 rest:=c8.sl (D b0 bx) hn;have k812:=D V (D y (D b0 bx));refine av c3 [3,0,1,2] [C8] [sg pb _,D8,A8] rfl j8 rfl (ke (N:=Z.length) O (hC.le k812) ek f3 e0) ?_;rintro v13 hY qs d9 cm⟨C13,rfl,gs⟩;simp only[Z3]at d9 |-;refine dL ?_;refine de d9 fun fz=>?_;refine ak fz [2,3,4,0,1] fun fs=>?_;have ed:=j7.le (D bx cm);have k813:=D k812 cm;have h4:=D k8 k813;refine bV (fun x=>ops.length-x.1) (AX pb hb slot v13 (.slice xsa ops.length xsc) ops.length) (UK pb Z lv fv ov k o slot m2 C13 ops a2 (e++ee) hY) (0,m2,vl,.slice none 0 0,dw) cN (by simp only[go_sem,Y,AX]) ?_ ?_
 .exact⟨hY,D8,A8,PH.no,_,_,_,rfl,fs,aD _,aE _,aR _,f4,aw.le hA k813,fc,Ow.nil _ _ _ _,FN.nil _,by simpa using hE.le k813⟩
 rintro⟨i,m3,vl2,vg2,dx⟩ H ⟨kt,D16,A16,B16,z,g2,ee2,rfl,c2,ac,i2,fb,b8,e4,d0,hj,c7,gr⟩ cr;simp only at i2 fb b8 e4 hj gr;simp only[AX];have h3:=D h4 ac;rcases aK i ops.length with et|k3
 .have hz:decide ((i:Int)<(ops.length:Int))=true:=by simp;omega
  have f1:=wrap64 (n:=i+1) O;have f1':IntKind.i64.wrap ((i:Int)+1)=((i+1:Nat):Int):=by rw[<-f1];congr 1
  obtain⟨x,es⟩:∃x,ops[i]?=some x:=⟨_,aY et⟩;have hH:=db es;obtain⟨e7,hK⟩:=eA x hH;have e6:=f0 x hH;obtain⟨bb,off,cs,rfl,j1,ea⟩:=(ed.le ac).load dM.len es;obtain⟨ya,yk,rfl,dk⟩:=j1;have i9:ops.drop i=x::ops.drop (i+1):=by rw[jz et];rw[aY et]at es;rw[cX es]
  rw[i9]at b8;obtain⟨m4,a4,rfl,j5,ic,hP,eg⟩:=Uj b8;have d2:=eg.le;simp only[aH]at d2;refine eB hz ?_;refine⟨O,?_⟩;refine Zm (l:=[E x.at',sD ya yk x.cond,rD x.cond,.int .u8 x.kind,.string ⟨⟨x.text⟩⟩]) (v:=.agg #[E x.at',sD ya yk x.cond,rD x.cond,.int .u8 x.kind,.string ⟨⟨x.text⟩⟩]) rfl (cellsU c2 (.head _) ea) (.inl ⟨gv,rfl⟩) ?_;obtain⟨la,lc,rfl⟩:=e4.shape;refine aZ ?_;refine ak c2 [2,0,1,3,4] fun c1=>?_;refine aJ c1 fun hF c1 aq hu=>?_;have f7:bk hF (.slice la z.length lc) z:=aw.sl e4 aq hu;refine de c1 fun fr=>?_;refine de fr fun fl=>?_;refine ak fl [2,3,4,5,0,1] fun fi=>?_;have B:=dk.le aq;refine bV (fun x=>z.length-x.1) (tU pb hb slot vg2 v13 (.slice (some ⟨bb,off,none⟩) ops.length xsc) ops.length i [E x.at',sD ya yk x.cond,rD x.cond,.int .u8 x.kind,.string ⟨⟨x.text⟩⟩] (.slice la z.length lc) z.length) (UL pb (bS lv fv ov dx o) D16 B16 C13 z x.cond hF) (0,.slice none 0 0,.slice none 0 0) t8 (by simp only[go_sem,Y,tU,E,sD,rD]) ?_ ?_
  .exact⟨hF,PH.no,PH.no,rfl,fi,aD _,aE _,Ow.nil _ _ _ _,Ow.nil _ _ _ _⟩
  rintro⟨j,v18,v19⟩ H ⟨hD,L,W,rfl,ci,t,i0,hL,hO⟩ S;simp only at i0 hL hO;simp only[tU];obtain⟨l0,lc0,rfl⟩:=hL.shape;unfold ar at d0;obtain⟨o0,oc0,rfl⟩:=hO.shape;rcases aK j z.length with d5|k2
  .have hy:decide ((j:Int)<(z.length:Int))=true:=by simp;omega
   have g1:=wrap64 (n:=j+1) O;have g1':IntKind.i64.wrap ((j:Int)+1)=((j+1:Nat):Int):=by rw[<-g1];congr 1
   obtain⟨nd,cb⟩:∃nd,z[j]?=some nd:=⟨_,aY d5⟩;obtain⟨b3,off3,cs3,rfl,fA,c4⟩:=Sl.load ag.len (bk.le f7 t) cb;obtain⟨vk,na,nk,rfl,a6,aS,c6⟩:=fA.shape;obtain⟨ka,kc,rfl,_⟩:=id aS;have ia:=Syn.JL (z.take j) x.cond;have h8:=Syn.KK (z.take j) x.cond;have k1:(z.take j).length=j:=by simp;omega
   refine eB hy ?_;refine⟨O,?_⟩;refine Zm (l:=[.int .u8 nd.kind,.string ⟨⟨nd.text⟩⟩,.int .i64 nd.tok,.int .i64 nd.slot,.slice ka nd.kids.length kc,sD na nk nd.cond,rD nd.cond]) (v:=.agg #[.int .u8 nd.kind,.string ⟨⟨nd.text⟩⟩,.int .i64 nd.tok,.int .i64 nd.slot,.slice ka nd.kids.length kc,sD na nk nd.cond,rD nd.cond]) rfl (cellsU ci (.head _) c4) (.inl ⟨b9,rfl⟩) ?_;refine aZ ?_;refine av ci [0,1,2,3,4,5] [] [sg pb _,D16,B16,C13,L,W] rfl ls rfl (ln a6 (B.le t)) ?_;rintro v kq qs a5 s⟨rfl,cp⟩;obtain⟨za,zk,rfl⟩:=cp.shape2;simp only[Z3]at a5 |-;refine aZ ?_;refine Zl rfl jj (ji cp) ?_;rintro v H2⟨rfl,rfl⟩;cases ex:decide (nd.cond.and x.cond=.lf false)
   .have hN:nd.cond.and x.cond≠ff:=by simpa using ex
    apply RG;simp only[go_sem,E,pt,sD,rD,ex,dg];refine cI a5 (by exact dr) rfl rfl rfl rfl rfl af fun nb4 hX cf aa fa=>?_;have k2123:=D s aa;have j9:bk hX (.slice (some ⟨nb4,0,none⟩) 1 1) [{ nd with cond:=nd.cond.and x.cond,slot:=0 }]:=og (bA fa (by simp[ax,Value.cells]) (by simp[ax,Value.cells,E,sD,rD])) (ag.mk (n:={ nd with cond:=nd.cond.and x.cond,slot:=0 }) (cp.le aa) (bk.le aS k2123) c6);refine aZ ?_;refine ak cf [4,0,1,2,3,5] fun b5=>?_;refine fk b5 (by exact dr) (aw.le hL k2123) (j9) (fun{I J c a} h k=>ag.le h k) (fun{I} c a h=>ag.len c a h) (fun{I} c a h=>ag.ones h) rfl rfl rfl rfl (by first|omega|(simp only[bl,bg];omega)) (by unfold maxLen;first|omega|(simp only[bl,bg];omega)) fun qa qc k5 L26 b4 d3 ei=>?_;refine ak b4 [1,2,3,4,0,5] fun b2=>?_;have P:=D k2123 d3;refine aZ ?_;refine bG [0,1,2,3,4,5,6,7] [] [] ?_;refine ft ?_;refine cH b2 [0,1,2,3,4,5] [] [sg pb _,D16,B16,C13,L26,W] rfl qp rfl (qA (B.le (D t P))) ?_;rintro v hW qs an A⟨rfl,a7⟩;obtain⟨ra,rk,rfl⟩:=a7.shape2;simp only[Z3]at an |-;refine ft ?_;refine cH an [0,1,2,3,4,5] [] [sg pb _,D16,B16,C13,L26,W] rfl ls rfl (ln (a6.le (D P A)) a7) ?_;rintro v e5 qs G Q⟨rfl,U⟩;obtain⟨ta,tk,rfl⟩:=U.shape2;simp only[Z3]at G |-;refine ft ?_;apply aN;refine aZ ?_;refine Zl rfl jj (ji U) ?_;rintro v H2⟨rfl,rfl⟩;have d:=D A Q;cases C:decide (nd.cond.and x.cond.not=.lf false)
    .have cx:nd.cond.and x.cond.not≠ff:=by simpa using C
     apply RG;simp only[go_sem,E,pt,sD,rD,C,dg];refine cI G (by exact dr) rfl rfl rfl rfl rfl af fun nb9 er a3 u cy=>?_;have f2:bk er (.slice (some ⟨nb9,0,none⟩) 1 1) [{ nd with cond:=nd.cond.and x.cond.not }]:=og (bA cy (by simp[ax,Value.cells]) (by simp[ax,Value.cells,E,sD,rD])) (ag.mk (n:={ nd with cond:=nd.cond.and x.cond.not }) (U.le u) (bk.le aS (D P (D d u))) c6);have kO:hD.le er:=D P (D d u);refine aZ ?_;refine ak a3 [5,0,1,2,3,4] fun b1=>?_;refine fk b1 (by exact dr) (aw.le hO kO) (f2) (fun{I J c a} h k=>ag.le h k) (fun{I} c a h=>ag.len c a h) (fun{I} c a h=>ag.ones h) rfl rfl rfl rfl (by first|omega|(simp only[bl,bg];omega)) (by unfold maxLen;first|omega|(simp only[bl,bg];omega)) fun oa oc dc O31 am w b7=>?_;refine dR g1' ?_;refine ak am [1,2,3,4,5,0] fun a1=>?_;refine S (j+1,.slice qa (fO (z.take j) x.cond++[{ nd with cond:=nd.cond.and x.cond,slot:=0 }]).length qc,.slice oa (fP (z.take j) x.cond++[{ nd with cond:=nd.cond.and x.cond.not }]).length oc) _ _ bi t8 (by simp only[go_sem,Y,tU,E,sD,rD]) ⟨dc,_,O31,rfl,a1,D t (D kO w),d5,?_,?_⟩
     .simp only;rw[AS cb,ab hN];exact aw.le ei (D d (D u w))
     .simp only;rw[By cb,ab cx];exact b7
    .have c0:nd.cond.and x.cond.not=ff:=by simpa using C
     apply RG;simp only[go_sem,E,pt,sD,rD,C,cL,g1'];refine S (j+1,.slice qa (fO (z.take j) x.cond++[{ nd with cond:=nd.cond.and x.cond,slot:=0 }]).length qc,.slice o0 (fP (z.take j) x.cond).length oc0) _ _ bi t8 (by simp only[go_sem,Y,tU,E,sD,rD]) ⟨e5,_,W,rfl,G,D t (D P d),d5,?_,?_⟩
     .simp only;rw[AS cb,ab hN];exact aw.le ei d
     .simp only;rw[By cb,ah c0,Y];exact aw.le hO (D P d)
   .have hT:nd.cond.and x.cond=ff:=by simpa using ex
    apply cE 4;simp only[go_sem,E,pt,sD,rD,ex,cL];have b2:=a5;refine aZ ?_;refine bG [0,1,2,3,4,5,6,7] [] [] ?_;refine ft ?_;refine cH b2 [0,1,2,3,4,5] [] [sg pb _,D16,B16,C13,L,W] rfl qp rfl (qA (B.le (D t s))) ?_;rintro v hW qs an A⟨rfl,a7⟩;obtain⟨ra,rk,rfl⟩:=a7.shape2;simp only[Z3]at an |-;refine ft ?_;refine cH an [0,1,2,3,4,5] [] [sg pb _,D16,B16,C13,L,W] rfl ls rfl (ln (a6.le (D s A)) a7) ?_;rintro v e5 qs G Q⟨rfl,U⟩;obtain⟨ta,tk,rfl⟩:=U.shape2;simp only[Z3]at G |-;refine ft ?_;apply aN;refine aZ ?_;refine Zl rfl jj (ji U) ?_;rintro v H2⟨rfl,rfl⟩;have d:=D A Q;cases C:decide (nd.cond.and x.cond.not=.lf false)
    .have cx:nd.cond.and x.cond.not≠ff:=by simpa using C
     apply RG;simp only[go_sem,E,pt,sD,rD,C,dg];refine cI G (by exact dr) rfl rfl rfl rfl rfl af fun nb9 er a3 u cy=>?_;have f2:bk er (.slice (some ⟨nb9,0,none⟩) 1 1) [{ nd with cond:=nd.cond.and x.cond.not }]:=og (bA cy (by simp[ax,Value.cells]) (by simp[ax,Value.cells,E,sD,rD])) (ag.mk (n:={ nd with cond:=nd.cond.and x.cond.not }) (U.le u) (bk.le aS (D s (D d u))) c6);have kO:hD.le er:=D s (D d u);refine aZ ?_;refine ak a3 [5,0,1,2,3,4] fun b1=>?_;refine fk b1 (by exact dr) (aw.le hO kO) (f2) (fun{I J c a} h k=>ag.le h k) (fun{I} c a h=>ag.len c a h) (fun{I} c a h=>ag.ones h) rfl rfl rfl rfl (by first|omega|(simp only[bl,bg];omega)) (by unfold maxLen;first|omega|(simp only[bl,bg];omega)) fun oa oc dc O31 am w b7=>?_;refine dR g1' ?_;refine ak am [1,2,3,4,5,0] fun a1=>?_;refine S (j+1,.slice l0 (fO (z.take j) x.cond).length lc0,.slice oa (fP (z.take j) x.cond++[{ nd with cond:=nd.cond.and x.cond.not }]).length oc) _ _ bi t8 (by simp only[go_sem,Y,tU,E,sD,rD]) ⟨dc,_,O31,rfl,a1,D t (D kO w),d5,?_,?_⟩
     .simp only;rw[AS cb,ah hT,Y];exact aw.le (aw.le hL s) (D d (D u w))
     .simp only;rw[By cb,ab cx];exact b7
    .have c0:nd.cond.and x.cond.not=ff:=by simpa using C
     apply RG;simp only[go_sem,E,pt,sD,rD,C,cL,g1'];refine S (j+1,.slice l0 (fO (z.take j) x.cond).length lc0,.slice o0 (fP (z.take j) x.cond).length oc0) _ _ bi t8 (by simp only[go_sem,Y,tU,E,sD,rD]) ⟨e5,_,W,rfl,G,D t (D s d),d5,?_,?_⟩
     .simp only;rw[AS cb,ah hT,Y];exact aw.le (aw.le hL s) d
     .simp only;rw[By cb,ah c0,Y];exact aw.le hO (D s d)
  .have ie:j=z.length:=by omega
   subst ie;have hy:decide ((z.length:Int)<(z.length:Int))=false:=ao;rw[dK]at hL hO;apply RG;simp only[go_sem,hy,E,pt,dK];have hG:=D h3 (D aq t);refine rK mixed [0,1,2,3,4,5,6,7,8,9,10] [] [] [1] [4] hD rfl rfl ?_;apply bo;simp only[go_sem,E,pt,sD,rD,w1'];refine rI (l:=[E k]) rfl (iL ci) rfl rfl rfl (hc.le hG) (.inr ⟨eR,rfl⟩) ?_;apply bo;simp only[go_sem,E,pt,sD,rD,w1'];refine GL ci [0,1,2,3,4,5] rfl (fun _=>aD _) rfl nN (by rfl) (ps:=[]) (F:=[sg pb _,D16,B16,C13,L,W]) rfl (nG (h:=x) O (B.le t)) ?_;rintro v kq qs a5 s⟨rfl,gl⟩;simp only[Z3]at a5 |-;apply bo;simp only[go_sem,E,pt,sD,rD,w1'];have k1622:=D aq (D t s);refine cH a5 [0,1,2,3,4,5] [sg pb _,D16] [B16,C13,L,W] rfl Em rfl (ih m4 O (.line (k+1) o (bY x) 1) a4 j5 O ho (h2.le (D hG s)) gl (eH e7 e6) (gr.le k1622) (by simp only[aH];omega)) ?_;rintro v hX qs cf aa⟨dv23,D23,rs,rfl,gq,⟨A23,B23,va23,vb23,rfl,rfl,eq,hh⟩,el,kd⟩;obtain⟨ka,kc,rfl⟩:=eq.shape;simp only[Z3]at cf |-;refine ft ?_;apply aN;refine aZ ?_;refine ak cf [2,0,1,3,4,5,6,7] fun b5=>?_;refine aJ (c:=.st _) b5 fun kp b5 bc ht=>?_;have gb:bk kp (.slice ka a4.l.length kc) a4.l:=eq.sl bc ht;refine ak b5 [2,0,1,3,4,5,6] fun b4=>?_;refine aJ (c:=.st _) b4 fun kn b4 ba g5=>?_;have gg:bM kn vb23 a4.f:=hh.sl (D bc ba) g5;have k2325:=D bc ba;have k2125:=D s (D aa k2325);unfold ar at ic hP;refine bG [0,1,2,3,4,5,6,7,9,10,8,11,12,13,14] [] [] ?_;refine ft ?_;refine i8 b4 [4,0,1,2,3,5] fun b2=>?_
   refine uL b2 (by exact dr) (aw.le hL k2125) (bk.le gb ba) (fun{I J c a} h k=>ag.le h k) (fun{I} c a h=>ag.len c a h) (fun{I} c a h=>ag.ones h) rfl rfl rfl rfl rfl rfl (by first|omega|(simp only[bl,bg];omega)) (by unfold maxLen;first|omega|(simp only[bl,bg];omega)) fun qa qc hW L27 an A eh=>?_;have c5:=eh.capN ag.len;refine ft ?_;refine iu an (by exact dr) rfl rfl rfl rfl rfl af fun nb8 e5 G Q e8=>?_;refine ft ?_;refine i8 G [5,0,1,2,3,4] fun a3=>?_;obtain⟨bs,ec,fC⟩:=hO;refine xi (m:=1) a3 (by exact dr) ec rfl rfl rfl rfl rfl rfl (cellsU a3 (.head _) (bA (l:=[.int .u8 13,.string ⟨⟨x.text⟩⟩,.int .i64 x.at',.int .i64 slot,.slice qa (fO z x.cond++a4.l).length qc,.slice ya (T.subs x.cond).length yk,E (T.plc (T.subs x.cond) x.cond)]) e8 (by simp[ax,Value.cells]) (by simp[ax,Value.cells,E]))) rfl rfl O (by unfold maxLen;omega) fun v' k4 O30 b1 cl ef=>?_;obtain⟨oa,oc,rfl⟩:=ef.slice;refine ft ?_;apply aN;refine aZ ?_;refine ak b1 [1,0,2,3,4,5] fun am=>?_;refine aJ am fun dc am w f6=>?_;have k2731:=D Q (D cl w);have k2531:=D A k2731;have k2131:=D k2125 k2531;have ej:bk dc (.slice qa (fO z x.cond++a4.l).length qc) (fO z x.cond++a4.l):=aw.sl (aw.le eh (D Q cl)) w f6;have cn:=B.le (D t k2131);have b7:aw dc O30 (.slice oa ((fP z x.cond).length+1) oc) (fP z x.cond++[⟨13,x.text,x.at',slot,fO z x.cond++a4.l,x.cond⟩]):=by refine⟨_,by rw[aH];exact ef,LR.app (fC.mono fun _ _ h=>ag.le h k2131) (.one (ag.mk (n:=⟨13,x.text,x.at',slot,fO z x.cond++a4.l,x.cond⟩) cn ej c5))⟩
   have k1631:=D k1622 (D aa (D k2325 k2531));refine av am [3,0,1,2,4] [B16] [O30,sg pb _,D23,C13] rfl j8 rfl (ke (N:=Z.length) O (hj.le k1631) c7 (gg.le k2531) el) ?_;rintro v32 kk qs a1 a9⟨B32,rfl,g3⟩;simp only[Z3]at a1 |-;refine dR f1' ?_;refine ak a1 [2,3,1,0,4] fun fh=>?_;exact cr (i+1,m4,.slice oa ((fP z x.cond).length+1) oc,v32,dv23) _ _ bi cN (by simp only[go_sem,Y,AX]) ⟨kk,D23,O30,B32,_,_,_,rfl,fh,D ac (D k1631 a9),et,by simp only;omega,eg,aw.le b7 a9,by rw[aH,gM];unfold ar;exact hP,g3,c7.joinAll el,by simpa[cD]using gq.le (D k2325 (D k2531 a9))⟩
 .have i1:i=ops.length:=by omega
  subst i1;have hz:decide ((ops.length:Int)<(ops.length:Int))=false:=ao;rw[js]at b8;obtain⟨rfl,rfl,rfl⟩:=Uk b8;refine eB hz ?_;exact ds (m2,false,vl2,vg2,v13,dx) _ _ bi cN (by simp only[go_sem,Y,AW]) ⟨kt,D16,A16,B16,C13,_,_,_,_,rfl,c2,D d1 (D k813 ac),by simp only;omega,cj,e4,d0,hj,c7,gs.le ac,ek.joinAll e0,by simpa[cD]using gr⟩
end
open Go Go.Sx Dg Syn
def Vg{Z:Zs}{f:ad}{kind slot:Nat}(h:(named Z f kind slot).l=[]):(named Z f kind slot).f=[]:=by
 have key:∀(hs:List aj) (z:Syn.aA),(z.l=[]->z.f=[])->((hs.foldl (dX kind slot) z).l=[]->(hs.foldl (dX kind slot) z).f=[]):=by
  intro hs
  induction hs with
  |nil=>intro z a;exact a
  |cons x hs b=>
   intro z a;refine b _ ?_;unfold dX;split
   .exact a
   .intro h;simp at h
 rw[x8]at h |-;exact key _ _ (fun _=>rfl) h
section
variable {pb:Nat} {Z:Zs} {lv fv ov:Value}
def s9(Z:Zs)(o slot:Nat)(h:aj)(r:Syn.aA)(m:Nat)(xs:List aj)(l:List M)(g:ad)(ee:List aI):Prop:=
 ∃b,Syn.run Z m (.calls o h slot xs l g)=some b/\b.l=r.l/\b.f=r.f/\ee++b.e=r.e
variable{ee:List aI}{g:ad}{l:List M}{r:Syn.aA}{h:aj}{o slot:Nat}
def Ub{m:Nat}(k:s9 Z o slot h r m [] l g ee):l=r.l/\g=r.f/\ee=r.e:=by
 obtain⟨b,hb,h1,h2,h3⟩:=k;obtain⟨m',rfl,c⟩:=fD hb;have a:Syn.calls (Syn.run Z m') o h slot [] l g=some b:=c;unfold Syn.calls at a;simp only at a;cases a
 exact⟨h1,h2,by simpa using h3⟩
variable{xs:List aj}
def Ua{m:Nat}{x:aj}(k:s9 Z o slot h r m (x::xs) l g ee):∃m' a,m=m'+1/\
  Syn.run Z m' (.listed false o (bL x))=some a/\l.length+1<=ar/\s9 Z o slot h r m' xs (gz l x.cond++[⟨19,h.text,h.at',slot,a.l,x.cond⟩]) (Syn.joinAll g a.f) (ee++a.e):=by
 obtain⟨s,hb,h1,h2,h3⟩:=k;obtain⟨m',rfl,n⟩:=fD hb;have c:Syn.calls (Syn.run Z m') o h slot (x::xs) l g=some s:=n;unfold Syn.calls at c;simp only at c;obtain⟨a,ha,j⟩:=cQ c;obtain⟨_,p,i⟩:=cQ j;obtain⟨b,q,d⟩:=cQ i;cases d
 have:=u6 p;simp only[aH,gM,Syn.vE]at this;exact⟨m',a,rfl,ha,this,b,q,h1,h2,by simpa[cD]using h3⟩
def s9.le{m:Nat}(k:s9 Z o slot h r m xs l g ee):ee.length<=r.e.length:=by obtain⟨b,_,_,_,h⟩:=k;rw[<-h];simp
def pz(pb slot:Nat)(a:Value)(n:Nat)(x:Nat×Value×Value×Value):St:=⟨dn 209 [(0,.v (pt pb)),(2,.v (E slot)),(8,.v x.2.1),(9,.v x.2.2.1),(25,.v a),(26,.v (E n)),(27,.v (E x.1))],[]⟩
def Cp(pb slot:Nat)(vl vo b:Value)(n i:Nat)(cs:Zo)(a:Value)(c:Nat)(x:Nat×Nat×Value×Value×Value):St:=⟨dn 209 [(0,.v (pt pb)),(2,.v (E slot)),(8,.v vl),(9,.v vo),(11,.p 11 0),(16,.v x.2.2.1),(17,.v x.2.2.2.1),(25,.v b),(26,.v (E n)),(27,.v (E i)),(58,.v a),(59,.v (E c)),(60,.v (E x.1))],[⟨11,227,cs⟩]⟩
def Yx(pb:Nat)(Z:Zs)(lv fv ov:Value)(o slot X:Nat)(A B:PH)(h:aj)(xs:List aj)(r:Syn.aA)(e:List aI)(a:PH)(x:Nat×Nat×Value×Value×Value)(H:PH):Prop:=
 ∃I W N G l g ee,H=U [I,sg pb (bS lv fv ov x.2.2.2.2 o),W,A,B,N,G]/\Dj [I,sg pb (bS lv fv ov x.2.2.2.2 o),W,A,B,N,G]/\a.le I/\x.1<=xs.length/\x.2.1<=X/\s9 Z o slot h r x.2.1 (xs.drop x.1) l g ee/\
  aw I N x.2.2.1 l/\(l≠[]\/xs=[])/\l.length<=ar/\cV I G x.2.2.2.1 g/\FN Z.length g/\bt I W x.2.2.2.2 (e++ee)
theorem YD{n:Nat}(ih:jZ pb Z lv fv ov n){f:ad}(hr:Syn.run Z n (.unary o f slot)=some r):mG pb Z lv fv ov (.unary o f slot) r:=by
 obtain⟨m,rfl,hs⟩:=fD hr;have hk:iP Z f (fun h=>Syn.run Z m (.unaryH o h slot))=some r:=hs;rw[BA]at hk;clear hs hr;intro ho I X dv vf e h hf fn he hm hd;have hl:=h.len;refine aP 209 func220 fun w0=>?_
 try simp only[E,pt]
 refine ai ?_;refine GH hd [0,1] rfl qm rfl (ps:=[sg pb _]) (F:=[X]) rfl (qr h hf fn) ?_;rintro v I2 qs hn cA⟨rfl,hH⟩;obtain⟨ha,hc,rfl,_⟩:=id hH;simp only[Z3]at hn |-;refine bJ ?_;have hN:∀x∈co Z f,du Z x:=fun x hx=>gx h.ok fn hx;have j5:=mQ h.ok fn;have ia:=hH;generalize co Z f=a2 at *;refine de hn fun hW=>?_;refine de hW fun hV=>?_;refine ak hV [2,3,0,1] fun hT=>?_;refine bV (fun x=>a2.length-x.1) (pz pb slot (.slice ha a2.length hc) a2.length) (Bq pb Z lv fv ov o a2 (fun h=>Syn.run Z m (.unaryH o h slot)) r e I2) (0,.slice none 0 0,.slice none 0 0,dv) cN (by simp only[go_sem,Y,pz]) ?_ ?_
 .exact⟨I2,X,PH.no,PH.no,⟨[],[],[]⟩,rfl,hT,aD _,aE _,hk,by simpa using bt.le he cA,Ow.nil _ _ _ _,Ow.nil _ _ _ _,FN.nil _,aE _⟩
 rintro⟨i,va,vb,dv⟩ H ⟨I3,D3,A3,B3,ri,rfl,ca,W,hR,eh,hE,hA,hB,K,fl⟩ aa;simp only at hR eh hE hA hB;simp only[pz];have h8:fM I3 (.slice ha a2.length hc) a2:=ia.le W;rcases aK i a2.length with cc|kd
 .have g0:decide ((i:Int)<(a2.length:Int))=true:=by simp;omega
  have e1:=wrap64 (n:=i+1) O;have c9:IntKind.i64.wrap ((i:Int)+1)=((i+1:Nat):Int):=by rw[<-e1];congr 1
  obtain⟨x,hx⟩:∃x,a2[i]?=some x:=⟨_,aY cc⟩;have hD:=db hx;have aS:=hN x hD;obtain⟨b,off,cs,rfl,hX,d3⟩:=h8.load dM.len hx;obtain⟨xa,xk,rfl,S⟩:=hX;obtain⟨r',hJ,aq⟩:=Ax hx eh;have b7:=yj aq;obtain⟨y,hy,a7,rfl⟩:=yl hJ;have h3:=h.le (D cA W);simp only[aH]at b7 a7;have cb:∀s:au,x.text≠s->(x.text == s)=false:=fun s k=>beq_eq_false_iff_ne.2 k;obtain⟨m1,rfl,hj⟩:=fD hy;have C:Syn.unaryH Z (Syn.run Z m1) o x slot=some y:=hj;clear hy hj;unfold Syn.unaryH at C;have e2:=wrap64 (n:=x.at'+1) (by have:=aS.le;omega);have g1:IntKind.i64.wrap ((x.at':Int)+1)=((x.at'+1:Nat):Int):=by rw[<-e2];congr 1
  have hF:=aS.le;unfold ar at a7 fl;refine eB g0 ?_;refine⟨O,?_⟩;refine Zm (l:=[E x.at',sD xa xk x.cond,rD x.cond,.int .u8 x.kind,.string ⟨⟨x.text⟩⟩]) (v:=.agg #[E x.at',sD xa xk x.cond,rD x.cond,.int .u8 x.kind,.string ⟨⟨x.text⟩⟩]) rfl (cellsU ca (.head _) d3) (.inl ⟨gv,rfl⟩) ?_;by_cases t1:x.text=sR\/x.text=pq
  .rw[ah t1]at C;have b6:x.at'<Z.length:=t1.elim (aS.lt2 (s:=sR) af) (aS.lt2 (s:=pq) af);by_cases t2:x.text=sR
   have q1:(x.text == [33])=true:=by rw[t2];decide
   refine dR q1 ?_
   rotate_left
   have q1:(x.text == [33])=false:=cb _ t2;have q2:(x.text == [45])=true:=by rw[t1.resolve_left t2];decide
   apply RG;simp only[go_sem,E,pt,sD,rD,q1,q2]
   all_goals
    by_cases cp:o=64
    .rw[ah cp]at C;cases C
     subst cp;refine av ca [0,1,2,3] [sg pb _,D3] [A3,B3] rfl oO rfl (xG h3 aS.le S hE (by simp[dh]at b7 |-;omega)) ?_;rintro v I4 qs b8 B⟨dv2,D4,rs,rfl,i0,rfl,rfl⟩;simp only[Z3]at b8 |-;apply RG;simp only[go_sem,E,pt,sD,rD,c9,dg];exact aa (i+1,va,vb,dv2) _ _ bi cN (by simp only[go_sem,Y,pz]) ⟨I4,D4,A3,B3,_,rfl,b8,D W B,cc,aq,by simp only;rw[<-cD];exact i0,by simpa using aw.le hA B,cV.le hB B,K,by simp only[Y];unfold ar;exact fl⟩
    .rw[ab cp]at C;obtain⟨a,h1,el⟩:=cQ C;cases el
     simp only[gM]at b7 a7;refine av ca [0,1,2,3] [sg pb _] [D3,A3,B3] rfl oO rfl (xH (h:=x) (a:=xa) (k:=xk) O) ?_;rintro v I4 qs b8 B⟨rfl,rfl,rfl⟩;simp only[Z3]at b8 |-;apply RG;simp only[go_sem,E,pt,sD,rD,cL];refine av b8 [0,1,2,3] [] [sg pb _,D3,A3,B3] rfl nN rfl (nG (h:=x) O S) ?_;rintro v I5 qs a3 p⟨rfl,hv⟩;simp only[Z3]at a3 |-;refine aZ ?_;refine av a3 [0,1,2,3] [sg pb _,D3] [A3,B3] rfl IK rfl (ih m1 O (.unary (o+1) (bY x) 0) a h1 O (h3.le p) hv (eH aS b6) (hE.le p) (by simp only[aH];omega)) ?_;rintro v I6 qs R a1⟨dv6,D6,rs,rfl,f6,⟨A6,B6,va6,vb6,rfl,rfl,ef,gf⟩,d9,h4⟩;have d4:=ef.capN ag.len;obtain⟨ka,kc,rfl⟩:=ef.shape;simp only[Z3]at R |-;refine aZ ?_;refine Zm (l:=[.int .i64 ((o+1:Nat):Int)]) rfl (cellsU R (.tail _ (.head _)) (dz (by simp[bS]) rfl)) (.inr ⟨eR,rfl⟩) ?_;apply RG;simp only[go_sem,E,pt,sD,rD,zi o ho];refine k0 R rfl rfl rfl rfl rfl (by exact sQ) ao fun P=>?_;refine aZ ?_;refine ak P [2,0,1,3,4,5] fun q=>?_;refine aJ q fun I7 q L c8=>?_;have fr:bk I7 (.slice ka a.l.length kc) a.l:=ef.sl L c8;refine ak q [2,0,1,3,4] fun U=>?_;refine aJ U fun I9 U w c6=>?_;have fC:bM I9 vb6 a.f:=gf.sl (D L w) c6;have dc:=D L w;have b5:=D p (D a1 dc);refine av U [3,0,1,2] [B3] [sg pb _,D6,A3] rfl j8 rfl (ke (N:=Z.length) O (cV.le hB b5) K fC d9) ?_;rintro v13 g3 qs A d⟨B13,rfl,V⟩;simp only[Z3]at A |-;refine aZ ?_;refine ak A [1,2,3,0] fun am=>?_;have k313:=D b5 d;have ga:=f6.le (D dc d);refine cI am (by exact dr) rfl rfl rfl rfl rfl af fun nb8 I8 a3 p a0=>?_
     have c4:bk I8 (.slice (some ⟨nb8,0,none⟩) 1 1) ([⟨14,x.text,x.at',slot,a.l,x.cond⟩]:List M):=og (bA a0 (by simp[ax,Value.cells]) (by simp[ax,Value.cells,E,sD,rD])) (ag.mk (n:=⟨14,x.text,x.at',slot,a.l,x.cond⟩) ((S.le k313).le p) (bk.le fr (D w (D d p))) d4);refine aZ ?_;refine ak a3 [2,0,1,3] fun R=>?_;refine fk R (by exact dr) (aw.le hA (D k313 p)) (c4) (fun{I J c a} h k=>ag.le h k) (fun{I} c a h=>ag.len c a h) (fun{I} c a h=>ag.ones h) rfl rfl rfl rfl (by first|omega|(simp only[bl,bg];omega)) (by unfold maxLen;first|omega|(simp only[bl,bg];omega)) fun na nc cn A10 P z an=>?_;refine dR c9 ?_;refine ak P [1,2,0,3] fun q=>?_;have u:=D p z;obtain⟨ta,tc,rfl⟩:=V.shape;refine aa (i+1,.slice na (ri.l++([⟨14,x.text,x.at',slot,a.l,x.cond⟩]:List M)).length nc,.slice ta (Syn.joinAll ri.f a.f).length tc,dv6) _ _ bi cN (by simp only[go_sem,Y,pz]) ⟨cn,D6,A10,B13,_,rfl,q,D W (D k313 u),cc,aq,by simpa[cD]using ga.le u,an,cV.le V u,K.joinAll d9,by simp only[aH,gM];unfold ar;simpa using a7⟩
  rw[ab t1]at C;have q1:(x.text == [33])=false:=cb _ fun k=>t1 (.inl k);have q2:(x.text == [45])=false:=cb _ fun k=>t1 (.inr k);by_cases t3:x.text=cq
  .rw[ah t3]at C;have q3:(x.text == [40])=true:=by rw[t3];decide
   apply RG;simp only[go_sem,E,pt,sD,rD,q1,q2,q3];refine cI ca (by exact jw) rfl rfl rfl rfl rfl af fun nb I4 b8 B et=>?_;have f4:bM I4 (.slice (some ⟨nb,0,none⟩) 1 1) (bL x):=wu (bA et (by simp[ax,Value.cells]) (by simp[ax,Value.cells,E,sD,rD])) (S.le B);refine aZ ?_;refine av b8 [0,1,2,3] [sg pb _,D3] [A3,B3] rfl Ez rfl (ih m1 O (.inside o (bL x) slot) y C ho (h3.le B) f4 (mT aS) (hE.le B) (by simp only[aH];omega)) ?_;rintro v I6 qs R a1⟨dv6,D6,rs,rfl,f6,⟨A6,B6,va6,vb6,rfl,rfl,ef,gf⟩,d9,h4⟩;simp only[Z3]at R |-;refine aZ ?_;refine ak R [2,0,1,3,4,5] fun q=>?_;refine aJ q fun I7 q L c8=>?_;have fr:bk I7 va6 y.l:=ef.sl L c8;refine ak q [2,0,1,3,4] fun U=>?_;refine aJ U fun I9 U w c6=>?_;have fC:bM I9 vb6 y.f:=gf.sl (D L w) c6;have dc:=D L w;have b5:=D B (D a1 dc);refine ak U [2,0,1,3] fun A=>?_;refine fk A (by exact dr) (aw.le hA b5) (bk.le fr w) (fun{I J c a} h k=>ag.le h k) (fun{I} c a h=>ag.len c a h) (fun{I} c a h=>ag.ones h) rfl rfl rfl rfl (by first|omega|(simp only[bl,bg];omega)) (by unfold maxLen;first|omega|(simp only[bl,bg];omega)) fun na nc cn A10 am b1 an=>?_;refine aZ ?_;refine av am [3,0,1,2] [B3] [A10,sg pb _,D6] rfl j8 rfl (ke (N:=Z.length) O (cV.le hB (D b5 b1)) K (fC.le b1) d9) ?_;rintro v15 j1 qs d2 cm⟨B15,rfl,ed⟩;obtain⟨ta,tc,rfl⟩:=ed.shape;simp only[Z3]at d2 |-;refine dR c9 ?_;refine ak d2 [2,3,1,0] fun e3=>?_;have k1015:=D b1 cm
   refine aa (i+1,.slice na (ri.l++y.l).length nc,.slice ta (Syn.joinAll ri.f y.f).length tc,dv6) _ _ bi cN (by simp only[go_sem,Y,pz]) ⟨j1,D6,A10,B15,_,rfl,e3,D W (D b5 k1015),cc,aq,by simpa[cD]using f6.le (D dc k1015),aw.le an cm,ed,K.joinAll d9,by simp only[aH]at a7 |-;unfold ar;exact a7⟩
  rw[ab t3]at C;have q3:(x.text == [40])=false:=cb _ t3;by_cases t4:x.kind=2
  .rw[ah t4]at C;have q4:((x.kind:Int) == 2)=true:=by rw[t4];rfl
   have b6:x.at'<Z.length:=aS.lt (.inr O);apply RG;simp only[go_sem,E,pt,sD,rD,q1,q2,q3,q4];cases C
   refine dR g1 ?_;refine av ca [3,0,1,2] [B3] [sg pb _,D3,A3] rfl jK rfl (jL (a:=x.at'+1) hB S K.ok.2 (fun t ht=>by have:=K.le t ht;omega) O (by have:=K.len;omega)) ?_;rintro v13 g3 qs A d⟨B13,rfl,V⟩;simp only[Z3]at A |-;refine aZ ?_;refine ak A [1,2,3,0] fun am=>?_;refine cI am (by exact dr) rfl rfl rfl rfl rfl af fun nb8 I8 a3 p a0=>?_;have c4:bk I8 (.slice (some ⟨nb8,0,none⟩) 1 1) ([⟨15,x.text,x.at',slot,[],x.cond⟩]:List M):=og (bA a0 (by simp[ax,Value.cells]) (by simp[ax,Value.cells,E,sD,rD])) (ag.mk (n:=⟨15,x.text,x.at',slot,[],x.cond⟩) ((S.le d).le p) (Sl.nil _ _) p0);refine aZ ?_;refine ak a3 [2,0,1,3] fun R=>?_;refine fk R (by exact dr) (aw.le hA (D d p)) (c4) (fun{I J c a} h k=>ag.le h k) (fun{I} c a h=>ag.len c a h) (fun{I} c a h=>ag.ones h) rfl rfl rfl rfl (by first|omega|(simp only[bl,bg];omega)) (by unfold maxLen;first|omega|(simp only[bl,bg];omega)) fun na nc cn A10 P z an=>?_;refine dR c9 ?_;refine ak P [1,2,0,3] fun q=>?_;have u:=D p z;obtain⟨ta,tc,rfl⟩:=V.shape;refine aa (i+1,.slice na (ri.l++([⟨15,x.text,x.at',slot,[],x.cond⟩]:List M)).length nc,.slice ta (Syn.join ri.f (x.at'+1) x.cond).length tc,dv) _ _ bi cN (by simp only[go_sem,Y,pz]) ⟨cn,D3,A10,B13,_,rfl,q,D W (D d u),cc,aq,by simpa using hE.le (D d u),an,cV.le V u,K.join O aS.ok,by simp only[aH,gM];unfold ar;simpa using a7⟩
  rw[ab t4]at C;have q4:((x.kind:Int) == 2)=false:=by rw[i7];omega
  by_cases t5:x.text=pu\/x.text=qX
  .rw[ah t5]at C;have b6:x.at'<Z.length:=t5.elim (aS.lt2 (s:=pu) af) (aS.lt2 (s:=qX) af);by_cases t6:x.text=pu
   have q5:(x.text == [116,114,117,101])=true:=by rw[t6];decide
   apply RG;simp only[go_sem,E,pt,sD,rD,q1,q2,q3,q4,q5]
   rotate_left
   have q5:(x.text == [116,114,117,101])=false:=cb _ t6;have q6:(x.text == [102,97,108,115,101])=true:=by rw[t5.resolve_left t6];decide
   apply RG;simp only[go_sem,E,pt,sD,rD,q1,q2,q3,q4,q5,q6]
   all_goals
    cases C
    refine dR g1 ?_;refine av ca [3,0,1,2] [B3] [sg pb _,D3,A3] rfl jK rfl (jL (a:=x.at'+1) hB S K.ok.2 (fun t ht=>by have:=K.le t ht;omega) O (by have:=K.len;omega)) ?_;rintro v13 g3 qs A d⟨B13,rfl,V⟩;simp only[Z3]at A |-;refine aZ ?_;refine ak A [1,2,3,0] fun am=>?_;refine cI am (by exact dr) rfl rfl rfl rfl rfl af fun nb8 I8 a3 p a0=>?_;have c4:bk I8 (.slice (some ⟨nb8,0,none⟩) 1 1) ([⟨16,x.text,x.at',slot,[],x.cond⟩]:List M):=og (bA a0 (by simp[ax,Value.cells]) (by simp[ax,Value.cells,E,sD,rD])) (ag.mk (n:=⟨16,x.text,x.at',slot,[],x.cond⟩) ((S.le d).le p) (Sl.nil _ _) p0);refine aZ ?_;refine ak a3 [2,0,1,3] fun R=>?_;refine fk R (by exact dr) (aw.le hA (D d p)) (c4) (fun{I J c a} h k=>ag.le h k) (fun{I} c a h=>ag.len c a h) (fun{I} c a h=>ag.ones h) rfl rfl rfl rfl (by first|omega|(simp only[bl,bg];omega)) (by unfold maxLen;first|omega|(simp only[bl,bg];omega)) fun na nc cn A10 P z an=>?_;refine dR c9 ?_;refine ak P [1,2,0,3] fun q=>?_;have u:=D p z;obtain⟨ta,tc,rfl⟩:=V.shape;refine aa (i+1,.slice na (ri.l++([⟨16,x.text,x.at',slot,[],x.cond⟩]:List M)).length nc,.slice ta (Syn.join ri.f (x.at'+1) x.cond).length tc,dv) _ _ bi cN (by simp only[go_sem,Y,pz]) ⟨cn,D3,A10,B13,_,rfl,q,D W (D d u),cc,aq,by simpa using hE.le (D d u),an,cV.le V u,K.join O aS.ok,by simp only[aH,gM];unfold ar;simpa using a7⟩
  rw[ab t5]at C;have q5:(x.text == [116,114,117,101])=false:=cb _ fun k=>t5 (.inl k);have q6:(x.text == [102,97,108,115,101])=false:=cb _ fun k=>t5 (.inr k);by_cases t7:x.text=un
  .rw[ah t7]at C;have b6:x.at'<Z.length:=aS.lt2 (s:=un) af t7;have q7:(x.text == [114,101,97,100])=true:=by rw[t7];decide
   apply RG;simp only[go_sem,E,pt,sD,rD,q1,q2,q3,q4,q5,q6,q7];cases C
   refine dR g1 ?_;refine av ca [3,0,1,2] [B3] [sg pb _,D3,A3] rfl jK rfl (jL (a:=x.at'+1) hB S K.ok.2 (fun t ht=>by have:=K.le t ht;omega) O (by have:=K.len;omega)) ?_;rintro v13 g3 qs A d⟨B13,rfl,V⟩;simp only[Z3]at A |-;refine aZ ?_;refine ak A [1,2,3,0] fun am=>?_;refine cI am (by exact dr) rfl rfl rfl rfl rfl af fun nb8 I8 a3 p a0=>?_;have c4:bk I8 (.slice (some ⟨nb8,0,none⟩) 1 1) ([⟨17,[],x.at',slot,[],x.cond⟩]:List M):=og (bA a0 (by simp[ax,Value.cells]) (by simp[ax,Value.cells,E,sD,rD])) (ag.mk (n:=⟨17,[],x.at',slot,[],x.cond⟩) ((S.le d).le p) (Sl.nil _ _) p0);refine aZ ?_;refine ak a3 [2,0,1,3] fun R=>?_;refine fk R (by exact dr) (aw.le hA (D d p)) (c4) (fun{I J c a} h k=>ag.le h k) (fun{I} c a h=>ag.len c a h) (fun{I} c a h=>ag.ones h) rfl rfl rfl rfl (by first|omega|(simp only[bl,bg];omega)) (by unfold maxLen;first|omega|(simp only[bl,bg];omega)) fun na nc cn A10 P z an=>?_;refine dR c9 ?_;refine ak P [1,2,0,3] fun q=>?_;have u:=D p z;obtain⟨ta,tc,rfl⟩:=V.shape;refine aa (i+1,.slice na (ri.l++([⟨17,[],x.at',slot,[],x.cond⟩]:List M)).length nc,.slice ta (Syn.join ri.f (x.at'+1) x.cond).length tc,dv) _ _ bi cN (by simp only[go_sem,Y,pz]) ⟨cn,D3,A10,B13,_,rfl,q,D W (D d u),cc,aq,by simpa using hE.le (D d u),an,cV.le V u,K.join O aS.ok,by simp only[aH,gM];unfold ar;simpa using a7⟩
  rw[ab t7]at C;have q7:(x.text == [114,101,97,100])=false:=cb _ t7;apply RG;simp only[go_sem,E,pt,sD,rD,q1,q2,q3,q4,q5,q6,q7];refine cI ca (by exact jw) rfl rfl rfl rfl rfl af fun nb I4 b8 B et=>?_;have f4:bM I4 (.slice (some ⟨nb,0,none⟩) 1 1) (bL x):=wu (bA et (by simp[ax,Value.cells]) (by simp[ax,Value.cells,E,sD,rD])) (S.le B);have fh:=mT aS;have nf:=nT h.ok fh 18 slot;have nl:=vO h.ok fh 18 slot;obtain⟨xs,g,em⟩:∃yes g,bP Z (named Z (bL x) 18 slot).f (bq cq)=(yes,g):=⟨_,_,rfl⟩;simp only[em]at C;obtain⟨c,hY,el⟩:=cQ C;cases el
  simp only[aH]at b7 a7;have e5:=oh h.ok nf (is:=bq cq);have hq:=qU h.ok nf (bq cq);have fA:=jx h.ok nf (bq cq);have cx:(named Z (bL x) 18 slot).l=[]->(bP Z (named Z (bL x) 18 slot).f (bq cq)).1=[]:=fun e=>by rw[Vg e];rfl
  rw[em]at e5 hq fA cx;simp only at e5 hq fA cx;refine aZ ?_;refine av b8 [0,1,2,3] [sg pb _,D3] [A3,B3] rfl vm rfl (vP (kind:=18) (slot:=slot) (f:=bL x) (h3.le B) f4 fh (hE.le B) (by simp only[aH];omega)) ?_;rintro v I5 qs a3 p⟨dv5,D5,rs,rfl,ie,⟨A5,B5,va5,vb5,rfl,rfl,i3,i2⟩,hv,h5⟩;simp only[Z3]at a3 |-;refine aZ ?_;refine ak a3 [3,0,1,2,4,5] fun R=>?_;refine aJ R fun I6 R a1 i1=>?_;have ic:bM I6 vb5 (named Z (bL x) 18 slot).f:=i2.sl a1 i1;refine av R [0,1,2,3,4] [] [sg pb _,D5,A5,A3,B3] rfl nO rfl (oq (s:=cq)) ?_;rintro vi I7 qs P z⟨rfl,hu⟩;simp only[Z3]at P |-;obtain⟨fi,first,cap,rfl,gi,ci⟩:=id hu;refine aZ ?_;have hh:=D B (D p (D a1 z));refine av P [0,1,2,3,4] [sg pb _] [D5,A5,A3,B3] rfl oN rfl (pj (h3.le hh) (ic.le z) nf hu) ?_;rintro v I8 qs q L⟨A8,B8,va8,vb8,rfl,rfl,ej,gc⟩;rw[em]at ej gc;simp only at ej gc;obtain⟨xsa,xsc,rfl⟩:=ej.shape;simp only[Z3]at q |-;refine aZ ?_;refine ak q [1,0,2,3,4,5,6] fun U=>?_;refine aJ U fun I9 U w gs=>?_;have h2:fM I9 (.slice xsa xs.length xsc) xs:=ej.sl w gs;refine ak U [0,2,4,5,3,1] fun A=>?_;have hb:=D L w;have hg:=D a1 (D z hb);have b5:=D hh hb;have h9:=h3.le b5;have h7:s9 Z o slot x ⟨c.l,c.f,(named Z (bL x) 18 slot).e++c.e⟩ m1 xs (named Z (bL x) 18 slot).l g (named Z (bL x) 18 slot).e:=⟨c,hY,rfl,rfl,rfl⟩
  refine bV (fun x=>xs.length-x.1) (Cp pb slot va vb (.slice (some ⟨b,off,none⟩) a2.length hc) a2.length i [E x.at',sD xa xk x.cond,rD x.cond,.int .u8 x.kind,.string ⟨⟨x.text⟩⟩] (.slice xsa xs.length xsc) xs.length) (Yx pb Z lv fv ov o slot m1 A3 B3 x xs ⟨c.l,c.f,(named Z (bL x) 18 slot).e++c.e⟩ (e++ri.e) I9) (0,m1,va5,vb8,dv5) t8 (by simp only[go_sem,Y,Cp,E,sD,rD]) ?_ ?_
  .exact⟨I9,D5,A5,B8,_,_,_,rfl,A,aD _,aE _,aR _,h7,i3.le hg,by
    by_cases e7:(named Z (bL x) 18 slot).l=[]
    .exact .inr (cx e7)
    .exact .inl e7,h5,gc.le w,fA,ie.le hg⟩
  rintro⟨j,m2,vn,vg,dw⟩ H ⟨kk,D17,N,G,l,gg,ee,rfl,c0,b0,hO,hK,d5,fc,hL,j7,hG,ei,gb⟩ cr;simp only at hO hK d5 fc hG gb;simp only[Cp];have ek:=D b5 b0;have i4:=h3.le ek;rcases aK j xs.length with da|j9
  .have gt:decide ((j:Int)<(xs.length:Int))=true:=by simp;omega
   have f1:=wrap64 (n:=j+1) O;have f1':IntKind.i64.wrap ((j:Int)+1)=((j+1:Nat):Int):=by rw[<-f1];congr 1
   obtain⟨y,eg⟩:∃y,xs[j]?=some y:=⟨_,aY da⟩;obtain⟨hC,j2⟩:=e5 y (db eg);obtain⟨bb,off2,cs2,rfl,e4,c2⟩:=(h2.le b0).load dM.len eg;obtain⟨ya,yk,rfl,a9⟩:=e4;have hS:xs.drop j=y::xs.drop (j+1):=by rw[jz da];rw[aY da]at eg;rw[cX eg]
   rw[hS]at d5;obtain⟨m3,aa',rfl,h0,cy,c5⟩:=Ua d5;have dx:=c5.le;simp only[aH]at dx;refine dR gt ?_;refine⟨O,?_⟩;refine Zm (l:=[E y.at',sD ya yk y.cond,rD y.cond,.int .u8 y.kind,.string ⟨⟨y.text⟩⟩]) (v:=.agg #[E y.at',sD ya yk y.cond,rD y.cond,.int .u8 y.kind,.string ⟨⟨y.text⟩⟩]) rfl (cellsU c0 (.head _) c2) (.inl ⟨gv,rfl⟩) ?_;refine aZ ?_;refine cI c0 (by exact jw) rfl rfl rfl rfl rfl af fun nb2 g2 b4 T es=>?_;have f5:bM g2 (.slice (some ⟨nb2,0,none⟩) 1 1) (bL y):=wu (bA es (by simp[ax,Value.cells]) (by simp[ax,Value.cells,E,sD,rD])) (a9.le T);refine aZ ?_;refine av b4 [0,1,2,3,4,5] [sg pb _,D17] [A3,B3,N,G] rfl Et rfl (ih m3 O (.listed false o (bL y)) aa' h0 ho (i4.le T) f5 (mT hC) (gb.le T) (by simp only[aH];omega)) ?_;rintro v hz qs a6 ap⟨dv19,D19,rs,rfl,f7,⟨A19,B19,va19,vb19,rfl,rfl,c7,gn⟩,ea,h6⟩;have c3:=c7.capN ag.len;obtain⟨ka,kc,rfl⟩:=c7.shape;simp only[Z3]at a6 |-;refine aZ ?_;refine ak a6 [2,0,1,3,4,5,6,7] fun b3=>?_;refine aJ (c:=.st _) b3 fun jo b3 bx gr=>?_;have fs:bk jo (.slice ka aa'.l.length kc) aa'.l:=c7.sl bx gr;refine ak b3 [2,0,1,3,4,5,6] fun b2=>?_;refine aJ (c:=.st _) b2 fun hw b2 ac gl=>?_;have f2:bM hw vb19 aa'.f:=gn.sl (D bx ac) gl;have k1921:=D bx ac;have k1721:=D T (D ap k1921);obtain⟨n1,l1,rfl⟩:∃n1 l1,l=n1::l1:=by
    cases l with
    |nil=>exact absurd rfl (hL.resolve_right fun e=>by rw[e]at da;exact Nat.not_lt_zero _ da)
    |cons n1 l1=>exact⟨n1,l1,rfl⟩
   rw[JN]at c5;refine ak b2 [4,0,1,2,3,5] fun a4=>?_;obtain⟨g5,cap5,cur,a5,k5,rfl,rfl,j3,c1,dd,eq⟩:=JP (aw.le fc k1721);refine rK mixed [0,1,2,3,4,5,6,7,8,9,10,11] [] [] [4] [7] (sg g5 (.cells cur 60 (0,0))) rfl rfl ?_;refine ft ?_;refine⟨O,?_⟩;refine rI (l:=[sD a5 k5 n1.cond,rD n1.cond]) (v:=.agg #[sD a5 k5 n1.cond,rD n1.cond]) rfl (ju a4) rfl rfl rfl c1 (.inl ⟨jG,rfl⟩) ?_;refine ft ?_;refine zI a4 [0,1,2,3,4,5] rfl rfl rfl rfl rfl qp (by rfl) (ps:=[]) (F:=[sg g5 _,sg pb _,D19,A3,B3,G]) rfl (ju a4) (qA (a9.le k1721)) ?_;rintro v kj qs d1 bs⟨rfl,ds⟩;obtain⟨ra,rk,rfl⟩:=ds.shape2;simp only[Z3]at d1 |-;refine ft ?_;refine cH d1 [0,1,2,3,4,5] [] [sg g5 _,sg pb _,D19,A3,B3,G] rfl ls rfl (ln (dd.le bs) ds) ?_;rintro v ja qs d0 cj⟨rfl,dk⟩;obtain⟨ta,tk,rfl⟩:=dk.shape2;simp only[Z3]at d0 |-;refine ft ?_;refine⟨O,?_⟩;refine cY d0 rfl rfl rfl rfl rfl rfl (by exact qW) (by simp;omega) fun eA=>?_;apply aN;have fa:=eq ja ta tk (n1.cond.and y.cond.not) (D bs cj) dk;have k2126:=D bs cj;refine aZ ?_;refine cI eA (by exact dr) rfl rfl rfl rfl rfl af fun nb3 i9 ez cf er=>?_;have k2128:=D k2126 cf;have k1728:=D k1721 k2128;have e6:bk i9 (.slice (some ⟨nb3,0,none⟩) 1 1) ([⟨19,x.text,x.at',slot,aa'.l,y.cond⟩]:List M):=og (bA er (by simp[ax,Value.cells]) (by simp[ax,Value.cells,E,sD,rD])) (ag.mk (n:=⟨19,x.text,x.at',slot,aa'.l,y.cond⟩) (a9.le k1728) (bk.le fs (D ac k2128)) c3);refine aZ ?_;unfold ar at cy;simp only[bl]at cy
   refine fk ez (by exact dr) (aw.le fa cf) (e6) (fun{I J c a} h k=>ag.le h k) (fun{I} c a h=>ag.len c a h) (fun{I} c a h=>ag.ones h) rfl rfl rfl rfl (by first|omega|(simp only[bl,bg];omega)) (by unfold maxLen;first|omega|(simp only[bl,bg];omega)) fun wa wc ki N29 ey bc e8=>?_;refine aZ ?_;have k2129:=D k2128 bc;refine av ey [5,0,1,2,3,4] [G] [N29,sg pb _,D19,A3,B3] rfl j8 rfl (ke (N:=Z.length) O (hG.le (D k1728 bc)) ei (f2.le k2129) ea) ?_;rintro v30 i5 qs dT ba⟨G30,rfl,f0⟩;simp only[Z3]at dT |-;refine dR f1' ?_;refine ak dT [2,3,4,5,1,0] fun ex=>?_;refine cr (j+1,m3,.slice wa ((l1++([⟨19,x.text,x.at',slot,aa'.l,y.cond⟩]:List M)).length+1) wc,v30,dv19) _ _ bi t8 (by simp only[go_sem,Y,Cp,E,sD,rD]) ⟨i5,D19,N29,G30,_,_,_,rfl,ex,D b0 (D k1728 (D bc ba)),da,by simp only;omega,c5,aw.le e8 ba,.inl (List.cons_ne_nil _ _),?_,f0,ei.joinAll ea,by simpa[cD]using f7.le (D k1921 (D k2129 ba))⟩;simp only[bl,aH,bg]at cy |-;unfold ar;omega
  .have hM:j=xs.length:=by omega
   subst hM;have gt:decide ((xs.length:Int)<(xs.length:Int))=false:=ao;rw[js]at d5;obtain⟨rfl,rfl,rfl⟩:=Ub d5;refine dR gt ?_;refine ak c0 [4,0,1,2,3,5] fun b4=>?_;refine aJ b4 fun g2 b4 T fb=>?_;have fz:bk g2 vn c.l:=aw.sl fc T fb;refine ak b4 [4,0,1,2,3] fun a6=>?_;refine aJ a6 fun hz a6 ap f3=>?_;have d7:bM hz vg c.f:=cV.sl hG (D T ap) f3;have k1719:=D T ap;have k319:=D ek k1719;refine ak a6 [2,0,1,3] fun b3=>?_;refine fk b3 (by exact dr) (aw.le hA k319) (bk.le fz ap) (fun{I J c a} h k=>ag.le h k) (fun{I} c a h=>ag.len c a h) (fun{I} c a h=>ag.ones h) rfl rfl rfl rfl (by first|omega|(simp only[bl,bg];omega)) (by unfold maxLen;first|omega|(simp only[bl,bg];omega)) fun na nc hw A21 b2 ac gq=>?_;refine aZ ?_;refine av b2 [3,0,1,2] [B3] [A21,sg pb _,D17] rfl j8 rfl (ke (N:=Z.length) O (cV.le hB (D k319 ac)) K (d7.le ac) ei) ?_;rintro v22 jf qs a4 cl⟨B22,rfl,ec⟩;obtain⟨ta,tc,rfl⟩:=ec.shape;simp only[Z3]at a4 |-;refine dR c9 ?_;refine ak a4 [2,3,1,0] fun e0=>?_;have k1722:=D k1719 (D ac cl);refine aa (i+1,.slice na (ri.l++c.l).length nc,.slice ta (Syn.joinAll ri.f c.f).length tc,dw) _ _ bi cN (by simp only[go_sem,Y,pz]) ⟨jf,D17,A21,B22,_,rfl,e0,D W (D ek k1722),cc,aq,by simpa[cD]using gb.le k1722,aw.le gq cl,ec,K.joinAll ei,by simp only[aH];unfold ar;exact a7⟩
 .have hP:i=a2.length:=by omega
  subst hP;have g0:decide ((a2.length:Int)<(a2.length:Int))=false:=ao;rw[js]at eh;cases eh
  refine eB g0 ?_;exact az rfl ca (r:=[va,vb]) rfl (D cA W) ⟨_,D3,[A3,B3],rfl,hE,⟨A3,B3,va,vb,rfl,rfl,hA,hB⟩,K,fl⟩
end
open Go Go.Sx Dg Syn
section
variable {pb:Nat} {Z:Zs} {lv fv ov:Value}
def MH:∀n,jZ pb Z lv fv ov n
 |0=>fun m hm=>absurd hm (Nat.not_lt_zero _)
 |n+1=>fun m hm x r hr=>by
  have a:=MH n;rcases aK m n with b|c
  .exact a m b x r hr
  have:m=n:=O;subst this;cases x with
  |line=>exact UC a hr
  |unary=>exact YD a hr
  |inside=>exact SM a hr
  |listed=>exact UI a hr
  |behind=>exact Oo a hr
  |vrb=>exact YN a hr
  |function=>exact Qo a hr
  |block=>exact Oz a hr
  |stmt=>exact XD a hr
  |branch=>exact OC a hr
  |_=>trivial
def Wb{o:Nat}(c:o<=64){d:T}{r:Syn.aA}{n:Nat}(hr:Syn.run Z n (.seqL true o [(0,d)] [] [])=some r){I X:PH}{dv:Value}{da:Option Addr}{dk:Nat}{e:List aI}(h:iG I Z lv fv)(b:bW I (.agg #[sD da dk d,rD d]) d)(a:d≠ff)(f:bt I X dv e)(hm:e.length+r.e.length<=l9):
  Zu 77 #[pt pb,.agg #[sD da dk d,rD d]] I [sg pb (bS lv fv ov dv o),X] (PP pb lv fv ov o (e++r.e) (uO Z r)):=
 Wc (MH n) c hr h b a f hm
end
open Go Go.Sx Dg Syn
def En:ay prog 161:=⟨_,func161,rfl,rfl⟩
def QC:ay prog 162:=⟨_,func162,rfl,rfl⟩
def QV:ay prog 226:=⟨_,func226,rfl,rfl⟩
def QW:ay prog 227:=⟨_,func227,rfl,rfl⟩
def IN:ay prog 232:=⟨_,func232,rfl,rfl⟩
def IP:ay prog 233:=⟨_,func233,rfl,rfl⟩
def IU:ay prog 281:=⟨_,func281,rfl,rfl⟩
def IV:ay prog 282:=⟨_,func282,rfl,rfl⟩
def IB:ay prog 160:=⟨_,func160,rfl,rfl⟩
def tJ:ay prog 145:=⟨_,func145,rfl,rfl⟩
def Iz:ay prog 149:=⟨_,func149,rfl,rfl⟩
def QA:ay prog 148:=⟨_,func148,rfl,rfl⟩
def AE:ay prog 93:=⟨_,func93,rfl,rfl⟩
def bh.keep{P:Program}{f:FuncId}{args:Array Value}{I:PH}{w:Value}(h:bh P f args I fun v H2=>v=w/\H2=I):aT P f args I [] fun v b a=>a=[]/\v=w:=
 bh.toI (h.mono fun v H2 ⟨e1,e2⟩=>⟨by rw[e2];exact aD _,e1⟩)
def gw(a b:Int):Int:=if a<b then -1 else if b<a then 1 else 0
def tz(a b:au):Int:=if iY a b=true then -1 else if iY b a=true then 1 else 0
def Dv:∀(a b:au),Op.bytesLess a b=iY a b
 |_,[]=>by simp[Op.bytesLess,iY]
 | [],_::_=>rfl
 |x::a,y::b=>by
  have d:=Dv a b;simp only[Op.bytesLess,iY,d];by_cases h1:x.toNat<y.toNat
  .have:x<y:=h1;simp[h1,this]
  .have c:¬x<y:=h1;by_cases h2:y.toNat<x.toNat
   .have:(x == y)=false:=by rw[i7];intro e;rw[e]at h2;exact Nat.lt_irrefl _ h2
    simp[h1,h2,c,this]
   .have e:x=y:=UInt8.toNat_inj.1 O;subst e;simp[h1]
def Ky(a:Int)(H:PH):Zv 232 #[.int .i64 a] H fun v H2=>v=.bool false/\H2=H:=by refine fj func232 rfl (by simp[ntmps232]) fun w0=>?_;simp only[ntmps232];apply RG;simp only[go_sem,bne_self_eq_false];exact aX (r:=[_]) rfl ⟨rfl,rfl⟩
def Kx(a:Int)(H:PH):Zv 233 #[.int .u8 a] H fun v H2=>v=.bool false/\H2=H:=by refine fj func233 rfl (by simp[ntmps233]) fun w0=>?_;simp only[ntmps233];apply RG;simp only[go_sem,bne_self_eq_false];exact aX (r:=[_]) rfl ⟨rfl,rfl⟩
def KA(a:Int)(H:PH):Zv 281 #[.int .u8 a] H fun v H2=>v=.bool false/\H2=H:=by refine fj func281 rfl (by simp[ntmps281]) fun w0=>?_;simp only[ntmps281];apply RG;simp only[go_sem,bne_self_eq_false];exact aX (r:=[_]) rfl ⟨rfl,rfl⟩
def Kz(a:au)(H:PH):Zv 282 #[.string ⟨⟨a⟩⟩] H fun v H2=>v=.bool false/\H2=H:=by refine fj func282 rfl (by simp[ntmps282]) fun w0=>?_;simp only[ntmps282];apply RG;simp only[go_sem,bne_self_eq_false];exact aX (r:=[_]) rfl ⟨rfl,rfl⟩
def DB(a b:Int)(H:PH):Zv 161 #[.int .i64 a,.int .i64 b] H fun v H2=>v=.int .i64 (gw a b)/\H2=H:=by
 refine aP 20 func161 fun w0=>?_;refine ai ?_;refine Zl rfl IN (Ky a H) ?_;rintro v H2⟨rfl,rfl⟩;refine ai ?_;refine Zl rfl IN (Ky b H2) ?_;rintro v e⟨rfl,rfl⟩;by_cases h1:a<b
 .have c:decide (a<b)=true:=bm h1;refine dB c ?_;exact aX (r:=[_]) rfl ⟨by simp[gw,h1,dY],rfl⟩
 .have c:decide (a<b)=false:=ch h1;by_cases h2:b<a
  .have d:decide (a>b)=true:=bm h2;apply RG;simp only[go_sem,c,d,lH,dg];exact aX (r:=[_]) rfl ⟨by simp[gw,h1,h2,dY],rfl⟩
  .have d:decide (a>b)=false:=ch h2;apply RG;simp only[go_sem,c,d,lH,cL];exact aX (r:=[_]) rfl ⟨by simp[gw,h1,h2,dY],rfl⟩
def Pa(a b:Int)(H:PH):Zv 162 #[.int .u8 a,.int .u8 b] H fun v H2=>v=.int .i64 (gw a b)/\H2=H:=by
 refine aP 20 func162 fun w0=>?_;refine ai ?_;refine Zl rfl IP (Kx a H) ?_;rintro v H2⟨rfl,rfl⟩;refine ai ?_;refine Zl rfl IP (Kx b H2) ?_;rintro v e⟨rfl,rfl⟩;by_cases h1:a<b
 .have c:decide (a<b)=true:=bm h1;refine dB c ?_;exact aX (r:=[_]) rfl ⟨by simp[gw,h1,dY],rfl⟩
 .have c:decide (a<b)=false:=ch h1;by_cases h2:b<a
  .have d:decide (a>b)=true:=bm h2;apply RG;simp only[go_sem,c,d,lH,dg];exact aX (r:=[_]) rfl ⟨by simp[gw,h1,h2,dY],rfl⟩
  .have d:decide (a>b)=false:=ch h2;apply RG;simp only[go_sem,c,d,lH,cL];exact aX (r:=[_]) rfl ⟨by simp[gw,h1,h2,dY],rfl⟩
def Pe(a b:Int)(H:PH):Zv 226 #[.int .u8 a,.int .u8 b] H fun v H2=>v=.int .i64 (gw a b)/\H2=H:=by
 refine aP 20 func226 fun w0=>?_;refine ai ?_;refine Zl rfl IU (KA a H) ?_;rintro v H2⟨rfl,rfl⟩;refine ai ?_;refine Zl rfl IU (KA b H2) ?_;rintro v e⟨rfl,rfl⟩;by_cases h1:a<b
 .have c:decide (a<b)=true:=bm h1;refine dB c ?_;exact aX (r:=[_]) rfl ⟨by simp[gw,h1,dY],rfl⟩
 .have c:decide (a<b)=false:=ch h1;by_cases h2:b<a
  .have d:decide (a>b)=true:=bm h2;apply RG;simp only[go_sem,c,d,lH,dg];exact aX (r:=[_]) rfl ⟨by simp[gw,h1,h2,dY],rfl⟩
  .have d:decide (a>b)=false:=ch h2;apply RG;simp only[go_sem,c,d,lH,cL];exact aX (r:=[_]) rfl ⟨by simp[gw,h1,h2,dY],rfl⟩
def Pd(a b:au)(H:PH):Zv 227 #[.string ⟨⟨a⟩⟩,.string ⟨⟨b⟩⟩] H fun v H2=>v=.int .i64 (tz a b)/\H2=H:=by
 refine aP 20 func227 fun w0=>?_;refine ai ?_;refine Zl rfl IV (Kz a H) ?_;rintro v H2⟨rfl,rfl⟩;refine ai ?_;refine Zl rfl IV (Kz b H2) ?_;rintro v f⟨rfl,rfl⟩;by_cases h1:iY a b=true
 .have c:Op.bytesLess a b=true:=by rw[Dv];exact h1
  refine dB c ?_;exact aX (r:=[_]) rfl ⟨by simp[tz,h1,dY],rfl⟩
 .have c:Op.bytesLess a b=false:=by rw[Dv];simpa using h1
  by_cases h2:iY b a=true
  .have d:(a == b)=false:=by rw[i7];intro e;rw[e,ze.irr]at h2;cases h2
   apply RG;simp only[go_sem,c,d,lH,dg];exact aX (r:=[_]) rfl ⟨by simp[tz,h1,h2,dY],rfl⟩
  .have d:(a == b)=true:=by rw[beq_iff_eq];exact ze.tri a b (by simpa using h1) (by simpa using h2)
   apply RG;simp only[go_sem,c,d,lH,cL];exact aX (r:=[_]) rfl ⟨by simp[tz,h1,h2,dY],rfl⟩
def jn:List Int->Int
 | []=>0
 |a::l=>if a=0 then jn l else a
def Bx(sv:Value)(n:Nat)(i:Nat):St:=⟨dn 18 [(3,.v (.int .i64 0)),(6,.v sv),(7,.v (E n)),(8,.v (E i))],[]⟩
def KI{H:PH}{b c:Nat}{zs:List Int}(h:a8 H b 0 (zs.map fun z=>.int .i64 z))(p:zs.length<=100):Zv 160 #[.slice (some ⟨b,0,none⟩) zs.length c] H fun v H2=>v=.int .i64 (jn zs)/\H2=H:=by
 refine aP 18 func160 fun w0=>?_;refine ai ?_;refine bV (fun x=>zs.length-x) (Bx (.slice (some ⟨b,0,none⟩) zs.length c) zs.length) (fun i H2=>H2=H/\i<=zs.length/\jn (zs.drop i)=jn zs) 0 al (by simp only[go_sem,Y,Bx]) ⟨rfl,aE _,rfl⟩ ?_;rintro i H2 ⟨rfl,hi,f⟩ e;simp only[Bx];rcases aK i zs.length with d|o
 .have j:decide ((i:Int)<(zs.length:Int))=true:=by simp;omega
  have e1:=wrap64 (n:=i+1) O;have k:IntKind.i64.wrap ((i:Int)+1)=((i+1:Nat):Int):=by rw[<-e1];congr 1
  obtain⟨z,m⟩:∃z,zs[i]?=some z:=⟨_,aY d⟩;have hd:zs.drop i=z::zs.drop (i+1):=by rw[jz d];rw[aY d]at m;rw[cX m]
  have a:=h.sub i 1 (by simp;omega);have hm:((zs.map fun z=>Value.int .i64 z).drop i).take 1=[.int .i64 z]:=by rw[<-List.map_drop,hd];rfl
  rw[hm,g8]at a;rw[hd]at f;refine bd j ?_;refine⟨O,?_⟩;refine Zm (l:=[.int .i64 z]) rfl (by simpa using a) (.inr ⟨eR,rfl⟩) ?_;by_cases h0:z=0
  .have q:(z != 0)=false:=by simp[h0]
   refine d6 q k ?_;exact e (i+1) _ _ O al (by simp only[go_sem,Y,Bx]) ⟨rfl,d,by rw[<-f];simp[jn,h0]⟩
  .have q:(z != 0)=true:=by simp[h0]
   refine bd q ?_;exact aX (r:=[_]) rfl ⟨by rw[<-f];simp[jn,h0,dY],rfl⟩
 .have g:i=zs.length:=by omega
  subst g;have j:decide ((zs.length:Int)<(zs.length:Int))=false:=ao;rw[js]at f;refine bd j ?_;exact aX (r:=[_]) rfl ⟨by rw[<-f];rfl,rfl⟩
def tP(k t o g:Int)(x:au)(e b:Option Addr)(c d fn a:Nat)(H:PH):Zv 145 #[.agg #[.int .u8 k,.string ⟨⟨x⟩⟩,.int .i64 t,.int .i64 o,.slice e c d,.slice b fn a,.int .i64 g]] H fun v H2=>v=.agg #[.int .i64 o,.int .i64 t,.int .u8 k,.string ⟨⟨x⟩⟩]/\H2=H:=by refine aP 12 func145 fun w0=>?_;refine ai ?_;exact aX (r:=[.agg #[.int .i64 o,.int .i64 t,.int .u8 k,.string ⟨⟨x⟩⟩]]) (by simp only[results145,go_sem]) ⟨rfl,rfl⟩
def AO(x y:eQ):Int:=jn [gw x.slot y.slot,gw x.tok y.tok,gw x.kind y.kind,tz x.text y.text]
def kN(k:eQ):Value:=.agg #[.int .i64 k.slot,.int .i64 k.tok,.int .u8 k.kind,.string ⟨⟨k.text⟩⟩]
def JF(x y:eQ):decide (AO x y<0)=kf x y:=by
 unfold AO kf gw tz jn jn jn jn jn;by_cases a:x.slot<y.slot
 .simp[a]
 .by_cases a2:y.slot<x.slot
  .simp[a,a2]
  .by_cases b:x.tok<y.tok
   .simp[a,a2,b]
   .by_cases c:y.tok<x.tok
    .simp[a,a2,b,c]
    .by_cases c1:x.kind<y.kind
     .simp[a,a2,b,c,c1]
     .by_cases c2:y.kind<x.kind
      .simp[a,a2,b,c,c1,c2]
      .cases e:iY x.text y.text<;>cases d:iY y.text x.text<;>simp[a,a2,b,c,c1,c2]
def HI(x y:eQ)(I:PH):Zu 149 #[kN x,kN y] I [] fun v p b=>b=[]/\v=.int .i64 (AO x y):=by
 intro hd;refine aP 27 func149 fun w0=>?_
 try simp only[kN]
 refine ai ?_;refine bG [0,1,2,3,5,6,7,8,10,11,12,13,15,16,17,18,4,9,14,19,20,21,22] [] [] ?_;refine eo ?_;refine dU hd rfl En (bh.keep (DB x.slot y.slot I)) ?_;rintro v p b o h⟨rfl,rfl⟩;refine eo ?_;refine dU o rfl En (bh.keep (DB x.tok y.tok p)) ?_;rintro v s b n g⟨rfl,rfl⟩;refine eo ?_;refine dU n rfl QV (bh.keep (Pe x.kind y.kind s)) ?_;rintro v q b m f⟨rfl,rfl⟩;refine eo ?_;refine dU m rfl QW (bh.keep (Pd x.text y.text q)) ?_;rintro v w b l e⟨rfl,rfl⟩;refine eo ?_;refine iu l (by exact kl) rfl rfl rfl rfl rfl af fun nb u k d i=>?_;refine eo ?_;refine dU k rfl IB (bh.keep (KI (zs:=[gw x.slot y.slot,gw x.tok y.tok,gw x.kind y.kind,tz x.text y.text]) (bA i (by simp[ax,Value.cells]) (by simp[ax,Value.cells])) ao)) ?_;rintro v t b j c⟨rfl,rfl⟩;refine eo ?_;apply aN;refine ai ?_;exact az rfl j (r:=[_]) rfl (D h (D g (D f (D e (D d c))))) ⟨rfl,rfl⟩
def it{α:Type}(R:PH->Zo->α->Prop)(lt:α->α->Bool)(vc:Value):Prop:=
 ∃f first cap,vc=.func (.func f) first cap/\ay prog f/\∀(J:PH) (x y:α) (b a:Zo),R J b x->R J a y->
  Zu f (first++[Value.agg b.toArray,Value.agg a.toArray].toArray++cap) J [] fun v d c=>c=[]/\∃z:Int,v=.int .i64 z/\decide (z<0)=lt x y
def aV(x y:M):Bool:=kf x.key y.key
def U0{J:PH}{x y:M}{cx cy:Zo}(A:ag J cx x)(w:ag J cy y):Zu 148 #[.agg cx.toArray,.agg cy.toArray] J [] fun v o g=>g=[]/\∃z:Int,v=.int .i64 z/\decide (z<0)=aV x y:=by
 intro hd;obtain⟨G,F,C,rfl,m,b,n⟩:=A.shape;obtain⟨s,q,p,rfl,h,a,l⟩:=w.shape;obtain⟨I,H,rfl,_⟩:=b;obtain⟨u,t,rfl,_⟩:=a;refine aP 10 func148 fun w0=>?_
 try simp only[sD,rD,E]
 refine ai ?_;refine bG [0,2,1,3,4,5] [] [] ?_;refine eo ?_;refine dU hd rfl tJ (bh.keep (tP _ _ _ _ _ _ _ _ _ _ _ J)) ?_;rintro v o g k f⟨rfl,rfl⟩;refine eo ?_;refine dU k rfl tJ (bh.keep (tP _ _ _ _ _ _ _ _ _ _ _ o)) ?_;rintro v B g j e⟨rfl,rfl⟩;refine eo ?_;refine dU j rfl Iz (HI x.key y.key B) ?_;rintro v K g i d⟨rfl,rfl⟩;refine eo ?_;apply aN;refine ai ?_;exact az rfl i (r:=[_]) rfl (D f (D e d)) ⟨rfl,_,rfl,JF _ _⟩
def Pc:it ag aV (.func (.func 148) #[] #[]):=⟨148,#[],#[],rfl,QA,fun J x y d c b a=>U0 b a⟩
def tC(x y:aI):Int:=jn [gw x.tok y.tok,gw x.code y.code]
def cT(x y:aI):Bool:=gI x.key y.key
def HT(x y:aI):decide (tC x y<0)=cT x y:=by
 unfold tC cT gI gw jn jn jn aI.key;by_cases a:x.tok<y.tok
 .simp[a]
 .by_cases a2:y.tok<x.tok
  .simp[a,a2]
  .by_cases b:x.code<y.code
   .simp[a,a2,b]
   .by_cases c:y.code<x.code<;>simp[a,a2,b,c]
def HS(x y:aI):(tC x y == 0)=decide (x.key=y.key):=by
 unfold tC gw jn jn jn aI.key;by_cases b:x.tok<y.tok
 .have:x.tok≠y.tok:=by omega
  simp[b,this]
 .by_cases a2:y.tok<x.tok
  .have:x.tok≠y.tok:=by omega
   simp[b,a2,this]
  .have e:x.tok=y.tok:=by omega
   by_cases a:x.code<y.code
   .have:x.code≠y.code:=by omega
    simp[a,this,e]
   .by_cases c:y.code<x.code
    .have:x.code≠y.code:=by omega
     simp[a,c,this,e]
    .have e2:x.code=y.code:=by omega
     simp[e,e2]
def Aq{I:PH}{x y:aI}{cx cy:Zo}(n:bj I cx x)(m:bj I cy y):Zu 93 #[.agg cx.toArray,.agg cy.toArray] I [] fun v l f=>f=[]/\v=.int .i64 (tC x y):=by
 intro hd;obtain⟨q,p,rfl,h1⟩:=n;obtain⟨a2,o,rfl,h2⟩:=m;refine aP 17 func93 fun w0=>?_
 try simp only[sD,rD,E]
 refine ai ?_;refine bG [0,1,2,3,5,6,7,8,4,9,10,11,12] [] [] ?_;refine eo ?_;refine dU hd rfl En (bh.keep (DB x.tok y.tok I)) ?_;rintro v l f k e⟨rfl,rfl⟩;refine eo ?_;refine dU k rfl QC (bh.keep (Pa x.code y.code l)) ?_;rintro v u f j d⟨rfl,rfl⟩;refine eo ?_;refine iu j (by exact kl) rfl rfl rfl rfl rfl af fun nb t i c g=>?_;refine eo ?_;refine dU i rfl IB (bh.keep (KI (zs:=[gw x.tok y.tok,gw x.code y.code]) (bA g (by simp[ax,Value.cells]) (by simp[ax,Value.cells])) ao)) ?_;rintro v s f h b⟨rfl,rfl⟩;refine eo ?_;apply aN;refine ai ?_;exact az rfl h (r:=[_]) rfl (D e (D d (D c b))) ⟨rfl,rfl⟩
def Pb:it bj cT (.func (.func 93) #[] #[]):=⟨93,#[],#[],rfl,AE,fun J x y e d b a=>(Aq b a).mono fun v f c _ ⟨e1,e2⟩=>⟨e1,_,e2,HT x y⟩⟩
end Go.Proofs.YtfaclfkpnmcmlaaGreatDoor
namespace Syn
open Dg
mutual
def Mj:M->Nat
 |⟨_,_,_,_,ks,_⟩=>aL ks+1
def aL:List M->Nat
 | []=>0
 |n::l=>Mj n+aL l
end
def XS(n:M):Mj n=aL n.kids+1:=by cases n;rfl
theorem gB:aL []=0:=rfl
def dj(n:M)(l:List M):aL (n::l)=aL n.kids+1+aL l:=by rw[aL,XS]
def km:∀(a b:List M),aL (a++b)=aL a+aL b
 | [],b=>by simp[aL]
 |n::a,b=>by rw[aU,dj,dj,km a b];omega
def uj{n:M}:∀{l:List M},n∈l->aL n.kids+1<=aL l
 | [],h=>(dJ h).elim
 |m::l,h=>by
  rw[dj];rcases List.mem_cons.1 h with e|e
  .subst e;omega
  .have:=uj e;omega
def mp:∀(l:List M),l.length<=aL l
 | []=>aR _
 |n::l=>by rw[dj,bl];have:=mp l;omega
def kT{l ks:List M}(h:l.length<=1):aL (give l ks)<=aL l+aL ks:=by
 match l,h with
 | [],_=>simp[give,aL]
 | [n],_=>show aL [_]<=_;rw[dj,dj,gB];show aL (n.kids++ks)+1+0<=_;rw[km];omega
def eK(l ks:List M):(give l ks).length=l.length:=by simp[give]
def Mi:∀(l:List M),aL (slot0 l)=aL l
 | []=>rfl
 |n::l=>by show aL (_::slot0 l)=_;rw[dj,dj,Mi l]
section
variable (N:Nat)
def lf:Option Nat->Nat
 |none=>0
 |some p=>N+1-p
theorem oS:lf N none=0:=rfl
theorem l7(p:Nat):lf N (some p)=N+1-p:=rfl
def JU(x y:Option Nat):lf N (x.or y)<=lf N x+lf N y:=by cases x<;>simp[lf]
def JT(x:Option Nat):lf N (x.map (·+1))<=lf N x:=by
 cases x with
 |none=>exact aR _
 |some p=>simp only[df,lf];omega
end
section
variable {c:aF} {Z:Zs}
def qw(p:Option Nat):lf Z.length (p.map (nx c Z))<=lf Z.length p:=by
 cases p with
 |none=>exact aR _
 |some p=>have:=qB c Z p;simp only[df,lf];omega
def qx(p:Option Nat)(is:Nat->Bool):lf Z.length (bv c Z p is)+lf Z.length (bv c Z p fun i=>!is i)<=lf Z.length p:=by
 refine fJ ?_ (qw (c:=c) p);unfold bv;cases p.map (nx c Z)with
 |none=>exact aR _
 |some i=>cases h:is i<;>simp[Option.filter,h,lf]
variable{i:Nat}{p:Option Nat}
def KL{is:Nat->Bool}(h:bv c Z p is=some i):is i=true:=by unfold bv at h;exact(Option.filter_eq_some_iff.1 h).2
def eY(h:X Z i≠[]):i<Z.length:=by
 rcases aK i Z.length with h2|h2
 .exact h2
 .exact absurd (by unfold X fu;rw[fp h2]) h
def rr(h:K Z i≠0):i<Z.length:=by
 rcases aK i Z.length with h2|h2
 .exact h2
 .exact absurd (by unfold K fu;rw[fp h2]) h
def oT(p:Option Nat)(s:au):lf Z.length (di Z c p s).1<=lf Z.length p:=by
 refine fJ ?_ (qw (c:=c) p);unfold di;cases p.map (nx c Z)with
 |none=>exact aR _
 |some i=>
  simp only;split
  .simp only[lf];omega
  .exact aE _
def y7(p:Option Nat)(kind slot:Nat):aL (bX Z c p kind slot).l+lf Z.length (bX Z c p kind slot).p<=lf Z.length p/\(bX Z c p kind slot).l.length<=1:=by
 have h0:=qw (c:=c) (Z:=Z) p;unfold bX;cases e:p.map (nx c Z)with
 |none=>exact⟨aE _,aE _⟩
 |some i=>
  rw[e]at h0;simp only;split
  .exact⟨aE _,aE _⟩
  .rename_i h;have:i<Z.length:=rr fun h2=>h (.inl (by rw[h2];decide));refine⟨?_,aR _⟩;simp only[dj,gB,lf]at *;omega
def FU(p:Option Nat)(slot:Nat):aL (fQ Z c p slot).l+lf Z.length (fQ Z c p slot).p<=lf Z.length p:=by
 have h0:=qw (c:=c) (Z:=Z) p;unfold fQ;cases e:p.map (nx c Z)with
 |none=>exact aE _
 |some i=>
  rw[e]at h0;simp only;split
  .exact aE _
  .rename_i h;have:i<Z.length:=eY fun h2=>h (by rw[h2];exact⟨by decide,by decide⟩);simp only[dj,gB,lf]at *;omega
def Ci{kind:Nat}{i:Option Nat}{slot:Nat}(h:∀j,i=some j->j<Z.length):aL (jp kind i slot)+lf Z.length (i.map (·+1))<=lf Z.length i/\(jp kind i slot).length<=1:=by
 cases i with
 |none=>exact⟨aR _,aE _⟩
 |some j=>have:=h j rfl;refine⟨?_,aR _⟩;show aL [_]+_<=_;simp only[dj,gB,df,lf];omega
def wt(N:Nat):hQ->Nat
 | .line _ _ p _=>lf N p
 | .lineL _ _ _ _ l g out=>aL l+(lf N g+lf N out)
 | .lineO _ _ _ op l g=>aL l+(lf N op+lf N g)
 | .unary _ p _=>lf N p
 | .unaryH _ i _=>lf N i
 | .calls _ _ _ x names g=>aL names+(lf N x+lf N g)
 | .inside _ p _=>lf N p
 | .listed _ _ p=>lf N p
 | .listL _ _ l g fin=>aL l+(lf N g+lf N fin)
 | .item _ _ p=>lf N p
 | .behind _ _ p _ _=>lf N p
 | .vrb _ p=>lf N p
 | .function _ p=>lf N p
 | .block _ p _=>lf N p
 | .seqL _ _ p l out=>aL l+(lf N p+lf N out)
 | .stmt _ i=>lf N i
 | .sCalls _ _ x l g=>aL l+(lf N x+lf N g)
 | .branch _ i _=>lf N i
 | .elses _ x l out=>aL l+(lf N x+lf N out)
 | .ifs _ y l out=>aL l+(lf N y+lf N out)
def Lt(N:Nat)(x:Option Nat):Prop:=∀j,x=some j->j<N
def wZ(N:Nat):hQ->Prop
 | .lineO _ _ _ op _ _=>Lt N op
 | .calls _ _ _ x _ _=>Lt N x
 | .sCalls _ _ x _ _=>Lt N x
 | .branch _ i _=>Lt N i
 | .elses _ _ l _=>l.length<=1
 | .ifs _ y l _=>l.length<=1/\Lt N y
 |_=>True
def NO(N:Nat):hQ->PR->Prop
 | .listed _ _ p,q=>∀j,p=some j->j<N->aL q.l+lf N q.p+1<=lf N p
 |_,_=>True
def C1(N:Nat)(x:hQ)(q:PR):Prop:=aL q.l+lf N q.p<=wt N x/\NO N x q
def tX{s:au}(hs:s≠[]):Lt Z.length (bv c Z p (be Z s)):=fun j h=>by have:=KL h;simp only[be,dE]at this;exact eY (by rw[this];exact hs)
def E9{k:Nat}:Lt Z.length (bv c Z p (kM Z k)):=fun j h=>by have:=KL h;simp only[kM,cZ,dE]at this;exact rr (by rw[this.1];decide)
def Lt.of(h:i<Z.length):Lt Z.length (some i):=fun j e=>by cases e;exact h
def aG{α β:Type}{a:Option α}{f:α->Option β}{q:β}(e:(a >>= f)=some q):∃x,a=some x/\f x=some q:=Option.bind_eq_some_iff.1 e
def W0{rec:jU}(R:∀x q,rec x=some q->wZ Z.length x->C1 Z.length x q):∀x q,aB c Z rec x=some q->wZ Z.length x->C1 Z.length x q:=by
 have n:∀{x q},rec x=some q->wZ Z.length x->aL q.l+lf Z.length q.p<=wt Z.length x:=fun h k=>(R _ _ h k).1;intro x q e hi;cases x with
 |line k o p slot=>
  refine⟨?_,trivial⟩;simp only[aB,mZ]at e;split at e
  .have:=n e trivial;exact this
  .obtain⟨a,m,e⟩:=aG e;obtain⟨b,t,e⟩:=aG e;cases e
   have h1:=n m trivial;have h2:=n t trivial;simp only[wt,oS]at *;omega
 |lineL k o slot first l g out=>
  refine⟨?_,trivial⟩;simp only[aB,o5]at e;cases g with
  |none=>cases e;simp only[wt,oS];omega
  |some p=>
   simp only at e;split at e
   .cases e;simp only[wt];omega
   .obtain⟨a,m,e⟩:=aG e;obtain⟨b,t,e⟩:=aG e;cases e
    have h1:=n m E9;have h2:=n t trivial;have h3:=qx (c:=c) (Z:=Z) (some p) (kM Z k);simp only[wt,oS]at *;omega
 |lineO k o slot op l g=>
  refine⟨?_,trivial⟩;simp only[aB,sG]at e;cases op with
  |none=>cases e;simp only[wt,oS];omega
  |some i=>
   obtain⟨a,m,e⟩:=aG e;cases e
   have h1:=n m trivial;have h2:=hi i rfl;simp only[wt,l7,dj,gB,km,Mi]at *;omega
 |unary o p slot=>refine⟨?_,trivial⟩;have h1:=n (x:=.unaryH o (p.map (nx c Z)) slot) e trivial;have h2:=qw (c:=c) (Z:=Z) p;simp only[wt]at *;omega
 |unaryH o i slot=>
  refine⟨?_,trivial⟩;simp only[aB,kh]at e;cases i with
  |none=>cases e;exact aR _
  |some i=>
   simp only at e;split at e
   .rename_i s;have r:i<Z.length:=eY (by rcases s with h|h<;>rw[h]<;>decide);split at e
    .cases e;exact aE _
    .obtain⟨a,m,e⟩:=aG e;cases e
     have h1:=n m trivial;simp only[wt,l7,dj,gB]at *;omega
   .split at e
    .have:=n e trivial;exact this
    .split at e
     .rename_i s;have r:i<Z.length:=rr (by rw[s];decide);cases e
      simp only[wt,l7,dj,gB]at *;omega
     .split at e
      .rename_i s;have r:i<Z.length:=eY (by rcases s with h|h<;>rw[h]<;>decide);cases e
       simp only[wt,l7,dj,gB]at *;omega
      .split at e
       .rename_i s;have r:i<Z.length:=eY (by rw[s];decide);cases e
        simp only[wt,l7,dj,gB]at *;omega
       .obtain⟨b,t,e⟩:=aG e;cases e
        have h1:=n t (tX af);have h2:=(y7 (c:=c) (Z:=Z) (some i) 18 slot).1;have h3:=qx (c:=c) (Z:=Z) (bX Z c (some i) 18 slot).p (be Z cq);simp only[wt]at *;omega
 |calls o i slot x names g=>
  refine⟨?_,trivial⟩;simp only[aB,oZ]at e;split at e
  .rename_i i x;obtain⟨a,m,e⟩:=aG e;cases e
   have h1:=(R _ _ m trivial).2 x rfl (hi x rfl);simp only[wt,dj,gB]at *;omega
  .cases e;simp only[wt];omega
 |inside o p slot=>
  refine⟨?_,trivial⟩;simp only[aB,nW]at e;have h0:=qw (c:=c) (Z:=Z) p;cases hp:p.map (nx c Z)with
  |none=>rw[hp]at e;cases e;exact aE _
  |some i=>
   rw[hp]at e h0;simp only at e;split at e
   .cases e;exact aE _
   .split at e
    .cases e;exact aE _
    .obtain⟨a,m,e⟩:=aG e;cases e
     have h1:=n m trivial;have h2:=oT (c:=c) (Z:=Z) a.p dt;simp only[wt,l7]at *;omega
 |listed par o p=>
  simp only[aB,nX]at e;have h0:=qw (c:=c) (Z:=Z) p;cases hp:p.map (nx c Z)with
  |none=>rw[hp]at e;cases e;refine⟨aE _,fun j A _=>?_⟩;rw[A]at hp;cases hp
  |some i=>
   rw[hp]at e h0;have z:∀j,p=some j->j<Z.length->1<=lf Z.length p:=fun j h1 h2=>by rw[h1,l7];omega
   simp only at e;split at e
   .cases e;exact⟨aE _,fun j h1 h2=>by simpa[triv,aL,lf]using z j h1 h2⟩
   .rename_i s;split at e
    .cases e;exact⟨aE _,fun j h1 h2=>by simpa[triv,aL,lf]using z j h1 h2⟩
    .obtain⟨a,m,e⟩:=aG e;cases e
     have r:i<Z.length:=eY (by rw[Classical.not_not.1 s];decide);have h1:=n m trivial;have h2:=oT (c:=c) (Z:=Z) a.p dt;have h3:=qx (c:=c) (Z:=Z) (some (i+1)) (be Z dt);have key:aL a.l+lf Z.length (di Z c a.p dt).1+1<=lf Z.length p:=by simp only[wt,l7,gB]at *;omega
     exact⟨by simp only[wt];omega,fun _ _ _=>key⟩
 |listL par o l g fin=>
  refine⟨?_,trivial⟩;simp only[aB,sH]at e;cases g with
  |none=>cases e;simp only[wt,oS];omega
  |some p=>
   obtain⟨a,m,e⟩:=aG e;obtain⟨b,t,e⟩:=aG e;cases e
   have h1:=n m trivial;have h2:=n t trivial;have h3:=qx (c:=c) (Z:=Z) a.p (be Z eV);have h4:=JT Z.length (bv c Z a.p (be Z eV));simp only[wt,km]at *;omega
 |item par o p=>
  refine⟨?_,trivial⟩;simp only[aB,o4]at e;split at e
  .cases e
   have h1:=y7 (c:=c) (Z:=Z) p 4 0;have h2:=oT (c:=c) (Z:=Z) (bX Z c p 4 0).p dA;have h3:=FU (c:=c) (Z:=Z) (di Z c (bX Z c p 4 0).p dA).1 0;have h4:=kT (ks:=(fQ Z c (di Z c (bX Z c p 4 0).p dA).1 0).l) h1.2;have h5:=h1.1;simp only[wt]at *;omega
  .have:=n e trivial;exact this
 |behind typ o p sign slot=>
  refine⟨?_,trivial⟩;simp only[aB,oY]at e;obtain⟨a,m,e⟩:=aG e;cases e
  have h1:aL a.l+lf Z.length a.p<=lf Z.length ((bv c Z p (be Z sign)).map (·+1)):=by
   unfold mY at m;split at m
   .cases m;exact FU _ _
   .exact n m trivial
  have h3:=qx (c:=c) (Z:=Z) p (be Z sign);have h4:=JT Z.length (bv c Z p (be Z sign));have h5:=JU Z.length (bv c Z p fun i=>!be Z sign i) a.p;simp only[wt]at *;omega
 |vrb o p=>
  refine⟨?_,trivial⟩;simp only[aB,qM]at e;obtain⟨d,u,e⟩:=aG e;cases e
  have h1:=y7 (c:=c) (Z:=Z) p 2 0;have h2:=oT (c:=c) (Z:=Z) (bX Z c p 2 0).p dA;have h3:=FU (c:=c) (Z:=Z) (di Z c (bX Z c p 2 0).p dA).1 0;have h4:=kT (ks:=(fQ Z c (di Z c (bX Z c p 2 0).p dA).1 0).l) h1.2;have h5:=h1.1;have h6:=n u trivial;have v:=kT (l:=give (bX Z c p 2 0).l (fQ Z c (di Z c (bX Z c p 2 0).p dA).1 0).l) (ks:=d.l) (by rw[eK];exact h1.2);have w:=oT (c:=c) (Z:=Z) d.p bT;simp only[wt]at *;omega
 |function o p=>
  refine⟨?_,trivial⟩;simp only[aB,qK]at e;obtain⟨b,t,e⟩:=aG e;obtain⟨d,u,e⟩:=aG e;obtain⟨f,B,e⟩:=aG e;cases e
  have h1:=y7 (c:=c) (Z:=Z) p 3 0;have h2:=n t trivial;have h3:=n u trivial;have h4:=n B trivial;have h5:=kT (ks:=b.l) h1.2;have h6:=kT (l:=give (bX Z c p 3 0).l b.l) (ks:=d.l) (by rw[eK];exact h1.2);have v:=kT (l:=give (give (bX Z c p 3 0).l b.l) d.l) (ks:=f.l) (by rw[eK,eK];exact h1.2);have w:=h1.1;simp only[wt]at *;omega
 |block o p slot=>
  refine⟨?_,trivial⟩;simp only[aB,nU]at e;have h0:=qw (c:=c) (Z:=Z) p;cases hp:p.map (nx c Z)with
  |none=>rw[hp]at e;cases e;exact aE _
  |some i=>
   rw[hp]at e h0;simp only at e;split at e
   .cases e;exact aE _
   .rename_i s;have r:i<Z.length:=eY (by rw[Classical.not_not.1 s];decide);split at e
    .cases e;exact aE _
    .obtain⟨a,m,e⟩:=aG e;cases e
     have h1:=n m trivial;have h2:=oT (c:=c) (Z:=Z) a.p iW;simp only[wt,l7,oS,dj,gB]at *;omega
 |seqL top o p l out=>
  refine⟨?_,trivial⟩;simp only[aB,o7]at e;have h0:=qw (c:=c) (Z:=Z) p;cases hp:p.map (nx c Z)with
  |none=>rw[hp]at e;cases e;simp only[wt];omega
  |some i=>
   rw[hp]at e h0;simp only at e;split at e
   .cases e;simp only[wt];omega
   .obtain⟨a,m,e⟩:=aG e;obtain⟨b,t,e⟩:=aG e;cases e
    have h1:aL a.l+lf Z.length a.p<=lf Z.length (some i):=by
     unfold lz at m;split at m
     .unfold nY at m;split at m
      .have:=n m trivial;simp only[wt,l7]at *;omega
      .split at m
       .have:=n m trivial;simp only[wt,l7]at *;omega
       .cases m;exact aE _
     .exact n m trivial
    have h2:=n t trivial;simp only[wt,oS,km]at *;omega
 |stmt o i=>
  refine⟨?_,trivial⟩;simp only[aB,kP]at e;cases i with
  |none=>cases e;exact aR _
  |some i=>
   simp only at e;split at e
   .have:=n e trivial;simp only[wt,l7]at *;omega
   .split at e
    .rename_i s;have:=n e (show wZ Z.length (.branch o (some i) 0) from Lt.of (eY (by rw[s];decide)));exact this
    .split at e
     .rename_i s;have r:i<Z.length:=eY (by rw[s];decide);obtain⟨a,m,e⟩:=aG e;obtain⟨b,t,e⟩:=aG e;cases e
      have h0:=Ci (kind:=9) (slot:=0) (Lt.of r);have h1:=n m trivial;have h2:=n t trivial;have h3:=kT (ks:=a.l) h0.2;have h4:=kT (l:=give (jp 9 (some i) 0) a.l) (ks:=b.l) (by rw[eK];exact h0.2);have h5:=h0.1;simp only[wt,df]at *;omega
     .split at e
      .have:=n e trivial;exact this
      .split at e
       .rename_i s;have r:i<Z.length:=eY (by rw[s];decide);obtain⟨a,m,e⟩:=aG e;cases e
        have h0:=Ci (kind:=10) (slot:=0) (Lt.of r);have h1:=n m trivial;have h3:=kT (ks:=a.l) h0.2;have h5:=h0.1;have h6:=qx (c:=c) (Z:=Z) (some (i+1)) (be Z bT);have v:=JU Z.length a.p (bv c Z (some (i+1)) (be Z bT));have w:=oT (c:=c) (Z:=Z) (a.p.or (bv c Z (some (i+1)) (be Z bT))) bT;simp only[wt,df]at *;omega
       .split at e
        .rename_i s;have r:i<Z.length:=eY (by rcases s with h|h<;>rw[h]<;>decide);obtain⟨a,m,e⟩:=aG e;cases e
         have h0:=Ci (kind:=if X Z i=jP then 12 else 11) (slot:=0) (Lt.of r);have h1:=n m trivial;have h3:=kT (ks:=a.l) h0.2;have h5:=h0.1;have w:=oT (c:=c) (Z:=Z) a.p bT;simp only[wt,df]at *;omega
        .obtain⟨b,t,e⟩:=aG e;obtain⟨d,u,e⟩:=aG e;cases e
         have h0:=y7 (c:=c) (Z:=Z) (some i) 7 0;have h1:=n t trivial;have h2:=n u (tX af);have h3:=kT (ks:=b.l) h0.2;have h4:=qx (c:=c) (Z:=Z) (bX Z c (some i) 7 0).p (be Z cq);have h5:=oT (c:=c) (Z:=Z) (bv c Z (bX Z c (some i) 7 0).p fun i=>!be Z cq i) iC;have h6:=oT (c:=c) (Z:=Z) d.p bT;have v:=h0.1;simp only[wt]at *;omega
 |sCalls o i x l g=>
  refine⟨?_,trivial⟩;simp only[aB,o6]at e;split at e
  .rename_i i x;obtain⟨a,m,e⟩:=aG e;cases e
   have h1:=(R _ _ m trivial).2 x rfl (hi x rfl);simp only[wt,dj,gB]at *;omega
  .cases e;simp only[wt];omega
 |branch o i slot=>
  refine⟨?_,trivial⟩;simp only[aB,qH]at e;obtain⟨a,m,e⟩:=aG e;obtain⟨b,t,e⟩:=aG e;obtain⟨d,u,e⟩:=aG e;cases e
  have h0:=Ci (kind:=8) (slot:=slot) hi;have h1:=n m trivial;have h2:=n t trivial;have h3:=n u (show (give (give (jp 8 i slot) a.l) b.l).length<=1 by rw[eK,eK];exact h0.2);have h4:=kT (ks:=a.l) h0.2;have h5:=kT (l:=give (jp 8 i slot) a.l) (ks:=b.l) (by rw[eK];exact h0.2);have h6:=qx (c:=c) (Z:=Z) b.p (be Z iV);have v:=h0.1;simp only[wt]at *;omega
 |elses o x l out=>
  refine⟨?_,trivial⟩;simp only[aB,qJ]at e;cases x with
  |none=>cases e;simp only[wt,oS];omega
  |some j=>
   obtain⟨a,m,e⟩:=aG e;obtain⟨b,t,e⟩:=aG e;cases e
   have h1:=n m trivial;have h2:=n t ⟨by rw[eK];exact hi,tX af⟩;have h3:=kT (ks:=a.l) hi;have h4:=qx (c:=c) (Z:=Z) (some (j+1)) (be Z eN);simp only[wt,l7]at *;omega
 |ifs o y l out=>
  refine⟨?_,trivial⟩;simp only[aB,qL]at e;cases y with
  |none=>cases e;simp only[wt,oS];omega
  |some j=>
   simp only at e;split at e
   .cases e;simp only[wt];omega
   .obtain⟨a,m,e⟩:=aG e;cases e
    have h1:=n m hi.2;have h3:=kT (ks:=a.l) hi.1;simp only[wt]at *;omega
def Lx:∀n x q,dF c Z n x=some q->wZ Z.length x->C1 Z.length x q
 |0,x,q,e,_=>by cases e
 |n+1,x,q,e,h=>W0 (fun x q e h=>Lx n x q e h) x q e h
end
def mN(f:aF->Nat):Nat->aF->Nat
 |0,c=>f c
 |n+1,c=>mN f n (jr c n false)+mN f n (jr c n true)
def DC{f g h:aF->Nat}(e:∀c,h c=f c+g c):∀(n:Nat) (c:aF),mN h n c=mN f n c+mN g n c
 |0,c=>e c
 |n+1,c=>by simp only[mN,DC e n];omega
def DD{f:aF->Nat}{X:Nat}(h:∀c,f c<=X):∀(n:Nat) (c:aF),mN f n c<=2^n*X
 |0,c=>by simpa[mN]using h c
 |n+1,c=>by simp only[mN];have:=DD h n (jr c n false);have:=DD h n (jr c n true);rw[uA,Nat.mul_assoc,Nat.mul_comm (2^n),Nat.mul_assoc,Nat.mul_comm X];omega
def HE(S:aF->Bool):∀(n:Nat) (c:aF),mN (fun c=>(S c).toNat) n c=jh S n c
 |0,c=>rfl
 |n+1,c=>by simp only[mN,jh,HE S n]
mutual
def Vh:M->Prop
 |⟨_,_,_,_,ks,d⟩=>d≠ff/\vQ ks
def vQ:List M->Prop
 | []=>True
 |n::l=>Vh n/\vQ l
end
def MG{c:aF}{d:T}{l:List M}(h:wL d l)(b:d.at' c=false):pL c l=[]:=vV fun n a=>by
 cases e:n.cond.at' c with
 |false=>rfl
 |true=>have:=(Cy.1 h n a).1 c e;rw[b]at this;cases this
def FE:∀(l:List M) (d:T),cF l->wL d l->vQ l->aL l<=mN (fun c=>aL (pL c l)) 24 (fun _=>false)
 | [],_,_,_,_=>aE _
 |⟨k,t,o,s,ks,e⟩::l,d,b,a,f=>by
  have h1:=FE ks e b.1.2 a.1.2 f.1.2;have h2:=FE l d b.2 a.2 f.2;have h3:=T.card_pos b.1.1 f.1.1;have e1:∀c,aL (pL c (⟨k,t,o,s,ks,e⟩::l))=((e.at' c).toNat+aL (pL c ks))+aL (pL c l):=fun c=>by
   rw[eD];cases g:e.at' c with
   |true=>rw[ah rfl,dj];show aL (pL c ks)+1+_=1+aL (pL c ks)+_;omega
   |false=>rw[ab af,MG a.1.2 g];show _=0+0+_;omega
  rw[DC e1,DC (fun c=>rfl),HE,dj];unfold T.card at h3;show aL ks+1+aL l<=_;omega
def yV:∀(l:List M) (d:T),vQ (en d l)
 | [],d=>trivial
 |⟨k,t,o,s,ks,e⟩::l,d=>by
  rw[yU];split
  .exact yV l d
  .rename_i h;exact⟨⟨h,yV ks (e.and d)⟩,yV l d⟩
def EW:Nat:=2^24*16386
def VP{Z:Zs}(b:bB Z)(y:Z.length<=16384){w:T}(i:w.ok 0)(g:w≠ff){n:Nat}{r:aA}(e:run Z n (.seqL true 0 [(0,w)] [] [])=some r):aL (eE r)<=EW:=by
 have hr:=qV b i g e (fun _=>false);obtain⟨_,_,a⟩:=hr;obtain⟨p,o⟩:=yu a.fok a.lok;by_cases j:gG r.f=ff
 .have v:=(zW (c:=fun _=>false) a.fok).1;have e1:en (gG r.f) r.l=[]:=by
   cases h:en (gG r.f) r.l with
   |nil=>rfl
   |cons n l=>exfalso;obtain⟨k,a2,a3,_⟩:=ww r.l (gG r.f) v a.lok;rw[h]at k a2 a3;have u:n.cond.ok 0:=(jm.1 k.1).1;obtain⟨x,s⟩:=T.some_of_ne u (a3 n (.head _));have:=a2.1.1 x s;rw[j]at this;cases this
  unfold eE;rw[e1];simp only[dj,gB];unfold EW;omega
 have d:vQ (eE r):=⟨⟨j,yV _ _⟩,trivial⟩;refine fJ (FE (eE r) tt p ⟨⟨fun _ _=>rfl,o _ (.head _)⟩,trivial⟩ d) (DD (fun c=>?_) 24 _);obtain⟨q,t,R⟩:=qV b i g e c;rw[Fe R.fok R.lok R.f];obtain⟨m,hm⟩:=t;have h1:=(Lx m _ _ hm trivial).1;have h2:lf Z.length (if w.at' c then some 0 else none)<=Z.length+1:=by split<;>simp[lf]
 simp only[wt,oS,gB]at h1;rw[R.l];split
 .rw[dj,gB];show aL q.l+1+0<=_;omega
 .exact aE _
def XR(l:List M)(k:eQ):aL (eC l k)<=aL l:=by
 unfold eC
 induction l with
 |nil=>exact aR _
 |cons n l a=>
  rw[dj,ip];split
  .rw[pC,km];omega
  .omega
open Dg
def iN(l:List M)(k:eQ):M:=⟨k.kind,k.text,k.tok,k.slot,eC l k,iI l k⟩
def lT:List M->M->List M
 | [],n=>[n]
 |m::out,n=>if m.key=n.key then { m with kids:=m.kids++n.kids,cond:=m.cond.or n.cond }::out else m::lT out n
def mH(out:List M)(n:M):List M:=if n.cond=ff then out else lT out n
def zR:∀{out:List M} {n:M},(∀m∈out,m.key≠n.key)->lT out n=out++[n]
 | [],n,_=>rfl
 |m::out,n,h=>by rw[lT,ab (h m (.head _)),zR fun x a=>h x (.tail _ a)];rfl
def zQ:∀{out:List M} {n m:M} {i:Nat},out.Pairwise (fun a b=>a.key≠b.key)->out[i]?=some m->m.key=n.key->lT out n=out.set i { m with kids:=m.kids++n.kids,cond:=m.cond.or n.cond }
 | [],n,m,i,_,h,_=>by simp at h
 |x::out,n,m,0,hp,h,c=>by simp only[zt,bf]at h;subst h;rw[lT,ah c];rfl
 |x::out,n,m,i+1,hp,h,c=>by simp only[wM]at h;have h1:=(List.pairwise_cons.1 hp).1 m (db h);rw[lT,ab (by rw[<-c];exact h1),zQ (List.pairwise_cons.1 hp).2 h c];rfl
def EN(p:List M)(n:M)(k:eQ):eC (p++[n]) k=eC p k++if dI k n then n.kids else []:=by unfold eC;rw[List.filter_append,zo];congr 1;cases h:dI k n<;>simp[ip,h]
def DG(p:List M)(n:M)(k:eQ):iI (p++[n]) k=if dI k n then (iI p k).or n.cond else iI p k:=by unfold iI;rw[List.filter_append,pD];cases h:dI k n<;>simp[ip,h]
variable{p:List M}
def Pf{k:eQ}(h:∀n∈p,n.cond≠ff->n.key≠k):iI p k=ff/\eC p k=[]:=by
 have:p.filter (dI k)=[]:=List.filter_eq_nil_iff.2 fun n a hm=>by simp only[dI,cZ,dE]at hm;exact h n a hm.2 hm.1
 unfold iI eC;rw[this];exact⟨rfl,rfl⟩
def P3{a:T}(h:a.ok 0):T.or ff a=a:=T.ext (T.or_ok (show (ff:T).ok 0 from trivial) h) h fun c=>by rw[T.or_at (show (ff:T).ok 0 from trivial) h,C3,lH]
structure lQ(p out:List M):Prop where
 dist:out.Pairwise (fun a b=>a.key≠b.key)
 node:∀m∈out,m=iN p m.key
 has:∀n∈p,n.cond≠ff->∃m∈out,m.key=n.key
 from':∀m∈out,∃n∈p,n.cond≠ff/\n.key=m.key
def lQ.nil:lQ [] []:=⟨List.Pairwise.nil,fun _ h=>(dJ h).elim,fun _ h=>(dJ h).elim,fun _ h=>(dJ h).elim⟩
def E4{n:M}{k:eQ}(h:n.cond=ff\/n.key≠k):iN (p++[n]) k=iN p k:=by
 have:dI k n=false:=by rcases h with h|h<;>simp[dI,h]
 unfold iN;rw[EN,DG,this];simp
theorem lQ.step{out:List M}{n:M}(h:lQ p out)(P:n.cond.ok 0):lQ (p++[n]) (mH out n):=by
 unfold mH;split
 .rename_i G;refine⟨h.dist,fun m hm=>by rw[E4 (.inl G)];exact h.node m hm,fun x q o=>?_,fun m hm=>?_⟩
  .rcases List.mem_append.1 q with e|e
   .exact h.has x e o
   .rw[List.mem_singleton.1 e]at o;exact absurd G o
  .obtain⟨x,q,k⟩:=h.from' m hm;exact⟨x,gm _ q,k⟩
 .rename_i o;by_cases H:∃m∈out,m.key=n.key
  .obtain⟨m,hm,C⟩:=H;obtain⟨i,hi⟩:=List.mem_iff_getElem?.1 hm;rw[zQ h.dist hi C];have u:=(List.getElem?_eq_some_iff.1 hi).1;have f:dI n.key n=true:=by simp[dI,o]
   have S:({ m with kids:=m.kids++n.kids,cond:=m.cond.or n.cond }:M)=iN (p++[n]) n.key:=by
    have e1:=h.node m hm;rw[C]at e1;have e2:m.kids=eC p n.key:=by rw[e1];rfl
    have U:m.cond=iI p n.key:=by rw[e1];rfl
    have T:iN (p++[n]) n.key=⟨n.key.kind,n.key.text,n.key.tok,n.key.slot,eC p n.key++n.kids,(iI p n.key).or n.cond⟩:=by unfold iN;rw[EN,DG,ah f,ah f]
    rw[T,<-e2,<-U,<-C];rfl
   have s:∀{x:M} {j:Nat},(out.set i { m with kids:=m.kids++n.kids,cond:=m.cond.or n.cond })[j]?=some x->j=i/\x={ m with kids:=m.kids++n.kids,cond:=m.cond.or n.cond }\/j≠i/\out[j]?=some x:=fun{x j} e=>by
    rw[wO]at e;split at e
    .rename_i w
     first
      |exact .inl ⟨w.symm,(cX e).symm⟩
      |(rw[ah u]at e;exact .inl ⟨w.symm,(cX e).symm⟩)
    .rename_i w;exact .inr ⟨fun e2=>w e2.symm,e⟩
   have r:∀{x y:M} {j l:Nat},out[j]?=some x->out[l]?=some y->j≠l->x.key≠y.key:=fun{x y j l} h1 h2 h3=>by
    obtain⟨N,rfl⟩:=List.getElem?_eq_some_iff.1 h1;obtain⟨a2,rfl⟩:=List.getElem?_eq_some_iff.1 h2;rcases Nat.lt_or_gt_of_ne h3 with u|L
    .exact List.pairwise_iff_getElem.1 h.dist j l N a2 u
    .exact fun e=>List.pairwise_iff_getElem.1 h.dist l j a2 N L e.symm
   refine⟨?_,fun x q=>?_,fun x q g=>?_,fun x q=>?_⟩
   .refine List.pairwise_iff_getElem.2 fun j l v Q R=>?_;have g1:=s (aY v);have g2:=s (aY Q);rcases g1 with ⟨a,b⟩|⟨a,b⟩<;>rcases g2 with ⟨c,d⟩|⟨c,d⟩
    .omega
    .rw[b];exact(r (x:=m) hi d O:m.key≠_)
    .rw[d];exact(r (y:=m) b hi O:_≠m.key)
    .exact r b d O
   .obtain⟨j,v⟩:=List.mem_iff_getElem?.1 q;rcases s v with ⟨a,b⟩|⟨a,b⟩
    .have:x.key=n.key:=by rw[b];exact C
     rw[this,b,S]
    .rw[E4 (.inr fun e=>r hi b O (by rw[C,e]))];exact h.node x (db b)
   .have put:∀y∈out,∃z∈out.set i { m with kids:=m.kids++n.kids,cond:=m.cond.or n.cond },z.key=y.key:=fun y F=>by
     obtain⟨j,v⟩:=List.mem_iff_getElem?.1 F;by_cases e:j=i
     .subst e;rw[hi]at v;cases v
      exact⟨{ m with kids:=m.kids++n.kids,cond:=m.cond.or n.cond },List.mem_iff_getElem?.2 ⟨j,List.getElem?_set_self u⟩,rfl⟩
     .exact⟨y,List.mem_iff_getElem?.2 ⟨j,by rw[List.getElem?_set_ne (fun e2=>e e2.symm)];exact v⟩,rfl⟩
    rcases List.mem_append.1 q with e|e
    .obtain⟨y,F,J⟩:=h.has x e g;obtain⟨z,I,A⟩:=put y F;exact⟨z,I,A.trans J⟩
    .rw[List.mem_singleton.1 e];obtain⟨z,I,A⟩:=put m hm;exact⟨z,I,A.trans C⟩
   .obtain⟨j,v⟩:=List.mem_iff_getElem?.1 q;rcases s v with ⟨a,b⟩|⟨a,b⟩
    .exact⟨n,gD _ (.head _),o,by rw[b];exact C.symm⟩
    .obtain⟨y,F,k⟩:=h.from' x (db b);exact⟨y,gm _ F,k⟩
  .have t:∀m∈out,m.key≠n.key:=fun m hm e=>H ⟨m,hm,e⟩;rw[zR t];have f:dI n.key n=true:=by simp[dI,o]
   have B:∀x∈p,x.cond≠ff->x.key≠n.key:=fun x q g e=>by obtain⟨m,hm,K⟩:=h.has x q g;exact t m hm (K.trans e)
   obtain⟨c1,c2⟩:=Pf B;refine⟨List.pairwise_append.2 ⟨h.dist,s0 _ _,fun a ha b hb=>by rw[List.mem_singleton.1 hb];exact t a ha⟩,fun m hm=>?_,fun x q g=>?_,fun m hm=>?_⟩
   .rcases List.mem_append.1 hm with e|e
    .rw[E4 (.inr fun e2=>t m e e2.symm)];exact h.node m e
    .rw[List.mem_singleton.1 e];unfold iN;rw[EN,DG,ah f,ah f,c1,c2,P3 P,aQ];cases n;rfl
   .rcases List.mem_append.1 q with e|e
    .obtain⟨m,hm,k⟩:=h.has x e g;exact⟨m,gm _ hm,k⟩
    .exact⟨n,gD _ (.head _),by rw[List.mem_singleton.1 e]⟩
   .rcases List.mem_append.1 hm with e|e
    .obtain⟨x,q,k⟩:=h.from' m e;exact⟨x,gm _ q,k⟩
    .exact⟨n,gD _ (.head _),o,by rw[List.mem_singleton.1 e]⟩
def lQ.of{l:List M}(h:∀n∈l,n.cond.ok 0):∀i,i<=l.length->lQ (l.take i) ((l.take i).foldl mH [])
 |0,_=>lQ.nil
 |i+1,hi=>by have a:i<l.length:=O;rw[pH a,pD];exact(lQ.of h i O).step (h _ (List.getElem_mem a))
def lQ.sorted{l out L:List M}(h:lQ l out)(hp:L.Perm out)(hs:L.Pairwise (fun a b=>kf b.key a.key=false)):L=(ks l).map (iN l):=by
 have hd:L.Pairwise (fun a b=>a.key≠b.key):=(hp.pairwise_iff (fun{a b} h e=>h e.symm)).2 h.dist;have e1:L.map M.key=ks l:=by
  refine yP mV ?_ (pe mV _) fun k=>?_
  .rw[List.pairwise_map];refine(hs.and hd).imp fun{a b} h=>?_;cases i:kf a.key b.key with
   |true=>rfl
   |false=>exact absurd (mV.tri _ _ i h.1) h.2
  .rw[tV];constructor
   .intro g;obtain⟨m,hm,rfl⟩:=List.mem_map.1 g;obtain⟨n,d,c,f⟩:=h.from' m (hp.mem_iff.1 hm);exact⟨n,d,f,c⟩
   .rintro⟨n,d,rfl,c⟩;obtain⟨m,hm,g⟩:=h.has n d c;exact List.mem_map.2 ⟨m,hp.mem_iff.2 hm,g⟩
 rw[<-e1,pF];have:L.map id=L.map (iN l∘M.key):=nu fun m hm=>h.node m (hp.mem_iff.1 hm)
 rwa [List.map_id]at this
def Km(d:Nat)(l:List M):cR (d+1) l=((ks l).map (iN l)).map fun m=>{ m with kids:=cR d m.kids }:=by rw[cR,pF];rfl
def Me:∀(K:List eQ) (l:List M),K.Pairwise (fun a b=>a≠b)->(∀k∈K,∃n∈l,n.key=k/\n.cond≠ff)->aL (K.map (iN l))<=aL l
 | [],l,_,_=>aE _
 |k::K,l,h,f=>by
  have h2:=List.pairwise_cons.1 h;obtain⟨n0,m,o,p⟩:=f k (.head _);have e1:∀(l:List M),aL l=aL (l.filter fun n=>decide (n.key=k))+aL (l.filter fun n=>!decide (n.key=k)):=fun l=>by
   induction l with
   |nil=>rfl
   |cons n l i=>cases d:decide (n.key=k)<;>simp[ip,d,dj]<;>omega
  have e2:∀(l:List M),aL (eC l k)+((l.filter (dI k)).length)<=aL (l.filter fun n=>decide (n.key=k)):=fun l=>by
   induction l with
   |nil=>exact aR _
   |cons n l i=>
    unfold eC at i |-;by_cases d:n.key=k
    .by_cases j:n.cond=ff
     .have g:dI k n=false:=by simp[dI,j]
      simp only[ip,g,d,decide_true,cu,dO,dG,dj];omega
     .have g:dI k n=true:=by simp[dI,d,j]
      simp only[ip,g,d,decide_true,cu,pC,km,bl,dj];omega
    .have g:dI k n=false:=by simp[dI,d]
     simp only[ip,g,d,decide_false,dO,dG];exact i
  have v:1<=(l.filter (dI k)).length:=by have:n0∈l.filter (dI k):=List.mem_filter.2 ⟨m,by simp[dI,o,p]⟩;exact List.length_pos_of_mem this
  have r:∀k'∈K,eC (l.filter fun n=>!decide (n.key=k)) k'=eC l k':=fun k' c=>by
   unfold eC;rw[List.filter_filter];congr 1;refine List.filter_congr fun n _=>?_;have:=h2.1 k' c;by_cases e:n.key=k'
   .have h3:n.key≠k:=fun e2=>this (e2.symm.trans e);simp[dI,e,show k'≠k from fun e2=>this e2.symm]
   .simp[dI,e]
  have h5:=Me K (l.filter fun n=>!decide (n.key=k)) h2.2 fun k' c=>by obtain⟨n,d,q,j⟩:=f k' (.tail _ c);refine⟨n,List.mem_filter.2 ⟨d,?_⟩,q,j⟩;have:=h2.1 k' c;rw[q];simp only[sX,CK];exact fun e=>this e.symm
  have s:aL (K.map (iN l))=aL (K.map (iN (l.filter fun n=>!decide (n.key=k)))):=by
   clear h5 h h2 f
   induction K with
   |nil=>rfl
   |cons x K i=>rw[iq,iq,dj,dj,i fun k' c=>r k' (.tail _ c)];show aL (eC l x)+1+_=aL (eC _ x)+1+_;rw[r x (.head _)]
  have u:=e1 l;have t:=e2 l;rw[iq,dj,s];show aL (eC l k)+1+_<=_;omega
def Mf{f:List M->List M}:∀{L:List M},(∀n∈L,aL (f n.kids)<=aL n.kids)->aL (L.map fun m=>{ m with kids:=f m.kids })<=aL L
 | [],_=>aR _
 |n::L,h=>by rw[iq,dj,dj];have h1:=h n (.head _);have h2:=Mf (f:=f) (L:=L) fun m hm=>h m (.tail _ hm);show aL (f n.kids)+1+_<=_;omega
def EQ(l:List M):(ks l).Pairwise (fun a b=>a≠b):=(pe mV _).imp fun{a b} h e=>by rw[e,mV.irr]at h;cases h
def Mh(l:List M):aL ((ks l).map (iN l))<=aL l:=Me _ l (EQ l) fun k a=>by obtain⟨n,h1,h2,h3⟩:=tV.1 a;exact⟨n,h1,h2,h3⟩
def Mg:∀(d:Nat) (l:List M),aL (cR d l)<=aL l
 |0,l=>aE _
 |d+1,l=>by rw[Km];exact fJ (Mf fun n _=>Mg d n.kids) (Mh l)
def Ch(c:aF):∀(l:List M),aL (pL c l)<=aL l
 | []=>aR _
 |⟨k,t,o,s,ks,e⟩::l=>by
  have h1:=Ch c ks;have h2:=Ch c l;rw[eD];split
  .rw[dj,dj];show aL (pL c ks)+1+_<=aL ks+1+_;omega
  .rw[dj];omega
end Syn
namespace Go.Proofs.YtfaclfkpnmcmlaaGreatDoor
open Go Go.Sx Dg Syn
def Je:ay prog 79:=⟨_,func79,rfl,rfl⟩
def Y2{n:Nat}(h:n<=maxLen):IntKind.i64.wrap (n:Int)=(n:Int):=by unfold maxLen at h;simp only[IntKind.wrap,show IntKind.bits .i64=64 from rfl,show IntKind.signed .i64=true from rfl];simp;omega
variable{i:Nat}
def nr{n c:Nat}{a:Option Addr}(b:ky (.slice a n c))(hi:i<n):IntKind.i64.wrap ((i:Int)+1)=((i+1:Nat):Int):=by have h:n<=c/\(0<n->c<=maxLen):=b;have h2:=h.2 O;have:=Y2 (n:=i+1) O;rw[<-this];congr 1
def yT(w:T):∀a b:List M,en w (a++b)=en w a++en w b
 | [],b=>rfl
 |n::a,b=>by rw[aU,yU,yU,yT w a b];split<;>rfl
def FM(w:T)(n:M):en w [n]=if n.cond.and w=ff then []else [{ n with kids:=en (n.cond.and w) n.kids,cond:=n.cond.and w }]:=by rw[yU];rfl
variable{α:Type}
def g6{l:List α}{n:α}(h:l[i]?=some n):l.take (i+1)=l.take i++[n]:=by rw[List.take_add_one,h];rfl
def XC(w:T)(i:Nat)(l:List M):aL (en w (l.take i))<=aL (en w l):=by
 conv=>rhs;rw[<-pG i l]
 rw[yT,km];omega
def yS(vl:Value)(n:Nat)(b:Option Addr)(a:Nat)(w:T)(x:Nat×Value):St:=⟨dn 35 [(3,.p 3 0),(5,.v x.2),(8,.v vl),(9,.v (E n)),(10,.v (E x.1))],[⟨3,50,[sD b a w,rD w]⟩]⟩
def Xu(l:List M)(w:T)(a:PH)(x:Nat×Value)(H:PH):Prop:=∃I A,H=U [I,A]/\Dj [I,A]/\a.le I/\x.1<=l.length/\aw I A x.2 (en w (l.take x.1))
theorem WS:∀(m:Nat) {I:PH} {v W:Value} {l:List M} {w:T},aL l<m->bk I v l->ky v->bW I W w->aL (en w l)<=ar->
  Zu 79 #[v,W] I [] fun r I2 Z=>∃A,Z=[A]/\aw I2 A r (en w l):=by
 intro m
 induction m with
 |zero=>intro I v W l w hm;omega
 |succ m ih=>
 intro I v W l w hm hS hC hW hz hd;obtain⟨va,vc,rfl,_⟩:=id hS;obtain⟨wa,wk,rfl⟩:=hW.shape2;unfold ar at hz;refine aP 35 func79 fun w0=>?_
 try simp only[E,sD,rD]
 refine ai ?_;refine de hd fun aq=>?_;refine bV (fun x=>l.length-x.1) (yS (.slice va l.length vc) l.length wa wk w) (Xu l w I) (0,.slice none 0 0) ub (by simp only[go_sem,Y,yS,E,sD,rD]) ?_ ?_
 .exact⟨I,PH.no,rfl,aq,aD _,aE _,Ow.nil _ _ _ _⟩
 rintro⟨i,vo⟩ H ⟨I1,X,rfl,B,e,hi,G⟩ f;simp only at hi G;simp only[yS];obtain⟨oa,oc,rfl⟩:=G.shape;rcases aK i l.length with o|a7
 .have F:decide ((i:Int)<(l.length:Int))=true:=by simp;omega
  have V:=nr hC o;obtain⟨n,P⟩:∃n,l[i]?=some n:=⟨_,aY o⟩;obtain⟨b,off,cs,rfl,aS,C⟩:=Sl.load ag.len (bk.le hS e) P;obtain⟨vk,na,nk,rfl,L,g,U⟩:=aS.shape;obtain⟨ka,kc,rfl,_⟩:=id g;have a5:=uj (db P);have u:=XC w (i+1) l;rw[g6 P,yT,km]at u;have a6:=mp (en w (l.take i));refine dm F ?_;refine⟨O,?_⟩;refine Zm (l:=[.int .u8 n.kind,.string ⟨⟨n.text⟩⟩,.int .i64 n.tok,.int .i64 n.slot,.slice ka n.kids.length kc,sD na nk n.cond,rD n.cond]) (v:=.agg #[.int .u8 n.kind,.string ⟨⟨n.text⟩⟩,.int .i64 n.tok,.int .i64 n.slot,.slice ka n.kids.length kc,sD na nk n.cond,rD n.cond]) rfl (cellsU B (.head _) C) (.inl ⟨b9,rfl⟩) ?_;refine bK ?_;refine av B [0] [] [X] rfl ls rfl (ln L (hW.le e)) ?_;rintro v I3 Z z d⟨rfl,j⟩;obtain⟨za,zk,rfl⟩:=j.shape2;simp only[Z3]at z |-;refine bK ?_;refine Zl rfl jj (ji j) ?_;rintro v H2⟨rfl,rfl⟩;cases p:decide (n.cond.and w=.lf false)
  .have N:n.cond.and w≠ff:=by simpa using p
   rw[FM,ab N,dj,gB]at u;simp only at u;apply RG;simp only[go_sem,E,sD,rD,p,dg];refine av z [0] [] [X] rfl Je rfl (ih (w:=n.cond.and w) O (bk.le g d) U j (by unfold ar;omega)) ?_;rintro v I4 Z S R⟨K,rfl,hK⟩;simp only[Z3]at S |-;obtain⟨qa,qc,rfl⟩:=hK.shape;have a2:=hK.capN ag.len;refine ak S [0,1] fun y=>?_;refine aJ y fun I5 y s a3=>?_;have a1:bk I5 (.slice qa (en (n.cond.and w) n.kids).length qc) (en (n.cond.and w) n.kids):=aw.sl hK s a3;refine bK ?_;refine cI y (by exact dr) rfl rfl rfl rfl rfl af fun nb I6 ap q ac=>?_;have t:=D R (D s q);have a0:bk I6 (.slice (some ⟨nb,0,none⟩) 1 1) [{ n with kids:=en (n.cond.and w) n.kids,cond:=n.cond.and w }]:=og (bA ac (by simp[ax,Value.cells]) (by simp[ax,Value.cells,E,sD,rD])) (ag.mk (n:={ n with kids:=en (n.cond.and w) n.kids,cond:=n.cond.and w }) (j.le t) (bk.le a1 q) a2);refine bK ?_;refine fk ap (by exact dr) (aw.le G (D d t)) (a0) (fun{I J c a} h k=>ag.le h k) (fun{I} c a h=>ag.len c a h) (fun{I} c a h=>ag.ones h) rfl rfl rfl rfl (by first|omega|(simp only[bl,bg];omega)) (by unfold maxLen;first|omega|(simp only[bl,bg];omega)) fun ua uc I7 A7 an Q a4=>?_;refine dm V ?_;have aa:=D e (D d (D t Q));exact f (i+1,.slice ua (en w (l.take i)++[{ n with kids:=en (n.cond.and w) n.kids,cond:=n.cond.and w }]).length uc) _ _ bi ub (by simp only[go_sem,Y,yS,E,sD,rD]) ⟨I7,A7,rfl,an,aa,o,by simp only;rw[g6 P,yT,FM,ab N];exact a4⟩
  .have am:n.cond.and w=ff:=by simpa using p
   apply RG;simp only[go_sem,E,sD,rD,p,cL,V];exact f (i+1,.slice oa (en w (l.take i)).length oc) _ _ bi ub (by simp only[go_sem,Y,yS,E,sD,rD]) ⟨I3,X,rfl,z,D e d,o,by simp only;rw[g6 P,yT,FM,ah am,Y];exact aw.le G d⟩
 .have:i=l.length:=by omega
  subst this;have F:decide (((l.length:Nat):Int)<(l.length:Int))=false:=ao;refine dm F ?_;exact az rfl B (r:=[_]) rfl e ⟨X,rfl,by rw[dK]at G |-;exact G⟩
instance:Inhabited M:=⟨⟨0,[],0,0,[],ff⟩⟩
instance:Inhabited aI:=⟨⟨0,0,ff⟩⟩
def XG[Inhabited α](d:Array α)(i j:Nat):(Sort.swp d i j).toList=(d.toList.set i d[j]!).set j d[i]!:=by simp[Sort.swp]
def iU[Inhabited α](d:Array α)(i j:Nat):(Sort.swp d i j).size=d.size:=by simp[Sort.swp]
def Io[Inhabited α](d:Array α)(h:i<d.size):d.toList[i]?=some d[i]!:=by simp[h]
def Lr(c cs:Zo)(h:c.length=cs.length):bN c 0 cs=cs:=by rw[n9 _ _ _ O];simp[h]
variable{v:Value}{I A:PH}{size:Nat}{e:TypeId}
def Ow.two[Inhabited α]{R:PH->Zo->α->Prop}{d:Array α}(h:Ow R e size I A v d.toList)(l:∀{I} c a,R I c a->c.length=size)(o:∀{I J c a},R I c a->I.le J->R J c a){j:Nat}(hi:i<d.size)(p:j<d.size):
  ∃g cap cur r q,v=.slice (some ⟨g,0,none⟩) d.size cap/\A=sg g (.cells cur e (0,0))/\d.size*size<=cur.size/\R I r d[i]!/\R I q d[j]!/\r.length=size/\q.length=size/\a8 A g (i*size) r/\a8 A g (j*size) q/\
   ∀J,I.le J->Ow R e size J (sg g (.cells (bN (bN cur.toList (i*size) q) (j*size) r).toArray e (0,0))) v (Sort.swp d i j).toList:=by
 obtain⟨g,cap,cur,xs,ev,rfl,c1,c2,c3,c4,c5,b⟩:=h.open' (by simp;omega) fun c a k=>l c a k;have n:d.toList.length=d.size:=ao;rw[n]at ev c1 c4 c5;have K:d.size*size<=cap*size:=cv _ c1;have w:=b.get (fun c a k=>l c a k) (Io d hi);have u:=b.get (fun c a k=>l c a k) (Io d p);have z:=l _ _ w;have H:=l _ _ u;have C:=qb (k:=0) (m:=size) (e:=e) (g:=g) (cur:=cur) (fun c a k=>l c a k) b (i:=i) (by rw[n];exact hi) (by rw[n];omega) (by rw[n];exact c4) rfl O;have B:=qb (k:=0) (m:=size) (e:=e) (g:=g) (cur:=cur) (fun c a k=>l c a k) b (i:=j) (by rw[n];exact p) (by rw[n];omega) (by rw[n];exact c4) rfl O;rw[io,ou,Nat.min_self,s5]at C B;refine⟨g,cap,cur,_,_,ev,rfl,O,w,u,z,H,C,B,fun J t=>?_⟩;have G:(i+1)*size<=d.size*size:=cv _ hi;have F:(j+1)*size<=d.size*size:=cv _ p;rw[ir,rf]at G F;have y:=qy (fun c a k=>l c a k) (b.mono fun _ _ k=>o k t) (i:=i) (by rw[n];exact hi) rfl (k:=0) (cs:=(xs.drop (j*size)).take size) (a:=d[j]!) O (by rw[Lr _ _ O];exact o u t);rw[s5]at y;have f:(bN xs (i*size) ((xs.drop (j*size)).take size)).length=d.size*size:=by rw[eL];exact c5
 have x:=qy (fun c a k=>l c a k) y (i:=j) (by simp;exact p) rfl (k:=0) (cs:=(xs.drop (i*size)).take size) (a:=d[i]!) O (by rw[Lr _ _ (by rw[z];simp[f];omega)];exact o w t)
 rw[s5]at x;rw[XG];refine⟨_,?_,x⟩;rw[ev];have s:((d.toList.set i d[j]!).set j d[i]!).length=d.size:=ao;rw[s];refine dH.of_sg (by rw[eL];exact f) c1 c2 (by simp[eL];exact c3) ?_;show (bN (bN cur.toList (i*size) _) (j*size) _).take (d.size*size)=_;rw[BR _ _ _ _ O,BR _ _ _ _ O,c4]
def Ow.one'[Inhabited α]{R:PH->Zo->α->Prop}{d:Array α}(h:Ow R e size I A v d.toList):∃a c,v=.slice a d.size c:=by obtain⟨a,c,rfl⟩:=h.shape;exact⟨a,c,by simp⟩
def dN{cs:Zo}(h:cs.all Sx.one=true):mL (.agg cs.toArray)=some cs:=by simp only[mL,h,reduceIte]
def bj.ones{c:Zo}{n:aI}(h:bj I c n):c.all Sx.one=true:=by obtain⟨a,k,e,_⟩:=h;rw[e];rfl
def Ow.addr[Inhabited α]{R:PH->Zo->α->Prop}{d:Array α}(h:Ow R e size I A v d.toList)(a:0<d.size):∃g c,v=.slice (some ⟨g,0,none⟩) d.size c:=by obtain⟨xs,h1,_⟩:=h;obtain⟨g,cap,cur,e1,_⟩:=h1.sg (by simpa using a);exact⟨g,cap,by simpa using e1⟩
def Lv{g:Nat}{cur cur':Array Value}(h:sg g (.cells cur e (0,0))=sg g (.cells cur' e (0,0))):cur=cur':=by have:=congrFun h g;simp only[sg,reduceIte,bf,Obj.cells.injEq,dZ]at this;exact this
def pA{j:Nat}(h:j+1<2^62):IntKind.i64.wrap (((j+1:Nat):Int)-1)=(j:Int):=by have:=fF (a:=j+1) (b:=1) O O;rw[show ((1:Nat):Int)=1 from rfl]at this;rw[this];omega
def Q9:ay prog 271:=⟨_,func271,rfl,rfl⟩
def xY(v a vb vc:Value)(i:Nat):St:=⟨dn 53 [(0,.v v),(1,.v a),(2,.v vb),(3,.v vc),(8,.v (E i))],[]⟩
def AJ(v a vb vc:Value)(i:Nat)(j:Nat):St:=⟨dn 53 [(0,.v v),(1,.v a),(2,.v vb),(3,.v vc),(8,.v (E i)),(9,.v (E j))],[]⟩
theorem SE{vc:Value}{d:Array M}{a b:Nat}(hA:aw I A v d.toList)(hc:it ag aV vc)(hb:b<=d.size)(hn:d.size<=ar)(ha:a<=d.size):
  Zu 271 #[v,E a,E b,vc] I [A] fun _ B qs=>∃C,qs=[C]/\aw B C v (Sort.insertionSort aV d a b).toList:=by
 intro hd;unfold ar at hn;obtain⟨f,first,cap,rfl,gf,cf⟩:=id hc;obtain⟨va,Z,rfl⟩:=Ow.one' hA;have w1:=wrap64 (n:=a+1) O;have w1':IntKind.i64.wrap ((a:Int)+1)=((a+1:Nat):Int):=by rw[<-w1];congr 1
 refine aP 53 func271 fun w0=>?_
 try simp only[E]
 refine dB w1' ?_;refine bV (fun i=>b-i) (xY (.slice va d.size Z) (E a) (E b) (.func (.func f) first cap)) (fun i H=>∃B C L,H=U [B,C]/\Dj [B,C]/\I.le B/\a+1<=i/\L.size=d.size/\aw B C (.slice va d.size Z) L.toList/\Sort.insOuter aV a b i L=Sort.insertionSort aV d a b) (a+1) al (by simp only[go_sem,Y,xY]) ?_ ?_
 .exact⟨I,A,d,rfl,hd,aD _,aR _,rfl,hA,rfl⟩
 rintro i H ⟨B,C,L,rfl,ac,K,a6,aq,an,x⟩ p;simp only[xY];rcases aK i b with aS|a5
 .have R:decide ((i:Int)<(b:Int))=true:=by simp;omega
  have e1:=wrap64 (n:=i+1) O;have ap:IntKind.i64.wrap ((i:Int)+1)=((i+1:Nat):Int):=by rw[<-e1];congr 1
  rw[Sort.insOuter,ah aS]at x;refine bd R ?_;refine bV (fun j=>j) (AJ (.slice va d.size Z) (E a) (E b) (.func (.func f) first cap) i) (fun j H=>∃W A3 T,H=U [W,A3]/\Dj [W,A3]/\B.le W/\j<=i/\T.size=d.size/\aw W A3 (.slice va d.size Z) T.toList/\Sort.insInner aV a j T=Sort.insInner aV a i L) i al (by simp only[go_sem,Y,AJ]) ?_ ?_
  .exact⟨B,C,L,rfl,ac,aD _,aR _,aq,an,rfl⟩
  rintro j H ⟨W,A3,T,rfl,w,G,a4,t,P,e⟩ u;simp only[AJ];have fin:∀{V A4:PH} {d4:Array M},W.le V->aw V A4 (.slice va d.size Z) d4.toList->d4.size=d.size->d4=Sort.insInner aV a i L->∃N X S,U [V,A4]=U [N,X]/\(Dj [V,A4]->Dj [N,X])/\I.le N/\a+1<=i+1/\S.size=d.size/\aw N X (.slice va d.size Z) S.toList/\Sort.insOuter aV a b (i+1) S=Sort.insertionSort aV d a b:=fun h1 h2 h3 h4=>⟨_,_,_,rfl,id,D K (D G h1),O,h3,h2,by rw[h4];exact x⟩;rcases aK a j with am|am
  .obtain⟨j,rfl⟩:∃j',j=j'+1:=⟨j-1,O⟩;have Q:decide (((j+1:Nat):Int)>(a:Int))=true:=bm O;have F:=pA (j:=j) O;obtain⟨g,cp,cur,y,cj,ev,rfl,a2,rj1,rj,s,lj,kj1,kj,aa⟩:=Ow.two P (fun{I} c a h=>ag.len c a h) (fun{I J c a} h k=>ag.le h k) (i:=j+1) (j:=j) O O;rw[t]at ev a2;cases ev
   refine bJ ?_;refine bG [0,1,2,3,4,5,6,7,8,9,10,11,12,13,14,15,16] [8,13] [] ?_;refine lg Q F ?_;refine⟨O,?_⟩;refine Zn (l:=y) (v:=.agg y.toArray) rfl (cellsU w (.tail _ (.head _)) (by simpa using kj1)) (.inl ⟨by rw[s];exact b9,rfl⟩) ?_;refine bQ F ?_;refine⟨O,?_⟩;refine Zn (l:=cj) (v:=.agg cj.toArray) rfl (cellsU w (.tail _ (.head _)) (by simpa using kj)) (.inl ⟨by rw[lj];exact b9,rfl⟩) ?_;refine bQ F ?_;refine cH w [0] [] [_] rfl gf rfl (cf W _ _ _ _ rj1 rj) ?_;rintro v V qs q o⟨rfl,z,rfl,hz⟩;simp only[Z3]at q |-;refine bU ?_;apply aN;cases m:aV T[j+1]! T[j]! with
   |true=>rw[m]at hz;rw[Sort.insInner,ah (by simp[am,m])]at e;refine bd hz ?_;refine bG [0,1,2,3,4,5,6,7,8,9,10,11,12,13,14,15,16,17] [9,13] [] ?_;refine bQ F ?_;refine⟨O,?_⟩;refine Zn (l:=cj) (v:=.agg cj.toArray) rfl (cellsU q (.tail _ (.head _)) (by simpa using kj)) (.inl ⟨by rw[lj];exact b9,rfl⟩) ?_;refine bQ F ?_;refine⟨O,?_⟩;refine Zn (l:=y) (v:=.agg y.toArray) rfl (cellsU q (.tail _ (.head _)) (by simpa using kj1)) (.inl ⟨by rw[s];exact b9,rfl⟩) ?_;refine bQ F ?_;refine⟨O,?_⟩;have m1:(j+1+1)*7<=d.size*7:=cv _ O;refine cY q rfl rfl rfl rfl rfl (dN (ag.ones rj)) (by rw[lj];exact eM) (by rw[lj];omega) fun a1=>?_;refine bQ F ?_;refine⟨O,?_⟩;refine cY a1 rfl rfl rfl rfl rfl (dN (ag.ones rj1)) (by rw[s];exact eM) (by rw[s];simp[eL];omega) fun a0=>?_;apply aN;refine bd F ?_;exact u j _ _ O al (by simp only[go_sem,Y,AJ]) ⟨V,_,_,rfl,a0,D G o,O,by rw[iU];exact t,aa V o,e⟩
   |false=>rw[m]at hz;rw[Sort.insInner,ab (by simp[m])]at e;refine bd hz ?_;obtain⟨N,X,S,e1,e2,e3⟩:=fin o (aw.le P o) t e;refine dB ap ?_;exact p (i+1) _ _ O al (by simp only[go_sem,Y,xY]) ⟨N,X,S,e1,e2 q,e3⟩
  .have Q:decide ((j:Int)>(a:Int))=false:=ch O;have a3:T=Sort.insInner aV a i L:=by
    cases j with
    |zero=>exact e
    |succ j=>rw[Sort.insInner,ab (by simp;omega)]at e;exact e
   refine bJ ?_;refine bG [0,1,2,3,4,5,6,7,8,9,10,11,12,13,14,15,16] [8,13] [] ?_;refine bQ Q ?_;apply aN;refine bd ap ?_;obtain⟨N,X,S,e1,e2,e3⟩:=fin (aD _) P t a3;exact p (i+1) _ _ O al (by simp only[go_sem,Y,xY]) ⟨N,X,S,e1,e2 w,e3⟩
 .have R:decide ((i:Int)<(b:Int))=false:=by simp;omega
  rw[Sort.insOuter,ab O]at x;refine bd R ?_;exact jX rfl ac (r:=[]) rfl K ⟨C,rfl,by rw[<-x];exact an⟩
def IW:ay prog 283:=⟨_,func283,rfl,rfl⟩
def xX(v a vb vc:Value)(i:Nat):St:=⟨dn 53 [(0,.v v),(1,.v a),(2,.v vb),(3,.v vc),(8,.v (E i))],[]⟩
def AI(v a vb vc:Value)(i:Nat)(j:Nat):St:=⟨dn 53 [(0,.v v),(1,.v a),(2,.v vb),(3,.v vc),(8,.v (E i)),(9,.v (E j))],[]⟩
theorem SD{vc:Value}{d:Array aI}{a b:Nat}(hA:bt I A v d.toList)(hc:it bj cT vc)(hb:b<=d.size)(hn:d.size<=ar)(ha:a<=d.size):
  Zu 283 #[v,E a,E b,vc] I [A] fun _ B qs=>∃C,qs=[C]/\bt B C v (Sort.insertionSort cT d a b).toList:=by
 intro hd;unfold ar at hn;obtain⟨f,first,cap,rfl,gf,cf⟩:=id hc;obtain⟨va,Z,rfl⟩:=Ow.one' hA;have w1:=wrap64 (n:=a+1) O;have w1':IntKind.i64.wrap ((a:Int)+1)=((a+1:Nat):Int):=by rw[<-w1];congr 1
 refine aP 53 func283 fun w0=>?_
 try simp only[E]
 refine dB w1' ?_;refine bV (fun i=>b-i) (xX (.slice va d.size Z) (E a) (E b) (.func (.func f) first cap)) (fun i H=>∃B C L,H=U [B,C]/\Dj [B,C]/\I.le B/\a+1<=i/\L.size=d.size/\bt B C (.slice va d.size Z) L.toList/\Sort.insOuter cT a b i L=Sort.insertionSort cT d a b) (a+1) al (by simp only[go_sem,Y,xX]) ?_ ?_
 .exact⟨I,A,d,rfl,hd,aD _,aR _,rfl,hA,rfl⟩
 rintro i H ⟨B,C,L,rfl,ac,K,a6,aq,an,x⟩ p;simp only[xX];rcases aK i b with aS|a5
 .have R:decide ((i:Int)<(b:Int))=true:=by simp;omega
  have e1:=wrap64 (n:=i+1) O;have ap:IntKind.i64.wrap ((i:Int)+1)=((i+1:Nat):Int):=by rw[<-e1];congr 1
  rw[Sort.insOuter,ah aS]at x;refine bd R ?_;refine bV (fun j=>j) (AI (.slice va d.size Z) (E a) (E b) (.func (.func f) first cap) i) (fun j H=>∃W A3 T,H=U [W,A3]/\Dj [W,A3]/\B.le W/\j<=i/\T.size=d.size/\bt W A3 (.slice va d.size Z) T.toList/\Sort.insInner cT a j T=Sort.insInner cT a i L) i al (by simp only[go_sem,Y,AI]) ?_ ?_
  .exact⟨B,C,L,rfl,ac,aD _,aR _,aq,an,rfl⟩
  rintro j H ⟨W,A3,T,rfl,w,G,a4,t,P,e⟩ u;simp only[AI];have fin:∀{V A4:PH} {d4:Array aI},W.le V->bt V A4 (.slice va d.size Z) d4.toList->d4.size=d.size->d4=Sort.insInner cT a i L->∃N X S,U [V,A4]=U [N,X]/\(Dj [V,A4]->Dj [N,X])/\I.le N/\a+1<=i+1/\S.size=d.size/\bt N X (.slice va d.size Z) S.toList/\Sort.insOuter cT a b (i+1) S=Sort.insertionSort cT d a b:=fun h1 h2 h3 h4=>⟨_,_,_,rfl,id,D K (D G h1),O,h3,h2,by rw[h4];exact x⟩;rcases aK a j with am|am
  .obtain⟨j,rfl⟩:∃j',j=j'+1:=⟨j-1,O⟩;have Q:decide (((j+1:Nat):Int)>(a:Int))=true:=bm O;have F:=pA (j:=j) O;obtain⟨g,cp,cur,y,cj,ev,rfl,a2,rj1,rj,s,lj,kj1,kj,aa⟩:=Ow.two P (fun{I} c a h=>bj.len c a h) (fun{I J c a} h k=>bj.le h k) (i:=j+1) (j:=j) O O;rw[t]at ev a2;cases ev
   refine bJ ?_;refine bG [0,1,2,3,4,5,6,7,8,9,10,11,12,13,14,15,16] [8,13] [] ?_;refine lg Q F ?_;refine⟨O,?_⟩;refine Zn (l:=y) (v:=.agg y.toArray) rfl (cellsU w (.tail _ (.head _)) (by simpa using kj1)) (.inl ⟨by rw[s];exact gh,rfl⟩) ?_;refine bQ F ?_;refine⟨O,?_⟩;refine Zn (l:=cj) (v:=.agg cj.toArray) rfl (cellsU w (.tail _ (.head _)) (by simpa using kj)) (.inl ⟨by rw[lj];exact gh,rfl⟩) ?_;refine bQ F ?_;refine cH w [0] [] [_] rfl gf rfl (cf W _ _ _ _ rj1 rj) ?_;rintro v V qs q o⟨rfl,z,rfl,hz⟩;simp only[Z3]at q |-;refine bU ?_;apply aN;cases m:cT T[j+1]! T[j]! with
   |true=>rw[m]at hz;rw[Sort.insInner,ah (by simp[am,m])]at e;refine bd hz ?_;refine bG [0,1,2,3,4,5,6,7,8,9,10,11,12,13,14,15,16,17] [9,13] [] ?_;refine bQ F ?_;refine⟨O,?_⟩;refine Zn (l:=cj) (v:=.agg cj.toArray) rfl (cellsU q (.tail _ (.head _)) (by simpa using kj)) (.inl ⟨by rw[lj];exact gh,rfl⟩) ?_;refine bQ F ?_;refine⟨O,?_⟩;refine Zn (l:=y) (v:=.agg y.toArray) rfl (cellsU q (.tail _ (.head _)) (by simpa using kj1)) (.inl ⟨by rw[s];exact gh,rfl⟩) ?_;refine bQ F ?_;refine⟨O,?_⟩;have m1:(j+1+1)*4<=d.size*4:=cv _ O;refine cY q rfl rfl rfl rfl rfl (dN (bj.ones rj)) (by rw[lj];exact pp) (by rw[lj];omega) fun a1=>?_;refine bQ F ?_;refine⟨O,?_⟩;refine cY a1 rfl rfl rfl rfl rfl (dN (bj.ones rj1)) (by rw[s];exact pp) (by rw[s];simp[eL];omega) fun a0=>?_;apply aN;refine bd F ?_;exact u j _ _ O al (by simp only[go_sem,Y,AI]) ⟨V,_,_,rfl,a0,D G o,O,by rw[iU];exact t,aa V o,e⟩
   |false=>rw[m]at hz;rw[Sort.insInner,ab (by simp[m])]at e;refine bd hz ?_;obtain⟨N,X,S,e1,e2,e3⟩:=fin o (bt.le P o) t e;refine dB ap ?_;exact p (i+1) _ _ O al (by simp only[go_sem,Y,xX]) ⟨N,X,S,e1,e2 q,e3⟩
  .have Q:decide ((j:Int)>(a:Int))=false:=ch O;have a3:T=Sort.insInner cT a i L:=by
    cases j with
    |zero=>exact e
    |succ j=>rw[Sort.insInner,ab (by simp;omega)]at e;exact e
   refine bJ ?_;refine bG [0,1,2,3,4,5,6,7,8,9,10,11,12,13,14,15,16] [8,13] [] ?_;refine bQ Q ?_;apply aN;refine bd ap ?_;obtain⟨N,X,S,e1,e2,e3⟩:=fin (aD _) P t a3;exact p (i+1) _ _ O al (by simp only[go_sem,Y,xX]) ⟨N,X,S,e1,e2 w,e3⟩
 .have R:decide ((i:Int)<(b:Int))=false:=by simp;omega
  rw[Sort.insOuter,ab O]at x;refine bd R ?_;exact jX rfl ac (r:=[]) rfl K ⟨C,rfl,by rw[<-x];exact an⟩
def Rp:ay prog 36:=⟨_,func36,rfl,rfl⟩
def RB:ay prog 88:=⟨_,func88,rfl,rfl⟩
def IA:ay prog 159:=⟨_,func159,rfl,rfl⟩
def RA:ay prog 87:=⟨_,func87,rfl,rfl⟩
def Rn:ay prog 33:=⟨_,func33,rfl,rfl⟩
def xV(a:Option Addr)(k:Nat)(t:T)(c:Nat)(u:T):St:=⟨dn 29 [(1,.v (.int .u32 c)),(2,.p 2 0),(5,.v (E (T.plc (T.subs t) u)))],[⟨2,50,[sD a k t,rD t]⟩]⟩
theorem Sf{H:PH}{t:T}{c:Nat}(h:bW H v t)(I:c<2^32):Zv 36 #[v,.int .u32 c] H fun r H2=>r=.bool (t.at' (fT c))/\H2=H:=by
 obtain⟨g,sl,rfl,J⟩:=h;obtain⟨a,k,rfl,j⟩:=J;have sq:T.Seq (T.subs t):=(T.vis_spec t g O [] T.Seq.nil).1;have y:(T.subs t).length+1<=2^24:=by obtain⟨us,e1,e2,_⟩:=(T.vis_spec t g O [] T.Seq.nil).2.2;rw[aQ]at e1;show (t.vis []).length+1<=_;rw[e1];exact e2
 have o:T.isIn (T.subs t) t:=T.subs_in g;refine aP 29 func36 fun w0=>?_
 try simp only[E]
 refine ai ?_;refine bV (fun u=>u.sz) (xV a k t c) (fun u H2=>H2=H/\T.isIn (T.subs t) u/\u.at' (fT c)=t.at' (fT c)) t al (by simp only[go_sem,Y,xV,E,sD,rD]) ⟨rfl,o,rfl⟩ ?_;rintro u H2 ⟨rfl,x,p⟩ e;simp only[xV];cases u with
 |lf b=>
  have m:decide (((T.plc (T.subs t) (.lf b):Nat):Int)>1)=false:=by cases b<;>simp[T.plc]
  have s:(((T.plc (T.subs t) (.lf b):Nat):Int) == 1)=b:=by cases b<;>simp[T.plc]
  refine d6 m s ?_;exact aX (r:=[_]) rfl ⟨by rw[<-p];rfl,rfl⟩
 |nd i l r=>
  have hm:T.nd i l r∈T.subs t:=x;have G:=ux hm;have hp:T.plc (T.subs t) (.nd i l r)=(T.subs t).idxOf (.nd i l r)+2:=rfl;have m:decide (((T.plc (T.subs t) (.nd i l r):Nat):Int)>1)=true:=by rw[hp];simp;omega
  have w:IntKind.i64.wrap (((T.plc (T.subs t) (.nd i l r):Nat):Int)-2)=(((T.subs t).idxOf (.nd i l r):Nat):Int):=by rw[<-wrap64 (n:=(T.subs t).idxOf (.nd i l r)) O,hp];congr 1;omega
  obtain⟨C,B⟩:=sq.kids hm;have z:i<24:=(sq.okk x).2.1;have q:T.dec (T.subs t) (.nd i l r)=(i,T.plc (T.subs t) l,T.plc (T.subs t) r):=rfl;rcases j with h0|⟨b,rfl,j⟩
  .rw[h0]at hm;simp at hm
  apply RG;simp only[go_sem,E,sD,rD,m,w];refine⟨O,?_⟩;have A:=T.plc_get hm;rw[hp,uz]at A;have F:(ko (T.subs t)).length=(T.subs t).length*3:=wB _;have f:=j.sub ((T.subs t).idxOf (.nd i l r)*3) 3 O;rw[wA A,g8,q]at f;refine Zm (l:=ii (i,T.plc (T.subs t) l,T.plc (T.subs t) r)) (v:=dV (i,T.plc (T.subs t) l,T.plc (T.subs t) r)) rfl f (.inl ⟨pX,rfl⟩) ?_;have hs:mK .u32 (mn .u32 (c:Int) (i:Int)) 1=((((c >>> i)&&&1:Nat)):Int):=by rw[BU O];exact lV (b:=1) (BV I) O
  have d:=Dr c i;cases hb:c.testBit i
  .rw[hb]at d;apply RG;simp only[go_sem,E,sD,rD,dV,gL,hs,d];refine e l _ _ ?_ al (by simp only[go_sem,Y,xV,E,sD,rD]) ⟨rfl,C,?_⟩
   .simp only[T.sz];omega
   .rw[<-p];simp[T.at',fT,hb]
  .rw[hb]at d;apply RG;simp only[go_sem,E,sD,rD,dV,gL,hs,d];refine e r _ _ ?_ al (by simp only[go_sem,Y,xV,E,sD,rD]) ⟨rfl,B,?_⟩
   .simp only[T.sz];omega
   .rw[<-p];simp[T.at',fT,hb]
def s7(e:PH)(vf:Value)(g:T->T):Prop:=∃a first cap,vf=.func (.func a) first cap/\ay prog a/\∀{I:PH} {v:Value} {d:T},e.le I->bW I v d->Zu a (first++#[v]++cap) I [] fun r c b=>b=[]/\bW c r (g d)
variable{g:T->T}{J:PH}
def s7.le{vf:Value}(h:s7 I vf g)(k:I.le J):s7 J vf g:=by obtain⟨a,first,cap,e,c,hd⟩:=h;exact⟨a,first,cap,e,c,fun b hr=>hd (D k b) hr⟩
def nL(c:Nat)(d:T):T:=.lf (d.at' (fT c))
def Fq(I:PH):bW I (.agg #[.slice none 0 0,E 1]) (.lf true):=pd I true
def yE(I:PH):bW I (.agg #[.slice none 0 0,E 0]) (.lf false):=pd I false
def Wd{I0:PH}{cb c:Nat}(hb:a8 I0 cb 0 [.int .u32 c])(f:c<2^32):s7 I0 (.func (.func 88) #[] #[pt cb]) (nL c):=by
 refine⟨88,#[],#[pt cb],rfl,RB,fun{I v d} e hr hd=>?_⟩;obtain⟨a,k,rfl⟩:=hr.shape2;show Zv 88 #[.agg #[sD a k d,rD d],pt cb] _ _;refine aP 9 func88 fun w0=>?_
 try simp only[E,pt,sD,rD]
 refine ai ?_;refine Zm (l:=[.int .u32 c]) rfl (cellsU hd (.head _) (hb.le e)) (.inr ⟨mJ,rfl⟩) ?_;refine ai ?_;refine Zl rfl Rp (Sf (hr.le (iL hd)) f) ?_;rintro v H2⟨rfl,rfl⟩;cases b:d.at' (fT c)
 .refine ai ?_;refine Zl rfl tK (tG _) ?_;rintro v H2⟨rfl,rfl⟩;refine bJ ?_;exact az rfl hd (r:=[.agg #[.slice none 0 0,.int .i64 0]]) (by simp only[results88,go_sem,E]) (aD _) ⟨rfl,by unfold nL;rw[b];exact yE I⟩
 .refine ai ?_;refine Zl rfl xP (zf _) ?_;rintro v H2⟨rfl,rfl⟩;refine bJ ?_;exact az rfl hd (r:=[.agg #[.slice none 0 0,.int .i64 1]]) (by simp only[results88,go_sem,E]) (aD _) ⟨rfl,by unfold nL;rw[b];exact Fq I⟩
structure wU(g:T->T)(F:List M->List M):Prop where
 nil:F []=[]
 app:∀a b,F (a++b)=F a++F b
 one:∀n:M,F [n]=if g n.cond=ff then []else [{ n with kids:=F n.kids,cond:=g n.cond }]
variable{F:List M->List M}
def wU.take_le(h:wU g F)(i:Nat)(l:List M):aL (F (l.take i))<=aL (F l):=by
 conv=>rhs;rw[<-pG i l]
 rw[h.app,km];omega
def O0(c:Nat):wU (nL c) (pL (fT c)):=by refine⟨rfl,gW _,fun n=>?_⟩;rw[iA];unfold nL;cases n.cond.at' (fT c)<;>simp
def xD(vf vl:Value)(n:Nat)(x:Nat×Value):St:=⟨dn 34 [(1,.v vf),(5,.v x.2),(8,.v vl),(9,.v (E n)),(10,.v (E x.1))],[]⟩
def O1(F:List M->List M)(l:List M)(a:PH)(x:Nat×Value)(H:PH):Prop:=∃I A,H=U [I,A]/\Dj [I,A]/\a.le I/\x.1<=l.length/\aw I A x.2 (F (l.take x.1))
theorem O2(t:wU g F):∀(m:Nat) {I:PH} {v vf:Value} {l:List M},aL l<m->bk I v l->ky v->s7 I vf g->aL (F l)<=ar->
  Zu 159 #[v,vf] I [] fun r I2 qs=>∃A,qs=[A]/\aw I2 A r (F l):=by
 intro m
 induction m with
 |zero=>intro I v vf l hm;omega
 |succ m ih=>
 intro I v vf l hm hS hC hG hz hd;obtain⟨va,vc,rfl,_⟩:=id hS;obtain⟨fid,first,cap,rfl,am,ap⟩:=id hG;unfold ar at hz;refine aP 34 func159 fun w0=>?_
 try simp only[E]
 refine ai ?_;refine de hd fun a0=>?_;refine bV (fun x=>l.length-x.1) (xD (.func (.func fid) first cap) (.slice va l.length vc) l.length) (O1 F l I) (0,.slice none 0 0) al (by simp only[go_sem,Y,xD]) ?_ ?_
 .exact⟨I,PH.no,rfl,a0,aD _,aE _,by rw[mC,t.nil];exact Ow.nil _ _ _ _⟩
 rintro⟨i,vo⟩ H ⟨I1,Z,rfl,C,e,hi,N⟩ f;simp only at hi N;simp only[xD];obtain⟨oa,oc,rfl⟩:=N.shape;rcases aK i l.length with o|ba
 .have L:decide ((i:Int)<(l.length:Int))=true:=by simp;omega
  have X:=nr hC o;obtain⟨n,R⟩:∃n,l[i]?=some n:=⟨_,aY o⟩;obtain⟨b,off,cs,rfl,a1,G⟩:=Sl.load ag.len (bk.le hS e) R;obtain⟨vk,na,nk,rfl,P,j,W⟩:=a1.shape;obtain⟨ka,kc,rfl,_⟩:=id j;have a7:=uj (db R);have w:=t.take_le (i+1) l;rw[g6 R,t.app,km]at w;have a9:=mp (F (l.take i));refine dm L ?_;refine⟨O,?_⟩;refine Zm (l:=[.int .u8 n.kind,.string ⟨⟨n.text⟩⟩,.int .i64 n.tok,.int .i64 n.slot,.slice ka n.kids.length kc,sD na nk n.cond,rD n.cond]) (v:=.agg #[.int .u8 n.kind,.string ⟨⟨n.text⟩⟩,.int .i64 n.tok,.int .i64 n.slot,.slice ka n.kids.length kc,sD na nk n.cond,rD n.cond]) rfl (cellsU C (.head _) G) (.inl ⟨b9,rfl⟩) ?_;refine bK ?_;refine av C [0] [] [Z] rfl am rfl (ap e P) ?_;rintro v I3 qs B d⟨rfl,y⟩;obtain⟨za,zk,rfl⟩:=y.shape2;simp only[Z3]at B |-;refine bK ?_;refine Zl rfl jj (ji y) ?_;rintro v H2⟨rfl,rfl⟩;cases p:decide (g n.cond=.lf false)
  .have Q:g n.cond≠ff:=by simpa using p
   rw[t.one,ab Q,dj,gB]at w;simp only at w;apply RG;simp only[go_sem,E,sD,rD,p,dg];refine av B [0] [] [Z] rfl IA rfl (ih (l:=n.kids) O (bk.le j d) W (s7.le hG (D e d)) (by unfold ar;omega)) ?_;rintro v I4 qs V U⟨K,rfl,hK⟩;simp only[Z3]at V |-;obtain⟨qa,qc,rfl⟩:=hK.shape;have a4:=hK.capN ag.len;refine ak V [0,1] fun z=>?_;refine aJ z fun I5 z s a5=>?_;have a3:bk I5 (.slice qa (F n.kids).length qc) (F n.kids):=aw.sl hK s a5;refine bK ?_;refine cI z (by exact dr) rfl rfl rfl rfl rfl af fun nb I6 aS q ac=>?_;have u:=D U (D s q);have a2:bk I6 (.slice (some ⟨nb,0,none⟩) 1 1) [{ n with kids:=F n.kids,cond:=g n.cond }]:=og (bA ac (by simp[ax,Value.cells]) (by simp[ax,Value.cells,E,sD,rD])) (ag.mk (n:={ n with kids:=F n.kids,cond:=g n.cond }) (y.le u) (bk.le a3 q) a4);refine bK ?_;refine fk aS (by exact dr) (aw.le N (D d u)) (a2) (fun{I J c a} h k=>ag.le h k) (fun{I} c a h=>ag.len c a h) (fun{I} c a h=>ag.ones h) rfl rfl rfl rfl (by first|omega|(simp only[bl,bg];omega)) (by unfold maxLen;first|omega|(simp only[bl,bg];omega)) fun ua uc I7 A7 aq S a6=>?_;refine dm X ?_;have aa:=D e (D d (D u S));exact f (i+1,.slice ua (F (l.take i)++[{ n with kids:=F n.kids,cond:=g n.cond }]).length uc) _ _ bi ub (by simp only[go_sem,Y,xD,E,sD,rD]) ⟨I7,A7,rfl,aq,aa,o,by simp only;rw[g6 R,t.app,t.one,ab Q];exact a6⟩
  .have an:g n.cond=ff:=by simpa using p
   apply RG;simp only[go_sem,E,sD,rD,p,cL,X];exact f (i+1,.slice oa (F (l.take i)).length oc) _ _ bi ub (by simp only[go_sem,Y,xD,E,sD,rD]) ⟨I3,Z,rfl,B,D e d,o,by simp only;rw[g6 R,t.app,t.one,ah an,Y];exact aw.le N d⟩
 .have:i=l.length:=by omega
  subst this;have L:decide (((l.length:Nat):Int)<(l.length:Int))=false:=ao;refine dm L ?_;exact az rfl C (r:=[_]) rfl e ⟨Z,rfl,by rw[dK]at N |-;exact N⟩
def jt(I:PH)(v:Value)(t:Tr):Prop:=∃a b,v=.agg #[a,b]/\bk I a t.kids/\ky a/\Sl bj I b t.diags/\ky b
variable{l:List aI}
def SlE.le(h:Sl bj I v l)(k:I.le J):Sl bj J v l:=Sl.le (R:=bj) (fun{I J c a} h k=>bj.le h k) h k
variable{t:Tr}
def jt.le(h:jt I v t)(k:I.le J):jt J v t:=by obtain⟨a,b,e,h1,h2,h3,h4⟩:=h;exact⟨a,b,e,bk.le h1 k,h2,SlE.le h3 k,h4⟩
def jg(g:T->T)(e:List aI):List aI:=e.flatMap fun d=>if g d.cond=ff then []else [{ d with cond:=g d.cond }]
def OY(g:T->T)(a b:List aI):jg g (a++b)=jg g a++jg g b:=by simp[jg]
def HB(g:T->T):∀e,(jg g e).length<=e.length
 | []=>aR _
 |d::e=>by have:=HB g e;have h:jg g (d::e)=(if g d.cond=ff then []else [{ d with cond:=g d.cond }])++jg g e:=rfl;rw[h];split<;>simp<;>omega
def OZ(c:Nat)(e:List aI):jg (nL c) e=iB (fT c) e:=by
 induction e with
 |nil=>rfl
 |cons d e a=>have h:jg (nL c) (d::e)=(if nL c d.cond=ff then []else [{ d with cond:=nL c d.cond }])++jg (nL c) e:=rfl;rw[h,a];unfold iB nL;cases hd:d.cond.at' (fT c)<;>simp[ip,hd]
def bt.sl(h:bt I A v l)(h1:I.le J)(h2:A.le J):Sl bj J v l:=i6 (R:=bj) (fun{I J c a} h k=>bj.le h k) h h1 h2
def ym(vf b c a vl:Value)(n:Nat)(x:Nat×Value):St:=⟨dn 37 [(1,.v vf),(4,.p 4 0),(5,.p 5 0),(14,.v vl),(15,.v (E n)),(16,.v (E x.1))],[⟨4,36,[.slice none 0 0,.slice none 0 0]⟩,⟨5,36,[a,x.2]⟩]⟩
def VA(g:T->T)(l:List aI)(a:PH)(x:Nat×Value)(H:PH):Prop:=∃I A,H=U [I,A]/\Dj [I,A]/\a.le I/\x.1<=l.length/\bt I A x.2 (jg g (l.take x.1))
theorem VC(hF:wU g F){vf:Value}(hT:jt I v t)(hG:s7 I vf g)(hz:aL (F t.kids)<=ar)(ac:t.diags.length<=ar):
  Zu 87 #[v,vf] I [] fun r X Z=>Z=[]/\jt X r ⟨F t.kids,jg g t.diags⟩:=by
 obtain⟨vk,vd,rfl,hK,a9,hD,bb⟩:=hT;obtain⟨fid,first,cap,rfl,aq,a0⟩:=id hG;obtain⟨ka,kc,rfl,_⟩:=id hK;obtain⟨da,dc,rfl,_⟩:=id hD;have N:=ac;unfold ar at N;intro hd;refine aP 37 func87 fun w0=>?_
 try simp only[E]
 refine ai ?_;refine eG hd rfl IA (O2 hF (aL t.kids+1) (eF _) hK a9 hG hz) ?_;rintro v1 I1 Z a4 S⟨K,rfl,C⟩;obtain⟨qa,qc,rfl⟩:=C.shape;have V:=C.capN ag.len;refine ak a4 [0] fun A=>?_;refine aJ A fun X A u a7=>?_;have ba:bk X (.slice qa (F t.kids).length qc) (F t.kids):=aw.sl C u a7;have w:=D S u;refine ai ?_;refine de A fun a3=>?_;refine bV (fun x=>t.diags.length-x.1) (ym (.func (.func fid) first cap) (.slice ka t.kids.length kc) (.slice da t.diags.length dc) (.slice qa (F t.kids).length qc) (.slice da t.diags.length dc) t.diags.length) (VA g t.diags X) (0,.slice none 0 0) al (by simp only[go_sem,Y,ym]) ?_ ?_
 .exact⟨X,PH.no,rfl,a3,aD _,aE _,Ow.nil _ _ _ _⟩
 rintro⟨i,vo⟩ H ⟨I3,A3,rfl,z,e,hi,G⟩ n;simp only at hi G;simp only[ym];obtain⟨oa,oc,rfl⟩:=G.shape;rcases aK i t.diags.length with q|b0
 .have L:decide ((i:Int)<(t.diags.length:Int))=true:=by simp;omega
  have W:=nr bb q;obtain⟨d,U⟩:∃d,t.diags[i]?=some d:=⟨_,aY q⟩;obtain⟨b,off,cs,rfl,a5,B⟩:=Sl.load bj.len (SlE.le hD (D w e)) U;obtain⟨na,nk,rfl,P⟩:=id a5;have am:=HB g (t.diags.take i);rw[lK]at am;have j:jg g (t.diags.take (i+1))=jg g (t.diags.take i)++(if g d.cond=ff then []else [{ d with cond:=g d.cond }]):=by rw[g6 U,OY];simp[jg]
  refine dm L ?_;refine⟨O,?_⟩;refine Zm (l:=[.int .u8 d.code,.int .i64 d.tok,sD na nk d.cond,rD d.cond]) (v:=.agg #[.int .u8 d.code,.int .i64 d.tok,sD na nk d.cond,rD d.cond]) rfl (cellsU z (.head _) B) (.inl ⟨gh,rfl⟩) ?_;refine bK ?_;refine av z [0] [] [A3] rfl aq rfl (a0 (D w e) P) ?_;rintro v I4 Z f m⟨rfl,y⟩;obtain⟨za,zk,rfl⟩:=y.shape2;simp only[Z3]at f |-;refine bK ?_;refine Zl rfl jj (ji y) ?_;rintro v H2⟨rfl,rfl⟩;cases s:decide (g d.cond=.lf false)
  .have an:g d.cond≠ff:=by simpa using s
   rw[ab an]at j;apply RG;simp only[go_sem,E,sD,rD,s,dg];refine cI f (by exact nn) rfl rfl rfl rfl rfl af fun nb I6 a2 o ap=>?_;have a6:Sl bj I6 (.slice (some ⟨nb,0,none⟩) 1 1) [{ d with cond:=g d.cond }]:=⟨_,_,rfl,.inr ⟨nb,0,_,rfl,bA ap (by simp[ax,Value.cells]) (by simp[ax,Value.cells,E,sD,rD]),.one ⟨za,zk,rfl,y.le o⟩⟩⟩;refine bK ?_;refine fk (R:=bj) (xs:=jg g (t.diags.take i)) (ys:=[{ d with cond:=g d.cond }]) a2 (by exact nn) (bt.le G (D m o)) a6 (fun{I J c a} h k=>bj.le h k) (fun{I} c a h=>bj.len c a h) (fun{I} c a h=>bj.ones h) rfl rfl rfl rfl (by simp only[bl,bg];omega) (by simp only[bl,bg];unfold maxLen;omega) fun ua uc I7 A7 a1 Q bx=>?_;refine dm W ?_;have aa:=D m (D o Q);exact n (i+1,.slice ua (jg g (t.diags.take i)++[{ d with cond:=g d.cond }]).length uc) _ _ bi ub (by simp only[go_sem,Y,ym,E,sD,rD]) ⟨I7,A7,rfl,a1,D e aa,q,by simp only;rw[j];exact bx⟩
  .have aS:g d.cond=ff:=by simpa using s
   rw[ah aS,Y]at j;apply RG;simp only[go_sem,E,sD,rD,s,cL,W];exact n (i+1,.slice oa (jg g (t.diags.take i)).length oc) _ _ bi ub (by simp only[go_sem,Y,ym,E,sD,rD]) ⟨I4,A3,rfl,f,D e m,q,by simp only;rw[j];exact bt.le G m⟩
 .have:i=t.diags.length:=by omega
  subst this;have L:decide (((t.diags.length:Nat):Int)<(t.diags.length:Int))=false:=ao;rw[dK]at G |-;have bs:=Ow.capN (R:=bj) G (fun c a h=>bj.len c a h);refine ak z [0] fun f=>?_;refine aJ (c:=.st _) f fun I5 f p bc=>?_;refine dm L ?_;exact az rfl f (r:=[.agg #[.slice qa (F t.kids).length qc,.slice oa (jg g t.diags).length oc]]) (by simp only[results87,go_sem,E]) (D w (D e p)) ⟨rfl,_,_,rfl,bk.le ba (D e p),V,bt.sl G p bc,bs⟩
def We{c:Nat}(l:jt I v t)(u:c<2^32)(q:aL t.kids<=ar)(d:t.diags.length<=ar):Zu 33 #[v,.int .u32 c] I [] fun r j k=>k=[]/\jt j r (prj (fT c) t):=by
 obtain⟨A,B,rfl,F,w,G,x⟩:=id l;intro hd;refine aP 8 func33 fun w0=>?_
 try simp only[E]
 apply cE 6;simp only[go_sem];refine jW 3 hd rfl fun i g=>?_;refine aJ (c:=.st _) g fun j f a h=>?_;have hb:a8 j i 0 [.int .u32 c]:=(dz ao rfl:a8 (sg i (.cells [.int .u32 c].toArray 23 (0,0))) i 0 [.int .u32 c]).le h;apply RG;simp only[go_sem,iR,List.map,pt];refine eG f rfl RA (VC (O0 c) (l.le a) (Wd hb u) (fJ (Ch _ _) q) d) ?_;rintro C H k e b⟨rfl,hr⟩;obtain⟨y,z,rfl,h1,h2,h3,h4⟩:=hr;rw[OZ]at h3;obtain⟨p,o,rfl,_⟩:=id h1;obtain⟨n,m,rfl,_⟩:=id h3;refine ai ?_;exact az rfl e (r:=[.agg #[.slice p (pL (fT c) t.kids).length o,.slice n (iB (fT c) t.diags).length m]]) (by simp only[results33,go_sem]) (D a b) ⟨rfl,_,_,rfl,h1,h2,h3,h4⟩
end Go.Proofs.YtfaclfkpnmcmlaaGreatDoor
