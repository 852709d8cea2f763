import Derived.Test.YtfaclfkpnmcmlaaGreatDoorL02
import Derived.Test.YtfaclfkpnmcmlaaGreatDoorL03
set_option maxHeartbeats 8000000
set_option linter.all false
namespace Go.Proofs.YtfaclfkpnmcmlaaGreatDoor
open Go Go.Sx Dg Syn
def IX:ay Tryz.prog 292:=⟨_,Tryz.func292,rfl,rfl⟩
section
variable {pb:Nat} {Z:Zs} {lv fv ov:Value}
def td(Z:Zs)(o:Nat)(r:Syn.aA)(m:Nat)(xs:List aj)(l:List M)(out:ad)(ee:List aI):Prop:=
 ∃b,Syn.run Z m (.elses o xs l out)=some b/\b.l=r.l/\b.f=r.f/\ee++b.e=r.e
def ru(Z:Zs)(o:Nat)(r:Syn.aA)(m:Nat)(ys:List aj)(l:List M)(out:ad)(ee:List aI):Prop:=
 ∃b,Syn.run Z m (.ifs o ys l out)=some b/\b.l=r.l/\b.f=r.f/\ee++b.e=r.e
variable{ee:List aI}{out:ad}{l:List M}{r:Syn.aA}{o m:Nat}
def Ud(h:td Z o r m [] l out ee):l=r.l/\out=r.f/\ee=r.e:=by
 obtain⟨b,hb,h1,h2,h3⟩:=h;obtain⟨m',rfl,c⟩:=fD hb;have a:Syn.elses Z (Syn.run Z m') o [] l out=some b:=c;unfold Syn.elses at a;simp only at a;cases a
 exact⟨h1,h2,by simpa using h3⟩
def Uf(h:ru Z o r m [] l out ee):l=r.l/\out=r.f/\ee=r.e:=by
 obtain⟨b,hb,h1,h2,h3⟩:=h;obtain⟨m',rfl,c⟩:=fD hb;have a:Syn.ifs (Syn.run Z m') o [] l out=some b:=c;unfold Syn.ifs at a;simp only at a;cases a
 exact⟨h1,h2,by simpa using h3⟩
variable{xs:List aj}
def Uc{x:aj}(h:td Z o r m (x::xs) l out ee):∃m' a b,m=m'+1/\
  Syn.run Z m' (.block o (bP Z (bY x) (bq eN)).2 2)=some a/\(∀n∈l,n.kids.length+a.l.length<=ar)/\ru Z o b m' (bP Z (bY x) (bq eN)).1 (give l a.l) (Syn.joinAll out a.f) []/\td Z o r m' xs b.l b.f (ee++a.e++b.e):=by
 obtain⟨y,hb,h1,h2,h3⟩:=h;obtain⟨m',rfl,s⟩:=fD hb;have d:Syn.elses Z (Syn.run Z m') o (x::xs) l out=some y:=s;unfold Syn.elses at d;simp only at d;obtain⟨ys,rest,i⟩:∃yes g,bP Z (bY x) (bq eN)=(yes,g):=⟨_,_,rfl⟩;rw[i]at d |-;simp only at d |-;obtain⟨a,ha,q⟩:=cQ d;obtain⟨z,v,p⟩:=cQ q;obtain⟨b,u,k⟩:=cQ p;obtain⟨c,w,j⟩:=cQ k;cases j
 have t:=kI v;obtain rfl:=fH v;exact⟨m',a,b,rfl,ha,t,⟨b,u,rfl,rfl,rfl⟩,c,w,h1,h2,by simpa[cD]using h3⟩
def Ue{y:aj}{ys:List aj}(h:ru Z o r m (y::ys) l out ee):∃m',m=m'+1/\
  (o=64->ru Z o r m' ys l out (ee++dh y 11))/\
  (o≠64->∃a,Syn.run Z m' (.branch (o+1) y 2)=some a/\(∀n∈l,n.kids.length+a.l.length<=ar)/\ru Z o r m' ys (give l a.l) (Syn.joinAll out a.f) (ee++a.e)):=by
 obtain⟨t,hb,h1,h2,h3⟩:=h;obtain⟨m',rfl,k⟩:=fD hb;have c:Syn.ifs (Syn.run Z m') o (y::ys) l out=some t:=k;unfold Syn.ifs at c;simp only at c;refine⟨m',rfl,fun p=>?_,fun p=>?_⟩
 .rw[ah p]at c;obtain⟨b,g,d⟩:=cQ c;cases d
  exact⟨b,g,h1,h2,by simpa[cD]using h3⟩
 .rw[ab p]at c;obtain⟨a,ha,d⟩:=cQ c;obtain⟨u,s,j⟩:=cQ d;obtain⟨b,g,i⟩:=cQ j;cases i
  have q:=kI s;obtain rfl:=fH s;exact⟨a,ha,q,b,g,h1,h2,by simpa[cD]using h3⟩
def td.le(h:td Z o r m xs l out ee):ee.length<=r.e.length:=by obtain⟨b,_,_,_,h⟩:=h;rw[<-h];simp
def ru.le(h:ru Z o r m xs l out ee):ee.length<=r.e.length:=by obtain⟨b,_,_,_,h⟩:=h;rw[<-h];simp
def Aa(pb:Nat)(slot:Nat)(a:Value)(n:Nat)(x:Nat×Nat×Value×Value×Value):St:=⟨dn 114 [(0,.v (pt pb)),(8,.v x.2.2.1),(13,.v x.2.2.2.1),(56,.v a),(57,.v (E n)),(58,.v (E x.1))],[]⟩
def OB(pb:Nat)(Z:Zs)(lv fv ov:Value)(o X:Nat)(xs:List aj)(r:Syn.aA)(e:List aI)(a:PH)(x:Nat×Nat×Value×Value×Value)(H:PH):Prop:=
 ∃I W A B l out ee,H=U [I,sg pb (bS lv fv ov x.2.2.2.2 o),W,A,B]/\Dj [I,sg pb (bS lv fv ov x.2.2.2.2 o),W,A,B]/\a.le I/\x.1<=xs.length/\x.2.1<=X/\td Z o r x.2.1 (xs.drop x.1) l out ee/\
  aw I A x.2.2.1 l/\l.length=1/\cV I B x.2.2.2.1 out/\FN Z.length out/\bt I W x.2.2.2.2 (e++ee)
def xz(pb:Nat)(b:Value)(n i:Nat)(a:Value)(c:Nat)(x:Nat×Nat×Value×Value×Value):St:=⟨dn 114 [(0,.v (pt pb)),(8,.v x.2.2.1),(13,.v x.2.2.2.1),(56,.v b),(57,.v (E n)),(58,.v (E i)),(82,.v a),(83,.v (E c)),(84,.v (E x.1))],[]⟩
def Ot(pb:Nat)(Z:Zs)(lv fv ov:Value)(o X:Nat)(ys:List aj)(r:Syn.aA)(e:List aI)(a:PH)(x:Nat×Nat×Value×Value×Value)(H:PH):Prop:=
 ∃I W A B l out ee,H=U [I,sg pb (bS lv fv ov x.2.2.2.2 o),W,A,B]/\Dj [I,sg pb (bS lv fv ov x.2.2.2.2 o),W,A,B]/\a.le I/\x.1<=ys.length/\x.2.1<=X/\ru Z o r x.2.1 (ys.drop x.1) l out ee/\
  aw I A x.2.2.1 l/\l.length=1/\cV I B x.2.2.2.1 out/\FN Z.length out/\bt I W x.2.2.2.2 (e++ee)
theorem OC{n:Nat}(ih:jZ pb Z lv fv ov n){h0:aj}{slot:Nat}(hr:Syn.run Z n (.branch o h0 slot)=some r):mG pb Z lv fv ov (.branch o h0 slot) r:=by
 obtain⟨m,rfl,hs⟩:=fD hr;have eh:Syn.branch Z (Syn.run Z m) o h0 slot=some r:=hs;unfold Syn.branch at eh;obtain⟨a,ha,hN⟩:=cQ eh;obtain⟨b,hb,hM⟩:=cQ hN;obtain⟨l1,et,hL⟩:=cQ hM;obtain⟨l2,es,dx⟩:=cQ hL;obtain⟨xs,out,hK⟩:∃yes g,bP Z b.f (bq iV)=(yes,g):=⟨_,_,rfl⟩;rw[hK]at dx;simp only at dx;obtain⟨c,hc,i0⟩:=cQ dx;cases i0
 have er:=kI et;have eq:=kI es;obtain rfl:=fH et;obtain rfl:=fH es;clear eh hN hM hL dx hs hr et es;intro ho ie I X dv xa xk e h hx b5 he hm hd;have hl:=h.len;have ef:=hx.lt (.inl ie);simp only[aH]at hm;refine aP 114 Tryz.func292 fun w0=>?_
 try simp only[E,pt,ij,sD,rD]
 refine ai ?_;refine rG hd (by exact dr) rfl rfl rfl rfl rfl af fun wb A1 j9 b3=>?_;have ld:aw I A1 _ [gC 8 h0 slot]:=⟨_,b3,.one (ag.mk (n:=gC 8 h0 slot) b5 (Sl.nil _ _) p0)⟩;refine dL ?_;refine av j9 [0,1,2] [] [A1,sg pb _,X] rfl nN rfl (nG (h:=h0) O b5) ?_;rintro v I2 B hR a7⟨rfl,kO⟩;simp only[aU,aQ]at hR |-;refine dL ?_;refine av hR [1,2,0] [sg pb _,X] [A1] rfl Ez rfl (ih m (eF m) _ _ ha ho (h.le a7) kO (eH hx ef) (he.le a7) O) ?_;rintro v I3 B hP ek⟨dv3,D3,rs,rfl,k2,⟨A3,B3,va3,vb3,rfl,rfl,lc,k7⟩,kx,_⟩;simp only[aU,aQ]at hP |-;refine dL ?_;refine ak hP [2,0,1,3,4] fun j7=>?_;refine aJ j7 fun I4 j5 a5 lb=>?_;have kq:bk I4 va3 a.l:=lc.sl a5 lb;refine ak j5 [2,0,1,3] fun j3=>?_;refine aJ j3 fun I5 j2 t k6=>?_;have kv:bM I5 vb3 a.f:=k7.sl (D a5 t) k6;have hC:=D a5 t;have k5:=D a7 (D ek hC);refine av j2 [0,1,2] [sg pb _,D3] [A1] rfl xO rfl (ih m (eF m) _ _ hb ho (h.le k5) kv kx (k2.le hC) (by simp only[aH];omega)) ?_;rintro v I6 B hO ej⟨dv6,D6,rs,rfl,k1,⟨A6,B6,va6,vb6,rfl,rfl,la,k4⟩,d1,_⟩;simp only[aU,aQ]at hO |-;refine dL ?_;refine ak hO [2,0,1,3,4] fun j1=>?_;refine aJ j1 fun I7 fz ca k9=>?_;have kp:bk I7 va6 b.l:=la.sl ca k9;refine ak fz [2,0,1,3] fun fs=>?_;refine aJ fs fun I8 fr b8 k3=>?_;have d5:=D ca b8;have kt:bM I8 vb6 b.f:=k4.sl d5 k3;have d7:=D ej d5;refine av fr [2,0,1] [A1] [sg pb _,D6] rfl kL rfl (kK (ld.le (D k5 d7)) (bk.le kq (D t d7)) (by simp[ar]) er) fun v I9 B c5 b7 d=>?_
 obtain⟨A9,rfl,k8⟩:=d;simp only[aU,aQ]at c5 |-;refine dL ?_;refine av c5 [0,1,2] [A9] [sg pb _,D6] rfl kL rfl (kK k8 (bk.le kp (D b8 b7)) (by rw[eK];simp[ar]) eq) ?_;rintro v8 mS B c4 cm⟨A10,rfl,hu⟩;simp only[aU,aQ]at c4 |-;refine dL ?_;refine av c4 [0,1,2] [] [A10,sg pb _,D6] rfl nO rfl (oq (s:=iV)) ?_;rintro v mR B c3 a3⟨rfl,hY⟩;simp only[aU,aQ]at c3 |-;obtain⟨fi,first,cap,rfl,gi,ci⟩:=id hY;refine dL ?_;have k811:=D b7 (D cm a3);have hH:=D k5 (D d7 k811);refine av c3 [1,0,2] [sg pb _] [A10,D6] rfl oN rfl (pj (h.le hH) (kt.le k811) d1 hY) ?_;rintro v mM B c2 W⟨A12,B12,va12,vb12,rfl,rfl,aS,b0⟩;have hX:=oh h.ok d1 (is:=bq iV);have hT:=qU h.ok d1 (bq iV);have f5:=jx h.ok d1 (bq iV);rw[hK]at aS b0 hX hT f5;simp only at aS b0 hX hT f5;obtain⟨xsa,xsc,rfl⟩:=aS.shape;simp only[aU,aQ]at c2 |-;refine dL ?_;refine ak c2 [1,0,4,3,2] fun fn=>?_;refine aJ (c:=.st _) fn fun hz fl q ht=>?_;have ki:fM hz (.slice xsa xs.length xsc) xs:=aS.sl q ht;have k1013:=D a3 (D W q);have k613:=D d5 (D k811 (D W q));have h6:=D hH (D W q);have kn:td Z o ⟨c.l,c.f,a.e++b.e++c.e⟩ m xs (give (give [gC 8 h0 slot] a.l) b.l) out (a.e++b.e):=⟨c,hc,rfl,rfl,rfl⟩;refine bV (fun x=>xs.length-x.1) (Aa pb slot (.slice xsa xs.length xsc) xs.length) (OB pb Z lv fv ov o m xs ⟨c.l,c.f,a.e++b.e++c.e⟩ e hz) (0,m,v8,vb12,dv6) cN (by simp only[go_sem,Y,Aa]) ?_ ?_
 .exact⟨hz,D6,A10,B12,_,_,_,rfl,fl,aD _,aE _,aR _,kn,hu.le k1013,by simp[eK],b0.le q,f5,by simpa[cD]using k1.le k613⟩
 rintro⟨i,m',va,vb,dv⟩ H ⟨mi,D14,A14,J,l,out',ee,rfl,ba,V,i9,i2,c9,hA,el,hB,gg,hE⟩ b6;simp only at i9 i2 c9 hA hB hE;simp only[Aa];have f3:fM mi (.slice xsa xs.length xsc) xs:=ki.le V;have hG:=D h6 V;have hy:=h.le hG;rcases aK i xs.length with dT|mj
 .have hw:decide ((i:Int)<(xs.length:Int))=true:=by simp;omega
  have e1:=wrap64 (n:=i+1) O;have lj:IntKind.i64.wrap ((i:Int)+1)=((i+1:Nat):Int):=by rw[<-e1];congr 1
  obtain⟨x,ds⟩:∃x,xs[i]?=some x:=⟨_,aY dT⟩;have ia:=db ds;obtain⟨b1,ic⟩:=hX x ia;have am:=xT af b1 ic;obtain⟨bb,off,cs,rfl,ka,c6⟩:=f3.load dM.len ds;obtain⟨xa2,xk2,rfl,b4⟩:=ka;have jo:xs.drop i=x::xs.drop (i+1):=by rw[jz dT];rw[aY dT]at ds;rw[cX ds]
  rw[jo]at c9;obtain⟨m'',aa,b2,rfl,fC,jf,f6,c8⟩:=Uc c9;have cl:=c8.le;simp only[aH]at cl;refine eB hw ?_;refine⟨O,?_⟩;refine Zm (l:=[E x.at',sD xa2 xk2 x.cond,rD x.cond,.int .u8 x.kind,.string ⟨⟨x.text⟩⟩]) (v:=.agg #[E x.at',sD xa2 xk2 x.cond,rD x.cond,.int .u8 x.kind,.string ⟨⟨x.text⟩⟩]) rfl (cellsU ba (.head _) c6) (.inl ⟨gv,rfl⟩) ?_;refine aZ ?_;refine av ba [0,1,2,3] [] [sg pb _,D14,A14,J] rfl nN rfl (nG (h:=x) O b4) ?_;rintro v mA B c1 cj⟨rfl,gl⟩;simp only[aU,aQ]at c1 |-;refine aZ ?_;refine av c1 [0,1,2,3] [] [sg pb _,D14,A14,J] rfl nO rfl (oq (s:=eN)) ?_;rintro vi mx B c0 a2⟨rfl,da⟩;simp only[aU,aQ]at c0 |-;obtain⟨fi2,first2,cap2,rfl,gi2,ci2⟩:=id da;refine aZ ?_;have hF:=D cj a2;obtain⟨ys,rest,eg⟩:∃yes g,bP Z (bY x) (bq eN)=(yes,g):=⟨_,_,rfl⟩;have f0:=oh h.ok (eH b1 am) (is:=bq eN);have hS:=qU h.ok (eH b1 am) (bq eN);have f4:=jx h.ok (eH b1 am) (bq eN);refine av c0 [0,1,2,3] [sg pb _] [D14,A14,J] rfl oN rfl (pj (hy.le hF) (gl.le a2) (eH b1 am) da) ?_;rintro v mv B cA cf⟨A17,B17,va17,vb17,rfl,rfl,aq,bx⟩;rw[eg]at aq bx f0 hS f4 fC f6;simp only at aq bx f0 hS f4 fC f6;obtain⟨ysa,ysc,rfl⟩:=aq.shape;simp only[aU,aQ]at cA |-;refine aZ ?_;refine ak cA [1,0,2,3,4,5] fun fh=>?_;refine aJ fh fun mc fc U hq=>?_;have kd:fM mc (.slice ysa ys.length ysc) ys:=aq.sl U hq;refine ak fc [1,0,2,3,4] fun fb=>?_;refine aJ fb fun mb fa T g5=>?_;have gf:bM mb vb17 rest:=bx.sl (D U T) g5;have ec:=D hF (D cf (D U T));have li:=hy.le ec
  refine av fa [0,1,2,3] [sg pb _,D14] [A14,J] rfl xO rfl (ih m'' O _ _ fC ho li gf f4 (hE.le ec) (by simp only[aH];omega)) ?_;rintro v mt B cy a1⟨dv20,D20,rs,rfl,gr,⟨A20,B20,va20,vb20,rfl,rfl,hn,g3⟩,dd,kk⟩;simp only[aU,aQ]at cy |-;refine aZ ?_;refine ak cy [2,0,1,3,4,5] fun e8=>?_;refine aJ e8 fun ma e7 S hk=>?_;have ga:bk ma va20 aa.l:=hn.sl S hk;refine ak e7 [2,0,1,3,4] fun e6=>?_;refine aJ e6 fun l5 e5 R g2=>?_;have gc:bM l5 vb20 aa.f:=g3.sl (D S R) g2;have K:=D S R;have ea:=D ec (D a1 K);refine av e5 [2,0,1,3] [A14] [sg pb _,D20,J] rfl kL rfl (kK (hA.le ea) (bk.le ga R) (by rw[el];simp[ar]) jf) ?_;rintro v23 ms B cx p⟨A23,rfl,hj⟩;simp only[aU,aQ]at cx |-;refine aZ ?_;refine av cx [3,0,1,2] [J] [A23,sg pb _,D20] rfl j8 rfl (ke (N:=Z.length) O (hB.le (D ea p)) gg (gc.le p) dd) ?_;rintro v24 h4 B cr A⟨B24,rfl,g1⟩;simp only[aU,aQ]at cr |-;refine aZ ?_;refine ak cr [2,3,1,0] fun e4=>?_;have h5:=D ea (D p A);have k1824:=D T (D a1 (D K (D p A)));have c7:=kd.le k1824;have k2024:=D K (D p A);refine bV (fun x=>ys.length-x.1) (xz pb (.slice (some ⟨bb,off,none⟩) xs.length xsc) xs.length i (.slice ysa ys.length ysc) ys.length) (Ot pb Z lv fv ov o m'' ys b2 (e++(ee++aa.e)) h4) (0,m'',v23,v24,dv20) cN (by simp only[go_sem,Y,xz]) ?_ ?_
  .exact⟨h4,D20,A23,B24,_,_,_,rfl,e4,aD _,aE _,aR _,f6,hj.le A,by rw[eK];exact el,g1,gg.joinAll dd,by simpa[cD]using gr.le k2024⟩
  rintro⟨j,m3,vc,vd,dw⟩ H ⟨h3,D25,A25,B25,l2,out2,ee2,rfl,an,z,i4,ei,G,d4,d0,d3,ap,d2⟩ ac;simp only at i4 ei G d4 d3 d2;simp only[xz];have f2:fM h3 (.slice ysa ys.length ysc) ys:=c7.le z;have hD:=D h5 z;have h1:=hy.le hD;rcases aK j ys.length with C|ja
  .have hv:decide ((j:Int)<(ys.length:Int))=true:=by simp;omega
   have f1:=wrap64 (n:=j+1) O;have f1':IntKind.i64.wrap ((j:Int)+1)=((j+1:Nat):Int):=by rw[<-f1];congr 1
   obtain⟨y,dk⟩:∃y,ys[j]?=some y:=⟨_,aY C⟩;have h8:=db dk;obtain⟨hJ,h9⟩:=f0 y h8;have h7:y.text≠[]:=by
    have:y.text=eN:=by simpa[bq]using h9
    rw[this];decide
   obtain⟨bc,off2,cs2,rfl,fA,bs⟩:=f2.load dM.len dk;obtain⟨ya,yk,rfl,a0⟩:=fA;have ex:ys.drop j=y::ys.drop (j+1):=by rw[jz C];rw[aY C]at dk;rw[cX dk]
   rw[ex]at G;obtain⟨m4,rfl,i1,ed⟩:=Ue G;refine eB hv ?_;refine⟨O,?_⟩;refine Zm (l:=[E y.at',sD ya yk y.cond,rD y.cond,.int .u8 y.kind,.string ⟨⟨y.text⟩⟩]) (v:=.agg #[E y.at',sD ya yk y.cond,rD y.cond,.int .u8 y.kind,.string ⟨⟨y.text⟩⟩]) rfl (cellsU an (.head _) bs) (.inl ⟨gv,rfl⟩) ?_;refine aZ ?_;by_cases a4:o=64
   .have hW:=i1 a4;have t:=hW.le;simp only[aH]at t;subst a4;refine av an [0,1,2,3] [sg pb _,D25] [A25,B25] rfl oO rfl (xG h1 hJ.le a0 d2 (by simp[dh]at t |-;omega)) ?_;rintro v h2 B F w⟨dv26,D26,rs,rfl,gq,rfl,rfl⟩;simp only[aU,aQ]at F |-;apply RG;simp only[go_sem,E,pt,sD,rD,f1',dg];exact ac (j+1,m4,vc,vd,dv26) _ _ bi cN (by simp only[go_sem,Y,xz]) ⟨h2,D26,A25,B25,_,_,_,rfl,F,D z w,C,by simp only;omega,hW,d4.le w,d0,d3.le w,ap,by simpa[cD]using gq⟩
   .obtain⟨a6,kc,em,hV⟩:=ed a4;have cb:=hV.le;simp only[aH]at cb;refine av an [0,1,2,3] [sg pb _] [D25,A25,B25] rfl oO rfl (xH (h:=y) (a:=ya) (k:=yk) O) ?_;rintro v h2 B F w⟨rfl,rfl,rfl⟩;simp only[aU,aQ]at F |-;apply RG;simp only[go_sem,E,pt,sD,rD,f1',cL];refine av F [0,1,2,3] [sg pb _,D25] [A25,B25] rfl IX rfl (ih m4 O (.branch (o+1) y 2) a6 kc O h7 h1 hJ a0 d2 (by simp only[aH];omega)) ?_;rintro v mr B cp cc⟨dv27,D27,rs,rfl,gn,⟨A27,B27,va27,vb27,rfl,rfl,hh,g0⟩,dc,kj⟩;simp only[aU,aQ]at cp |-;refine aZ ?_;refine ak cp [2,0,1,3,4,5] fun e3=>?_;refine aJ e3 fun l3 e2 Q hg=>?_;have f7:bk l3 va27 a6.l:=hh.sl Q hg;refine ak e2 [2,0,1,3,4] fun e0=>?_;refine aJ e0 fun l0 eA P gt=>?_;have gb:bM l0 vb27 a6.f:=g0.sl (D Q P) gt;have k2729:=D Q P;have d9:=D cc k2729;refine av eA [2,0,1,3] [A25] [sg pb _,D27,B25] rfl kL rfl (kK (d4.le d9) (bk.le f7 P) (by rw[d0];simp[ar]) em) ?_;rintro v30 mm B cn u⟨A30,rfl,hf⟩;simp only[aU,aQ]at cn |-;refine aZ ?_;refine av cn [3,0,1,2] [B25] [A30,sg pb _,D27] rfl j8 rfl (ke (N:=Z.length) O (d3.le (D d9 u)) ap (gb.le u) dc) ?_;rintro v31 lk B a9 L⟨B31,rfl,gs⟩;simp only[aU,aQ]at a9 |-;refine aZ ?_;refine Zm (l:=[.int .i64 ((o+1:Nat):Int)]) rfl (cellsU a9 (.tail _ (.tail _ (.tail _ (.head _)))) (dz (by simp[bS]) rfl)) (.inr ⟨eR,rfl⟩) ?_;apply RG;simp only[go_sem,E,pt,sD,rD,zi o ho];refine ak a9 [2,3,1,0] fun ez=>?_
    refine k0 ez rfl rfl rfl rfl rfl (by exact sQ) ao fun ey=>?_;refine dR f1' ?_;exact ac (j+1,m4,v30,v31,dv27) _ _ bi cN (by simp only[go_sem,Y,xz]) ⟨lk,D27,A30,B31,_,_,_,rfl,ey,D z (D d9 (D u L)),C,by simp only;omega,hV,hf.le L,by rw[eK];exact d0,gs,ap.joinAll dc,by simpa[cD]using gn.le (D k2729 (D u L))⟩
  .have i3:j=ys.length:=by omega
   subst i3;have hv:decide ((ys.length:Int)<(ys.length:Int))=false:=ao;rw[js]at G;obtain⟨rfl,rfl,rfl⟩:=Uf G;apply RG;simp only[go_sem,hv,E,pt,lj];exact b6 (i+1,m'',vc,vd,dw) _ _ bi cN (by simp only[go_sem,Y,Aa]) ⟨h3,D25,A25,B25,_,_,_,rfl,an,D V hD,dT,by simp only;omega,c8,d4,d0,d3,ap,by simpa[cD]using d2⟩
 .have i5:i=xs.length:=by omega
  subst i5;have hw:decide ((xs.length:Int)<(xs.length:Int))=false:=ao;rw[js]at c9;obtain⟨rfl,rfl,rfl⟩:=Ud c9;refine eB hw ?_;exact az rfl ba (r:=[va,vb]) rfl hG ⟨_,D14,[A14,J],rfl,hE,⟨A14,J,va,vb,rfl,rfl,hA,hB⟩,gg,by rw[el];simp[ar]⟩
end
end Go.Proofs.YtfaclfkpnmcmlaaGreatDoor
namespace Syn
open Dg
def OO{a b:T}(ha:a.ok 0)(hb:b.ok 0):(a.or b).card<=a.card+b.card:=by
 have h1:(a.or b).card=a.card+(b.and a.not).card:=T.card_add fun c=>by rw[T.or_at ha hb,T.and_at hb (T.not_ok ha),T.not_at];cases a.at' c<;>cases b.at' c<;>rfl
 have h2:(b.and a.not).card<=b.card:=T.card_mono fun c=>by rw[T.and_at hb (T.not_ok ha)];intro h;simp at h;exact h.1
 omega
def ON{a b:T}(ha:a.ok 0)(hb:b.ok 0):(a.and b).card+(a.and b.not).card=a.card:=by refine(T.card_add fun c=>?_).symm;rw[T.and_at ha hb,T.and_at ha (T.not_ok hb),T.not_at];cases a.at' c<;>cases b.at' c<;>rfl
def lp(N:Nat)(a:Nat)(d:T):Nat:=d.card*(N+1-a)
def bC(N:Nat)(f:ad):Nat:=(f.map fun s=>lp N s.1 s.2).sum
def hp(N:Nat)(h:aj):Nat:=lp N h.at' h.cond
def dq(N:Nat)(hs:List aj):Nat:=(hs.map (hp N)).sum
theorem gX(N:Nat):bC N []=0:=rfl
def lB(N:Nat)(s:Nat×T)(f:ad):bC N (s::f)=lp N s.1 s.2+bC N f:=by simp[bC]
theorem yA(N:Nat):dq N []=0:=rfl
def eb(N:Nat)(h:aj)(hs:List aj):dq N (h::hs)=hp N h+dq N hs:=by simp[dq]
variable{d:T}{N a:Nat}
def UT{e:T}(hd:d.ok 0)(b:e.ok 0):lp N a (d.or e)<=lp N a d+lp N a e:=by unfold lp;rw[<-ir];exact cv _ (OO hd b)
def J8(hd:d.ok 0)(b:d≠ff)(ha:a<=N):1<=lp N a d:=by have h1:=T.card_pos hd b;unfold lp;exact fJ O (Nat.mul_le_mul h1 (show 1<=N+1-a by omega))
def US(ha:a<=N):lp N (a+1) d+d.card=lp N a d:=by unfold lp;rw[show N+1-a=(N+1-(a+1))+1 by omega,Nat.mul_add,Nat.mul_one]
def UR{b:Nat}(d:T)(h:a<=b):lp N b d<=lp N a d:=Nat.mul_le_mul_left _ O
def V6{f:ad}(hf:∀s∈f,s.2.ok 0)(hd:d.ok 0):bC N (gy f a d)<=bC N f+lp N a d:=by
 induction f with
 |nil=>simp[gy,bC]
 |cons s f c=>
  obtain⟨b,e⟩:=s;have:=c fun t ht=>hf t (.tail _ ht);simp only[gy];split
  .rw[lB,lB];omega
  .split
   .rename_i h2;have:=UT (N:=N) (a:=b) (hf _ (.head _)) hd;simp only[lB]at *;subst h2;omega
   .simp only[lB];omega
def qN{f:ad}(hf:∀s∈f,s.2.ok 0)(hd:d.ok 0):bC N (join f a d)<=bC N f+lp N a d:=by
 unfold join;split
 .omega
 .exact V6 hf hd
def aC.all{f:ad}(h:aC f):∀s∈f,s.2.ok 0:=fun s hs=>(h.1 s hs).1
def nZ{g:ad}(b:∀s∈g,s.2.ok 0):∀{f:ad},aC f->bC N (joinAll f g)<=bC N f+bC N g:=by
 induction g with
 |nil=>intro f _;simp[joinAll,bC]
 |cons s g c=>intro f hf;have h1:=qN (N:=N) hf.all (a:=s.1) (b s (.head _));have h2:=c (fun t ht=>b t (.tail _ ht)) (f:=join f s.1 s.2) (iy hf (b s (.head _)));unfold joinAll at *;simp only[g7,lB];omega
def KT{N:Nat}:∀{l:Zs} {a:ad} {i:Nat} {d:T},bB l->aC a->d.ok 0->bC N (gK a l i d)<=bC N a+lp N i d
 | [],a,i,d,c,ha,hd=>qN ha.all hd
 |t::l,a,i,d,c,ha,hd=>by
  simp only[gK];split
  .omega
  .have ht:=c t (.head _);have h1:=qN (N:=N) ha.all (a:=i) (T.and_ok hd ht);have h2:=KT (N:=N) (l:=l) (a:=join a i (d.and t.cond)) (i:=i+1) (d:=d.and t.cond.not) (fun x e=>c x (.tail _ e)) (iy ha (T.and_ok hd ht)) (T.and_ok hd (T.not_ok ht));have h3:=UR (N:=N) (a:=i) (b:=i+1) (d.and t.cond.not) O;have h4:lp N i (d.and t.cond)+lp N i (d.and t.cond.not)=lp N i d:=by unfold lp;rw[<-ir,ON hd ht]
   omega
def V7{Z:Zs}(b:bB Z){f:ad}(hf:∀s∈f,s.2.ok 0):bC N (lF Z f)<=bC N f:=by
 have key:∀(f:ad) (a:ad),(∀s∈f,s.2.ok 0)->aC a->bC N (f.foldl (fun at' s=>gK at' (Z.drop s.1) s.1 s.2) a)<=bC N a+bC N f:=by
  intro f
  induction f with
  |nil=>intro a _ _;simp[bC]
  |cons s f c=>intro a h1 h2;have h3:=KT (N:=N) (b.drop s.1) h2 (i:=s.1) (h1 s (.head _));have h4:=c (gK a (Z.drop s.1) s.1 s.2) (fun t ht=>h1 t (.tail _ ht)) (LU (b.drop _) h2 (h1 s (.head _)));simp only[g7,lB];omega
 have:=key f [] hf aC.nil;rw[gX,g8]at this;exact this
def KR(N:Nat)(Z:Zs):∀(f:ad),dq N (f.map (fu Z))=bC N f
 | []=>rfl
 |s::f=>by
  have h:=KR N Z f;have e:hp N (fu Z s)=lp N s.1 s.2:=by unfold hp;rw[tM,vv]
  rw[iq,eb,lB,h,e]
def yz(N:Nat){h:aj}:∀{hs:List aj},h∈hs->hp N h<=dq N hs
 | [],hm=>(dJ hm).elim
 |x::hs,hm=>by
  rw[eb];rcases List.mem_cons.1 hm with e|e
  .subst e;omega
  .have:=yz N e;omega
section
variable {Z:Zs} {f:ad}
def o8(a:bB Z)(fn:FN Z.length f){N:Nat}:dq N (co Z f)<=bC N f:=by rw[tN a fn.ok,KR];exact V7 a fn.ok.all
def du.pos{h:aj}(k:du Z h):1<=hp Z.length h:=J8 k.ok k.ne k.le
def du.next{h:aj}(k:du Z h):lp Z.length (h.at'+1) h.cond+1<=hp Z.length h:=by have h1:=US (d:=h.cond) k.le;have h2:=T.card_pos k.ok k.ne;unfold hp;omega
def BG(fn:FN Z.length f)(h:f≠[]):1<=bC Z.length f:=by
 cases f with
 |nil=>exact absurd rfl h
 |cons s f=>have:=J8 (fn.ok.1 s (.head _)).1 (fn.ok.1 s (.head _)).2 (fn.le s (.head _));rw[lB];omega
def eU(h:aj)(N:Nat):bC N (bY h)=lp N (h.at'+1) h.cond:=by simp[bY,bC]
def lC(h:aj)(N:Nat):bC N (bL h)=hp N h:=by simp[bL,bC,hp]
variable{hs:List aj}
def BF{N:Nat}(b:∀h∈hs,h.cond.ok 0):∀{f:ad},aC f->bC N (hs.foldl joinH f)<=bC N f+dq N hs:=by
 induction hs with
 |nil=>intro f _;simp[dq]
 |cons h hs c=>intro f hf;have h0:=b h (.head _);have h1:=qN (N:=N) hf.all (a:=h.at') h0;have h2:=c (fun t ht=>b t (.tail _ ht)) (f:=joinH f h) (iy hf h0);simp only[g7,eb,hp];unfold joinH at *;omega
def KS(b:∀h∈hs,du Z h):∀{f:ad},aC f->bC Z.length (hs.foldl joinH1 f)+hs.length<=bC Z.length f+dq Z.length hs:=by
 induction hs with
 |nil=>intro f _;simp[dq]
 |cons h hs c=>intro f hf;have h0:=b h (.head _);have h1:=qN (N:=Z.length) hf.all (a:=h.at'+1) h0.ok;have h2:=c (fun t ht=>b t (.tail _ ht)) (f:=joinH1 f h) (iy hf h0.ok);have h3:=h0.next;simp only[g7,eb,bl];unfold joinH1 at *;omega
def V5(N:Nat)(is:aj->Bool)(hs:List aj):dq N (hs.filter is)+dq N (hs.filter fun h=>!is h)=dq N hs:=by
 induction hs with
 |nil=>rfl
 |cons h hs a=>cases e:is h<;>simp only[ip,e,cL,dg,reduceIte,eb,dO]<;>omega
def qO(a:bB Z)(fn:FN Z.length f)(is:aj->Bool):dq Z.length (bP Z f is).1+bC Z.length (bP Z f is).2<=bC Z.length f:=by rw[BZ];have h1:=V5 Z.length is (co Z f);have h2:=BF (N:=Z.length) (hs:=(co Z f).filter fun h=>!is h) (fun h b=>(gx a fn (List.mem_filter.1 b).1).ok) aC.nil;have h3:=o8 a fn (N:=Z.length);rw[gX]at h2;show dq Z.length ((co Z f).filter is)+bC Z.length (((co Z f).filter fun h=>!is h).foldl joinH [])<=_;omega
def Fm(a:∀h∈hs,du Z h):hs.length<=dq Z.length hs:=by
 induction hs with
 |nil=>exact aR _
 |cons h hs b=>have h1:=(a h (.head _)).pos;have h2:=b fun t ht=>a t (.tail _ ht);rw[eb,bl];omega
theorem xK(h:aj)(k:Nat):(dh h k).length=2:=rfl
def o9(b:bB Z)(fn:FN Z.length f)(s:au):(take Z f s).2.length+3*bC Z.length (take Z f s).1<=3*bC Z.length f:=by
 have key:∀(hs:List aj) (z:ad×List aI),(∀h∈hs,du Z h)->aC z.1->(hs.foldl (f9 s) z).2.length+3*bC Z.length (hs.foldl (f9 s) z).1<=z.2.length+3*bC Z.length z.1+3*dq Z.length hs:=by
  intro hs
  induction hs with
  |nil=>intro z _ _;simp[dq]
  |cons h hs g=>
   intro z c d;have h0:=c h (.head _);simp only[g7,eb];have j:=h0.next;have i:=h0.pos;by_cases e:h.text=s
   .have e2:f9 s z h=(join z.1 (h.at'+1) h.cond,z.2):=by simp[f9,e]
    have h1:=qN (N:=Z.length) d.all (a:=h.at'+1) h0.ok;have:=g (f9 s z h) (fun t ht=>c t (.tail _ ht)) (by rw[e2];exact iy d h0.ok);rw[e2]at this |-;simp only at this;omega
   .have e2:f9 s z h=(z.1,z.2++dh h 10):=by simp[f9,e]
    have:=g (f9 s z h) (fun t ht=>c t (.tail _ ht)) (by rw[e2];exact d);rw[e2]at this |-;simp only[aH,xK]at this;omega
 have:=key (co Z f) ([],[]) (fun h c=>gx b fn c) aC.nil;rw[F8];have h3:=o8 b fn (N:=Z.length);simp only[gX,bg]at this;omega
def Sp(N w:Nat)(r:aA):Prop:=r.e.length+r.l.length+3*bC N r.f<=w
def yB(d:bB Z)(fn:FN Z.length f)(kind slot:Nat):(Sp Z.length (3*bC Z.length f) (named Z f kind slot)/\(f≠[]->Sp Z.length (3*bC Z.length f-1) (named Z f kind slot)))/\∀n∈(named Z f kind slot).l,n.kids=[]:=by
 have key:∀(hs:List aj) (z:aA),(∀h∈hs,du Z h)->aC z.f->(∀n∈z.l,n.kids=[])->Sp Z.length (3*dq Z.length hs+3*bC Z.length z.f+z.l.length+2*z.e.length-hs.length) ⟨(hs.foldl (dX kind slot) z).l,(hs.foldl (dX kind slot) z).f,(hs.foldl (dX kind slot) z).e++z.e⟩/\∀n∈(hs.foldl (dX kind slot) z).l,n.kids=[]:=by
  intro hs
  induction hs with
  |nil=>intro z _ _ h;refine⟨?_,h⟩;unfold Sp;simp[dq];omega
  |cons h hs j=>
   intro z c g k;have h0:=c h (.head _);simp only[g7,eb,bl];have b:=Fm (Z:=Z) (hs:=hs) fun t ht=>c t (.tail _ ht);have q:=h0.next;have p:=h0.pos;by_cases e:h.kind≠1\/fI h.text=true
   .have e2:dX kind slot z h={ z with e:=z.e++dh h 10 }:=by unfold dX;rw[ah e]
    have:=j (dX kind slot z h) (fun t ht=>c t (.tail _ ht)) (by rw[e2];exact g) (by rw[e2];exact k);rw[e2]at this |-;refine⟨?_,this.2⟩;have h1:=this.1;unfold Sp at h1 |-;simp only[aH,xK]at h1 |-;omega
   .have e2:dX kind slot z h=⟨z.l++[⟨kind,h.text,h.at',slot,[],h.cond⟩],join z.f (h.at'+1) h.cond,z.e⟩:=by unfold dX;rw[ab e]
    have r:=qN (N:=Z.length) g.all (a:=h.at'+1) h0.ok;have:=j (dX kind slot z h) (fun t ht=>c t (.tail _ ht)) (by rw[e2];exact iy g h0.ok) (by
     rw[e2];intro n hm;rcases List.mem_append.1 hm with hm|hm
     .exact k n hm
     .simp at hm;subst hm;rfl)
    rw[e2]at this |-;refine⟨?_,this.2⟩;have h1:=this.1;unfold Sp at h1 |-;simp only[aH,bl,bg]at h1 |-;omega
 have:=key (co Z f) ⟨[],[],[]⟩ (fun h c=>gx d fn c) aC.nil (fun n h=>(dJ h).elim);rw[x8];have h3:=o8 d fn (N:=Z.length);have b:=Fm (Z:=Z) (hs:=co Z f) fun h c=>gx d fn c;have h1:=this.1;unfold Sp at h1 |-;simp only[gX,bg,Y]at h1;refine⟨⟨O,fun i=>?_⟩,this.2⟩;have o:=BG fn i;cases m:co Z f with
 |nil=>rw[m]at h1;simp only[yA,bg,List.foldl_nil,gX]at h1 |-;omega
 |cons h hs=>rw[m]at h1 h3 b;simp only[bl]at h1 b;omega
def Fo(b:bB Z)(fn:FN Z.length f)(slot:Nat):Sp Z.length (3*bC Z.length f) (im Z f slot)/\∀n∈(im Z f slot).l,n.kids=[]:=by
 have key:∀(hs:List aj) (z:aA),(∀h∈hs,du Z h)->aC z.f->(∀n∈z.l,n.kids=[])->Sp Z.length (3*dq Z.length hs+3*bC Z.length z.f+z.l.length+2*z.e.length) ⟨(hs.foldl (eu slot) z).l,(hs.foldl (eu slot) z).f,(hs.foldl (eu slot) z).e++z.e⟩/\∀n∈(hs.foldl (eu slot) z).l,n.kids=[]:=by
  intro hs
  induction hs with
  |nil=>intro z _ _ h;refine⟨?_,h⟩;unfold Sp;simp[dq];omega
  |cons h hs g=>
   intro z c d i;have h0:=c h (.head _);simp only[g7,eb];have k:=h0.next;have j:=h0.pos;by_cases e:h.text≠om/\h.text≠oj
   .have e2:eu slot z h={ z with e:=z.e++dh h 10 }:=by unfold eu;rw[ah e]
    have:=g (eu slot z h) (fun t ht=>c t (.tail _ ht)) (by rw[e2];exact d) (by rw[e2];exact i);rw[e2]at this |-;refine⟨?_,this.2⟩;have h1:=this.1;unfold Sp at h1 |-;simp only[aH,xK]at h1 |-;omega
   .have e2:eu slot z h=⟨z.l++[⟨5,h.text,h.at',slot,[],h.cond⟩],join z.f (h.at'+1) h.cond,z.e⟩:=by unfold eu;rw[ab e]
    have m:=qN (N:=Z.length) d.all (a:=h.at'+1) h0.ok;have:=g (eu slot z h) (fun t ht=>c t (.tail _ ht)) (by rw[e2];exact iy d h0.ok) (by
     rw[e2];intro n hm;rcases List.mem_append.1 hm with hm|hm
     .exact i n hm
     .simp at hm;subst hm;rfl)
    rw[e2]at this |-;refine⟨?_,this.2⟩;have h1:=this.1;unfold Sp at h1 |-;simp only[aH,bl,bg]at h1 |-;omega
 have:=key (co Z f) ⟨[],[],[]⟩ (fun h c=>gx b fn c) aC.nil (fun n h=>(dJ h).elim);rw[Cm];have h3:=o8 b fn (N:=Z.length);refine⟨?_,this.2⟩;have h1:=this.1;unfold Sp at h1 |-;simp only[gX,bg,Y]at h1;omega
variable{l:List M}
def kJ{ks:List M}{K:Nat}(h:∀n∈l,n.kids.length<=K)(b:K+ks.length<=ar):ix l ks=some (give l ks)/\(give l ks).length=l.length/\∀n∈give l ks,n.kids.length<=K+ks.length:=by
 refine⟨?_,by simp[give],?_⟩
 .unfold ix;rw[ah];rw[sZ];intro n a;have:=h n a;simp only[dE];omega
 .intro n a;obtain⟨m,hm,rfl⟩:=List.mem_map.1 a;have:=h m hm;simp only[aH];omega
def u7(h:l.length<=ar):ck l=some ():=ah h
def JL(l:List M)(d:T):(fO l d).length<=l.length:=List.length_filterMap_le ..
def KK(l:List M)(d:T):(fP l d).length<=l.length:=List.length_filterMap_le ..
def vE(l:List M)(d:T):(gz l d).length=l.length:=by cases l<;>rfl
end
open Dg
def KB(K:Nat)(l:List M):Prop:=∀n∈l,n.kids.length<=K
def kz(Z:Zs)(hs:List aj):Prop:=∀h∈hs,du Z h/\h.at'<Z.length
section
variable (Z:Zs)
def aM:Call->Nat
 | .line _ _ f _=>3*bC Z.length f
 | .lineL _ _ _ _ l g out=>l.length+3*(bC Z.length g+bC Z.length out)
 | .lineO _ _ _ ops l g=>l.length+3*(bC Z.length g+dq Z.length ops)
 | .unary _ f _=>3*bC Z.length f
 | .unaryH _ h _=>3*hp Z.length h
 | .calls _ _ _ xs names g=>names.length+3*(bC Z.length g+dq Z.length xs)
 | .inside _ f _=>3*bC Z.length f
 | .listed _ _ f=>3*bC Z.length f
 | .listL _ _ l g fin=>l.length+3*(bC Z.length g+bC Z.length fin)
 | .item _ _ f=>3*bC Z.length f
 | .behind _ _ f _ _=>3*bC Z.length f
 | .vrb _ f=>3*bC Z.length f
 | .function _ f=>3*bC Z.length f
 | .block _ f _=>3*bC Z.length f
 | .seqL _ _ f l out=>l.length+3*(bC Z.length f+bC Z.length out)
 | .stmt _ h=>3*hp Z.length h
 | .sCalls _ _ xs l g=>l.length+3*(bC Z.length g+dq Z.length xs)
 | .branch _ h _=>3*hp Z.length h
 | .elses _ xs l out=>l.length+3*(bC Z.length out+dq Z.length xs)
 | .ifs _ ys l out=>l.length+3*(bC Z.length out+dq Z.length ys)
def mu:Call->Nat
 | .line k _ f _=>64*bC Z.length f+(31-2*k)
 | .lineL k _ _ _ _ g _=>64*bC Z.length g+(30-2*k)
 | .lineO _ _ _ ops _ _=>64*dq Z.length ops
 | .unary _ f _=>64*bC Z.length f+19
 | .unaryH _ h _=>64*hp Z.length h+18
 | .calls _ _ _ xs _ _=>64*dq Z.length xs+10
 | .inside _ f _=>64*bC Z.length f+17
 | .listed _ _ f=>64*bC Z.length f+9
 | .listL _ _ _ g _=>64*bC Z.length g+40
 | .item _ _ f=>64*bC Z.length f+39
 | .behind _ _ f _ _=>64*bC Z.length f+38
 | .vrb _ f=>64*bC Z.length f+41
 | .function _ f=>64*bC Z.length f+41
 | .block _ f _=>64*bC Z.length f+9
 | .seqL _ _ f _ _=>64*bC Z.length f+50
 | .stmt _ h=>64*hp Z.length h+45
 | .sCalls _ _ xs _ _=>64*dq Z.length xs+10
 | .branch _ h _=>64*hp Z.length h+42
 | .elses _ xs _ _=>64*dq Z.length xs+43
 | .ifs _ ys _ _=>64*dq Z.length ys+43
def hZ:Call->Prop
 | .line k _ f _=>FN Z.length f/\k<=5
 | .lineL k _ _ _ _ g out=>FN Z.length g/\FN Z.length out/\k<=4
 | .lineO k _ _ ops _ g=>kz Z ops/\FN Z.length g/\k<=4
 | .unary _ f _=>FN Z.length f
 | .unaryH _ h _=>du Z h
 | .calls _ _ _ xs _ g=>kz Z xs/\FN Z.length g
 | .inside _ f _=>FN Z.length f
 | .listed _ _ f=>FN Z.length f
 | .listL _ _ _ g fin=>FN Z.length g/\FN Z.length fin
 | .item _ _ f=>FN Z.length f
 | .behind _ _ f sign _=>FN Z.length f/\sign≠[]
 | .vrb _ f=>FN Z.length f
 | .function _ f=>FN Z.length f
 | .block _ f _=>FN Z.length f
 | .seqL _ _ f _ out=>FN Z.length f/\FN Z.length out
 | .stmt _ h=>du Z h
 | .sCalls _ _ xs _ g=>kz Z xs/\FN Z.length g
 | .branch _ h _=>du Z h/\h.at'<Z.length
 | .elses _ xs l out=>kz Z xs/\FN Z.length out/\∀n∈l,n.kids.length+3*dq Z.length xs<=ar
 | .ifs _ ys l out=>kz Z ys/\FN Z.length out/\∀n∈l,n.kids.length+3*dq Z.length ys<=ar
def Bs(b:Nat)(r:aA):Prop:=FN Z.length r.f/\r.e.length+r.l.length+3*bC Z.length r.f<=b
def wT(f:ad)(r:aA):Prop:=Bs Z (3*bC Z.length f) r/\(f≠[]->r.e.length+r.l.length+3*bC Z.length r.f+1<=3*bC Z.length f)
def Bh(h:aj)(r:aA):Prop:=FN Z.length r.f/\r.e.length+r.l.length+3*bC Z.length r.f+1<=3*hp Z.length h
def hU:Call->aA->Prop
 | .lineO k o slot ops l g,r=>Bs Z (aM Z (.lineO k o slot ops l g)) r/\bC Z.length r.f+ops.length<=bC Z.length g+dq Z.length ops
 | .unary _ f _,r=>wT Z f r
 | .unaryH _ h _,r=>Bh Z h r
 | .inside _ f _,r=>wT Z f r
 | .listed _ _ f,r=>wT Z f r
 | .block _ f _,r=>wT Z f r
 | .stmt _ h,r=>Bh Z h r
 | .branch _ h _,r=>Bh Z h r
 | .elses o xs l out,r=>Bs Z (aM Z (.elses o xs l out)) r/\∀K,KB K l->KB (K+3*dq Z.length xs) r.l
 | .ifs o xs l out,r=>Bs Z (aM Z (.ifs o xs l out)) r/\∀K,KB K l->KB (K+3*dq Z.length xs) r.l
 |c,r=>Bs Z (aM Z c) r
def gQ(rec:fL)(m:Nat):Prop:=∀c,hZ Z c->aM Z c<=ar->mu Z c<m->∃r,rec c=some r/\hU Z c r
end
section
variable {Z:Zs} {rec:fL}
variable{xs:List aj}
def kz.tail{x:aj}(h:kz Z (x::xs)):kz Z xs:=fun y a=>h y (.tail _ a)
def kz.head{x:aj}(h:kz Z (x::xs)):du Z x/\x.at'<Z.length:=h x (.head _)
def kz.all(h:kz Z xs):∀y∈xs,du Z y:=fun y a=>(h y a).1
variable{h:aj}
def du.lt2(k:du Z h){s:au}(hs:s≠[])(e:h.text=s):h.at'<Z.length:=k.lt (.inl (by rw[e];exact hs))
def sP(a:bB Z){f:ad}(fn:FN Z.length f){s:au}(hs:s≠[]):kz Z (bP Z f (bq s)).1:=fun h b=>by obtain⟨h1,h2⟩:=oh a fn h b;exact⟨h1,xT hs h1 h2⟩
def BB(b:bB Z){f:ad}(fn:FN Z.length f)(hb:3*bC Z.length f<=ar){g:aj->Option aA}
  (s:∀h∈co Z f,∃x,g h=some x/\Bh Z h x):∃r,iP Z f g=some r/\wT Z f r:=by
 have key:∀(hs:List aj) (z:aA),(∀h∈hs,du Z h/\∃x,g h=some x/\Bh Z h x)->FN Z.length z.f->z.e.length+z.l.length+3*(bC Z.length z.f+dq Z.length hs)<=ar->
   ∃r,kG (fun r h=>match g h with
    |some x=>if (r.l++x.l).length<=ar then some ⟨r.l++x.l,joinAll r.f x.f,r.e++x.e⟩else none
    |none=>none) z hs=some r/\FN Z.length r.f/\r.e.length+r.l.length+3*bC Z.length r.f+hs.length<=z.e.length+z.l.length+3*(bC Z.length z.f+dq Z.length hs):=by
  intro hs
  induction hs with
  |nil=>intro z _ d _;exact⟨z,rfl,d,by simp[dq]⟩
  |cons h hs n=>
   intro z c d hb;obtain⟨h0,x,ex,k,o⟩:=c h (.head _);rw[eb]at hb;have u:=nZ (N:=Z.length) k.ok.all d.ok;have q:(z.l++x.l).length<=ar:=by rw[aH];omega
   obtain⟨r,j,hr,a⟩:=n ⟨z.l++x.l,joinAll z.f x.f,z.e++x.e⟩ (fun t ht=>c t (.tail _ ht)) (d.joinAll k) (by simp only[aH];omega);refine⟨r,?_,hr,?_⟩
   .simp only[kG,ex,ah q];exact j
   .simp only[aH]at a;rw[eb,bl];omega
 have h3:=o8 b fn (N:=Z.length);obtain⟨r,j,hr,a⟩:=key (co Z f) ⟨[],[],[]⟩ (fun h c=>⟨gx b fn c,s h c⟩) (FN.nil _) (by simp only[bg,gX];omega);simp only[bg,gX]at a;refine⟨r,j,⟨hr,O⟩,fun i=>?_⟩;have p:=BG fn i;cases m:co Z f with
 |nil=>rw[m]at a;simp only[bg,yA]at a;omega
 |cons h hs=>rw[m]at a h3;simp only[bl]at a;omega
def Bh.fail(k:du Z h)(code:Nat):Bh Z h ⟨[],[],dh h code⟩:=⟨FN.nil _,by have:=k.pos;simp only[xK,bg,gX];omega⟩
variable{o slot:Nat}
def Ye{m k:Nat}{f:ad}(R:gQ Z rec (mu Z (.line k o f slot)))(t:hZ Z (.line k o f slot))(b:aM Z (.line k o f slot)<=ar):∃r,line rec k o f slot=some r/\hU Z (.line k o f slot) r:=by
 obtain⟨fn,p⟩:=t;simp only[aM]at b;by_cases h5:k=5
 .obtain⟨a,i,d⟩:=R (.unary o f slot) fn b (by simp only[mu];omega);exact⟨a,by rw[line,ah h5,i],d.1⟩
 .obtain⟨a,i,d⟩:=R (.line (k+1) o f slot) ⟨fn,O⟩ b (by simp only[mu];omega);have h:=d.2;simp only[aM]at h;obtain⟨c,n,j⟩:=R (.lineL k o slot true a.l a.f []) ⟨d.1,FN.nil _,O⟩ (by simp only[aM,gX];omega) (by simp only[mu];omega);have g:=j.2;simp only[aM,gX]at g;refine⟨⟨c.l,c.f,a.e++c.e⟩,by rw[line,ab h5,i];simp only[cG,dD,n],j.1,?_⟩;simp only[aM,aH];omega
variable{g:ad}{l:List M}
def Yf(i:bB Z){k:Nat}{first:Bool}{out:ad}(R:gQ Z rec (mu Z (.lineL k o slot first l g out)))(t:hZ Z (.lineL k o slot first l g out))(b:aM Z (.lineL k o slot first l g out)<=ar):∃r,lineL Z rec k o slot first l g out=some r/\hU Z (.lineL k o slot first l g out) r:=by
 obtain⟨j,m,z⟩:=t;simp only[aM]at b;by_cases h0:g=[]
 .refine⟨⟨l,out,[]⟩,by rw[lineL,ah h0],m,?_⟩;simp only[aM,bg];omega
 .by_cases h2:k=2/\first=false
  .have B:=nZ (N:=Z.length) j.ok.all m.ok;refine⟨⟨l,joinAll out g,[]⟩,by rw[lineL,ab h0,ah h2],m.joinAll j,?_⟩;simp only[aM,bg];omega
  .have hs:=qO i j (gV k);have v:=BG j h0;have w:kz Z (bP Z g (gV k)).1:=fun h C=>by obtain⟨h1,h3⟩:=oh i j h C;refine⟨h1,h1.lt (.inr fun e=>?_)⟩;simp[gV,e]at h3
   have hr:=jx i j (gV k);have B:=nZ (N:=Z.length) hr.ok.all m.ok;have y:=Fm w.all;obtain⟨a,G,s,d⟩:=R (.lineO k o slot (bP Z g (gV k)).1 l []) ⟨w,FN.nil _,z⟩ (by simp only[aM,gX];omega) (by simp only[mu];omega);have p:=s.2;simp only[aM,gX]at p d;have A:bC Z.length a.f<bC Z.length g:=by
    cases u:(bP Z g (gV k)).1 with
    |nil=>rw[u,yA]at d;omega
    |cons x xs=>rw[u]at d hs;simp only[bl]at d;omega
   obtain⟨c,F,q⟩:=R (.lineL k o slot false a.l a.f (joinAll out (bP Z g (gV k)).2)) ⟨s.1,m.joinAll hr,z⟩ (by simp only[aM];omega) (by simp only[mu];omega);have n:=q.2;simp only[aM]at n;refine⟨⟨c.l,c.f,a.e++c.e⟩,by rw[lineL,ab h0,ab h2];simp only[cG,dD,G,F],q.1,?_⟩;simp only[aM,aH];omega
def Yg{k:Nat}{ops:List aj}(R:gQ Z rec (mu Z (.lineO k o slot ops l g)))(t:hZ Z (.lineO k o slot ops l g))(b:aM Z (.lineO k o slot ops l g)<=ar):∃r,lineO rec k o slot ops l g=some r/\hU Z (.lineO k o slot ops l g) r:=by
 obtain⟨q,n,u⟩:=t;simp only[aM]at b;cases ops with
 |nil=>exact⟨⟨l,g,[]⟩,rfl,⟨n,by simp only[aM,bg];omega⟩,by simp only[bg];omega⟩
 |cons h ops=>
  obtain⟨h0,m⟩:=q.head;have x:=h0.next;rw[eb]at b;obtain⟨a,w,j⟩:=R (.line (k+1) o (bY h) 1) ⟨eH h0 m,O⟩ (by simp only[aM,eU];omega) (by simp only[mu,eU,eb];omega);have i:=j.2;simp only[aM,eU]at i;have h1:=JL l h.cond;have h2:=KK l h.cond;have y:=nZ (N:=Z.length) j.1.ok.all n.ok;have c1:=u7 (l:=fO l h.cond++a.l) (by rw[aH];omega);have c2:=u7 (l:=fP l h.cond++[⟨13,h.text,h.at',slot,fO l h.cond++a.l,h.cond⟩]) (by rw[aH,gM];omega);obtain⟨c,v,p,s⟩:=R (.lineO k o slot ops (fP l h.cond++[⟨13,h.text,h.at',slot,fO l h.cond++a.l,h.cond⟩]) (joinAll g a.f)) ⟨q.tail,n.joinAll j.1,u⟩ (by simp only[aM,aH,gM];omega) (by simp only[mu,eb];omega);have d:=p.2;simp only[aM,aH,gM]at d;refine⟨⟨c.l,c.f,a.e++c.e⟩,by simp only[lineO,cG,dD,w,c1,c2,v],⟨p.1,?_⟩,?_⟩
  .simp only[aM,aH,eb];omega
  .simp only[eb,bl];omega
def Yn(a:bB Z){f:ad}(R:gQ Z rec (mu Z (.unary o f slot)))(t:hZ Z (.unary o f slot))(b:aM Z (.unary o f slot)<=ar):∃r,iP Z f (fun h=>rec (.unaryH o h slot))=some r/\hU Z (.unary o f slot) r:=by have fn:FN Z.length f:=t;simp only[aM]at b;have d:=o8 a fn (N:=Z.length);refine BB a fn b fun h hm=>?_;have c:=yz Z.length hm;exact R (.unaryH o h slot) (gx a fn hm) (by simp only[aM];omega) (by simp only[mu];omega)
def Yo(g:bB Z)(R:gQ Z rec (mu Z (.unaryH o h slot)))(t:hZ Z (.unaryH o h slot))(b:aM Z (.unaryH o h slot)<=ar):∃r,unaryH Z rec o h slot=some r/\hU Z (.unaryH o h slot) r:=by
 have h0:du Z h:=t;have A:=h0.next;simp only[aM]at b;unfold unaryH;split
 .rename_i e;have i:h.at'<Z.length:=e.elim (h0.lt2 af) (h0.lt2 af);split
  .exact⟨_,rfl,Bh.fail h0 11⟩
  .obtain⟨a,p,j⟩:=R (.unary (o+1) (bY h) 0) (eH h0 i) (by simp only[aM,eU];omega) (by simp only[mu,eU];omega);have m:=j.1.2;simp only[eU]at m;refine⟨⟨[⟨14,h.text,h.at',slot,a.l,h.cond⟩],a.f,a.e⟩,by simp only[cG,dD,p],j.1.1,?_⟩;simp only[gM];omega
 .split
  .obtain⟨a,p,j⟩:=R (.inside o (bL h) slot) (mT h0) (by simp only[aM,lC];omega) (by simp only[mu,lC];omega);have u:=j.2 (by simp[bL]);rw[lC]at u;exact⟨a,p,j.1.1,u⟩
  .have d:h.at'<Z.length->∀nd,∃r:aA,some (⟨[nd],bY h,[]⟩:aA)=some r/\hU Z (.unaryH o h slot) r:=fun i nd=>⟨_,rfl,eH h0 i,by simp only[gM,bg,eU];omega⟩;split
   .rename_i e;exact d (h0.lt (.inr O)) _
   .split
    .rename_i e;exact d (e.elim (h0.lt2 af) (h0.lt2 af)) _
    .split
     .rename_i e;exact d (h0.lt2 af e) _
     .have v:=mT h0;obtain⟨⟨_,w⟩,_⟩:=yB g v 18 slot;have q:=w (by simp[bL]);unfold Sp at q;rw[lC]at q;have n:=nT g v 18 slot;have x:=qO g n (bq cq);have y:=h0.pos;obtain⟨c,z,s⟩:=R (.calls o h slot (bP Z (named Z (bL h) 18 slot).f (bq cq)).1 (named Z (bL h) 18 slot).l (bP Z (named Z (bL h) 18 slot).f (bq cq)).2) ⟨sP g n af,jx g n _⟩ (by simp only[aM];omega) (by simp only[mu];omega);have k:=s.2;simp only[aM]at k;refine⟨⟨c.l,c.f,(named Z (bL h) 18 slot).e++c.e⟩,by simp only[cG,dD,z],s.1,?_⟩;simp only[aH];omega
def X8{names:List M}(R:gQ Z rec (mu Z (.calls o h slot xs names g)))(t:hZ Z (.calls o h slot xs names g))(b:aM Z (.calls o h slot xs names g)<=ar):∃r,calls rec o h slot xs names g=some r/\hU Z (.calls o h slot xs names g) r:=by
 obtain⟨m,j⟩:=t;simp only[aM]at b;cases xs with
 |nil=>exact⟨⟨names,g,[]⟩,rfl,j,by simp only[aM,bg];omega⟩
 |cons x xs=>obtain⟨h0,q⟩:=m.head;rw[eb]at b;obtain⟨a,u,i⟩:=R (.listed false o (bL x)) (mT h0) (by simp only[aM,lC];omega) (by simp only[mu,lC,eb];omega);have n:=i.2 (by simp[bL]);rw[lC]at n;have v:=nZ (N:=Z.length) i.1.1.ok.all j.ok;have p:=h0.pos;have c1:=u7 (l:=gz names x.cond++[⟨19,h.text,h.at',slot,a.l,x.cond⟩]) (by rw[aH,gM,vE];omega);obtain⟨c,s,k⟩:=R (.calls o h slot xs (gz names x.cond++[⟨19,h.text,h.at',slot,a.l,x.cond⟩]) (joinAll g a.f)) ⟨m.tail,j.joinAll i.1.1⟩ (by simp only[aM,aH,gM,vE];omega) (by simp only[mu,eb];omega);have d:=k.2;simp only[aM,aH,gM,vE]at d;refine⟨⟨c.l,c.f,a.e++c.e⟩,by simp only[calls,cG,dD,u,c1,s],k.1,?_⟩;simp only[aM,aH,eb];omega
def Yk(R:gQ Z rec (mu Z (.sCalls o h xs l g)))(t:hZ Z (.sCalls o h xs l g))(b:aM Z (.sCalls o h xs l g)<=ar):∃r,sCalls rec o h xs l g=some r/\hU Z (.sCalls o h xs l g) r:=by
 obtain⟨m,j⟩:=t;simp only[aM]at b;cases xs with
 |nil=>exact⟨⟨l,g,[]⟩,rfl,j,by simp only[aM,bg];omega⟩
 |cons x xs=>obtain⟨h0,q⟩:=m.head;rw[eb]at b;obtain⟨a,u,i⟩:=R (.listed false o (bL x)) (mT h0) (by simp only[aM,lC];omega) (by simp only[mu,lC,eb];omega);have n:=i.2 (by simp[bL]);rw[lC]at n;have v:=nZ (N:=Z.length) i.1.1.ok.all j.ok;have p:=h0.pos;have c1:=u7 (l:=l++[⟨19,h.text,h.at',0,a.l,x.cond⟩]) (by rw[aH,gM];omega);obtain⟨c,s,k⟩:=R (.sCalls o h xs (gz (l++[⟨19,h.text,h.at',0,a.l,x.cond⟩]) x.cond) (joinAll g a.f)) ⟨m.tail,j.joinAll i.1.1⟩ (by simp only[aM,aH,gM,vE];omega) (by simp only[mu,eb];omega);have d:=k.2;simp only[aM,aH,gM,vE]at d;refine⟨⟨c.l,c.f,a.e++c.e⟩,by simp only[sCalls,cG,dD,u,c1,s],k.1,?_⟩;simp only[aM,aH,eb];omega
def Yc(c:bB Z){f:ad}(R:gQ Z rec (mu Z (.inside o f slot)))(t:hZ Z (.inside o f slot))(b:aM Z (.inside o f slot)<=ar):∃r,iP Z f (sr Z rec o slot)=some r/\hU Z (.inside o f slot) r:=by
 have fn:FN Z.length f:=t;simp only[aM]at b;have n:=o8 c fn (N:=Z.length);refine BB c fn b fun h hm=>?_;have j:=yz Z.length hm;have h0:=gx c fn hm;have m:=h0.next;unfold sr;split
 .exact⟨_,rfl,Bh.fail h0 10⟩
 .rename_i e;split
  .exact⟨_,rfl,Bh.fail h0 11⟩
  .have i:=h0.lt2 (s:=cq) af (by simpa using e);obtain⟨a,k,g⟩:=R (.line 0 (o+1) (bY h) slot) ⟨eH h0 i,O⟩ (by simp only[aM,eU];omega) (by simp only[mu,eU];omega);have d:=g.2;simp only[aM,eU]at d;have ht:=o9 c g.1 dt;refine⟨⟨a.l,(take Z a.f dt).1,a.e++(take Z a.f dt).2⟩,by simp only[cG,dD,k],iX c g.1 af,?_⟩;simp only[aH];omega
variable{par:Bool}
def Yi(c:bB Z){f:ad}(R:gQ Z rec (mu Z (.listed par o f)))(t:hZ Z (.listed par o f))(b:aM Z (.listed par o f)<=ar):∃r,iP Z f (sx Z rec par o)=some r/\hU Z (.listed par o f) r:=by
 have fn:FN Z.length f:=t;simp only[aM]at b;have v:=o8 c fn (N:=Z.length);refine BB c fn b fun h hm=>?_;have n:=yz Z.length hm;have h0:=gx c fn hm;have u:=h0.next;unfold sx;split
 .exact⟨_,rfl,Bh.fail h0 10⟩
 .rename_i e;split
  .exact⟨_,rfl,Bh.fail h0 11⟩
  .have i:=h0.lt2 (s:=cq) af (by simpa using e);have j:=eH h0 i;have hs:=qO c j (bq dt);rw[eU]at hs;have k:=sP c j (s:=dt) af;have p:=BF (N:=Z.length) (fun x m=>(k.all x m).ok) aC.nil;rw[gX]at p;obtain⟨a,q,g⟩:=R (.listL par (o+1) [] (bP Z (bY h) (bq dt)).2 ((bP Z (bY h) (bq dt)).1.foldl joinH [])) ⟨jx c j _,vD k.all (FN.nil _)⟩ (by simp only[aM,bg];omega) (by simp only[mu];omega);have d:=g.2;simp only[aM,bg]at d;have ht:=o9 c g.1 dt;refine⟨⟨a.l,(take Z a.f dt).1,a.e++(take Z a.f dt).2⟩,by simp only[cG,dD,q],iX c g.1 af,?_⟩;simp only[aH];omega
def Yh(d:bB Z){fin:ad}(R:gQ Z rec (mu Z (.listL par o l g fin)))(t:hZ Z (.listL par o l g fin))(b:aM Z (.listL par o l g fin)<=ar):∃r,listL Z rec par o l g fin=some r/\hU Z (.listL par o l g fin) r:=by
 obtain⟨m,h⟩:=t;simp only[aM]at b;cases g with
 |nil=>exact⟨⟨l,fin,[]⟩,rfl,h,by simp only[aM,bg];omega⟩
 |cons s g=>
  have w:FN Z.length [s]:=⟨m.ok.head,fun x k=>by simp at k;subst k;exact m.le _ (.head _)⟩;have i:FN Z.length g:=⟨m.ok.tail,fun x k=>m.le x (.tail _ k)⟩;have z:=BG w ao;have e1:bC Z.length [s]=lp Z.length s.1 s.2:=by simp[bC]
  rw[lB]at b;obtain⟨a,F,j⟩:=R (.item par o [s]) w (by simp only[aM];omega) (by simp only[mu,lB,gX];omega);have p:=j.2;simp only[aM]at p;have hs:=qO d j.1 (bq eV);have u:=sP d j.1 (s:=eV) af;have v:=KS u.all i.ok;have hr:=jx d j.1 (bq eV);have B:=nZ (N:=Z.length) hr.ok.all h.ok;have c1:=u7 (l:=l++a.l) (by rw[aH];omega);have A:bC Z.length ((bP Z a.f (bq eV)).1.foldl joinH1 g)<lp Z.length s.1 s.2+bC Z.length g:=by
   cases y:(bP Z a.f (bq eV)).1 with
   |nil=>simp only[List.foldl_nil];omega
   |cons x xs=>rw[y]at v hs;simp only[bl]at v;omega
  obtain⟨c,C,q⟩:=R (.listL par o (l++a.l) ((bP Z a.f (bq eV)).1.foldl joinH1 g) (joinAll fin (bP Z a.f (bq eV)).2)) ⟨AM u i,h.joinAll hr⟩ (by simp only[aM,aH];omega) (by simp only[mu,lB];omega);have n:=q.2;simp only[aM,aH]at n;refine⟨⟨c.l,c.f,a.e++c.e⟩,by simp only[listL,cG,dD,F,c1,C],q.1,?_⟩;simp only[aM,aH,lB];omega
def KB.zero(h:∀n∈l,n.kids=[]):KB 0 l:=fun n a=>by rw[h n a];exact aR _
def Yd(c:bB Z){f:ad}(R:gQ Z rec (mu Z (.item par o f)))(t:hZ Z (.item par o f))(b:aM Z (.item par o f)<=ar):∃r,item Z rec par o f=some r/\hU Z (.item par o f) r:=by
 have fn:FN Z.length f:=t;simp only[aM]at b;cases par with
 |false=>obtain⟨a,n,j⟩:=R (.line 0 o f 0) ⟨fn,O⟩ b (by simp only[mu];omega);exact⟨a,by unfold item;simp only[dO,reduceIte,n],j⟩
 |true=>obtain⟨⟨i,_⟩,k⟩:=yB c fn 4 0;unfold Sp at i;have g:=nT c fn 4 0;have ht:=o9 c g dA;have d:=iX c g (s:=dA) af;obtain⟨h,_⟩:=Fo c d 0;unfold Sp at h;have m:=Ck c d 0;obtain⟨g1,g2,_⟩:=kJ (KB.zero k) (ks:=(im Z (take Z (named Z f 4 0).f dA).1 0).l) O;refine⟨⟨give (named Z f 4 0).l (im Z (take Z (named Z f 4 0).f dA).1 0).l,(im Z (take Z (named Z f 4 0).f dA).1 0).f,(named Z f 4 0).e++(take Z (named Z f 4 0).f dA).2++(im Z (take Z (named Z f 4 0).f dA).1 0).e⟩,by unfold item;simp only[reduceIte,cG,dD,g1],m,?_⟩;simp only[aM,aH,g2];omega
def X5(c:bB Z){typ:Bool}{f:ad}{sign:au}(R:gQ Z rec (mu Z (.behind typ o f sign slot)))(t:hZ Z (.behind typ o f sign slot))(b:aM Z (.behind typ o f sign slot)<=ar):∃r,behind Z rec typ o f sign slot=some r/\hU Z (.behind typ o f sign slot) r:=by
 obtain⟨fn,g⟩:=t;simp only[aM]at b;have hs:=qO c fn (bq sign);have i:=sP c fn g;have hr:=jx c fn (bq sign);have m:=KS i.all aC.nil;rw[gX]at m;have h:=AM i (FN.nil _);have key:∃a,zZ Z rec typ o ((bP Z f (bq sign)).1.foldl joinH1 []) slot=some a/\Bs Z (3*bC Z.length ((bP Z f (bq sign)).1.foldl joinH1 [])) a:=by
  cases typ with
  |true=>exact⟨_,rfl,Ck c h slot,(Fo c h slot).1⟩
  |false=>exact R (.line 0 o ((bP Z f (bq sign)).1.foldl joinH1 []) slot) ⟨h,O⟩ (by simp only[aM];omega) (by simp only[mu];omega)
 obtain⟨a,n,d,j⟩:=key;have k:=nZ (N:=Z.length) d.ok.all hr.ok;refine⟨⟨a.l,joinAll (bP Z f (bq sign)).2 a.f,a.e⟩,by unfold behind;simp only[cG,dD,n],hr.joinAll d,?_⟩;simp only[aM];omega
def Yp(a:bB Z){f:ad}(R:gQ Z rec (mu Z (.vrb o f)))(t:hZ Z (.vrb o f))(b:aM Z (.vrb o f)<=ar):∃r,uu Z rec o f=some r/\hU Z (.vrb o f) r:=by have fn:FN Z.length f:=t;simp only[aM]at b;obtain⟨⟨k,_⟩,m⟩:=yB a fn 2 0;unfold Sp at k;have i:=nT a fn 2 0;have ht:=o9 a i dA;have h:=iX a i (s:=dA) af;obtain⟨j,_⟩:=Fo a h 0;unfold Sp at j;have v:=Ck a h 0;obtain⟨c,w,g⟩:=R (.behind false o (im Z (take Z (named Z f 2 0).f dA).1 0).f iC 1) ⟨v,by decide⟩ (by simp only[aM];omega) (by simp only[mu];omega);have d:=g.2;simp only[aM]at d;obtain⟨g1,g2,u⟩:=kJ (KB.zero m) (ks:=(im Z (take Z (named Z f 2 0).f dA).1 0).l) O;obtain⟨q,p,_⟩:=kJ u (ks:=c.l) O;have n:=o9 a g.1 bT;refine⟨⟨give (give (named Z f 2 0).l (im Z (take Z (named Z f 2 0).f dA).1 0).l) c.l,(take Z c.f bT).1,(named Z f 2 0).e++(take Z (named Z f 2 0).f dA).2++(im Z (take Z (named Z f 2 0).f dA).1 0).e++c.e++(take Z c.f bT).2⟩,by unfold uu;simp only[cG,dD,w,g1,q],iX a g.1 af,?_⟩;simp only[aM,aH,g2,p];omega
def Ya(a:bB Z){f:ad}(R:gQ Z rec (mu Z (.function o f)))(t:hZ Z (.function o f))(b:aM Z (.function o f)<=ar):∃r,function Z rec o f=some r/\hU Z (.function o f) r:=by have fn:FN Z.length f:=t;simp only[aM]at b;obtain⟨⟨k,_⟩,p⟩:=yB a fn 3 0;unfold Sp at k;have z:=nT a fn 3 0;obtain⟨c,B,j⟩:=R (.listed true o (named Z f 3 0).f) z (by simp only[aM];omega) (by simp only[mu];omega);have n:=j.1.2;obtain⟨d,A,i⟩:=R (.behind true o c.f dA 1) ⟨j.1.1,by decide⟩ (by simp only[aM];omega) (by simp only[mu];omega);have g:=i.2;simp only[aM]at g;obtain⟨x,ex,h⟩:=R (.block o d.f 2) i.1 (by simp only[aM];omega) (by simp only[mu];omega);have m:=h.1.2;obtain⟨g1,g2,y⟩:=kJ (KB.zero p) (ks:=c.l) O;obtain⟨w,v,u⟩:=kJ y (ks:=d.l) O;obtain⟨s,q,_⟩:=kJ u (ks:=x.l) O;refine⟨⟨give (give (give (named Z f 3 0).l c.l) d.l) x.l,x.f,(named Z f 3 0).e++c.e++d.e++x.e⟩,by unfold function;simp only[cG,dD,B,A,ex,g1,w,s],h.1.1,?_⟩;simp only[aM,aH,g2,v,q];omega
def X6(c:bB Z){f:ad}(R:gQ Z rec (mu Z (.block o f slot)))(t:hZ Z (.block o f slot))(b:aM Z (.block o f slot)<=ar):∃r,iP Z f (rW Z rec o slot)=some r/\hU Z (.block o f slot) r:=by
 have fn:FN Z.length f:=t;simp only[aM]at b;have n:=o8 c fn (N:=Z.length);refine BB c fn b fun h hm=>?_;have j:=yz Z.length hm;have h0:=gx c fn hm;have m:=h0.next;unfold rW;split
 .exact⟨_,rfl,Bh.fail h0 10⟩
 .rename_i e;split
  .exact⟨_,rfl,Bh.fail h0 11⟩
  .have i:=h0.lt2 (s:=qY) af (by simpa using e);obtain⟨a,k,g⟩:=R (.seqL false (o+1) (bY h) [] []) ⟨eH h0 i,FN.nil _⟩ (by simp only[aM,bg,eU,gX];omega) (by simp only[mu,eU];omega);have d:=g.2;simp only[aM,bg,eU,gX]at d;have ht:=o9 c g.1 iW;refine⟨⟨[⟨6,[],h.at',slot,a.l,h.cond⟩],(take Z a.f iW).1,a.e++(take Z a.f iW).2⟩,by simp only[cG,dD,k],iX c g.1 af,?_⟩;simp only[aH,gM];omega
end
open Dg
section
variable {Z:Zs} {rec:fL}
variable{out:ad}{l:List M}{o:Nat}
def X9(h:bB Z){xs:List aj}(R:gQ Z rec (mu Z (.elses o xs l out)))(t:hZ Z (.elses o xs l out))(b:aM Z (.elses o xs l out)<=ar):∃r,elses Z rec o xs l out=some r/\hU Z (.elses o xs l out) r:=by
 obtain⟨B,v,u⟩:=t;simp only[aM]at b;cases xs with
 |nil=>exact⟨⟨l,out,[]⟩,rfl,⟨v,by simp only[aM,bg];omega⟩,fun K j=>by simpa[yA]using j⟩
 |cons x xs=>
  obtain⟨h0,s⟩:=B.head;have g:=h0.next;rw[eb]at b u;have w:=eH h0 s;have hs:=qO h w (bq eN);rw[eU]at hs;have hr:=jx h w (bq eN);obtain⟨a,I,q⟩:=R (.block o (bP Z (bY x) (bq eN)).2 2) hr (by simp only[aM];omega) (by simp only[mu,eb];omega);have C:=q.1.2;have J:=nZ (N:=Z.length) q.1.1.ok.all v.ok;obtain⟨g1,g2,_⟩:=kJ (l:=l) (ks:=a.l) (K:=ar-(3*(hp Z.length x+dq Z.length xs))) (fun n g=>by have:=u n g;omega) O;have F:∀K,KB K l->KB (K+a.l.length) (give l a.l):=fun K j n g=>by obtain⟨m,hm,rfl⟩:=List.mem_map.1 g;have:=j m hm;simp only[aH];omega
  have i:∀n∈give l a.l,n.kids.length+3*dq Z.length (bP Z (bY x) (bq eN)).1+3*dq Z.length xs<=ar:=fun n g=>by obtain⟨m,hm,rfl⟩:=List.mem_map.1 g;have:=u m hm;simp only[aH];omega
  obtain⟨c,H,z,A⟩:=R (.ifs o (bP Z (bY x) (bq eN)).1 (give l a.l) (joinAll out a.f)) ⟨sP h w af,v.joinAll q.1.1,fun n g=>by have:=i n g;omega⟩ (by simp only[aM,g2];omega) (by simp only[mu,eb];omega);have p:=z.2;simp only[aM,g2]at p;obtain⟨d,G,y,kd⟩:=R (.elses o xs c.l c.f) ⟨B.tail,z.1,fun n g=>by have:=A (ar-3*dq Z.length (bP Z (bY x) (bq eN)).1-3*dq Z.length xs) (fun n g=>by have:=i n g;omega) n g;have L:=i;have:3*dq Z.length (bP Z (bY x) (bq eN)).1+3*dq Z.length xs<=ar:=O;omega⟩ (by simp only[aM];omega) (by simp only[mu,eb];omega)
  have k:=y.2;simp only[aM]at k;refine⟨⟨d.l,d.f,a.e++c.e++d.e⟩,by simp only[elses,cG,dD,I,g1,H,G],⟨y.1,?_⟩,fun K j n g=>?_⟩
  .simp only[aM,aH,eb];omega
  .have:=kd _ (A _ (F K j)) n g;rw[eb];omega
def Yb{ys:List aj}(R:gQ Z rec (mu Z (.ifs o ys l out)))(t:hZ Z (.ifs o ys l out))(b:aM Z (.ifs o ys l out)<=ar):∃r,ifs rec o ys l out=some r/\hU Z (.ifs o ys l out) r:=by
 obtain⟨p,k,j⟩:=t;simp only[aM]at b;cases ys with
 |nil=>exact⟨⟨l,out,[]⟩,rfl,⟨k,by simp only[aM,bg];omega⟩,fun K h=>by simpa[yA]using h⟩
 |cons y ys=>
  obtain⟨h0,q⟩:=p.head;have v:=h0.pos;rw[eb]at b j;by_cases e:o=64
  .obtain⟨d,s,i,kd⟩:=R (.ifs o ys l out) ⟨p.tail,k,fun n c=>by have:=j n c;omega⟩ (by simp only[aM];omega) (by simp only[mu,eb];omega);have g:=i.2;simp only[aM]at g;refine⟨⟨d.l,d.f,dh y 11++d.e⟩,by simp only[ifs,ah e,cG,dD,s],⟨i.1,?_⟩,fun K h n c=>?_⟩
   .simp only[aM,aH,eb,xK];omega
   .have:=kd K h n c;rw[eb];omega
  .obtain⟨a,z,u,w⟩:=R (.branch (o+1) y 2) ⟨h0,q⟩ (by simp only[aM];omega) (by simp only[mu,eb];omega);have A:=nZ (N:=Z.length) u.ok.all k.ok;obtain⟨g1,g2,_⟩:=kJ (l:=l) (ks:=a.l) (K:=ar-(3*(hp Z.length y+dq Z.length ys))) (fun n c=>by have:=j n c;omega) O;have x:∀K,KB K l->KB (K+a.l.length) (give l a.l):=fun K h n c=>by obtain⟨m,hm,rfl⟩:=List.mem_map.1 c;have:=h m hm;simp only[aH];omega
   obtain⟨d,s,i,kd⟩:=R (.ifs o ys (give l a.l) (joinAll out a.f)) ⟨p.tail,k.joinAll u,fun n c=>by obtain⟨m,hm,rfl⟩:=List.mem_map.1 c;have:=j m hm;simp only[aH];omega⟩ (by simp only[aM,g2];omega) (by simp only[mu,eb];omega)
   have g:=i.2;simp only[aM,g2]at g;refine⟨⟨d.l,d.f,a.e++d.e⟩,by simp only[ifs,ab e,cG,dD,z,g1,s],⟨i.1,?_⟩,fun K h n c=>?_⟩
   .simp only[aM,aH,eb];omega
   .have:=kd _ (x K h) n c;rw[eb];omega
variable{h:aj}
def X7(g:bB Z){slot:Nat}(R:gQ Z rec (mu Z (.branch o h slot)))(t:hZ Z (.branch o h slot))(b:aM Z (.branch o h slot)<=ar):∃r,branch Z rec o h slot=some r/\hU Z (.branch o h slot) r:=by
 obtain⟨h0,p⟩:=t;have i:=h0.next;simp only[aM]at b;obtain⟨a,C,s⟩:=R (.inside o (bY h) 0) (eH h0 p) (by simp only[aM,eU];omega) (by simp only[mu,eU];omega);have m:=s.1.2;rw[eU]at m;obtain⟨c,B,j⟩:=R (.block o a.f 1) s.1.1 (by simp only[aM];omega) (by simp only[mu];omega);have v:=j.1.2;obtain⟨g1,g2,z⟩:=kJ (l:=[gC 8 h slot]) (K:=0) (ks:=a.l) (fun n i=>by simp at i;subst i;exact aR _) O;obtain⟨y,x,w⟩:=kJ z (ks:=c.l) O;have hs:=qO g j.1.1 (bq iV);have u:(give (give [gC 8 h slot] a.l) c.l).length=1:=by rw[x,g2];rfl
 obtain⟨d,A,q,_⟩:=R (.elses o (bP Z c.f (bq iV)).1 (give (give [gC 8 h slot] a.l) c.l) (bP Z c.f (bq iV)).2) ⟨sP g j.1.1 af,jx g j.1.1 _,fun n i=>by have:=w n i;omega⟩ (by simp only[aM,u];omega) (by simp only[mu];omega);have k:=q.2;simp only[aM,u]at k;refine⟨⟨d.l,d.f,a.e++c.e++d.e⟩,by simp only[branch,cG,dD,C,B,g1,y,A],q.1,?_⟩;simp only[aH];omega
def EO(k slot:Nat)(h:aj):KB 0 [gC k h slot]:=fun n a=>by simp at a;subst a;exact aR _
def Ym(d:bB Z)(R:gQ Z rec (mu Z (.stmt o h)))(t:hZ Z (.stmt o h))(b:aM Z (.stmt o h)<=ar):∃r,stmt Z rec o h=some r/\hU Z (.stmt o h) r:=by
 have h0:du Z h:=t;have Q:=h0.next;simp only[aM]at b;unfold stmt;split
 .rename_i e;have j:=eH h0 (h0.lt2 af e);obtain⟨a,k,i⟩:=R (.vrb o (bY h)) j (by simp only[aM,eU];omega) (by simp only[mu,eU];omega);have g:=i.2;simp only[aM,eU]at g;exact⟨a,k,i.1,O⟩
 split
 .rename_i e;exact R (.branch o h 0) ⟨h0,h0.lt2 af e⟩ b (by simp only[mu];omega)
 split
 .rename_i e;have j:=eH h0 (h0.lt2 af e);obtain⟨a,k,i⟩:=R (.inside o (bY h) 0) j (by simp only[aM,eU];omega) (by simp only[mu,eU];omega);have g:=i.1.2;rw[eU]at g;obtain⟨c,u,m⟩:=R (.block o a.f 1) i.1.1 (by simp only[aM];omega) (by simp only[mu];omega);have n:=m.1.2;obtain⟨g1,g2,q⟩:=kJ (EO 9 0 h) (ks:=a.l) O;obtain⟨L,K,T⟩:=kJ q (ks:=c.l) O;have p:(give (give [gC 9 h 0] a.l) c.l).length=1:=by rw[K,g2];rfl
  refine⟨⟨give (give [gC 9 h 0] a.l) c.l,c.f,a.e++c.e⟩,by simp only[cG,dD,k,u,g1,L],m.1.1,?_⟩;simp only[aH,p];omega
 split
 .obtain⟨a,k,i⟩:=R (.block o (bL h) 0) (mT h0) (by simp only[aM,lC];omega) (by simp only[mu,lC];omega);have w:=i.2 (by simp[bL]);rw[lC]at w;exact⟨a,k,i.1.1,w⟩
 split
 .rename_i e;have j:=eH h0 (h0.lt2 af e);have hs:=qO d j (bq bT);rw[eU]at hs;have hr:=jx d j (bq bT);have y:kz Z (bP Z (bY h) (bq bT)).1:=sP d j af;obtain⟨a,k,i⟩:=R (.line 0 o (bP Z (bY h) (bq bT)).2 0) ⟨hr,O⟩ (by simp only[aM];omega) (by simp only[mu];omega);have g:=i.2;simp only[aM]at g;obtain⟨g1,g2,q⟩:=kJ (EO 10 0 h) (ks:=a.l) O;have p:(give [gC 10 h 0] a.l).length=1:=by rw[g2];rfl
  have S:=BF (N:=Z.length) (fun x G=>(y.all x G).ok) i.1.ok;have A:=vD y.all i.1;have ht:=o9 d A bT;refine⟨⟨give [gC 10 h 0] a.l,(take Z ((bP Z (bY h) (bq bT)).1.foldl joinH a.f) bT).1,a.e++(take Z ((bP Z (bY h) (bq bT)).1.foldl joinH a.f) bT).2⟩,by simp only[cG,dD,k,g1],iX d A af,?_⟩;simp only[aH,p];omega
 split
 .rename_i e;have j:=eH h0 (e.elim (h0.lt2 af) (h0.lt2 af));obtain⟨a,k,i⟩:=R (.line 0 o (bY h) 0) ⟨j,O⟩ (by simp only[aM,eU];omega) (by simp only[mu,eU];omega);have g:=i.2;simp only[aM,eU]at g;obtain⟨g1,g2,q⟩:=kJ (EO (if h.text=jP then 12 else 11) 0 h) (ks:=a.l) O;have p:(give [gC (if h.text=jP then 12 else 11) h 0] a.l).length=1:=by rw[g2];rfl
  have ht:=o9 d i.1 bT;refine⟨⟨give [gC (if h.text=jP then 12 else 11) h 0] a.l,(take Z a.f bT).1,a.e++(take Z a.f bT).2⟩,by simp only[cG,dD,k,g1],iX d i.1 af,?_⟩;simp only[aH,p];omega
 have B:=mT h0;obtain⟨⟨_,C⟩,F⟩:=yB d B 7 0;have v:=C (by simp[bL]);unfold Sp at v;rw[lC]at v;have J:=h0.pos;have j:=nT d B 7 0;by_cases e:(named Z (bL h) 7 0).l=[]
 .refine⟨⟨[],[],(named Z (bL h) 7 0).e⟩,by simp only[ah e],FN.nil _,?_⟩;simp only[bg,gX];omega
 .have I:=qO d j (bq cq);have z:=jx d j (bq cq);have ht:=o9 d z iC;have P:=iX d z (s:=iC) af;obtain⟨a,k,i⟩:=R (.line 0 o (take Z (bP Z (named Z (bL h) 7 0).f (bq cq)).2 iC).1 0) ⟨P,O⟩ (by simp only[aM];omega) (by simp only[mu];omega);have g:=i.2;simp only[aM]at g;obtain⟨g1,g2,q⟩:=kJ (KB.zero F) (ks:=a.l) O;obtain⟨c,u,m⟩:=R (.sCalls o h (bP Z (named Z (bL h) 7 0).f (bq cq)).1 (give (named Z (bL h) 7 0).l a.l) a.f) ⟨sP d j af,i.1⟩ (by simp only[aM,g2];omega) (by simp only[mu];omega);have n:=m.2;simp only[aM,g2]at n;have H:=o9 d m.1 bT;refine⟨⟨c.l,(take Z c.f bT).1,(named Z (bL h) 7 0).e++(take Z (bP Z (named Z (bL h) 7 0).f (bq cq)).2 iC).2++a.e++c.e++(take Z c.f bT).2⟩,by simp only[ab e,cG,dD,k,g1,u],iX d m.1 af,?_⟩;simp only[aH];omega
variable{top:Bool}
def Yj(i:bB Z){m:Nat}(hm:64*hp Z.length h+45<m)(R:gQ Z rec m)(h0:du Z h)(b:3*hp Z.length h<=ar):∃r,wi rec top o h=some r/\Bh Z h r:=by
 have j:=h0.next;cases top with
 |false=>exact R (.stmt o h) h0 b (by simp only[mu];omega)
 |true=>
  show ∃r,wy rec o h=some r/\_;unfold wy;split
  .rename_i e;have f:=eH h0 (h0.lt2 af e);obtain⟨a,g,d⟩:=R (.vrb o (bY h)) f (by simp only[aM,eU];omega) (by simp only[mu,eU];omega);have c:=d.2;simp only[aM,eU]at c;exact⟨a,g,d.1,O⟩
  split
  .rename_i e;have f:=eH h0 (h0.lt2 af e);obtain⟨a,g,d⟩:=R (.function o (bY h)) f (by simp only[aM,eU];omega) (by simp only[mu,eU];omega);have c:=d.2;simp only[aM,eU]at c;exact⟨a,g,d.1,O⟩
  .exact⟨_,rfl,Bh.fail h0 10⟩
def Yl(d:bB Z){f:ad}(R:gQ Z rec (mu Z (.seqL top o f l out)))(t:hZ Z (.seqL top o f l out))(b:aM Z (.seqL top o f l out)<=ar):∃r,seqL Z rec top o f l out=some r/\hU Z (.seqL top o f l out) r:=by
 obtain⟨fn,n⟩:=t;simp only[aM]at b;have B:=o8 d fn (N:=Z.length);have hm:=fun h (hm:h∈co Z f)=>gx d fn hm;unfold seqL;split
 .refine⟨⟨l,out,[]⟩,rfl,n,?_⟩;simp only[aM,bg];omega
 .rename_i h hs H;rw[H]at B hm;rw[eb]at B;have h0:=hm h (.head _);have y:=h0.pos;have g:=fun x (q:x∈hs)=>hm x (.tail _ q);have k:=fun{z:ad}=>BF (N:=Z.length) (f:=z) (fun x q=>(g x q).ok);split
  .have A:=k aC.nil;rw[gX]at A;have s:=qN (N:=Z.length) n.ok.all (a:=h.at') h0.ok;have F:bC Z.length (joinH out h)<=bC Z.length out+hp Z.length h:=s;obtain⟨a,v,j⟩:=R (.seqL top o (hs.foldl joinH []) l (joinH out h)) ⟨vD g (FN.nil _),n.join h0.le h0.ok⟩ (by simp only[aM];omega) (by simp only[mu];omega);have i:=j.2;simp only[aM]at i;refine⟨a,v,j.1,?_⟩;simp only[aM];omega
  .obtain⟨a,v,j,i⟩:=Yj (top:=top) (o:=o) d (m:=mu Z (.seqL top o f l out)) (by simp only[mu];omega) R h0 O;have c1:=u7 (l:=l++a.l) (by rw[aH];omega);have u:=nZ (N:=Z.length) j.ok.all aC.nil;rw[gX]at u;have C:=(FN.nil Z.length).joinAll j;have A:=k C.ok;obtain⟨c,G,w⟩:=R (.seqL top o (hs.foldl joinH (joinAll [] a.f)) (l++a.l) out) ⟨vD g C,n⟩ (by simp only[aM,aH];omega) (by simp only[mu];omega);have p:=w.2;simp only[aM,aH]at p;refine⟨⟨c.l,c.f,a.e++c.e⟩,by simp only[cG,dD,v,c1,G],w.1,?_⟩;simp only[aM,aH];omega
def Lj(a:bB Z):∀n,gQ Z (run Z n) n
 |0=>fun c _ _ h=>absurd h (Nat.not_lt_zero _)
 |n+1=>fun c t b h=>by
  have R:gQ Z (run Z n) (mu Z c):=fun d e f hd=>Lj a n d e f O;show ∃r,step Z (run Z n) c=some r/\_;cases c with
  |line=>exact Ye (m:=0) R t b
  |lineL=>exact Yf a R t b
  |lineO=>exact Yg R t b
  |unary=>exact Yn a R t b
  |unaryH=>exact Yo a R t b
  |calls=>exact X8 R t b
  |inside=>exact Yc a R t b
  |listed=>exact Yi a R t b
  |listL=>exact Yh a R t b
  |item=>exact Yd a R t b
  |behind=>exact X5 a R t b
  |vrb=>exact Yp a R t b
  |function=>exact Ya a R t b
  |block=>exact X6 a R t b
  |seqL=>exact Yl a R t b
  |stmt=>exact Ym a R t b
  |sCalls=>exact Yk R t b
  |branch=>exact X7 a R t b
  |elses=>exact X9 a R t b
  |ifs=>exact Yb R t b
end
open Dg
section
variable {c:aF} {Z:Zs}
def Good(c:aF)(Z:Zs)(rec:fL):Prop:=∀x r,rec x=some r->∀y,iw c Z x y->∃q,PV c Z y q/\RR c r q
theorem o3(c:aF)(Z:Zs)(p:Option Nat)(is:Nat->Bool):bv c Z p is=(p.map (nx c Z)).filter is:=rfl
def qi (o : Option Nat) (is : Nat → Bool) : (o.filter is = none) ∨ (o.filter fun i => !is i) = none := by
  cases o with
  | none => exact .inl rfl
  | some i => cases h : is i
              · exact .inl (by simp [Option.filter, h])
              · exact .inr (by simp [Option.filter, h])
def RV(g:bB Z){rec:fL}(G:Good c Z rec){k o slot:Nat}{f:ad}{p:Option Nat}{r:aA}(e:line rec k o f slot=some r)(hf:aC f)(hp:At c f p):∃q,PV c Z (.line k o p slot) q/\RR c r q:=by
 unfold line at e;split at e
 .rename_i d;obtain⟨q,h1,h2⟩:=G _ _ e _ (.unary hf hp);exact⟨q,h1.step1 fun r hr=>by simp only[aB,mZ,ah d];exact hr,h2⟩
 .rename_i d;simp only[cG,eP,bf]at e;obtain⟨a,ha,b,hb,rfl⟩:=e;obtain⟨q,h1,h2⟩:=G _ _ ha _ (.line hf hp);obtain⟨u,h3,h4⟩:=G _ _ hb _ (.lineL h2.lok h2.l h2.fok h2.f aC.nil (At.nil c) (.inr rfl));exact⟨_,h1.step2 h3 fun r hr hs=>by simp only[aB,mZ,ab d,hr,cG,dD,hs],h2.app h4⟩
theorem SW(k i:Nat)(d:T):gV k ⟨i,d,K Z i,X Z i⟩=kM Z k i:=rfl
theorem qq(s:au)(i:Nat)(d:T):bq s ⟨i,d,K Z i,X Z i⟩=be Z s i:=rfl
def RW (an : bB Z) {rec : fL} (G : Good c Z rec) {k o slot : Nat} {first : Bool} {l l' : List M} {g out : ad} {g' out' : Option Nat} {r : aA} (e : lineL Z rec k o slot first l g out = some r) (hl : cF l) (pl : pL c l = l') (hg : aC g) (pg : At c g g') (ho : aC out) (po : At c out out') (am : g' = none ∨ out' = none) :
    ∃ q, PV c Z (.lineL k o slot first l' g' out') q ∧ RR c r q := by
  unfold lineL at e
  split at e
  · rename_i hz
    subst hz
    cases e
    have : g' = none := by cases g' with
      | none => rfl
      | some i => simp [At, dp] at pg
    subst this
    exact ⟨⟨l', out', []⟩, PV.step0 fun r => rfl, ho, hl, jl, pl, po, rfl⟩
  · split at e
    · rename_i hk
      cases e
      refine ⟨⟨l', out'.or g', []⟩, PV.step0 fun r => ?_, l4 (fun s hs => (hg.1 s hs).1) ho, hl, jl, pl, At.joinAll ho hg po pg (am.symm), rfl⟩
      simp only [aB, o5]
      cases g' with
      | none => simp
      | some i => have : out' = none := by rcases am with h | h; cases h; exact h
                  simp [hk, this]
    · rename_i hk
      obtain ⟨s1, s2, s3, s4⟩ := pi an hg pg (kM Z k) (SW k)
      generalize ap : bP Z g (gV k) = sp at e s1 s2 s3 s4
      obtain ⟨ops, rest⟩ := sp
      simp only [cG, eP, bf] at e
      obtain ⟨a, ha, b, hb, rfl⟩ := e
      obtain ⟨q, h1, h2⟩ := G _ _ ha _ (.lineO s1 s3 hl pl aC.nil (At.nil c) (.inr rfl))
      have jo : aC (joinAll out rest) := l4 (fun s hs => (s2.1 s hs).1) ho
      cases g' with
      | none =>
        have hq : q = ⟨l', none, []⟩ := h1.det (PV.step0 fun r => rfl)
        subst hq
        have ja : At c (joinAll out rest) out' := by have := At.joinAll ho s2 po s4 (.inr rfl); simpa using this
        obtain ⟨u, h3, h4⟩ := G _ _ hb _ (.lineL h2.lok h2.l h2.fok h2.f jo ja (.inl rfl))
        have hu : u = ⟨l', out', []⟩ := h3.det (PV.step0 fun r => rfl)
        subst hu
        exact ⟨⟨l', out', []⟩, PV.step0 fun r => rfl, h2.app h4⟩
      | some p =>
        have ac : out' = none := by rcases am with h | h; cases h; exact h
        subst ac
        have ja : At c (joinAll out rest) (bv c Z (some p) fun i => !kM Z k i) := by have := At.joinAll ho s2 po s4 (.inl rfl); simpa [bv] using this
        have aa : q.p = none ∨ (bv c Z (some p) fun i => !kM Z k i) = none := by
          rcases qi ((some p).map (nx c Z)) (kM Z k) with h | h
          · left
            rw [h] at h1
            have hq : q = ⟨l', none, []⟩ := h1.det (PV.step0 fun r => rfl)
            rw [hq]
          · exact .inr h
        obtain ⟨u, h3, h4⟩ := G _ _ hb _ (.lineL h2.lok h2.l h2.fok h2.f jo ja aa)
        refine ⟨_, h1.step2 h3 fun r hr hs => ?_, h2.app h4⟩
        simp only [aB, o5]
        rw [ab hk]
        simp only [o3, hr, cG, dD]
        simp only [o3] at hs
        rw [hs]; rfl
def RX(J:bB Z){rec:fL}(G:Good c Z rec){k o slot:Nat}{ops:List aj}{op:Option Nat}{l l':List M}{g:ad}{g':Option Nat}{r:aA}(e:lineO rec k o slot ops l g=some r)(aa:go Z ops)(fB:dQ c ops op)(n:cF l)(x:pL c l=l')(w:aC g)(z:At c g g')(v:op=none\/g'=none):
  ∃q,PV c Z (.lineO k o slot op l' g') q/\RR c r q:=by
 unfold lineO at e;cases ops with
 |nil=>
  simp only[bf]at e;subst e;have:op=none:=by cases op with
   |none=>rfl
   |some i=>simp[dQ,kQ]at fB
  subst this;exact⟨⟨l',g',[]⟩,PV.step0 fun r=>rfl,w,n,jl,x,z,rfl⟩
 |cons h ops=>
  simp only[cG,eP,bf]at e;obtain⟨a,ha,_,_,_,_,b,hb,rfl⟩:=e;obtain⟨hd,B⟩:=aa.hd;obtain⟨q,h1,h2⟩:=G _ _ ha _ (.line (nH hd.1 B) (nF c h));have C:=Uq hd.1 n;have A:=Vy hd.1 n;have m:cF (fP l h.cond++[⟨13,h.text,h.at',slot,fO l h.cond++a.l,h.cond⟩]):=mf.2 ⟨A,lx hd.1 (mf.2 ⟨C,h2.lok⟩)⟩;have H:aC (joinAll g a.f):=l4 (fun s hs=>(h2.fok.1 s hs).1) w;rcases fB.cons with ⟨t,rfl,d⟩|⟨t,d⟩
  .have hi:hI c h=some h.at':=by simp[hI,t]
   rw[hi]at h1;have F:g'=none:=by rcases v with h|h;cases h;exact h
   subst F;have j:pL c (fP l h.cond++[⟨13,h.text,h.at',slot,fO l h.cond++a.l,h.cond⟩])=[⟨13,X Z h.at',h.at',slot,slot0 l'++q.l,tt⟩]:=by rw[gW,KJ c hd.1 n,ah t,iA];simp only[t,cu,gW,Up c hd.1 n,x,h2.l,hd.text,aQ]
   have y:At c (joinAll g a.f) q.p:=by have:=At.joinAll w h2.fok z h2.f (.inl rfl);simpa using this
   obtain⟨u,h3,h4⟩:=G _ _ hb _ (.lineO aa.tail d m j H y (.inl rfl));have I:u=⟨[⟨13,X Z h.at',h.at',slot,slot0 l'++q.l,tt⟩],q.p,[]⟩:=h3.det (PV.step0 fun r=>rfl);subst I;refine⟨_,h1.step1 fun r hr=>?_,h2.app h4⟩;simp only[aB,sG];simp only[df]at hr;rw[hr];simp
  .have hi:hI c h=none:=by simp[hI,t]
   rw[hi]at h1;have K:=PV.noneLine h1;subst K;have j:pL c (fP l h.cond++[⟨13,h.text,h.at',slot,fO l h.cond++a.l,h.cond⟩])=l':=by rw[gW,KJ c hd.1 n,iA];simp[t,x]
   have y:At c (joinAll g a.f) g':=by have:=At.joinAll w h2.fok z h2.f (.inr rfl);simpa[triv]using this
   obtain⟨u,h3,h4⟩:=G _ _ hb _ (.lineO aa.tail d m j H y v);refine⟨u,h3,?_⟩;have:=h2.app h4;simpa[triv]using this
end
open Dg
section
variable {c:aF} {Z:Zs}
variable{h:aj}
def gU(a:h.cond.at' c=true):hI c h=some h.at':=by simp[hI,a]
def gT(a:h.cond.at' c=false):hI c h=none:=by simp[hI,a]
def RR.fail(k:h.cond.ok 0)(code:Nat):RR c ⟨[],[],dh h code⟩ ⟨[],none,if h.cond.at' c then [(code,(h.at':Int))]else []⟩:=
 ⟨aC.nil,trivial,Br k code,rfl,rfl,qI c h code⟩
theorem RR.take{rec:fL}(b:bB Z){a:aA}{q:PR}(h:RR c a q)(s:au):RR c ⟨a.l,(take Z a.f s).1,a.e++(take Z a.f s).2⟩ ⟨q.l,(di Z c q.p s).1,q.e++(di Z c q.p s).2⟩:=by obtain⟨d,t2,t3,t4⟩:=Cj b h.fok h.f s;exact⟨d,h.lok,fy.2 ⟨h.eok,t2⟩,h.l,t3,by rw[eI,h.e,t4]⟩
theorem Fc(s:au):di Z c none s=(none,[]):=rfl
def RR.trivTake(b:bB Z){a:aA}(h:RR c a triv)(s:au):RR c ⟨a.l,(Syn.take Z a.f s).1,a.e++(Syn.take Z a.f s).2⟩ triv:=RR.take (rec:=fun _=>none) b h s
def R4(a:bB Z){rec:fL}(G:Good c Z rec){o slot:Nat}{f:ad}{p:Option Nat}{r:aA}(e:iP Z f (fun h=>rec (.unaryH o h slot))=some r)(hf:aC f)(hp:At c f p):∃q,PV c Z (.unary o p slot) q/\RR c r q:=by
 have key:=Bz a hf hp e (P:=fun i q=>PV c Z (.unaryH o (some i) slot) q) fun h x hd b g=>by
  obtain⟨q,h1,h2⟩:=G _ _ g _ (.unaryH hd b rfl);cases d:h.cond.at' c with
  |true=>rw[gU d]at h1;exact⟨q,h1,h2⟩
  |false=>rw[gT d]at h1;have:q=triv:=h1.det (PV.step0 fun r=>rfl);subst this;exact h2
 cases p with
 |none=>exact⟨triv,(PV.step0 fun r=>rfl:PV c Z (.unaryH o none slot) triv).step1 fun r hr=>by simp only[aB,vW];exact hr,key⟩
 |some p=>obtain⟨q,h1,h2⟩:=key;exact⟨q,h1.step1 fun r hr=>by simp only[aB,vW];exact hr,h2⟩
def R5(s:bB Z){rec:fL}(G:Good c Z rec){o slot:Nat}{r:aA}(e:unaryH Z rec o h slot=some r)(hd:Hd Z h)(k:h.cond≠ff):∃q,PV c Z (.unaryH o (hI c h) slot) q/\RR c r q:=by
 unfold unaryH at e;have hX:=hd.text;have C:=hd.kind;have ha:=nF c h;have d:=nH hd.1 k;cases n:h.cond.at' c with
 |false=>
  have hi:=gT n;rw[hi]at ha |-;refine⟨triv,PV.step0 fun r=>rfl,?_⟩;split at e
  .split at e
   .cases e;have:=RR.fail (c:=c) hd.1 11;rw[n]at this;exact this
   .simp only[cG,eP,bf]at e;obtain⟨a,u,rfl⟩:=e;obtain⟨q,h1,h2⟩:=G _ _ u _ (.unary d ha);have:=PV.noneUnary h1;subst this;exact⟨h2.fok,lx hd.1 h2.lok,h2.eok,by rw[iA];simp[n,triv],h2.f,h2.e⟩
  .split at e
   .obtain⟨q,h1,h2⟩:=G _ _ e _ (.inside (si hd.1 k) (sf c h));rw[hi]at h1;have:=PV.noneInside h1;subst this;exact h2
   .split at e
    .cases e;exact⟨d,lx hd.1 trivial,jl,by rw[iA];simp[n,triv],ha,rfl⟩
    .split at e
     .cases e;exact⟨d,lx hd.1 trivial,jl,by rw[iA];simp[n,triv],ha,rfl⟩
     .split at e
      .cases e;exact⟨d,lx hd.1 trivial,jl,by rw[iA];simp[n,triv],ha,rfl⟩
      .have m:=vN s (si hd.1 k) (sf c h) 18 slot;rw[hi]at m;obtain⟨y,x,w,v⟩:=pi s m.fok m.f (be Z cq) (qq cq);dsimp only at e;generalize A:bP Z (named Z (bL h) 18 slot).f (bq cq)=sp at e y x w v;obtain⟨xs,g⟩:=sp;simp only[cG,eP,bf]at e;obtain⟨b,hb,rfl⟩:=e;obtain⟨q,h1,h2⟩:=G _ _ hb _ (.calls hd hi y w m.lok m.l x v (.inl rfl));have:q=⟨[],none,[]⟩:=h1.det (PV.step0 fun r=>rfl);subst this;exact m.app h2
 |true=>
  have hi:=gU n;rw[hi]at ha |-;rw[hX,C]at e;by_cases h1:X Z h.at'=sR\/X Z h.at'=pq
  .rw[ah h1]at e;split at e
   .rename_i h2;cases e
    refine⟨_,PV.step0 fun r=>by simp only[aB,kh];rw[ah h1,ah h2],?_⟩;have:=RR.fail (c:=c) hd.1 11;rw[n]at this;exact this
   .rename_i h2;simp only[cG,eP,bf]at e;obtain⟨a,u,rfl⟩:=e;obtain⟨q,h3,h4⟩:=G _ _ u _ (.unary d ha);refine⟨⟨[⟨14,X Z h.at',h.at',slot,q.l,tt⟩],q.p,q.e⟩,h3.step1 fun r hr=>?_,⟨h4.fok,lx hd.1 h4.lok,h4.eok,?_,h4.f,h4.e⟩⟩
    .simp only[df]at hr;simp only[aB,kh];rw[ah h1,ab h2,hr];rfl
    .rw[iA];simp[n,h4.l]
  .rw[ab h1]at e;by_cases h2:X Z h.at'=cq
   .rw[ah h2]at e;obtain⟨q,h3,h4⟩:=G _ _ e _ (.inside (si hd.1 k) (sf c h));rw[hi]at h3;refine⟨q,h3.step1 fun r hr=>?_,h4⟩;simp only[aB,kh];rw[ab h1,ah h2,hr]
   .rw[ab h2]at e;by_cases h3:K Z h.at'=2
    .rw[ah h3]at e;cases e
     refine⟨_,PV.step0 fun r=>by simp only[aB,kh];rw[ab h1,ab h2,ah h3],?_⟩;exact⟨d,lx hd.1 trivial,jl,by rw[iA];simp[n,pL],ha,rfl⟩
    .rw[ab h3]at e;by_cases h4:X Z h.at'=pu\/X Z h.at'=qX
     .rw[ah h4]at e;cases e
      refine⟨_,PV.step0 fun r=>by simp only[aB,kh];rw[ab h1,ab h2,ab h3,ah h4],?_⟩;exact⟨d,lx hd.1 trivial,jl,by rw[iA];simp[n,pL],ha,rfl⟩
     .rw[ab h4]at e;by_cases h5:X Z h.at'=un
      .rw[ah h5]at e;cases e
       refine⟨_,PV.step0 fun r=>by simp only[aB,kh];rw[ab h1,ab h2,ab h3,ab h4,ah h5],?_⟩;exact⟨d,lx hd.1 trivial,jl,by rw[iA];simp[n,pL],ha,rfl⟩
      .rw[ab h5]at e;have m:=vN s (si hd.1 k) (sf c h) 18 slot;rw[hi]at m;obtain⟨y,x,w,v⟩:=pi s m.fok m.f (be Z cq) (qq cq);dsimp only at e;have z:(named Z (bL h) 18 slot).l.tail=[]:=by rw[Kt s hd k];split<;>rfl
       have t:(bv c Z (bX Z c (some h.at') 18 slot).p (be Z cq))=none\/(bv c Z (bX Z c (some h.at') 18 slot).p fun i=>!be Z cq i)=none/\some h.at'≠none/\pL c (named Z (bL h) 18 slot).l.tail=[]:=by
        cases B:bv c Z (bX Z c (some h.at') 18 slot).p (be Z cq)with
        |none=>exact .inl rfl
        |some j=>
         refine .inr ⟨?_,by simp,?_⟩
         .rcases qi ((bX Z c (some h.at') 18 slot).p.map (nx c Z)) (be Z cq)with h|h
          .rw[o3,h]at B;cases B
          .exact h
         .rw[z];rfl
       generalize A:bP Z (named Z (bL h) 18 slot).f (bq cq)=sp at e y x w v;obtain⟨xs,g⟩:=sp;simp only[cG,eP,bf]at e;obtain⟨b,hb,rfl⟩:=e;obtain⟨q,h6,F⟩:=G _ _ hb _ (.calls hd hi y w m.lok m.l x v t);refine⟨_,h6.step1 fun r hr=>?_,m.app F⟩;simp only[aB,kh];rw[ab h1,ab h2,ab h3,ab h4,ab h5];simp only[o3]at hr |-;rw[hr];rfl
end
open Dg
section
variable {c:aF} {Z:Zs}
variable{p:Option Nat}
def dQ.nil_none(h:dQ c [] p):p=none:=by
 cases p with
 |none=>rfl
 |some i=>simp[dQ,kQ]at h
variable{r:aA}{o slot:Nat}
def RO(P:bB Z){rec:fL}(G:Good c Z rec){h:aj}{xs:List aj}{x:Option Nat}{names names':List M}{g:ad}{g':Option Nat}(e:calls rec o h slot xs names g=some r)(hd:Hd Z h)(m:go Z xs)(J:dQ c xs x)(z:cF names)(K:pL c names=names')(A:aC g)(F:At c g g')
  (d:x=none\/g'=none/\hI c h≠none/\pL c names.tail=[]):∃q,PV c Z (.calls o (hI c h) slot x names' g') q/\RR c r q:=by
 unfold calls at e;cases xs with
 |nil=>simp only[bf]at e;subst e;have:=J.nil_none;subst this;exact⟨⟨names',g',[]⟩,PV.step0 fun r=>by simp only[aB,oZ];cases hI c h<;>rfl,A,z,jl,K,F,rfl⟩
 |cons y xs=>
  simp only[cG,eP,bf]at e;obtain⟨a,ha,_,_,b,hb,rfl⟩:=e;obtain⟨v,B⟩:=m.hd;obtain⟨q,h1,h2⟩:=G _ _ ha _ (.listed (si v.1 B) (sf c y));have j:cF (gz names y.cond++[⟨19,h.text,h.at',slot,a.l,y.cond⟩]):=mf.2 ⟨JO v.1 z,lx v.1 h2.lok⟩;have L:aC (joinAll g a.f):=l4 (fun s hs=>(h2.fok.1 s hs).1) A;rcases J.cons with ⟨t,rfl,k⟩|⟨t,k⟩
  .rw[gU t]at h1;rcases d with d|⟨rfl,hi,H⟩
   .cases d
   have I:h.cond.at' c=true:=by
    cases S:h.cond.at' c with
    |true=>rfl
    |false=>exact absurd (gT S) hi
   have i:pL c (gz names y.cond++[⟨19,h.text,h.at',slot,a.l,y.cond⟩])=[⟨19,X Z h.at',h.at',slot,q.l,tt⟩]:=by rw[gW,AU c v.1 z,ah t,H,iA];simp[t,h2.l,hd.text]
   have C:At c (joinAll g a.f) q.p:=by have:=At.joinAll A h2.fok F h2.f (.inl rfl);simpa using this
   obtain⟨u,h3,h4⟩:=G _ _ hb _ (.calls hd rfl m.tail k j i L C (.inl rfl));have N:u=⟨[⟨19,X Z h.at',h.at',slot,q.l,tt⟩],q.p,[]⟩:=h3.det (PV.step0 fun r=>by simp only[aB,oZ];cases hI c h<;>rfl);subst N;refine⟨_,h1.step1 fun r hr=>?_,h2.app h4⟩;rw[gU I];simp only[aB,oZ,hr,cG,dD,Y]
  .rw[gT t]at h1;have Q:=PV.noneListed h1;subst Q;have i:pL c (gz names y.cond++[⟨19,h.text,h.at',slot,a.l,y.cond⟩])=names':=by rw[gW,AU c v.1 z,iA];simp[t,K]
   have C:At c (joinAll g a.f) g':=by have:=At.joinAll A h2.fok F h2.f (.inr rfl);simpa[triv]using this
   have w:x=none\/g'=none/\hI c h≠none/\pL c (gz names y.cond++[(⟨19,h.text,h.at',slot,a.l,y.cond⟩:M)]).tail=[]:=by
    rcases d with d|⟨h5,h6,T⟩
    .exact .inl d
    .refine .inr ⟨h5,h6,?_⟩;cases R:gz names y.cond with
     |nil=>rfl
     |cons n l=>
      rw[aU,zw,gW,iA];have:l=names.tail:=by rw[<-JQ names y.cond,R];rfl
      simp[t,this,T]
   obtain⟨u,h3,h4⟩:=G _ _ hb _ (.calls hd rfl m.tail k j i L C w);refine⟨u,h3,?_⟩;have:=h2.app h4;simpa[triv]using this
def RT(g:bB Z){rec:fL}(G:Good c Z rec){f:ad}(e:iP Z f (sr Z rec o slot)=some r)(hf:aC f)(hp:At c f p):∃q,PV c Z (.inside o p slot) q/\RR c r q:=by
 have key:=Bz g hf hp e (P:=fun i q=>∀p,p.map (nx c Z)=some i->PV c Z (.inside o p slot) q) fun h x hd k b=>by
  unfold sr at b;have hX:=hd.text;cases j:h.cond.at' c with
  |false=>
   simp only[dO,dG];have d:=RR.fail (c:=c) hd.1;split at b
   .cases b;have:=d 10;rw[j]at this;exact this
   .split at b
    .cases b;have:=d 11;rw[j]at this;exact this
    .simp only[cG,eP,bf]at b;obtain⟨a,ha,rfl⟩:=b;obtain⟨q,h1,h2⟩:=G _ _ ha _ (.line (nH hd.1 k) (nF c h));rw[gT j]at h1;have:=PV.noneLine h1;subst this;exact RR.trivTake g h2 dt
  |true=>
   simp only[cu];have d:=RR.fail (c:=c) hd.1;rw[hX]at b;split at b
   .rename_i h3;cases b
    refine⟨_,fun p hp=>PV.step0 fun r=>by simp only[aB,nW,hp];rw[ah h3],?_⟩;have:=d 10;rw[j]at this;exact this
   .rename_i h3;split at b
    .rename_i h4;cases b
     refine⟨_,fun p hp=>PV.step0 fun r=>by simp only[aB,nW,hp];rw[ab h3,ah h4],?_⟩;have:=d 11;rw[j]at this;exact this
    .rename_i h4;simp only[cG,eP,bf]at b;obtain⟨a,ha,rfl⟩:=b;obtain⟨q,h1,h2⟩:=G _ _ ha _ (.line (nH hd.1 k) (nF c h));rw[gU j]at h1;refine⟨_,fun p hp=>h1.step1 fun r hr=>?_,RR.take (rec:=rec) g h2 dt⟩;simp only[aB,nW,hp];rw[ab h3,ab h4];simp only[df]at hr;rw[hr];rfl
 cases p with
 |none=>exact⟨triv,PV.step0 fun r=>rfl,key⟩
 |some p=>obtain⟨q,h1,h2⟩:=key;exact⟨q,h1 _ rfl,h2⟩
variable{par:Bool}
def RZ(d:bB Z){rec:fL}(G:Good c Z rec){f:ad}(e:iP Z f (sx Z rec par o)=some r)(hf:aC f)(hp:At c f p):∃q,PV c Z (.listed par o p) q/\RR c r q:=by
 have key:=Bz d hf hp e (P:=fun i q=>∀p,p.map (nx c Z)=some i->PV c Z (.listed par o p) q) fun h x hd v b=>by
  unfold sx at b;have hX:=hd.text;have j:=RR.fail (c:=c) hd.1;obtain⟨t,s,u,n⟩:=pi d (nH hd.1 v) (nF c h) (be Z dt) (qq dt);generalize z:bP Z (bY h) (bq dt)=sp at b t s u n;obtain⟨yes,g⟩:=sp;simp only at t s u n;have w:aC (yes.foldl joinH []):=tO aC.nil t.conds;have y:At c (yes.foldl joinH []) (((hI c h).map (·+1)).map (nx c Z) |>.filter (be Z dt)):=by have:=At.joinH aC.nil t.conds (At.nil c) u (.inl rfl);simpa using this
  have m:=(qi (((hI c h).map (·+1)).map (nx c Z)) (be Z dt)).symm;cases k:h.cond.at' c with
  |false=>
   simp only[dO,dG];split at b
   .cases b;have:=j 10;rw[k]at this;exact this
   .split at b
    .cases b;have:=j 11;rw[k]at this;exact this
    .simp only[cG,eP,bf]at b;obtain⟨a,ha,rfl⟩:=b;obtain⟨q,h1,h2⟩:=G _ _ ha _ (.listL (l:=[]) trivial rfl s n w y m);rw[gT k]at h1;have:q=triv:=h1.det (PV.step0 fun r=>rfl);subst this;exact RR.trivTake d h2 dt
  |true=>
   simp only[cu];rw[hX]at b;split at b
   .rename_i h3;cases b
    refine⟨_,fun p hp=>PV.step0 fun r=>by simp only[aB,nX,hp];rw[ah h3],?_⟩;have:=j 10;rw[k]at this;exact this
   .rename_i h3;split at b
    .rename_i h4;cases b
     refine⟨_,fun p hp=>PV.step0 fun r=>by simp only[aB,nX,hp];rw[ab h3,ah h4],?_⟩;have:=j 11;rw[k]at this;exact this
    .rename_i h4;simp only[cG,eP,bf]at b;obtain⟨a,ha,rfl⟩:=b;obtain⟨q,h1,h2⟩:=G _ _ ha _ (.listL (l:=[]) trivial rfl s n w y m);rw[gU k]at h1;refine⟨_,fun p hp=>h1.step1 fun r hr=>?_,RR.take (rec:=rec) d h2 dt⟩;simp only[aB,nX,hp,o3];rw[ab h3,ab h4];simp only[df]at hr |-;simp only[pL]at hr;rw[hr];rfl
 cases p with
 |none=>exact⟨triv,PV.step0 fun r=>rfl,key⟩
 |some p=>obtain⟨q,h1,h2⟩:=key;exact⟨q,h1 _ rfl,h2⟩
def RY(F:bB Z){rec:fL}(G:Good c Z rec){l l':List M}{g fin:ad}{g' fin':Option Nat}(e:listL Z rec par o l g fin=some r)(H:cF l)(z:pL c l=l')(y:aC g)(J:At c g g')(hf:aC fin)(A:At c fin fin')(w:g'=none\/fin'=none):
  ∃q,PV c Z (.listL par o l' g' fin') q/\RR c r q:=by
 unfold listL at e;cases g with
 |nil=>
  simp only[bf]at e;subst e;have:g'=none:=by cases g' with
   |none=>rfl
   |some i=>simp[At,dp]at J
  subst this;exact⟨⟨l',fin',[]⟩,PV.step0 fun r=>rfl,hf,H,jl,z,A,rfl⟩
 |cons s g=>
  simp only[cG,eP,bf]at e;obtain⟨a,ha,_,_,e⟩:=e;have j:=At.one c s.1 s.2;obtain⟨q,h1,h2⟩:=G _ _ ha _ (.item y.head j);obtain⟨t,n,m,k⟩:=pi F h2.fok h2.f (be Z eV) (qq eV);generalize N:bP Z a.f (bq eV)=sp at e t n m k;obtain⟨more,done⟩:=sp;simp only[eP,bf]at e;obtain⟨b,hb,rfl⟩:=e;simp only at t n m k;have K:aC (more.foldl joinH1 g):=Jw y.tail t.conds;have L:aC (joinAll fin done):=l4 (fun s hs=>(n.1 s hs).1) hf;rcases J.cons with ⟨I,rfl,d⟩|⟨I,d⟩
  .have x:fin'=none:=by rcases w with h|h;cases h;exact h
   subst x;rw[ah I]at h1;have C:At c (more.foldl joinH1 g) ((bv c Z q.p (be Z eV)).map (·+1)):=by have:=At.joinH1 y.tail t.conds d m (.inl rfl);simpa[bv]using this
   have B:At c (joinAll fin done) (bv c Z q.p fun i=>!be Z eV i):=by have:=At.joinAll hf n A k (.inl rfl);simpa[bv]using this
   have v:(bv c Z q.p (be Z eV)).map (·+1)=none\/(bv c Z q.p fun i=>!be Z eV i)=none:=by
    rcases qi (q.p.map (nx c Z)) (be Z eV)with h|h
    .left;rw[o3,h];rfl
    .exact .inr h
   obtain⟨u,h3,h4⟩:=G _ _ hb _ (.listL (mf.2 ⟨H,h2.lok⟩) (by rw[gW,z,h2.l]) K C L B v);refine⟨_,h1.step2 h3 fun r hr hs=>?_,h2.app h4⟩;simp only[aB,sH,hr,cG,dD,hs]
  .rw[I]at h1;simp only[dO,dG]at h1;have:=PV.noneItem h1;subst this;simp only[triv,kX,Option.filter_none]at m k;have C:At c (more.foldl joinH1 g) g':=by have:=At.joinH1 y.tail t.conds d m (.inr rfl);simpa using this
   have B:At c (joinAll fin done) fin':=by have:=At.joinAll hf n A k (.inr rfl);simpa using this
   obtain⟨u,h3,h4⟩:=G _ _ hb _ (.listL (mf.2 ⟨H,h2.lok⟩) (by rw[gW,z,h2.l]) K C L B w);simp only[triv,Y]at h3;refine⟨u,h3,?_⟩;have:=h2.app h4;simpa[triv]using this
theorem RR.give{a:aA}{q:PR}{ks kp:List M}{f:ad}{e:List aI}{e':List (Nat×Int)}(i:cF a.l)(b:pL c a.l=q.l)(j:cF ks)(d:pL c ks=kp)(hf:aC f)(g:At c f p)(k:jk e)(h:pE c e=e'):RR c ⟨Syn.give a.l ks,f,e⟩ ⟨Syn.give q.l kp,p,e'⟩:=
 ⟨hf,jM i j,k,by rw[jN,b,d],g,h⟩
def RU(a:bB Z){rec:fL}(G:Good c Z rec){f:ad}(e:item Z rec par o f=some r)(hf:aC f)(hp:At c f p):∃q,PV c Z (.item par o p) q/\RR c r q:=by
 unfold item at e;cases par with
 |false=>simp only[dO,dG]at e;obtain⟨q,h1,h2⟩:=G _ _ e _ (.line hf hp);exact⟨q,h1.step1 fun r hr=>by simp only[aB,o4];exact hr,h2⟩
 |true=>simp only[cu]at e;have d:=vN a hf hp 4 0;have ht:=RR.take (rec:=rec) a d dA;generalize h:Syn.take Z (named Z f 4 0).f dA=sp at e ht;obtain⟨g,j⟩:=sp;have b:=Gh a ht.fok ht.f 0;simp only[cG,eP,bf]at e;obtain⟨l,i,rfl⟩:=e;have:=fH i;subst this;refine⟨_,PV.step0 fun r=>by simp only[aB,o4,cu];rfl,?_⟩;exact RR.give d.lok d.l b.lok b.l b.fok b.f (fy.2 ⟨ht.eok,b.eok⟩) (by rw[eI,ht.e,b.e])
def RK(d:bB Z){rec:fL}(G:Good c Z rec){typ:Bool}{sign:au}{f:ad}(e:behind Z rec typ o f sign slot=some r)(hf:aC f)(hp:At c f p):∃q,PV c Z (.behind typ o p sign slot) q/\RR c r q:=by
 unfold behind at e;obtain⟨j,g,m,k⟩:=pi d hf hp (be Z sign) (qq sign);generalize u:bP Z f (bq sign)=sp at e j g m k;obtain⟨yes,out⟩:=sp;simp only[cG,eP,bf]at e;obtain⟨a,ha,rfl⟩:=e;simp only at j g m k;have n:aC (yes.foldl joinH1 []):=Jw aC.nil j.conds;have t:At c (yes.foldl joinH1 []) ((bv c Z p (be Z sign)).map (·+1)):=by have:=At.joinH1 aC.nil j.conds (At.nil c) m (.inl rfl);simpa[bv]using this
 unfold zZ at ha;have fin:∀q:PR,RR c a q->((bv c Z p (be Z sign))=none->q.p=none)->RR c ⟨a.l,joinAll out a.f,a.e⟩ ⟨q.l,(bv c Z p fun i=>!be Z sign i).or q.p,q.e⟩:=fun q b v=>by
  refine⟨l4 (fun s hs=>(b.fok.1 s hs).1) g,b.lok,b.eok,b.l,At.joinAll g b.fok k b.f ?_,b.e⟩;rcases qi (p.map (nx c Z)) (be Z sign)with h|h
  .exact .inr (v h)
  .exact .inl h
 cases typ with
 |true=>simp only[cu,bf]at ha;subst ha;refine⟨_,PV.step0 fun r=>by simp only[aB,oY,mY,cu];rfl,fin _ (Gh d n t slot) fun h=>?_⟩;rw[h];rfl
 |false=>
  simp only[dO,dG]at ha;obtain⟨q,h1,h2⟩:=G _ _ ha _ (.line n t);refine⟨_,h1.step1 fun r hr=>?_,fin q h2 fun h=>?_⟩
  .simp only[aB,oY,mY,dO,dG];rw[hr];rfl
  .rw[h]at h1;have:=PV.noneLine h1;subst this;rfl
def R6(b:bB Z){rec:fL}(G:Good c Z rec){f:ad}(e:uu Z rec o f=some r)(hf:aC f)(hp:At c f p):∃q,PV c Z (.vrb o p) q/\RR c r q:=by
 unfold uu at e;have j:=vN b hf hp 2 0;have ht:=RR.take (rec:=rec) b j dA;dsimp only at e;generalize i:Syn.take Z (named Z f 2 0).f dA=sp at e ht;obtain⟨g,u⟩:=sp;have h:=Gh b ht.fok ht.f 0;simp only[cG,eP]at e;obtain⟨d,hd,t,m,s,k,e⟩:=e;have:=fH m;subst this;have:=fH k;subst this;obtain⟨q,h1,h2⟩:=G _ _ hd _ (.behind h.fok h.f);have a:=RR.take (rec:=rec) b h2 bT;generalize i:Syn.take Z d.f bT=sp at e a;obtain⟨g2,n⟩:=sp;simp only[bf]at e;subst e;refine⟨_,h1.step1 fun r hr=>by simp only[aB,qM];rw[hr];rfl,?_⟩;refine⟨a.fok,jM (jM j.lok h.lok) h2.lok,?_,?_,a.f,?_⟩
 .have:=a.eok;rw[fy]at this;exact fy.2 ⟨fy.2 ⟨fy.2 ⟨ht.eok,h.eok⟩,this.1⟩,this.2⟩
 .rw[jN,jN,j.l,h.l,h2.l]
 .have e2:=a.e;rw[eI]at e2;have e1:=ht.e;rw[eI]at e1;rw[eI,eI,eI,eI,e1,h.e,cD,e2];simp[cD]
def RQ(j:bB Z){rec:fL}(G:Good c Z rec){f:ad}(e:function Z rec o f=some r)(hf:aC f)(hp:At c f p):∃q,PV c Z (.function o p) q/\RR c r q:=by
 unfold function at e;have i:=vN j hf hp 3 0;dsimp only at e;simp only[cG,eP,bf]at e;obtain⟨b,hb,d,hd,x,v,C,n,B,m,A,k,rfl⟩:=e;have:=fH n;subst this;have:=fH m;subst this;have:=fH k;subst this;obtain⟨z,h1,h⟩:=G _ _ hb _ (.listed i.fok i.f);obtain⟨y,h2,g⟩:=G _ _ hd _ (.behind h.fok h.f);obtain⟨w,h3,a⟩:=G _ _ v _ (.block g.fok g.f);refine⟨_,h1.step3 h2 h3 fun r u t s=>by simp only[aB,qK,u,t,s,cG,dD];rfl,?_⟩;refine⟨a.fok,jM (jM (jM i.lok h.lok) g.lok) a.lok,fy.2 ⟨fy.2 ⟨fy.2 ⟨i.eok,h.eok⟩,g.eok⟩,a.eok⟩,?_,a.f,?_⟩
 .rw[jN,jN,jN,i.l,h.l,g.l,a.l]
 .rw[eI,eI,eI,i.e,h.e,g.e,a.e]
end
open Dg
section
variable {c:aF} {Z:Zs}
variable{r:aA}{p:Option Nat}{o:Nat}
def RL(j:bB Z){rec:fL}(G:Good c Z rec){slot:Nat}{f:ad}(e:iP Z f (rW Z rec o slot)=some r)(hf:aC f)(hp:At c f p):∃q,PV c Z (.block o p slot) q/\RR c r q:=by
 have key:=Bz j hf hp e (P:=fun i q=>∀p,p.map (nx c Z)=some i->PV c Z (.block o p slot) q) fun h x hd k b=>by
  unfold rW at b;have hX:=hd.text;have d:=RR.fail (c:=c) hd.1;cases g:h.cond.at' c with
  |false=>
   simp only[dO,dG];split at b
   .cases b;have:=d 10;rw[g]at this;exact this
   .split at b
    .cases b;have:=d 11;rw[g]at this;exact this
    .simp only[cG,eP,bf]at b;obtain⟨a,ha,rfl⟩:=b;have m:=nF c h;rw[gT g]at m;obtain⟨q,h1,h2⟩:=G _ _ ha _ (.seqL (l:=[]) (nH hd.1 k) m trivial rfl aC.nil (At.nil c) (.inr rfl));have:q=triv:=h1.det (PV.step0 fun r=>rfl);subst this;have ht:=RR.trivTake j h2 iW;exact⟨ht.fok,lx hd.1 h2.lok,ht.eok,by rw[iA];simp[g,triv],ht.f,ht.e⟩
  |true=>
   simp only[cu];rw[hX]at b;split at b
   .rename_i h3;cases b
    refine⟨_,fun p hp=>PV.step0 fun r=>by simp only[aB,nU,hp];rw[ah h3],?_⟩;have:=d 10;rw[g]at this;exact this
   .rename_i h3;split at b
    .rename_i h4;cases b
     refine⟨_,fun p hp=>PV.step0 fun r=>by simp only[aB,nU,hp];rw[ab h3,ah h4],?_⟩;have:=d 11;rw[g]at this;exact this
    .rename_i h4;simp only[cG,eP,bf]at b;obtain⟨a,ha,rfl⟩:=b;obtain⟨q,h1,h2⟩:=G _ _ ha _ (.seqL (l:=[]) (nH hd.1 k) (nF c h) trivial rfl aC.nil (At.nil c) (.inr rfl));rw[gU g]at h1;have ht:=RR.take (rec:=rec) j h2 iW;refine⟨⟨[⟨6,[],h.at',slot,q.l,tt⟩],(di Z c q.p iW).1,q.e++(di Z c q.p iW).2⟩,fun p hp=>h1.step1 fun r hr=>?_,⟨ht.fok,lx hd.1 h2.lok,ht.eok,by rw[iA];simp[g,h2.l],ht.f,ht.e⟩⟩;simp only[aB,nU,hp];rw[ab h3,ab h4];simp only[df,pL]at hr;rw[hr];rfl
 cases p with
 |none=>exact⟨triv,PV.step0 fun r=>rfl,key⟩
 |some p=>obtain⟨q,h1,h2⟩:=key;exact⟨q,h1 _ rfl,h2⟩
variable{top:Bool}
def VG{r s:jU}(h:Le r s){i:Nat}{q:PR}(e:lz Z r top o i=some q):lz Z s top o i=some q:=by
 unfold lz at e |-;cases top with
 |false=>exact h _ _ e
 |true=>
  simp only[cu]at e |-;unfold nY at e |-;split at e
  .rename_i h2;rw[ah h2];exact h _ _ e
  .rename_i h2;rw[ab h2];split at e
   .rename_i h3;rw[ah h3];exact h _ _ e
   .rename_i h3;rw[ab h3];exact e
variable{h:aj}
def R0(j:bB Z){rec:fL}(G:Good c Z rec)(e:wi rec top o h=some r)(hd:Hd Z h)(f:h.cond≠ff):
  if h.cond.at' c then ∃n q,lz Z (dF c Z n) top o h.at'=some q/\RR c r q else RR c r triv:=by
 unfold wi at e;have hX:=hd.text;have a:=RR.fail (c:=c) hd.1 10;have d:=nF c h;have i:=nH hd.1 f;cases top with
 |false=>
  simp only[dO,dG]at e;obtain⟨q,h1,h2⟩:=G _ _ e _ (.stmt hd f rfl);cases b:h.cond.at' c with
  |false=>rw[gT b]at h1;have:q=triv:=h1.det (PV.step0 fun r=>rfl);subst this;simpa using h2
  |true=>rw[gU b]at h1;obtain⟨n,g⟩:=h1;simp only[cu];exact⟨n,q,g,h2⟩
 |true=>
  simp only[cu]at e;unfold wy at e;rw[hX]at e;cases b:h.cond.at' c with
  |false=>
   simp only[dO,dG];rw[gT b]at d;split at e
   .obtain⟨q,h1,h2⟩:=G _ _ e _ (.vrb i d);have:=PV.noneVar h1;subst this;exact h2
   .split at e
    .obtain⟨q,h1,h2⟩:=G _ _ e _ (.function i d);have:=PV.noneFn h1;subst this;exact h2
    .cases e;rw[b]at a;exact a
  |true=>
   simp only[cu];rw[gU b]at d;split at e
   .rename_i h3;obtain⟨q,⟨n,g⟩,h2⟩:=G _ _ e _ (.vrb i d);exact⟨n,q,by simp only[lz,nY,cu];rw[ah h3];exact g,h2⟩
   .rename_i h3;split at e
    .rename_i h4;obtain⟨q,⟨n,g⟩,h2⟩:=G _ _ e _ (.function i d);exact⟨n,q,by simp only[lz,nY,cu];rw[ab h3,ah h4];exact g,h2⟩
    .rename_i h4;cases e
     rw[b]at a;exact⟨0,_,by simp only[lz,nY,cu];rw[ab h3,ab h4],a⟩
def WO(hd:Hd Z h)(top:Bool):n8 Z top h=BC Z top h.at':=by unfold n8 BC;rw[hd.text]
variable{l:List M}
def WP{p:Nat}{out:Option Nat}{q:PR}(h:PV c Z (.seqL top o (some (nx c Z p)) l out) q):PV c Z (.seqL top o (some p) l out) q:=by
 obtain⟨n,h⟩:=h;cases n with
 |zero=>cases h
 |succ n=>exact⟨n+1,by simp only[dF,aB,o7,df,oW]at h |-;exact h⟩
def JA{f:ad}(hf:aC f)(k:h.cond.ok 0):aC (joinH f h):=iy hf k
def Jx{f:ad}(hf:aC f)(k:h.cond.ok 0)(hp:At c f p)(b:hI c h=none\/p=none):At c (joinH f h) ((hI c h).or p):=by
 have:=At.join hf hp k (a:=h.at') (fun d=>by
  rcases b with h1|h1
  .rw[gU d]at h1;cases h1
  .exact h1)
 unfold joinH hI;cases d:h.cond.at' c<;>rw[d]at this<;>simpa using this
variable{out':Option Nat}{out:ad}{l':List M}
def R2(x:bB Z){rec:fL}(G:Good c Z rec){f:ad}(e:seqL Z rec top o f l out=some r)(hf:aC f)(hp:At c f p)(F:cF l)(A:pL c l=l')(y:aC out)(z:At c out out')(I:p=none\/out'=none):
  ∃q,PV c Z (.seqL top o p l' out') q/\RR c r q:=by
 unfold seqL at e;have K:=vz x hf;have ha:=dQ.of x hf hp;generalize co Z f=hs at e K ha
 suffices H:∃q,PV c Z (.seqL top o (p.map (nx c Z)) l' out') q/\RR c r q by
  obtain⟨q,h1,h2⟩:=H;refine⟨q,?_,h2⟩;cases p with
  |none=>exact h1
  |some p=>exact WP h1
 have d:p.map (nx c Z)=none\/out'=none:=I.imp (fun h=>by rw[h];rfl) id;have g:(p.map (nx c Z)).map (nx c Z)=p.map (nx c Z):=by cases p<;>simp[oW]
 generalize p.map (nx c Z)=i at ha d g;cases hs with
 |nil=>simp only[bf]at e;subst e;have:=ha.nil_none;subst this;exact⟨⟨l',out',[]⟩,PV.step0 fun r=>rfl,y,F,jl,A,z,rfl⟩
 |cons h hs=>
  obtain⟨hd,J⟩:=K.hd;have ht:=K.tail;have N:=WO hd top;simp only at e;rw[N]at e;cases t:BC Z top h.at' with
  |true=>
   rw[t,ah rfl]at e;rcases ha.cons with ⟨v,rfl,j⟩|⟨v,j⟩
   .have k:out'=none:=by rcases d with h|h;cases h;exact h
    subst k;have B:=Jx (h:=h) y hd.1 z (.inr rfl);rw[gU v]at B;have w:At c (hs.foldl joinH []) none:=by have:=At.joinH aC.nil ht.conds (At.nil c) j (.inl rfl);simpa using this
    obtain⟨u,h3,h4⟩:=G _ _ e _ (.seqL (tO aC.nil ht.conds) w F A (JA y hd.1) B (.inl rfl));have:u=⟨l',some h.at',[]⟩:=h3.det (PV.step0 fun r=>rfl);subst this;refine⟨_,PV.step0 fun r=>?_,h4⟩;simp only[df,bf]at g;simp only[aB,o7,df,g,t,cu]
   .have B:=Jx (h:=h) y hd.1 z (.inl (gT v));rw[gT v]at B;have w:At c (hs.foldl joinH []) i:=by have:=At.joinH aC.nil ht.conds (At.nil c) j (.inl rfl);simpa using this
    exact G _ _ e _ (.seqL (tO aC.nil ht.conds) w F A (JA y hd.1) (by simpa using B) d)
  |false=>
   rw[t]at e;simp only[dO,dG,cG,eP,bf]at e;obtain⟨a,L,_,_,b,hb,rfl⟩:=e;have hr:=R0 x G L hd J;rcases ha.cons with ⟨v,rfl,j⟩|⟨v,j⟩
   .have k:out'=none:=by rcases d with h|h;cases h;exact h
    subst k;rw[v,ah rfl]at hr;obtain⟨n,q,h1,h2⟩:=hr;have C:aC (joinAll [] a.f):=l4 (fun s hs=>(h2.fok.1 s hs).1) aC.nil;have a0:At c (joinAll [] a.f) q.p:=by have:=At.joinAll aC.nil h2.fok (At.nil c) h2.f (.inl rfl);simpa using this
    have w:At c (hs.foldl joinH (joinAll [] a.f)) q.p:=by have:=At.joinH C ht.conds a0 j (.inr rfl);simpa using this
    obtain⟨u,⟨m,h3⟩,h4⟩:=G _ _ hb _ (.seqL (tO C ht.conds) w (mf.2 ⟨F,h2.lok⟩) (by rw[gW,A,h2.l]) y z (.inr rfl));refine⟨_,⟨max n m+1,?_⟩,h2.app h4⟩;simp only[df,bf]at g;simp only[dF,aB,o7,df,g,t,dO,dG];rw[VG (qP (Nat.le_max_left n m)) h1];simp only[cG,dD];rw[qP (Nat.le_max_right n m) _ _ h3];rfl
   .rw[v]at hr;simp only[dO,dG]at hr;have C:aC (joinAll [] a.f):=l4 (fun s hs=>(hr.fok.1 s hs).1) aC.nil;have a0:At c (joinAll [] a.f) none:=by have:=At.joinAll aC.nil hr.fok (At.nil c) hr.f (.inl rfl);simpa[triv]using this
    have w:At c (hs.foldl joinH (joinAll [] a.f)) i:=by have:=At.joinH C ht.conds a0 j (.inl rfl);simpa using this
    obtain⟨u,h3,h4⟩:=G _ _ hb _ (.seqL (tO C ht.conds) w (mf.2 ⟨F,hr.lok⟩) (by rw[gW,A,hr.l]) y z d);simp only[triv,Y]at h3;refine⟨u,h3,?_⟩;have:=hr.app h4;simpa[triv]using this
def CE(hd:h.cond.ok 0)(kind slot:Nat):cF [gC kind h slot]:=lx hd trivial
def CC(c:aF)(h:aj)(kind slot:Nat):pL c [gC kind h slot]=jp kind (hI c h) slot:=by rw[iA];unfold gC hI jp;cases h.cond.at' c<;>simp[pL]
def Ip(l:List M):give l []=l:=by
 unfold give
 induction l with
 |nil=>rfl
 |cons n l a=>rw[iq,a];cases n;simp
def RM(k:bB Z){rec:fL}(G:Good c Z rec){slot:Nat}(e:branch Z rec o h slot=some r)(hd:Hd Z h)(m:h.cond≠ff):∃q,PV c Z (.branch o (hI c h) slot) q/\RR c r q:=by unfold branch at e;simp only[cG,eP]at e;obtain⟨a,ha,b,hb,I,p,H,n,e⟩:=e;have:=fH p;subst this;have:=fH n;subst this;obtain⟨F,h1,j⟩:=G _ _ ha _ (.inside (nH hd.1 m) (nF c h));obtain⟨C,h2,i⟩:=G _ _ hb _ (.block j.fok j.f);obtain⟨w,v,u,t⟩:=pi k i.fok i.f (be Z iV) (qq iV);generalize A:bP Z b.f (bq iV)=sp at e w v u t;obtain⟨xs,out⟩:=sp;simp only[eP,bf]at e;obtain⟨d,s,rfl⟩:=e;obtain⟨B,h3,g⟩:=G _ _ s _ (.elses w u (jM (jM (CE hd.1 8 slot) j.lok) i.lok) (by rw[jN,jN,CC,j.l,i.l]) v t (qi _ _));refine⟨_,h1.step3 h2 h3 fun r z y x=>by simp only[aB,qH,o3,z,y,x,cG,dD];rfl,?_⟩;exact⟨g.fok,g.lok,fy.2 ⟨fy.2 ⟨j.eok,i.eok⟩,g.eok⟩,g.l,g.f,by rw[eI,eI,j.e,i.e,g.e]⟩
variable{x:Option Nat}{xs:List aj}
def RP(L:bB Z){rec:fL}(G:Good c Z rec)(e:elses Z rec o xs l out=some r)(t:go Z xs)(U:dQ c xs x)(Q:cF l)(J:pL c l=l')(B:aC out)(I:At c out out')(y:x=none\/out'=none):
  ∃q,PV c Z (.elses o x l' out') q/\RR c r q:=by
 unfold elses at e;cases xs with
 |nil=>simp only[bf]at e;subst e;have:=U.nil_none;subst this;exact⟨⟨l',out',[]⟩,PV.step0 fun r=>rfl,B,Q,jl,J,I,rfl⟩
 |cons h xs=>
  obtain⟨hd,N⟩:=t.hd;obtain⟨A,C,k,u⟩:=pi L (nH hd.1 N) (nF c h) (be Z eN) (qq eN);simp only at e;generalize W:bP Z (bY h) (bq eN)=sp at e A C k u;obtain⟨ys,rest⟩:=sp;simp only[cG,eP,bf]at e;obtain⟨a,ha,l1,P,b,hb,d,z,rfl⟩:=e;have:=fH P;subst this;simp only at A C k u;obtain⟨H,h1,j⟩:=G _ _ ha _ (.block C u);have V:aC (joinAll out a.f):=l4 (fun s hs=>(j.fok.1 s hs).1) B;rcases U.cons with ⟨R,rfl,n⟩|⟨R,n⟩
  .have v:out'=none:=by rcases y with h|h;cases h;exact h
   subst v;rw[gU R]at h1 k u;have K:At c (joinAll out a.f) H.p:=by have:=At.joinAll B j.fok I j.f (.inl rfl);simpa using this
   have w:bv c Z (some (h.at'+1)) (be Z eN)=none\/H.p=none:=by
    rcases qi ((some (h.at'+1)).map (nx c Z)) (be Z eN)with h|h
    .exact .inl h
    .right
     simp only[df]at h1 h;rw[h]at h1;have:=PV.noneBlock h1;subst this;rfl
   obtain⟨m,h2,i⟩:=G _ _ hb _ (.ifs A k (jM Q j.lok) (by rw[jN,J,j.l]) V K w);obtain⟨F,h3,g⟩:=G _ _ z _ (.elses t.tail n i.lok i.l i.fok i.f (.inl rfl));have:F=⟨m.l,m.p,[]⟩:=h3.det (PV.step0 fun r=>rfl);subst this;refine⟨⟨m.l,m.p,H.e++m.e⟩,h1.step2 h2 fun r T S=>?_,?_⟩
   .simp only[aB,qJ,o3];simp only[df]at T S |-;rw[T];simp only[cG,dD];rw[S];rfl
   .exact⟨g.fok,g.lok,fy.2 ⟨fy.2 ⟨j.eok,i.eok⟩,g.eok⟩,g.l,g.f,by rw[eI,eI,j.e,i.e,g.e];simp⟩
  .rw[gT R]at h1 k u;simp only[kX,Option.filter_none]at h1 k u;have:=PV.noneBlock h1;subst this;have K:At c (joinAll out a.f) out':=by have:=At.joinAll B j.fok I j.f (.inr rfl);simpa[triv]using this
   have X:pL c (give l a.l)=l':=by rw[jN,J,j.l];exact Ip l'
   obtain⟨m,h2,i⟩:=G _ _ hb _ (.ifs A k (jM Q j.lok) X V K (.inl rfl));have:m=⟨l',out',[]⟩:=h2.det (PV.step0 fun r=>rfl);subst this;obtain⟨F,h3,g⟩:=G _ _ z _ (.elses t.tail n i.lok i.l i.fok i.f y);refine⟨F,h3,g.fok,g.lok,fy.2 ⟨fy.2 ⟨j.eok,i.eok⟩,g.eok⟩,g.l,g.f,by rw[eI,eI,j.e,i.e,g.e];simp[triv]⟩
def RS(K:bB Z){rec:fL}(G:Good c Z rec){ys:List aj}{y:Option Nat}(e:ifs rec o ys l out=some r)(j:go Z ys)(C:dQ c ys y)(A:cF l)(z:pL c l=l')(w:aC out)(x:At c out out')(m:y=none\/out'=none):
  ∃q,PV c Z (.ifs o y l' out') q/\RR c r q:=by
 unfold ifs at e;cases ys with
 |nil=>simp only[bf]at e;subst e;have:=C.nil_none;subst this;exact⟨⟨l',out',[]⟩,PV.step0 fun r=>rfl,w,A,jl,z,x,rfl⟩
 |cons h ys=>
  obtain⟨hd,H⟩:=j.hd;have B:=RR.fail (c:=c) hd.1 11;simp only at e;split at e
  .rename_i u;simp only[cG,eP,bf]at e;obtain⟨b,hb,rfl⟩:=e;rcases C.cons with ⟨t,rfl,g⟩|⟨t,g⟩
   .have k:out'=none:=by rcases m with h|h;cases h;exact h
    subst k;obtain⟨n,h2,d⟩:=G _ _ hb _ (.ifs j.tail g A z w x (.inl rfl));have:n=⟨l',none,[]⟩:=h2.det (PV.step0 fun r=>rfl);subst this;refine⟨⟨l',none,[(11,(h.at':Int))]⟩,PV.step0 fun r=>by simp only[aB,qL];rw[ah u],d.fok,d.lok,fy.2 ⟨B.eok,d.eok⟩,d.l,d.f,?_⟩;rw[eI,qI,t,d.e];rfl
   .obtain⟨n,h2,d⟩:=G _ _ hb _ (.ifs j.tail g A z w x m);refine⟨n,h2,d.fok,d.lok,fy.2 ⟨B.eok,d.eok⟩,d.l,d.f,?_⟩;rw[eI,qI,t,d.e];rfl
  .rename_i u;simp only[cG,eP,bf]at e;obtain⟨a,ha,L,I,b,hb,rfl⟩:=e;have:=fH I;subst this;obtain⟨v,h1,i⟩:=G _ _ ha _ (.branch hd H rfl);have J:aC (joinAll out a.f):=l4 (fun s hs=>(i.fok.1 s hs).1) w;rcases C.cons with ⟨t,rfl,g⟩|⟨t,g⟩
   .have k:out'=none:=by rcases m with h|h;cases h;exact h
    subst k;rw[gU t]at h1;have F:At c (joinAll out a.f) v.p:=by have:=At.joinAll w i.fok x i.f (.inl rfl);simpa using this
    obtain⟨n,h2,d⟩:=G _ _ hb _ (.ifs j.tail g (jM A i.lok) (by rw[jN,z,i.l]) J F (.inl rfl));have:n=⟨give l' v.l,v.p,[]⟩:=h2.det (PV.step0 fun r=>rfl);subst this;refine⟨⟨give l' v.l,v.p,v.e⟩,h1.step1 fun r hr=>by simp only[aB,qL];rw[ab u,hr];rfl,d.fok,d.lok,fy.2 ⟨i.eok,d.eok⟩,d.l,d.f,?_⟩;rw[eI,i.e,d.e];simp
   .rw[gT t]at h1;have:=PV.noneBranch h1;subst this;have F:At c (joinAll out a.f) out':=by have:=At.joinAll w i.fok x i.f (.inr rfl);simpa[triv]using this
    obtain⟨n,h2,d⟩:=G _ _ hb _ (.ifs j.tail g (jM A i.lok) (show _=l' by rw[jN,z,i.l];exact Ip l') J F m);refine⟨n,h2,d.fok,d.lok,fy.2 ⟨i.eok,d.eok⟩,d.l,d.f,?_⟩;rw[eI,i.e,d.e];simp[triv]
def R1(T:bB Z){rec:fL}(G:Good c Z rec){g:ad}{g':Option Nat}(e:sCalls rec o h xs l g=some r)(hd:Hd Z h)(t:go Z xs)(K:dQ c xs x)(P:cF l)(L:pL c l=l')(B:aC g)(H:At c g g')
  (d:x=none\/g'=none/\hI c h≠none/\pL c l.tail=[]/\l≠[]):∃q,PV c Z (.sCalls o (hI c h) x l' g') q/\RR c r q:=by
 unfold sCalls at e;cases xs with
 |nil=>simp only[bf]at e;subst e;have:=K.nil_none;subst this;exact⟨⟨l',g',[]⟩,PV.step0 fun r=>by simp only[aB,o6];cases hI c h<;>rfl,B,P,jl,L,H,rfl⟩
 |cons y xs=>
  simp only[cG,eP,bf]at e;obtain⟨a,ha,_,_,b,hb,rfl⟩:=e;obtain⟨w,C⟩:=t.hd;obtain⟨q,h1,h2⟩:=G _ _ ha _ (.listed (si w.1 C) (sf c y));have j:cF (l++[(⟨19,h.text,h.at',0,a.l,y.cond⟩:M)]):=mf.2 ⟨P,lx w.1 h2.lok⟩;have k:=JO w.1 j;have N:aC (joinAll g a.f):=l4 (fun s hs=>(h2.fok.1 s hs).1) B;rcases K.cons with ⟨v,rfl,m⟩|⟨v,m⟩
  .rw[gU v]at h1;rcases d with d|⟨rfl,hi,z,I⟩
   .cases d
   have J:h.cond.at' c=true:=by
    cases V:h.cond.at' c with
    |true=>rfl
    |false=>exact absurd (gT V) hi
   have i:pL c (gz (l++[(⟨19,h.text,h.at',0,a.l,y.cond⟩:M)]) y.cond)=[⟨19,X Z h.at',h.at',0,q.l,tt⟩]:=by
    rw[AU c w.1 j,ah v];cases l with
    |nil=>exact absurd rfl I
    |cons n l=>rw[aU,zw,gW,iA];rw[zw]at z;simp[v,h2.l,hd.text,z]
   have F:At c (joinAll g a.f) q.p:=by have:=At.joinAll B h2.fok H h2.f (.inl rfl);simpa using this
   obtain⟨u,h3,h4⟩:=G _ _ hb _ (.sCalls hd rfl t.tail m k i N F (.inl rfl));have S:u=⟨[⟨19,X Z h.at',h.at',0,q.l,tt⟩],q.p,[]⟩:=h3.det (PV.step0 fun r=>by simp only[aB,o6];cases hI c h<;>rfl);subst S;refine⟨_,h1.step1 fun r hr=>?_,h2.app h4⟩;rw[gU J];simp only[aB,o6,hr,cG,dD,Y]
  .rw[gT v]at h1;have U:=PV.noneListed h1;subst U;have i:pL c (gz (l++[(⟨19,h.text,h.at',0,a.l,y.cond⟩:M)]) y.cond)=l':=by rw[AU c w.1 j,gW,iA];simp[v,L]
   have F:At c (joinAll g a.f) g':=by have:=At.joinAll B h2.fok H h2.f (.inr rfl);simpa[triv]using this
   have A:x=none\/g'=none/\hI c h≠none/\pL c (gz (l++[(⟨19,h.text,h.at',0,a.l,y.cond⟩:M)]) y.cond).tail=[]/\gz (l++[(⟨19,h.text,h.at',0,a.l,y.cond⟩:M)]) y.cond≠[]:=by
    rcases d with d|⟨h5,h6,R,Q⟩
    .exact .inl d
    .refine .inr ⟨h5,h6,?_,?_⟩
     .rw[JQ];cases l with
      |nil=>exact absurd rfl Q
      |cons n l=>rw[zw]at R;rw[aU,zw,gW,iA,R];simp[v]
     .cases l with
      |nil=>exact absurd rfl Q
      |cons n l=>simp[gz]
   obtain⟨u,h3,h4⟩:=G _ _ hb _ (.sCalls hd rfl t.tail m k i N F A);refine⟨u,h3,?_⟩;have:=h2.app h4;simpa[triv]using this
def R3(v:bB Z){rec:fL}(G:Good c Z rec)(e:stmt Z rec o h=some r)(hd:Hd Z h)(B:h.cond≠ff):∃q,PV c Z (.stmt o (hI c h)) q/\RR c r q:=by
 unfold stmt at e;have hX:=hd.text;have V:=nF c h;have U:=nH hd.1 B;by_cases h1:h.text=nq
 .rw[ah h1]at e;obtain⟨q,m,y⟩:=G _ _ e _ (.vrb U V);cases t:h.cond.at' c with
  |false=>rw[gT t]at m |-;have:=PV.noneVar m;subst this;exact⟨triv,PV.step0 fun r=>rfl,y⟩
  |true=>rw[gU t]at m |-;rw[hX]at h1;exact⟨q,m.step1 fun r hr=>by simp only[aB,kP];rw[ah h1];exact hr,y⟩
 rw[ab h1]at e;by_cases h2:h.text=eN
 .rw[ah h2]at e;obtain⟨q,m,y⟩:=G _ _ e _ (.branch hd B rfl);cases t:h.cond.at' c with
  |false=>rw[gT t]at m |-;have:=PV.noneBranch m;subst this;exact⟨triv,PV.step0 fun r=>rfl,y⟩
  |true=>rw[gU t]at m |-;rw[hX]at h1 h2;exact⟨q,m.step1 fun r hr=>by simp only[aB,kP];rw[ab h1,ah h2];exact hr,y⟩
 rw[ab h2]at e;by_cases h3:h.text=uq
 .rw[ah h3]at e;simp only[cG,eP,bf]at e;obtain⟨a,ha,b,hb,l1,z,l2,ac,rfl⟩:=e;have:=fH z;subst this;have:=fH ac;subst this;obtain⟨x,m,s⟩:=G _ _ ha _ (.inside U V);obtain⟨C,y,u⟩:=G _ _ hb _ (.block s.fok s.f);have R:RR c ⟨give (give [gC 9 h 0] a.l) b.l,b.f,a.e++b.e⟩ ⟨give (give (jp 9 (hI c h) 0) x.l) C.l,C.p,x.e++C.e⟩:=
   ⟨u.fok,jM (jM (CE hd.1 9 0) s.lok) u.lok,fy.2 ⟨s.eok,u.eok⟩,by rw[jN,jN,CC,s.l,u.l],u.f,by rw[eI,s.e,u.e]⟩
  cases t:h.cond.at' c with
  |false=>rw[gT t]at m R |-;have:=PV.noneInside m;subst this;have:=PV.noneBlock y;subst this;exact⟨triv,PV.step0 fun r=>rfl,R⟩
  |true=>rw[gU t]at m R |-;rw[hX]at h1 h2 h3;refine⟨_,m.step2 y fun r e1 e2=>?_,R⟩;simp only[aB,kP];rw[ab h1,ab h2,ah h3];simp only[df]at e1;rw[e1];simp only[cG,dD];rw[e2];rfl
 rw[ab h3]at e;by_cases h4:h.text=qY
 .rw[ah h4]at e;obtain⟨q,m,y⟩:=G _ _ e _ (.block (si hd.1 B) (sf c h));cases t:h.cond.at' c with
  |false=>rw[gT t]at m |-;have:=PV.noneBlock m;subst this;exact⟨triv,PV.step0 fun r=>rfl,y⟩
  |true=>rw[gU t]at m |-;rw[hX]at h1 h2 h3 h4;exact⟨q,m.step1 fun r hr=>by simp only[aB,kP];rw[ab h1,ab h2,ab h3,ah h4];exact hr,y⟩
 rw[ab h4]at e;by_cases h5:h.text=uo
 .rw[ah h5]at e;obtain⟨H,L,J,I⟩:=pi v U V (be Z bT) (qq bT);generalize A:bP Z (bY h) (bq bT)=sp at e H L J I;obtain⟨fin,g⟩:=sp;simp only[cG,eP]at e;obtain⟨a,ha,l1,z,e⟩:=e;have:=fH z;subst this;simp only at H L J I;obtain⟨x,m,s⟩:=G _ _ ha _ (.line L I);have jf:aC (fin.foldl joinH a.f):=tO s.fok H.conds;have N:x.p=none\/(((hI c h).map (·+1)).map (nx c Z)).filter (be Z bT)=none:=by
   rcases qi (((hI c h).map (·+1)).map (nx c Z)) (be Z bT)with h|h
   .exact .inr h
   .rw[h]at m;have:=PV.noneLine m;subst this;exact .inl rfl
  have ja:=At.joinH s.fok H.conds s.f J N;obtain⟨P,t2,t3,t4⟩:=Cj v jf ja bT;generalize A:Syn.take Z (fin.foldl joinH a.f) bT=sp at e P t2 t3 t4;obtain⟨S,e2⟩:=sp;simp only[bf]at e;subst e;have R:RR c ⟨give [gC 10 h 0] a.l,S,a.e++e2⟩ ⟨give (jp 10 (hI c h) 0) x.l,(di Z c (x.p.or ((((hI c h).map (·+1)).map (nx c Z)).filter (be Z bT))) bT).1,x.e++(di Z c (x.p.or ((((hI c h).map (·+1)).map (nx c Z)).filter (be Z bT))) bT).2⟩:=
   ⟨P,jM (CE hd.1 10 0) s.lok,fy.2 ⟨s.eok,t2⟩,by rw[jN,CC,s.l],t3,by rw[eI,s.e,t4]⟩
  cases t:h.cond.at' c with
  |false=>rw[gT t]at m R |-;have:=PV.noneLine m;subst this;exact⟨triv,PV.step0 fun r=>rfl,R⟩
  |true=>rw[gU t]at m R |-;rw[hX]at h1 h2 h3 h4 h5;refine⟨_,m.step1 fun r e1=>?_,R⟩;simp only[aB,kP];rw[ab h1,ab h2,ab h3,ab h4,ah h5];simp only[o3];simp only[df]at e1 |-;rw[e1];rfl
 rw[ab h5]at e;by_cases h6:h.text=um\/h.text=jP
 .rw[ah h6]at e;simp only[cG,eP]at e;obtain⟨a,ha,l1,z,e⟩:=e;have:=fH z;subst this;obtain⟨x,m,s⟩:=G _ _ ha _ (.line U V);have ht:=RR.take (rec:=rec) v s bT;generalize A:Syn.take Z a.f bT=sp at e ht;obtain⟨S,e2⟩:=sp;simp only[bf]at e;subst e;have R:∀kd,RR c ⟨give [gC kd h 0] a.l,S,a.e++e2⟩ ⟨give (jp kd (hI c h) 0) x.l,(di Z c x.p bT).1,x.e++(di Z c x.p bT).2⟩:=fun kd=>
   ⟨ht.fok,jM (CE hd.1 kd 0) s.lok,ht.eok,by rw[jN,CC,s.l],ht.f,ht.e⟩
  have R:=R (if h.text=jP then 12 else 11);cases t:h.cond.at' c with
  |false=>rw[gT t]at m R |-;have:=PV.noneLine m;subst this;exact⟨triv,PV.step0 fun r=>rfl,R⟩
  |true=>rw[gU t]at m R |-;rw[hX]at h1 h2 h3 h4 h5 h6 R;rw[hX];refine⟨_,m.step1 fun r e1=>?_,R⟩;simp only[aB,kP];rw[ab h1,ab h2,ab h3,ab h4,ab h5,ah h6];simp only[df]at e1;rw[e1];rfl
 rw[ab h6]at e;have F:=vN v (si hd.1 B) (sf c h) 7 0;have aa:(named Z (bL h) 7 0).l.tail=[]:=by rw[Kt v hd B];split<;>rfl
 dsimp only at e;by_cases T:(named Z (bL h) 7 0).l=[]
 .rw[ah T]at e;cases e
  have hp:(bX Z c (hI c h) 7 0).l=[]:=by rw[<-F.l,T];rfl
  have Q:(bX Z c (hI c h) 7 0).p=none:=by
   unfold bX at hp |-;generalize (hI c h).map (nx c Z)=w at hp |-;cases w with
   |none=>rfl
   |some i=>
    by_cases hh:K Z i≠1\/fI (X Z i)=true
    .simp only[ah hh]
    .simp only[ab hh]at hp;cases hp
  have R:RR c ⟨[],[],(named Z (bL h) 7 0).e⟩ ⟨[],none,(bX Z c (hI c h) 7 0).e⟩:=⟨aC.nil,trivial,F.eok,rfl,rfl,F.e⟩;cases t:h.cond.at' c with
  |false=>rw[gT t]at R |-;exact⟨triv,PV.step0 fun r=>rfl,R⟩
  |true=>
   rw[gU t]at R hp Q |-;rw[hX]at h1 h2 h3 h4 h5 h6;have an:∀(n:Nat),(∀r:jU,True):=fun _ _=>trivial;refine⟨⟨[],none,(bX Z c (some h.at') 7 0).e⟩,?_,R⟩;have W:PV c Z (.line 0 o none 0) triv:=by
    have z6:PV c Z (.unary o none 0) triv:=(PV.step0 fun r=>rfl:PV c Z (.unaryH o none 0) triv).step1 fun r hr=>by simp only[aB,vW];exact hr
    have zk:∀k,k<=5->PV c Z (.line (5-k) o none 0) triv:=by
     intro k
     induction k with
     |zero=>intro _;exact z6.step1 fun r hr=>by simp only[aB,mZ,ah];exact hr
     |succ k ih=>
      intro hk;have ih:=ih O;have e5:5-(k+1)+1=5-k:=O;have zl:PV c Z (.lineL (5-(k+1)) o 0 true [] none none) triv:=PV.step0 fun r=>rfl;exact ih.step2 zl fun r s u=>by simp only[aB,mZ];rw[ab O,e5,s];simp only[triv]at u |-;simp only[cG,dD];rw[u];rfl
    exact zk 5 O
   have z2:PV c Z (.sCalls o (some h.at') none [] none) ⟨[],none,[]⟩:=PV.step0 fun r=>rfl;refine W.step2 z2 fun r s u=>?_;simp only[aB,kP];rw[ab h1,ab h2,ab h3,ab h4,ab h5,ab h6];simp only[hp,Q,bv,kX,Option.filter_none,Fc,s,cG,dD];simp only[triv,give,List.map_nil,u,dD,Fc];simp
 rw[ab T]at e;obtain⟨H,L,J,I⟩:=pi v F.fok F.f (be Z cq) (qq cq);generalize A:bP Z (named Z (bL h) 7 0).f (bq cq)=sp at e H L J I;obtain⟨xs,g⟩:=sp;simp only at H L J I e;obtain⟨P,t2,t3,t4⟩:=Cj v L I iC;generalize A:Syn.take Z g iC=sp at e P t2 t3 t4;obtain⟨g1,e1⟩:=sp;simp only[cG,eP]at e P t2 t3 t4;obtain⟨b,hb,l1,z,d,am,e⟩:=e;have:=fH z;subst this;obtain⟨x,m,s⟩:=G _ _ hb _ (.line P t3);have N:(((bX Z c (hI c h) 7 0).p.map (nx c Z)).filter (be Z cq))=none\/x.p=none/\hI c h≠none/\pL c (give (named Z (bL h) 7 0).l b.l).tail=[]/\give (named Z (bL h) 7 0).l b.l≠[]:=by
  rcases qi ((bX Z c (hI c h) 7 0).p.map (nx c Z)) (be Z cq)with h8|h8
  .exact .inl h8
  .cases hy:(((bX Z c (hI c h) 7 0).p.map (nx c Z)).filter (be Z cq))with
   |none=>exact .inl rfl
   |some j=>
    refine .inr ⟨?_,fun hi=>?_,?_,?_⟩
    .rw[h8]at m;simp only[Fc]at m;have:=PV.noneLine m;subst this;rfl
    .rw[hi]at hy;simp[bX]at hy
    .have:(give (named Z (bL h) 7 0).l b.l).tail=[]:=by unfold give;rw[<-List.map_tail,aa];rfl
     rw[this];rfl
    .unfold give;simpa using T
 obtain⟨C,y,u⟩:=G _ _ am _ (.sCalls hd rfl H J (jM F.lok s.lok) (by rw[jN,F.l,s.l]) s.fok s.f N);obtain⟨u1,u2,u3,u4⟩:=Cj v u.fok u.f bT;generalize A:Syn.take Z d.f bT=sp at e u1 u2 u3 u4;obtain⟨S,e2⟩:=sp;simp only[bf]at e;subst e;have R:RR c ⟨d.l,S,(named Z (bL h) 7 0).e++e1++b.e++d.e++e2⟩ ⟨C.l,(di Z c C.p bT).1,(bX Z c (hI c h) 7 0).e++(di Z c (((bX Z c (hI c h) 7 0).p.map (nx c Z)).filter fun i=>!be Z cq i) iC).2++x.e++C.e++(di Z c C.p bT).2⟩:=
  ⟨u1,u.lok,fy.2 ⟨fy.2 ⟨fy.2 ⟨fy.2 ⟨F.eok,t2⟩,s.eok⟩,u.eok⟩,u2⟩,u.l,u3,by rw[eI,eI,eI,eI,F.e,t4,s.e,u.e,u4]⟩
 cases t:h.cond.at' c with
 |false=>rw[gT t]at m y R |-;have:=PV.noneLine m;subst this;have:C=triv:=y.det (PV.step0 fun r=>rfl);subst this;exact⟨triv,PV.step0 fun r=>rfl,R⟩
 |true=>rw[gU t]at m y R |-;rw[hX]at h1 h2 h3 h4 h5 h6;refine⟨_,m.step2 y fun r W z2=>?_,R⟩;simp only[aB,kP];rw[ab h1,ab h2,ab h3,ab h4,ab h5,ab h6];simp only[o3,W,cG,dD];rw[z2];rfl
def Lh(a:bB Z):∀n,Good c Z (run Z n)
 |0=>fun x r e=>by cases e
 |n+1=>fun x r e y hr=>by
  have G:=Lh a n;have e:step Z (run Z n) x=some r:=e;cases hr with
  |line h1 h2=>exact RV a G e h1 h2
  |lineL h1 h2 h3 h4 h5 h6 b=>exact RW a G e h1 h2 h3 h4 h5 h6 b
  |lineO h1 h2 h3 h4 h5 h6 b=>exact RX a G e h1 h2 h3 h4 h5 h6 b
  |unary h1 h2=>exact R4 a G e h1 h2
  |unaryH h1 h2 h3=>subst h3;exact R5 a G e h1 h2
  |calls h1 h3 h4 h5 h6 b g f d=>subst h3;exact RO a G e h1 h4 h5 h6 b g f d
  |inside h1 h2=>exact RT a G e h1 h2
  |listed h1 h2=>exact RZ a G e h1 h2
  |listL h1 h2 h3 h4 h5 h6 b=>exact RY a G e h1 h2 h3 h4 h5 h6 b
  |item h1 h2=>exact RU a G e h1 h2
  |behind h1 h2=>exact RK a G e h1 h2
  |vrb h1 h2=>exact R6 a G e h1 h2
  |function h1 h2=>exact RQ a G e h1 h2
  |block h1 h2=>exact RL a G e h1 h2
  |seqL h1 h2 h3 h4 h5 h6 b=>exact R2 a G e h1 h2 h3 h4 h5 h6 b
  |stmt h1 h2 h3=>subst h3;exact R3 a G e h1 h2
  |sCalls h1 h3 h4 h5 h6 b g f d=>subst h3;exact R1 a G e h1 h4 h5 h6 b g f d
  |branch h1 h2 h3=>subst h3;exact RM a G e h1 h2
  |elses h1 h2 h3 h4 h5 h6 b=>exact RP a G e h1 h2 h3 h4 h5 h6 b
  |ifs h1 h2 h3 h4 h5 h6 b=>exact RS a G e h1 h2 h3 h4 h5 h6 b
end
open Dg
structure SO{K:Type}(lt:K->K->Bool):Prop where
 irr:∀a,lt a a=false
 tr:∀a b c,lt a b=true->lt b c=true->lt a c=true
 tri:∀a b,lt a b=false->lt b a=false->a=b
section
variable {K:Type} {lt:K->K->Bool}
def nm(lt:K->K->Bool)(k:K):List K->List K
 | []=>[k]
 |x::l=>if lt k x then k::x::l else if lt x k then x::nm lt k l else x::l
def n7(lt:K->K->Bool)(l:List K):List K:=l.foldr (nm lt) []
def Fw(so:SO lt){k x:K}:∀{l:List K},x∈nm lt k l<->x=k\/x∈l
 | []=>by simp[nm]
 |y::l=>by
  simp only[nm];split
  .simp
  .split
   .rw[ku,Fw so,ku];constructor
    .rintro(h|h|h)
     .exact .inr (.inl h)
     .exact .inl h
     .exact .inr (.inr h)
    .rintro(h|h|h)
     .exact .inr (.inl h)
     .exact .inl h
     .exact .inr (.inr h)
   .rename_i h1 h2;have:=so.tri k y (by simpa using h1) (by simpa using h2);subst this;simp
def Lm(so:SO lt){k:K}:∀{l:List K},l.Pairwise (fun a b=>lt a b=true)->(nm lt k l).Pairwise (fun a b=>lt a b=true)
 | [],_=>by simp[nm]
 |y::l,h=>by
  rw[mz]at h;simp only[nm];split
  .rename_i h1;refine List.pairwise_cons.2 ⟨fun z c=>?_,List.pairwise_cons.2 h⟩;rcases List.mem_cons.1 c with e|e
   .subst e;exact h1
   .exact so.tr _ _ _ h1 (h.1 z e)
  .split
   .rename_i h1 h2;refine List.pairwise_cons.2 ⟨fun z c=>?_,Lm so h.2⟩;rcases(Fw so).1 c with e|e
    .subst e;exact h2
    .exact h.1 z e
   .exact List.pairwise_cons.2 h
def wl(so:SO lt){x:K}:∀{l:List K},x∈n7 lt l<->x∈l
 | []=>Iff.rfl
 |y::l=>by show x∈nm lt y (n7 lt l)<->_;rw[Fw so,wl so,ku]
def pe(so:SO lt):∀(l:List K),(n7 lt l).Pairwise (fun a b=>lt a b=true)
 | []=>List.Pairwise.nil
 |_::l=>Lm so (pe so l)
def yP(so:SO lt):∀{l m:List K},l.Pairwise (fun a b=>lt a b=true)->m.Pairwise (fun a b=>lt a b=true)->(∀x,x∈l<->x∈m)->l=m
 | [],[],_,_,_=>rfl
 | [],y::m,_,_,h=>absurd ((h y).2 (.head _)) dJ
 |x::l,[],_,_,h=>absurd ((h x).1 (.head _)) dJ
 |x::l,y::m,h1,h2,h=>by
  rw[mz]at h1 h2;have e:x=y:=by
   rcases List.mem_cons.1 ((h x).1 (.head _))with e|e
   .exact e
   .rcases List.mem_cons.1 ((h y).2 (.head _))with e2|e2
    .exact e2.symm
    .have:=so.tr _ _ _ (h1.1 y e2) (h2.1 x e);rw[so.irr]at this;cases this
  subst e;congr 1;refine yP so h1.2 h2.2 fun z=>?_;constructor
  .intro c;rcases List.mem_cons.1 ((h z).1 (.tail _ c))with e|e
   .subst e;have:=h1.1 z c;rw[so.irr]at this;cases this
   .exact e
  .intro c;rcases List.mem_cons.1 ((h z).2 (.tail _ c))with e|e
   .subst e;have:=h2.1 z c;rw[so.irr]at this;cases this
   .exact e
end
structure eQ where
 slot:Int
 tok:Int
 kind:Nat
 text:au
deriving DecidableEq
def M.key(n:M):eQ:=⟨n.slot,n.tok,n.kind,n.text⟩
def iY:au->au->Bool
 |_,[]=>false
 | [],_::_=>true
 |a::l,b::m=>if a.toNat<b.toNat then true else if b.toNat<a.toNat then false else iY l m
def ze:SO iY where
 irr:=by
  intro a
  induction a with
  |nil=>rfl
  |cons x a d=>simp[iY,d]
 tr:=by
  intro a
  induction a with
  |nil=>
   intro b c h1 h2;cases c with
   |nil=>cases b<;>simp[iY]at h2
   |cons z c=>rfl
  |cons x a d=>
   intro b c h1 h2;cases b with
   |nil=>simp[iY]at h1
   |cons y b=>
    cases c with
    |nil=>simp[iY]at h2
    |cons z c=>
     simp only[iY]at h1 h2 |-;by_cases e1:x.toNat<y.toNat
     .by_cases e2:y.toNat<z.toNat
      .rw[ah O]
      .rw[ab e2]at h2;by_cases e:z.toNat<y.toNat
       .rw[ah e]at h2;cases h2
       .rw[ah O]
     .rw[ab e1]at h1;by_cases f:y.toNat<x.toNat
      .rw[ah f]at h1;cases h1
      .rw[ab f]at h1;by_cases e2:y.toNat<z.toNat
       .rw[ah O]
       .rw[ab e2]at h2;by_cases e:z.toNat<y.toNat
        .rw[ah e]at h2;cases h2
        .rw[ab e]at h2;rw[ab O,ab O];exact d b c h1 h2
 tri:=by
  intro a
  induction a with
  |nil=>
   intro b h1 h2;cases b with
   |nil=>rfl
   |cons y b=>simp[iY]at h1
  |cons x a d=>
   intro b h1 h2;cases b with
   |nil=>simp[iY]at h2
   |cons y b=>
    simp only[iY]at h1 h2;by_cases e1:x.toNat<y.toNat
    .rw[ah e1]at h1;cases h1
    .by_cases e2:y.toNat<x.toNat
     .rw[ah e2]at h2;cases h2
     .rw[ab e1,ab e2]at h1;rw[ab e2,ab e1]at h2;have:x=y:=UInt8.toNat_inj.1 O;rw[this,d b h1 h2]
def kf(a b:eQ):Bool:=
 if a.slot<b.slot then true else if b.slot<a.slot then false else
 if a.tok<b.tok then true else if b.tok<a.tok then false else
 if a.kind<b.kind then true else if b.kind<a.kind then false else iY a.text b.text
def mV:SO kf where
 irr:=by intro a;simp[kf,ze.irr]
 tr:=by
  intro a b c;unfold kf;have ht:=ze.tr a.text b.text c.text;intro h1 h2;by_cases s:a.slot<c.slot
  .rw[ah s]
  .rw[ab s];by_cases i:a.slot<b.slot
   .by_cases a2:b.slot<c.slot
    .omega
    .rw[ab a2,ah (show c.slot<b.slot by omega)]at h2;cases h2
   .rw[ab i]at h1;by_cases a2:b.slot<a.slot
    .rw[ah a2]at h1;cases h1
    .rw[ab a2]at h1;by_cases a3:b.slot<c.slot
     .omega
     .rw[ab a3]at h2;by_cases a4:c.slot<b.slot
      .rw[ah a4]at h2;cases h2
      .rw[ab a4]at h2;rw[ab (show ¬c.slot<a.slot by omega)];by_cases t:a.tok<c.tok
       .rw[ah t]
       .rw[ab t];by_cases g:a.tok<b.tok
        .by_cases d:b.tok<c.tok
         .omega
         .rw[ab d,ah (show c.tok<b.tok by omega)]at h2;cases h2
        .rw[ab g]at h1;by_cases d:b.tok<a.tok
         .rw[ah d]at h1;cases h1
         .rw[ab d]at h1;by_cases f:b.tok<c.tok
          .omega
          .rw[ab f]at h2;by_cases e:c.tok<b.tok
           .rw[ah e]at h2;cases h2
           .rw[ab e]at h2;rw[ab (show ¬c.tok<a.tok by omega)];by_cases k:a.kind<c.kind
            .rw[ah k]
            .rw[ab k];by_cases c1:a.kind<b.kind
             .by_cases c2:b.kind<c.kind
              .omega
              .rw[ab c2,ah (show c.kind<b.kind by omega)]at h2;cases h2
             .rw[ab c1]at h1;by_cases c2:b.kind<a.kind
              .rw[ah c2]at h1;cases h1
              .rw[ab c2]at h1;by_cases c3:b.kind<c.kind
               .omega
               .rw[ab c3]at h2;by_cases c4:c.kind<b.kind
                .rw[ah c4]at h2;cases h2
                .rw[ab c4]at h2;rw[ab (show ¬c.kind<a.kind by omega)];exact ht h1 h2
 tri:=by
  intro a b h1 h2;unfold kf at h1 h2;have s:a.slot=b.slot:=by
   rcases Int.lt_trichotomy a.slot b.slot with h|h|h
   .rw[ah h]at h1;cases h1
   .exact h
   .rw[ah h]at h2;cases h2
  rw[ab O,ab O]at h1 h2;have t:a.tok=b.tok:=by
   rcases Int.lt_trichotomy a.tok b.tok with h|h|h
   .rw[ah h]at h1;cases h1
   .exact h
   .rw[ah h]at h2;cases h2
  rw[ab O,ab O]at h1 h2;have k:a.kind=b.kind:=by
   rcases s6 a.kind b.kind with h|h|h
   .rw[ah h]at h1;cases h1
   .exact h
   .rw[ah h]at h2;cases h2
  rw[ab O,ab O]at h1 h2;have x:=ze.tri _ _ h1 h2;cases a;cases b;simp_all
def gI(a b:Int×Nat):Bool:=if a.1<b.1 then true else if b.1<a.1 then false else decide (a.2<b.2)
def j6:SO gI where
 irr:=by intro a;simp[gI]
 tr:=by
  intro a b c;unfold gI;intro h1 h2;by_cases s:a.1<c.1
  .rw[ah s]
  .rw[ab s];by_cases d:a.1<b.1
   .rw[ab (show ¬b.1<c.1 by omega),ah (show c.1<b.1 by omega)]at h2;cases h2
   .rw[ab d]at h1;by_cases a2:b.1<a.1
    .rw[ah a2]at h1;cases h1
    .rw[ab a2]at h1;rw[ab (show ¬b.1<c.1 by omega)]at h2;by_cases a4:c.1<b.1
     .rw[ah a4]at h2;cases h2
     .rw[ab a4]at h2;rw[ab (show ¬c.1<a.1 by omega)];simp only[dE]at *;omega
 tri:=by
  intro a b h1 h2;unfold gI at h1 h2;have s:a.1=b.1:=by
   rcases Int.lt_trichotomy a.1 b.1 with h|h|h
   .rw[ah h]at h1;cases h1
   .exact h
   .rw[ah h]at h2;cases h2
  rw[ab O,ab O]at h1 h2;simp only[CK]at h1 h2;exact Prod.ext s O
def dI(k:eQ)(n:M):Bool:=decide (n.key=k) && decide (n.cond≠ff)
def ks(l:List M):List eQ:=n7 kf ((l.filter fun n=>decide (n.cond≠ff)).map M.key)
def eC(l:List M)(k:eQ):List M:=(l.filter (dI k)).flatMap (·.kids)
def iI(l:List M)(k:eQ):T:=(l.filter (dI k)).foldl (fun d n=>d.or n.cond) ff
def cR:Nat->List M->List M
 |0,_=>[]
 |d+1,l=>(ks l).map fun k=>⟨k.kind,k.text,k.tok,k.slot,cR d (eC l k),iI l k⟩
mutual
def mO:M->Nat
 |⟨_,_,_,_,ks,_⟩=>cJ ks+1
def cJ:List M->Nat
 | []=>0
 |n::l=>max (mO n) (cJ l)
end
def qe(n:M):mO n=cJ n.kids+1:=by cases n;rfl
def r0{n:M}:∀{l:List M},n∈l->mO n<=cJ l
 | [],h=>(dJ h).elim
 |m::l,h=>by
  simp only[cJ];rcases List.mem_cons.1 h with e|e
  .subst e;omega
  .have:=r0 e;omega
def HQ{b:Nat}:∀{l:List M},(∀n∈l,mO n<=b)->cJ l<=b
 | [],_=>aE _
 |m::l,h=>by have h1:=h m (.head _);have h2:=HQ fun n a=>h n (.tail _ a);simp only[cJ];omega
variable{k:eQ}{l:List M}
def vJ{x:M}(h:x∈eC l k):∃n∈l,n.key=k/\n.cond≠ff/\x∈n.kids:=by obtain⟨n,b,a⟩:=List.mem_flatMap.1 h;obtain⟨h1,h2⟩:=List.mem_filter.1 b;simp only[dI,cZ,dE]at h2;exact⟨n,h1,h2.1,h2.2,a⟩
def HR{d:Nat}(h:cJ l<=d+1):cJ (eC l k)<=d:=HQ fun x a=>by obtain⟨n,b,_,_,a⟩:=vJ a;have h1:=r0 b;rw[qe]at h1;have h2:=r0 a;omega
def ER(h:cJ l=0):l=[]:=by
 cases l with
 |nil=>rfl
 |cons n l=>simp only[cJ,qe]at h;omega
def x5(d:Nat):cR d []=[]:=by cases d<;>rfl
def Bf:∀{d e:Nat} {l:List M},cJ l<=d->d<=e->cR e l=cR d l
 |0,e,l,h,_=>by rw[ER (Nat.le_zero.1 h),x5,x5]
 |d+1,0,l,h,h2=>by omega
 |d+1,e+1,l,h,h2=>by simp only[cR];refine nu fun k _=>?_;rw[Bf (HR h) O]
def tV:k∈ks l<->∃n∈l,n.key=k/\n.cond≠ff:=by
 unfold ks;rw[wl mV];simp only[my,kw,dE];constructor
 .rintro⟨n,⟨h1,h2⟩,h3⟩;exact⟨n,h1,h3,h2⟩
 .rintro⟨n,h1,h3,h2⟩;exact⟨n,⟨h1,h2⟩,h3⟩
def nD(a b:T):Prop:=∀c,a.at' c=true->b.at' c=true
mutual
def wN:M->Prop
 |⟨_,_,_,_,ks,d⟩=>wL d ks
def wL:T->List M->Prop
 |_,[]=>True
 |d,n::l=>(nD n.cond d/\wN n)/\wL d l
end
def Cy{d:T}:wL d l<->∀n∈l,nD n.cond d/\wN n:=by
 induction l with
 |nil=>simp[wL]
 |cons n l a=>simp[wL,a]
def Gr(n:M):wN n<->wL n.cond n.kids:=by cases n;rfl
def Ed{c:aF}:∀{l:List M} {z:T},z.ok 0->(∀n∈l,n.cond.ok 0)->(l.foldl (fun d n=>d.or n.cond) z).ok 0/\(l.foldl (fun d n=>d.or n.cond) z).at' c=(z.at' c || l.any fun n=>n.cond.at' c)
 | [],z,a,_=>⟨a,by simp⟩
 |n::l,z,a,h=>by have b:=h n (.head _);have:=Ed (c:=c) (l:=l) (z:=z.or n.cond) (T.or_ok a b) fun m hm=>h m (.tail _ hm);refine⟨this.1,?_⟩;simp only[g7,List.any_cons];rw[this.2,T.or_at a b,Bool.or_assoc]
def Pg(h:cF l):(iI l k).ok 0:=(Ed (c:=fun _=>false) (z:=ff) trivial fun n a=>(jm.1 (kg.1 h n (List.mem_filter.1 a).1)).1).1
def Ak{c:aF}(h:cF l):(iI l k).at' c=true<->∃n∈l,n.key=k/\n.cond.at' c=true:=by
 have h1:=(Ed (c:=c) (l:=l.filter (dI k)) (z:=ff) trivial fun n a=>(jm.1 (kg.1 h n (List.mem_filter.1 a).1)).1).2;unfold iI;rw[h1,C3,lH,List.any_eq_true];simp only[kw,dI,cZ,dE];constructor
 .rintro⟨n,⟨h1,h2,_⟩,h3⟩;exact⟨n,h1,h2,h3⟩
 .rintro⟨n,h1,h2,h3⟩;exact⟨n,⟨h1,h2,fun e=>by rw[e]at h3;cases h3⟩,h3⟩
def ly{c:aF}{m:M}:∀{l:List M},m∈pL c l<->∃n∈l,n.cond.at' c=true/\m={ n with kids:=pL c n.kids,cond:=tt }
 | []=>by simp[pL]
 |n::l=>by
  rw[eD];split
  .rename_i h;simp only[ku,ly (l:=l)];constructor
   .rintro(e|⟨x,h1,h2,h3⟩)
    .exact⟨n,.inl rfl,h,e⟩
    .exact⟨x,.inr h1,h2,h3⟩
   .rintro⟨x,e|h1,h2,h3⟩
    .subst e;exact .inl h3
    .exact .inr ⟨x,h1,h2,h3⟩
  .rename_i h;simp only[ly (l:=l),ku];constructor
   .rintro⟨x,h1,h2,h3⟩;exact⟨x,.inr h1,h2,h3⟩
   .rintro⟨x,e|h1,h2,h3⟩
    .subst e;exact absurd h2 h
    .exact⟨x,h1,h2,h3⟩
def Gf:tt≠ff:=by decide
def vV{c:aF}:∀{l:List M},(∀n∈l,n.cond.at' c=false)->pL c l=[]
 | [],_=>rfl
 |n::l,h=>by rw[eD,h n (.head _),ab af,vV fun m hm=>h m (.tail _ hm)]
def T1{c:aF}(f:∀n∈l,wN n):pL c (eC l k)=eC (pL c l) k:=by
 unfold eC
 induction l with
 |nil=>rfl
 |cons n l g=>
  have h:=(Gr n).1 (f n (.head _));have h2:=g fun m hm=>f m (.tail _ hm);rw[eD];by_cases a:n.cond.at' c=true
  .rw[ah a];have d:n.cond≠ff:=fun e=>by rw[e]at a;cases a
   by_cases b:n.key=k
   .have e1:dI k n=true:=by simp[dI,b,d]
    have e2:dI k { n with kids:=pL c n.kids,cond:=tt }=true:=by have:M.key { n with kids:=pL c n.kids,cond:=tt }=n.key:=rfl;simp[dI,this,b,Gf]
    rw[List.filter_cons_of_pos e1,List.filter_cons_of_pos e2,pC,pC,gW,h2]
   .have e1:¬dI k n=true:=by simp[dI,b]
    have e2:¬dI k { n with kids:=pL c n.kids,cond:=tt }=true:=by have:M.key { n with kids:=pL c n.kids,cond:=tt }=n.key:=rfl;simp[dI,this,b]
    rw[List.filter_cons_of_neg e1,List.filter_cons_of_neg e2,h2]
  .rw[ab a];by_cases e1:dI k n=true
   .rw[List.filter_cons_of_pos e1,pC,gW,h2,vV,aQ];intro m hm;cases e:m.cond.at' c with
    |false=>rfl
    |true=>exact absurd ((Cy.1 h m hm).1 c e) a
   .rw[List.filter_cons_of_neg e1,h2]
def H6{K:Type}{R:K->K->Prop}{p:K->Bool}{l:List K}(h:l.Pairwise R):(l.filter p).Pairwise R:=h.sublist List.filter_sublist
def JH{c:aF}(a:cF l):(ks l).filter (fun k=>(iI l k).at' c)=ks (pL c l):=by
 refine yP mV (H6 (pe mV _)) (pe mV _) fun k=>?_;rw[kw,Ak a,tV,tV];constructor
 .rintro⟨_,n,h1,h2,h3⟩;exact⟨_,ly.2 ⟨n,h1,h3,rfl⟩,h2,Gf⟩
 .rintro⟨m,h1,h2,h3⟩;obtain⟨n,h4,h5,e⟩:=ly.1 h1;have h6:n.key=k:=by rw[<-h2,e];rfl
  exact⟨⟨n,h4,h6,fun e=>by rw[e]at h5;cases h5⟩,n,h4,h6,h5⟩
def yf(h:cF l):cF (eC l k):=kg.2 fun x a=>by obtain⟨n,b,_,_,a⟩:=vJ a;exact kg.1 (jm.1 (kg.1 h n b)).2 x a
def Ph{c:aF}(g:cF l)(h:(iI l k).at' c=true):iI (pL c l) k=tt:=by
 have key:∀(m:List M),(∀n∈m,n.cond=tt)->∀z:T,(z=tt\/m≠[])->(z=tt\/z=ff)->m.foldl (fun d n=>d.or n.cond) z=tt:=by
  intro m
  induction m with
  |nil=>intro _ z h _;exact h.resolve_right fun h=>h rfl
  |cons n m a=>
   intro hm z _ b;simp only[g7];have e:z.or n.cond=tt:=by rw[hm n (.head _)];rcases b with e|e<;>subst e<;>rfl
   exact a (fun x f=>hm x (.tail _ f)) _ (.inl e) (.inl e)
 obtain⟨n,h1,h2,h3⟩:=(Ak g).1 h;refine key _ (fun m hm=>?_) ff (.inr fun e=>?_) (.inr rfl)
 .obtain⟨x,_,_,e⟩:=ly.1 (List.mem_filter.1 hm).1;rw[e]
 .have:({ n with kids:=pL c n.kids,cond:=tt }:M)∈(pL c l).filter (dI k):=List.mem_filter.2 ⟨ly.2 ⟨n,h1,h3,rfl⟩,by have:M.key { n with kids:=pL c n.kids,cond:=tt }=n.key:=rfl;simp[dI,this,h2,Gf]⟩
  rw[e]at this;exact dJ this
def KM{α:Type}{c:aF}{g:α->M}:∀(l:List α),pL c (l.map g)=(l.filter fun a=>(g a).cond.at' c).map fun a=>{ g a with kids:=pL c (g a).kids,cond:=tt }
 | []=>rfl
 |a::l=>by rw[iq,eD,KM l,ip];split<;>rfl
def Gs(h:∀n∈l,wN n):∀n∈eC l k,wN n:=fun x a=>by obtain⟨n,b,_,_,a⟩:=vJ a;exact(Cy.1 ((Gr n).1 (h n b)) x a).2
def Be(c:aF):∀(d:Nat) {l:List M},cF l->(∀n∈l,wN n)->pL c (cR d l)=cR d (pL c l)
 |0,_,_,_=>rfl
 |d+1,l,a,b=>by simp only[cR];rw[KM,JH a];refine nu fun k e=>?_;rw[<-JH a,kw]at e;rw[Ph a e.2];show (⟨k.kind,k.text,k.tok,k.slot,pL c (cR d (eC l k)),tt⟩:M)=_;rw[Be c d (yf a) (Gs b),T1 b]
mutual
def en(d:T):List M->List M
 | []=>[]
 |n::l=>match LW d n with
  |some m=>m::en d l
  |none=>en d l
def LW (d:T):M->Option M
 |⟨k,t,o,s,ks,c⟩=>if c.and d=ff then none else some ⟨k,t,o,s,en (c.and d) ks,c.and d⟩
end
def yU(d:T)(n:M)(l:List M):en d (n::l)=if n.cond.and d=ff then en d l else { n with kids:=en (n.cond.and d) n.kids,cond:=n.cond.and d }::en d l:=by cases n;simp only[en,LW];split<;>rename_i h<;>split at h<;>simp_all
def ww:∀(l:List M) (d:T),d.ok 0->cF l->cF (en d l)/\wL d (en d l)/\(∀n∈en d l,n.cond≠ff)/\∀c,pL c (en d l)=if d.at' c then pL c l else []
 | [],d,hd,i=>⟨trivial,trivial,fun n h=>(dJ h).elim,fun c=>by simp[en,pL]⟩
 |⟨k,t,o,s,ks,e⟩::l,d,hd,i=>by
  have f:=i.1;have g:e.ok 0:=f.1;have a:(e.and d).ok 0:=T.and_ok g hd;obtain⟨m,a2,a3,a4⟩:=ww l d hd i.2;rw[yU];show cF (if e.and d=ff then _ else _)/\_;by_cases hf:e.and d=ff
  .rw[ah hf];refine⟨m,a2,a3,fun c=>?_⟩;rw[a4,eD];split
   .rename_i b;have:(e.and d).at' c=false:=by rw[hf];rfl
    rw[T.and_at g hd,b,rd]at this;show _=if e.at' c then _ else _
    rw[this];rfl
   .rfl
  .rw[ab hf];obtain⟨u,r,v,q⟩:=ww ks (e.and d) a f.2;refine⟨⟨⟨a,u⟩,m⟩,⟨⟨fun c j=>?_,r⟩,a2⟩,fun n f=>?_,fun c=>?_⟩
   .rw[T.and_at g hd,cZ]at j;exact j.2
   .rcases List.mem_cons.1 f with x|x
    .subst x;exact hf
    .exact a3 n x
   .rw[eD,eD,a4,q];show (if (e.and d).at' c then _ else _)=if d.at' c then (if e.at' c then _ else _)else []
    rw[T.and_at g hd];cases b:d.at' c<;>cases p:e.at' c<;>simp
 termination_by l=>sizeOf l
def qg(e:List aI):List (Int×Nat):=n7 gI ((e.filter fun d=>decide (d.cond≠ff)).map fun d=>(d.tok,d.code))
def DM(k:Int×Nat)(d:aI):Bool:=decide ((d.tok,d.code)=k) && decide (d.cond≠ff)
def qd(e:List aI)(k:Int×Nat):T:=(e.filter (DM k)).foldl (fun t d=>t.or d.cond) ff
def iz(e:List aI):List aI:=(qg e).map fun k=>⟨k.2,k.1,qd e k⟩
def Eb{c:aF}:∀{l:List aI} {z:T},z.ok 0->(∀n∈l,n.cond.ok 0)->(l.foldl (fun t d=>t.or d.cond) z).ok 0/\(l.foldl (fun t d=>t.or d.cond) z).at' c=(z.at' c || l.any fun n=>n.cond.at' c)
 | [],z,a,_=>⟨a,by simp⟩
 |n::l,z,a,h=>by have b:=h n (.head _);have:=Eb (c:=c) (l:=l) (z:=z.or n.cond) (T.or_ok a b) fun m hm=>h m (.tail _ hm);refine⟨this.1,?_⟩;simp only[g7,List.any_cons];rw[this.2,T.or_at a b,Bool.or_assoc]
variable{e:List aI}
def HP{k:Int×Nat}(h:jk e):(qd e k).ok 0:=(Eb (c:=fun _=>false) (z:=ff) trivial fun n a=>h n (List.mem_filter.1 a).1).1
def DL{k:Int×Nat}{c:aF}(h:jk e):(qd e k).at' c=true<->∃d∈e,(d.tok,d.code)=k/\d.cond.at' c=true:=by
 have h1:=(Eb (c:=c) (l:=e.filter (DM k)) (z:=ff) trivial fun n a=>h n (List.mem_filter.1 a).1).2;unfold qd;rw[h1,C3,lH,List.any_eq_true];simp only[kw,DM,cZ,dE];constructor
 .rintro⟨n,⟨h1,h2,_⟩,h3⟩;exact⟨n,h1,h2,h3⟩
 .rintro⟨n,h1,h2,h3⟩;exact⟨n,⟨h1,h2,fun e=>by rw[e]at h3;cases h3⟩,h3⟩
def iB(c:aF)(e:List aI):List aI:=(e.filter fun d=>d.cond.at' c).map fun d=>{ d with cond:=tt }
def J9(c:aF)(h:jk e):iB c (iz e)=(n7 gI ((pE c e).map fun x=>(x.2,x.1))).map fun k=>⟨k.2,k.1,tt⟩:=by
 unfold iB iz;rw[List.filter_map,pF];show ((qg e).filter fun k=>(qd e k).at' c).map (fun k=>(⟨k.2,k.1,tt⟩:aI))=_;congr 1;refine yP j6 (H6 (pe j6 _)) (pe j6 _) fun k=>?_;rw[kw,DL h,wl j6];unfold qg;rw[wl j6];simp only[pE,pF,my,kw,dE,Function.comp];constructor
 .rintro⟨_,d,h1,h2,h3⟩;exact⟨d,⟨h1,h3⟩,h2⟩
 .rintro⟨d,⟨h1,h3⟩,h2⟩;exact⟨⟨d,⟨h1,fun e=>by rw[e]at h3;cases h3⟩,h2⟩,d,h1,h2,h3⟩
open Dg
structure Tr where
 kids:List M
 diags:List aI
def prj(c:aF)(t:Tr):Tr:=⟨pL c t.kids,iB c t.diags⟩
def eE(r:aA):List M:=[⟨1,[],-1,0,en (gG r.f) r.l,gG r.f⟩]
def e9:Nat:=2^50
def mD(Z:Zs)(w:T)(t:Tr):Prop:=
 w=ff/\t=⟨[],[]⟩\/w≠ff/\∃r,run Z e9 (.seqL true 0 [(0,w)] [] [])=some r/\t=⟨cR (cJ (eE r)) (eE r),iz r.e⟩
def zW{c:aF}{f:ad}(hf:aC f):(gG f).ok 0/\(gG f).at' c=!(dp c f).isEmpty:=by
 have key:∀(f:ad) (z:T),(∀s∈f,s.2.ok 0)->z.ok 0->(f.foldl (fun d s=>d.or s.2) z).ok 0/\(f.foldl (fun d s=>d.or s.2) z).at' c=(z.at' c || !(dp c f).isEmpty):=by
  intro f
  induction f with
  |nil=>intro z _ a;exact⟨a,by simp[dp]⟩
  |cons s f b=>intro z h a;have hs:=h s (.head _);obtain⟨h1,h2⟩:=b (z.or s.2) (fun t ht=>h t (.tail _ ht)) (T.or_ok a hs);refine⟨h1,?_⟩;simp only[g7];rw[h2,T.or_at a hs,mh];cases z.at' c<;>cases s.2.at' c<;>simp
 obtain⟨h1,h2⟩:=key f ff (fun s hs=>(hf.1 s hs).1) trivial;exact⟨h1,by show (f.foldl _ ff).at' c=_;rw[h2];rfl⟩
variable{r:aA}
def yu(hf:aC r.f)(b:cF r.l):cF (eE r)/\∀n∈eE r,wN n:=by have h1:=(zW (c:=fun _=>false) hf).1;obtain⟨d,a2,_,_⟩:=ww r.l _ h1 b;refine⟨⟨⟨h1,d⟩,trivial⟩,fun n a=>?_⟩;simp only[eE,List.mem_singleton]at a;subst a;exact a2
def Fe{c:aF}{p:Option Nat}(hf:aC r.f)(a:cF r.l)(hp:At c r.f p):pL c (eE r)=if p.isSome then [⟨1,[],-1,0,pL c r.l,tt⟩]else []:=by
 obtain⟨h1,h2⟩:=zW (c:=c) hf;unfold eE;rw[iA];have e:(gG r.f).at' c=p.isSome:=by rw[h2,show dp c r.f=p.toList from hp];cases p<;>rfl
 show (if (gG r.f).at' c=true then _ else _)=_;rw[e,(ww r.l _ h1 a).2.2.2 c,e];cases p<;>rfl
variable{w:T}
def LX(b:w.ok 0)(a:w≠ff):aC [(0,w)]:=⟨fun s hs=>by simp at hs;subst hs;exact⟨b,a⟩,by simp⟩
def Xw(c:aF)(w:T):At c [(0,w)] (if w.at' c then some 0 else none):=At.one c 0 w
def qV{Z:Zs}(a:bB Z)(d:w.ok 0)(b:w≠ff){n:Nat}(e:run Z n (.seqL true 0 [(0,w)] [] [])=some r)(c:aF):
  ∃q,PV c Z (.seqL true 0 (if w.at' c then some 0 else none) [] none) q/\RR c r q:=
 Lh a n _ _ e _ (.seqL (LX d b) (Xw c w) trivial rfl aC.nil (At.nil c) (.inr rfl))
def Fa(c:aF):∀(l:List M),cJ (pL c l)<=cJ l
 | []=>aR _
 |⟨k,t,o,s,ks,d⟩::l=>by
  have h1:=Fa c ks;have h2:=Fa c l;rw[eD];split
  .simp only[cJ,mO];omega
  .simp only[cJ,mO];omega
def Fh(q:PR):Tr:=⟨cR (cJ q.l+1) (if q.p.isSome then [⟨1,[],-1,0,q.l,tt⟩]else []),(n7 gI (q.e.map fun x=>(x.2,x.1))).map fun k=>⟨k.2,k.1,tt⟩⟩
variable{t:Tr}
def DU{Z:Zs}(a:bB Z)(m:w.ok 0)(h:mD Z w t){c:aF}(d:w.at' c=true):∃q,PV c Z (.seqL true 0 (some 0) [] none) q/\prj c t=Fh q:=by
 rcases h with ⟨e,_⟩|⟨b,r,o,n⟩
 .rw[e]at d;cases d
 .obtain⟨q,g,R⟩:=qV a m b o c;rw[d]at g;refine⟨q,g,?_⟩;subst n;unfold prj Fh;obtain⟨j,i⟩:=yu R.fok R.lok;have e1:pL c (cR (cJ (eE r)) (eE r))=cR (cJ q.l+1) (if q.p.isSome then [⟨1,[],-1,0,q.l,tt⟩]else []):=by rw[Be c _ j i];have hd:=Fa c (eE r);rw[Fe R.fok R.lok R.f,R.l]at hd |-;generalize cJ (eE r)=X at hd;rw[Bf (aR _) hd];refine(Bf (aR _) ?_).symm;split<;>simp[cJ,mO]
  have e2:iB c (iz r.e)=(n7 gI (q.e.map fun x=>(x.2,x.1))).map fun k=>⟨k.2,k.1,tt⟩:=by rw[J9 c R.eok,R.e]
  show (⟨pL c (cR (cJ (eE r)) (eE r)),iB c (iz r.e)⟩:Tr)=_;rw[e1,e2]
def DV{Z:Zs}(a:bB Z){v:T}(e:w.ok 0)(hv:v.ok 0){u:Tr}(h:mD Z w t)(k:mD Z v u){c:aF}(f:w.at' c=true)(hd:v.at' c=true):prj c t=prj c u:=by obtain⟨q,h1,h2⟩:=DU a e h f;obtain⟨s,d,b⟩:=DU a hv k hd;rw[h2,b,h1.det d]
def PV.noneSeq{c:aF}{Z:Zs}{top:Bool}{o:Nat}{out:Option Nat}{q:PR}(h:PV c Z (.seqL top o none l out) q):q=⟨l,out,[]⟩:=by refine h.det (PV.step0 fun r=>?_);rfl
def P0{Z:Zs}(a:bB Z)(j:w.ok 0)(h:mD Z w t){c:aF}(k:w.at' c=false):prj c t=⟨[],[]⟩:=by
 rcases h with ⟨_,e⟩|⟨b,r,m,l⟩
 .subst e;rfl
 .obtain⟨q,d,R⟩:=qV a j b m c;rw[k]at d;have:=d.noneSeq;subst this;subst l;obtain⟨i,g⟩:=yu R.fok R.lok;show (⟨pL c (cR (cJ (eE r)) (eE r)),iB c (iz r.e)⟩:Tr)=_;rw[Be c _ i g,Fe R.fok R.lok R.f,J9 c R.eok,R.e];show (⟨cR _ [],_⟩:Tr)=_;rw[x5];rfl
def Xz{Z:Zs}(b:w.ok 0)(a:w≠ff):hZ Z (.seqL true 0 [(0,w)] [] []):=
 ⟨⟨LX b a,fun s hs=>by simp at hs;subst hs;exact aE _⟩,FN.nil _⟩
def Xx{Z:Zs}(w:T)(a:Z.length<=16384):aM Z (.seqL true 0 [(0,w)] [] [])<=ar:=by have h:=w.card_le;have:w.card*(Z.length+1)<=2^24*16385:=Nat.mul_le_mul h O;simp only[aM,lB,gX,lp,bg,Nat.sub_zero];unfold ar;omega
def Xy{Z:Zs}(w:T)(a:Z.length<=16384):mu Z (.seqL true 0 [(0,w)] [] [])<e9:=by have h:=w.card_le;have:w.card*(Z.length+1)<=2^24*16385:=Nat.mul_le_mul h O;simp only[mu,lB,gX,lp,Nat.sub_zero];unfold e9;omega
def XA{Z:Zs}(a:bB Z)(g:w.ok 0)(b:w≠ff)(c:Z.length<=16384):∃r,run Z e9 (.seqL true 0 [(0,w)] [] [])=some r/\FN Z.length r.f/\r.e.length<=ar/\r.l.length<=ar:=by have hb:=Xx w c;obtain⟨r,h,d,i⟩:=Lj a e9 _ (Xz g b) hb (Xy w c);exact⟨r,h,d,O,O⟩
def AZ(l:List Tr):Tr:=⟨cR (cJ (l.flatMap (·.kids))) (l.flatMap (·.kids)),iz (l.flatMap (·.diags))⟩
def aI.key(d:aI):Int×Nat:=(d.tok,d.code)
end Syn
namespace Go.Proofs.YtfaclfkpnmcmlaaGreatDoor
open Go Go.Sx Dg Syn
def JP{I A:PH}{v:Value}{n:M}{l:List M}(h:aw I A v (n::l)):∃g cap cur a k,v=.slice (some ⟨g,0,none⟩) (l.length+1) cap/\A=sg g (.cells cur 60 (0,0))/\7<=cur.size/\a8 A g 5 [sD a k n.cond,rD n.cond]/\bW I (.agg #[sD a k n.cond,rD n.cond]) n.cond/\
  ∀(J:PH) (b:Option Addr) (c:Nat) (d:T),I.le J->bW J (.agg #[sD b c d,rD d]) d->aw J (sg g (.cells (bN cur.toList 5 [sD b c d,rD d]).toArray 60 (0,0))) v ({ n with cond:=d }::l):=by
 obtain⟨g,cap,cur,xs,ev,rfl,c1,c2,c3,c4,c5,j⟩:=h.open' ao ag.len;simp only[bl]at ev c1 c4 c5;have r:=j.get ag.len (i:=0) (a:=n) rfl;obtain⟨y,w,u,s,p,o,t⟩:=r.shape;have x:(l.length+1)*7<=cap*7:=cv _ c1;have f:=qb (k:=5) (m:=2) (e:=60) (g:=g) (cur:=cur) ag.len j (i:=0) ao (by simp;omega) (by simpa using c4) s O;simp only[mq,io,mB,mC,Nat.zero_mul,g8]at f;refine⟨g,cap,cur,w,u,ev,rfl,O,f,p,fun J b c d q hr=>?_⟩;have e:=qy ag.len (j.mono fun _ _ h=>ag.le h q) (i:=0) ao s (k:=5) (cs:=[sD b c d,rD d]) (a:={ n with cond:=d }) ao (ag.mk (n:={ n with cond:=d }) hr (bk.le o q) t);simp only[Nat.zero_mul,g8,zv]at e;refine⟨_,?_,e⟩;rw[ev];exact tZ (by simpa using c5) c1 c2 c3 c4 (by simp;omega)
theorem JN(n:M)(l:List M)(d:T):gz (n::l) d={ n with cond:=n.cond.and d.not }::l:=rfl
end Go.Proofs.YtfaclfkpnmcmlaaGreatDoor
