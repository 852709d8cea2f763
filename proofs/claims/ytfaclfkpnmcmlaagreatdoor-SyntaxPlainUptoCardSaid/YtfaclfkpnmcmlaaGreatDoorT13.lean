import Derived.Test.YtfaclfkpnmcmlaaGreatDoorT07
import Derived.Test.YtfaclfkpnmcmlaaGreatDoorT12
set_option maxHeartbeats 8000000
set_option linter.all false
open Go.Proofs.Tryz
namespace Go.Proofs.YtfaclfkpnmcmlaaGreatDoor
open Go Go.Sx Dg Syn
section
variable {pb:Nat} {ts:List Tok} {lv fv ov:Value}
def uI(ts:List Tok)(par:Bool)(o:Nat)(a:Syn.bW)(m:Nat)(l:List Nd)(g fin:ar)(ee:List cO):Prop:=
 ∃b,Syn.run ts m (.listL par o l g fin)=some b/\b.l=a.l/\b.f=a.f/\ee++b.e=a.e
variable{ee:List cO}{fin:ar}{l:List Nd}{a:Syn.bW}{o m:Nat}{par:Bool}
def tY(h:uI ts par o a m l [] fin ee):l=a.l/\fin=a.f/\ee=a.e:=by
 obtain⟨b,hb,h1,h2,h3⟩:=h;obtain⟨m',rfl,ac⟩:=bR hb;have aa:Syn.listL ts (Syn.run ts m') par o l [] fin=some b:=ac;unfold Syn.listL at aa;simp only at aa;cases aa
 exact⟨h1,h2,by simpa using h3⟩
variable{g:ar}{s:Nat×T}
def xN{b:Syn.bW}(hb:Syn.run ts m (.listL par o l (s::g) fin)=some b):∃m' c b',m=m'+2/\
  Syn.item ts (Syn.run ts m') par o [s]=some c/\(l++c.l).length<=aN/\Syn.run ts (m'+1) (.listL par o (l++c.l) ((aM ts c.f (bD bB)).1.foldl joinH1 g) (Syn.joinAll fin (aM ts c.f (bD bB)).2))=some b'/\b=⟨b'.l,b'.f,c.e++b'.e⟩:=by
 obtain⟨m',rfl,al⟩:=bR hb;have ac:Syn.listL ts (Syn.run ts m') par o l (s::g) fin=some b:=al;unfold Syn.listL at ac;simp only at ac;obtain⟨c,hc,ak⟩:=bU ac;obtain⟨u,hu,aa⟩:=bU ak;obtain⟨more,dn,ag⟩:∃yes g,aM ts c.f (bD bB)=(yes,g):=⟨_,_,rfl⟩;rw[ag]at aa;simp only at aa;obtain⟨b',am,aj⟩:=bU aa;cases aj
 obtain⟨m'',rfl,hi⟩:=bR hc;refine⟨m'',c,b',rfl,hi,qK hu,?_,rfl⟩;rw[ag];exact am
def wI(h:uI ts par o a m l (s::g) fin ee):∃m' c,m=m'+2/\Syn.item ts (Syn.run ts m') par o [s]=some c/\(l++c.l).length<=aN/\
  uI ts par o a (m'+1) (l++c.l) ((aM ts c.f (bD bB)).1.foldl joinH1 g) (Syn.joinAll fin (aM ts c.f (bD bB)).2) (ee++c.e):=by
 obtain⟨b,hb,h1,h2,h3⟩:=h;obtain⟨m',c,b',rfl,hi,hl,aa,rfl⟩:=xN hb;exact⟨m',c,rfl,hi,hl,b',aa,h1,h2,by rw[aaT];exact h3⟩
def zE:∀(n m:Nat),m<=n->∀{par:Bool} {o:Nat} {b:Syn.bW} {l:List Nd} {g fin:ar},Syn.run ts m (.listL par o l g fin)=some b->l.length<=b.l.length
 |0,m,hm,par,o,b,l,g,fin,h=>by
  obtain⟨m',rfl,_⟩:=bR h;omega
 |n+1,m,hm,par,o,b,l,g,fin,h=>by
  cases g with
  |nil=>
   have:=tY (ts:=ts) (a:=b) (ee:=[]) ⟨b,h,rfl,rfl,rfl⟩;rw[this.1];exact ZR _
  |cons s g=>
   obtain⟨m',c,b',rfl,_,_,aa,rfl⟩:=xN h;have:=zE n (m'+1) ab aa;simp only[aa9]at this |-;omega
def uI.len(h:uI ts par o a m l g fin ee):l.length<=a.l.length/\ee.length<=a.e.length:=by
 obtain⟨b,hb,h1,h2,h3⟩:=h;have:=zE m m (ZR _) hb;rw[<-h1,<-h3];exact⟨this,by simp⟩
def MU{n:Nat}(ih:kP pb ts lv fv ov n)(hm:m<n)(ho:o<=64)(h:Syn.item ts (Syn.run ts m) par o g=some a):WF pb ts lv fv ov (if par then 207 else 83) o (fun vf=>#[pt pb,vf,iv 0]) g a/\aO prog (if par then 207 else 83):=by
 cases par
 ·exact⟨rT (ih m hm (.line 0 o g 0) _ h) ho,rU⟩
 ·exact⟨Og _ h,Qs⟩
def Rf(pb:Nat)(rv va vb v14 vh:Value)(n i:Nat)(vh2:Value)(n2:Nat)(x:Nat×Value):St:=⟨dn 126 [(0,.v (pt pb)),(2,.v rv),(8,.v va),(9,.v vb),(12,.v x.2),(14,.v v14),(26,.v vh),(27,.v (iv n)),(28,.v (iv i)),(55,.v vh2),(56,.v (iv n2)),(57,.v (iv x.1))],[]⟩
def Sl.tail{α:Type}{R:PH->List Value->α->Prop}{size:Nat}(hR:∀{I} c a,R I c a->c.length=size){I:PH}{b off n c:Nat}{s:α}{l:List α}(h:Sl R I (.slice (some ⟨b,off,none⟩) n c) (s::l))(hc:n<=c):Sl R I (.slice (sO (some ⟨b,off,none⟩) size 1 c) (n-1) (c-1)) l:=by
 obtain⟨a,c',e,h⟩:=h;cases e
 simp only[aaj]at hc;refine⟨sO (some ⟨b,off,none⟩) size 1 c,c-1,by simp,?_⟩;rcases h with h|⟨b',off',xs,e1,e2,e3⟩
 ·cases h
 ·cases e1
  rcases abn l.length with h0|h0
  ·exact .inl (List.length_eq_zero_iff.1 h0)
  ·obtain⟨cs,ys,rfl,h1,h2⟩:=e3;have aa:=hR cs s h1;refine .inr ⟨b,off+size,ys,?_,?_,h2⟩
   ·unfold sO;rw[ZV ab];simp[gG]
   ·have:=e2.sub size ys.length (by simp;omega);rw[List.drop_left' aa,aaS]at this;exact this
def RM(pb:Nat)(rv v8 vb v12 vdn vh:Value)(n i:Nat)(vh2:Value)(n2:Nat)(x:Nat×Value):St:=⟨dn 126 [(0,.v (pt pb)),(2,.v rv),(8,.v v8),(9,.v vb),(12,.v v12),(14,.v x.2),(21,.v vdn),(26,.v vh),(27,.v (iv n)),(28,.v (iv i)),(93,.v vh2),(94,.v (iv n2)),(95,.v (iv x.1))],[]⟩
def YA(Fr:List PH)(more:List aB)(g:ar)(I0:PH)(x:Nat×Value)(H:PH):Prop:=
 ∃I,H=U (I::Fr)/\Dj (I::Fr)/\I0.le I/\x.1<=more.length/\eR I x.2 ((more.take x.1).foldl joinH1 g)/\DZ x.2
structure YD where
 m:Nat
 v8:Value
 v12:Value
 v14:Value
 dv:Value
def RS(pb:Nat)(rv vb vh:Value)(n i:Nat)(x:YD):St:=⟨dn 126 [(0,.v (pt pb)),(2,.v rv),(8,.v x.v8),(9,.v vb),(12,.v x.v12),(14,.v x.v14),(26,.v vh),(27,.v (iv n)),(28,.v (iv i))],[]⟩
def YM(pb:Nat)(ts:List Tok)(lv fv ov:Value)(par:Bool)(o M:Nat)(a ri:Syn.bW)(e:List cO)(B:PH)(I0:PH)(x:YD)(H:PH):Prop:=
 ∃I D A C l g fin ee,H=U [I,sg pb (cg lv fv ov x.dv o),D,A,B,C]/\Dj [I,sg pb (cg lv fv ov x.dv o),D,A,B,C]/\I0.le I/\x.m<=M/\uI ts par o a x.m l g fin ee/\
  eR I x.v14 g/\DZ x.v14/\FN ts.length g/\jy I C x.v12 fin/\FN ts.length fin/\bQ I A x.v8 (ri.l++l)/\eF I D x.dv (e++(ri.e++ee))
def Tf(pb:Nat)(rv vh:Value)(n:Nat)(x:Nat×Value×Value×Value):St:=⟨dn 126 [(0,.v (pt pb)),(2,.v rv),(8,.v x.2.1),(9,.v x.2.2.1),(26,.v vh),(27,.v (iv n)),(28,.v (iv x.1))],[]⟩
theorem JR{n:Nat}(ih:kP pb ts lv fv ov n){f:ar}{r:Syn.bW}(hr:Syn.run ts n (.listed par o f)=some r):vQ pb ts lv fv ov (.listed par o f) r:=by
 obtain⟨m,rfl,hs⟩:=bR hr;have hF:cT ts f (mw ts (Syn.run ts m) par o)=some r:=hs;rw[vX]at hF;clear hs hr;intro ho I D dv vf e h hf fn he hm hd;have hl:=h.len;refine ah 126 func206 fun w0=>?_
 try simp only[iv,pt,fH]
 refine aT ?_;refine DY hd [0,1] rfl kU rfl (ps:=[sg pb _]) (F:=[D]) rfl (kW h hf fn) fun v I2 qs hK c6 hq=>?_;obtain⟨rfl,hH⟩:=hq;obtain⟨ha,hc,rfl,_⟩:=id hH;simp only[aaz,aaA]at hK |-;refine dP ?_;have hN:∀x∈bE ts f,kS ts x:=fun x hx=>b9 h.ok fn hx;have kl:=fM h.ok fn;have j1:=hH;generalize bE ts f=al at *;refine aR hK fun i5=>?_;refine aR i5 fun i4=>?_;refine bf i4 [2,3,0,1] fun i3=>?_;refine aA (fun x=>al.length-x.1) (Tf pb (fH pb (if par then 207 else 83)) (.slice ha al.length hc) al.length) (WC pb ts lv fv ov o al (mw ts (Syn.run ts m) par o) r e I2) (0,.slice none 0 0,.slice none 0 0,dv) (bJ (by simp only[go_sem,aa6,iv,pt,fH])) (by simp only[go_sem,aa6,Tf]) ?_ ?_
 ·exact⟨I2,D,PH.no,PH.no,⟨[],[],[]⟩,rfl,i3,abW _,aaL _,hF,by simpa using eF.le he c6,Ow.nil _ _ _ _,Ow.nil _ _ _ _,FN.nil _,aaL _⟩
 rintro⟨i,va,vb,dv⟩ H ⟨I3,D3,A3,B3,ri,rfl,ek,a4,i0,e5,hE,hA,hB,ey,gf⟩ a7;simp only at i0 e5 hE hA hB;simp only[Tf];have j0:qO I3 (.slice ha al.length hc) al:=j1.le a4;rcases aaf i al.length with e0|kq
 ·have eA:decide ((i:Int)<(al.length:Int))=true:=by simp;omega
  have e1:=wrap64 (n:=i+1) ab;have fc:IntKind.i64.wrap ((i:Int)+1)=((i+1:Nat):Int):=by rw[<-e1];congr 1
  obtain⟨x,hx⟩:∃x,al[i]?=some x:=⟨_,aak e0⟩;have h5:=aaV hx;have eb:=hN x h5;obtain⟨b,off,cs,rfl,i9,en⟩:=j0.load l7.len hx;obtain⟨xa,xk,rfl,bx⟩:=i9;obtain⟨r',h6,b1⟩:=oF hx e5;have b0:=xq b1;obtain⟨y,hy,eH,rfl⟩:=pC h6;have h3:=h.le (abV c6 a4);simp only[aa9]at b0 eH;apply RG;simp only[go_sem,eA,iv,pt,fH];refine⟨ab,?_⟩;refine XN (l:=[iv x.at',sD xa xk x.cond,rD x.cond,.int .u8 x.kind,.string ⟨⟨x.text⟩⟩]) (v:=.agg #[iv x.at',sD xa xk x.cond,rD x.cond,.int .u8 x.kind,.string ⟨⟨x.text⟩⟩]) rfl (cellsU ek (.head _) en) (.inl ⟨gI,rfl⟩) ?_;unfold Syn.mw at hy;by_cases d3:x.text=eM
  ·have hk:(x.text == [40])=true:=by rw[d3];decide
   rw[ZV (by simp[d3])]at hy;apply RG;simp only[go_sem,eA,iv,pt,sD,rD,hk,abQ];by_cases c2:o=64
   ·rw[aaq c2]at hy;cases hy
    subst c2;refine ad ek [0,1,2,3] [sg pb _,D3] [A3,B3] rfl jh rfl (nq h3 eb.le bx hE (by simp[cJ]at b0 |-;omega)) fun v I4 qs b3 am hq=>?_;obtain⟨dv2,D4,rs,rfl,gA,rfl,rfl⟩:=hq;simp only[aaz,aaA]at b3 |-;apply RG;simp only[go_sem,iv,pt,sD,rD,fc,abK];exact a7 (i+1,va,vb,dv2) _ _ dt (bJ (by simp only[go_sem,aa6,iv,pt,fH])) (by simp only[go_sem,aa6,Tf]) ⟨I4,D4,A3,B3,_,rfl,b3,abV a4 am,e0,b1,by simp only;rw[<-aaT];exact gA,by simpa using hA.le am,hB.le am,ey,by simpa using gf⟩
   ·rw[ZV c2]at hy;obtain⟨yes,g,hD⟩:∃yes g,aM ts (bv x) (bD fK)=(yes,g):=⟨_,_,rfl⟩;rw[hD]at hy;simp only at hy;obtain⟨a,jc,fh⟩:=bU hy;obtain⟨gt,e2,ht⟩:∃g e1,Syn.take ts a.f fK=(g,e1):=⟨_,_,rfl⟩;rw[ht]at fh;simp only at fh;cases fh
    have ea:=eb.lt (.inl (by rw[d3];decide));have kd:=wrap64 (n:=x.at'+1) ab;have e2'':IntKind.i64.wrap ((x.at':Int)+1)=((x.at'+1:Nat):Int):=by rw[<-kd];congr 1
    refine ad ek [0,1,2,3] [sg pb _] [D3,A3,B3] rfl jh rfl (lz (h:=x) (a:=xa) (k:=xk) ab) fun v I4 qs b3 am hq=>?_;obtain⟨rfl,rfl,rfl⟩:=hq;simp only[aaz,aaA]at b3 |-;apply RG;simp only[go_sem,iv,pt,fH,sD,rD,fc,e2'',abQ];refine CS mixed [0,1,2,3,4,5,6] 7 8 [9,10,11,12,13,14] [9,10,11,12,13,14] [] [] rfl rfl ?_;apply mI;simp only[go_sem,iv,pt,fH,sD,rD,e2''];simp only[aaT,aa9]at b0 hm eH;refine wC ?_ ?_;refine bj b3 (by exact jH) rfl rfl rfl rfl rfl bg fun nb I5 fA bF fr=>?_;apply au;simp only[go_sem,iv,pt,fH,sD,rD];refine aE fA [0,1,2,3] [] [sg pb _,D3,A3,B3] rfl jl rfl (kM (s:=fK)) fun vi I6 qs ei bC hq=>?_;obtain⟨rfl,eq⟩:=hq;simp only[aaz,aaA]at ei |-;obtain⟨fi,first,cap,rfl,gi,ci⟩:=id eq;apply au;simp only[go_sem,iv,pt,fH,sD,rD];have kk:I4.le I6:=abV bF bC;have g7:eR I6 (.slice (some ⟨nb,0,none⟩) 1 1) (bv x):=⟨_,_,rfl,.inr ⟨nb,0,[iv (x.at'+1),sD xa xk x.cond,rD x.cond],rfl,(az fr (by simp[aD,Value.cells]) (by simp[aD,Value.cells,iv,sD,rD])).le bC,.one ⟨_,_,rfl,bx.le kk⟩⟩⟩;have afn:=bH eb ea;refine aE ei [0,1,2,3] [sg pb _] [D3,A3,B3] rfl jD rfl (jC (h3.le kk) g7 afn (JE.le eq (abW _))) fun v I7 qs ds cA hq=>?_
    rotate_left
    refine aE b3 [0,1,2,3] [] [sg pb _,D3,A3,B3] rfl jl rfl (kM (s:=fK)) fun vi I6 qs ei bC hq=>?_;obtain⟨rfl,eq⟩:=hq;simp only[aaz,aaA]at ei |-;obtain⟨fi,first,cap,rfl,gi,ci⟩:=id eq;apply au;simp only[go_sem,iv,pt,fH,sD,rD];refine bj ei (by exact jH) rfl rfl rfl rfl rfl bg fun nb I5 fA bF fr=>?_;apply au;simp only[go_sem,iv,pt,fH,sD,rD];have kk:I4.le I5:=abV bC bF;have g7:eR I5 (.slice (some ⟨nb,0,none⟩) 1 1) (bv x):=⟨_,_,rfl,.inr ⟨nb,0,[iv (x.at'+1),sD xa xk x.cond,rD x.cond],rfl,(az fr (by simp[aD,Value.cells]) (by simp[aD,Value.cells,iv,sD,rD])).le (abW _),.one ⟨_,_,rfl,bx.le kk⟩⟩⟩;have afn:=bH eb ea;refine aE fA [0,1,2,3] [sg pb _] [D3,A3,B3] rfl jD rfl (jC (h3.le kk) g7 afn (JE.le eq bF)) fun v I7 qs ds cA hq=>?_
    all_goals
     obtain⟨A6,B6,va6,vb6,rfl,rfl,e9,e8⟩:=hq;have hY:=fm h.ok afn (is:=bD fK);have hP:=gE h.ok afn (bD fK);have gl:=dC h.ok afn (bD fK);rw[hD]at e9 e8 hY hP gl;simp only at e9 e8 hY hP gl;obtain⟨ya,yc,rfl⟩:=e9.shape;simp only[aaz,aaA]at ds |-;apply au;simp only[go_sem,iv,pt,fH,sD,rD];refine aw ?_;apply RG;simp only[go_sem,iv,pt,fH,sD,rD];refine bf ds [1,0,2,3,4,5] fun gd=>?_;refine ae (c:=.st _) gd fun I8 f9 bb hh=>?_;have jd:qO I8 (.slice ya yes.length yc) yes:=e9.sl bb hh;refine bf f9 [1,0,2,3,4] fun f6=>?_;refine ae (c:=.st _) f6 fun I9 f5 ba g5=>?_;have ka:eR I9 vb6 g:=e8.sl (abV bb ba) g5;have j2:DZ vb6:=e8.cap iD.len;refine aR (c:=.st _) f5 fun f3=>?_;refine bf f3 [1,0,2,3,4] fun f2=>?_;have h1:=abV kk (abV cA (abV bb ba));refine aA (fun x=>yes.length-x.1) (Rf pb (fH pb (if par then 207 else 83)) va vb vb6 (.slice (some ⟨b,off,none⟩) al.length hc) al.length i (.slice ya yes.length yc) yes.length) (Xf pb lv fv ov dv (o+1) joinH [] yes [D3,A3,B3] I9) (0,.slice none 0 0) (bJ (by simp only[go_sem,aa6,iv,pt,fH])) (by simp only[go_sem,aa6,Rf]) ?_ ?_
     ·exact⟨I9,PH.no,rfl,f2,abW _,aaL _,Ow.nil _ _ _ _⟩
     rintro⟨j,v12⟩ H ⟨h0,C10,rfl,dk,a2,hj,bs⟩ c5;simp only at hj bs;simp only[Rf];have hO:∀y∈yes,kS ts y:=fun y hy=>(hY y hy).1;have ex:FN ts.length ((yes.take j).foldl joinH []):=lJ (fun y hy=>hO y (abf hy)) (FN.nil _);have gs:=ex.len;rcases aaf j yes.length with hJ|kn
     ·have fb:decide ((j:Int)<(yes.length:Int))=true:=by simp;omega
      have e3:=wrap64 (n:=j+1) ab;have hn:IntKind.i64.wrap ((j:Int)+1)=((j+1:Nat):Int):=by rw[<-e3];congr 1
      obtain⟨y,hy⟩:∃y,yes[j]?=some y:=⟨_,aak hJ⟩;have fg:=hO y (aaV hy);have h4:=fg.le;obtain⟨b2,off2,cs2,rfl,dw,ao⟩:=(qO.le jd (abV ba a2)).load l7.len hy;obtain⟨ua,uk,rfl,a6⟩:=dw;have a5:=dm (g:=joinH) (z:=[]) hy;obtain⟨ta,tc,rfl⟩:=bs.shape;apply RG;simp only[go_sem,fb,iv,pt,fH];refine⟨ab,?_⟩;refine XN (l:=[iv y.at',sD ua uk y.cond,rD y.cond,.int .u8 y.kind,.string ⟨⟨y.text⟩⟩]) (v:=.agg #[iv y.at',sD ua uk y.cond,rD y.cond,.int .u8 y.kind,.string ⟨⟨y.text⟩⟩]) rfl (cellsU dk (.head _) ao) (.inl ⟨gI,rfl⟩) ?_;apply RG;simp only[go_sem,fb,iv,pt,fH,sD,rD];refine ad dk [1,0,2,3,4] [C10] [sg pb _,D3,A3,B3] rfl ej rfl (bK (a:=y.at') bs a6 ex.ok.2 (fun t ht=>by have:=ex.le t ht;omega) ab ab) fun v hz qs cb ef hq=>?_;obtain⟨C11,rfl,dT⟩:=hq;obtain⟨ta2,tc2,rfl⟩:=dT.shape;simp only[aaz,aaA]at cb |-;apply RG;simp only[go_sem,iv,pt,fH,sD,rD,hn];refine bf cb [1,0,2,3,4] fun bd=>?_;rw[show Syn.join ((yes.take j).foldl joinH []) y.at' y.cond=(yes.take (j+1)).foldl joinH [] from a5.symm]at dT |-;exact c5 (j+1,.slice ta2 _ tc2) _ _ dt (bJ (by simp only[go_sem,aa6,iv,pt,fH])) (by simp only[go_sem,aa6,Rf]) ⟨hz,C11,rfl,bd,abV a2 ef,hJ,dT⟩
     ·have fs:j=yes.length:=by omega
      subst fs;have fb:=Z6 yes.length;rw[aaS]at bs ex gs;apply RG;simp only[go_sem,fb,iv,pt,fH];refine bf dk [0,2,3,4,1] fun cb=>?_;have k410:=abV h1 a2;have jo:uI ts par (o+1) a m [] g (yes.foldl joinH []) []:=⟨a,jc,rfl,rfl,rfl⟩;refine aA (fun x=>x.m) (RS pb (fH pb (if par then 207 else 83)) vb (.slice (some ⟨b,off,none⟩) al.length hc) al.length i) (YM pb ts lv fv ov par (o+1) m a ri e B3 h0) ⟨m,va,v12,vb6,dv⟩ (bJ (by simp only[go_sem,aa6,iv,pt,fH])) (by simp only[go_sem,aa6,RS]) ?_ ?_
      ·exact⟨h0,D3,A3,C10,[],g,_,[],rfl,cb,abW _,ZR _,jo,eR.le ka a2,j2,gl,bs,ex,by simpa using hA.le k410,by simpa using hE.le k410⟩
      rintro⟨mm,v8,v12,v14,dv⟩ H ⟨hz,D11,A11,C11,l,gg,fin,ee,rfl,bd,cy,h7,e6,hG,er,cf,hC,a3,d2,dA⟩ c4;simp only at h7 e6 hG er hC d2 dA;simp only[RS];have k411:=abV k410 cy;obtain⟨ga,gc,rfl,kr⟩:=id hG;have h8:=e6.len;obtain fl|⟨s,gg',cB⟩:gg=[]\/∃s t,gg=s::t:=by
       cases gg with
       |nil=>exact .inl rfl
       |cons s t=>exact .inr ⟨s,t,rfl⟩
      ·subst fl;obtain⟨rfl,rfl,rfl⟩:=tY e6;apply RG;simp only[go_sem,iv,pt,fH,aaO,abo,gt_iff_lt,Int.lt_irrefl,decide_false];refine bf bd [4,0,1,2,3] fun dj=>?_;refine ae dj fun hw b8 aa g1=>?_;have go:eR hw v12 a.f:=hC.sl aa g1;refine ad b8 [0,1,2,3] [sg pb _,D11] [A11,B3] rfl iG rfl (kf (s:=fK) (h3.le (abV k411 aa)) go a3 bg (dA.le aa) (by rw[ht];simp only[aa9];omega)) fun v kj qs b7 ed hq=>?_;obtain⟨dv10,D10,rs,rfl,dI,B10,rfl,d1⟩:=hq;rw[ht]at dI d1;have tf:=dK h.ok a3 (s:=fK) bg;rw[ht]at tf;simp only at dI d1 tf;simp only[aaz,aaA]at b7 |-;apply RG;simp only[go_sem,iv,pt,fH,sD,rD];refine bf b7 [2,0,1,3,4] fun dd=>?_;refine ae dd fun hv dc a9 g4=>?_;have dx:eR hv v gt:=d1.sl a9 g4;have k1114:=abV aa (abV ed a9);have k414:=abV k411 k1114;refine ad dc [3,0,1,2] [B3] [sg pb _,D10,A11] rfl eI rfl (cS (N:=ts.length) ab (hB.le k414) ey dx tf) fun v hX qs bc aj hq=>?_;obtain⟨B14,rfl,c1⟩:=hq;simp only[aaz,aaA]at bc |-;apply RG;simp only[go_sem,iv,pt,fH,sD,rD];refine XN (l:=[.int .i64 ((o+1:Nat):Int)]) rfl (cellsU bc (.tail _ (.tail _ (.head _))) (ay (by simp[cg]) rfl)) (.inr ⟨jq,rfl⟩) ?_;apply RG;simp only[go_sem,iv,pt,fH,sD,rD,kE o ho];refine bf bc [1,2,3,0] fun da=>?_;refine bw da rfl rfl rfl rfl rfl (by exact uZ) (by simp) fun c9=>?_;apply RG;simp only[go_sem,iv,pt,fH,sD,rD,fc];obtain⟨ta,tc,rfl⟩:=c1.shape
       exact a7 (i+1,v8,.slice ta (Syn.joinAll ri.f gt).length tc,dv10) _ _ dt (bJ (by simp only[go_sem,aa6,iv,pt,fH])) (by simp only[go_sem,aa6,Tf]) ⟨hX,D10,A11,B14,_,rfl,c9,abV a4 (abV k414 aj),e0,b1,by simpa[aaT]using dI.le (abV a9 aj),d2.le (abV k1114 aj),c1,ey.joinAll tf,by simp only[aa9];unfold aN;unfold aN at eH;omega⟩
      ·have eo:=e6;rw[cB]at eo;obtain⟨m2,cc,rfl,ja,kt,cd⟩:=wI eo;have cp:=cd.len;have kp:gg.length=gg'.length+1:=by rw[cB];rfl
       have ge:gg.length<=gc:=er;have kc:decide ((gg.length:Int)>0)=true:=by simp;omega
       have i1:gg[0]?=some s:=by rw[cB];rfl
       obtain⟨gb,goff,gcs,rfl,fz,c7⟩:=hG.load iD.len i1;obtain⟨za,zk,rfl,ec⟩:=fz.shape;apply RG;simp only[go_sem,iv,pt,fH,kc];refine⟨ab,?_⟩;refine XN (l:=[iv s.1,.slice za (T.subs s.2).length zk,iv (T.plc (T.subs s.2) s.2)]) (v:=.agg #[iv s.1,.slice za (T.subs s.2).length zk,iv (T.plc (T.subs s.2) s.2)]) rfl (by simpa using cellsU bd (.head _) c7) (.inl ⟨sM,rfl⟩) ?_;apply RG;simp only[go_sem,iv,pt,fH];refine ax bd (by exact jH) rfl rfl rfl rfl rfl bg fun nb3 hw dj ak fo=>?_;apply RG;simp only[go_sem,iv,pt,fH];refine⟨ab,?_⟩;have dx:eR hz (.slice (sO (some ⟨gb,goff,none⟩) 3 1 gc) (gg.length-1) (gc-1)) gg':=Sl.tail (R:=iD) (fun{I} c a h=>iD.len c a h) (by rw[<-cB];exact hG) ge;have fk:eR hw (.slice (some ⟨nb3,0,none⟩) 1 1) [s]:=⟨_,_,rfl,.inr ⟨nb3,0,[iv s.1,.slice za (T.subs s.2).length zk,iv (T.plc (T.subs s.2) s.2)],rfl,az fo (by simp[aD,Value.cells]) (by simp[aD,Value.cells,iv]),.one ⟨_,_,rfl,ec.le ak⟩⟩⟩;have fns:FN ts.length [s]:=⟨cq.head (by rw[<-cB];exact cf.ok),fun t ht=>by simp at ht;subst ht;exact cf.le t (by rw[cB];exact .head _)⟩;have fng:FN ts.length gg':=⟨cq.tail (by rw[<-cB];exact cf.ok),fun t ht=>cf.le t (by rw[cB];exact .tail _ ht)⟩;obtain⟨ie,i2⟩:=MU ih ab ab ja;refine ad dj [0,1,2,3,4] [sg pb _,D11] [A11,B3,C11] rfl i2 rfl (ie (h3.le (abV k411 ak)) fk fns (dA.le ak) (by simp only[aa9]at cp |-;omega)) fun v kj qs b8 aa hq=>?_;obtain⟨dv13,D13,rs,rfl,gF,⟨A13,B13,va13,vb13,rfl,rfl,hg,g6⟩,cl,jg⟩:=hq;simp only[aaz,aaA]at b8 |-;apply RG;simp only[go_sem,iv,pt,fH];refine bf b8 [2,0,1,3,4,5,6] fun b7=>?_;refine ae b7 fun hv dd a1 g9=>?_
       have gk:eE hv va13 cc.l:=hg.sl a1 g9;refine bf dd [3,0,1,2,4,5] fun dc=>?_;have k1214:=abV ak (abV aa a1);have h9:=cp.1;simp only[aa9]at h9;unfold aN at eH;refine bl dc (by exact dQ) (d2.le k1214) gk (fun{I J c a} h k=>bm.le h k) (fun{I} c a h=>bm.len c a h) (fun{I} c a h=>bm.ones h) rfl rfl rfl rfl (by simp only[aa9];omega) (by simp only[aa9];unfold maxLen;omega) fun na nc hX A15 bc aj hb=>?_;apply RG;simp only[go_sem,iv,pt,fH];refine bf bc [3,0,1,2,4,5] fun da=>?_;refine ae da fun ki c9 cx g3=>?_;have k1416:=abV a1 (abV aj cx);have gn:eR ki vb13 cc.f:=g6.sl k1416 g3;refine ad c9 [0,1,2,3,4] [] [A15,sg pb _,D13,B3,C11] rfl jl rfl (kM (s:=bB)) fun v2 kB qs em aS hq=>?_;obtain⟨rfl,ep⟩:=hq;simp only[aaz,aaA]at em |-;obtain⟨fi2,first2,cap2,rfl,gi2,ci2⟩:=id ep;apply RG;simp only[go_sem,iv,pt,fH];have k417:=abV k411 (abV ak (abV aa (abV k1416 aS)));refine ad em [1,0,2,3,4] [sg pb _] [A15,D13,B3,C11] rfl jD rfl (jC (h3.le k417) (gn.le aS) cl ep) fun v kx qs el ct hq=>?_;obtain⟨A17,B17,va17,vb17,rfl,rfl,cm,d0⟩:=hq;have hM:=fm h.ok cl (is:=bD bB);have hS:=gE h.ok cl (bD bB);have e7:=dC h.ok cl (bD bB);obtain⟨more,dne,fj⟩:∃yes g,aM ts cc.f (bD bB)=(yes,g):=⟨_,_,rfl⟩;rw[fj]at cm d0 hM hS e7 cd;simp only at cm d0 hM hS e7 cd;obtain⟨ma,mc,rfl⟩:=cm.shape;simp only[aaz,aaA]at el |-;apply RG;simp only[go_sem,iv,pt,fH];refine bf el [1,0,2,3,4,5,6] fun f1=>?_;refine ae (c:=.st _) f1 fun hu f0 aq g8=>?_
       have jf:qO hu (.slice ma more.length mc) more:=cm.sl aq g8;have k1219:=abV ak (abV aa (abV k1416 (abV aS (abV ct aq))));refine aA (fun x=>more.length-x.1) (RM pb (fH pb (if par then 207 else 83)) (.slice na (ri.l++l++cc.l).length nc) vb v12 vb17 (.slice (some ⟨b,off,none⟩) al.length hc) al.length i (.slice ma more.length mc) more.length) (YA [sg pb (cg lv fv ov dv13 (o+1)),B17,A15,D13,B3,C11] more gg' hu) (0,.slice (sO (some ⟨gb,goff,none⟩) 3 1 gc) (gg.length-1) (gc-1)) (bJ (by simp only[go_sem,aa6,iv,pt,fH])) (by simp only[go_sem,aa6,RM]) ?_ ?_
       ·exact⟨hu,rfl,f0,abW _,aaL _,dx.le k1219,show gg.length-1<=gc-1 by omega⟩
       rintro⟨j,v14⟩ H ⟨kv,rfl,c8,an,ic,cj,c0⟩ c3;simp only at ic cj c0;simp only[RM];have hR:∀y∈more,kS ts y/\y.at'<ts.length:=fun y hy=>⟨(hM y hy).1,qo bg (hM y hy).1 (hM y hy).2⟩;have et:FN ts.length ((more.take j).foldl joinH1 gg'):=m8 (fun y hy=>hR y (abf hy)) fng;have gr:=et.len;rcases aaf j more.length with eg|ia
       ·have fa:decide ((j:Int)<(more.length:Int))=true:=by simp;omega
        have e3:=wrap64 (n:=j+1) ab;have hn:IntKind.i64.wrap ((j:Int)+1)=((j+1:Nat):Int):=by rw[<-e3];congr 1
        obtain⟨y,hy⟩:∃y,more[j]?=some y:=⟨_,aak eg⟩;have fg:=hR y (aaV hy);have h2:=fg.2;have e4:=wrap64 (n:=y.at'+1) ab;have hT:IntKind.i64.wrap ((y.at':Int)+1)=((y.at'+1:Nat):Int):=by rw[<-e4];congr 1
        obtain⟨b2,off2,cs2,rfl,dw,ao⟩:=(qO.le jf an).load l7.len hy;obtain⟨ua,uk,rfl,a6⟩:=dw;have a5:=dm (g:=joinH1) (z:=gg') hy;apply RG;simp only[go_sem,fa,iv,pt,fH];refine⟨ab,?_⟩;refine XN (l:=[iv y.at',sD ua uk y.cond,rD y.cond,.int .u8 y.kind,.string ⟨⟨y.text⟩⟩]) (v:=.agg #[iv y.at',sD ua uk y.cond,rD y.cond,.int .u8 y.kind,.string ⟨⟨y.text⟩⟩]) rfl (cellsU c8 (.head _) ao) (.inl ⟨gI,rfl⟩) ?_;apply RG;simp only[go_sem,fa,iv,pt,fH,sD,rD];refine eP [0,2,3,4,5,6,1,7,8] [] [] ?_;apply au;simp only[go_sem,iv,pt,fH,sD,rD,hT];refine aE c8 [0,1,2,3,4,5] [] [sg pb _,B17,A15,D13,B3,C11] rfl HC rfl (Hv cj ab) fun v hW qs b6 cr hq=>?_;obtain⟨E21,rfl,ez⟩:=hq;obtain⟨ca,ck,rfl⟩:=ez.shape;simp only[aaz,aaA]at b6 |-;apply au;simp only[go_sem,iv,pt,fH,sD,rD,hT];refine aE b6 [0,1,2,3,4,5,6] [E21] [sg pb _,B17,A15,D13,B3,C11] rfl ej rfl (bK (a:=y.at'+1) ez (a6.le cr) et.ok.2 (fun t ht=>by have:=et.le t ht;omega) ab ab) fun v hV qs b5 ag hq=>?_;obtain⟨E22,rfl,dy⟩:=hq;have hL:=dy.cap iD.len;simp only[aaz,aaA]at b5 |-;apply au;simp only[go_sem,iv,pt,fH,sD,rD];refine aw ?_;refine ae (c:=.st _) b5 fun hU b4 ac gC=>?_;have es:eR hU v _:=dy.sl ac gC;obtain⟨wa,wc,rfl⟩:=dy.shape;apply RG;simp only[go_sem,iv,pt,fH,sD,rD,hn];rw[show Syn.join ((more.take j).foldl joinH1 gg') (y.at'+1) y.cond=(more.take (j+1)).foldl joinH1 gg' from a5.symm]at es hL |-;exact c3 (j+1,.slice wa _ wc) _ _ dt (bJ (by simp only[go_sem,aa6,iv,pt,fH])) (by simp only[go_sem,aa6,RM]) ⟨hU,rfl,b4,abV an (abV cr (abV ag ac)),eg,es,hL⟩
       ·have fs:j=more.length:=by omega
        subst fs;have fa:=Z6 more.length;rw[aaS]at cj et gr;apply RG;simp only[go_sem,fa,iv,pt,fH];refine bf c8 [1,0,2,3,4,5] fun b6=>?_;refine ae b6 fun hW b5 ag g2=>?_;have gT:eR hW vb17 dne:=d0.sl (abV aq (abV an ag)) g2;have k1221:=abV k1219 (abV an ag);refine ad b5 [4,0,1,2,3] [C11] [sg pb _,A15,D13,B3] rfl eI rfl (cS (N:=ts.length) ab (hC.le k1221) a3 gT e7) fun v hV qs b4 ac hq=>?_;obtain⟨C22,rfl,g0⟩:=hq;simp only[aaz,aaA]at b4 |-;apply RG;simp only[go_sem,iv,pt,fH];refine bf b4 [1,3,2,4,0] fun fC=>?_;have k1522:=abV cx (abV aS (abV ct (abV aq (abV an (abV ag ac)))));refine c4 ⟨m2+1,.slice na (ri.l++l++cc.l).length nc,v,v14,dv13⟩ _ _ dt (bJ (by simp only[go_sem,aa6,iv,pt,fH])) (by simp only[go_sem,aa6,RS]) ⟨hV,D13,A15,C22,_,_,_,_,rfl,fC,abV cy (abV k1221 ac),by simp only;omega,cd,cj.le (abV ag ac),c0,et,g0,a3.joinAll e7,by rw[<-aaT];exact bQ.le hb k1522,?_⟩;have:=gF.le (abV a1 (abV aj k1522));simpa[aaT]using this
  ·have hk:(x.text == [40])=false:=by
    rw[abS];exact d3
   rw[aaq d3]at hy;cases hy
   apply RG;simp only[go_sem,eA,iv,pt,sD,rD,hk,abK];refine ad ek [0,1,2,3] [sg pb _,D3] [A3,B3] rfl kX rfl (ow h3 eb.le bx hE (by simp[cJ]at b0 |-;omega)) fun v I4 qs b3 am hq=>?_;obtain⟨dv2,D4,rs,rfl,gA,rfl⟩:=hq;simp only[aaz,aaA]at b3 |-;apply RG;simp only[go_sem,iv,pt,sD,rD,fc];exact a7 (i+1,va,vb,dv2) _ _ dt (bJ (by simp only[go_sem,aa6,iv,pt,fH])) (by simp only[go_sem,aa6,Tf]) ⟨I4,D4,A3,B3,_,rfl,b3,abV a4 am,e0,b1,by simp only;rw[<-aaT];exact gA,by simpa using hA.le am,hB.le am,ey,by simpa using gf⟩
 ·have ix:i=al.length:=by omega
  subst ix;have eA:=Z6 al.length;rw[abH]at e5;cases e5
  apply RG;simp only[go_sem,eA,iv,pt];exact af rfl ek (r:=[va,vb]) rfl (abV c6 a4) ⟨_,D3,[A3,B3],rfl,hE,⟨A3,B3,va,vb,rfl,rfl,hA,hB⟩,ey,gf⟩
end
open Go Go.Sx Dg Syn
def Sa:aO prog 77:=⟨_,func77,rfl,rfl⟩
def QN:aO prog 134:=⟨_,func134,rfl,rfl⟩
def Pd:aO prog 136:=⟨_,func136,rfl,rfl⟩
section
variable {pb:Nat} {ts:List Tok} {lv fv ov:Value}
variable{dv:Value}
def Pg{J:PH}{o bb:Nat}{h:aB}{a:Option Addr}{k:Nat}(hp:zr J ts lv fv)(hb:aP J bb 0 [pt pb]):
  aK prog 134 #[yL a k h,pt bb] J [sg pb (cg lv fv ov dv o)] fun v I2 qs=>qs=[sg pb (cg lv fv ov dv o)]/\v=.bool (lF ts true h):=by
 intro hd;obtain⟨la,lc,rfl,_⟩:=id hp.tok;refine ah 12 func134 fun w0=>?_
 try simp only[yL,iv,pt,sD,rD]
 refine aT ?_;refine eP [0,1,2,3,4,5,6,7,8] [2,5] [] ?_;refine FW ?_;refine W7 (l:=[pt pb]) rfl (cellsU hd (.head _) hb) (.inr ⟨ze,rfl⟩) ?_;refine FW ?_;refine W7 (l:=[_]) rfl (cellsU hd (.tail _ (.head _)) (ay (by simp[cg]) rfl)) (.inr ⟨uy,rfl⟩) ?_;refine FW ?_;refine aw ?_;refine aT ?_;refine af rfl hd (r:=[.bool ((h.at':Int) == (ts.length:Int))]) rfl (abW _) ⟨rfl,?_⟩;show Value.bool _=Value.bool (decide (h.at'=ts.length));congr 1;by_cases e:h.at'=ts.length
 ·rw[e];simp
 ·simp[e];omega
def IX{n o bb:Nat}(ih:kP pb ts lv fv ov n)(ho:o<=64){I0:PH}(a9:aP I0 bb 0 [pt pb]):LQ pb ts lv fv ov n true o I0 (.func (.func 136) #[] #[pt bb]):=by
 refine⟨136,#[],#[pt bb],rfl,Pd,fun m hm x a ha I D dv xa xk e a5 h hx hr he hl=>?_⟩;have hb:=a9.le a5;have ac:Syn.qj (Syn.run ts m) o x=some a:=ha;unfold Syn.qj at ac;have bc:=h.len;have a4:=hx.le;show aK prog 136 #[yL xa xk x,pt bb] I [sg pb (cg lv fv ov dv o),D] _;intro hd;refine ah 26 func136 fun w0=>?_
 try simp only[yL,iv,pt,sD,rD]
 cases h1:(x.text == [118,97,114])
 ·have n1:x.text≠lT:=fun e=>by rw[e]at h1;exact absurd h1 bg
  rw[ZV n1]at ac;cases h2:(x.text == [102,110])
  ·have n2:x.text≠Gg:=fun e=>by rw[e]at h2;exact absurd h2 bg
   rw[ZV n2]at ac;cases ac
   apply RG;simp only[go_sem,h1,h2];refine XN (l:=[pt pb]) rfl (cellsU hd (.head _) hb) (.inr ⟨ze,rfl⟩) ?_;refine ll ?_;refine ad hd [0,1] [sg pb _,D] [] rfl kX rfl (ow h hx.le hr he (by simpa[cJ]using hl)) fun v I4 qs a3 am hq=>?_;obtain⟨dv2,D4,rs,rfl,ba,rfl⟩:=hq;simp only[aaz,aaA,aa6]at a3 |-;refine ll ?_;refine aR a3 fun a7=>?_;refine aR a7 fun a6=>?_;refine bf a6 [2,3,0,1] fun an=>?_;exact af rfl an (r:=[.slice none 0 0,.slice none 0 0]) rfl am ⟨dv2,D4,[PH.no,PH.no],rfl,ba,⟨PH.no,PH.no,_,_,rfl,rfl,Ow.nil _ _ _ _,Ow.nil _ _ _ _⟩,FN.nil _,aaL _⟩
  ·rw[aaq (show x.text=Gg from eq_of_beq h2)]at ac;have ag:=hx.lt (.inl (by rw[show x.text=Gg from eq_of_beq h2];decide));apply RG;simp only[go_sem,h1,h2];refine iZ mixed [0,1,2,3,4,5,6,7] [] [] [0] [2] I rfl rfl ?_;refine FW ?_;refine je (l:=[pt pb]) rfl (cP hd) rfl rfl rfl hb (.inr ⟨ze,rfl⟩) ?_;refine FW ?_;refine DX hd [0,1] rfl (fun _=>abW _) rfl jj (by rfl) (ps:=[]) (F:=[sg pb _,D]) rfl (ji (h:=x) ab hr) fun v I2 qs al aa hq=>?_;obtain⟨rfl,hA⟩:=hq;simp only[aaz,aaA]at al |-;refine FW ?_;refine aE al [0,1] [sg pb _,D] [] rfl O2 rfl (ih m hm (.function o (bv x)) a ac ho (h.le aa) hA (bH hx ag) (he.le aa) hl) fun v I3 qs ak aj hq=>?_;obtain⟨dv3,D3,rs,rfl,aS,⟨A3,B3,va3,vb3,rfl,rfl,a2,a1⟩,aq,ao⟩:=hq;simp only[aaz,aaA,aa6]at ak |-;refine FW ?_;refine aw ?_;refine ll ?_;exact af rfl ak (r:=[va3,vb3]) rfl (abV aa aj) ⟨dv3,D3,[A3,B3],rfl,aS,⟨A3,B3,va3,vb3,rfl,rfl,a2,a1⟩,aq,ao⟩
 ·rw[aaq (show x.text=lT from eq_of_beq h1)]at ac;have ag:=hx.lt (.inl (by rw[show x.text=lT from eq_of_beq h1];decide));apply RG;simp only[go_sem,h1];refine iZ mixed [0,1,2,3,4,5,6,7] [] [] [0] [2] I rfl rfl ?_;refine FW ?_;refine je (l:=[pt pb]) rfl (cP hd) rfl rfl rfl hb (.inr ⟨ze,rfl⟩) ?_;refine FW ?_;refine DX hd [0,1] rfl (fun _=>abW _) rfl jj (by rfl) (ps:=[]) (F:=[sg pb _,D]) rfl (ji (h:=x) ab hr) fun v I2 qs al aa hq=>?_;obtain⟨rfl,hA⟩:=hq;simp only[aaz,aaA]at al |-;refine FW ?_;refine aE al [0,1] [sg pb _,D] [] rfl Hc rfl (ih m hm (.vrb o (bv x)) a ac ho (h.le aa) hA (bH hx ag) (he.le aa) hl) fun v I3 qs ak aj hq=>?_;obtain⟨dv3,D3,rs,rfl,aS,⟨A3,B3,va3,vb3,rfl,rfl,a2,a1⟩,aq,ao⟩:=hq;simp only[aaz,aaA,aa6]at ak |-;refine FW ?_;refine aw ?_;refine ll ?_;exact af rfl ak (r:=[va3,vb3]) rfl (abV aa aj) ⟨dv3,D3,[A3,B3],rfl,aS,⟨A3,B3,va3,vb3,rfl,rfl,a2,a1⟩,aq,ao⟩
def Il{n o:Nat}(ih:kP pb ts lv fv ov n)(ho:o<=64){d:T}{r:Syn.bW}(hr:Syn.run ts n (.seqL true o [(0,d)] [] [])=some r){I D:PH}{da:Option Addr}{dk:Nat}{e:List cO}(h:zr I ts lv fv)(al:cX I (.agg #[sD da dk d,rD d]) d)(am:d≠ff)(he:eF I D dv e)(hm:e.length+r.e.length<=ux):
  aK prog 77 #[pt pb,.agg #[sD da dk d,rD d]] I [sg pb (cg lv fv ov dv o),D] (PP pb lv fv ov o (e++r.e) (Uq ts r)):=by
 intro hd;refine ah 17 func77 fun w0=>?_
 try simp only[iv,pt,sD,rD]
 apply bL 6;simp only[go_sem];refine fV 2 hd rfl fun bb aq=>?_;refine ae (c:=.st _) aq fun I2 ak ac aS=>?_;have hb:aP I2 bb 0 [pt pb]:=(ay (by simp) rfl:aP (sg bb (.cells [pt pb].toArray 152 (0,0))) bb 0 [pt pb]).le aS;apply RG;simp only[go_sem,mF,List.map,pt];refine XN (l:=[pt pb]) rfl (cellsU ak (.head _) hb) (.inr ⟨ze,rfl⟩) ?_;refine OZ ?_;refine ax ak (by exact jH) rfl rfl rfl rfl rfl bg fun nb I3 ao aa an=>?_;have hf:eR I3 (.slice (some ⟨nb,0,none⟩) 1 1) [(0,d)]:=⟨_,_,rfl,.inr ⟨nb,0,[iv 0,sD da dk d,rD d],rfl,az an (by simp[aD,Value.cells]) (by simp[aD,Value.cells,iv,sD,rD]),.one ⟨_,_,rfl,al.le (abV ac aa)⟩⟩⟩;have fn:FN ts.length [(0,d)]:=⟨⟨fun s hs=>by simp at hs;subst hs;exact⟨al.1,am⟩,by simp⟩,fun s hs=>by simp at hs;subst hs;exact aaL _⟩;refine OZ ?_;have a2:XJ pb ts lv fv ov o I3 (.func (.func 134) #[] #[pt bb]) (lF ts true):=⟨134,#[],#[pt bb],rfl,QN,fun J hJ hp dv x a k _=>Pg hp (hb.le (abV aa hJ))⟩;refine ad ao [0,1] [sg pb _,D] [] rfl BR rfl (J1 hr a2 (IX ih ho (hb.le aa)) (h.le (abV ac aa)) hf fn (he.le (abV ac aa)) hm) fun v I4 qs aj ag hq=>?_;obtain⟨dv4,D4,rs,rfl,a4,⟨A4,B4,va4,vb4,rfl,rfl,a6,a5⟩,a3,a1⟩:=hq;simp only[aaz,aaA,aa6]at aj |-;refine OZ ?_;exact af rfl aj (r:=[va4,vb4]) rfl (abV ac (abV aa ag)) ⟨dv4,D4,[A4,B4],rfl,a4,⟨A4,B4,va4,vb4,rfl,rfl,a6,a5⟩,a3,a1⟩
end
open Go Go.Sx Dg Syn
def Hj:aO prog 292:=⟨_,func292,rfl,rfl⟩
section
variable {pb:Nat} {ts:List Tok} {lv fv ov:Value}
def wK(ts:List Tok)(o:Nat)(r:Syn.bW)(m:Nat)(xs:List aB)(l:List Nd)(out:ar)(ee:List cO):Prop:=
 ∃b,Syn.run ts m (.elses o xs l out)=some b/\b.l=r.l/\b.f=r.f/\ee++b.e=r.e
def uM(ts:List Tok)(o:Nat)(r:Syn.bW)(m:Nat)(ys:List aB)(l:List Nd)(out:ar)(ee:List cO):Prop:=
 ∃b,Syn.run ts m (.ifs o ys l out)=some b/\b.l=r.l/\b.f=r.f/\ee++b.e=r.e
variable{ee:List cO}{out:ar}{l:List Nd}{r:Syn.bW}{o m:Nat}
def HL(h:wK ts o r m [] l out ee):l=r.l/\out=r.f/\ee=r.e:=by
 obtain⟨b,hb,h1,h2,h3⟩:=h;obtain⟨m',rfl,ac⟩:=bR hb;have aa:Syn.elses ts (Syn.run ts m') o [] l out=some b:=ac;unfold Syn.elses at aa;simp only at aa;cases aa
 exact⟨h1,h2,by simpa using h3⟩
def Io(h:uM ts o r m [] l out ee):l=r.l/\out=r.f/\ee=r.e:=by
 obtain⟨b,hb,h1,h2,h3⟩:=h;obtain⟨m',rfl,ac⟩:=bR hb;have aa:Syn.ifs (Syn.run ts m') o [] l out=some b:=ac;unfold Syn.ifs at aa;simp only at aa;cases aa
 exact⟨h1,h2,by simpa using h3⟩
variable{xs:List aB}
def FH{x:aB}(h:wK ts o r m (x::xs) l out ee):∃m' a b,m=m'+1/\
  Syn.run ts m' (.block o (aM ts (bv x) (bD kT)).2 2)=some a/\(∀n∈l,n.kids.length+a.l.length<=aN)/\uM ts o b m' (aM ts (bv x) (bD kT)).1 (give l a.l) (Syn.joinAll out a.f) []/\wK ts o r m' xs b.l b.f (ee++a.e++b.e):=by
 obtain⟨b0,hb,h1,h2,h3⟩:=h;obtain⟨m',rfl,am⟩:=bR hb;have aa:Syn.elses ts (Syn.run ts m') o (x::xs) l out=some b0:=am;unfold Syn.elses at aa;simp only at aa;obtain⟨ys,rest,ac⟩:∃yes g,aM ts (bv x) (bD kT)=(yes,g):=⟨_,_,rfl⟩;rw[ac]at aa |-;simp only at aa |-;obtain⟨a,ha,al⟩:=bU aa;obtain⟨l1,hg,ak⟩:=bU al;obtain⟨b,ao,aj⟩:=bU ak;obtain⟨c,hc,ag⟩:=bU aj;cases ag
 have an:=cW hg;obtain rfl:=bu hg;exact⟨m',a,b,rfl,ha,an,⟨b,ao,rfl,rfl,rfl⟩,c,hc,h1,h2,by simpa[aaT]using h3⟩
def Ev{y:aB}{ys:List aB}(h:uM ts o r m (y::ys) l out ee):∃m',m=m'+1/\
  (o=64->uM ts o r m' ys l out (ee++cJ y 11))/\
  (o≠64->∃a,Syn.run ts m' (.branch (o+1) y 2)=some a/\(∀n∈l,n.kids.length+a.l.length<=aN)/\uM ts o r m' ys (give l a.l) (Syn.joinAll out a.f) (ee++a.e)):=by
 obtain⟨b0,hb,h1,h2,h3⟩:=h;obtain⟨m',rfl,al⟩:=bR hb;have aa:Syn.ifs (Syn.run ts m') o (y::ys) l out=some b0:=al;unfold Syn.ifs at aa;simp only at aa;refine⟨m',rfl,fun ho=>?_,fun ho=>?_⟩
 ·rw[aaq ho]at aa;obtain⟨b,ag,ac⟩:=bU aa;cases ac
  exact⟨b,ag,h1,h2,by simpa[aaT]using h3⟩
 ·rw[ZV ho]at aa;obtain⟨a,ha,ac⟩:=bU aa;obtain⟨l1,hg,ak⟩:=bU ac;obtain⟨b,ag,aj⟩:=bU ak;cases aj
  have am:=cW hg;obtain rfl:=bu hg;exact⟨a,ha,am,b,ag,h1,h2,by simpa[aaT]using h3⟩
def wK.le(h:wK ts o r m xs l out ee):ee.length<=r.e.length:=by
 obtain⟨b,_,_,_,h⟩:=h;rw[<-h];simp
def uM.le(h:uM ts o r m xs l out ee):ee.length<=r.e.length:=by
 obtain⟨b,_,_,_,h⟩:=h;rw[<-h];simp
def WW(pb:Nat)(slot:Nat)(vh:Value)(n:Nat)(x:Nat×Nat×Value×Value×Value):St:=⟨dn 114 [(0,.v (pt pb)),(8,.v x.2.2.1),(13,.v x.2.2.2.1),(56,.v vh),(57,.v (iv n)),(58,.v (iv x.1))],[]⟩
def YU(pb:Nat)(ts:List Tok)(lv fv ov:Value)(o M:Nat)(xs:List aB)(r:Syn.bW)(e:List cO)(I0:PH)(x:Nat×Nat×Value×Value×Value)(H:PH):Prop:=
 ∃I D A B l out ee,H=U [I,sg pb (cg lv fv ov x.2.2.2.2 o),D,A,B]/\Dj [I,sg pb (cg lv fv ov x.2.2.2.2 o),D,A,B]/\I0.le I/\x.1<=xs.length/\x.2.1<=M/\wK ts o r x.2.1 (xs.drop x.1) l out ee/\
  bQ I A x.2.2.1 l/\l.length=1/\jy I B x.2.2.2.1 out/\FN ts.length out/\eF I D x.2.2.2.2 (e++ee)
def UJ(pb:Nat)(vh:Value)(n i:Nat)(vh2:Value)(n2:Nat)(x:Nat×Nat×Value×Value×Value):St:=⟨dn 114 [(0,.v (pt pb)),(8,.v x.2.2.1),(13,.v x.2.2.2.1),(56,.v vh),(57,.v (iv n)),(58,.v (iv i)),(82,.v vh2),(83,.v (iv n2)),(84,.v (iv x.1))],[]⟩
def ZB(pb:Nat)(ts:List Tok)(lv fv ov:Value)(o M:Nat)(ys:List aB)(r:Syn.bW)(e:List cO)(I0:PH)(x:Nat×Nat×Value×Value×Value)(H:PH):Prop:=
 ∃I D A B l out ee,H=U [I,sg pb (cg lv fv ov x.2.2.2.2 o),D,A,B]/\Dj [I,sg pb (cg lv fv ov x.2.2.2.2 o),D,A,B]/\I0.le I/\x.1<=ys.length/\x.2.1<=M/\uM ts o r x.2.1 (ys.drop x.1) l out ee/\
  bQ I A x.2.2.1 l/\l.length=1/\jy I B x.2.2.2.1 out/\FN ts.length out/\eF I D x.2.2.2.2 (e++ee)
theorem LC{n:Nat}(ih:kP pb ts lv fv ov n){h0:aB}{slot:Nat}(hr:Syn.run ts n (.branch o h0 slot)=some r):vQ pb ts lv fv ov (.branch o h0 slot) r:=by
 obtain⟨m,rfl,hs⟩:=bR hr;have et:Syn.branch ts (Syn.run ts m) o h0 slot=some r:=hs;unfold Syn.branch at et;obtain⟨a,ha,hF⟩:=bU et;obtain⟨b,hb,hD⟩:=bU hF;obtain⟨l1,e4,hC⟩:=bU hD;obtain⟨l2,e3,eb⟩:=bU hC;obtain⟨xs,out,hz⟩:∃yes g,aM ts b.f (bD dr)=(yes,g):=⟨_,_,rfl⟩;rw[hz]at eb;simp only at eb;obtain⟨c,hc,h5⟩:=bU eb;cases h5
 have e2:=cW e4;have e0:=cW e3;obtain rfl:=bu e4;obtain rfl:=bu e3;clear et hF hD hC eb hs hr e4 e3;intro ho h4 I D dv xa xk e h hx cr he hm hd;have hl:=h.len;have er:=hx.lt (.inl h4);simp only[aa9]at hm;refine ah 114 func292 fun w0=>?_
 try simp only[iv,pt,yL,sD,rD]
 refine aT ?_;refine fx hd (by exact dQ) rfl rfl rfl rfl rfl bg fun wb A1 i9 cm=>?_;have kO:bQ I A1 _ [gz 8 h0 slot]:=⟨_,cm,.one (bm.mk (n:=gz 8 h0 slot) cr (Sl.nil _ _) lM)⟩;refine ll ?_;refine ad i9 [0,1,2] [] [A1,sg pb _,D] rfl jj rfl (ji (h:=h0) ab cr) fun v I2 qs hJ ca hq=>?_;obtain⟨rfl,ki⟩:=hq;simp only[aaz,aaA]at hJ |-;refine ll ?_;refine ad hJ [1,2,0] [sg pb _,D] [A1] rfl Bj rfl (ih m (aba m) _ _ ha ho (h.le ca) ki (bH hx er) (he.le ca) ab) fun v I3 qs hH ez hq=>?_;obtain⟨dv3,D3,rs,rfl,kk,⟨A3,B3,va3,vb3,rfl,rfl,kB,kq⟩,kd,_⟩:=hq;simp only[aaz,aaA]at hH |-;refine ll ?_;refine bf hH [2,0,1,3,4] fun i5=>?_;refine ae i5 fun I4 i4 b8 kx=>?_;have j2:eE I4 va3 a.l:=kB.sl b8 kx;refine bf i4 [2,0,1,3] fun i3=>?_;refine ae i3 fun I5 i2 an kp=>?_;have kc:eR I5 vb3 a.f:=kq.sl (abV b8 an) kp;have hn:=abV b8 an;have k5:=abV ca (abV ez hn);refine ad i2 [0,1,2] [sg pb _,D3] [A1] rfl sK rfl (ih m (aba m) _ _ hb ho (h.le k5) kc kd (kk.le hn) (by simp only[aa9];omega)) fun v I6 qs hG ey hq=>?_;obtain⟨dv6,D6,rs,rfl,kj,⟨A6,B6,va6,vb6,rfl,rfl,kv,kn⟩,ef,_⟩:=hq;simp only[aaz,aaA]at hG |-;refine ll ?_;refine bf hG [2,0,1,3,4] fun i1=>?_;refine ae i1 fun I7 f0 cA kt=>?_;have j1:eE I7 va6 b.l:=kv.sl cA kt;refine bf f0 [2,0,1,3] fun fC=>?_;refine ae fC fun I8 fA cy kl=>?_;have el:=abV cA cy;have ka:eR I8 vb6 b.f:=kn.sl el kl;have em:=abV ey el
 refine ad fA [2,0,1] [A1] [sg pb _,D6] rfl gy rfl (iV (kO.le (abV k5 em)) (eE.le j2 (abV an em)) (by simp[aN]) e2) fun v I9 qs dx cx hq=>?_;obtain⟨A9,rfl,kr⟩:=hq;simp only[aaz,aaA]at dx |-;refine ll ?_;refine ad dx [0,1,2] [A9] [sg pb _,D6] rfl gy rfl (iV kr (eE.le j1 (abV cy cx)) (by rw[cw];simp[aN]) e0) fun v8 l5 qs ds c4 hq=>?_;obtain⟨A10,rfl,hf⟩:=hq;simp only[aaz,aaA]at ds |-;refine ll ?_;refine ad ds [0,1,2] [] [A10,sg pb _,D6] rfl jl rfl (kM (s:=dr)) fun v l3 qs dk b6 hq=>?_;obtain⟨rfl,hO⟩:=hq;simp only[aaz,aaA]at dk |-;obtain⟨fi,first,cap,rfl,gi,ci⟩:=id hO;refine ll ?_;have k811:=abV cx (abV c4 b6);have hw:=abV k5 (abV em k811);refine ad dk [1,0,2] [sg pb _] [A10,D6] rfl jD rfl (jC (h.le hw) (ka.le k811) ef hO) fun v l0 qs dj ba hq=>?_;obtain⟨A12,B12,va12,vb12,rfl,rfl,b1,cj⟩:=hq;have hX:=fm h.ok ef (is:=bD dr);have hL:=gE h.ok ef (bD dr);have gb:=dC h.ok ef (bD dr);rw[hz]at b1 cj hX hL gb;simp only at b1 cj hX hL gb;obtain⟨xsa,xsc,rfl⟩:=b1.shape;simp only[aaz,aaA]at dj |-;refine ll ?_;refine bf dj [1,0,4,3,2] fun fz=>?_;refine ae (c:=.st _) fz fun hk fs ag g9=>?_;have jf:qO hk (.slice xsa xs.length xsc) xs:=b1.sl ag g9;have k1013:=abV b6 (abV ba ag);have k613:=abV el (abV k811 (abV ba ag));have hV:=abV hw (abV ba ag);have j0:wK ts o ⟨c.l,c.f,a.e++b.e++c.e⟩ m xs (give (give [gz 8 h0 slot] a.l) b.l) out (a.e++b.e):=⟨c,hc,rfl,rfl,rfl⟩
 refine aA (fun x=>xs.length-x.1) (WW pb slot (.slice xsa xs.length xsc) xs.length) (YU pb ts lv fv ov o m xs ⟨c.l,c.f,a.e++b.e++c.e⟩ e hk) (0,m,v8,vb12,dv6) gP (by simp only[go_sem,aa6,WW]) ?_ ?_
 ·exact⟨hk,D6,A10,B12,_,_,_,rfl,fs,abW _,aaL _,ZR _,j0,hf.le k1013,by simp[cw],cj.le ag,gb,by simpa[aaT]using kj.le k613⟩
 rintro⟨i,m',va,vb,dv⟩ H ⟨la,D14,A14,B14,l,out',ee,rfl,cc,a9,ic,h7,dT,hA,eA,hB,gl,hE⟩ ct;simp only at ic h7 dT hA hB hE;simp only[WW];have f9:qO la (.slice xsa xs.length xsc) xs:=jf.le a9;have hv:=abV hV a9;have hj:=h.le hv;rcases aaf i xs.length with ec|lb
 ·have hh:decide ((i:Int)<(xs.length:Int))=true:=by simp;omega
  have e1:=wrap64 (n:=i+1) ab;have k1:IntKind.i64.wrap ((i:Int)+1)=((i+1:Nat):Int):=by rw[<-e1];congr 1
  obtain⟨x,ea⟩:∃x,xs[i]?=some x:=⟨_,aak ec⟩;have h2:=aaV ea;obtain⟨cl,h3⟩:=hX x h2;have bx:=qo bg cl h3;obtain⟨bb,off,cs,rfl,ja,dy⟩:=f9.load l7.len ea;obtain⟨xa2,xk2,rfl,cp⟩:=ja;have i0:xs.drop i=x::xs.drop (i+1):=by
   rw[aaK ec];rw[aak ec]at ea;rw[aaZ ea]
  rw[i0]at dT;obtain⟨m'',aa,b2,rfl,f3,ix,gc,dI⟩:=FH dT;have c3:=dI.le;simp only[aa9]at c3;apply RG;simp only[go_sem,hh,iv,pt];refine⟨ab,?_⟩;refine XN (l:=[iv x.at',sD xa2 xk2 x.cond,rD x.cond,.int .u8 x.kind,.string ⟨⟨x.text⟩⟩]) (v:=.agg #[iv x.at',sD xa2 xk2 x.cond,rD x.cond,.int .u8 x.kind,.string ⟨⟨x.text⟩⟩]) rfl (cellsU cc (.head _) dy) (.inl ⟨gI,rfl⟩) ?_;refine dg ?_;refine ad cc [0,1,2,3] [] [sg pb _,D14,A14,B14] rfl jj rfl (ji (h:=x) ab cp) fun v ls qs dd c2 hq=>?_;obtain⟨rfl,gn⟩:=hq;simp only[aaz,aaA]at dd |-;refine dg ?_;refine ad dd [0,1,2,3] [] [sg pb _,D14,A14,B14] rfl jl rfl (kM (s:=kT)) fun vi ln qs dc b5 hq=>?_;obtain⟨rfl,d0⟩:=hq;simp only[aaz,aaA]at dc |-;obtain⟨fi2,first2,cap2,rfl,gi2,ci2⟩:=id d0;refine dg ?_;have hu:=abV c2 b5;obtain⟨ys,rest,es⟩:∃yes g,aM ts (bv x) (bD kT)=(yes,g):=⟨_,_,rfl⟩;have f5:=fm h.ok (bH cl bx) (is:=bD kT);have hK:=gE h.ok (bH cl bx) (bD kT);have ga:=dC h.ok (bH cl bx) (bD kT);refine ad dc [0,1,2,3] [sg pb _] [D14,A14,B14] rfl jD rfl (jC (hj.le hu) (gn.le b5) (bH cl bx) d0) fun v lk qs da c1 hq=>?_;obtain⟨A17,B17,va17,vb17,rfl,rfl,b0,cf⟩:=hq;rw[es]at b0 cf f5 hK ga f3 gc;simp only at b0 cf f5 hK ga f3 gc;obtain⟨ysa,ysc,rfl⟩:=b0.shape;simp only[aaz,aaA]at da |-;refine dg ?_;refine bf da [1,0,2,3,4,5] fun fr=>?_;refine ae fr fun k9 fo a7 g8=>?_;have jd:qO k9 (.slice ysa ys.length ysc) ys:=b0.sl a7 g8;refine bf fo [1,0,2,3,4] fun fn=>?_;refine ae fn fun k8 fl a5 g1=>?_;have gk:eR k8 vb17 rest:=cf.sl (abV a7 a5) g1
  have ep:=abV hu (abV c1 (abV a7 a5));have k0:=hj.le ep;refine ad fl [0,1,2,3] [sg pb _,D14] [A14,B14] rfl sK rfl (ih m'' ab _ _ f3 ho k0 gk ga (hE.le ep) (by simp only[aa9];omega)) fun v lj qs c9 b4 hq=>?_;obtain⟨dv20,D20,rs,rfl,gs,⟨A20,B20,va20,vb20,rfl,rfl,g7,g0⟩,d2,jo⟩:=hq;simp only[aaz,aaA]at c9 |-;refine dg ?_;refine bf c9 [2,0,1,3,4,5] fun fk=>?_;refine ae fk fun k7 fj a4 g6=>?_;have ge:eE k7 va20 aa.l:=g7.sl a4 g6;refine bf fj [2,0,1,3,4] fun fh=>?_;refine ae fh fun k6 fg a3 gT=>?_;have gg:eR k6 vb20 aa.f:=g0.sl (abV a4 a3) gT;have k2022:=abV a4 a3;have eo:=abV ep (abV b4 k2022);refine ad fg [2,0,1,3] [A14] [sg pb _,D20,B14] rfl gy rfl (iV (hA.le eo) (eE.le ge a3) (by rw[eA];simp[aN]) ix) fun v23 li qs c8 ac hq=>?_;obtain⟨A23,rfl,g5⟩:=hq;simp only[aaz,aaA]at c8 |-;refine dg ?_;refine ad c8 [3,0,1,2] [B14] [A23,sg pb _,D20] rfl eI rfl (cS (N:=ts.length) ab (hB.le (abV eo ac)) gl (gg.le ac) d2) fun v24 hT qs c7 am hq=>?_;obtain⟨B24,rfl,gF⟩:=hq;simp only[aaz,aaA]at c7 |-;refine dg ?_;refine bf c7 [2,3,1,0] fun fc=>?_;have hU:=abV eo (abV ac am);have k1824:=abV a5 (abV b4 (abV k2022 (abV ac am)));have dA:=jd.le k1824;have k2024:=abV k2022 (abV ac am)
  refine aA (fun x=>ys.length-x.1) (UJ pb (.slice (some ⟨bb,off,none⟩) xs.length xsc) xs.length i (.slice ysa ys.length ysc) ys.length) (ZB pb ts lv fv ov o m'' ys b2 (e++(ee++aa.e)) hT) (0,m'',v23,v24,dv20) gP (by simp only[go_sem,aa6,UJ]) ?_ ?_
  ·exact⟨hT,D20,A23,B24,_,_,_,rfl,fc,abW _,aaL _,ZR _,gc,g5.le am,by rw[cw];exact eA,gF,gl.joinAll d2,by simpa[aaT]using gs.le k2024⟩
  rintro⟨j,m3,vc,vd,dw⟩ H ⟨hS,D25,A25,B25,l2,out2,ee2,rfl,bC,al,h9,ex,bs,ek,ed,ei,bF,eg⟩ ao;simp only at h9 ex bs ek ei eg;simp only[UJ];have f6:qO hS (.slice ysa ys.length ysc) ys:=dA.le al;have ht:=abV hU al;have hP:=hj.le ht;rcases aaf j ys.length with aq|ie
  ·have hg:decide ((j:Int)<(ys.length:Int))=true:=by simp;omega
   have f1:=wrap64 (n:=j+1) ab;have f1':IntKind.i64.wrap ((j:Int)+1)=((j+1:Nat):Int):=by rw[<-f1];congr 1
   obtain⟨y,d3⟩:∃y,ys[j]?=some y:=⟨_,aak aq⟩;have hY:=aaV d3;obtain⟨hy,h1⟩:=f5 y hY;have hW:y.text≠[]:=by
    have:y.text=kT:=by simpa[bD]using h1
    rw[this];decide
   obtain⟨bc,off2,cs2,rfl,f2,cd⟩:=f6.load l7.len d3;obtain⟨ya,yk,rfl,b3⟩:=f2;have e5:ys.drop j=y::ys.drop (j+1):=by
    rw[aaK aq];rw[aak aq]at d3;rw[aaZ d3]
   rw[e5]at bs;obtain⟨m4,rfl,h6,eq⟩:=Ev bs;apply RG;simp only[go_sem,hg,iv,pt];refine⟨ab,?_⟩;refine XN (l:=[iv y.at',sD ya yk y.cond,rD y.cond,.int .u8 y.kind,.string ⟨⟨y.text⟩⟩]) (v:=.agg #[iv y.at',sD ya yk y.cond,rD y.cond,.int .u8 y.kind,.string ⟨⟨y.text⟩⟩]) rfl (cellsU bC (.head _) cd) (.inl ⟨gI,rfl⟩) ?_;refine dg ?_;by_cases b7:o=64
   ·have hN:=h6 b7;have an:=hN.le;simp only[aa9]at an;subst b7;refine ad bC [0,1,2,3] [sg pb _,D25] [A25,B25] rfl jh rfl (nq hP hy.le b3 eg (by simp[cJ]at an |-;omega)) fun v hR qs bd ak hq=>?_;obtain⟨dv26,D26,rs,rfl,gr,rfl,rfl⟩:=hq;simp only[aaz,aaA]at bd |-;apply RG;simp only[go_sem,iv,pt,sD,rD,f1',abK];exact ao (j+1,m4,vc,vd,dv26) _ _ dt gP (by simp only[go_sem,aa6,UJ]) ⟨hR,D26,A25,B25,_,_,_,rfl,bd,abV al ak,aq,by simp only;omega,hN,ek.le ak,ed,ei.le ak,bF,by simpa[aaT]using gr⟩
   ·obtain⟨a6,jc,eH,hM⟩:=eq b7;have cB:=hM.le;simp only[aa9]at cB;refine ad bC [0,1,2,3] [sg pb _] [D25,A25,B25] rfl jh rfl (lz (h:=y) (a:=ya) (k:=yk) ab) fun v hR qs bd ak hq=>?_;obtain⟨rfl,rfl,rfl⟩:=hq;simp only[aaz,aaA]at bd |-;apply RG;simp only[go_sem,iv,pt,sD,rD,f1',abQ];refine ad bd [0,1,2,3] [sg pb _,D25] [A25,B25] rfl Hj rfl (ih m4 ab (.branch (o+1) y 2) a6 jc ab hW hP hy b3 eg (by simp only[aa9];omega)) fun v ld qs c6 c0 hq=>?_;obtain⟨dv27,D27,rs,rfl,go,⟨A27,B27,va27,vb27,rfl,rfl,g4,gC⟩,d1,jg⟩:=hq;simp only[aaz,aaA]at c6 |-;refine dg ?_;refine bf c6 [2,0,1,3,4,5] fun fb=>?_;refine ae fb fun k4 fa a2 g3=>?_;have gd:eE k4 va27 a6.l:=g4.sl a2 g3;refine bf fa [2,0,1,3,4] fun e9=>?_;refine ae e9 fun k3 e8 a1 gA=>?_;have gf:eR k3 vb27 a6.f:=gC.sl (abV a2 a1) gA;have k2729:=abV a2 a1;have en:=abV c0 k2729;refine ad e8 [2,0,1,3] [A25] [sg pb _,D27,B25] rfl gy rfl (iV (ek.le en) (eE.le gd a1) (by rw[ed];simp[aN]) eH) fun v30 lc qs c5 aj hq=>?_;obtain⟨A30,rfl,g2⟩:=hq;simp only[aaz,aaA]at c5 |-;refine dg ?_;refine ad c5 [3,0,1,2] [B25] [A30,sg pb _,D27] rfl eI rfl (cS (N:=ts.length) ab (ei.le (abV en aj)) bF (gf.le aj) d1) fun v31 k2 qs cb aS hq=>?_;obtain⟨B31,rfl,gt⟩:=hq;simp only[aaz,aaA]at cb |-;refine dg ?_;refine XN (l:=[.int .i64 ((o+1:Nat):Int)]) rfl (cellsU cb (.tail _ (.tail _ (.tail _ (.head _)))) (ay (by simp[cg]) rfl)) (.inr ⟨jq,rfl⟩) ?_;apply RG;simp only[go_sem,iv,pt,sD,rD,kE o ho]
    refine bf cb [2,3,1,0] fun e7=>?_;refine bw e7 rfl rfl rfl rfl rfl (by exact uZ) (by simp) fun e6=>?_;apply RG;simp only[go_sem,iv,pt,sD,rD,f1'];exact ao (j+1,m4,v30,v31,dv27) _ _ dt gP (by simp only[go_sem,aa6,UJ]) ⟨k2,D27,A30,B31,_,_,_,rfl,e6,abV al (abV en (abV aj aS)),aq,by simp only;omega,hM,g2.le aS,by rw[cw];exact ed,gt,bF.joinAll d1,by simpa[aaT]using go.le (abV k2729 (abV aj aS))⟩
  ·have h8:j=ys.length:=by omega
   subst h8;have hg:=Z6 ys.length;rw[abH]at bs;obtain⟨rfl,rfl,rfl⟩:=Io bs;apply RG;simp only[go_sem,hg,iv,pt,k1];exact ct (i+1,m'',vc,vd,dw) _ _ dt gP (by simp only[go_sem,aa6,WW]) ⟨hS,D25,A25,B25,_,_,_,rfl,bC,abV a9 ht,ec,by simp only;omega,dI,ek,ed,ei,bF,by simpa[aaT]using eg⟩
 ·have ia:i=xs.length:=by omega
  subst ia;have hh:=Z6 xs.length;rw[abH]at dT;obtain⟨rfl,rfl,rfl⟩:=HL dT;apply RG;simp only[go_sem,hh,iv,pt];exact af rfl cc (r:=[va,vb]) rfl hv ⟨_,D14,[A14,B14],rfl,hE,⟨A14,B14,va,vb,rfl,rfl,hA,hB⟩,gl,by rw[eA];simp[aN]⟩
end
end Go.Proofs.YtfaclfkpnmcmlaaGreatDoor
namespace Syn
open Dg
def Ou{a b:T}(ha:a.ok 0)(hb:b.ok 0):(a.or b).card<=a.card+b.card:=by
 have h1:(a.or b).card=a.card+(b.and a.not).card:=T.card_add fun c=>by
  rw[T.or_at ha hb,T.and_at hb (T.not_ok ha),T.not_at];cases a.at' c<;>cases b.at' c<;>rfl
 have h2:(b.and a.not).card<=b.card:=T.card_mono fun c=>by
  rw[T.and_at hb (T.not_ok ha)];intro h;simp at h;exact h.1
 omega
def MJ{a b:T}(ha:a.ok 0)(hb:b.ok 0):(a.and b).card+(a.and b.not).card=a.card:=by
 refine(T.card_add fun c=>?_).symm;rw[T.and_at ha hb,T.and_at ha (T.not_ok hb),T.not_at];cases a.at' c<;>cases b.at' c<;>rfl
def lp(N:Nat)(a:Nat)(d:T):Nat:=d.card*(N+1-a)
def fe(N:Nat)(f:ar):Nat:=(f.map fun s=>lp N s.1 s.2).sum
def hp(N:Nat)(h:aB):Nat:=lp N h.at' h.cond
def eT(N:Nat)(hs:List aB):Nat:=(hs.map (hp N)).sum
theorem dO(N:Nat):fe N []=0:=rfl
def fO(N:Nat)(s:Nat×T)(f:ar):fe N (s::f)=lp N s.1 s.2+fe N f:=by simp[fe]
theorem o8(N:Nat):eT N []=0:=rfl
def bo(N:Nat)(h:aB)(hs:List aB):eT N (h::hs)=hp N h+eT N hs:=by simp[eT]
variable{d:T}{N a:Nat}
def Vy{e:T}(hd:d.ok 0)(he:e.ok 0):lp N a (d.or e)<=lp N a d+lp N a e:=by
 unfold lp;rw[<-aaP];exact aaQ _ (Ou hd he)
def MB(hd:d.ok 0)(aa:d≠ff)(ha:a<=N):1<=lp N a d:=by
 have h1:=T.card_pos hd aa;unfold lp;exact ZS ab (Nat.mul_le_mul h1 (show 1<=N+1-a by omega))
def Qu(ha:a<=N):lp N (a+1) d+d.card=lp N a d:=by
 unfold lp;rw[show N+1-a=(N+1-(a+1))+1 by omega,Nat.mul_add,Nat.mul_one]
def O6{b:Nat}(d:T)(h:a<=b):lp N b d<=lp N a d:=Nat.mul_le_mul_left _ ab
def P7{f:ar}(hf:∀s∈f,s.2.ok 0)(hd:d.ok 0):fe N (vL f a d)<=fe N f+lp N a d:=by
 induction f with
 |nil=>simp[vL,fe]
 |cons s f ih=>
  obtain⟨b,e⟩:=s;have:=ih fun t ht=>hf t (.tail _ ht);simp only[vL];split
  ·rw[fO,fO];omega
  ·split
   ·rename_i h2;have:=Vy (N:=N) (a:=b) (hf _ (.head _)) hd;simp only[fO]at *;subst h2;omega
   ·simp only[fO];omega
def jF{f:ar}(hf:∀s∈f,s.2.ok 0)(hd:d.ok 0):fe N (join f a d)<=fe N f+lp N a d:=by
 unfold join;split
 ·omega
 ·exact P7 hf hd
def cq.all{f:ar}(h:cq f):∀s∈f,s.2.ok 0:=fun s hs=>(h.1 s hs).1
def eC{g:ar}(hg:∀s∈g,s.2.ok 0):∀{f:ar},cq f->fe N (joinAll f g)<=fe N f+fe N g:=by
 induction g with
 |nil=>intro f _;simp[joinAll,fe]
 |cons s g ih=>
  intro f hf;have h1:=jF (N:=N) hf.all (a:=s.1) (hg s (.head _));have h2:=ih (fun t ht=>hg t (.tail _ ht)) (f:=join f s.1 s.2) (eu hf (hg s (.head _)));unfold joinAll at *;simp only[fu,fO];omega
def wV{N:Nat}:∀{l:List Tok} {a:ar} {i:Nat} {d:T},bT l->cq a->d.ok 0->fe N (eW a l i d)<=fe N a+lp N i d
 | [],a,i,d,hl,ha,hd=>jF ha.all hd
 |t::l,a,i,d,hl,ha,hd=>by
  simp only[eW];split
  ·omega
  ·have ht:=hl t (.head _);have h1:=jF (N:=N) ha.all (a:=i) (T.and_ok hd ht);have h2:=wV (N:=N) (l:=l) (a:=join a i (d.and t.cond)) (i:=i+1) (d:=d.and t.cond.not) (fun x hx=>hl x (.tail _ hx)) (eu ha (T.and_ok hd ht)) (T.and_ok hd (T.not_ok ht));have h3:=O6 (N:=N) (a:=i) (b:=i+1) (d.and t.cond.not) ab;have h4:lp N i (d.and t.cond)+lp N i (d.and t.cond.not)=lp N i d:=by
    unfold lp;rw[<-aaP,MJ hd ht]
   omega
def yN{ts:List Tok}(aa:bT ts){f:ar}(hf:∀s∈f,s.2.ok 0):fe N (eK ts f)<=fe N f:=by
 have key:∀(f:ar) (a:ar),(∀s∈f,s.2.ok 0)->cq a->fe N (f.foldl (fun at' s=>eW at' (ts.drop s.1) s.1 s.2) a)<=fe N a+fe N f:=by
  intro f
  induction f with
  |nil=>intro a _ _;simp[fe]
  |cons s f ih=>
   intro a h1 h2;have h3:=wV (N:=N) (aa.drop s.1) h2 (i:=s.1) (h1 s (.head _));have h4:=ih (eW a (ts.drop s.1) s.1 s.2) (fun t ht=>h1 t (.tail _ ht)) (zD (aa.drop _) h2 (h1 s (.head _)));simp only[fu,fO];omega
 have:=key f [] hf cq.nil;rw[dO,ZZ]at this;exact this
def DA(N:Nat)(ts:List Tok):∀(f:ar),eT N (f.map (cQ ts))=fe N f
 | []=>rfl
 |s::f=>by
  have h:=DA N ts f;have e:hp N (cQ ts s)=lp N s.1 s.2:=by unfold hp;rw[jX,jw]
  rw[aaU,bo,fO,h,e]
def pm(N:Nat){h:aB}:∀{hs:List aB},h∈hs->hp N h<=eT N hs
 | [],hm=>(aaB hm).elim
 |x::hs,hm=>by
  rw[bo];rcases List.mem_cons.1 hm with e|e
  ·subst e;omega
  ·have:=pm N e;omega
section
variable {ts:List Tok} {f:ar}
def hQ(aa:bT ts)(fn:FN ts.length f){N:Nat}:eT N (bE ts f)<=fe N f:=by
 rw[lS aa fn.ok,DA];exact yN aa fn.ok.all
def kS.pos{h:aB}(k:kS ts h):1<=hp ts.length h:=MB k.ok k.ne k.le
def kS.next{h:aB}(k:kS ts h):lp ts.length (h.at'+1) h.cond+1<=hp ts.length h:=by
 have h1:=Qu (d:=h.cond) k.le;have h2:=T.card_pos k.ok k.ne;unfold hp;omega
def vT(fn:FN ts.length f)(h:f≠[]):1<=fe ts.length f:=by
 cases f with
 |nil=>exact absurd rfl h
 |cons s f=>
  have:=MB (fn.ok.1 s (.head _)).1 (fn.ok.1 s (.head _)).2 (fn.le s (.head _));rw[fO];omega
def bz(h:aB)(N:Nat):fe N (bv h)=lp N (h.at'+1) h.cond:=by simp[bv,fe]
def fR(h:aB)(N:Nat):fe N (bX h)=hp N h:=by simp[bX,fe,hp]
variable{hs:List aB}
def qL{N:Nat}(hh:∀h∈hs,h.cond.ok 0):∀{f:ar},cq f->fe N (hs.foldl joinH f)<=fe N f+eT N hs:=by
 induction hs with
 |nil=>intro f _;simp[eT]
 |cons h hs ih=>
  intro f hf;have h0:=hh h (.head _);have h1:=jF (N:=N) hf.all (a:=h.at') h0;have h2:=ih (fun t ht=>hh t (.tail _ ht)) (f:=joinH f h) (eu hf h0);simp only[fu,bo,hp];unfold joinH at *;omega
def xu(hh:∀h∈hs,kS ts h):∀{f:ar},cq f->fe ts.length (hs.foldl joinH1 f)+hs.length<=fe ts.length f+eT ts.length hs:=by
 induction hs with
 |nil=>intro f _;simp[eT]
 |cons h hs ih=>
  intro f hf;have h0:=hh h (.head _);have h1:=jF (N:=ts.length) hf.all (a:=h.at'+1) h0.ok;have h2:=ih (fun t ht=>hh t (.tail _ ht)) (f:=joinH1 f h) (eu hf h0.ok);have h3:=h0.next;simp only[fu,bo,aaj];unfold joinH1 at *;omega
def Cz(N:Nat)(is:aB->Bool)(hs:List aB):eT N (hs.filter is)+eT N (hs.filter fun h=>!is h)=eT N hs:=by
 induction hs with
 |nil=>rfl
 |cons h hs ih=>
  cases e:is h<;>simp only[aby,e,abQ,abK,reduceIte,bo,aa5]<;>omega
def iM(aa:bT ts)(fn:FN ts.length f)(is:aB->Bool):eT ts.length (aM ts f is).1+fe ts.length (aM ts f is).2<=fe ts.length f:=by
 rw[oB];have h1:=Cz ts.length is (bE ts f);have h2:=qL (N:=ts.length) (hs:=(bE ts f).filter fun h=>!is h) (fun h hh=>(b9 aa fn (List.mem_filter.1 hh).1).ok) cq.nil;have h3:=hQ aa fn (N:=ts.length);rw[dO]at h2;show eT ts.length ((bE ts f).filter is)+fe ts.length (((bE ts f).filter fun h=>!is h).foldl joinH [])<=_;omega
def wU(hh:∀h∈hs,kS ts h):hs.length<=eT ts.length hs:=by
 induction hs with
 |nil=>exact ZR _
 |cons h hs ih=>
  have h1:=(hh h (.head _)).pos;have h2:=ih fun t ht=>hh t (.tail _ ht);rw[bo,aaj];omega
theorem nh(h:aB)(k:Nat):(cJ h k).length=2:=rfl
def i7(aa:bT ts)(fn:FN ts.length f)(s:bq):(take ts f s).2.length+3*fe ts.length (take ts f s).1<=3*fe ts.length f:=by
 have key:∀(hs:List aB) (z:ar×List cO),(∀h∈hs,kS ts h)->cq z.1->(hs.foldl (gH s) z).2.length+3*fe ts.length (hs.foldl (gH s) z).1<=z.2.length+3*fe ts.length z.1+3*eT ts.length hs:=by
  intro hs
  induction hs with
  |nil=>intro z _ _;simp[eT]
  |cons h hs ih=>
   intro z hh hz;have h0:=hh h (.head _);simp only[fu,bo];have hk:=h0.next;have ac:=h0.pos;by_cases e:h.text=s
   ·have e2:gH s z h=(join z.1 (h.at'+1) h.cond,z.2):=by simp[gH,e]
    have h1:=jF (N:=ts.length) hz.all (a:=h.at'+1) h0.ok;have:=ih (gH s z h) (fun t ht=>hh t (.tail _ ht)) (by rw[e2];exact eu hz h0.ok);rw[e2]at this |-;simp only at this;omega
   ·have e2:gH s z h=(z.1,z.2++cJ h 10):=by simp[gH,e]
    have:=ih (gH s z h) (fun t ht=>hh t (.tail _ ht)) (by rw[e2];exact hz);rw[e2]at this |-;simp only[aa9,nh]at this;omega
 have:=key (bE ts f) ([],[]) (fun h hh=>b9 aa fn hh) cq.nil;rw[tX];have h3:=hQ aa fn (N:=ts.length);simp only[dO,aaO]at this;omega
def Sp(N w:Nat)(r:bW):Prop:=r.e.length+r.l.length+3*fe N r.f<=w
def nz(ac:bT ts)(fn:FN ts.length f)(kind slot:Nat):(Sp ts.length (3*fe ts.length f) (named ts f kind slot)/\(f≠[]->Sp ts.length (3*fe ts.length f-1) (named ts f kind slot)))/\∀n∈(named ts f kind slot).l,n.kids=[]:=by
 have key:∀(hs:List aB) (z:bW),(∀h∈hs,kS ts h)->cq z.f->(∀n∈z.l,n.kids=[])->Sp ts.length (3*eT ts.length hs+3*fe ts.length z.f+z.l.length+2*z.e.length-hs.length) ⟨(hs.foldl (cE kind slot) z).l,(hs.foldl (cE kind slot) z).f,(hs.foldl (cE kind slot) z).e++z.e⟩/\∀n∈(hs.foldl (cE kind slot) z).l,n.kids=[]:=by
  intro hs
  induction hs with
  |nil=>intro z _ _ h;refine⟨?_,h⟩;unfold Sp;simp[eT];omega
  |cons h hs ih=>
   intro z hh hz hn;have h0:=hh h (.head _);simp only[fu,bo,aaj];have aa:=wU (ts:=ts) (hs:=hs) fun t ht=>hh t (.tail _ ht);have hk:=h0.next;have ak:=h0.pos;by_cases e:h.kind≠1\/dG h.text=true
   ·have e2:cE kind slot z h={ z with e:=z.e++cJ h 10 }:=by unfold cE;rw[aaq e]
    have:=ih (cE kind slot z h) (fun t ht=>hh t (.tail _ ht)) (by rw[e2];exact hz) (by rw[e2];exact hn);rw[e2]at this |-;refine⟨?_,this.2⟩;have h1:=this.1;unfold Sp at h1 |-;simp only[aa9,nh]at h1 |-;omega
   ·have e2:cE kind slot z h=⟨z.l++[⟨kind,h.text,h.at',slot,[],h.cond⟩],join z.f (h.at'+1) h.cond,z.e⟩:=by unfold cE;rw[ZV e]
    have hj:=jF (N:=ts.length) hz.all (a:=h.at'+1) h0.ok;have:=ih (cE kind slot z h) (fun t ht=>hh t (.tail _ ht)) (by rw[e2];exact eu hz h0.ok) (by
     rw[e2];intro n hm;rcases List.mem_append.1 hm with hm|hm
     ·exact hn n hm
     ·simp at hm;subst hm;rfl)
    rw[e2]at this |-;refine⟨?_,this.2⟩;have h1:=this.1;unfold Sp at h1 |-;simp only[aa9,aaj,aaO]at h1 |-;omega
 have:=key (bE ts f) ⟨[],[],[]⟩ (fun h hh=>b9 ac fn hh) cq.nil (fun n h=>(aaB h).elim);rw[lR];have h3:=hQ ac fn (N:=ts.length);have aa:=wU (ts:=ts) (hs:=bE ts f) fun h hh=>b9 ac fn hh;have h1:=this.1;unfold Sp at h1 |-;simp only[dO,aaO,aa6]at h1;refine⟨⟨ab,fun ag=>?_⟩,this.2⟩;have aj:=vT fn ag;cases hH:bE ts f with
 |nil=>rw[hH]at h1;simp only[o8,aaO,List.foldl_nil,dO]at h1 |-;omega
 |cons h hs=>rw[hH]at h1 h3 aa;simp only[aaj]at h1 aa;omega
def uz(aa:bT ts)(fn:FN ts.length f)(slot:Nat):Sp ts.length (3*fe ts.length f) (sW ts f slot)/\∀n∈(sW ts f slot).l,n.kids=[]:=by
 have key:∀(hs:List aB) (z:bW),(∀h∈hs,kS ts h)->cq z.f->(∀n∈z.l,n.kids=[])->Sp ts.length (3*eT ts.length hs+3*fe ts.length z.f+z.l.length+2*z.e.length) ⟨(hs.foldl (cD slot) z).l,(hs.foldl (cD slot) z).f,(hs.foldl (cD slot) z).e++z.e⟩/\∀n∈(hs.foldl (cD slot) z).l,n.kids=[]:=by
  intro hs
  induction hs with
  |nil=>intro z _ _ h;refine⟨?_,h⟩;unfold Sp;simp[eT];omega
  |cons h hs ih=>
   intro z hh hz hn;have h0:=hh h (.head _);simp only[fu,bo];have hk:=h0.next;have ac:=h0.pos;by_cases e:h.text≠vM/\h.text≠oO
   ·have e2:cD slot z h={ z with e:=z.e++cJ h 10 }:=by unfold cD;rw[aaq e]
    have:=ih (cD slot z h) (fun t ht=>hh t (.tail _ ht)) (by rw[e2];exact hz) (by rw[e2];exact hn);rw[e2]at this |-;refine⟨?_,this.2⟩;have h1:=this.1;unfold Sp at h1 |-;simp only[aa9,nh]at h1 |-;omega
   ·have e2:cD slot z h=⟨z.l++[⟨5,h.text,h.at',slot,[],h.cond⟩],join z.f (h.at'+1) h.cond,z.e⟩:=by unfold cD;rw[ZV e]
    have hj:=jF (N:=ts.length) hz.all (a:=h.at'+1) h0.ok;have:=ih (cD slot z h) (fun t ht=>hh t (.tail _ ht)) (by rw[e2];exact eu hz h0.ok) (by
     rw[e2];intro n hm;rcases List.mem_append.1 hm with hm|hm
     ·exact hn n hm
     ·simp at hm;subst hm;rfl)
    rw[e2]at this |-;refine⟨?_,this.2⟩;have h1:=this.1;unfold Sp at h1 |-;simp only[aa9,aaj,aaO]at h1 |-;omega
 have:=key (bE ts f) ⟨[],[],[]⟩ (fun h hh=>b9 aa fn hh) cq.nil (fun n h=>(aaB h).elim);rw[oj];have h3:=hQ aa fn (N:=ts.length);refine⟨?_,this.2⟩;have h1:=this.1;unfold Sp at h1 |-;simp only[dO,aaO,aa6]at h1;omega
variable{l:List Nd}
def dW{ks:List Nd}{K:Nat}(h:∀n∈l,n.kids.length<=K)(hk:K+ks.length<=aN):jb l ks=some (give l ks)/\(give l ks).length=l.length/\∀n∈give l ks,n.kids.length<=K+ks.length:=by
 refine⟨?_,by simp[give],?_⟩
 ·unfold jb;rw[aaq];rw[aap];intro n hn;have:=h n hn;simp only[aaC];omega
 ·intro n hn;obtain⟨m,hm,rfl⟩:=List.mem_map.1 hn;have:=h m hm;simp only[aa9];omega
def tS(h:l.length<=aN):ck l=some ():=aaq h
def z7(l:List Nd)(d:T):(fX l d).length<=l.length:=List.length_filterMap_le ..
def wH(l:List Nd)(d:T):(dH l d).length<=l.length:=List.length_filterMap_le ..
def m7(l:List Nd)(d:T):(kJ l d).length=l.length:=by cases l<;>rfl
end
end Syn
