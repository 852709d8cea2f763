import Derived.Test.YtfaclfkpnmcmlaaGreatDoorT16
set_option maxHeartbeats 8000000
set_option linter.all false
namespace Go.Proofs.YtfaclfkpnmcmlaaGreatDoor
open Go Go.Sx Dg Syn
section
variable {pb:Nat} {ts:List Tok} {lv fv ov:Value}
def AH:aO Tryz.prog 220:=⟨_,Tryz.func220,rfl,rfl⟩
def pP(ts:List Tok)(k o slot:Nat)(r:Syn.bW)(m:Nat)(first:Bool)(l:List Nd)(g out:ar)(ee:List cO):Prop:=
 ∃b,Syn.run ts m (.lineL k o slot first l g out)=some b/\b.l=r.l/\b.f=r.f/\ee++b.e=r.e
def rW(ts:List Tok)(k o slot:Nat)(r:Syn.bW)(m:Nat)(ops:List aB)(l:List Nd)(g:ar)(ee:List cO):Prop:=
 ∃b,Syn.run ts m (.lineO k o slot ops l g)=some b/\b.l=r.l/\b.f=r.f/\ee++b.e=r.e
variable{ee:List cO}{g:ar}{l:List Nd}{r:Syn.bW}{k o slot m:Nat}
def EZ(h:rW ts k o slot r m [] l g ee):l=r.l/\g=r.f/\ee=r.e:=by
 obtain⟨b,hb,h1,h2,h3⟩:=h;obtain⟨m',rfl,ac⟩:=bR hb;have aa:Syn.lineO (Syn.run ts m') k o slot [] l g=some b:=ac;unfold Syn.lineO at aa;simp only at aa;cases aa
 exact⟨h1,h2,by simpa using h3⟩
variable{xs:List aB}
def Df{x:aB}(h:rW ts k o slot r m (x::xs) l g ee):∃m' a,m=m'+1/\
  Syn.run ts m' (.line (k+1) o (bv x) 1)=some a/\(fX l x.cond).length+a.l.length<=aN/\(dH l x.cond).length+1<=aN/\
  rW ts k o slot r m' xs (dH l x.cond++[⟨13,x.text,x.at',slot,fX l x.cond++a.l,x.cond⟩]) (Syn.joinAll g a.f) (ee++a.e):=by
 obtain⟨b0,hb,h1,h2,h3⟩:=h;obtain⟨m',rfl,am⟩:=bR hb;have aa:Syn.lineO (Syn.run ts m') k o slot (x::xs) l g=some b0:=am;unfold Syn.lineO at aa;simp only at aa;obtain⟨a,ha,al⟩:=bU aa;obtain⟨_,an,ak⟩:=bU al;obtain⟨_,ac,aj⟩:=bU ak;obtain⟨b,ao,ag⟩:=bU aj;cases ag
 have h4:=qK an;have h5:=qK ac;simp only[aa9,aaJ]at h4 h5;exact⟨m',a,rfl,ha,h4,h5,b,ao,h1,h2,by simpa[aaT]using h3⟩
variable{out:ar}{first:Bool}
def ES(h:pP ts k o slot r m first l [] out ee):l=r.l/\out=r.f/\ee=r.e:=by
 obtain⟨b,hb,h1,h2,h3⟩:=h;obtain⟨m',rfl,ac⟩:=bR hb;have aa:Syn.lineL ts (Syn.run ts m') k o slot first l [] out=some b:=ac;unfold Syn.lineL at aa;rw[aaq rfl]at aa;cases aa
 exact⟨h1,h2,by simpa using h3⟩
def D1(h:pP ts k o slot r m first l g out ee)(hg:g≠[])(hk:k=2/\first=false):l=r.l/\Syn.joinAll out g=r.f/\ee=r.e:=by
 obtain⟨b,hb,h1,h2,h3⟩:=h;obtain⟨m',rfl,ac⟩:=bR hb;have aa:Syn.lineL ts (Syn.run ts m') k o slot first l g out=some b:=ac;unfold Syn.lineL at aa;rw[ZV hg,aaq hk]at aa;cases aa
 exact⟨h1,h2,by simpa using h3⟩
def IN(h:pP ts k o slot r m first l g out ee)(hg:g≠[])(hk:¬(k=2/\first=false)):
  ∃m' a,m=m'+1/\rW ts k o slot a m' (aM ts g (ti k)).1 l [] []/\pP ts k o slot r m' false a.l a.f (Syn.joinAll out (aM ts g (ti k)).2) (ee++a.e):=by
 obtain⟨b0,hb,h1,h2,h3⟩:=h;obtain⟨m',rfl,ak⟩:=bR hb;have aa:Syn.lineL ts (Syn.run ts m') k o slot first l g out=some b0:=ak;unfold Syn.lineL at aa;rw[ZV hg,ZV hk]at aa;obtain⟨ops,rest,ac⟩:∃yes no,aM ts g (ti k)=(yes,no):=⟨_,_,rfl⟩;rw[ac]at aa |-;simp only at aa |-;obtain⟨a,ha,aj⟩:=bU aa;obtain⟨b,al,ag⟩:=bU aj;cases ag
 exact⟨m',a,rfl,⟨a,ha,rfl,rfl,rfl⟩,b,al,h1,h2,by simpa[aaT]using h3⟩
def pP.le(h:pP ts k o slot r m first l g out ee):ee.length<=r.e.length:=by
 obtain⟨b,_,_,_,h⟩:=h;rw[<-h];simp
def rW.le(h:rW ts k o slot r m xs l g ee):ee.length<=r.e.length:=by
 obtain⟨b,_,_,_,h⟩:=h;rw[<-h];simp
variable{n:Nd}
def oq{d:T}{i:Nat}(h:l[i]?=some n):fX (l.take (i+1)) d=fX (l.take i) d++(if n.cond.and d=ff then []else [{ n with cond:=n.cond.and d,slot:=0 }]):=by
 have aa:i<l.length:=by
  rcases aaf i l.length with h'|h'
  ·exact h'
  ·rw[aan h']at h;cases h
 rw[aak aa]at h;unfold fX;rw[aaM aa,List.filterMap_append,aaZ h];congr 1;by_cases hf:n.cond.and d=ff
 ·simp[hf]
 ·simp[hf]
def mq{d:T}{i:Nat}(h:l[i]?=some n):dH (l.take (i+1)) d=dH (l.take i) d++(if n.cond.and d.not=ff then []else [{ n with cond:=n.cond.and d.not }]):=by
 have aa:i<l.length:=by
  rcases aaf i l.length with h'|h'
  ·exact h'
  ·rw[aan h']at h;cases h
 rw[aak aa]at h;unfold dH;rw[aaM aa,List.filterMap_append,aaZ h];congr 1;by_cases hf:n.cond.and d.not=ff
 ·simp[hf]
 ·simp[hf]
def T3{C:Cx}{k:List Item}{σ0:St}{H:PH}{P:Prop}(h1:RC C (.st k) σ0 H->P)(h:RC C (.st k) σ0 H):P:=h1 h
def iJ{I:PH}{nb:Nat}{cs:List Value}(h:aP I nb 0 cs)(hn:bm I cs n):eE I (.slice (some ⟨nb,0,none⟩) 1 1) [n]:=⟨_,_,rfl,.inr ⟨nb,0,cs,rfl,h,.one hn⟩⟩
def Ik(pb hb slot:Nat)(vl vg vo:Value):St:=⟨dn 139 [(0,.v (pt pb)),(3,.v (iv slot)),(5,.v (pt hb)),(10,.v vl),(11,.v vg),(12,.v vo)],[]⟩
def QH(pb hb slot:Nat)(x:Nat×Bool×Value×Value×Value×Value):St:=⟨dn 139 [(0,.v (pt pb)),(3,.v (iv slot)),(5,.v (pt hb)),(10,.v x.2.2.1),(11,.v x.2.2.2.1),(12,.v x.2.2.2.2.1),(13,.v (.bool x.2.1))],[]⟩
def XL(pb:Nat)(ts:List Tok)(lv fv ov:Value)(k o slot M:Nat)(r:Syn.bW)(e:List cO)(I0:PH)(x:Nat×Bool×Value×Value×Value×Value)(H:PH):Prop:=
 ∃I D A B C l g out ee,H=U [I,sg pb (cg lv fv ov x.2.2.2.2.2 o),D,A,B,C]/\Dj [I,sg pb (cg lv fv ov x.2.2.2.2.2 o),D,A,B,C]/\I0.le I/\x.1<=M/\pP ts k o slot r x.1 x.2.1 l g out ee/\
  bQ I A x.2.2.1 l/\l.length<=aN/\jy I B x.2.2.2.1 g/\FN ts.length g/\jy I C x.2.2.2.2.1 out/\FN ts.length out/\eF I D x.2.2.2.2.2 (e++ee)
def PD(pb hb slot:Nat)(vout vh:Value)(n:Nat)(x:Nat×Nat×Value×Value×Value):St:=⟨dn 139 [(0,.v (pt pb)),(3,.v (iv slot)),(5,.v (pt hb)),(10,.v x.2.2.1),(11,.v x.2.2.2.1),(12,.v vout),(66,.v vh),(67,.v (iv n)),(68,.v (iv x.1))],[]⟩
def Xz(pb:Nat)(ts:List Tok)(lv fv ov:Value)(k o slot M:Nat)(C:PH)(ops:List aB)(r:Syn.bW)(e:List cO)(I0:PH)(x:Nat×Nat×Value×Value×Value)(H:PH):Prop:=
 ∃I D A B l g ee,H=U [I,sg pb (cg lv fv ov x.2.2.2.2 o),D,A,B,C]/\Dj [I,sg pb (cg lv fv ov x.2.2.2.2 o),D,A,B,C]/\I0.le I/\x.1<=ops.length/\x.2.1<=M/\rW ts k o slot r x.2.1 (ops.drop x.1) l g ee/\
  bQ I A x.2.2.1 l/\l.length<=aN/\jy I B x.2.2.2.1 g/\FN ts.length g/\eF I D x.2.2.2.2 (e++ee)
def EH(pb hb slot:Nat)(vg vout vh:Value)(n i:Nat)(cs:List Value)(vl:Value)(n2:Nat)(x:Nat×Value×Value):St:=⟨dn 139 [(0,.v (pt pb)),(3,.v (iv slot)),(5,.v (pt hb)),(11,.v vg),(12,.v vout),(17,.p 17 0),(18,.v x.2.1),(19,.v x.2.2),(66,.v vh),(67,.v (iv n)),(68,.v (iv i)),(72,.v vl),(73,.v (iv n2)),(74,.v (iv x.1))],[⟨17,227,cs⟩]⟩
def Xw(pb:Nat)(rc:Obj)(D B C:PH)(l:List Nd)(d:T)(I0:PH)(x:Nat×Value×Value)(H:PH):Prop:=
 ∃I L O,H=U [I,sg pb rc,D,B,C,L,O]/\Dj [I,sg pb rc,D,B,C,L,O]/\I0.le I/\x.1<=l.length/\bQ I L x.2.1 (fX (l.take x.1) d)/\bQ I O x.2.2 (dH (l.take x.1) d)
theorem SC{n:Nat}(ih:kP pb ts lv fv ov n){f:ar}(hr:Syn.run ts n (.line k o f slot)=some r):vQ pb ts lv fv ov (.line k o f slot) r:=by
 obtain⟨m,rfl,hs⟩:=bR hr;have dI:Syn.line (Syn.run ts m) k o f slot=some r:=hs;clear hs hr;intro hk ho I D dv vf e h hf fn he hm hd;have hl:=h.len;unfold Syn.line at dI;refine ah 139 Tryz.func144 fun w0=>?_
 try simp only[iv,pt]
 apply bL 5;simp only[go_sem];refine fV 5 hd rfl fun hb h9=>?_;refine ae (c:=.st _) h9 fun I2 e3 bC ic=>?_;have hc:aP I2 hb 0 [iv k]:=(ay (by simp) rfl:aP (sg hb (.cells [iv k].toArray 3 (0,0))) hb 0 [iv k]).le ic;have h2:=h.le bC;have hw:=eF.le he bC;have hu:=hf.le bC;apply RG;simp only[go_sem,mF,List.map,pt];refine XN (l:=[iv k]) rfl (cellsU e3 (.head _) hc) (.inr ⟨jq,rfl⟩) ?_;by_cases h5:k=5
 ·rw[aaq h5]at dI;have q5:((k:Int) == 5)=true:=by rw[h5];rfl
  apply RG;simp only[go_sem,iv,pt,q5];refine ad e3 [0,1] [sg pb _,D] [] rfl AH rfl (ih m (aba m) (.unary o f slot) r dI ho h2 hu fn hw hm) fun v I5 qs ef c5 hq=>?_;obtain⟨dv5,D5,rs,rfl,gg,⟨A5,B5,va5,vb5,rfl,rfl,gF,go⟩,ge,f3⟩:=hq;simp only[Z3]at ef |-;refine ll ?_;exact af rfl ef (r:=[va5,vb5]) rfl (abV bC c5) ⟨dv5,D5,[A5,B5],rfl,gg,⟨A5,B5,va5,vb5,rfl,rfl,gF,go⟩,ge,f3⟩
 rw[ZV h5]at dI;have q5:((k:Int) == 5)=false:=by rw[abS];omega
 obtain⟨a,ha,hP⟩:=bU dI;obtain⟨b,ie,hN⟩:=bU hP;cases hN
 simp only[aa9]at hm;have w1:=wrap64 (n:=k+1) ab;have w1':IntKind.i64.wrap ((k:Int)+1)=((k+1:Nat):Int):=by rw[<-w1];congr 1
 apply RG;simp only[go_sem,iv,pt,q5];refine XN (l:=[iv k]) rfl (cellsU e3 (.head _) hc) (.inr ⟨jq,rfl⟩) ?_;apply RG;simp only[go_sem,iv,pt,q5,w1'];refine ad e3 [0,1] [sg pb _,D] [] rfl Bl rfl (ih m (aba m) (.line (k+1) o f slot) a ha ab ho h2 hu fn hw ab) fun v I5 qs ef c5 hq=>?_;obtain⟨dv5,D5,rs,rfl,gg,⟨A5,B5,va5,vb5,rfl,rfl,gF,go⟩,ge,f3⟩:=hq;simp only[Z3]at ef |-;refine ll ?_;refine aR ef fun h8=>?_;refine bf h8 [1,2,3,4,0] fun h7=>?_;have i3:pP ts k o slot ⟨b.l,b.f,a.e++b.e⟩ m true a.l a.f [] a.e:=⟨b,ie,rfl,rfl,rfl⟩;refine aA (fun x=>x.1) (QH pb hb slot) (XL pb ts lv fv ov k o slot m ⟨b.l,b.f,a.e++b.e⟩ e I5) (m,true,va5,vb5,.slice none 0 0,dv5) gP (by simp only[go_sem,aa6,QH]) ?_ ?_
 ·exact⟨I5,D5,A5,B5,PH.no,_,_,_,_,rfl,h7,abW _,ZR _,i3,gF,f3,go,ge,Ow.nil _ _ _ _,FN.nil _,gg⟩
 rintro⟨m1,first,vl,vg,vo,dw⟩ H ⟨I8,D8,A8,B8,C8,l,g,out,ee,rfl,e0,d3,hS,e6,hA,fh,hB,dy,hC,er,hE⟩ d0;simp only at hS e6 hA hB hC hE;simp only[QH];have k8:=abV c5 d3;obtain⟨ga,gc,rfl⟩:=hB.shape;rcases abn g.length with h0|h0
 ·have q45:decide ((g.length:Int)>0)=false:=abT ab;apply RG;simp only[go_sem,iv,pt,q45];have h3:g=[]:=List.length_eq_zero_iff.1 h0;subst h3;obtain⟨rfl,rfl,rfl⟩:=ES e6;refine bf e0 [0,1,2,4,3] fun cr=>?_;refine bf cr [4,0,1,2,3] fun a1=>?_;refine ae a1 fun hH a1 ak cm=>?_;exact af rfl a1 (r:=[vl,vo]) rfl (abV bC (abV k8 ak)) ⟨dw,D8,[A8,C8],rfl,hE.le ak,⟨A8,C8,vl,vo,rfl,rfl,bQ.le hA ak,hC.le ak⟩,er,fh⟩
 have hg:g≠[]:=fun e=>by rw[e]at h0;exact Nat.lt_irrefl _ h0
 have q45:decide ((g.length:Int)>0)=true:=abU ab;apply RG;simp only[go_sem,iv,pt,q45];refine XN (l:=[iv k]) rfl (cellsU e0 (.head _) (hc.le k8)) (.inr ⟨jq,rfl⟩) ?_;by_cases bc:k=2/\first=false
 ·obtain⟨rfl,e2,rfl⟩:=D1 e6 hg bc;obtain⟨rfl,rfl⟩:=bc;apply RG;simp only[go_sem,iv,pt,abo,abK];refine bf e0 [3,0,1,2,4] fun cr=>?_;refine ae cr fun I9 cr a7 gn=>?_;have gb:eR I9 _ g:=jy.sl hB a7 gn;refine ad cr [3,0,1,2] [C8] [sg pb _,D8,A8] rfl eI rfl (cS (N:=ts.length) ab (hC.le a7) er gb dy) fun v10 hH qs a1 ak hq=>?_;obtain⟨C10,rfl,et⟩:=hq;simp only[Z3]at a1 |-;refine ll ?_;refine bf a1 [1,2,3,0] fun ci=>?_;have k910:=abV a7 ak;exact af rfl ci (r:=[vl,v10]) rfl (abV bC (abV k8 k910)) ⟨dw,D8,[A8,C10],rfl,hE.le k910,⟨A8,C10,vl,v10,rfl,rfl,bQ.le hA k910,by rw[e2]at et;exact et⟩,by have:=er.joinAll dy;rw[e2]at this;exact this,fh⟩
 obtain⟨m2,a2,rfl,f2,cy⟩:=IN e6 hg bc;have ec:=cy.le;simp only[aa9]at ec;have h1:∀(Φ:Prop),(k=2->first=true->Φ)->(k≠2->Φ)->Φ:=fun Φ p q=>by
  by_cases ds:k=2
  ·cases first with
   |true=>exact p ds rfl
   |false=>exact absurd ⟨ds,rfl⟩ bc
  ·exact q ds
 obtain⟨ops,rest,hj⟩:∃yes g',aM ts g (ti k)=(yes,g'):=⟨_,_,rfl⟩;have e4:=fm h.ok dy (is:=ti k);have hz:=gE h.ok dy (ti k);have e5:=dC h.ok dy (ti k);rw[hj]at e4 hz e5 f2 cy;simp only at e4 hz e5 f2 cy;have fA:∀x∈ops,x.at'<ts.length:=fun x hx=>by
  obtain⟨fa,hh⟩:=e4 x hx;refine fa.lt (.inr fun e=>?_);simp[ti,e]at hh
 apply T3 (σ0:=Ik pb hb slot vl (.slice ga g.length gc) vo)
 ·intro d1;by_cases ds:k=2
  ·have h4:first=true:=h1 _ (fun _ p=>p) (fun p=>absurd ds p);have q47:((k:Int) == 2)=true:=by rw[ds];rfl
   apply bL 9;simp only[go_sem,iv,pt,q47,h4,abQ];refine fD (σ':=Ik pb hb slot vl (.slice ga g.length gc) vo) ?_ ?_ ?_
   ·exact gP
   ·exact(by simp only[go_sem,aa6,Ik])
   ·exact d1
  ·have q47:((k:Int) == 2)=false:=by rw[abS];omega
   apply bL 9;simp only[go_sem,iv,pt,q47,abQ];refine fD (σ':=Ik pb hb slot vl (.slice ga g.length gc) vo) ?_ ?_ ?_
   ·exact gP
   ·exact(by simp only[go_sem,aa6,Ik])
   ·exact d1
 simp only[Ik];refine bf e0 [3,0,1,2,4] fun cr=>?_;refine ae cr fun I9 cr a7 gn=>?_;have gb:eR I9 _ g:=jy.sl hB a7 gn;have k9:=abV k8 a7;have i4:JE I9 (.func (.func 222) #[] #[pt hb]) (ti k):=⟨222,#[],#[pt hb],rfl,QF,fun J hJ x a c hr=>bO.toI ((LK (H:=J) (b:=hb) (k:=k) ((hc.le k9).le hJ) ab).mono fun v H2 ⟨e1,e2⟩=>⟨by rw[e2];exact abW _,e1⟩)⟩;refine ll ?_;refine ad cr [0,1,2,3] [sg pb _] [D8,A8,C8] rfl jD rfl (jC (h2.le k9) gb dy i4) fun v hH qs a1 ak hq=>?_;obtain⟨A10,B10,va10,vb10,rfl,rfl,cm,dk⟩:=hq;rw[hj]at cm dk;simp only at cm dk;obtain⟨xsa,xsc,rfl⟩:=cm.shape;simp only[Z3]at a1 |-;refine ll ?_;refine bf a1 [1,0,2,3,4,5] fun ci=>?_;refine ae ci fun jg ci ca g3=>?_;have i0:qO jg (.slice xsa ops.length xsc) ops:=cm.sl ca g3;refine bf ci [1,0,2,3,4] fun c9=>?_;refine ae c9 fun jf c9 b8 gC=>?_;have f0:eR jf vb10 rest:=dk.sl (abV ca b8) gC;have k812:=abV a7 (abV ak (abV ca b8));refine ad c9 [3,0,1,2] [C8] [sg pb _,D8,A8] rfl eI rfl (cS (N:=ts.length) ab (hC.le k812) er f0 e5) fun v13 hG qs eg cB hq=>?_;obtain⟨C13,rfl,gl⟩:=hq;simp only[Z3]at eg |-;refine ll ?_;refine aR eg fun fr=>?_;refine bf fr [2,3,4,0,1] fun fo=>?_;have el:=i0.le (abV b8 cB);have k813:=abV k812 cB;have hM:=abV k8 k813;refine aA (fun x=>ops.length-x.1) (PD pb hb slot v13 (.slice xsa ops.length xsc) ops.length) (Xz pb ts lv fv ov k o slot m2 C13 ops a2 (e++ee) hG) (0,m2,vl,.slice none 0 0,dw) gP (by simp only[go_sem,aa6,PD]) ?_ ?_
 ·exact⟨hG,D8,A8,PH.no,_,_,_,rfl,fo,abW _,aaL _,ZR _,f2,bQ.le hA k813,fh,Ow.nil _ _ _ _,FN.nil _,by simpa using hE.le k813⟩
 rintro⟨i,m3,vl2,vg2,dx⟩ H ⟨jd,D16,A16,B16,l2,g2,ee2,rfl,c8,a5,hY,fg,cl,e7,d2,gA,dj,gk⟩ c2;simp only at hY fg cl e7 gA gk;simp only[PD];have hK:=abV hM a5;rcases aaf i ops.length with eA|j1
 ·have g5:decide ((i:Int)<(ops.length:Int))=true:=by simp;omega
  have f1:=wrap64 (n:=i+1) ab;have f1':IntKind.i64.wrap ((i:Int)+1)=((i+1:Nat):Int):=by rw[<-f1];congr 1
  obtain⟨x,ez⟩:∃x,ops[i]?=some x:=⟨_,aak eA⟩;have g9:=aaV ez;obtain⟨fa,hh⟩:=e4 x g9;have e9:=fA x g9;obtain⟨bb,off,cs,rfl,ia,ei⟩:=(el.le a5).load l7.len ez;obtain⟨ya,yk,rfl,dT⟩:=ia;have h6:ops.drop i=x::ops.drop (i+1):=by
   rw[aaK eA];rw[aak eA]at ez;rw[aaZ ez]
  rw[h6]at cl;obtain⟨m4,a4,rfl,ix,hU,ht,en⟩:=Df cl;have ea:=en.le;simp only[aa9]at ea;apply RG;simp only[go_sem,g5,iv,pt];refine⟨ab,?_⟩;refine XN (l:=[iv x.at',sD ya yk x.cond,rD x.cond,.int .u8 x.kind,.string ⟨⟨x.text⟩⟩]) (v:=.agg #[iv x.at',sD ya yk x.cond,rD x.cond,.int .u8 x.kind,.string ⟨⟨x.text⟩⟩]) rfl (cellsU c8 (.head _) ei) (.inl ⟨gI,rfl⟩) ?_;obtain⟨la,lc,rfl⟩:=e7.shape;refine dg ?_;refine bf c8 [2,0,1,3,4] fun c7=>?_;refine ae c7 fun g7 c7 bd g0=>?_;have f6:eE g7 (.slice la l2.length lc) l2:=bQ.sl e7 bd g0;refine aR c7 fun fl=>?_;refine aR fl fun fk=>?_;refine bf fk [2,3,4,5,0,1] fun fj=>?_;have al:=dT.le bd;refine aA (fun x=>l2.length-x.1) (EH pb hb slot vg2 v13 (.slice (some ⟨bb,off,none⟩) ops.length xsc) ops.length i [iv x.at',sD ya yk x.cond,rD x.cond,.int .u8 x.kind,.string ⟨⟨x.text⟩⟩] (.slice la l2.length lc) l2.length) (Xw pb (cg lv fv ov dx o) D16 B16 C13 l2 x.cond g7) (0,.slice none 0 0,.slice none 0 0) R5 (by simp only[go_sem,aa6,EH,iv,sD,rD]) ?_ ?_
  ·exact⟨g7,PH.no,PH.no,rfl,fj,abW _,aaL _,Ow.nil _ _ _ _,Ow.nil _ _ _ _⟩
  rintro⟨j,v18,v19⟩ H ⟨g6,L,O,rfl,cx,ac,hW,hL,hO⟩ ao;simp only at hW hL hO;simp only[EH];obtain⟨l0,lc0,rfl⟩:=hL.shape;unfold aN at d2;obtain⟨o0,oc0,rfl⟩:=hO.shape;rcases aaf j l2.length with ed|j0
  ·have g4:decide ((j:Int)<(l2.length:Int))=true:=by simp;omega
   have g1:=wrap64 (n:=j+1) ab;have g1':IntKind.i64.wrap ((j:Int)+1)=((j+1:Nat):Int):=by rw[<-g1];congr 1
   obtain⟨nd,cp⟩:∃nd,l2[j]?=some nd:=⟨_,aak ed⟩;obtain⟨b3,off3,cs3,rfl,fs,da⟩:=Sl.load bm.len (eE.le f6 ac) cp;obtain⟨vk,na,nk,rfl,b2,bx,dd⟩:=fs.shape;obtain⟨ka,kc,rfl,_⟩:=id bx;have hT:=Syn.z7 (l2.take j) x.cond;have hR:=Syn.wH (l2.take j) x.cond;have jo:(l2.take j).length=j:=by simp;omega
   apply RG;simp only[go_sem,g4,iv,pt];refine⟨ab,?_⟩;refine XN (l:=[.int .u8 nd.kind,.string ⟨⟨nd.text⟩⟩,.int .i64 nd.tok,.int .i64 nd.slot,.slice ka nd.kids.length kc,sD na nk nd.cond,rD nd.cond]) (v:=.agg #[.int .u8 nd.kind,.string ⟨⟨nd.text⟩⟩,.int .i64 nd.tok,.int .i64 nd.slot,.slice ka nd.kids.length kc,sD na nk nd.cond,rD nd.cond]) rfl (cellsU cx (.head _) da) (.inl ⟨cL,rfl⟩) ?_;refine dg ?_;refine ad cx [0,1,2,3,4,5] [] [sg pb _,D16,B16,C13,L,O] rfl kK rfl (oQ b2 (al.le ac)) fun v jc qs b1 aa hq=>?_;obtain⟨rfl,c1⟩:=hq;obtain⟨za,zk,rfl⟩:=c1.shape2;simp only[Z3]at b1 |-;refine dg ?_;refine WZ rfl jt (gO c1) fun v H2 hv=>?_;obtain⟨rfl,rfl⟩:=hv;cases eH:decide (nd.cond.and x.cond=.lf false)
   ·have hn:nd.cond.and x.cond≠ff:=by simpa using eH
    apply RG;simp only[go_sem,iv,pt,sD,rD,eH,abK];refine ax b1 (by exact dQ) rfl rfl rfl rfl rfl bg fun nb4 hF ct a3 fc=>?_;have k2123:=abV aa a3;have i1:eE hF (.slice (some ⟨nb4,0,none⟩) 1 1) [{ nd with cond:=nd.cond.and x.cond,slot:=0 }]:=iJ (az fc (by simp[aD,Value.cells]) (by simp[aD,Value.cells,iv,sD,rD])) (bm.mk (n:={ nd with cond:=nd.cond.and x.cond,slot:=0 }) (c1.le a3) (eE.le bx k2123) dd);refine dg ?_;refine bf ct [4,0,1,2,3,5] fun cf=>?_;refine bl cf (by exact dQ) (bQ.le hL k2123) (i1) (fun{I J c a} h k=>bm.le h k) (fun{I} c a h=>bm.len c a h) (fun{I} c a h=>bm.ones h) rfl rfl rfl rfl (by first|omega|(simp only[aaj,aaO];omega)) (by unfold maxLen;first|omega|(simp only[aaj,aaO];omega)) fun qa qc kd L26 cd eb ep=>?_;refine bf cd [1,2,3,4,0,5] fun cc=>?_;have k2126:=abV k2123 eb;refine dg ?_;refine eP [0,1,2,3,4,5,6,7] [] [] ?_;refine qY ?_;refine aE cc [0,1,2,3,4,5] [] [sg pb _,D16,B16,C13,L26,O] rfl oT rfl (uX (al.le (abV ac k2126))) fun v hD qs ba am hq=>?_;obtain⟨rfl,b4⟩:=hq;obtain⟨ra,rk,rfl⟩:=b4.shape2;simp only[Z3]at ba |-;refine qY ?_;refine aE ba [0,1,2,3,4,5] [] [sg pb _,D16,B16,C13,L26,O] rfl kK rfl (oQ (b2.le (abV k2126 am)) b4) fun v e8 qs aS an hq=>?_;obtain⟨rfl,a6⟩:=hq;obtain⟨ta,tk,rfl⟩:=a6.shape2;simp only[Z3]at aS |-;refine qY ?_;refine aw ?_;refine dg ?_;refine WZ rfl jt (gO a6) fun v H2 hv=>?_;obtain⟨rfl,rfl⟩:=hv;have k2628:=abV am an;cases aq:decide (nd.cond.and x.cond.not=.lf false)
    ·have c3:nd.cond.and x.cond.not≠ff:=by simpa using aq
     apply RG;simp only[go_sem,iv,pt,sD,rD,aq,abK];refine ax aS (by exact dQ) rfl rfl rfl rfl rfl bg fun nb9 ey b0 ag c4=>?_;have fC:eE ey (.slice (some ⟨nb9,0,none⟩) 1 1) [{ nd with cond:=nd.cond.and x.cond.not }]:=iJ (az c4 (by simp[aD,Value.cells]) (by simp[aD,Value.cells,iv,sD,rD])) (bm.mk (n:={ nd with cond:=nd.cond.and x.cond.not }) (a6.le ag) (eE.le bx (abV k2126 (abV k2628 ag))) dd);have kO:g6.le ey:=abV k2126 (abV k2628 ag);refine dg ?_;refine bf b0 [5,0,1,2,3,4] fun cb=>?_;refine bl cb (by exact dQ) (bQ.le hO kO) (fC) (fun{I J c a} h k=>bm.le h k) (fun{I} c a h=>bm.len c a h) (fun{I} c a h=>bm.ones h) rfl rfl rfl rfl (by first|omega|(simp only[aaj,aaO];omega)) (by unfold maxLen;first|omega|(simp only[aaj,aaO];omega)) fun oa oc dA O31 a9 aj cj=>?_;apply RG;simp only[go_sem,iv,pt,sD,rD,g1'];refine bf a9 [1,2,3,4,5,0] fun bF=>?_;refine ao (j+1,.slice qa (fX (l2.take j) x.cond++[{ nd with cond:=nd.cond.and x.cond,slot:=0 }]).length qc,.slice oa (dH (l2.take j) x.cond++[{ nd with cond:=nd.cond.and x.cond.not }]).length oc) _ _ dt R5 (by simp only[go_sem,aa6,EH,iv,sD,rD]) ⟨dA,_,O31,rfl,bF,abV ac (abV kO aj),ed,?_,?_⟩
     ·simp only;rw[oq cp,ZV hn];exact bQ.le ep (abV k2628 (abV ag aj))
     ·simp only;rw[mq cp,ZV c3];exact cj
    ·have c6:nd.cond.and x.cond.not=ff:=by simpa using aq
     apply RG;simp only[go_sem,iv,pt,sD,rD,aq,abQ,g1'];refine ao (j+1,.slice qa (fX (l2.take j) x.cond++[{ nd with cond:=nd.cond.and x.cond,slot:=0 }]).length qc,.slice o0 (dH (l2.take j) x.cond).length oc0) _ _ dt R5 (by simp only[go_sem,aa6,EH,iv,sD,rD]) ⟨e8,_,O,rfl,aS,abV ac (abV k2126 k2628),ed,?_,?_⟩
     ·simp only;rw[oq cp,ZV hn];exact bQ.le ep k2628
     ·simp only;rw[mq cp,aaq c6,aa6];exact bQ.le hO (abV k2126 k2628)
   ·have hy:nd.cond.and x.cond=ff:=by simpa using eH
    apply bL 4;simp only[go_sem,iv,pt,sD,rD,eH,abQ];have cc:=b1;refine dg ?_;refine eP [0,1,2,3,4,5,6,7] [] [] ?_;refine qY ?_;refine aE cc [0,1,2,3,4,5] [] [sg pb _,D16,B16,C13,L,O] rfl oT rfl (uX (al.le (abV ac aa))) fun v hD qs ba am hq=>?_;obtain⟨rfl,b4⟩:=hq;obtain⟨ra,rk,rfl⟩:=b4.shape2;simp only[Z3]at ba |-;refine qY ?_;refine aE ba [0,1,2,3,4,5] [] [sg pb _,D16,B16,C13,L,O] rfl kK rfl (oQ (b2.le (abV aa am)) b4) fun v e8 qs aS an hq=>?_;obtain⟨rfl,a6⟩:=hq;obtain⟨ta,tk,rfl⟩:=a6.shape2;simp only[Z3]at aS |-;refine qY ?_;refine aw ?_;refine dg ?_;refine WZ rfl jt (gO a6) fun v H2 hv=>?_;obtain⟨rfl,rfl⟩:=hv;have k2628:=abV am an;cases aq:decide (nd.cond.and x.cond.not=.lf false)
    ·have c3:nd.cond.and x.cond.not≠ff:=by simpa using aq
     apply RG;simp only[go_sem,iv,pt,sD,rD,aq,abK];refine ax aS (by exact dQ) rfl rfl rfl rfl rfl bg fun nb9 ey b0 ag c4=>?_;have fC:eE ey (.slice (some ⟨nb9,0,none⟩) 1 1) [{ nd with cond:=nd.cond.and x.cond.not }]:=iJ (az c4 (by simp[aD,Value.cells]) (by simp[aD,Value.cells,iv,sD,rD])) (bm.mk (n:={ nd with cond:=nd.cond.and x.cond.not }) (a6.le ag) (eE.le bx (abV aa (abV k2628 ag))) dd);have kO:g6.le ey:=abV aa (abV k2628 ag);refine dg ?_;refine bf b0 [5,0,1,2,3,4] fun cb=>?_;refine bl cb (by exact dQ) (bQ.le hO kO) (fC) (fun{I J c a} h k=>bm.le h k) (fun{I} c a h=>bm.len c a h) (fun{I} c a h=>bm.ones h) rfl rfl rfl rfl (by first|omega|(simp only[aaj,aaO];omega)) (by unfold maxLen;first|omega|(simp only[aaj,aaO];omega)) fun oa oc dA O31 a9 aj cj=>?_;apply RG;simp only[go_sem,iv,pt,sD,rD,g1'];refine bf a9 [1,2,3,4,5,0] fun bF=>?_;refine ao (j+1,.slice l0 (fX (l2.take j) x.cond).length lc0,.slice oa (dH (l2.take j) x.cond++[{ nd with cond:=nd.cond.and x.cond.not }]).length oc) _ _ dt R5 (by simp only[go_sem,aa6,EH,iv,sD,rD]) ⟨dA,_,O31,rfl,bF,abV ac (abV kO aj),ed,?_,?_⟩
     ·simp only;rw[oq cp,aaq hy,aa6];exact bQ.le (bQ.le hL aa) (abV k2628 (abV ag aj))
     ·simp only;rw[mq cp,ZV c3];exact cj
    ·have c6:nd.cond.and x.cond.not=ff:=by simpa using aq
     apply RG;simp only[go_sem,iv,pt,sD,rD,aq,abQ,g1'];refine ao (j+1,.slice l0 (fX (l2.take j) x.cond).length lc0,.slice o0 (dH (l2.take j) x.cond).length oc0) _ _ dt R5 (by simp only[go_sem,aa6,EH,iv,sD,rD]) ⟨e8,_,O,rfl,aS,abV ac (abV aa k2628),ed,?_,?_⟩
     ·simp only;rw[oq cp,aaq hy,aa6];exact bQ.le (bQ.le hL aa) k2628
     ·simp only;rw[mq cp,aaq c6,aa6];exact bQ.le hO (abV aa k2628)
  ·have hV:j=l2.length:=by omega
   subst hV;have g4:=Z6 l2.length;rw[aaS]at hL hO;apply RG;simp only[go_sem,g4,iv,pt,aaS];have g8:=abV hK (abV bd ac);refine iZ mixed [0,1,2,3,4,5,6,7,8,9,10] [] [] [1] [4] g6 rfl rfl ?_;apply au;simp only[go_sem,iv,pt,sD,rD,w1'];refine je (l:=[iv k]) rfl (cP cx) rfl rfl rfl (hc.le g8) (.inr ⟨jq,rfl⟩) ?_;apply au;simp only[go_sem,iv,pt,sD,rD,w1'];refine DX cx [0,1,2,3,4,5] rfl (fun _=>abW _) rfl jj (by rfl) (ps:=[]) (F:=[sg pb _,D16,B16,C13,L,O]) rfl (ji (h:=x) ab (al.le ac)) fun v jc qs b1 aa hq=>?_;obtain⟨rfl,gf⟩:=hq;simp only[Z3]at b1 |-;apply au;simp only[go_sem,iv,pt,sD,rD,w1'];have k1622:=abV bd (abV ac aa);refine aE b1 [0,1,2,3,4,5] [sg pb _,D16] [B16,C13,L,O] rfl Bl rfl (ih m4 ab (.line (k+1) o (bv x) 1) a4 ix ab ho (h2.le (abV g8 aa)) gf (bH fa e9) (gk.le k1622) (by simp only[aa9];omega)) fun v hF qs ct a3 hq=>?_;obtain⟨dv23,D23,rs,rfl,gi,⟨A23,B23,va23,vb23,rfl,rfl,ex,gt⟩,es,i2⟩:=hq;obtain⟨ka,kc,rfl⟩:=ex.shape;simp only[Z3]at ct |-;refine qY ?_;refine aw ?_;refine dg ?_;refine bf ct [2,0,1,3,4,5,6,7] fun cf=>?_;refine ae (c:=.st _) cf fun ja cf b7 gT=>?_;have f9:eE ja (.slice ka a4.l.length kc) a4.l:=ex.sl b7 gT;refine bf cf [2,0,1,3,4,5,6] fun cd=>?_;refine ae (c:=.st _) cd fun i9 cd b6 gs=>?_;have gd:eR i9 vb23 a4.f:=gt.sl (abV b7 b6) gs;have k2325:=abV b7 b6;have k2125:=abV aa (abV a3 k2325);unfold aN at hU ht;refine eP [0,1,2,3,4,5,6,7,9,10,8,11,12,13,14] [] [] ?_;refine qY ?_;refine nI cd [4,0,1,2,3,5] fun cc=>?_
   refine fP cc (by exact dQ) (bQ.le hL k2125) (eE.le f9 b6) (fun{I J c a} h k=>bm.le h k) (fun{I} c a h=>bm.len c a h) (fun{I} c a h=>bm.ones h) rfl rfl rfl rfl rfl rfl (by first|omega|(simp only[aaj,aaO];omega)) (by unfold maxLen;first|omega|(simp only[aaj,aaO];omega)) fun qa qc hD L27 ba am eo=>?_;have dc:=eo.capN bm.len;refine qY ?_;refine bj ba (by exact dQ) rfl rfl rfl rfl rfl bg fun nb8 e8 aS an fb=>?_;refine qY ?_;refine nI aS [5,0,1,2,3,4] fun b0=>?_;obtain⟨bs,ek,fz⟩:=hO;refine j3 (m:=1) b0 (by exact dQ) ek rfl rfl rfl rfl rfl rfl (cellsU b0 (.head _) (az (l:=[.int .u8 13,.string ⟨⟨x.text⟩⟩,.int .i64 x.at',.int .i64 slot,.slice qa (fX l2 x.cond++a4.l).length qc,.slice ya (T.subs x.cond).length yk,iv (T.plc (T.subs x.cond) x.cond)]) fb (by simp[aD,Value.cells]) (by simp[aD,Value.cells,iv]))) rfl rfl ab (by unfold maxLen;omega) fun v' j2 O30 cb cA em=>?_;obtain⟨oa,oc,rfl⟩:=em.slice;refine qY ?_;refine aw ?_;refine dg ?_;refine bf cb [1,0,2,3,4,5] fun a9=>?_;refine ae a9 fun dA a9 aj f5=>?_;have k2731:=abV an (abV cA aj);have k2531:=abV am k2731;have k2131:=abV k2125 k2531;have eq:eE dA (.slice qa (fX l2 x.cond++a4.l).length qc) (fX l2 x.cond++a4.l):=bQ.sl (bQ.le eo (abV an cA)) aj f5;have c0:=al.le (abV ac k2131);have cj:bQ dA O30 (.slice oa ((dH l2 x.cond).length+1) oc) (dH l2 x.cond++[⟨13,x.text,x.at',slot,fX l2 x.cond++a4.l,x.cond⟩]):=by
    refine⟨_,by rw[aa9];exact em,LR.app (fz.mono fun _ _ h=>bm.le h k2131) (.one (bm.mk (n:=⟨13,x.text,x.at',slot,fX l2 x.cond++a4.l,x.cond⟩) c0 eq dc))⟩
   have k1631:=abV k1622 (abV a3 (abV k2325 k2531));refine ad a9 [3,0,1,2,4] [B16] [O30,sg pb _,D23,C13] rfl eI rfl (cS (N:=ts.length) ab (gA.le k1631) dj (gd.le k2531) es) fun v32 i5 qs bF b5 hq=>?_;obtain⟨B32,rfl,gr⟩:=hq;simp only[Z3]at bF |-;apply RG;simp only[go_sem,iv,pt,sD,rD,f1'];refine bf bF [2,3,1,0,4] fun fi=>?_;exact c2 (i+1,m4,.slice oa ((dH l2 x.cond).length+1) oc,v32,dv23) _ _ dt gP (by simp only[go_sem,aa6,PD]) ⟨i5,D23,O30,B32,_,_,_,rfl,fi,abV a5 (abV k1631 b5),eA,by simp only;omega,en,bQ.le cj b5,by rw[aa9,aaJ];unfold aN;exact ht,gr,dj.joinAll es,by simpa[aaT]using gi.le (abV k2325 (abV k2531 b5))⟩
 ·have hX:i=ops.length:=by omega
  subst hX;have g5:=Z6 ops.length;rw[abH]at cl;obtain⟨rfl,rfl,rfl⟩:=EZ cl;apply RG;simp only[go_sem,g5,iv,pt];exact d0 (m2,false,vl2,vg2,v13,dx) _ _ dt gP (by simp only[go_sem,aa6,QH]) ⟨jd,D16,A16,B16,C13,_,_,_,_,rfl,c8,abV d3 (abV k813 a5),by simp only;omega,cy,e7,d2,gA,dj,gl.le a5,er.joinAll e5,by simpa[aaT]using gk⟩
end
open Go Go.Sx Dg Syn
def E8{ts:List Tok}{f:ar}{kind slot:Nat}(h:(named ts f kind slot).l=[]):(named ts f kind slot).f=[]:=by
 have key:∀(hs:List aB) (z:Syn.bW),(z.l=[]->z.f=[])->((hs.foldl (cE kind slot) z).l=[]->(hs.foldl (cE kind slot) z).f=[]):=by
  intro hs
  induction hs with
  |nil=>intro z hz;exact hz
  |cons x hs ih=>
   intro z hz;refine ih _ ?_;unfold cE;split
   ·exact hz
   ·intro h;simp at h
 rw[lR]at h |-;exact key _ _ (fun _=>rfl) h
section
variable {pb:Nat} {ts:List Tok} {lv fv ov:Value}
def xE(ts:List Tok)(o slot:Nat)(h:aB)(r:Syn.bW)(m:Nat)(xs:List aB)(l:List Nd)(g:ar)(ee:List cO):Prop:=
 ∃b,Syn.run ts m (.calls o h slot xs l g)=some b/\b.l=r.l/\b.f=r.f/\ee++b.e=r.e
variable{ee:List cO}{g:ar}{l:List Nd}{r:Syn.bW}{h:aB}{o slot:Nat}
def IW{m:Nat}(k:xE ts o slot h r m [] l g ee):l=r.l/\g=r.f/\ee=r.e:=by
 obtain⟨b,hb,h1,h2,h3⟩:=k;obtain⟨m',rfl,ac⟩:=bR hb;have aa:Syn.calls (Syn.run ts m') o h slot [] l g=some b:=ac;unfold Syn.calls at aa;simp only at aa;cases aa
 exact⟨h1,h2,by simpa using h3⟩
variable{xs:List aB}
def Fb{m:Nat}{x:aB}(k:xE ts o slot h r m (x::xs) l g ee):∃m' a,m=m'+1/\
  Syn.run ts m' (.listed false o (bX x))=some a/\l.length+1<=aN/\xE ts o slot h r m' xs (kJ l x.cond++[⟨19,h.text,h.at',slot,a.l,x.cond⟩]) (Syn.joinAll g a.f) (ee++a.e):=by
 obtain⟨b0,hb,h1,h2,h3⟩:=k;obtain⟨m',rfl,ak⟩:=bR hb;have aa:Syn.calls (Syn.run ts m') o h slot (x::xs) l g=some b0:=ak;unfold Syn.calls at aa;simp only at aa;obtain⟨a,ha,aj⟩:=bU aa;obtain⟨_,al,ag⟩:=bU aj;obtain⟨b,am,ac⟩:=bU ag;cases ac
 have:=qK al;simp only[aa9,aaJ,Syn.m7]at this;exact⟨m',a,rfl,ha,this,b,am,h1,h2,by simpa[aaT]using h3⟩
def xE.le{m:Nat}(k:xE ts o slot h r m xs l g ee):ee.length<=r.e.length:=by
 obtain⟨b,_,_,_,h⟩:=k;rw[<-h];simp
def Jj(pb slot:Nat)(vh:Value)(n:Nat)(x:Nat×Value×Value×Value):St:=⟨dn 209 [(0,.v (pt pb)),(2,.v (iv slot)),(8,.v x.2.1),(9,.v x.2.2.1),(25,.v vh),(26,.v (iv n)),(27,.v (iv x.1))],[]⟩
def WU(pb slot:Nat)(vl vo vh:Value)(n i:Nat)(cs:List Value)(vx:Value)(n2:Nat)(x:Nat×Nat×Value×Value×Value):St:=⟨dn 209 [(0,.v (pt pb)),(2,.v (iv slot)),(8,.v vl),(9,.v vo),(11,.p 11 0),(16,.v x.2.2.1),(17,.v x.2.2.2.1),(25,.v vh),(26,.v (iv n)),(27,.v (iv i)),(58,.v vx),(59,.v (iv n2)),(60,.v (iv x.1))],[⟨11,227,cs⟩]⟩
def Y8(pb:Nat)(ts:List Tok)(lv fv ov:Value)(o slot M:Nat)(A B:PH)(h:aB)(xs:List aB)(r:Syn.bW)(e:List cO)(I0:PH)(x:Nat×Nat×Value×Value×Value)(H:PH):Prop:=
 ∃I D N G l g ee,H=U [I,sg pb (cg lv fv ov x.2.2.2.2 o),D,A,B,N,G]/\Dj [I,sg pb (cg lv fv ov x.2.2.2.2 o),D,A,B,N,G]/\I0.le I/\x.1<=xs.length/\x.2.1<=M/\xE ts o slot h r x.2.1 (xs.drop x.1) l g ee/\
  bQ I N x.2.2.1 l/\(l≠[]\/xs=[])/\l.length<=aN/\jy I G x.2.2.2.1 g/\FN ts.length g/\eF I D x.2.2.2.2 (e++ee)
theorem OW{n:Nat}(ih:kP pb ts lv fv ov n){f:ar}(hr:Syn.run ts n (.unary o f slot)=some r):vQ pb ts lv fv ov (.unary o f slot) r:=by
 obtain⟨m,rfl,hs⟩:=bR hr;have g3:cT ts f (fun h=>Syn.run ts m (.unaryH o h slot))=some r:=hs;rw[vX]at g3;clear hs hr;intro ho I D dv vf e h hf fn he hm hd;have hl:=h.len;refine ah 209 Tryz.func220 fun w0=>?_
 try simp only[iv,pt]
 refine aT ?_;refine DY hd [0,1] rfl kU rfl (ps:=[sg pb _]) (F:=[D]) rfl (kW h hf fn) fun v I2 qs g4 c8 hq=>?_;obtain⟨rfl,hH⟩:=hq;obtain⟨ha,hc,rfl,_⟩:=id hH;simp only[Z3]at g4 |-;refine dP ?_;have hN:∀x∈bE ts f,kS ts x:=fun x hx=>b9 h.ok fn hx;have i2:=fM h.ok fn;have hX:=hH;generalize bE ts f=b1 at *;refine aR g4 fun hK=>?_;refine aR hK fun hJ=>?_;refine bf hJ [2,3,0,1] fun hF=>?_;refine aA (fun x=>b1.length-x.1) (Jj pb slot (.slice ha b1.length hc) b1.length) (WC pb ts lv fv ov o b1 (fun h=>Syn.run ts m (.unaryH o h slot)) r e I2) (0,.slice none 0 0,.slice none 0 0,dv) gP (by simp only[go_sem,aa6,Jj]) ?_ ?_
 ·exact⟨I2,D,PH.no,PH.no,⟨[],[],[]⟩,rfl,hF,abW _,aaL _,g3,by simpa using eF.le he c8,Ow.nil _ _ _ _,Ow.nil _ _ _ _,FN.nil _,aaL _⟩
 rintro⟨i,va,vb,dv⟩ H ⟨I3,D3,A3,B3,ri,rfl,cx,a7,hC,er,hE,hA,hB,a9,fr⟩ a1;simp only at hC er hE hA hB;simp only[Jj];have hW:qO I3 (.slice ha b1.length hc) b1:=hX.le a7;rcases aaf i b1.length with cA|i5
 ·have gt:decide ((i:Int)<(b1.length:Int))=true:=by simp;omega
  have e1:=wrap64 (n:=i+1) ab;have dA:IntKind.i64.wrap ((i:Int)+1)=((i+1:Nat):Int):=by rw[<-e1];congr 1
  obtain⟨x,hx⟩:∃x,b1[i]?=some x:=⟨_,aak cA⟩;have hh:=aaV hx;have bC:=hN x hh;obtain⟨b,off,cs,rfl,hL,ef⟩:=hW.load l7.len hx;obtain⟨xa,xk,rfl,aS⟩:=hL;obtain⟨r',hk,bx⟩:=oF hx er;have cr:=xq bx;obtain⟨y,hy,b5,rfl⟩:=pC hk;have h3:=h.le (abV c8 a7);simp only[aa9]at cr b5;have cy:∀s:bq,x.text≠s->(x.text == s)=false:=fun s k=>beq_eq_false_iff_ne.2 k;obtain⟨m1,rfl,g2⟩:=bR hy;have a6:Syn.unaryH ts (Syn.run ts m1) o x slot=some y:=g2;clear hy g2;unfold Syn.unaryH at a6;have e2:=wrap64 (n:=x.at'+1) (by have:=bC.le;omega);have gA:IntKind.i64.wrap ((x.at':Int)+1)=((x.at'+1:Nat):Int):=by rw[<-e2];congr 1
  have hj:=bC.le;unfold aN at b5 fr;apply RG;simp only[go_sem,gt,iv,pt];refine⟨ab,?_⟩;refine XN (l:=[iv x.at',sD xa xk x.cond,rD x.cond,.int .u8 x.kind,.string ⟨⟨x.text⟩⟩]) (v:=.agg #[iv x.at',sD xa xk x.cond,rD x.cond,.int .u8 x.kind,.string ⟨⟨x.text⟩⟩]) rfl (cellsU cx (.head _) ef) (.inl ⟨gI,rfl⟩) ?_;by_cases t1:x.text=Fg\/x.text=jS
  ·rw[aaq t1]at a6;have cp:x.at'<ts.length:=t1.elim (bC.lt2 (s:=Fg) bg) (bC.lt2 (s:=jS) bg);by_cases t2:x.text=Fg
   have q1:(x.text == [33])=true:=by rw[t2];decide
   apply RG;simp only[go_sem,iv,pt,sD,rD,q1]
   rotate_left
   have q1:(x.text == [33])=false:=cy _ t2;have q2:(x.text == [45])=true:=by rw[t1.resolve_left t2];decide
   apply RG;simp only[go_sem,iv,pt,sD,rD,q1,q2]
   all_goals
    by_cases c4:o=64
    ·rw[aaq c4]at a6;cases a6
     subst c4;refine ad cx [0,1,2,3] [sg pb _,D3] [A3,B3] rfl jh rfl (nq h3 bC.le aS hE (by simp[cJ]at cr |-;omega)) fun v I4 qs ct am hq=>?_;obtain⟨dv2,D4,rs,rfl,h1,rfl,rfl⟩:=hq;simp only[Z3]at ct |-;apply RG;simp only[go_sem,iv,pt,sD,rD,dA,abK];exact a1 (i+1,va,vb,dv2) _ _ dt gP (by simp only[go_sem,aa6,Jj]) ⟨I4,D4,A3,B3,_,rfl,ct,abV a7 am,cA,bx,by simp only;rw[<-aaT];exact h1,by simpa using bQ.le hA am,jy.le hB am,a9,by simp only[aa6];unfold aN;exact fr⟩
    ·rw[ZV c4]at a6;obtain⟨a,hP,ey⟩:=bU a6;cases ey
     simp only[aaJ]at cr b5;refine ad cx [0,1,2,3] [sg pb _] [D3,A3,B3] rfl jh rfl (lz (h:=x) (a:=xa) (k:=xk) ab) fun v I4 qs ct am hq=>?_;obtain⟨rfl,rfl,rfl⟩:=hq;simp only[Z3]at ct |-;apply RG;simp only[go_sem,iv,pt,sD,rD,abQ];refine ad ct [0,1,2,3] [] [sg pb _,D3,A3,B3] rfl jj rfl (ji (h:=x) ab aS) fun v I5 qs b2 ac hq=>?_;obtain⟨rfl,g8⟩:=hq;simp only[Z3]at b2 |-;refine dg ?_;refine ad b2 [0,1,2,3] [sg pb _,D3] [A3,B3] rfl AH rfl (ih m1 ab (.unary (o+1) (bv x) 0) a hP ab (h3.le ac) g8 (bH bC cp) (hE.le ac) (by simp only[aa9];omega)) fun v I6 qs bd b0 hq=>?_;obtain⟨dv6,D6,rs,rfl,ga,⟨A6,B6,va6,vb6,rfl,rfl,ep,gf⟩,el,hS⟩:=hq;have eg:=ep.capN bm.len;obtain⟨ka,kc,rfl⟩:=ep.shape;simp only[Z3]at bd |-;refine dg ?_;refine XN (l:=[.int .i64 ((o+1:Nat):Int)]) rfl (cellsU bd (.tail _ (.head _)) (ay (by simp[cg]) rfl)) (.inr ⟨jq,rfl⟩) ?_;apply RG;simp only[go_sem,iv,pt,sD,rD,kE o ho];refine bw bd rfl rfl rfl rfl rfl (by exact uZ) (by simp) fun aq=>?_;refine dg ?_;refine bf aq [2,0,1,3,4,5] fun ag=>?_;refine ae ag fun I7 ag an dy=>?_;have fs:eE I7 (.slice ka a.l.length kc) a.l:=ep.sl an dy;refine bf ag [2,0,1,3,4] fun a3=>?_;refine ae a3 fun I9 a3 aj ds=>?_;have f0:eR I9 vb6 a.f:=gf.sl (abV an aj) ds;have dT:=abV an aj;have cm:=abV ac (abV b0 dT);refine ad a3 [3,0,1,2] [B3] [sg pb _,D6,A3] rfl eI rfl (cS (N:=ts.length) ab (jy.le hB cm) a9 f0 el) fun v13 gF qs al aa hq=>?_;obtain⟨B13,rfl,a4⟩:=hq;simp only[Z3]at al |-;refine dg ?_;refine bf al [1,2,3,0] fun ba=>?_;have k313:=abV cm aa;have gc:=ga.le (abV dT aa)
     refine ax ba (by exact dQ) rfl rfl rfl rfl rfl bg fun nb8 I8 b2 ac bF=>?_;have dj:eE I8 (.slice (some ⟨nb8,0,none⟩) 1 1) ([⟨14,x.text,x.at',slot,a.l,x.cond⟩]:List Nd):=iJ (az bF (by simp[aD,Value.cells]) (by simp[aD,Value.cells,iv,sD,rD])) (bm.mk (n:=⟨14,x.text,x.at',slot,a.l,x.cond⟩) ((aS.le k313).le ac) (eE.le fs (abV aj (abV aa ac))) eg);refine dg ?_;refine bf b2 [2,0,1,3] fun bd=>?_;refine bl bd (by exact dQ) (bQ.le hA (abV k313 ac)) (dj) (fun{I J c a} h k=>bm.le h k) (fun{I} c a h=>bm.len c a h) (fun{I} c a h=>bm.ones h) rfl rfl rfl rfl (by first|omega|(simp only[aaj,aaO];omega)) (by unfold maxLen;first|omega|(simp only[aaj,aaO];omega)) fun na nc c3 A10 aq ak bc=>?_;apply RG;simp only[go_sem,iv,pt,sD,rD,dA];refine bf aq [1,2,0,3] fun ag=>?_;have k810:=abV ac ak;obtain⟨ta,tc,rfl⟩:=a4.shape;refine a1 (i+1,.slice na (ri.l++([⟨14,x.text,x.at',slot,a.l,x.cond⟩]:List Nd)).length nc,.slice ta (Syn.joinAll ri.f a.f).length tc,dv6) _ _ dt gP (by simp only[go_sem,aa6,Jj]) ⟨c3,D6,A10,B13,_,rfl,ag,abV a7 (abV k313 k810),cA,bx,by simpa[aaT]using gc.le k810,bc,jy.le a4 k810,a9.joinAll el,by simp only[aa9,aaJ];unfold aN;simpa using b5⟩
  rw[ZV t1]at a6;have q1:(x.text == [33])=false:=cy _ fun k=>t1 (.inl k);have q2:(x.text == [45])=false:=cy _ fun k=>t1 (.inr k);by_cases t3:x.text=eM
  ·rw[aaq t3]at a6;have q3:(x.text == [40])=true:=by rw[t3];decide
   apply RG;simp only[go_sem,iv,pt,sD,rD,q1,q2,q3];refine ax cx (by exact jH) rfl rfl rfl rfl rfl bg fun nb I4 ct am e3=>?_;have f6:eR I4 (.slice (some ⟨nb,0,none⟩) 1 1) (bX x):=qJ (az e3 (by simp[aD,Value.cells]) (by simp[aD,Value.cells,iv,sD,rD])) (aS.le am);refine dg ?_;refine ad ct [0,1,2,3] [sg pb _,D3] [A3,B3] rfl Bj rfl (ih m1 ab (.inside o (bX x) slot) y a6 ho (h3.le am) f6 (jk bC) (hE.le am) (by simp only[aa9];omega)) fun v I6 qs bd b0 hq=>?_;obtain⟨dv6,D6,rs,rfl,ga,⟨A6,B6,va6,vb6,rfl,rfl,ep,gf⟩,el,hS⟩:=hq;simp only[Z3]at bd |-;refine dg ?_;refine bf bd [2,0,1,3,4,5] fun ag=>?_;refine ae ag fun I7 ag an dy=>?_;have fs:eE I7 va6 y.l:=ep.sl an dy;refine bf ag [2,0,1,3,4] fun a3=>?_;refine ae a3 fun I9 a3 aj ds=>?_;have f0:eR I9 vb6 y.f:=gf.sl (abV an aj) ds;have dT:=abV an aj;have cm:=abV am (abV b0 dT);refine bf a3 [2,0,1,3] fun al=>?_;refine bl al (by exact dQ) (bQ.le hA cm) (eE.le fs aj) (fun{I J c a} h k=>bm.le h k) (fun{I} c a h=>bm.len c a h) (fun{I} c a h=>bm.ones h) rfl rfl rfl rfl (by first|omega|(simp only[aaj,aaO];omega)) (by unfold maxLen;first|omega|(simp only[aaj,aaO];omega)) fun na nc c3 A10 ba cd bc=>?_;refine dg ?_;refine ad ba [3,0,1,2] [B3] [A10,sg pb _,D6] rfl eI rfl (cS (N:=ts.length) ab (jy.le hB (abV cm cd)) a9 (f0.le cd) el) fun v15 ix qs ed c2 hq=>?_;obtain⟨B15,rfl,eo⟩:=hq;obtain⟨ta,tc,rfl⟩:=eo.shape;simp only[Z3]at ed |-;apply RG;simp only[go_sem,iv,pt,sD,rD,dA];refine bf ed [2,3,1,0] fun fa=>?_;have k1015:=abV cd c2
   refine a1 (i+1,.slice na (ri.l++y.l).length nc,.slice ta (Syn.joinAll ri.f y.f).length tc,dv6) _ _ dt gP (by simp only[go_sem,aa6,Jj]) ⟨ix,D6,A10,B15,_,rfl,fa,abV a7 (abV cm k1015),cA,bx,by simpa[aaT]using ga.le (abV dT k1015),bQ.le bc c2,eo,a9.joinAll el,by simp only[aa9]at b5 |-;unfold aN;exact b5⟩
  rw[ZV t3]at a6;have q3:(x.text == [40])=false:=cy _ t3;by_cases t4:x.kind=2
  ·rw[aaq t4]at a6;have q4:((x.kind:Int) == 2)=true:=by rw[t4];rfl
   have cp:x.at'<ts.length:=bC.lt (.inr ab);apply RG;simp only[go_sem,iv,pt,sD,rD,q1,q2,q3,q4];cases a6
   apply RG;simp only[go_sem,iv,pt,sD,rD,gA];refine ad cx [3,0,1,2] [B3] [sg pb _,D3,A3] rfl ej rfl (bK (a:=x.at'+1) hB aS a9.ok.2 (fun t ht=>by have:=a9.le t ht;omega) ab (by have:=a9.len;omega)) fun v13 gF qs al aa hq=>?_;obtain⟨B13,rfl,a4⟩:=hq;simp only[Z3]at al |-;refine dg ?_;refine bf al [1,2,3,0] fun ba=>?_;refine ax ba (by exact dQ) rfl rfl rfl rfl rfl bg fun nb8 I8 b2 ac bF=>?_;have dj:eE I8 (.slice (some ⟨nb8,0,none⟩) 1 1) ([⟨15,x.text,x.at',slot,[],x.cond⟩]:List Nd):=iJ (az bF (by simp[aD,Value.cells]) (by simp[aD,Value.cells,iv,sD,rD])) (bm.mk (n:=⟨15,x.text,x.at',slot,[],x.cond⟩) ((aS.le aa).le ac) (Sl.nil _ _) lM);refine dg ?_;refine bf b2 [2,0,1,3] fun bd=>?_;refine bl bd (by exact dQ) (bQ.le hA (abV aa ac)) (dj) (fun{I J c a} h k=>bm.le h k) (fun{I} c a h=>bm.len c a h) (fun{I} c a h=>bm.ones h) rfl rfl rfl rfl (by first|omega|(simp only[aaj,aaO];omega)) (by unfold maxLen;first|omega|(simp only[aaj,aaO];omega)) fun na nc c3 A10 aq ak bc=>?_;apply RG;simp only[go_sem,iv,pt,sD,rD,dA];refine bf aq [1,2,0,3] fun ag=>?_;have k810:=abV ac ak;obtain⟨ta,tc,rfl⟩:=a4.shape;refine a1 (i+1,.slice na (ri.l++([⟨15,x.text,x.at',slot,[],x.cond⟩]:List Nd)).length nc,.slice ta (Syn.join ri.f (x.at'+1) x.cond).length tc,dv) _ _ dt gP (by simp only[go_sem,aa6,Jj]) ⟨c3,D3,A10,B13,_,rfl,ag,abV a7 (abV aa k810),cA,bx,by simpa using hE.le (abV aa k810),bc,jy.le a4 k810,a9.join ab bC.ok,by simp only[aa9,aaJ];unfold aN;simpa using b5⟩
  rw[ZV t4]at a6;have q4:((x.kind:Int) == 2)=false:=by rw[abS];omega
  by_cases t5:x.text=pH\/x.text=mK
  ·rw[aaq t5]at a6;have cp:x.at'<ts.length:=t5.elim (bC.lt2 (s:=pH) bg) (bC.lt2 (s:=mK) bg);by_cases t6:x.text=pH
   have q5:(x.text == [116,114,117,101])=true:=by rw[t6];decide
   apply RG;simp only[go_sem,iv,pt,sD,rD,q1,q2,q3,q4,q5]
   rotate_left
   have q5:(x.text == [116,114,117,101])=false:=cy _ t6;have q6:(x.text == [102,97,108,115,101])=true:=by rw[t5.resolve_left t6];decide
   apply RG;simp only[go_sem,iv,pt,sD,rD,q1,q2,q3,q4,q5,q6]
   all_goals
    cases a6
    apply RG;simp only[go_sem,iv,pt,sD,rD,gA];refine ad cx [3,0,1,2] [B3] [sg pb _,D3,A3] rfl ej rfl (bK (a:=x.at'+1) hB aS a9.ok.2 (fun t ht=>by have:=a9.le t ht;omega) ab (by have:=a9.len;omega)) fun v13 gF qs al aa hq=>?_;obtain⟨B13,rfl,a4⟩:=hq;simp only[Z3]at al |-;refine dg ?_;refine bf al [1,2,3,0] fun ba=>?_;refine ax ba (by exact dQ) rfl rfl rfl rfl rfl bg fun nb8 I8 b2 ac bF=>?_;have dj:eE I8 (.slice (some ⟨nb8,0,none⟩) 1 1) ([⟨16,x.text,x.at',slot,[],x.cond⟩]:List Nd):=iJ (az bF (by simp[aD,Value.cells]) (by simp[aD,Value.cells,iv,sD,rD])) (bm.mk (n:=⟨16,x.text,x.at',slot,[],x.cond⟩) ((aS.le aa).le ac) (Sl.nil _ _) lM);refine dg ?_;refine bf b2 [2,0,1,3] fun bd=>?_;refine bl bd (by exact dQ) (bQ.le hA (abV aa ac)) (dj) (fun{I J c a} h k=>bm.le h k) (fun{I} c a h=>bm.len c a h) (fun{I} c a h=>bm.ones h) rfl rfl rfl rfl (by first|omega|(simp only[aaj,aaO];omega)) (by unfold maxLen;first|omega|(simp only[aaj,aaO];omega)) fun na nc c3 A10 aq ak bc=>?_;apply RG;simp only[go_sem,iv,pt,sD,rD,dA];refine bf aq [1,2,0,3] fun ag=>?_;have k810:=abV ac ak;obtain⟨ta,tc,rfl⟩:=a4.shape;refine a1 (i+1,.slice na (ri.l++([⟨16,x.text,x.at',slot,[],x.cond⟩]:List Nd)).length nc,.slice ta (Syn.join ri.f (x.at'+1) x.cond).length tc,dv) _ _ dt gP (by simp only[go_sem,aa6,Jj]) ⟨c3,D3,A10,B13,_,rfl,ag,abV a7 (abV aa k810),cA,bx,by simpa using hE.le (abV aa k810),bc,jy.le a4 k810,a9.join ab bC.ok,by simp only[aa9,aaJ];unfold aN;simpa using b5⟩
  rw[ZV t5]at a6;have q5:(x.text == [116,114,117,101])=false:=cy _ fun k=>t5 (.inl k);have q6:(x.text == [102,97,108,115,101])=false:=cy _ fun k=>t5 (.inr k);by_cases t7:x.text=qX
  ·rw[aaq t7]at a6;have cp:x.at'<ts.length:=bC.lt2 (s:=qX) bg t7;have q7:(x.text == [114,101,97,100])=true:=by rw[t7];decide
   apply RG;simp only[go_sem,iv,pt,sD,rD,q1,q2,q3,q4,q5,q6,q7];cases a6
   apply RG;simp only[go_sem,iv,pt,sD,rD,gA];refine ad cx [3,0,1,2] [B3] [sg pb _,D3,A3] rfl ej rfl (bK (a:=x.at'+1) hB aS a9.ok.2 (fun t ht=>by have:=a9.le t ht;omega) ab (by have:=a9.len;omega)) fun v13 gF qs al aa hq=>?_;obtain⟨B13,rfl,a4⟩:=hq;simp only[Z3]at al |-;refine dg ?_;refine bf al [1,2,3,0] fun ba=>?_;refine ax ba (by exact dQ) rfl rfl rfl rfl rfl bg fun nb8 I8 b2 ac bF=>?_;have dj:eE I8 (.slice (some ⟨nb8,0,none⟩) 1 1) ([⟨17,[],x.at',slot,[],x.cond⟩]:List Nd):=iJ (az bF (by simp[aD,Value.cells]) (by simp[aD,Value.cells,iv,sD,rD])) (bm.mk (n:=⟨17,[],x.at',slot,[],x.cond⟩) ((aS.le aa).le ac) (Sl.nil _ _) lM);refine dg ?_;refine bf b2 [2,0,1,3] fun bd=>?_;refine bl bd (by exact dQ) (bQ.le hA (abV aa ac)) (dj) (fun{I J c a} h k=>bm.le h k) (fun{I} c a h=>bm.len c a h) (fun{I} c a h=>bm.ones h) rfl rfl rfl rfl (by first|omega|(simp only[aaj,aaO];omega)) (by unfold maxLen;first|omega|(simp only[aaj,aaO];omega)) fun na nc c3 A10 aq ak bc=>?_;apply RG;simp only[go_sem,iv,pt,sD,rD,dA];refine bf aq [1,2,0,3] fun ag=>?_;have k810:=abV ac ak;obtain⟨ta,tc,rfl⟩:=a4.shape;refine a1 (i+1,.slice na (ri.l++([⟨17,[],x.at',slot,[],x.cond⟩]:List Nd)).length nc,.slice ta (Syn.join ri.f (x.at'+1) x.cond).length tc,dv) _ _ dt gP (by simp only[go_sem,aa6,Jj]) ⟨c3,D3,A10,B13,_,rfl,ag,abV a7 (abV aa k810),cA,bx,by simpa using hE.le (abV aa k810),bc,jy.le a4 k810,a9.join ab bC.ok,by simp only[aa9,aaJ];unfold aN;simpa using b5⟩
  rw[ZV t7]at a6;have q7:(x.text == [114,101,97,100])=false:=cy _ t7;apply RG;simp only[go_sem,iv,pt,sD,rD,q1,q2,q3,q4,q5,q6,q7];refine ax cx (by exact jH) rfl rfl rfl rfl rfl bg fun nb I4 ct am e3=>?_;have f6:eR I4 (.slice (some ⟨nb,0,none⟩) 1 1) (bX x):=qJ (az e3 (by simp[aD,Value.cells]) (by simp[aD,Value.cells,iv,sD,rD])) (aS.le am);have fh:=jk bC;have nf:=iy h.ok fh 18 slot;have nl:=lC h.ok fh 18 slot;obtain⟨xs,g,ez⟩:∃yes g,aM ts (named ts (bX x) 18 slot).f (bD eM)=(yes,g):=⟨_,_,rfl⟩;simp only[ez]at a6;obtain⟨c,hM,ey⟩:=bU a6;cases ey
  simp only[aa9]at cr b5;have fc:=fm h.ok nf (is:=bD eM);have g6:=gE h.ok nf (bD eM);have fC:=dC h.ok nf (bD eM);have c6:(named ts (bX x) 18 slot).l=[]->(aM ts (named ts (bX x) 18 slot).f (bD eM)).1=[]:=fun e=>by
   rw[E8 e];rfl
  rw[ez]at fc g6 fC c6;simp only at fc g6 fC c6;refine dg ?_;refine ad ct [0,1,2,3] [sg pb _,D3] [A3,B3] rfl qI rfl (qA (kind:=18) (slot:=slot) (f:=bX x) (h3.le am) f6 fh (hE.le am) (by simp only[aa9];omega)) fun v I5 qs b2 ac hq=>?_;obtain⟨dv5,D5,rs,rfl,h0,⟨A5,B5,va5,vb5,rfl,rfl,h5,h4⟩,g8,hT⟩:=hq;simp only[Z3]at b2 |-;refine dg ?_;refine bf b2 [3,0,1,2,4,5] fun bd=>?_;refine ae bd fun I6 bd b0 h2=>?_;have hY:eR I6 vb5 (named ts (bX x) 18 slot).f:=h4.sl b0 h2;refine ad bd [0,1,2,3,4] [] [sg pb _,D5,A5,A3,B3] rfl jl rfl (kM (s:=eM)) fun vi I7 qs aq ak hq=>?_;obtain⟨rfl,g7⟩:=hq;simp only[Z3]at aq |-;obtain⟨fi,first,cap,rfl,gi,ci⟩:=id g7;refine dg ?_;have g1:=abV am (abV ac (abV b0 ak));refine ad aq [0,1,2,3,4] [sg pb _] [D5,A5,A3,B3] rfl jD rfl (jC (h3.le g1) (hY.le ak) nf g7) fun v I8 qs ag an hq=>?_;obtain⟨A8,B8,va8,vb8,rfl,rfl,et,ge⟩:=hq;rw[ez]at et ge;simp only at et ge;obtain⟨xsa,xsc,rfl⟩:=et.shape;simp only[Z3]at ag |-;refine dg ?_;refine bf ag [1,0,2,3,4,5,6] fun a3=>?_;refine ae a3 fun I9 a3 aj gr=>?_;have hR:qO I9 (.slice xsa xs.length xsc) xs:=et.sl aj gr;refine bf a3 [0,2,4,5,3,1] fun al=>?_;have gT:=abV an aj;have g0:=abV b0 (abV ak gT);have cm:=abV g1 gT;have h9:=h3.le cm;have hV:xE ts o slot x ⟨c.l,c.f,(named ts (bX x) 18 slot).e++c.e⟩ m1 xs (named ts (bX x) 18 slot).l g (named ts (bX x) 18 slot).e:=⟨c,hM,rfl,rfl,rfl⟩
  refine aA (fun x=>xs.length-x.1) (WU pb slot va vb (.slice (some ⟨b,off,none⟩) b1.length hc) b1.length i [iv x.at',sD xa xk x.cond,rD x.cond,.int .u8 x.kind,.string ⟨⟨x.text⟩⟩] (.slice xsa xs.length xsc) xs.length) (Y8 pb ts lv fv ov o slot m1 A3 B3 x xs ⟨c.l,c.f,(named ts (bX x) 18 slot).e++c.e⟩ (e++ri.e) I9) (0,m1,va5,vb8,dv5) R5 (by simp only[go_sem,aa6,WU,iv,sD,rD]) ?_ ?_
  ·exact⟨I9,D5,A5,B8,_,_,_,rfl,al,abW _,aaL _,ZR _,hV,h5.le g0,by
    by_cases e7:(named ts (bX x) 18 slot).l=[]
    ·exact .inr (c6 e7)
    ·exact .inl e7,hT,ge.le aj,fC,h0.le g0⟩
  rintro⟨j,m2,vn,vg,dw⟩ H ⟨jc,D17,N,G,l,gg,ee,rfl,c9,cc,hw,hn,ei,fo,hu,i3,hG,es,gd⟩ c5;simp only at hw hn ei fo hG gd;simp only[WU];have ex:=abV cm cc;have h6:=h3.le ex;rcases aaf j xs.length with dI|i4
  ·have gs:decide ((j:Int)<(xs.length:Int))=true:=by simp;omega
   have f1:=wrap64 (n:=j+1) ab;have f1':IntKind.i64.wrap ((j:Int)+1)=((j+1:Nat):Int):=by rw[<-f1];congr 1
   obtain⟨y,eq⟩:∃y,xs[j]?=some y:=⟨_,aak dI⟩;obtain⟨hg,i0⟩:=fc y (aaV eq);obtain⟨bb,off2,cs2,rfl,fb,dc⟩:=(hR.le cc).load l7.len eq;obtain⟨ya,yk,rfl,b6⟩:=fb;have hD:xs.drop j=y::xs.drop (j+1):=by
    rw[aaK dI];rw[aak dI]at eq;rw[aaZ eq]
   rw[hD]at ei;obtain⟨m3,aa',rfl,hO,c7,dk⟩:=Fb ei;have d3:=dk.le;simp only[aa9]at d3;apply RG;simp only[go_sem,gs,iv,pt,sD,rD];refine⟨ab,?_⟩;refine XN (l:=[iv y.at',sD ya yk y.cond,rD y.cond,.int .u8 y.kind,.string ⟨⟨y.text⟩⟩]) (v:=.agg #[iv y.at',sD ya yk y.cond,rD y.cond,.int .u8 y.kind,.string ⟨⟨y.text⟩⟩]) rfl (cellsU c9 (.head _) dc) (.inl ⟨gI,rfl⟩) ?_;refine dg ?_;refine ax c9 (by exact jH) rfl rfl rfl rfl rfl bg fun nb2 gC cl ao e0=>?_;have f9:eR gC (.slice (some ⟨nb2,0,none⟩) 1 1) (bX y):=qJ (az e0 (by simp[aD,Value.cells]) (by simp[aD,Value.cells,iv,sD,rD])) (b6.le ao);refine dg ?_;refine ad cl [0,1,2,3,4,5] [sg pb _,D17] [A3,B3,N,G] rfl Bd rfl (ih m3 ab (.listed false o (bX y)) aa' hO ho (h6.le ao) f9 (jk hg) (gd.le ao) (by simp only[aa9];omega)) fun v hb qs b4 bs hq=>?_;obtain⟨dv19,D19,rs,rfl,gb,⟨A19,B19,va19,vb19,rfl,rfl,dx,gl⟩,em,hU⟩:=hq;have dd:=dx.capN bm.len;obtain⟨ka,kc,rfl⟩:=dx.shape;simp only[Z3]at b4 |-;refine dg ?_;refine bf b4 [2,0,1,3,4,5,6,7] fun cj=>?_;refine ae (c:=.st _) cj fun ie cj cb go=>?_;have fz:eE ie (.slice ka aa'.l.length kc) aa'.l:=dx.sl cb go;refine bf cj [2,0,1,3,4,5,6] fun cf=>?_;refine ae (c:=.st _) cf fun g9 cf a2 gk=>?_;have f3:eR g9 vb19 aa'.f:=gl.sl (abV cb a2) gk;have k1921:=abV cb a2;have k1721:=abV ao (abV bs k1921);obtain⟨n1,l1,rfl⟩:∃n1 l1,l=n1::l1:=by
    cases l with
    |nil=>exact absurd rfl (hu.resolve_right fun e=>by rw[e]at dI;exact Nat.not_lt_zero _ dI)
    |cons n1 l1=>exact⟨n1,l1,rfl⟩
   rw[zo]at dk;refine bf cf [4,0,1,2,3,5] fun b3=>?_;obtain⟨g5,cap5,cur,a5,k5,rfl,rfl,i1,da,d0,eA⟩:=CH (bQ.le fo k1721);refine iZ mixed [0,1,2,3,4,5,6,7,8,9,10,11] [] [] [4] [7] (sg g5 (.cells cur 60 (0,0))) rfl rfl ?_;refine qY ?_;refine⟨ab,?_⟩;refine je (l:=[sD a5 k5 n1.cond,rD n1.cond]) (v:=.agg #[sD a5 k5 n1.cond,rD n1.cond]) rfl (di b3) rfl rfl rfl da (.inl ⟨r9,rfl⟩) ?_;refine qY ?_;refine tG b3 [0,1,2,3,4,5] rfl rfl rfl rfl rfl oT (by rfl) (ps:=[]) (F:=[sg g5 _,sg pb _,D19,A3,B3,G]) rfl (di b3) (uX (b6.le k1721)) fun v ja qs ec ca hq=>?_;obtain⟨rfl,d2⟩:=hq;obtain⟨ra,rk,rfl⟩:=d2.shape2;simp only[Z3]at ec |-;refine qY ?_;refine aE ec [0,1,2,3,4,5] [] [sg g5 _,sg pb _,D19,A3,B3,G] rfl kK rfl (oQ (d0.le ca) d2) fun v ia qs eb c0 hq=>?_;obtain⟨rfl,d1⟩:=hq;obtain⟨ta,tk,rfl⟩:=d1.shape2;simp only[Z3]at eb |-;refine qY ?_;refine⟨ab,?_⟩;refine aQ eb rfl rfl rfl rfl rfl rfl (by exact Ds) (by simp;omega) fun e8=>?_;refine aw ?_;have fk:=eA ia ta tk (n1.cond.and y.cond.not) (abV ca c0) d1;have k2126:=abV ca c0;refine dg ?_;refine ax e8 (by exact dQ) rfl rfl rfl rfl rfl bg fun nb3 h8 e6 cB eH=>?_;have k2128:=abV k2126 cB;have k1728:=abV k1721 k2128;have fg:eE h8 (.slice (some ⟨nb3,0,none⟩) 1 1) ([⟨19,x.text,x.at',slot,aa'.l,y.cond⟩]:List Nd):=iJ (az eH (by simp[aD,Value.cells]) (by simp[aD,Value.cells,iv,sD,rD])) (bm.mk (n:=⟨19,x.text,x.at',slot,aa'.l,y.cond⟩) (b6.le k1728) (eE.le fz (abV a2 k2128)) dd);refine dg ?_;unfold aN at c7;simp only[aaj]at c7
   refine bl e6 (by exact dQ) (bQ.le fk cB) (fg) (fun{I J c a} h k=>bm.le h k) (fun{I} c a h=>bm.len c a h) (fun{I} c a h=>bm.ones h) rfl rfl rfl rfl (by first|omega|(simp only[aaj,aaO];omega)) (by unfold maxLen;first|omega|(simp only[aaj,aaO];omega)) fun wa wc i9 N29 e5 b8 fj=>?_;refine dg ?_;have k2129:=abV k2128 b8;refine ad e5 [5,0,1,2,3,4] [G] [N29,sg pb _,D19,A3,B3] rfl eI rfl (cS (N:=ts.length) ab (hG.le (abV k1728 b8)) es (f3.le k2129) em) fun v30 h7 qs ea b7 hq=>?_;obtain⟨G30,rfl,f2⟩:=hq;simp only[Z3]at ea |-;apply RG;simp only[go_sem,iv,pt,sD,rD,f1'];refine bf ea [2,3,4,5,1,0] fun e4=>?_;refine c5 (j+1,m3,.slice wa ((l1++([⟨19,x.text,x.at',slot,aa'.l,y.cond⟩]:List Nd)).length+1) wc,v30,dv19) _ _ dt R5 (by simp only[go_sem,aa6,WU,iv,sD,rD]) ⟨h7,D19,N29,G30,_,_,_,rfl,e4,abV cc (abV k1728 (abV b8 b7)),dI,by simp only;omega,dk,bQ.le fj b7,.inl (List.cons_ne_nil _ _),?_,f2,es.joinAll em,by simpa[aaT]using gb.le (abV k1921 (abV k2129 b7))⟩;simp only[aaj,aa9,aaO]at c7 |-;unfold aN;omega
  ·have hv:j=xs.length:=by omega
   subst hv;have gs:=Z6 xs.length;rw[abH]at ei;obtain⟨rfl,rfl,rfl⟩:=IW ei;apply RG;simp only[go_sem,gs,iv,pt,sD,rD];refine bf c9 [4,0,1,2,3,5] fun cl=>?_;refine ae cl fun gC cl ao fl=>?_;have fA:eE gC vn c.l:=bQ.sl fo ao fl;refine bf cl [4,0,1,2,3] fun b4=>?_;refine ae b4 fun hb b4 bs f5=>?_;have ek:eR hb vg c.f:=jy.sl hG (abV ao bs) f5;have k1719:=abV ao bs;have k319:=abV ex k1719;refine bf b4 [2,0,1,3] fun cj=>?_;refine bl cj (by exact dQ) (bQ.le hA k319) (eE.le fA bs) (fun{I J c a} h k=>bm.le h k) (fun{I} c a h=>bm.len c a h) (fun{I} c a h=>bm.ones h) rfl rfl rfl rfl (by first|omega|(simp only[aaj,aaO];omega)) (by unfold maxLen;first|omega|(simp only[aaj,aaO];omega)) fun na nc g9 A21 cf a2 gn=>?_;refine dg ?_;refine ad cf [3,0,1,2] [B3] [A21,sg pb _,D17] rfl eI rfl (cS (N:=ts.length) ab (jy.le hB (abV k319 a2)) a9 (ek.le a2) es) fun v22 ic qs b3 c1 hq=>?_;obtain⟨B22,rfl,en⟩:=hq;obtain⟨ta,tc,rfl⟩:=en.shape;simp only[Z3]at b3 |-;apply RG;simp only[go_sem,iv,pt,sD,rD,dA];refine bf b3 [2,3,1,0] fun e9=>?_;have k1722:=abV k1719 (abV a2 c1);refine a1 (i+1,.slice na (ri.l++c.l).length nc,.slice ta (Syn.joinAll ri.f c.f).length tc,dw) _ _ dt gP (by simp only[go_sem,aa6,Jj]) ⟨ic,D17,A21,B22,_,rfl,e9,abV a7 (abV ex k1722),cA,bx,by simpa[aaT]using gd.le k1722,bQ.le gn c1,en,a9.joinAll es,by simp only[aa9];unfold aN;exact b5⟩
 ·have hz:i=b1.length:=by omega
  subst hz;have gt:=Z6 b1.length;rw[abH]at er;cases er
  apply RG;simp only[go_sem,gt,iv,pt];exact af rfl cx (r:=[va,vb]) rfl (abV c8 a7) ⟨_,D3,[A3,B3],rfl,hE,⟨A3,B3,va,vb,rfl,rfl,hA,hB⟩,a9,fr⟩
end
open Go Go.Sx Dg Syn
section
variable {pb:Nat} {ts:List Tok} {lv fv ov:Value}
def zI:∀n,kP pb ts lv fv ov n
 |0=>fun m hm=>absurd hm (Nat.not_lt_zero _)
 |n+1=>fun m hm x r hr=>by
  have ih:=zI n;rcases aaf m n with aa|ac
  ·exact ih m aa x r hr
  have:m=n:=by omega
  subst this;cases x with
  |line=>exact SC ih hr
  |unary=>exact OW ih hr
  |inside=>exact J6 ih hr
  |listed=>exact JR ih hr
  |behind=>exact LA ih hr
  |vrb=>exact Fc ih hr
  |function=>exact Fa ih hr
  |block=>exact Qh ih hr
  |stmt=>exact Tm ih hr
  |branch=>exact LC ih hr
  |_=>trivial
def Dp{o:Nat}(ho:o<=64){d:T}{r:Syn.bW}{n:Nat}(hr:Syn.run ts n (.seqL true o [(0,d)] [] [])=some r){I D:PH}{dv:Value}{da:Option Addr}{dk:Nat}{e:List cO}(h:zr I ts lv fv)(ac:cX I (.agg #[sD da dk d,rD d]) d)(aa:d≠ff)(he:eF I D dv e)(hm:e.length+r.e.length<=ux):
  aK Tryz.prog 77 #[pt pb,.agg #[sD da dk d,rD d]] I [sg pb (cg lv fv ov dv o),D] (PP pb lv fv ov o (e++r.e) (Uq ts r)):=
 Il (zI n) ho hr h ac aa he hm
end
end Go.Proofs.YtfaclfkpnmcmlaaGreatDoor
