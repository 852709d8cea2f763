import Derived.Test.YtfaclfkpnmcmlaaGreatDoorE07
import Derived.Test.YtfaclfkpnmcmlaaGreatDoorE12
set_option maxHeartbeats 8000000
set_option linter.all false
namespace Go.Proofs.YtfaclfkpnmcmlaaGreatDoor
open Go Go.Sx Dg Syn
def Sa:aO Tryz.prog 77:=⟨_,Tryz.func77,rfl,rfl⟩
def QN:aO Tryz.prog 134:=⟨_,Tryz.func134,rfl,rfl⟩
def Pd:aO Tryz.prog 136:=⟨_,Tryz.func136,rfl,rfl⟩
section
variable {pb:Nat} {ts:List Tok} {lv fv ov:Value}
variable{dv:Value}
def Pg{J:PH}{o bb:Nat}{h:aB}{a:Option Addr}{k:Nat}(hp:zr J ts lv fv)(hb:aP J bb 0 [pt pb]):
  aK Tryz.prog 134 #[yL a k h,pt bb] J [sg pb (cg lv fv ov dv o)] fun v I2 qs=>qs=[sg pb (cg lv fv ov dv o)]/\v=.bool (lF ts true h):=by
 intro hd;obtain⟨la,lc,rfl,_⟩:=id hp.tok;refine ah 12 Tryz.func134 fun w0=>?_
 try simp only[yL,iv,pt,sD,rD]
 refine aT ?_;refine eP [0,1,2,3,4,5,6,7,8] [2,5] [] ?_;refine FW ?_;refine W7 (l:=[pt pb]) rfl (cellsU hd (.head _) hb) (.inr ⟨ze,rfl⟩) ?_;refine FW ?_;refine W7 (l:=[_]) rfl (cellsU hd (.tail _ (.head _)) (ay (by simp[cg]) rfl)) (.inr ⟨uy,rfl⟩) ?_;refine FW ?_;refine aw ?_;refine aT ?_;refine af rfl hd (r:=[.bool ((h.at':Int) == (ts.length:Int))]) rfl (abW _) ⟨rfl,?_⟩;show Value.bool _=Value.bool (decide (h.at'=ts.length));congr 1;by_cases e:h.at'=ts.length
 ·rw[e];simp
 ·simp[e];omega
def IX{n o bb:Nat}(ih:kP pb ts lv fv ov n)(ho:o<=64){I0:PH}(a9:aP I0 bb 0 [pt pb]):LQ pb ts lv fv ov n true o I0 (.func (.func 136) #[] #[pt bb]):=by
 refine⟨136,#[],#[pt bb],rfl,Pd,fun m hm x a ha I D dv xa xk e a5 h hx hr he hl=>?_⟩;have hb:=a9.le a5;have ac:Syn.qj (Syn.run ts m) o x=some a:=ha;unfold Syn.qj at ac;have bc:=h.len;have a4:=hx.le;show aK Tryz.prog 136 #[yL xa xk x,pt bb] I [sg pb (cg lv fv ov dv o),D] _;intro hd;refine ah 26 Tryz.func136 fun w0=>?_
 try simp only[yL,iv,pt,sD,rD]
 cases h1:(x.text == [118,97,114])
 ·have n1:x.text≠lT:=fun e=>by rw[e]at h1;exact absurd h1 bg
  rw[ZV n1]at ac;cases h2:(x.text == [102,110])
  ·have n2:x.text≠Gg:=fun e=>by rw[e]at h2;exact absurd h2 bg
   rw[ZV n2]at ac;cases ac
   apply RG;simp only[go_sem,h1,h2];refine XN (l:=[pt pb]) rfl (cellsU hd (.head _) hb) (.inr ⟨ze,rfl⟩) ?_;refine ll ?_;refine ad hd [0,1] [sg pb _,D] [] rfl kX rfl (ow h hx.le hr he (by simpa[cJ]using hl)) fun v I4 qs a3 am hq=>?_;obtain⟨dv2,D4,rs,rfl,ba,rfl⟩:=hq;simp only[aaz,aaA,aa6]at a3 |-;refine ll ?_;refine aR a3 fun a7=>?_;refine aR a7 fun a6=>?_;refine bf a6 [2,3,0,1] fun an=>?_;exact af rfl an (r:=[.slice none 0 0,.slice none 0 0]) rfl am ⟨dv2,D4,[PH.no,PH.no],rfl,ba,⟨PH.no,PH.no,_,_,rfl,rfl,Ow.nil _ _ _ _,Ow.nil _ _ _ _⟩,FN.nil _,aaL _⟩
  ·rw[aaq (show x.text=Gg from eq_of_beq h2)]at ac;have ag:=hx.lt (.inl (by rw[show x.text=Gg from eq_of_beq h2];decide));apply RG;simp only[go_sem,h1,h2];refine iZ mixed [0,1,2,3,4,5,6,7] [] [] [0] [2] I rfl rfl ?_;refine FW ?_;refine je (l:=[pt pb]) rfl (cP hd) rfl rfl rfl hb (.inr ⟨ze,rfl⟩) ?_;refine FW ?_;refine DX hd [0,1] rfl (fun _=>abW _) rfl jj (by rfl) (ps:=[]) (F:=[sg pb _,D]) rfl (ji (h:=x) ab hr) fun v I2 qs al aa hq=>?_;obtain⟨rfl,hA⟩:=hq;simp only[aaz,aaA]at al |-;refine FW ?_;refine aE al [0,1] [sg pb _,D] [] rfl O2 rfl (ih m hm (.function o (bv x)) a ac ho (h.le aa) hA (bH hx ag) (he.le aa) hl) fun v I3 qs ak aj hq=>?_;obtain⟨dv3,D3,rs,rfl,aS,⟨A3,B3,va3,vb3,rfl,rfl,a2,a1⟩,aq,ao⟩:=hq;simp only[aaz,aaA,aa6]at ak |-;refine FW ?_;refine aw ?_;refine ll ?_;exact af rfl ak (r:=[va3,vb3]) rfl (abV aa aj) ⟨dv3,D3,[A3,B3],rfl,aS,⟨A3,B3,va3,vb3,rfl,rfl,a2,a1⟩,aq,ao⟩
 ·rw[aaq (show x.text=lT from eq_of_beq h1)]at ac;have ag:=hx.lt (.inl (by rw[show x.text=lT from eq_of_beq h1];decide));apply RG;simp only[go_sem,h1];refine iZ mixed [0,1,2,3,4,5,6,7] [] [] [0] [2] I rfl rfl ?_;refine FW ?_;refine je (l:=[pt pb]) rfl (cP hd) rfl rfl rfl hb (.inr ⟨ze,rfl⟩) ?_;refine FW ?_;refine DX hd [0,1] rfl (fun _=>abW _) rfl jj (by rfl) (ps:=[]) (F:=[sg pb _,D]) rfl (ji (h:=x) ab hr) fun v I2 qs al aa hq=>?_;obtain⟨rfl,hA⟩:=hq;simp only[aaz,aaA]at al |-;refine FW ?_;refine aE al [0,1] [sg pb _,D] [] rfl Hc rfl (ih m hm (.vrb o (bv x)) a ac ho (h.le aa) hA (bH hx ag) (he.le aa) hl) fun v I3 qs ak aj hq=>?_;obtain⟨dv3,D3,rs,rfl,aS,⟨A3,B3,va3,vb3,rfl,rfl,a2,a1⟩,aq,ao⟩:=hq;simp only[aaz,aaA,aa6]at ak |-;refine FW ?_;refine aw ?_;refine ll ?_;exact af rfl ak (r:=[va3,vb3]) rfl (abV aa aj) ⟨dv3,D3,[A3,B3],rfl,aS,⟨A3,B3,va3,vb3,rfl,rfl,a2,a1⟩,aq,ao⟩
def Il{n o:Nat}(ih:kP pb ts lv fv ov n)(ho:o<=64){d:T}{r:Syn.bW}(hr:Syn.run ts n (.seqL true o [(0,d)] [] [])=some r){I D:PH}{da:Option Addr}{dk:Nat}{e:List cO}(h:zr I ts lv fv)(al:cX I (.agg #[sD da dk d,rD d]) d)(am:d≠ff)(he:eF I D dv e)(hm:e.length+r.e.length<=ux):
  aK Tryz.prog 77 #[pt pb,.agg #[sD da dk d,rD d]] I [sg pb (cg lv fv ov dv o),D] (PP pb lv fv ov o (e++r.e) (Uq ts r)):=by
 intro hd;refine ah 17 Tryz.func77 fun w0=>?_
 try simp only[iv,pt,sD,rD]
 apply bL 6;simp only[go_sem];refine fV 2 hd rfl fun bb aq=>?_;refine ae (c:=.st _) aq fun I2 ak ac aS=>?_;have hb:aP I2 bb 0 [pt pb]:=(ay (by simp) rfl:aP (sg bb (.cells [pt pb].toArray 152 (0,0))) bb 0 [pt pb]).le aS;apply RG;simp only[go_sem,mF,List.map,pt];refine XN (l:=[pt pb]) rfl (cellsU ak (.head _) hb) (.inr ⟨ze,rfl⟩) ?_;refine OZ ?_;refine ax ak (by exact jH) rfl rfl rfl rfl rfl bg fun nb I3 ao aa an=>?_;have hf:eR I3 (.slice (some ⟨nb,0,none⟩) 1 1) [(0,d)]:=⟨_,_,rfl,.inr ⟨nb,0,[iv 0,sD da dk d,rD d],rfl,az an (by simp[aD,Value.cells]) (by simp[aD,Value.cells,iv,sD,rD]),.one ⟨_,_,rfl,al.le (abV ac aa)⟩⟩⟩;have fn:FN ts.length [(0,d)]:=⟨⟨fun s hs=>by simp at hs;subst hs;exact⟨al.1,am⟩,by simp⟩,fun s hs=>by simp at hs;subst hs;exact aaL _⟩;refine OZ ?_;have a2:XJ pb ts lv fv ov o I3 (.func (.func 134) #[] #[pt bb]) (lF ts true):=⟨134,#[],#[pt bb],rfl,QN,fun J hJ hp dv x a k _=>Pg hp (hb.le (abV aa hJ))⟩;refine ad ao [0,1] [sg pb _,D] [] rfl BR rfl (J1 hr a2 (IX ih ho (hb.le aa)) (h.le (abV ac aa)) hf fn (he.le (abV ac aa)) hm) fun v I4 qs aj ag hq=>?_;obtain⟨dv4,D4,rs,rfl,a4,⟨A4,B4,va4,vb4,rfl,rfl,a6,a5⟩,a3,a1⟩:=hq;simp only[aaz,aaA,aa6]at aj |-;refine OZ ?_;exact af rfl aj (r:=[va4,vb4]) rfl (abV ac (abV aa ag)) ⟨dv4,D4,[A4,B4],rfl,a4,⟨A4,B4,va4,vb4,rfl,rfl,a6,a5⟩,a3,a1⟩
end
open Go Go.Sx Dg Syn
def Hj:aO Tryz.prog 292:=⟨_,Tryz.func292,rfl,rfl⟩
section
variable {pb:Nat} {ts:List Tok} {lv fv ov:Value}
def wK(ts:List Tok)(o:Nat)(r:Syn.bW)(m:Nat)(xs:List aB)(l:List Nd)(out:ar)(ee:List cO):Prop:=
 ∃b,Syn.run ts m (.elses o xs l out)=some b/\b.l=r.l/\b.f=r.f/\ee++b.e=r.e
def uM(ts:List Tok)(o:Nat)(r:Syn.bW)(m:Nat)(ys:List aB)(l:List Nd)(out:ar)(ee:List cO):Prop:=
 ∃b,Syn.run ts m (.ifs o ys l out)=some b/\b.l=r.l/\b.f=r.f/\ee++b.e=r.e
variable{ee:List cO}{out:ar}{l:List Nd}{r:Syn.bW}{o m:Nat}
def HL(h:wK ts o r m [] l out ee):l=r.l/\out=r.f/\ee=r.e:=by
 obtain⟨b,hb,h1,h2,h3⟩:=h;obtain⟨m',rfl,ac⟩:=bR hb;have aa:Syn.elses ts (Syn.run ts m') o [] l out=some b:=ac;unfold Syn.elses at aa;simp only at aa;cases aa
 exact⟨h1,h2,by simpa using h3⟩
def Io(h:uM ts o r m [] l out ee):l=r.l/\out=r.f/\ee=r.e:=by
 obtain⟨b,hb,h1,h2,h3⟩:=h;obtain⟨m',rfl,ac⟩:=bR hb;have aa:Syn.ifs (Syn.run ts m') o [] l out=some b:=ac;unfold Syn.ifs at aa;simp only at aa;cases aa
 exact⟨h1,h2,by simpa using h3⟩
variable{xs:List aB}
def FH{x:aB}(h:wK ts o r m (x::xs) l out ee):∃m' a b,m=m'+1/\
  Syn.run ts m' (.block o (aM ts (bv x) (bD kT)).2 2)=some a/\(∀n∈l,n.kids.length+a.l.length<=aN)/\uM ts o b m' (aM ts (bv x) (bD kT)).1 (give l a.l) (Syn.joinAll out a.f) []/\wK ts o r m' xs b.l b.f (ee++a.e++b.e):=by
 obtain⟨b0,hb,h1,h2,h3⟩:=h;obtain⟨m',rfl,am⟩:=bR hb;have aa:Syn.elses ts (Syn.run ts m') o (x::xs) l out=some b0:=am;unfold Syn.elses at aa;simp only at aa;obtain⟨ys,rest,ac⟩:∃yes g,aM ts (bv x) (bD kT)=(yes,g):=⟨_,_,rfl⟩;rw[ac]at aa |-;simp only at aa |-;obtain⟨a,ha,al⟩:=bU aa;obtain⟨l1,hg,ak⟩:=bU al;obtain⟨b,ao,aj⟩:=bU ak;obtain⟨c,hc,ag⟩:=bU aj;cases ag
 have an:=cW hg;obtain rfl:=bu hg;exact⟨m',a,b,rfl,ha,an,⟨b,ao,rfl,rfl,rfl⟩,c,hc,h1,h2,by simpa[aaT]using h3⟩
def Ev{y:aB}{ys:List aB}(h:uM ts o r m (y::ys) l out ee):∃m',m=m'+1/\
  (o=64->uM ts o r m' ys l out (ee++cJ y 11))/\
  (o≠64->∃a,Syn.run ts m' (.branch (o+1) y 2)=some a/\(∀n∈l,n.kids.length+a.l.length<=aN)/\uM ts o r m' ys (give l a.l) (Syn.joinAll out a.f) (ee++a.e)):=by
 obtain⟨b0,hb,h1,h2,h3⟩:=h;obtain⟨m',rfl,al⟩:=bR hb;have aa:Syn.ifs (Syn.run ts m') o (y::ys) l out=some b0:=al;unfold Syn.ifs at aa;simp only at aa;refine⟨m',rfl,fun ho=>?_,fun ho=>?_⟩
 ·rw[aaq ho]at aa;obtain⟨b,ag,ac⟩:=bU aa;cases ac
  exact⟨b,ag,h1,h2,by simpa[aaT]using h3⟩
 ·rw[ZV ho]at aa;obtain⟨a,ha,ac⟩:=bU aa;obtain⟨l1,hg,ak⟩:=bU ac;obtain⟨b,ag,aj⟩:=bU ak;cases aj
  have am:=cW hg;obtain rfl:=bu hg;exact⟨a,ha,am,b,ag,h1,h2,by simpa[aaT]using h3⟩
def wK.le(h:wK ts o r m xs l out ee):ee.length<=r.e.length:=by
 obtain⟨b,_,_,_,h⟩:=h;rw[<-h];simp
def uM.le(h:uM ts o r m xs l out ee):ee.length<=r.e.length:=by
 obtain⟨b,_,_,_,h⟩:=h;rw[<-h];simp
def WW(pb:Nat)(slot:Nat)(vh:Value)(n:Nat)(x:Nat×Nat×Value×Value×Value):St:=⟨dn 114 [(0,.v (pt pb)),(8,.v x.2.2.1),(13,.v x.2.2.2.1),(56,.v vh),(57,.v (iv n)),(58,.v (iv x.1))],[]⟩
def YU(pb:Nat)(ts:List Tok)(lv fv ov:Value)(o M:Nat)(xs:List aB)(r:Syn.bW)(e:List cO)(I0:PH)(x:Nat×Nat×Value×Value×Value)(H:PH):Prop:=
 ∃I D A B l out ee,H=U [I,sg pb (cg lv fv ov x.2.2.2.2 o),D,A,B]/\Dj [I,sg pb (cg lv fv ov x.2.2.2.2 o),D,A,B]/\I0.le I/\x.1<=xs.length/\x.2.1<=M/\wK ts o r x.2.1 (xs.drop x.1) l out ee/\
  bQ I A x.2.2.1 l/\l.length=1/\jy I B x.2.2.2.1 out/\FN ts.length out/\eF I D x.2.2.2.2 (e++ee)
def UJ(pb:Nat)(vh:Value)(n i:Nat)(vh2:Value)(n2:Nat)(x:Nat×Nat×Value×Value×Value):St:=⟨dn 114 [(0,.v (pt pb)),(8,.v x.2.2.1),(13,.v x.2.2.2.1),(56,.v vh),(57,.v (iv n)),(58,.v (iv i)),(82,.v vh2),(83,.v (iv n2)),(84,.v (iv x.1))],[]⟩
def ZB(pb:Nat)(ts:List Tok)(lv fv ov:Value)(o M:Nat)(ys:List aB)(r:Syn.bW)(e:List cO)(I0:PH)(x:Nat×Nat×Value×Value×Value)(H:PH):Prop:=
 ∃I D A B l out ee,H=U [I,sg pb (cg lv fv ov x.2.2.2.2 o),D,A,B]/\Dj [I,sg pb (cg lv fv ov x.2.2.2.2 o),D,A,B]/\I0.le I/\x.1<=ys.length/\x.2.1<=M/\uM ts o r x.2.1 (ys.drop x.1) l out ee/\
  bQ I A x.2.2.1 l/\l.length=1/\jy I B x.2.2.2.1 out/\FN ts.length out/\eF I D x.2.2.2.2 (e++ee)
theorem LC{n:Nat}(ih:kP pb ts lv fv ov n){h0:aB}{slot:Nat}(hr:Syn.run ts n (.branch o h0 slot)=some r):vQ pb ts lv fv ov (.branch o h0 slot) r:=by
 obtain⟨m,rfl,hs⟩:=bR hr;have et:Syn.branch ts (Syn.run ts m) o h0 slot=some r:=hs;unfold Syn.branch at et;obtain⟨a,ha,hG⟩:=bU et;obtain⟨b,hb,hF⟩:=bU hG;obtain⟨l1,e4,hD⟩:=bU hF;obtain⟨l2,e3,eb⟩:=bU hD;obtain⟨xs,out,hC⟩:∃yes g,aM ts b.f (bD dr)=(yes,g):=⟨_,_,rfl⟩;rw[hC]at eb;simp only at eb;obtain⟨c,hc,h6⟩:=bU eb;cases h6
 have e2:=cW e4;have e0:=cW e3;obtain rfl:=bu e4;obtain rfl:=bu e3;clear et hG hF hD eb hs hr e4 e3;intro ho h5 I D dv xa xk e h hx cr he hm hd;have hl:=h.len;have er:=hx.lt (.inl h5);simp only[aa9]at hm;refine ah 114 Tryz.func292 fun w0=>?_
 try simp only[iv,pt,yL,sD,rD]
 refine aT ?_;refine fx hd (by exact dQ) rfl rfl rfl rfl rfl bg fun wb A1 ja cm=>?_;have k2:bQ I A1 _ [gz 8 h0 slot]:=⟨_,cm,.one (bm.mk (n:=gz 8 h0 slot) cr (Sl.nil _ _) lM)⟩;refine ll ?_;refine ad ja [0,1,2] [] [A1,sg pb _,D] rfl jj rfl (ji (h:=h0) ab cr) fun v I2 qs hK ca hq=>?_;obtain⟨rfl,kk⟩:=hq;simp only[aaz,aaA]at hK |-;refine ll ?_;refine ad hK [1,2,0] [sg pb _,D] [A1] rfl Bj rfl (ih m (aba m) _ _ ha ho (h.le ca) kk (bH hx er) (he.le ca) ab) fun v I3 qs hJ ez hq=>?_;obtain⟨dv3,D3,rs,rfl,kn,⟨A3,B3,va3,vb3,rfl,rfl,k1,kt⟩,kj,_⟩:=hq;simp only[aaz,aaA]at hJ |-;refine ll ?_;refine bf hJ [2,0,1,3,4] fun i9=>?_;refine ae i9 fun I4 i5 b8 kO=>?_;have kc:eE I4 va3 a.l:=k1.sl b8 kO;refine bf i5 [2,0,1,3] fun i4=>?_;refine ae i4 fun I5 i3 an kr=>?_;have ki:eR I5 vb3 a.f:=kt.sl (abV b8 an) kr;have ht:=abV b8 an;have k5:=abV ca (abV ez ht);refine ad i3 [0,1,2] [sg pb _,D3] [A1] rfl sK rfl (ih m (aba m) _ _ hb ho (h.le k5) ki kj (kn.le ht) (by simp only[aa9];omega)) fun v I6 qs hH ey hq=>?_;obtain⟨dv6,D6,rs,rfl,kl,⟨A6,B6,va6,vb6,rfl,rfl,kB,kq⟩,ef,_⟩:=hq;simp only[aaz,aaA]at hH |-;refine ll ?_;refine bf hH [2,0,1,3,4] fun i2=>?_;refine ae i2 fun I7 f0 cA kx=>?_;have ka:eE I7 va6 b.l:=kB.sl cA kx;refine bf f0 [2,0,1,3] fun fC=>?_;refine ae fC fun I8 fA cy kp=>?_;have el:=abV cA cy;have kd:eR I8 vb6 b.f:=kq.sl el kp;have em:=abV ey el
 refine ad fA [2,0,1] [A1] [sg pb _,D6] rfl gy rfl (iV (k2.le (abV k5 em)) (eE.le kc (abV an em)) (by simp[aN]) e2) fun v I9 qs dx cx hq=>?_;obtain⟨A9,rfl,kv⟩:=hq;simp only[aaz,aaA]at dx |-;refine ll ?_;refine ad dx [0,1,2] [A9] [sg pb _,D6] rfl gy rfl (iV kv (eE.le ka (abV cy cx)) (by rw[cw];simp[aN]) e0) fun v8 mi qs ds c4 hq=>?_;obtain⟨A10,rfl,hg⟩:=hq;simp only[aaz,aaA]at ds |-;refine ll ?_;refine ad ds [0,1,2] [] [A10,sg pb _,D6] rfl jl rfl (kM (s:=dr)) fun v mc qs dk b6 hq=>?_;obtain⟨rfl,hP⟩:=hq;simp only[aaz,aaA]at dk |-;obtain⟨fi,first,cap,rfl,gi,ci⟩:=id hP;refine ll ?_;have k811:=abV cx (abV c4 b6);have hy:=abV k5 (abV em k811);refine ad dk [1,0,2] [sg pb _] [A10,D6] rfl jD rfl (jC (h.le hy) (kd.le k811) ef hP) fun v mb qs dj ba hq=>?_;obtain⟨A12,B12,va12,vb12,rfl,rfl,b1,cj⟩:=hq;have hX:=fm h.ok ef (is:=bD dr);have hM:=gE h.ok ef (bD dr);have gb:=dC h.ok ef (bD dr);rw[hC]at b1 cj hX hM gb;simp only at b1 cj hX hM gb;obtain⟨xsa,xsc,rfl⟩:=b1.shape;simp only[aaz,aaA]at dj |-;refine ll ?_;refine bf dj [1,0,4,3,2] fun fz=>?_;refine ae (c:=.st _) fz fun hn fs ag hf=>?_;have jo:qO hn (.slice xsa xs.length xsc) xs:=b1.sl ag hf;have k1013:=abV b6 (abV ba ag);have k613:=abV el (abV k811 (abV ba ag));have hW:=abV hy (abV ba ag);have j2:wK ts o ⟨c.l,c.f,a.e++b.e++c.e⟩ m xs (give (give [gz 8 h0 slot] a.l) b.l) out (a.e++b.e):=⟨c,hc,rfl,rfl,rfl⟩
 refine aA (fun x=>xs.length-x.1) (WW pb slot (.slice xsa xs.length xsc) xs.length) (YU pb ts lv fv ov o m xs ⟨c.l,c.f,a.e++b.e++c.e⟩ e hn) (0,m,v8,vb12,dv6) gP (by simp only[go_sem,aa6,WW]) ?_ ?_
 ·exact⟨hn,D6,A10,B12,_,_,_,rfl,fs,abW _,aaL _,ZR _,j2,hg.le k1013,by simp[cw],cj.le ag,gb,by simpa[aaT]using kl.le k613⟩
 rintro⟨i,m',va,vb,dv⟩ H ⟨ld,D14,A14,B14,l,out',ee,rfl,cc,a9,ie,h8,dT,hA,eA,hB,gn,hE⟩ ct;simp only at ie h8 dT hA hB hE;simp only[WW];have f9:qO ld (.slice xsa xs.length xsc) xs:=jo.le a9;have hw:=abV hW a9;have hk:=h.le hw;rcases aaf i xs.length with ec|li
 ·have hj:decide ((i:Int)<(xs.length:Int))=true:=by simp;omega
  have e1:=wrap64 (n:=i+1) ab;have k4:IntKind.i64.wrap ((i:Int)+1)=((i+1:Nat):Int):=by rw[<-e1];congr 1
  obtain⟨x,ea⟩:∃x,xs[i]?=some x:=⟨_,aak ec⟩;have h3:=aaV ea;obtain⟨cl,h4⟩:=hX x h3;have bx:=qo bg cl h4;obtain⟨bb,off,cs,rfl,jd,dy⟩:=f9.load l7.len ea;obtain⟨xa2,xk2,rfl,cp⟩:=jd;have i1:xs.drop i=x::xs.drop (i+1):=by
   rw[aaK ec];rw[aak ec]at ea;rw[aaZ ea]
  rw[i1]at dT;obtain⟨m'',aa,b2,rfl,f3,i0,gc,dI⟩:=FH dT;have c3:=dI.le;simp only[aa9]at c3;apply RG;simp only[go_sem,hj,iv,pt];refine⟨ab,?_⟩;refine XN (l:=[iv x.at',sD xa2 xk2 x.cond,rD x.cond,.int .u8 x.kind,.string ⟨⟨x.text⟩⟩]) (v:=.agg #[iv x.at',sD xa2 xk2 x.cond,rD x.cond,.int .u8 x.kind,.string ⟨⟨x.text⟩⟩]) rfl (cellsU cc (.head _) dy) (.inl ⟨gI,rfl⟩) ?_;refine dg ?_;refine ad cc [0,1,2,3] [] [sg pb _,D14,A14,B14] rfl jj rfl (ji (h:=x) ab cp) fun v ma qs dd c2 hq=>?_;obtain⟨rfl,go⟩:=hq;simp only[aaz,aaA]at dd |-;refine dg ?_;refine ad dd [0,1,2,3] [] [sg pb _,D14,A14,B14] rfl jl rfl (kM (s:=kT)) fun vi l5 qs dc b5 hq=>?_;obtain⟨rfl,d0⟩:=hq;simp only[aaz,aaA]at dc |-;obtain⟨fi2,first2,cap2,rfl,gi2,ci2⟩:=id d0;refine dg ?_;have hv:=abV c2 b5;obtain⟨ys,rest,es⟩:∃yes g,aM ts (bv x) (bD kT)=(yes,g):=⟨_,_,rfl⟩;have f5:=fm h.ok (bH cl bx) (is:=bD kT);have hL:=gE h.ok (bH cl bx) (bD kT);have ga:=dC h.ok (bH cl bx) (bD kT);refine ad dc [0,1,2,3] [sg pb _] [D14,A14,B14] rfl jD rfl (jC (hk.le hv) (go.le b5) (bH cl bx) d0) fun v l3 qs da c1 hq=>?_;obtain⟨A17,B17,va17,vb17,rfl,rfl,b0,cf⟩:=hq;rw[es]at b0 cf f5 hL ga f3 gc;simp only at b0 cf f5 hL ga f3 gc;obtain⟨ysa,ysc,rfl⟩:=b0.shape;simp only[aaz,aaA]at da |-;refine dg ?_;refine bf da [1,0,2,3,4,5] fun fr=>?_;refine ae fr fun lc fo a7 g9=>?_;have jg:qO lc (.slice ysa ys.length ysc) ys:=b0.sl a7 g9;refine bf fo [1,0,2,3,4] fun fn=>?_;refine ae fn fun lb fl a5 g2=>?_;have gl:eR lb vb17 rest:=cf.sl (abV a7 a5) g2
  have ep:=abV hv (abV c1 (abV a7 a5));have k3:=hk.le ep;refine ad fl [0,1,2,3] [sg pb _,D14] [A14,B14] rfl sK rfl (ih m'' ab _ _ f3 ho k3 gl ga (hE.le ep) (by simp only[aa9];omega)) fun v l0 qs c9 b4 hq=>?_;obtain⟨dv20,D20,rs,rfl,gt,⟨A20,B20,va20,vb20,rfl,rfl,g8,g1⟩,d2,j1⟩:=hq;simp only[aaz,aaA]at c9 |-;refine dg ?_;refine bf c9 [2,0,1,3,4,5] fun fk=>?_;refine ae fk fun la fj a4 g7=>?_;have gf:eE la va20 aa.l:=g8.sl a4 g7;refine bf fj [2,0,1,3,4] fun fh=>?_;refine ae fh fun k9 fg a3 g0=>?_;have gk:eR k9 vb20 aa.f:=g1.sl (abV a4 a3) g0;have k2022:=abV a4 a3;have eo:=abV ep (abV b4 k2022);refine ad fg [2,0,1,3] [A14] [sg pb _,D20,B14] rfl gy rfl (iV (hA.le eo) (eE.le gf a3) (by rw[eA];simp[aN]) i0) fun v23 ls qs c8 ac hq=>?_;obtain⟨A23,rfl,g6⟩:=hq;simp only[aaz,aaA]at c8 |-;refine dg ?_;refine ad c8 [3,0,1,2] [B14] [A23,sg pb _,D20] rfl eI rfl (cS (N:=ts.length) ab (hB.le (abV eo ac)) gn (gk.le ac) d2) fun v24 hU qs c7 am hq=>?_;obtain⟨B24,rfl,gT⟩:=hq;simp only[aaz,aaA]at c7 |-;refine dg ?_;refine bf c7 [2,3,1,0] fun fc=>?_;have hV:=abV eo (abV ac am);have k1824:=abV a5 (abV b4 (abV k2022 (abV ac am)));have dA:=jg.le k1824;have k2024:=abV k2022 (abV ac am)
  refine aA (fun x=>ys.length-x.1) (UJ pb (.slice (some ⟨bb,off,none⟩) xs.length xsc) xs.length i (.slice ysa ys.length ysc) ys.length) (ZB pb ts lv fv ov o m'' ys b2 (e++(ee++aa.e)) hU) (0,m'',v23,v24,dv20) gP (by simp only[go_sem,aa6,UJ]) ?_ ?_
  ·exact⟨hU,D20,A23,B24,_,_,_,rfl,fc,abW _,aaL _,ZR _,gc,g6.le am,by rw[cw];exact eA,gT,gn.joinAll d2,by simpa[aaT]using gt.le k2024⟩
  rintro⟨j,m3,vc,vd,dw⟩ H ⟨hT,D25,A25,B25,l2,out2,ee2,rfl,bC,al,ia,ex,bs,ek,ed,ei,bF,eg⟩ ao;simp only at ia ex bs ek ei eg;simp only[UJ];have f6:qO hT (.slice ysa ys.length ysc) ys:=dA.le al;have hu:=abV hV al;have hR:=hk.le hu;rcases aaf j ys.length with aq|ix
  ·have hh:decide ((j:Int)<(ys.length:Int))=true:=by simp;omega
   have f1:=wrap64 (n:=j+1) ab;have f1':IntKind.i64.wrap ((j:Int)+1)=((j+1:Nat):Int):=by rw[<-f1];congr 1
   obtain⟨y,d3⟩:∃y,ys[j]?=some y:=⟨_,aak aq⟩;have h1:=aaV d3;obtain⟨hz,h2⟩:=f5 y h1;have hY:y.text≠[]:=by
    have:y.text=kT:=by simpa[bD]using h2
    rw[this];decide
   obtain⟨bc,off2,cs2,rfl,f2,cd⟩:=f6.load l7.len d3;obtain⟨ya,yk,rfl,b3⟩:=f2;have e5:ys.drop j=y::ys.drop (j+1):=by
    rw[aaK aq];rw[aak aq]at d3;rw[aaZ d3]
   rw[e5]at bs;obtain⟨m4,rfl,h7,eq⟩:=Ev bs;apply RG;simp only[go_sem,hh,iv,pt];refine⟨ab,?_⟩;refine XN (l:=[iv y.at',sD ya yk y.cond,rD y.cond,.int .u8 y.kind,.string ⟨⟨y.text⟩⟩]) (v:=.agg #[iv y.at',sD ya yk y.cond,rD y.cond,.int .u8 y.kind,.string ⟨⟨y.text⟩⟩]) rfl (cellsU bC (.head _) cd) (.inl ⟨gI,rfl⟩) ?_;refine dg ?_;by_cases b7:o=64
   ·have hO:=h7 b7;have an:=hO.le;simp only[aa9]at an;subst b7;refine ad bC [0,1,2,3] [sg pb _,D25] [A25,B25] rfl jh rfl (nq hR hz.le b3 eg (by simp[cJ]at an |-;omega)) fun v hS qs bd ak hq=>?_;obtain⟨dv26,D26,rs,rfl,gs,rfl,rfl⟩:=hq;simp only[aaz,aaA]at bd |-;apply RG;simp only[go_sem,iv,pt,sD,rD,f1',abK];exact ao (j+1,m4,vc,vd,dv26) _ _ dt gP (by simp only[go_sem,aa6,UJ]) ⟨hS,D26,A25,B25,_,_,_,rfl,bd,abV al ak,aq,by simp only;omega,hO,ek.le ak,ed,ei.le ak,bF,by simpa[aaT]using gs⟩
   ·obtain⟨a6,jf,eH,hN⟩:=eq b7;have cB:=hN.le;simp only[aa9]at cB;refine ad bC [0,1,2,3] [sg pb _] [D25,A25,B25] rfl jh rfl (lz (h:=y) (a:=ya) (k:=yk) ab) fun v hS qs bd ak hq=>?_;obtain⟨rfl,rfl,rfl⟩:=hq;simp only[aaz,aaA]at bd |-;apply RG;simp only[go_sem,iv,pt,sD,rD,f1',abQ];refine ad bd [0,1,2,3] [sg pb _,D25] [A25,B25] rfl Hj rfl (ih m4 ab (.branch (o+1) y 2) a6 jf ab hY hR hz b3 eg (by simp only[aa9];omega)) fun v lk qs c6 c0 hq=>?_;obtain⟨dv27,D27,rs,rfl,gr,⟨A27,B27,va27,vb27,rfl,rfl,g5,gF⟩,d1,j0⟩:=hq;simp only[aaz,aaA]at c6 |-;refine dg ?_;refine bf c6 [2,0,1,3,4,5] fun fb=>?_;refine ae fb fun k8 fa a2 g4=>?_;have ge:eE k8 va27 a6.l:=g5.sl a2 g4;refine bf fa [2,0,1,3,4] fun e9=>?_;refine ae e9 fun k7 e8 a1 gC=>?_;have gg:eR k7 vb27 a6.f:=gF.sl (abV a2 a1) gC;have k2729:=abV a2 a1;have en:=abV c0 k2729;refine ad e8 [2,0,1,3] [A25] [sg pb _,D27,B25] rfl gy rfl (iV (ek.le en) (eE.le ge a1) (by rw[ed];simp[aN]) eH) fun v30 lj qs c5 aj hq=>?_;obtain⟨A30,rfl,g3⟩:=hq;simp only[aaz,aaA]at c5 |-;refine dg ?_;refine ad c5 [3,0,1,2] [B25] [A30,sg pb _,D27] rfl eI rfl (cS (N:=ts.length) ab (ei.le (abV en aj)) bF (gg.le aj) d1) fun v31 k6 qs cb aS hq=>?_;obtain⟨B31,rfl,gA⟩:=hq;simp only[aaz,aaA]at cb |-;refine dg ?_;refine XN (l:=[.int .i64 ((o+1:Nat):Int)]) rfl (cellsU cb (.tail _ (.tail _ (.tail _ (.head _)))) (ay (by simp[cg]) rfl)) (.inr ⟨jq,rfl⟩) ?_;apply RG;simp only[go_sem,iv,pt,sD,rD,kE o ho]
    refine bf cb [2,3,1,0] fun e7=>?_;refine bw e7 rfl rfl rfl rfl rfl (by exact uZ) (by simp) fun e6=>?_;apply RG;simp only[go_sem,iv,pt,sD,rD,f1'];exact ao (j+1,m4,v30,v31,dv27) _ _ dt gP (by simp only[go_sem,aa6,UJ]) ⟨k6,D27,A30,B31,_,_,_,rfl,e6,abV al (abV en (abV aj aS)),aq,by simp only;omega,hN,g3.le aS,by rw[cw];exact ed,gA,bF.joinAll d1,by simpa[aaT]using gr.le (abV k2729 (abV aj aS))⟩
  ·have h9:j=ys.length:=by omega
   subst h9;have hh:=Z6 ys.length;rw[abH]at bs;obtain⟨rfl,rfl,rfl⟩:=Io bs;apply RG;simp only[go_sem,hh,iv,pt,k4];exact ct (i+1,m'',vc,vd,dw) _ _ dt gP (by simp only[go_sem,aa6,WW]) ⟨hT,D25,A25,B25,_,_,_,rfl,bC,abV a9 hu,ec,by simp only;omega,dI,ek,ed,ei,bF,by simpa[aaT]using eg⟩
 ·have ic:i=xs.length:=by omega
  subst ic;have hj:=Z6 xs.length;rw[abH]at dT;obtain⟨rfl,rfl,rfl⟩:=HL dT;apply RG;simp only[go_sem,hj,iv,pt];exact af rfl cc (r:=[va,vb]) rfl hw ⟨_,D14,[A14,B14],rfl,hE,⟨A14,B14,va,vb,rfl,rfl,hA,hB⟩,gn,by rw[eA];simp[aN]⟩
end
end Go.Proofs.YtfaclfkpnmcmlaaGreatDoor
namespace Syn
open Dg
def Ou{a b:T}(ha:a.ok 0)(hb:b.ok 0):(a.or b).card<=a.card+b.card:=by
 have h1:(a.or b).card=a.card+(b.and a.not).card:=T.card_add fun c=>by
  rw[T.or_at ha hb,T.and_at hb (T.not_ok ha),T.not_at];cases a.at' c<;>cases b.at' c<;>rfl
 have h2:(b.and a.not).card<=b.card:=T.card_mono fun c=>by
  rw[T.and_at hb (T.not_ok ha)];intro h;simp at h;exact h.1
 omega
def MJ{a b:T}(ha:a.ok 0)(hb:b.ok 0):(a.and b).card+(a.and b.not).card=a.card:=by
 refine(T.card_add fun c=>?_).symm;rw[T.and_at ha hb,T.and_at ha (T.not_ok hb),T.not_at];cases a.at' c<;>cases b.at' c<;>rfl
def lp(N:Nat)(a:Nat)(d:T):Nat:=d.card*(N+1-a)
def fe(N:Nat)(f:ar):Nat:=(f.map fun s=>lp N s.1 s.2).sum
def hp(N:Nat)(h:aB):Nat:=lp N h.at' h.cond
def eT(N:Nat)(hs:List aB):Nat:=(hs.map (hp N)).sum
theorem dO(N:Nat):fe N []=0:=rfl
def fO(N:Nat)(s:Nat×T)(f:ar):fe N (s::f)=lp N s.1 s.2+fe N f:=by simp[fe]
theorem o8(N:Nat):eT N []=0:=rfl
def bo(N:Nat)(h:aB)(hs:List aB):eT N (h::hs)=hp N h+eT N hs:=by simp[eT]
variable{d:T}{N a:Nat}
def Vy{e:T}(hd:d.ok 0)(he:e.ok 0):lp N a (d.or e)<=lp N a d+lp N a e:=by
 unfold lp;rw[<-aaP];exact aaQ _ (Ou hd he)
def MB(hd:d.ok 0)(aa:d≠ff)(ha:a<=N):1<=lp N a d:=by
 have h1:=T.card_pos hd aa;unfold lp;exact ZS ab (Nat.mul_le_mul h1 (show 1<=N+1-a by omega))
def Qu(ha:a<=N):lp N (a+1) d+d.card=lp N a d:=by
 unfold lp;rw[show N+1-a=(N+1-(a+1))+1 by omega,Nat.mul_add,Nat.mul_one]
def O6{b:Nat}(d:T)(h:a<=b):lp N b d<=lp N a d:=Nat.mul_le_mul_left _ ab
def P7{f:ar}(hf:∀s∈f,s.2.ok 0)(hd:d.ok 0):fe N (ins f a d)<=fe N f+lp N a d:=by
 induction f with
 |nil=>simp[ins,fe]
 |cons s f ih=>
  obtain⟨b,e⟩:=s;have:=ih fun t ht=>hf t (.tail _ ht);simp only[ins];split
  ·rw[fO,fO];omega
  ·split
   ·rename_i h2;have:=Vy (N:=N) (a:=b) (hf _ (.head _)) hd;simp only[fO]at *;subst h2;omega
   ·simp only[fO];omega
def jF{f:ar}(hf:∀s∈f,s.2.ok 0)(hd:d.ok 0):fe N (join f a d)<=fe N f+lp N a d:=by
 unfold join;split
 ·omega
 ·exact P7 hf hd
def cq.all{f:ar}(h:cq f):∀s∈f,s.2.ok 0:=fun s hs=>(h.1 s hs).1
def eC{g:ar}(hg:∀s∈g,s.2.ok 0):∀{f:ar},cq f->fe N (joinAll f g)<=fe N f+fe N g:=by
 induction g with
 |nil=>intro f _;simp[joinAll,fe]
 |cons s g ih=>
  intro f hf;have h1:=jF (N:=N) hf.all (a:=s.1) (hg s (.head _));have h2:=ih (fun t ht=>hg t (.tail _ ht)) (f:=join f s.1 s.2) (eu hf (hg s (.head _)));unfold joinAll at *;simp only[fu,fO];omega
def wV{N:Nat}:∀{l:List Tok} {a:ar} {i:Nat} {d:T},bT l->cq a->d.ok 0->fe N (spread a l i d)<=fe N a+lp N i d
 | [],a,i,d,hl,ha,hd=>jF ha.all hd
 |t::l,a,i,d,hl,ha,hd=>by
  simp only[spread];split
  ·omega
  ·have ht:=hl t (.head _);have h1:=jF (N:=N) ha.all (a:=i) (T.and_ok hd ht);have h2:=wV (N:=N) (l:=l) (a:=join a i (d.and t.cond)) (i:=i+1) (d:=d.and t.cond.not) (fun x hx=>hl x (.tail _ hx)) (eu ha (T.and_ok hd ht)) (T.and_ok hd (T.not_ok ht));have h3:=O6 (N:=N) (a:=i) (b:=i+1) (d.and t.cond.not) ab;have h4:lp N i (d.and t.cond)+lp N i (d.and t.cond.not)=lp N i d:=by
    unfold lp;rw[<-aaP,MJ hd ht]
   omega
def yN{ts:List Tok}(hts:bT ts){f:ar}(hf:∀s∈f,s.2.ok 0):fe N (eK ts f)<=fe N f:=by
 have key:∀(f:ar) (a:ar),(∀s∈f,s.2.ok 0)->cq a->fe N (f.foldl (fun at' s=>spread at' (ts.drop s.1) s.1 s.2) a)<=fe N a+fe N f:=by
  intro f
  induction f with
  |nil=>intro a _ _;simp[fe]
  |cons s f ih=>
   intro a h1 h2;have h3:=wV (N:=N) (hts.drop s.1) h2 (i:=s.1) (h1 s (.head _));have h4:=ih (spread a (ts.drop s.1) s.1 s.2) (fun t ht=>h1 t (.tail _ ht)) (zD (hts.drop _) h2 (h1 s (.head _)));simp only[fu,fO];omega
 have:=key f [] hf cq.nil;rw[dO,ZZ]at this;exact this
def DA(N:Nat)(ts:List Tok):∀(f:ar),eT N (f.map (cQ ts))=fe N f
 | []=>rfl
 |s::f=>by
  have h:=DA N ts f;have e:hp N (cQ ts s)=lp N s.1 s.2:=by unfold hp;rw[jX,jw]
  rw[aaU,bo,fO,h,e]
def pm(N:Nat){h:aB}:∀{hs:List aB},h∈hs->hp N h<=eT N hs
 | [],hm=>(aaB hm).elim
 |x::hs,hm=>by
  rw[bo];rcases List.mem_cons.1 hm with e|e
  ·subst e;omega
  ·have:=pm N e;omega
section
variable {ts:List Tok} {f:ar}
def hQ(hts:bT ts)(fn:FN ts.length f){N:Nat}:eT N (heads ts f)<=fe N f:=by
 rw[lS hts fn.ok,DA];exact yN hts fn.ok.all
def kS.pos{h:aB}(k:kS ts h):1<=hp ts.length h:=MB k.ok k.ne k.le
def kS.next{h:aB}(k:kS ts h):lp ts.length (h.at'+1) h.cond+1<=hp ts.length h:=by
 have h1:=Qu (d:=h.cond) k.le;have h2:=T.card_pos k.ok k.ne;unfold hp;omega
def vT(fn:FN ts.length f)(h:f≠[]):1<=fe ts.length f:=by
 cases f with
 |nil=>exact absurd rfl h
 |cons s f=>
  have:=MB (fn.ok.1 s (.head _)).1 (fn.ok.1 s (.head _)).2 (fn.le s (.head _));rw[fO];omega
def bz(h:aB)(N:Nat):fe N (bv h)=lp N (h.at'+1) h.cond:=by simp[bv,fe]
def fR(h:aB)(N:Nat):fe N (bX h)=hp N h:=by simp[bX,fe,hp]
variable{hs:List aB}
def qL{N:Nat}(hh:∀h∈hs,h.cond.ok 0):∀{f:ar},cq f->fe N (hs.foldl joinH f)<=fe N f+eT N hs:=by
 induction hs with
 |nil=>intro f _;simp[eT]
 |cons h hs ih=>
  intro f hf;have h0:=hh h (.head _);have h1:=jF (N:=N) hf.all (a:=h.at') h0;have h2:=ih (fun t ht=>hh t (.tail _ ht)) (f:=joinH f h) (eu hf h0);simp only[fu,bo,hp];unfold joinH at *;omega
def xu(hh:∀h∈hs,kS ts h):∀{f:ar},cq f->fe ts.length (hs.foldl joinH1 f)+hs.length<=fe ts.length f+eT ts.length hs:=by
 induction hs with
 |nil=>intro f _;simp[eT]
 |cons h hs ih=>
  intro f hf;have h0:=hh h (.head _);have h1:=jF (N:=ts.length) hf.all (a:=h.at'+1) h0.ok;have h2:=ih (fun t ht=>hh t (.tail _ ht)) (f:=joinH1 f h) (eu hf h0.ok);have h3:=h0.next;simp only[fu,bo,aaj];unfold joinH1 at *;omega
def Cz(N:Nat)(is:aB->Bool)(hs:List aB):eT N (hs.filter is)+eT N (hs.filter fun h=>!is h)=eT N hs:=by
 induction hs with
 |nil=>rfl
 |cons h hs ih=>
  cases e:is h<;>simp only[aby,e,abQ,abK,reduceIte,bo,aa5]<;>omega
def iM(hts:bT ts)(fn:FN ts.length f)(is:aB->Bool):eT ts.length (aM ts f is).1+fe ts.length (aM ts f is).2<=fe ts.length f:=by
 rw[oB];have h1:=Cz ts.length is (heads ts f);have h2:=qL (N:=ts.length) (hs:=(heads ts f).filter fun h=>!is h) (fun h hh=>(b9 hts fn (List.mem_filter.1 hh).1).ok) cq.nil;have h3:=hQ hts fn (N:=ts.length);rw[dO]at h2;show eT ts.length ((heads ts f).filter is)+fe ts.length (((heads ts f).filter fun h=>!is h).foldl joinH [])<=_;omega
def wU(hh:∀h∈hs,kS ts h):hs.length<=eT ts.length hs:=by
 induction hs with
 |nil=>exact ZR _
 |cons h hs ih=>
  have h1:=(hh h (.head _)).pos;have h2:=ih fun t ht=>hh t (.tail _ ht);rw[bo,aaj];omega
theorem nh(h:aB)(k:Nat):(cJ h k).length=2:=rfl
def i7(hts:bT ts)(fn:FN ts.length f)(s:bq):(take ts f s).2.length+3*fe ts.length (take ts f s).1<=3*fe ts.length f:=by
 have key:∀(hs:List aB) (z:ar×List cO),(∀h∈hs,kS ts h)->cq z.1->(hs.foldl (gH s) z).2.length+3*fe ts.length (hs.foldl (gH s) z).1<=z.2.length+3*fe ts.length z.1+3*eT ts.length hs:=by
  intro hs
  induction hs with
  |nil=>intro z _ _;simp[eT]
  |cons h hs ih=>
   intro z hh hz;have h0:=hh h (.head _);simp only[fu,bo];have hk:=h0.next;have aa:=h0.pos;by_cases e:h.text=s
   ·have e2:gH s z h=(join z.1 (h.at'+1) h.cond,z.2):=by simp[gH,e]
    have h1:=jF (N:=ts.length) hz.all (a:=h.at'+1) h0.ok;have:=ih (gH s z h) (fun t ht=>hh t (.tail _ ht)) (by rw[e2];exact eu hz h0.ok);rw[e2]at this |-;simp only at this;omega
   ·have e2:gH s z h=(z.1,z.2++cJ h 10):=by simp[gH,e]
    have:=ih (gH s z h) (fun t ht=>hh t (.tail _ ht)) (by rw[e2];exact hz);rw[e2]at this |-;simp only[aa9,nh]at this;omega
 have:=key (heads ts f) ([],[]) (fun h hh=>b9 hts fn hh) cq.nil;rw[tX];have h3:=hQ hts fn (N:=ts.length);simp only[dO,aaO]at this;omega
def Sp(N w:Nat)(r:bW):Prop:=r.e.length+r.l.length+3*fe N r.f<=w
def nz(hts:bT ts)(fn:FN ts.length f)(kind slot:Nat):(Sp ts.length (3*fe ts.length f) (named ts f kind slot)/\(f≠[]->Sp ts.length (3*fe ts.length f-1) (named ts f kind slot)))/\∀n∈(named ts f kind slot).l,n.kids=[]:=by
 have key:∀(hs:List aB) (z:bW),(∀h∈hs,kS ts h)->cq z.f->(∀n∈z.l,n.kids=[])->Sp ts.length (3*eT ts.length hs+3*fe ts.length z.f+z.l.length+2*z.e.length-hs.length) ⟨(hs.foldl (cE kind slot) z).l,(hs.foldl (cE kind slot) z).f,(hs.foldl (cE kind slot) z).e++z.e⟩/\∀n∈(hs.foldl (cE kind slot) z).l,n.kids=[]:=by
  intro hs
  induction hs with
  |nil=>intro z _ _ h;refine⟨?_,h⟩;unfold Sp;simp[eT];omega
  |cons h hs ih=>
   intro z hh hz hn;have h0:=hh h (.head _);simp only[fu,bo,aaj];have aa:=wU (ts:=ts) (hs:=hs) fun t ht=>hh t (.tail _ ht);have hk:=h0.next;have aj:=h0.pos;by_cases e:h.kind≠1\/dG h.text=true
   ·have e2:cE kind slot z h={ z with e:=z.e++cJ h 10 }:=by unfold cE;rw[aaq e]
    have:=ih (cE kind slot z h) (fun t ht=>hh t (.tail _ ht)) (by rw[e2];exact hz) (by rw[e2];exact hn);rw[e2]at this |-;refine⟨?_,this.2⟩;have h1:=this.1;unfold Sp at h1 |-;simp only[aa9,nh]at h1 |-;omega
   ·have e2:cE kind slot z h=⟨z.l++[⟨kind,h.text,h.at',slot,[],h.cond⟩],join z.f (h.at'+1) h.cond,z.e⟩:=by unfold cE;rw[ZV e]
    have hj:=jF (N:=ts.length) hz.all (a:=h.at'+1) h0.ok;have:=ih (cE kind slot z h) (fun t ht=>hh t (.tail _ ht)) (by rw[e2];exact eu hz h0.ok) (by
     rw[e2];intro n hm;rcases List.mem_append.1 hm with hm|hm
     ·exact hn n hm
     ·simp at hm;subst hm;rfl)
    rw[e2]at this |-;refine⟨?_,this.2⟩;have h1:=this.1;unfold Sp at h1 |-;simp only[aa9,aaj,aaO]at h1 |-;omega
 have:=key (heads ts f) ⟨[],[],[]⟩ (fun h hh=>b9 hts fn hh) cq.nil (fun n h=>(aaB h).elim);rw[lR];have h3:=hQ hts fn (N:=ts.length);have aa:=wU (ts:=ts) (hs:=heads ts f) fun h hh=>b9 hts fn hh;have h1:=this.1;unfold Sp at h1 |-;simp only[dO,aaO,aa6]at h1;refine⟨⟨ab,fun ac=>?_⟩,this.2⟩;have ag:=vT fn ac;cases hH:heads ts f with
 |nil=>rw[hH]at h1;simp only[o8,aaO,List.foldl_nil,dO]at h1 |-;omega
 |cons h hs=>rw[hH]at h1 h3 aa;simp only[aaj]at h1 aa;omega
def uz(hts:bT ts)(fn:FN ts.length f)(slot:Nat):Sp ts.length (3*fe ts.length f) (sW ts f slot)/\∀n∈(sW ts f slot).l,n.kids=[]:=by
 have key:∀(hs:List aB) (z:bW),(∀h∈hs,kS ts h)->cq z.f->(∀n∈z.l,n.kids=[])->Sp ts.length (3*eT ts.length hs+3*fe ts.length z.f+z.l.length+2*z.e.length) ⟨(hs.foldl (cD slot) z).l,(hs.foldl (cD slot) z).f,(hs.foldl (cD slot) z).e++z.e⟩/\∀n∈(hs.foldl (cD slot) z).l,n.kids=[]:=by
  intro hs
  induction hs with
  |nil=>intro z _ _ h;refine⟨?_,h⟩;unfold Sp;simp[eT];omega
  |cons h hs ih=>
   intro z hh hz hn;have h0:=hh h (.head _);simp only[fu,bo];have hk:=h0.next;have aa:=h0.pos;by_cases e:h.text≠vM/\h.text≠oO
   ·have e2:cD slot z h={ z with e:=z.e++cJ h 10 }:=by unfold cD;rw[aaq e]
    have:=ih (cD slot z h) (fun t ht=>hh t (.tail _ ht)) (by rw[e2];exact hz) (by rw[e2];exact hn);rw[e2]at this |-;refine⟨?_,this.2⟩;have h1:=this.1;unfold Sp at h1 |-;simp only[aa9,nh]at h1 |-;omega
   ·have e2:cD slot z h=⟨z.l++[⟨5,h.text,h.at',slot,[],h.cond⟩],join z.f (h.at'+1) h.cond,z.e⟩:=by unfold cD;rw[ZV e]
    have hj:=jF (N:=ts.length) hz.all (a:=h.at'+1) h0.ok;have:=ih (cD slot z h) (fun t ht=>hh t (.tail _ ht)) (by rw[e2];exact eu hz h0.ok) (by
     rw[e2];intro n hm;rcases List.mem_append.1 hm with hm|hm
     ·exact hn n hm
     ·simp at hm;subst hm;rfl)
    rw[e2]at this |-;refine⟨?_,this.2⟩;have h1:=this.1;unfold Sp at h1 |-;simp only[aa9,aaj,aaO]at h1 |-;omega
 have:=key (heads ts f) ⟨[],[],[]⟩ (fun h hh=>b9 hts fn hh) cq.nil (fun n h=>(aaB h).elim);rw[oj];have h3:=hQ hts fn (N:=ts.length);refine⟨?_,this.2⟩;have h1:=this.1;unfold Sp at h1 |-;simp only[dO,aaO,aa6]at h1;omega
variable{l:List Nd}
def dW{ks:List Nd}{K:Nat}(h:∀n∈l,n.kids.length<=K)(hk:K+ks.length<=aN):jb l ks=some (give l ks)/\(give l ks).length=l.length/\∀n∈give l ks,n.kids.length<=K+ks.length:=by
 refine⟨?_,by simp[give],?_⟩
 ·unfold jb;rw[aaq];rw[aap];intro n hn;have:=h n hn;simp only[aaC];omega
 ·intro n hn;obtain⟨m,hm,rfl⟩:=List.mem_map.1 hn;have:=h m hm;simp only[aa9];omega
def tS(h:l.length<=aN):ck l=some ():=aaq h
def z7(l:List Nd)(d:T):(fX l d).length<=l.length:=List.length_filterMap_le ..
def wH(l:List Nd)(d:T):(dH l d).length<=l.length:=List.length_filterMap_le ..
def m7(l:List Nd)(d:T):(kJ l d).length=l.length:=by cases l<;>rfl
end
open Dg
def KB(K:Nat)(l:List Nd):Prop:=∀n∈l,n.kids.length<=K
def rL(ts:List Tok)(hs:List aB):Prop:=∀h∈hs,kS ts h/\h.at'<ts.length
section
variable (ts:List Tok)
def cU:Call->Nat
 | .line _ _ f _=>3*fe ts.length f
 | .lineL _ _ _ _ l g out=>l.length+3*(fe ts.length g+fe ts.length out)
 | .lineO _ _ _ ops l g=>l.length+3*(fe ts.length g+eT ts.length ops)
 | .unary _ f _=>3*fe ts.length f
 | .unaryH _ h _=>3*hp ts.length h
 | .calls _ _ _ xs names g=>names.length+3*(fe ts.length g+eT ts.length xs)
 | .inside _ f _=>3*fe ts.length f
 | .listed _ _ f=>3*fe ts.length f
 | .listL _ _ l g fin=>l.length+3*(fe ts.length g+fe ts.length fin)
 | .item _ _ f=>3*fe ts.length f
 | .behind _ _ f _ _=>3*fe ts.length f
 | .vrb _ f=>3*fe ts.length f
 | .function _ f=>3*fe ts.length f
 | .block _ f _=>3*fe ts.length f
 | .seqL _ _ f l out=>l.length+3*(fe ts.length f+fe ts.length out)
 | .stmt _ h=>3*hp ts.length h
 | .sCalls _ _ xs l g=>l.length+3*(fe ts.length g+eT ts.length xs)
 | .branch _ h _=>3*hp ts.length h
 | .elses _ xs l out=>l.length+3*(fe ts.length out+eT ts.length xs)
 | .ifs _ ys l out=>l.length+3*(fe ts.length out+eT ts.length ys)
def mu:Call->Nat
 | .line k _ f _=>64*fe ts.length f+(31-2*k)
 | .lineL k _ _ _ _ g _=>64*fe ts.length g+(30-2*k)
 | .lineO _ _ _ ops _ _=>64*eT ts.length ops
 | .unary _ f _=>64*fe ts.length f+19
 | .unaryH _ h _=>64*hp ts.length h+18
 | .calls _ _ _ xs _ _=>64*eT ts.length xs+10
 | .inside _ f _=>64*fe ts.length f+17
 | .listed _ _ f=>64*fe ts.length f+9
 | .listL _ _ _ g _=>64*fe ts.length g+40
 | .item _ _ f=>64*fe ts.length f+39
 | .behind _ _ f _ _=>64*fe ts.length f+38
 | .vrb _ f=>64*fe ts.length f+41
 | .function _ f=>64*fe ts.length f+41
 | .block _ f _=>64*fe ts.length f+9
 | .seqL _ _ f _ _=>64*fe ts.length f+50
 | .stmt _ h=>64*hp ts.length h+45
 | .sCalls _ _ xs _ _=>64*eT ts.length xs+10
 | .branch _ h _=>64*hp ts.length h+42
 | .elses _ xs _ _=>64*eT ts.length xs+43
 | .ifs _ ys _ _=>64*eT ts.length ys+43
def lX:Call->Prop
 | .line k _ f _=>FN ts.length f/\k<=5
 | .lineL k _ _ _ _ g out=>FN ts.length g/\FN ts.length out/\k<=4
 | .lineO k _ _ ops _ g=>rL ts ops/\FN ts.length g/\k<=4
 | .unary _ f _=>FN ts.length f
 | .unaryH _ h _=>kS ts h
 | .calls _ _ _ xs _ g=>rL ts xs/\FN ts.length g
 | .inside _ f _=>FN ts.length f
 | .listed _ _ f=>FN ts.length f
 | .listL _ _ _ g fin=>FN ts.length g/\FN ts.length fin
 | .item _ _ f=>FN ts.length f
 | .behind _ _ f sign _=>FN ts.length f/\sign≠[]
 | .vrb _ f=>FN ts.length f
 | .function _ f=>FN ts.length f
 | .block _ f _=>FN ts.length f
 | .seqL _ _ f _ out=>FN ts.length f/\FN ts.length out
 | .stmt _ h=>kS ts h
 | .sCalls _ _ xs _ g=>rL ts xs/\FN ts.length g
 | .branch _ h _=>kS ts h/\h.at'<ts.length
 | .elses _ xs l out=>rL ts xs/\FN ts.length out/\∀n∈l,n.kids.length+3*eT ts.length xs<=aN
 | .ifs _ ys l out=>rL ts ys/\FN ts.length out/\∀n∈l,n.kids.length+3*eT ts.length ys<=aN
def Bs(b:Nat)(r:bW):Prop:=FN ts.length r.f/\r.e.length+r.l.length+3*fe ts.length r.f<=b
def Wn(f:ar)(r:bW):Prop:=Bs ts (3*fe ts.length f) r/\(f≠[]->r.e.length+r.l.length+3*fe ts.length r.f+1<=3*fe ts.length f)
def Bh(h:aB)(r:bW):Prop:=FN ts.length r.f/\r.e.length+r.l.length+3*fe ts.length r.f+1<=3*hp ts.length h
def lV:Call->bW->Prop
 | .lineO k o slot ops l g,r=>Bs ts (cU ts (.lineO k o slot ops l g)) r/\fe ts.length r.f+ops.length<=fe ts.length g+eT ts.length ops
 | .unary _ f _,r=>Wn ts f r
 | .unaryH _ h _,r=>Bh ts h r
 | .inside _ f _,r=>Wn ts f r
 | .listed _ _ f,r=>Wn ts f r
 | .block _ f _,r=>Wn ts f r
 | .stmt _ h,r=>Bh ts h r
 | .branch _ h _,r=>Bh ts h r
 | .elses o xs l out,r=>Bs ts (cU ts (.elses o xs l out)) r/\∀K,KB K l->KB (K+3*eT ts.length xs) r.l
 | .ifs o xs l out,r=>Bs ts (cU ts (.ifs o xs l out)) r/\∀K,KB K l->KB (K+3*eT ts.length xs) r.l
 |c,r=>Bs ts (cU ts c) r
def lG(rec:sY)(m:Nat):Prop:=∀c,lX ts c->cU ts c<=aN->mu ts c<m->∃r,rec c=some r/\lV ts c r
end
section
variable {ts:List Tok} {rec:sY}
variable{xs:List aB}
def rL.tail{x:aB}(h:rL ts (x::xs)):rL ts xs:=fun y hy=>h y (.tail _ hy)
def rL.head{x:aB}(h:rL ts (x::xs)):kS ts x/\x.at'<ts.length:=h x (.head _)
def rL.all(h:rL ts xs):∀y∈xs,kS ts y:=fun y hy=>(h y hy).1
variable{h:aB}
def kS.lt2(k:kS ts h){s:bq}(hs:s≠[])(e:h.text=s):h.at'<ts.length:=k.lt (.inl (by rw[e];exact hs))
def kG(hts:bT ts){f:ar}(fn:FN ts.length f){s:bq}(hs:s≠[]):rL ts (aM ts f (bD s)).1:=fun h hh=>by
 obtain⟨h1,h2⟩:=fm hts fn h hh;exact⟨h1,qo hs h1 h2⟩
def sL(hts:bT ts){f:ar}(fn:FN ts.length f)(hb:3*fe ts.length f<=aN){g:aB->Option bW}
  (hg:∀h∈heads ts f,∃x,g h=some x/\Bh ts h x):∃r,cT ts f g=some r/\Wn ts f r:=by
 have key:∀(hs:List aB) (z:bW),(∀h∈hs,kS ts h/\∃x,g h=some x/\Bh ts h x)->FN ts.length z.f->z.e.length+z.l.length+3*(fe ts.length z.f+eT ts.length hs)<=aN->
   ∃r,lH (fun r h=>match g h with
    |some x=>if (r.l++x.l).length<=aN then some ⟨r.l++x.l,joinAll r.f x.f,r.e++x.e⟩else none
    |none=>none) z hs=some r/\FN ts.length r.f/\r.e.length+r.l.length+3*fe ts.length r.f+hs.length<=z.e.length+z.l.length+3*(fe ts.length z.f+eT ts.length hs):=by
  intro hs
  induction hs with
  |nil=>intro z _ hz _;exact⟨z,rfl,hz,by simp[eT]⟩
  |cons h hs ih=>
   intro z hh hz hb;obtain⟨h0,x,ex,hx,ag⟩:=hh h (.head _);rw[bo]at hb;have hj:=eC (N:=ts.length) hx.ok.all hz.ok;have hl:(z.l++x.l).length<=aN:=by rw[aa9];omega
   obtain⟨r,er,hr,aa⟩:=ih ⟨z.l++x.l,joinAll z.f x.f,z.e++x.e⟩ (fun t ht=>hh t (.tail _ ht)) (hz.joinAll hx) (by simp only[aa9];omega);refine⟨r,?_,hr,?_⟩
   ·simp only[lH,ex,aaq hl];exact er
   ·simp only[aa9]at aa;rw[bo,aaj];omega
 have h3:=hQ hts fn (N:=ts.length);obtain⟨r,er,hr,aa⟩:=key (heads ts f) ⟨[],[],[]⟩ (fun h hh=>⟨b9 hts fn hh,hg h hh⟩) (FN.nil _) (by simp only[aaO,dO];omega);simp only[aaO,dO]at aa;refine⟨r,er,⟨hr,ab⟩,fun ac=>?_⟩;have aj:=vT fn ac;cases hH:heads ts f with
 |nil=>rw[hH]at aa;simp only[aaO,o8]at aa;omega
 |cons h hs=>rw[hH]at aa h3;simp only[aaj]at aa;omega
def Bh.fail(k:kS ts h)(code:Nat):Bh ts h ⟨[],[],cJ h code⟩:=⟨FN.nil _,by
 have:=k.pos;simp only[nh,aaO,dO];omega⟩
variable{o slot:Nat}
def Kl{m k:Nat}{f:ar}(R:lG ts rec (mu ts (.line k o f slot)))(t:lX ts (.line k o f slot))(b:cU ts (.line k o f slot)<=aN):∃r,line rec k o f slot=some r/\lV ts (.line k o f slot) r:=by
 obtain⟨fn,hk⟩:=t;simp only[cU]at b;by_cases h5:k=5
 ·obtain⟨a,ea,qa⟩:=R (.unary o f slot) fn b (by simp only[mu];omega);exact⟨a,by rw[line,aaq h5,ea],qa.1⟩
 ·obtain⟨a,ea,qa⟩:=R (.line (k+1) o f slot) ⟨fn,ab⟩ b (by simp only[mu];omega);have qa2:=qa.2;simp only[cU]at qa2;obtain⟨c,ec,qc⟩:=R (.lineL k o slot true a.l a.f []) ⟨qa.1,FN.nil _,ab⟩ (by simp only[cU,dO];omega) (by simp only[mu];omega);have qc2:=qc.2;simp only[cU,dO]at qc2;refine⟨⟨c.l,c.f,a.e++c.e⟩,by rw[line,ZV h5,ea];simp only[abI,jO,ec],qc.1,?_⟩;simp only[cU,aa9];omega
variable{g:ar}{l:List Nd}
def Ic(hts:bT ts){k:Nat}{first:Bool}{out:ar}(R:lG ts rec (mu ts (.lineL k o slot first l g out)))(t:lX ts (.lineL k o slot first l g out))(b:cU ts (.lineL k o slot first l g out)<=aN):∃r,lineL ts rec k o slot first l g out=some r/\lV ts (.lineL k o slot first l g out) r:=by
 obtain⟨fg,fo,hk⟩:=t;simp only[cU]at b;by_cases h0:g=[]
 ·refine⟨⟨l,out,[]⟩,by rw[lineL,aaq h0],fo,?_⟩;simp only[cU,aaO];omega
 ·by_cases h2:k=2/\first=false
  ·have hj:=eC (N:=ts.length) fg.ok.all fo.ok;refine⟨⟨l,joinAll out g,[]⟩,by rw[lineL,ZV h0,aaq h2],fo.joinAll fg,?_⟩;simp only[cU,aaO];omega
  ·have hs:=iM hts fg (ti k);have aa:=vT fg h0;have ho:rL ts (aM ts g (ti k)).1:=fun h hh=>by
    obtain⟨h1,h3⟩:=fm hts fg h hh;refine⟨h1,h1.lt (.inr fun e=>?_)⟩;simp[ti,e]at h3
   have hr:=dC hts fg (ti k);have hj:=eC (N:=ts.length) hr.ok.all fo.ok;have ac:=wU ho.all;obtain⟨a,ea,qa,qa3⟩:=R (.lineO k o slot (aM ts g (ti k)).1 l []) ⟨ho,FN.nil _,hk⟩ (by simp only[cU,dO];omega) (by simp only[mu];omega);have qa2:=qa.2;simp only[cU,dO]at qa2 qa3;have ag:fe ts.length a.f<fe ts.length g:=by
    cases hq:(aM ts g (ti k)).1 with
    |nil=>rw[hq,o8]at qa3;omega
    |cons x xs=>rw[hq]at qa3 hs;simp only[aaj]at qa3;omega
   obtain⟨c,ec,qc⟩:=R (.lineL k o slot false a.l a.f (joinAll out (aM ts g (ti k)).2)) ⟨qa.1,fo.joinAll hr,hk⟩ (by simp only[cU];omega) (by simp only[mu];omega);have qc2:=qc.2;simp only[cU]at qc2;refine⟨⟨c.l,c.f,a.e++c.e⟩,by rw[lineL,ZV h0,ZV h2];simp only[abI,jO,ea,ec],qc.1,?_⟩;simp only[cU,aa9];omega
def HO{k:Nat}{ops:List aB}(R:lG ts rec (mu ts (.lineO k o slot ops l g)))(t:lX ts (.lineO k o slot ops l g))(b:cU ts (.lineO k o slot ops l g)<=aN):∃r,lineO rec k o slot ops l g=some r/\lV ts (.lineO k o slot ops l g) r:=by
 obtain⟨ho,fg,hk⟩:=t;simp only[cU]at b;cases ops with
 |nil=>exact⟨⟨l,g,[]⟩,rfl,⟨fg,by simp only[cU,aaO];omega⟩,by simp only[aaO];omega⟩
 |cons h ops=>
  obtain⟨h0,aa⟩:=ho.head;have hn:=h0.next;rw[bo]at b;obtain⟨a,ea,qa⟩:=R (.line (k+1) o (bv h) 1) ⟨bH h0 aa,ab⟩ (by simp only[cU,bz];omega) (by simp only[mu,bz,bo];omega);have qa2:=qa.2;simp only[cU,bz]at qa2;have h1:=z7 l h.cond;have h2:=wH l h.cond;have hj:=eC (N:=ts.length) qa.1.ok.all fg.ok;have c1:=tS (l:=fX l h.cond++a.l) (by rw[aa9];omega);have c2:=tS (l:=dH l h.cond++[⟨13,h.text,h.at',slot,fX l h.cond++a.l,h.cond⟩]) (by rw[aa9,aaJ];omega);obtain⟨c,ec,qc,qc3⟩:=R (.lineO k o slot ops (dH l h.cond++[⟨13,h.text,h.at',slot,fX l h.cond++a.l,h.cond⟩]) (joinAll g a.f)) ⟨ho.tail,fg.joinAll qa.1,hk⟩ (by simp only[cU,aa9,aaJ];omega) (by simp only[mu,bo];omega);have qc2:=qc.2;simp only[cU,aa9,aaJ]at qc2;refine⟨⟨c.l,c.f,a.e++c.e⟩,by simp only[lineO,abI,jO,ea,c1,c2,ec],⟨qc.1,?_⟩,?_⟩
  ·simp only[cU,aa9,bo];omega
  ·simp only[bo,aaj];omega
def HT(hts:bT ts){f:ar}(R:lG ts rec (mu ts (.unary o f slot)))(t:lX ts (.unary o f slot))(b:cU ts (.unary o f slot)<=aN):∃r,cT ts f (fun h=>rec (.unaryH o h slot))=some r/\lV ts (.unary o f slot) r:=by
 have fn:FN ts.length f:=t;simp only[cU]at b;have hh:=hQ hts fn (N:=ts.length);refine sL hts fn b fun h hm=>?_;have aa:=pm ts.length hm;exact R (.unaryH o h slot) (b9 hts fn hm) (by simp only[cU];omega) (by simp only[mu];omega)
def Ez(hts:bT ts)(R:lG ts rec (mu ts (.unaryH o h slot)))(t:lX ts (.unaryH o h slot))(b:cU ts (.unaryH o h slot)<=aN):∃r,unaryH ts rec o h slot=some r/\lV ts (.unaryH o h slot) r:=by
 have h0:kS ts h:=t;have hn:=h0.next;simp only[cU]at b;unfold unaryH;split
 ·rename_i e;have aa:h.at'<ts.length:=e.elim (h0.lt2 bg) (h0.lt2 bg);split
  ·exact⟨_,rfl,Bh.fail h0 11⟩
  ·obtain⟨a,ea,qa⟩:=R (.unary (o+1) (bv h) 0) (bH h0 aa) (by simp only[cU,bz];omega) (by simp only[mu,bz];omega);have qa2:=qa.1.2;simp only[bz]at qa2;refine⟨⟨[⟨14,h.text,h.at',slot,a.l,h.cond⟩],a.f,a.e⟩,by simp only[abI,jO,ea],qa.1.1,?_⟩;simp only[aaJ];omega
 ·split
  ·obtain⟨a,ea,qa⟩:=R (.inside o (bX h) slot) (jk h0) (by simp only[cU,fR];omega) (by simp only[mu,fR];omega);have q2:=qa.2 (by simp[bX]);rw[fR]at q2;exact⟨a,ea,qa.1.1,q2⟩
  ·have leaf:h.at'<ts.length->∀nd,∃r:bW,some (⟨[nd],bv h,[]⟩:bW)=some r/\lV ts (.unaryH o h slot) r:=fun aa nd=>⟨_,rfl,bH h0 aa,by simp only[aaJ,aaO,bz];omega⟩;split
   ·rename_i e;exact leaf (h0.lt (.inr ab)) _
   ·split
    ·rename_i e;exact leaf (e.elim (h0.lt2 bg) (h0.lt2 bg)) _
    ·split
     ·rename_i e;exact leaf (h0.lt2 bg e) _
     ·have fh:=jk h0;obtain⟨⟨_,s1⟩,_⟩:=nz hts fh 18 slot;have s2:=s1 (by simp[bX]);unfold Sp at s2;rw[fR]at s2;have fa:=iy hts fh 18 slot;have ac:=iM hts fa (bD eM);have ag:=h0.pos;obtain⟨c,ec,qc⟩:=R (.calls o h slot (aM ts (named ts (bX h) 18 slot).f (bD eM)).1 (named ts (bX h) 18 slot).l (aM ts (named ts (bX h) 18 slot).f (bD eM)).2) ⟨kG hts fa bg,dC hts fa _⟩ (by simp only[cU];omega) (by simp only[mu];omega);have qc2:=qc.2;simp only[cU]at qc2;refine⟨⟨c.l,c.f,(named ts (bX h) 18 slot).e++c.e⟩,by simp only[abI,jO,ec],qc.1,?_⟩;simp only[aa9];omega
def Ih{names:List Nd}(R:lG ts rec (mu ts (.calls o h slot xs names g)))(t:lX ts (.calls o h slot xs names g))(b:cU ts (.calls o h slot xs names g)<=aN):∃r,calls rec o h slot xs names g=some r/\lV ts (.calls o h slot xs names g) r:=by
 obtain⟨hx,fg⟩:=t;simp only[cU]at b;cases xs with
 |nil=>exact⟨⟨names,g,[]⟩,rfl,fg,by simp only[cU,aaO];omega⟩
 |cons x xs=>
  obtain⟨h0,ac⟩:=hx.head;rw[bo]at b;obtain⟨a,ea,qa⟩:=R (.listed false o (bX x)) (jk h0) (by simp only[cU,fR];omega) (by simp only[mu,fR,bo];omega);have q2:=qa.2 (by simp[bX]);rw[fR]at q2;have hj:=eC (N:=ts.length) qa.1.1.ok.all fg.ok;have aa:=h0.pos;have c1:=tS (l:=kJ names x.cond++[⟨19,h.text,h.at',slot,a.l,x.cond⟩]) (by rw[aa9,aaJ,m7];omega);obtain⟨c,ec,qc⟩:=R (.calls o h slot xs (kJ names x.cond++[⟨19,h.text,h.at',slot,a.l,x.cond⟩]) (joinAll g a.f)) ⟨hx.tail,fg.joinAll qa.1.1⟩ (by simp only[cU,aa9,aaJ,m7];omega) (by simp only[mu,bo];omega);have qc2:=qc.2;simp only[cU,aa9,aaJ,m7]at qc2;refine⟨⟨c.l,c.f,a.e++c.e⟩,by simp only[calls,abI,jO,ea,c1,ec],qc.1,?_⟩;simp only[cU,aa9,bo];omega
def FZ(R:lG ts rec (mu ts (.sCalls o h xs l g)))(t:lX ts (.sCalls o h xs l g))(b:cU ts (.sCalls o h xs l g)<=aN):∃r,sCalls rec o h xs l g=some r/\lV ts (.sCalls o h xs l g) r:=by
 obtain⟨hx,fg⟩:=t;simp only[cU]at b;cases xs with
 |nil=>exact⟨⟨l,g,[]⟩,rfl,fg,by simp only[cU,aaO];omega⟩
 |cons x xs=>
  obtain⟨h0,ac⟩:=hx.head;rw[bo]at b;obtain⟨a,ea,qa⟩:=R (.listed false o (bX x)) (jk h0) (by simp only[cU,fR];omega) (by simp only[mu,fR,bo];omega);have q2:=qa.2 (by simp[bX]);rw[fR]at q2;have hj:=eC (N:=ts.length) qa.1.1.ok.all fg.ok;have aa:=h0.pos;have c1:=tS (l:=l++[⟨19,h.text,h.at',0,a.l,x.cond⟩]) (by rw[aa9,aaJ];omega);obtain⟨c,ec,qc⟩:=R (.sCalls o h xs (kJ (l++[⟨19,h.text,h.at',0,a.l,x.cond⟩]) x.cond) (joinAll g a.f)) ⟨hx.tail,fg.joinAll qa.1.1⟩ (by simp only[cU,aa9,aaJ,m7];omega) (by simp only[mu,bo];omega);have qc2:=qc.2;simp only[cU,aa9,aaJ,m7]at qc2;refine⟨⟨c.l,c.f,a.e++c.e⟩,by simp only[sCalls,abI,jO,ea,c1,ec],qc.1,?_⟩;simp only[cU,aa9,bo];omega
def Fh(hts:bT ts){f:ar}(R:lG ts rec (mu ts (.inside o f slot)))(t:lX ts (.inside o f slot))(b:cU ts (.inside o f slot)<=aN):∃r,cT ts f (ml ts rec o slot)=some r/\lV ts (.inside o f slot) r:=by
 have fn:FN ts.length f:=t;simp only[cU]at b;have hh:=hQ hts fn (N:=ts.length);refine sL hts fn b fun h hm=>?_;have ac:=pm ts.length hm;have h0:=b9 hts fn hm;have hn:=h0.next;unfold ml;split
 ·exact⟨_,rfl,Bh.fail h0 10⟩
 ·rename_i e;split
  ·exact⟨_,rfl,Bh.fail h0 11⟩
  ·have aa:=h0.lt2 (s:=eM) bg (by simpa using e);obtain⟨a,ea,qa⟩:=R (.line 0 (o+1) (bv h) slot) ⟨bH h0 aa,ab⟩ (by simp only[cU,bz];omega) (by simp only[mu,bz];omega);have qa2:=qa.2;simp only[cU,bz]at qa2;have ht:=i7 hts qa.1 fK;refine⟨⟨a.l,(take ts a.f fK).1,a.e++(take ts a.f fK).2⟩,by simp only[abI,jO,ea],dK hts qa.1 bg,?_⟩;simp only[aa9];omega
variable{par:Bool}
def Ff(hts:bT ts){f:ar}(R:lG ts rec (mu ts (.listed par o f)))(t:lX ts (.listed par o f))(b:cU ts (.listed par o f)<=aN):∃r,cT ts f (mw ts rec par o)=some r/\lV ts (.listed par o f) r:=by
 have fn:FN ts.length f:=t;simp only[cU]at b;have hh:=hQ hts fn (N:=ts.length);refine sL hts fn b fun h hm=>?_;have ac:=pm ts.length hm;have h0:=b9 hts fn hm;have hn:=h0.next;unfold mw;split
 ·exact⟨_,rfl,Bh.fail h0 10⟩
 ·rename_i e;split
  ·exact⟨_,rfl,Bh.fail h0 11⟩
  ·have aa:=h0.lt2 (s:=eM) bg (by simpa using e);have fa:=bH h0 aa;have hs:=iM hts fa (bD fK);rw[bz]at hs;have hy:=kG hts fa (s:=fK) bg;have hj:=qL (N:=ts.length) (fun x hx=>(hy.all x hx).ok) cq.nil;rw[dO]at hj;obtain⟨a,ea,qa⟩:=R (.listL par (o+1) [] (aM ts (bv h) (bD fK)).2 ((aM ts (bv h) (bD fK)).1.foldl joinH [])) ⟨dC hts fa _,lJ hy.all (FN.nil _)⟩ (by simp only[cU,aaO];omega) (by simp only[mu];omega);have qa2:=qa.2;simp only[cU,aaO]at qa2;have ht:=i7 hts qa.1 fK;refine⟨⟨a.l,(take ts a.f fK).1,a.e++(take ts a.f fK).2⟩,by simp only[abI,jO,ea],dK hts qa.1 bg,?_⟩;simp only[aa9];omega
def Jm(hts:bT ts){fin:ar}(R:lG ts rec (mu ts (.listL par o l g fin)))(t:lX ts (.listL par o l g fin))(b:cU ts (.listL par o l g fin)<=aN):∃r,listL ts rec par o l g fin=some r/\lV ts (.listL par o l g fin) r:=by
 obtain⟨fg,ff'⟩:=t;simp only[cU]at b;cases g with
 |nil=>exact⟨⟨l,fin,[]⟩,rfl,ff',by simp only[cU,aaO];omega⟩
 |cons s g=>
  have fs:FN ts.length [s]:=⟨fg.ok.head,fun x hx=>by simp at hx;subst hx;exact fg.le _ (.head _)⟩;have fg2:FN ts.length g:=⟨fg.ok.tail,fun x hx=>fg.le x (.tail _ hx)⟩;have aa:=vT fs (by simp);have e1:fe ts.length [s]=lp ts.length s.1 s.2:=by simp[fe]
  rw[fO]at b;obtain⟨a,ea,qa⟩:=R (.item par o [s]) fs (by simp only[cU];omega) (by simp only[mu,fO,dO];omega);have qa2:=qa.2;simp only[cU]at qa2;have hs:=iM hts qa.1 (bD bB);have hy:=kG hts qa.1 (s:=bB) bg;have hj:=xu hy.all fg2.ok;have hr:=dC hts qa.1 (bD bB);have ag:=eC (N:=ts.length) hr.ok.all ff'.ok;have c1:=tS (l:=l++a.l) (by rw[aa9];omega);have ac:fe ts.length ((aM ts a.f (bD bB)).1.foldl joinH1 g)<lp ts.length s.1 s.2+fe ts.length g:=by
   cases hq:(aM ts a.f (bD bB)).1 with
   |nil=>simp only[List.foldl_nil];omega
   |cons x xs=>rw[hq]at hj hs;simp only[aaj]at hj;omega
  obtain⟨c,ec,qc⟩:=R (.listL par o (l++a.l) ((aM ts a.f (bD bB)).1.foldl joinH1 g) (joinAll fin (aM ts a.f (bD bB)).2)) ⟨m8 hy fg2,ff'.joinAll hr⟩ (by simp only[cU,aa9];omega) (by simp only[mu,fO];omega);have qc2:=qc.2;simp only[cU,aa9]at qc2;refine⟨⟨c.l,c.f,a.e++c.e⟩,by simp only[listL,abI,jO,ea,c1,ec],qc.1,?_⟩;simp only[cU,aa9,fO];omega
def KB.zero(h:∀n∈l,n.kids=[]):KB 0 l:=fun n hn=>by rw[h n hn];exact ZR _
def Ll(hts:bT ts){f:ar}(R:lG ts rec (mu ts (.item par o f)))(t:lX ts (.item par o f))(b:cU ts (.item par o f)<=aN):∃r,item ts rec par o f=some r/\lV ts (.item par o f) r:=by
 have fn:FN ts.length f:=t;simp only[cU]at b;cases par with
 |false=>
  obtain⟨a,ea,qa⟩:=R (.line 0 o f 0) ⟨fn,ab⟩ b (by simp only[mu];omega);exact⟨a,by unfold item;simp only[aa5,reduceIte,ea],qa⟩
 |true=>
  obtain⟨⟨s1,_⟩,k1⟩:=nz hts fn 4 0;unfold Sp at s1;have f1:=iy hts fn 4 0;have ht:=i7 hts f1 bA;have f2:=dK hts f1 (s:=bA) bg;obtain⟨s3,_⟩:=uz hts f2 0;unfold Sp at s3;have f3:=sP hts f2 0;obtain⟨g1,g2,_⟩:=dW (KB.zero k1) (ks:=(sW ts (take ts (named ts f 4 0).f bA).1 0).l) ab;refine⟨⟨give (named ts f 4 0).l (sW ts (take ts (named ts f 4 0).f bA).1 0).l,(sW ts (take ts (named ts f 4 0).f bA).1 0).f,(named ts f 4 0).e++(take ts (named ts f 4 0).f bA).2++(sW ts (take ts (named ts f 4 0).f bA).1 0).e⟩,by unfold item;simp only[reduceIte,abI,jO,g1],f3,?_⟩;simp only[cU,aa9,g2];omega
def F0(hts:bT ts){typ:Bool}{f:ar}{sign:bq}(R:lG ts rec (mu ts (.behind typ o f sign slot)))(t:lX ts (.behind typ o f sign slot))(b:cU ts (.behind typ o f sign slot)<=aN):∃r,behind ts rec typ o f sign slot=some r/\lV ts (.behind typ o f sign slot) r:=by
 obtain⟨fn,aa⟩:=t;simp only[cU]at b;have hs:=iM hts fn (bD sign);have hy:=kG hts fn aa;have hr:=dC hts fn (bD sign);have hj:=xu hy.all cq.nil;rw[dO]at hj;have f1:=m8 hy (FN.nil _);have key:∃a,wu ts rec typ o ((aM ts f (bD sign)).1.foldl joinH1 []) slot=some a/\Bs ts (3*fe ts.length ((aM ts f (bD sign)).1.foldl joinH1 [])) a:=by
  cases typ with
  |true=>exact⟨_,rfl,sP hts f1 slot,(uz hts f1 slot).1⟩
  |false=>exact R (.line 0 o ((aM ts f (bD sign)).1.foldl joinH1 []) slot) ⟨f1,ab⟩ (by simp only[cU];omega) (by simp only[mu];omega)
 obtain⟨a,ea,qa1,qa2⟩:=key;have ac:=eC (N:=ts.length) qa1.ok.all hr.ok;refine⟨⟨a.l,joinAll (aM ts f (bD sign)).2 a.f,a.e⟩,by unfold behind;simp only[abI,jO,ea],hr.joinAll qa1,?_⟩;simp only[cU];omega
def Be(hts:bT ts){f:ar}(R:lG ts rec (mu ts (.vrb o f)))(t:lX ts (.vrb o f))(b:cU ts (.vrb o f)<=aN):∃r,jQ ts rec o f=some r/\lV ts (.vrb o f) r:=by
 have fn:FN ts.length f:=t;simp only[cU]at b;obtain⟨⟨s1,_⟩,k1⟩:=nz hts fn 2 0;unfold Sp at s1;have f1:=iy hts fn 2 0;have ht:=i7 hts f1 bA;have f2:=dK hts f1 (s:=bA) bg;obtain⟨s3,_⟩:=uz hts f2 0;unfold Sp at s3;have f3:=sP hts f2 0;obtain⟨c,ec,qc⟩:=R (.behind false o (sW ts (take ts (named ts f 2 0).f bA).1 0).f su 1) ⟨f3,by decide⟩ (by simp only[cU];omega) (by simp only[mu];omega);have qc2:=qc.2;simp only[cU]at qc2;obtain⟨g1,g2,g3⟩:=dW (KB.zero k1) (ks:=(sW ts (take ts (named ts f 2 0).f bA).1 0).l) ab;obtain⟨g4,g5,_⟩:=dW g3 (ks:=c.l) ab;have aa:=i7 hts qc.1 a8;refine⟨⟨give (give (named ts f 2 0).l (sW ts (take ts (named ts f 2 0).f bA).1 0).l) c.l,(take ts c.f a8).1,(named ts f 2 0).e++(take ts (named ts f 2 0).f bA).2++(sW ts (take ts (named ts f 2 0).f bA).1 0).e++c.e++(take ts c.f a8).2⟩,by unfold jQ;simp only[abI,jO,ec,g1,g4],dK hts qc.1 bg,?_⟩;simp only[cU,aa9,g2,g5];omega
def AX(hts:bT ts){f:ar}(R:lG ts rec (mu ts (.function o f)))(t:lX ts (.function o f))(b:cU ts (.function o f)<=aN):∃r,function ts rec o f=some r/\lV ts (.function o f) r:=by
 have fn:FN ts.length f:=t;simp only[cU]at b;obtain⟨⟨s1,_⟩,k1⟩:=nz hts fn 3 0;unfold Sp at s1;have f1:=iy hts fn 3 0;obtain⟨c,ec,qc⟩:=R (.listed true o (named ts f 3 0).f) f1 (by simp only[cU];omega) (by simp only[mu];omega);have qc2:=qc.1.2;obtain⟨d,ed,qd⟩:=R (.behind true o c.f bA 1) ⟨qc.1.1,by decide⟩ (by simp only[cU];omega) (by simp only[mu];omega);have qd2:=qd.2;simp only[cU]at qd2;obtain⟨x,ex,qx⟩:=R (.block o d.f 2) qd.1 (by simp only[cU];omega) (by simp only[mu];omega);have qx2:=qx.1.2;obtain⟨g1,g2,g3⟩:=dW (KB.zero k1) (ks:=c.l) ab;obtain⟨g4,g5,g6⟩:=dW g3 (ks:=d.l) ab;obtain⟨g7,g8,_⟩:=dW g6 (ks:=x.l) ab;refine⟨⟨give (give (give (named ts f 3 0).l c.l) d.l) x.l,x.f,(named ts f 3 0).e++c.e++d.e++x.e⟩,by unfold function;simp only[abI,jO,ec,ed,ex,g1,g4,g7],qx.1.1,?_⟩;simp only[cU,aa9,g2,g5,g8];omega
def Iu(hts:bT ts){f:ar}(R:lG ts rec (mu ts (.block o f slot)))(t:lX ts (.block o f slot))(b:cU ts (.block o f slot)<=aN):∃r,cT ts f (oZ ts rec o slot)=some r/\lV ts (.block o f slot) r:=by
 have fn:FN ts.length f:=t;simp only[cU]at b;have hh:=hQ hts fn (N:=ts.length);refine sL hts fn b fun h hm=>?_;have ac:=pm ts.length hm;have h0:=b9 hts fn hm;have hn:=h0.next;unfold oZ;split
 ·exact⟨_,rfl,Bh.fail h0 10⟩
 ·rename_i e;split
  ·exact⟨_,rfl,Bh.fail h0 11⟩
  ·have aa:=h0.lt2 (s:=Im) bg (by simpa using e);obtain⟨a,ea,qa⟩:=R (.seqL false (o+1) (bv h) [] []) ⟨bH h0 aa,FN.nil _⟩ (by simp only[cU,aaO,bz,dO];omega) (by simp only[mu,bz];omega);have qa2:=qa.2;simp only[cU,aaO,bz,dO]at qa2;have ht:=i7 hts qa.1 qD;refine⟨⟨[⟨6,[],h.at',slot,a.l,h.cond⟩],(take ts a.f qD).1,a.e++(take ts a.f qD).2⟩,by simp only[abI,jO,ea],dK hts qa.1 bg,?_⟩;simp only[aa9,aaJ];omega
end
end Syn
