import Derived.Test.YtfaclfkpnmcmlaaGreatDoorE10
import Derived.Test.YtfaclfkpnmcmlaaGreatDoorE11
set_option maxHeartbeats 8000000
set_option linter.all false
namespace Go.Proofs.YtfaclfkpnmcmlaaGreatDoor
open Go Go.Sx Dg Syn
def Bj:aO Tryz.prog 270:=⟨_,Tryz.func270,rfl,rfl⟩
def UO(g:aB->Option Syn.bW)(r:Syn.bW)(h:aB):Option Syn.bW:=match g h with
 |some x=>if (r.l++x.l).length<=aN then some ⟨r.l++x.l,Syn.joinAll r.f x.f,r.e++x.e⟩else none
 |none=>none
theorem vX(ts:List Tok)(f:ar)(g:aB->Option Syn.bW):cT ts f g=lH (UO g) ⟨[],[],[]⟩ (heads ts f):=rfl
def pC{g:aB->Option Syn.bW}{r r':Syn.bW}{h:aB}(e:UO g r h=some r'):∃x,g h=some x/\(r.l++x.l).length<=aN/\r'=⟨r.l++x.l,Syn.joinAll r.f x.f,r.e++x.e⟩:=by
 unfold UO at e;split at e
 ·rename_i x hx;split at e
  ·rename_i hl;cases e
   exact⟨x,hx,hl,rfl⟩
  ·cases e
 ·cases e
def yg{α β:Type}{g:α->β->Option α}{z r:α}{x:β}{l:List β}(e:lH g z (x::l)=some r):∃z',g z x=some z'/\lH g z' l=some r:=by
 unfold lH at e;split at e
 ·rename_i b hb;exact⟨b,hb,e⟩
 ·cases e
def oF{α β:Type}{g:α->β->Option α}{z r:α}{l:List β}{i:Nat}{x:β}(hx:l[i]?=some x)(e:lH g z (l.drop i)=some r):∃z',g z x=some z'/\lH g z' (l.drop (i+1))=some r:=by
 have aa:i<l.length:=by
  rcases aaf i l.length with h|h
  ·exact h
  ·rw[aan h]at hx;cases hx
 have hd:l.drop i=x::l.drop (i+1):=by
  rw[aaK aa];rw[aak aa]at hx;rw[aaZ hx]
 rw[hd]at e;exact yg e
def xq{g:aB->Option Syn.bW}:∀{l:List aB} {z r:Syn.bW},lH (UO g) z l=some r->z.e.length<=r.e.length
 | [],z,r,e=>by cases e;exact ZR _
 |x::l,z,r,e=>by
  obtain⟨z',h1,h2⟩:=yg e;obtain⟨y,_,_,rfl⟩:=pC h1;have:=xq h2;simp only[aa9]at this;omega
def kE(o:Nat)(h:o<=64):IntKind.i64.wrap (((o+1:Nat):Int)-1)=(o:Int):=by
 have:=cH (a:=o+1) (b:=1) ab ab;rw[show ((1:Nat):Int)=1 from rfl]at this;rw[this];omega
section
variable {pb:Nat} {ts:List Tok} {lv fv ov:Value}
def WC(pb:Nat)(ts:List Tok)(lv fv ov:Value)(o:Nat)(hs:List aB)(g:aB->Option Syn.bW)(r:Syn.bW)(e:List cO)(I0:PH)(x:Nat×Value×Value×Value)(H:PH):Prop:=
 ∃I D A B ri,H=U [I,sg pb (cg lv fv ov x.2.2.2 o),D,A,B]/\Dj [I,sg pb (cg lv fv ov x.2.2.2 o),D,A,B]/\I0.le I/\x.1<=hs.length/\lH (UO g) ri (hs.drop x.1)=some r/\eF I D x.2.2.2 (e++ri.e)/\bQ I A x.2.1 ri.l/\jy I B x.2.2.1 ri.f/\FN ts.length ri.f/\ri.l.length<=aN
def UA(pb slot:Nat)(vh:Value)(n:Nat)(x:Nat×Value×Value×Value):St:=⟨dn 63 [(0,.v (pt pb)),(2,.v (iv slot)),(8,.v x.2.1),(9,.v x.2.2.1),(16,.v vh),(17,.v (iv n)),(18,.v (iv x.1))],[]⟩
theorem J6{n:Nat}(ih:kP pb ts lv fv ov n){o:Nat}{f:ar}{slot:Nat}{r:Syn.bW}(hr:Syn.run ts n (.inside o f slot)=some r):vQ pb ts lv fv ov (.inside o f slot) r:=by
 obtain⟨m,rfl,hs⟩:=bR hr;have c1:cT ts f (ml ts (Syn.run ts m) o slot)=some r:=hs;rw[vX]at c1;clear hs hr;intro ho I D dv vf e h hf fn he hm hd;have hl:=h.len;refine ah 63 Tryz.func270 fun w0=>?_
 try simp only[iv,pt]
 refine aT ?_;refine DY hd [0,1] rfl kU rfl (ps:=[sg pb _]) (F:=[D]) rfl (kW h hf fn) fun v I2 qs c3 aS hq=>?_;obtain⟨rfl,hH⟩:=hq;obtain⟨ha,hc,rfl,_⟩:=id hH;simp only[aaz,aaA]at c3 |-;refine dP ?_;have hN:∀x∈heads ts f,kS ts x:=fun x hx=>b9 h.ok fn hx;have ec:=fM h.ok fn;have dy:=hH;generalize heads ts f=am at *;refine aR c3 fun dj=>?_;refine aR dj fun dd=>?_;refine bf dd [2,3,0,1] fun dc=>?_;refine aA (fun x=>am.length-x.1) (UA pb slot (.slice ha am.length hc) am.length) (WC pb ts lv fv ov o am (ml ts (Syn.run ts m) o slot) r e I2) (0,.slice none 0 0,.slice none 0 0,dv) gP (by simp only[go_sem,aa6,UA]) ?_ ?_
 ·exact⟨I2,D,PH.no,PH.no,⟨[],[],[]⟩,rfl,dc,abW _,aaL _,c1,by simpa using eF.le he aS,Ow.nil _ _ _ _,Ow.nil _ _ _ _,FN.nil _,aaL _⟩
 rintro⟨i,va,vb,dv⟩ H ⟨I3,D3,A3,B3,ri,rfl,bc,ag,c9,b2,hE,hA,hB,bx,b3⟩ an;simp only at c9 b2 hE hA hB;simp only[UA];have dx:qO I3 (.slice ha am.length hc) am:=dy.le ag;rcases aaf i am.length with b1|ed
 ·have bF:decide ((i:Int)<(am.length:Int))=true:=by simp;omega
  have e1:=wrap64 (n:=i+1) ab;have b4:IntKind.i64.wrap ((i:Int)+1)=((i+1:Nat):Int):=by rw[<-e1];congr 1
  obtain⟨x,hx⟩:∃x,am[i]?=some x:=⟨_,aak b1⟩;have c5:=aaV hx;have b0:=hN x c5;obtain⟨b,off,cs,rfl,dk,bs⟩:=dx.load l7.len hx;obtain⟨xa,xk,rfl,a5⟩:=dk;obtain⟨r',c6,a2⟩:=oF hx b2;have a1:=xq a2;obtain⟨y,hy,b6,rfl⟩:=pC c6;have h3:=h.le (abV aS ag);simp only[aa9]at a1 b6;apply RG;simp only[go_sem,bF,iv,pt];refine⟨ab,?_⟩;refine XN (l:=[iv x.at',sD xa xk x.cond,rD x.cond,.int .u8 x.kind,.string ⟨⟨x.text⟩⟩]) (v:=.agg #[iv x.at',sD xa xk x.cond,rD x.cond,.int .u8 x.kind,.string ⟨⟨x.text⟩⟩]) rfl (cellsU bc (.head _) bs) (.inl ⟨gI,rfl⟩) ?_;unfold ml at hy;by_cases bb:x.text=eM
  ·have c0:(x.text == [40])=true:=by rw[bb];decide
   rw[ZV (by simp[bb])]at hy;apply RG;simp only[go_sem,bF,iv,pt,sD,rD,c0,abQ];by_cases a6:o=64
   ·rw[aaq a6]at hy;cases hy
    subst a6;refine ad bc [0,1,2,3] [sg pb _,D3] [A3,B3] rfl jh rfl (nq h3 b0.le a5 hE (by simp[cJ]at a1 |-;omega)) fun v I4 qs a4 aa hq=>?_;obtain⟨dv2,D4,rs,rfl,cx,rfl,rfl⟩:=hq;simp only[aaz,aaA]at a4 |-;apply RG;simp only[go_sem,iv,pt,sD,rD,b4,abK];exact an (i+1,va,vb,dv2) _ _ dt gP (by simp only[go_sem,aa6,UA]) ⟨I4,D4,A3,B3,_,rfl,a4,abV ag aa,b1,a2,by simp only;rw[<-aaT];exact cx,by simpa using hA.le aa,hB.le aa,bx,by simpa using b3⟩
   ·rw[ZV a6]at hy;obtain⟨a,ds,b7⟩:=bU hy;obtain⟨g,e2,ht⟩:∃g e1,Syn.take ts a.f fK=(g,e1):=⟨_,_,rfl⟩;rw[ht]at b7;simp only at b7;cases b7
    have b8:=b0.lt (.inl (by rw[bb];decide));have d3:=wrap64 (n:=x.at'+1) ab;have e2'':IntKind.i64.wrap ((x.at':Int)+1)=((x.at'+1:Nat):Int):=by rw[<-d3];congr 1
    refine ad bc [0,1,2,3] [sg pb _] [D3,A3,B3] rfl jh rfl (lz (h:=x) (a:=xa) (k:=xk) ab) fun v I4 qs a4 aa hq=>?_;obtain⟨rfl,rfl,rfl⟩:=hq;simp only[aaz,aaA]at a4 |-;apply RG;simp only[go_sem,iv,pt,sD,rD,b4,e2'',abQ];refine ax a4 (by exact jH) rfl rfl rfl rfl rfl bg fun nb I5 da aq c7=>?_;have d0:eR I5 (.slice (some ⟨nb,0,none⟩) 1 1) (bv x):=⟨_,_,rfl,.inr ⟨nb,0,[iv (x.at'+1),sD xa xk x.cond,rD x.cond],rfl,az c7 (by simp[aD,Value.cells]) (by simp[aD,Value.cells,iv,sD,rD]),.one ⟨_,_,rfl,a5.le aq⟩⟩⟩;refine dg ?_;simp only[aaT,aa9]at a1 hm b6;refine ad da [0,1,2,3] [sg pb _,D3] [A3,B3] rfl rU rfl (rT (ih m (aba m) _ _ ds) ab (h3.le aq) d0 (bH b0 b8) (hE.le aq) (by simp only[aa9];omega)) fun v I6 qs c2 ca hq=>?_;obtain⟨dv6,D6,rs,rfl,dI,⟨A6,B6,va6,vb6,rfl,rfl,d2,dT⟩,c4,ee⟩:=hq;simp only[aaz,aaA]at c2 |-;refine dg ?_;refine bf c2 [2,0,1,3,4,5] fun cr=>?_;refine ae cr fun I7 cp al cB=>?_;have dw:eE I7 va6 a.l:=d2.sl al cB;refine bf cp [3,0,1,2,4] fun cm=>?_;have b5:=abV aq (abV ca al);unfold aN at b6 b3;refine bl cm (by exact dQ) (hA.le b5) dw (fun{I J c a} h k=>bm.le h k) (fun{I} c a h=>bm.len c a h) (fun{I} c a h=>bm.ones h) rfl rfl rfl rfl ab (by unfold maxLen;omega) fun na nc I8 A8 cl ak d1=>?_;refine dg ?_;refine bf cl [3,0,1,2,4] fun cj=>?_;refine ae cj fun I9 ci ac cA=>?_;have dA:eR I9 vb6 a.f:=dT.sl (abV al (abV ak ac)) cA;have k9:=abV aS (abV ag (abV b5 (abV ak ac)))
    refine ad ci [1,2,0,3] [sg pb _,D6] [A8,B3] rfl iG rfl (kf (s:=fK) (h.le k9) dA c4 bg (dI.le (abV al (abV ak ac))) (by rw[ht];simp only[aa9];omega)) fun v ef qs bd a3 hq=>?_;obtain⟨dv10,D10,rs,rfl,a9,B10,rfl,ba⟩:=hq;rw[ht]at a9 ba;have tf:=dK h.ok c4 (s:=fK) bg;rw[ht]at tf;simp only at a9 ba tf;simp only[aaz,aaA]at bd |-;refine dg ?_;refine bf bd [2,0,1,3,4] fun cf=>?_;refine ae cf fun eb cd aj cy=>?_;have ct:eR eb v g:=ba.sl aj cy;have k311:=abV b5 (abV ak (abV ac (abV a3 aj)));refine ad cd [3,0,1,2] [B3] [sg pb _,D10,A8] rfl eI rfl (cS (N:=ts.length) ab (hB.le k311) bx ct tf) fun v ea qs a7 ao hq=>?_;obtain⟨B12,rfl,bC⟩:=hq;simp only[aaz,aaA]at a7 |-;refine dg ?_;refine XN (l:=[.int .i64 ((o+1:Nat):Int)]) rfl (cellsU a7 (.tail _ (.tail _ (.head _))) (ay (by simp[cg]) rfl)) (.inr ⟨jq,rfl⟩) ?_;apply RG;simp only[go_sem,iv,pt,sD,rD,kE o ho];refine bf a7 [1,2,3,0] fun cc=>?_;refine bw cc rfl rfl rfl rfl rfl (by exact uZ) (by simp) fun cb=>?_;apply RG;simp only[go_sem,iv,pt,sD,rD,b4];obtain⟨ta,tc,rfl⟩:=bC.shape;exact an (i+1,.slice na (ri.l++a.l).length nc,.slice ta (Syn.joinAll ri.f g).length tc,dv10) _ _ dt gP (by simp only[go_sem,aa6,UA]) ⟨ea,D10,A8,B12,_,rfl,cb,abV ag (abV k311 ao),b1,a2,by simpa[aaT]using a9.le (abV aj ao),bQ.le d1 (abV ac (abV a3 (abV aj ao))),bC,bx.joinAll tf,by simp only[aa9];unfold aN;omega⟩
  ·have c0:(x.text == [40])=false:=by
    rw[abS];exact bb
   rw[aaq bb]at hy;cases hy
   apply RG;simp only[go_sem,bF,iv,pt,sD,rD,c0,abK];refine ad bc [0,1,2,3] [sg pb _,D3] [A3,B3] rfl kX rfl (ow h3 b0.le a5 hE (by simp[cJ]at a1 |-;omega)) fun v I4 qs a4 aa hq=>?_;obtain⟨dv2,D4,rs,rfl,cx,rfl⟩:=hq;simp only[aaz,aaA]at a4 |-;apply RG;simp only[go_sem,iv,pt,sD,rD,b4];exact an (i+1,va,vb,dv2) _ _ dt gP (by simp only[go_sem,aa6,UA]) ⟨I4,D4,A3,B3,_,rfl,a4,abV ag aa,b1,a2,by simp only;rw[<-aaT];exact cx,by simpa using hA.le aa,hB.le aa,bx,by simpa using b3⟩
 ·have c8:i=am.length:=by omega
  subst c8;have bF:=Z6 am.length;rw[abH]at b2;cases b2
  apply RG;simp only[go_sem,bF,iv,pt];exact af rfl bc (r:=[va,vb]) rfl (abV aS ag) ⟨_,D3,[A3,B3],rfl,hE,⟨A3,B3,va,vb,rfl,rfl,hA,hB⟩,bx,b3⟩
end
open Go Go.Sx Dg Syn
def BR:aO Tryz.prog 135:=⟨_,Tryz.func135,rfl,rfl⟩
section
variable {pb:Nat} {ts:List Tok} {lv fv ov:Value}
def LQ(pb:Nat)(ts:List Tok)(lv fv ov:Value)(n:Nat)(top:Bool)(o:Nat)(I0:PH)(vr:Value):Prop:=
 ∃fid first cap,vr=.func (.func fid) first cap/\aO Tryz.prog fid/\∀m,m<n->∀(x:aB) a,zy (Syn.run ts m) top o x=some a->
  ∀{I D:PH} {dv:Value} {xa:Option Addr} {xk:Nat} {e:List cO},I0.le I->zr I ts lv fv->kS ts x->cX I (.agg #[sD xa xk x.cond,rD x.cond]) x.cond->eF I D dv e->e.length+a.e.length<=ux->
   aK Tryz.prog fid (first++[yL xa xk x].toArray++cap) I [sg pb (cg lv fv ov dv o),D] (PP pb lv fv ov o (e++a.e) (Uq ts a))
def XJ(pb:Nat)(ts:List Tok)(lv fv ov:Value)(o:Nat)(I:PH)(v:Value)(is:aB->Bool):Prop:=∃f first cap,v=.func (.func f) first cap/\aO Tryz.prog f/\∀J,I.le J->zr J ts lv fv->∀(dv:Value) (h:aB) (a:Option Addr) (k:Nat),cX J (.agg #[sD a k h.cond,rD h.cond]) h.cond->
 aK Tryz.prog f (first++[yL a k h].toArray++cap) J [sg pb (cg lv fv ov dv o)] fun v I2 qs=>qs=[sg pb (cg lv fv ov dv o)]/\v=.bool (is h)
variable{o:Nat}
def JE.toP{I:PH}{v:Value}{is:aB->Bool}(h:JE I v is):XJ pb ts lv fv ov o I v is:=by
 obtain⟨f,first,cap,rfl,g,c⟩:=h;refine⟨f,first,cap,rfl,g,fun J hJ _ dv x a k hr hd=>?_⟩;refine((c J hJ x a k hr).frame (F:=[sg pb (cg lv fv ov dv o)]) hd).mono fun v H2 ⟨I2,qs,e1,e2,e3,e4,e5⟩=>?_;subst e4;exact⟨I2,_,e1,e2,e3,rfl,e5⟩
structure YH where
 m:Nat
 fl:Nat
 vf:Value
 vl:Value
 vo:Value
 dv:Value
def UI(pb:Nat)(vi vr:Value)(x:YH):St:=⟨dn 62 [(0,.v (pt pb)),(1,.v x.vf),(2,.v vi),(3,.v vr),(10,.v x.vl),(11,.v x.vo)],[]⟩
def Left(ts:List Tok)(top:Bool)(o:Nat)(r:Syn.bW)(m:Nat)(f:ar)(l:List Nd)(out:ar)(ee:List cO):Prop:=
 ∃b,Syn.run ts m (.seqL top o f l out)=some b/\b.l=r.l/\b.f=r.f/\ee++b.e=r.e
def Zs(pb:Nat)(ts:List Tok)(lv fv ov:Value)(top:Bool)(n o:Nat)(r:Syn.bW)(e:List cO)(I0:PH)(x:YH)(H:PH):Prop:=
 ∃I D A B f l out ee,H=U [I,sg pb (cg lv fv ov x.dv o),D,A,B]/\Dj [I,sg pb (cg lv fv ov x.dv o),D,A,B]/\I0.le I/\x.m<=n/\x.fl=f.length/\Left ts top o r x.m f l out ee/\
  eR I x.vf f/\FN ts.length f/\eF I D x.dv (e++ee)/\bQ I A x.vl l/\jy I B x.vo out/\FN ts.length out/\l.length<=aN
def Up(pb:Nat)(vi vr:Value)(vh:Value)(n:Nat)(x:Nat×Value×Value×Value×Value):St:=⟨dn 62 [(0,.v (pt pb)),(1,.v x.2.1),(2,.v vi),(3,.v vr),(10,.v x.2.2.1),(11,.v x.2.2.2.1),(23,.v vh),(24,.v (iv n)),(25,.v (iv x.1))],[]⟩
def Zp(pb:Nat)(ts:List Tok)(lv fv ov:Value)(top:Bool)(m o:Nat)(r:Syn.bW)(e:List cO)(hs:List aB)(I0:PH)(f0:ar)(l0:List Nd)(out0:ar)(ee0:List cO)(x:Nat×Value×Value×Value×Value)(H:PH):Prop:=
 ∃I D A B C f l out ee,H=U [I,sg pb (cg lv fv ov x.2.2.2.2 o),D,A,B,C]/\Dj [I,sg pb (cg lv fv ov x.2.2.2.2 o),D,A,B,C]/\I0.le I/\x.1<=hs.length/\
  jy I C x.2.1 f/\FN ts.length f/\eF I D x.2.2.2.2 (e++ee)/\bQ I A x.2.2.1 l/\jy I B x.2.2.2.1 out/\FN ts.length out/\l.length<=aN/\
  ((x.1=0/\f=[]/\l=l0/\out=out0/\ee=ee0)\/(0<x.1/\Left ts top o r m ((hs.drop x.1).foldl joinH f) l out ee))
variable{ee:List cO}{l:List Nd}{f out:ar}{r:Syn.bW}{top:Bool}
def Left.le{m:Nat}(h:Left ts top o r m f l out ee):ee.length<=r.e.length:=by
 obtain⟨b,_,_,_,h⟩:=h;rw[<-h];simp
def LW{α:Type}{l:List α}{i:Nat}{x:α}(hx:l[i]?=some x):l.drop i=x::l.drop (i+1):=by
 have aa:i<l.length:=by
  rcases aaf i l.length with h|h
  ·exact h
  ·rw[aan h]at hx;cases hx
 rw[aaK aa];rw[aak aa]at hx;rw[aaZ hx]
def HN{m:Nat}{x:aB}{hs:List aB}(h:Left ts top o r m f l out ee)(hh:heads ts f=x::hs):∃m',m=m'+1/\
  (lF ts top x=true->Left ts top o r m' (hs.foldl joinH []) l (joinH out x) ee)/\
  (lF ts top x=false->∃a,zy (Syn.run ts m') top o x=some a/\(l++a.l).length<=aN/\Left ts top o r m' (hs.foldl joinH (Syn.joinAll [] a.f)) (l++a.l) out (ee++a.e)):=by
 obtain⟨b,hb,h1,h2,h3⟩:=h;obtain⟨m',rfl,ak⟩:=bR hb;have aa:Syn.seqL ts (Syn.run ts m') top o f l out=some b:=ak;unfold Syn.seqL at aa;rw[hh]at aa;simp only at aa;refine⟨m',rfl,fun hx=>?_,fun hx=>?_⟩
 ·rw[hx]at aa;exact⟨b,aa,h1,h2,h3⟩
 ·rw[ZV (by rw[hx];simp)]at aa;obtain⟨a,ha,aj⟩:=bU aa;obtain⟨u,hu,ag⟩:=bU aj;obtain⟨b',al,ac⟩:=bU ag;cases ac
  exact⟨a,ha,qK hu,b',al,h1,h2,by rw[aaT];exact h3⟩
def C6{m:Nat}(h:Left ts top o r m f l out ee)(hh:heads ts f=[]):l=r.l/\out=r.f/\ee=r.e/\∃m',m=m'+1:=by
 obtain⟨b,hb,h1,h2,h3⟩:=h;obtain⟨m',rfl,ac⟩:=bR hb;have aa:Syn.seqL ts (Syn.run ts m') top o f l out=some b:=ac;unfold Syn.seqL at aa;rw[hh]at aa;simp only at aa;cases aa
 exact⟨h1,h2,by simpa using h3,m',rfl⟩
theorem J1{n:Nat}(hr:Syn.run ts n (.seqL top o f [] [])=some r){I D:PH}{dv vf vi vr:Value}{e:List cO}(hi:XJ pb ts lv fv ov o I vi (lF ts top))(hv:LQ pb ts lv fv ov n top o I vr)(h:zr I ts lv fv)(hf:eR I vf f)(fn:FN ts.length f)(he:eF I D dv e)(hm:e.length+r.e.length<=ux):
  aK Tryz.prog 135 #[pt pb,vf,vi,vr] I [sg pb (cg lv fv ov dv o),D] (PP pb lv fv ov o (e++r.e) (Uq ts r)):=by
 intro hd;have hl:=h.len;obtain⟨fr,frst,fcap,rfl,gr,cr⟩:=id hv;obtain⟨fi,ifirst,icap,rfl,gi,ci⟩:=id hi;refine ah 62 Tryz.func135 fun w0=>?_
 try simp only[iv,pt]
 refine aT ?_;refine aR hd fun d3=>?_;refine aR d3 fun d0=>?_;refine bf d0 [2,3,0,1] fun dT=>?_;refine aA (fun x=>2*x.m+min x.fl 1) (UI pb (.func (.func fi) ifirst icap) (.func (.func fr) frst fcap)) (Zs pb ts lv fv ov top n o r e I) ⟨n,f.length,vf,.slice none 0 0,.slice none 0 0,dv⟩ gP (by simp only[go_sem,aa6,UI]) ?_ ?_
 ·exact⟨I,D,PH.no,PH.no,f,[],[],[],rfl,dT,abW _,ZR _,rfl,⟨r,hr,rfl,rfl,rfl⟩,hf,fn,by simpa using he,Ow.nil _ _ _ _,Ow.nil _ _ _ _,FN.nil _,aaL _⟩
 rintro⟨m,fl,vf,vl,vo,dv⟩ H ⟨I3,D3,A3,B3,f,l,out,ee,rfl,c5,ba,cA,rfl,hL,ca,fn3,hE,hA,hB,c9,c7⟩ a7;simp only at cA hL ca hE hA hB;simp only[UI];obtain⟨fa,fc,rfl,_⟩:=id ca;have h3:=h.le ba;rcases abn f.length with h0|h0
 ·
  have dy:f=[]:=List.length_eq_zero_iff.1 h0;have cx:decide ((f.length:Int)>0)=false:=by simp;omega
  obtain⟨rfl,rfl,rfl,_⟩:=C6 hL (by rw[dy];rfl);apply RG;simp only[go_sem,iv,pt,cx];exact af rfl c5 (r:=[vl,vo]) rfl ba ⟨_,D3,[A3,B3],rfl,hE,⟨A3,B3,vl,vo,rfl,rfl,hA,hB⟩,c9,c7⟩
 ·have cx:decide ((f.length:Int)>0)=true:=by simp;omega
  apply RG;simp only[go_sem,iv,pt,cx];refine ad c5 [0,1,2,3] [sg pb _] [D3,A3,B3] rfl kU rfl (kW h3 ca fn3) fun v I4 qs c4 a5 hq=>?_;obtain⟨rfl,hH⟩:=hq;obtain⟨ha,hc,rfl,_⟩:=id hH;simp only[aaz,aaA]at c4 |-;refine ll ?_;have hN:∀x∈heads ts f,kS ts x:=fun x hx=>b9 h.ok fn3 hx;have eo:=fM h.ok fn3;refine aR c4 fun dI=>?_;refine bf dI [1,2,3,4,0] fun dA=>?_;refine aA (fun x=>(heads ts f).length-x.1) (Up pb (.func (.func fi) ifirst icap) (.func (.func fr) frst fcap) (.slice ha (heads ts f).length hc) (heads ts f).length) (Zp pb ts lv fv ov top (m-1) o r e (heads ts f) I4 f l out ee) (0,.slice none 0 0,vl,vo,dv) gP (by simp only[go_sem,aa6,Up]) ?_ ?_
  ·exact⟨I4,D3,A3,B3,PH.no,[],l,out,ee,rfl,dA,abW _,aaL _,Ow.nil _ _ _ _,FN.nil _,hE.le a5,hA.le a5,hB.le a5,c9,c7,.inl ⟨rfl,rfl,rfl,rfl,rfl⟩⟩
  rintro⟨i,v1,vl,vo,dv⟩ H ⟨I5,D5,A5,B5,C5,f5,l5,out5,ee5,rfl,b5,ao,dw,bd,fn5,bc,bs,bb,aj,a3,an⟩ ak;simp only at dw bd bc bs bb an;simp only[Up];have ec:qO I5 (.slice ha (heads ts f).length hc) (heads ts f):=hH.le ao;have k5:=abV ba (abV a5 ao);have h5:=h.le k5;have cB:∀q:Nat,q<=aN->(q+0)*96<=140737488355328:=fun q hq=>by unfold aN at hq;omega
  obtain⟨m',rfl⟩:∃m',m=m'+1:=by
   obtain⟨b,hb,_⟩:=hL;obtain⟨m',e,_⟩:=bR hb;exact⟨m',e⟩
  have dk:=fn5.len;have dj:=aj.len;rcases aaf i (heads ts f).length with b4|ep
  ·have b0:decide ((i:Int)<((heads ts f).length:Int))=true:=by simp;omega
   have e1:=wrap64 (n:=i+1) ab;have ek:IntKind.i64.wrap ((i:Int)+1)=((i+1:Nat):Int):=by rw[<-e1];congr 1
   obtain⟨x,hx⟩:∃x,(heads ts f)[i]?=some x:=⟨_,aak b4⟩;have dd:=aaV hx;have b2:=hN x dd;have bx:=b2.le;obtain⟨b,off,cs,rfl,ea,bF⟩:=ec.load l7.len hx;obtain⟨xa,xk,rfl,a4⟩:=ea;have c3:=LW hx;obtain⟨c1,c2,rfl⟩:=bd.shape;apply RG;simp only[go_sem,b0,iv,pt];refine⟨ab,?_⟩;refine XN (l:=[iv x.at',sD xa xk x.cond,rD x.cond,.int .u8 x.kind,.string ⟨⟨x.text⟩⟩]) (v:=.agg #[iv x.at',sD xa xk x.cond,rD x.cond,.int .u8 x.kind,.string ⟨⟨x.text⟩⟩]) rfl (cellsU b5 (.head _) bF) (.inl ⟨gI,rfl⟩) ?_;rcases abn i with c0|c0
   ·subst c0;rcases an with ⟨_,rfl,rfl,rfl,rfl⟩|⟨b7,_⟩
    ·obtain⟨m2,em,sy,sn⟩:=HN hL c3;obtain rfl:m'=m2:=by omega
     have e01:IntKind.i64.wrap ((0:Int)+1)=((1:Nat):Int):=by decide
     apply RG;simp only[go_sem,b0,iv,pt,sD,rD,abo,gt_iff_lt,Int.lt_irrefl,decide_false];refine ad b5 [0,1,2,3,4] [sg pb _] [D5,A5,B5,C5] rfl gi rfl (ci I5 k5 h5 dv x xa xk a4) fun v I6 qs a2 ac hq=>?_;obtain⟨rfl,rfl⟩:=hq;simp only[aaz,aaA]at a2 |-;cases b3:lF ts top x
     ·obtain⟨a,ha,c6,a9⟩:=sn b3;have b8:=a9.le;simp only[aa9]at c6 b8;apply RG;simp only[go_sem,iv,pt,b3,sD,rD];refine ad a2 [0,1,2,3,4] [sg pb _,D5] [A5,B5,C5] rfl gr rfl (cr m' ab x a ha (abV k5 ac) (h5.le ac) b2 (a4.le ac) (bc.le ac) (by simp only[aa9];omega)) fun v I7 qs ag aa hq=>?_;obtain⟨dv7,D7,rs,rfl,ed,⟨A7,B7,va7,vb7,rfl,rfl,eg,b6⟩,da,eq⟩:=hq;simp only[aaz,aaA]at ag |-;refine dg ?_;refine bf ag [2,0,1,3,4,5,6] fun a1=>?_;refine ae a1 fun I8 cl am ct=>?_;have eb:eE I8 va7 a.l:=eg.sl am ct;refine bf cl [3,0,1,2,4,5] fun cj=>?_;have cy:=abV ac (abV aa am);unfold aN at c6 a3;refine bl cj (by exact dQ) (bs.le cy) eb (fun{I J c a} h k=>bm.le h k) (fun{I} c a h=>bm.len c a h) (fun{I} c a h=>bm.ones h) rfl rfl rfl rfl ab (by unfold maxLen;omega) fun na nc I9 A9 cf aS ef=>?_;refine dg ?_;refine bf cf [3,0,1,2,4,5] fun cd=>?_;refine ae cd fun en cc al cp=>?_;have cm:eR en vb7 a.f:=b6.sl (abV am (abV aS al)) cp;have k510:=abV cy (abV aS al);refine ad cc [4,0,1,2,3] [C5] [A9,sg pb _,D7,B5] rfl eI rfl (cS (N:=ts.length) ab (bd.le k510) (FN.nil _) cm da) fun v el qs bC aq hq=>?_;obtain⟨C11,rfl,a6⟩:=hq;obtain⟨d1,d2,rfl⟩:=a6.shape;simp only[aaz,aaA]at bC |-;apply RG;simp only[go_sem,iv,pt,sD,rD,e01];refine bf bC [2,3,1,4,0] fun cb=>?_;have k511:=abV k510 aq
      exact ak (0+1,.slice d1 (Syn.joinAll [] a.f).length d2,.slice na (l5++a.l).length nc,vo,dv7) _ _ dt gP (by simp only[go_sem,aa6,Up]) ⟨el,D7,A9,B5,C11,_,_,_,_,rfl,cb,abV ao k511,b4,a6,(FN.nil _).joinAll da,by rw[<-aaT];exact ed.le (abV am (abV aS (abV al aq))),bQ.le ef (abV al aq),bb.le k511,aj,by simp only[aa9];unfold aN;omega,.inr ⟨by simp only;omega,a9⟩⟩
     ·apply RG;simp only[go_sem,iv,pt,b3,sD,rD];obtain⟨o1,o2,rfl⟩:=bb.shape;refine ad a2 [3,0,1,2,4] [B5] [sg pb _,D5,A5,C5] rfl ej rfl (bK (a:=x.at') (bb.le ac) (a4.le ac) aj.ok.2 (fun t ht=>by have:=aj.le t ht;omega) ab ab) fun v I7 qs ag aa hq=>?_;obtain⟨B7,rfl,b6⟩:=hq;obtain⟨p1,p2,rfl⟩:=b6.shape;simp only[aaz,aaA]at ag |-;apply RG;simp only[go_sem,iv,pt,sD,rD,e01];refine bf ag [1,2,3,0,4] fun a1=>?_;have b1:=abV ac aa;exact ak (0+1,.slice c1 ([]:ar).length c2,vl,.slice p1 (Syn.join out5 x.at' x.cond).length p2,dv) _ _ dt (bJ (by simp only[go_sem,aa6,iv,pt,aaO])) (by simp only[go_sem,aa6,Up]) ⟨I7,D5,A5,B7,C5,_,_,_,_,rfl,a1,abV ao b1,b4,bd.le b1,FN.nil _,bc.le b1,bs.le b1,b6,aj.join bx b2.ok,a3,.inr ⟨by simp only;omega,sy b3⟩⟩
    ·omega
   ·rcases an with ⟨b7,_⟩|⟨_,a9⟩
    ·omega
    ·have ei:decide ((i:Int)>0)=true:=by simp;omega
     apply RG;simp only[go_sem,b0,iv,pt,sD,rD,ei];refine ad b5 [4,0,1,2,3] [C5] [sg pb _,D5,A5,B5] rfl ej rfl (bK (a:=x.at') bd a4 fn5.ok.2 (fun t ht=>by have:=fn5.le t ht;omega) ab ab) fun v I7 qs ag aa hq=>?_;obtain⟨C7,rfl,dc⟩:=hq;obtain⟨p1,p2,rfl⟩:=dc.shape;simp only[aaz,aaA]at ag |-;apply RG;simp only[go_sem,iv,pt,sD,rD,ek];refine bf ag [1,2,3,4,0] fun a1=>?_;rw[c3,fu]at a9;exact ak (i+1,.slice p1 (Syn.join f5 x.at' x.cond).length p2,vl,vo,dv) _ _ dt gP (by simp only[go_sem,aa6,Up]) ⟨I7,D5,A5,B5,C7,_,_,_,_,rfl,a1,abV ao aa,b4,dc,fn5.join bx b2.ok,bc.le aa,bs.le aa,bb.le aa,aj,a3,.inr ⟨by simp only;omega,a9⟩⟩
  ·have ds:i=(heads ts f).length:=by omega
   subst ds;have b0:decide (((heads ts f).length:Int)<((heads ts f).length:Int))=false:=by simp
   apply RG;simp only[go_sem,b0,iv,pt];refine bf b5 [4,0,1,2,3] fun a2=>?_;refine ae (c:=.st _) a2 fun I6 ag aa a6=>?_;have c8:eR I6 v1 f5:=bd.sl aa a6;rcases an with ⟨b7,rfl,rfl,rfl,rfl⟩|⟨b7,a9⟩
   ·have dx:heads ts f=[]:=List.length_eq_zero_iff.1 b7;obtain⟨e2,e3,e4,_⟩:=C6 hL dx;refine a7 ⟨m'+1,0,v1,vl,vo,dv⟩ _ _ dt gP (by simp only[go_sem,aa6,UI]) ⟨I6,D5,A5,B5,[],l5,out5,ee5,rfl,ag,abV k5 aa,cA,rfl,⟨⟨l5,out5,[]⟩,rfl,e2,e3,by simpa using e4⟩,c8,FN.nil _,bc.le aa,bs.le aa,bb.le aa,aj,a3⟩
   ·rw[abH,List.foldl_nil]at a9;refine a7 ⟨m',f5.length,v1,vl,vo,dv⟩ _ _ dt gP (by simp only[go_sem,aa6,UI]) ⟨I6,D5,A5,B5,f5,l5,out5,ee5,rfl,ag,abV k5 aa,by simp only;omega,rfl,a9,c8,fn5,bc.le aa,bs.le aa,bb.le aa,aj,a3⟩
end
open Go Go.Sx Dg Syn
def Pn:aO Tryz.prog 264:=⟨_,Tryz.func264,rfl,rfl⟩
section
variable {pb:Nat} {ts:List Tok} {lv fv ov:Value}
def sJ:lF ts false=bD qD:=by funext h;simp[lF,bD]
def Ab{n m o:Nat}(ih:kP pb ts lv fv ov n)(hm:m<n/\o<=64){I:PH}:LQ pb ts lv fv ov m false o I (.func (.func 264) #[pt pb] #[]):=
 ⟨264,#[pt pb],#[],rfl,Pn,fun m' aa x a ha I D dv xa xk e _ h hx hr he hl=>ih m' ab (.stmt o x) a ha hm.2 h hx hr he hl⟩
def TN(pb slot:Nat)(vh:Value)(n:Nat)(x:Nat×Value×Value×Value):St:=⟨dn 72 [(0,.v (pt pb)),(2,.v (iv slot)),(8,.v x.2.1),(9,.v x.2.2.1),(16,.v vh),(17,.v (iv n)),(18,.v (iv x.1))],[]⟩
theorem Qh{n:Nat}(ih:kP pb ts lv fv ov n){o:Nat}{f:ar}{slot:Nat}{r:Syn.bW}(hr:Syn.run ts n (.block o f slot)=some r):vQ pb ts lv fv ov (.block o f slot) r:=by
 obtain⟨m,rfl,hs⟩:=bR hr;have dy:cT ts f (oZ ts (Syn.run ts m) o slot)=some r:=hs;rw[vX]at dy;clear hs hr;intro ho I D dv vf e h hf fn he hm hd;have hl:=h.len;refine ah 72 Tryz.func208 fun w0=>?_
 try simp only[iv,pt]
 refine aT ?_;refine DY hd [0,1] rfl kU rfl (ps:=[sg pb _]) (F:=[D]) rfl (kW h hf fn) fun v I2 qs dA bb hq=>?_;obtain⟨rfl,hH⟩:=hq;obtain⟨ha,hc,rfl,_⟩:=id hH;simp only[aaz,aaA]at dA |-;refine dP ?_;have hN:∀x∈heads ts f,kS ts x:=fun x hx=>b9 h.ok fn hx;have es:=fM h.ok fn;have ei:=hH;generalize heads ts f=aj at *;refine aR dA fun ed=>?_;refine aR ed fun ec=>?_;refine bf ec [2,3,0,1] fun eb=>?_;refine aA (fun x=>aj.length-x.1) (TN pb slot (.slice ha aj.length hc) aj.length) (WC pb ts lv fv ov o aj (oZ ts (Syn.run ts m) o slot) r e I2) (0,.slice none 0 0,.slice none 0 0,dv) gP (by simp only[go_sem,aa6,TN]) ?_ ?_
 ·exact⟨I2,D,PH.no,PH.no,⟨[],[],[]⟩,rfl,eb,abW _,aaL _,dy,by simpa using eF.le he bb,Ow.nil _ _ _ _,Ow.nil _ _ _ _,FN.nil _,aaL _⟩
 rintro⟨i,va,vb,dv⟩ H ⟨I3,D3,A3,B3,ri,rfl,b3,ag,ea,cl,hE,hA,hB,ca,cm⟩ al;simp only at ea cl hE hA hB;simp only[TN];have eg:qO I3 (.slice ha aj.length hc) aj:=ei.le ag;rcases aaf i aj.length with cj|et
 ·have cd:decide ((i:Int)<(aj.length:Int))=true:=by simp;omega
  have e1:=wrap64 (n:=i+1) ab;have cp:IntKind.i64.wrap ((i:Int)+1)=((i+1:Nat):Int):=by rw[<-e1];congr 1
  obtain⟨x,hx⟩:∃x,aj[i]?=some x:=⟨_,aak cj⟩;have d1:=aaV hx;have b1:=hN x d1;obtain⟨b,off,cs,rfl,ee,b6⟩:=eg.load l7.len hx;obtain⟨xa,xk,rfl,ak⟩:=ee;obtain⟨r',d2,a4⟩:=oF hx cl;have a3:=xq a4;obtain⟨y,hy,cf,rfl⟩:=pC d2;have h3:=h.le (abV bb ag);simp only[aa9]at a3 cf;apply RG;simp only[go_sem,cd,iv,pt];refine⟨ab,?_⟩;refine XN (l:=[iv x.at',sD xa xk x.cond,rD x.cond,.int .u8 x.kind,.string ⟨⟨x.text⟩⟩]) (v:=.agg #[iv x.at',sD xa xk x.cond,rD x.cond,.int .u8 x.kind,.string ⟨⟨x.text⟩⟩]) rfl (cellsU b3 (.head _) b6) (.inl ⟨gI,rfl⟩) ?_;unfold Syn.oZ at hy;by_cases bF:x.text=Im
  ·have dx:(x.text == [123])=true:=by rw[bF];decide
   rw[ZV (by simp[bF])]at hy;apply RG;simp only[go_sem,cd,iv,pt,sD,rD,dx,abQ];by_cases ba:o=64
   ·rw[aaq ba]at hy;cases hy
    subst ba;refine ad b3 [0,1,2,3] [sg pb _,D3] [A3,B3] rfl jh rfl (nq h3 b1.le ak hE (by simp[cJ]at a3 |-;omega)) fun v I4 qs a5 aa hq=>?_;obtain⟨dv2,D4,rs,rfl,dc,rfl,rfl⟩:=hq;simp only[aaz,aaA]at a5 |-;apply RG;simp only[go_sem,iv,pt,sD,rD,cp,abK];exact al (i+1,va,vb,dv2) _ _ dt gP (by simp only[go_sem,aa6,TN]) ⟨I4,D4,A3,B3,_,rfl,a5,abV ag aa,cj,a4,by simp only;rw[<-aaT];exact dc,by simpa using hA.le aa,hB.le aa,ca,by simpa using cm⟩
   ·rw[ZV ba]at hy;obtain⟨a,dI,cr⟩:=bU hy;obtain⟨g,e2,ht⟩:∃g e1,Syn.take ts a.f qD=(g,e1):=⟨_,_,rfl⟩;rw[ht]at cr;simp only at cr;cases cr
    have b0:=b1.lt (.inl (by rw[bF];decide));have en:=wrap64 (n:=x.at'+1) ab;have e2'':IntKind.i64.wrap ((x.at':Int)+1)=((x.at'+1:Nat):Int):=by rw[<-en];congr 1
    refine ad b3 [0,1,2,3] [sg pb _] [D3,A3,B3] rfl jh rfl (lz (h:=x) (a:=xa) (k:=xk) ab) fun v I4 qs a5 aa hq=>?_;obtain⟨rfl,rfl,rfl⟩:=hq;simp only[aaz,aaA]at a5 |-;apply RG;simp only[go_sem,iv,pt,sD,rD,cp,e2'',abQ];refine CS mixed [0,1,2,3,4,5,6,9,10] 7 8 [11,12,13,14,15,16] [11,12,13,14,15,16] [] [] rfl rfl ?_;apply mI;simp only[go_sem,iv,pt,sD,rD,e2''];simp only[aaT,aa9]at a3 hm cf;refine wC ?_ ?_;refine bj a5 (by exact jH) rfl rfl rfl rfl rfl bg fun nb I5 cy a2 cx=>?_;refine qY ?_;refine aE cy [0,1,2,3] [] [sg pb _,D3,A3,B3] rfl jl rfl (kM (s:=qD)) fun vi I6 qs b2 a1 hq=>?_;obtain⟨rfl,b8⟩:=hq;simp only[aaz,aaA]at b2 |-;obtain⟨fi,first,cap,rfl,gi,ci⟩:=id b8;refine qY ?_;have kk:I4.le I6:=abV a2 a1;have dk:eR I6 (.slice (some ⟨nb,0,none⟩) 1 1) (bv x):=⟨_,_,rfl,.inr ⟨nb,0,[iv (x.at'+1),sD xa xk x.cond,rD x.cond],rfl,(az cx (by simp[aD,Value.cells]) (by simp[aD,Value.cells,iv,sD,rD])).le a1,.one ⟨_,_,rfl,ak.le kk⟩⟩⟩;refine aE b2 [0,1,2,3] [sg pb _,D3] [A3,B3] rfl BR rfl (J1 (n:=m) dI (vi:=.func (.func fi) first cap) (vr:=.func (.func 264) #[pt pb] #[]) (by rw[sJ];exact(JE.le b8 (abW _)).toP) (Ab ih ab) (h3.le kk) dk (bH b1 b0) (hE.le kk) (by simp only[aa9];omega)) fun v I7 qs bd a7 hq=>?_
    rotate_left
    refine aE a5 [0,1,2,3] [] [sg pb _,D3,A3,B3] rfl jl rfl (kM (s:=qD)) fun vi I6 qs b2 a1 hq=>?_;obtain⟨rfl,b8⟩:=hq;simp only[aaz,aaA]at b2 |-;obtain⟨fi,first,cap,rfl,gi,ci⟩:=id b8;refine qY ?_;refine bj b2 (by exact jH) rfl rfl rfl rfl rfl bg fun nb I5 cy a2 cx=>?_;refine qY ?_;have kk:I4.le I5:=abV a1 a2;have dk:eR I5 (.slice (some ⟨nb,0,none⟩) 1 1) (bv x):=⟨_,_,rfl,.inr ⟨nb,0,[iv (x.at'+1),sD xa xk x.cond,rD x.cond],rfl,(az cx (by simp[aD,Value.cells]) (by simp[aD,Value.cells,iv,sD,rD])).le (abW _),.one ⟨_,_,rfl,ak.le kk⟩⟩⟩;refine aE cy [0,1,2,3] [sg pb _,D3] [A3,B3] rfl BR rfl (J1 (n:=m) dI (vi:=.func (.func fi) first cap) (vr:=.func (.func 264) #[pt pb] #[]) (by rw[sJ];exact(JE.le b8 a2).toP) (Ab ih ab) (h3.le kk) dk (bH b1 b0) (hE.le kk) (by simp only[aa9];omega)) fun v I7 qs bd a7 hq=>?_
    all_goals
     obtain⟨dv6,D6,rs,rfl,ek,⟨A6,B6,va6,vb6,rfl,rfl,ds,el⟩,dT,ex⟩:=hq;have b7:=ds.capN bm.len;obtain⟨ka,kc,rfl⟩:=ds.shape;simp only[aaz,aaA]at bd |-;refine qY ?_;refine aw ?_;refine dg ?_;refine bf bd [2,0,1,3,4,5] fun c7=>?_;refine ae c7 fun I8 c6 aS dw=>?_;have ef:eE I8 (.slice ka a.l.length kc) a.l:=ds.sl aS dw;refine ax c6 (by exact dQ) rfl rfl rfl rfl rfl bg fun nb2 I9 c5 aq ct=>?_;refine dg ?_;refine bf c5 [3,0,1,2,4] fun b5=>?_;have d0:=abV kk (abV a7 (abV aS aq));obtain⟨bs,a9,c8⟩:=hA;obtain⟨xsa,xsc,rfl⟩:=a9.slice;unfold aN at cf cm;refine dZ (m:=1) b5 (by exact dQ) a9 rfl rfl rfl rfl (cellsU b5 (.head _) (az (l:=[.int .u8 6,.string ⟨#[]⟩,.int .i64 x.at',.int .i64 slot,.slice ka a.l.length kc,.slice xa (T.subs x.cond).length xk,iv (T.plc (T.subs x.cond) x.cond)]) ct (by simp[aD,Value.cells]) (by simp[aD,Value.cells,iv]))) rfl rfl ab (by unfold maxLen;omega) fun v' er A10 c4 ao cc=>?_;obtain⟨na,nc,rfl⟩:=cc.slice;have k410:=abV d0 ao;have em:bQ er A10 (.slice na (ri.l.length+1) nc) (ri.l++[⟨6,[],x.at',slot,a.l,x.cond⟩]):=by
      refine⟨_,by rw[aa9];exact cc,LR.app (c8.mono fun _ _ h=>bm.le h k410) (.one (bm.mk (n:=⟨6,[],x.at',slot,a.l,x.cond⟩) (ak.le k410) (ef.le (abV aq ao)) b7))⟩
     refine dg ?_;refine bf c4 [3,0,1,2,4] fun c3=>?_;refine ae c3 fun eq c2 an dj=>?_;have k711:=abV aS (abV aq (abV ao an));have da:eR eq vb6 a.f:=el.sl k711 dj;have k411:=abV k410 an;refine ad c2 [1,2,0,3] [sg pb _,D6] [A10,B3] rfl iG rfl (kf (s:=qD) (h3.le k411) da dT bg (ek.le k711) (by rw[ht];simp only[aa9];omega)) fun v ey qs b4 a6 hq=>?_;obtain⟨dv10,D10,rs,rfl,bx,B10,rfl,bC⟩:=hq;rw[ht]at bx bC;have tf:=dK h.ok dT (s:=qD) bg;rw[ht]at tf;simp only at bx bC tf;simp only[aaz,aaA]at b4 |-;refine dg ?_;refine bf b4 [2,0,1,3,4] fun c1=>?_;refine ae c1 fun ep c0 ac dd=>?_;have c9:eR ep v g:=bC.sl ac dd;have k413:=abV k411 (abV a6 ac);refine ad c0 [3,0,1,2] [B3] [sg pb _,D10,A10] rfl eI rfl (cS (N:=ts.length) ab (hB.le k413) ca c9 tf) fun v eo qs bc am hq=>?_;obtain⟨B14,rfl,cb⟩:=hq;simp only[aaz,aaA]at bc |-;refine dg ?_;refine XN (l:=[.int .i64 ((o+1:Nat):Int)]) rfl (cellsU bc (.tail _ (.tail _ (.head _))) (ay (by simp[cg]) rfl)) (.inr ⟨jq,rfl⟩) ?_;apply RG;simp only[go_sem,iv,pt,sD,rD,kE o ho];refine bf bc [1,2,3,0] fun cB=>?_;refine bw cB rfl rfl rfl rfl rfl (by exact uZ) (by simp) fun cA=>?_;apply RG;simp only[go_sem,iv,pt,sD,rD,cp];obtain⟨ta,tc,rfl⟩:=cb.shape
     refine al (i+1,.slice na (ri.l.length+1) nc,.slice ta (Syn.joinAll ri.f g).length tc,dv10) _ _ dt gP (by simp only[go_sem,aa6,TN]) ⟨eo,D10,A10,B14,_,rfl,cA,abV ag (abV k413 am),cj,a4,by simpa[aaT]using bx.le (abV ac am),bQ.le em (abV an (abV a6 (abV ac am))),cb,ca.joinAll tf,by simp only[aa9];unfold aN;exact cf⟩
  ·have dx:(x.text == [123])=false:=by
    rw[abS];exact bF
   rw[aaq bF]at hy;cases hy
   apply RG;simp only[go_sem,cd,iv,pt,sD,rD,dx,abK];refine ad b3 [0,1,2,3] [sg pb _,D3] [A3,B3] rfl kX rfl (ow h3 b1.le ak hE (by simp[cJ]at a3 |-;omega)) fun v I4 qs a5 aa hq=>?_;obtain⟨dv2,D4,rs,rfl,dc,rfl⟩:=hq;simp only[aaz,aaA]at a5 |-;apply RG;simp only[go_sem,iv,pt,sD,rD,cp];exact al (i+1,va,vb,dv2) _ _ dt gP (by simp only[go_sem,aa6,TN]) ⟨I4,D4,A3,B3,_,rfl,a5,abV ag aa,cj,a4,by simp only;rw[<-aaT];exact dc,by simpa using hA.le aa,hB.le aa,ca,by simpa using cm⟩
 ·have d3:i=aj.length:=by omega
  subst d3;have cd:=Z6 aj.length;rw[abH]at cl;cases cl
  apply RG;simp only[go_sem,cd,iv,pt];exact af rfl b3 (r:=[va,vb]) rfl (abV bb ag) ⟨_,D3,[A3,B3],rfl,hE,⟨A3,B3,va,vb,rfl,rfl,hA,hB⟩,ca,cm⟩
end
open Go Go.Sx Dg Syn
section
variable {pb:Nat} {ts:List Tok} {lv fv ov:Value}
def uI(ts:List Tok)(par:Bool)(o:Nat)(a:Syn.bW)(m:Nat)(l:List Nd)(g fin:ar)(ee:List cO):Prop:=
 ∃b,Syn.run ts m (.listL par o l g fin)=some b/\b.l=a.l/\b.f=a.f/\ee++b.e=a.e
variable{ee:List cO}{fin:ar}{l:List Nd}{a:Syn.bW}{o m:Nat}{par:Bool}
def tY(h:uI ts par o a m l [] fin ee):l=a.l/\fin=a.f/\ee=a.e:=by
 obtain⟨b,hb,h1,h2,h3⟩:=h;obtain⟨m',rfl,ac⟩:=bR hb;have aa:Syn.listL ts (Syn.run ts m') par o l [] fin=some b:=ac;unfold Syn.listL at aa;simp only at aa;cases aa
 exact⟨h1,h2,by simpa using h3⟩
variable{g:ar}{s:Nat×T}
def xN{b:Syn.bW}(hb:Syn.run ts m (.listL par o l (s::g) fin)=some b):∃m' c b',m=m'+2/\
  Syn.item ts (Syn.run ts m') par o [s]=some c/\(l++c.l).length<=aN/\Syn.run ts (m'+1) (.listL par o (l++c.l) ((aM ts c.f (bD bB)).1.foldl joinH1 g) (Syn.joinAll fin (aM ts c.f (bD bB)).2))=some b'/\b=⟨b'.l,b'.f,c.e++b'.e⟩:=by
 obtain⟨m',rfl,al⟩:=bR hb;have ac:Syn.listL ts (Syn.run ts m') par o l (s::g) fin=some b:=al;unfold Syn.listL at ac;simp only at ac;obtain⟨c,hc,ak⟩:=bU ac;obtain⟨u,hu,aa⟩:=bU ak;obtain⟨more,dn,ag⟩:∃yes g,aM ts c.f (bD bB)=(yes,g):=⟨_,_,rfl⟩;rw[ag]at aa;simp only at aa;obtain⟨b',am,aj⟩:=bU aa;cases aj
 obtain⟨m'',rfl,hi⟩:=bR hc;refine⟨m'',c,b',rfl,hi,qK hu,?_,rfl⟩;rw[ag];exact am
def wI(h:uI ts par o a m l (s::g) fin ee):∃m' c,m=m'+2/\Syn.item ts (Syn.run ts m') par o [s]=some c/\(l++c.l).length<=aN/\
  uI ts par o a (m'+1) (l++c.l) ((aM ts c.f (bD bB)).1.foldl joinH1 g) (Syn.joinAll fin (aM ts c.f (bD bB)).2) (ee++c.e):=by
 obtain⟨b,hb,h1,h2,h3⟩:=h;obtain⟨m',c,b',rfl,hi,hl,aa,rfl⟩:=xN hb;exact⟨m',c,rfl,hi,hl,b',aa,h1,h2,by rw[aaT];exact h3⟩
def zE:∀(n m:Nat),m<=n->∀{par:Bool} {o:Nat} {b:Syn.bW} {l:List Nd} {g fin:ar},Syn.run ts m (.listL par o l g fin)=some b->l.length<=b.l.length
 |0,m,hm,par,o,b,l,g,fin,h=>by
  obtain⟨m',rfl,_⟩:=bR h;omega
 |n+1,m,hm,par,o,b,l,g,fin,h=>by
  cases g with
  |nil=>
   have:=tY (ts:=ts) (a:=b) (ee:=[]) ⟨b,h,rfl,rfl,rfl⟩;rw[this.1];exact ZR _
  |cons s g=>
   obtain⟨m',c,b',rfl,_,_,aa,rfl⟩:=xN h;have:=zE n (m'+1) ab aa;simp only[aa9]at this |-;omega
def uI.len(h:uI ts par o a m l g fin ee):l.length<=a.l.length/\ee.length<=a.e.length:=by
 obtain⟨b,hb,h1,h2,h3⟩:=h;have:=zE m m (ZR _) hb;rw[<-h1,<-h3];exact⟨this,by simp⟩
def MU{n:Nat}(ih:kP pb ts lv fv ov n)(hm:m<n)(ho:o<=64)(h:Syn.item ts (Syn.run ts m) par o g=some a):WF pb ts lv fv ov (if par then 207 else 83) o (fun vf=>#[pt pb,vf,iv 0]) g a/\aO Tryz.prog (if par then 207 else 83):=by
 cases par
 ·exact⟨rT (ih m hm (.line 0 o g 0) _ h) ho,rU⟩
 ·exact⟨Og _ h,Qs⟩
def Rf(pb:Nat)(rv va vb v14 vh:Value)(n i:Nat)(vh2:Value)(n2:Nat)(x:Nat×Value):St:=⟨dn 126 [(0,.v (pt pb)),(2,.v rv),(8,.v va),(9,.v vb),(12,.v x.2),(14,.v v14),(26,.v vh),(27,.v (iv n)),(28,.v (iv i)),(55,.v vh2),(56,.v (iv n2)),(57,.v (iv x.1))],[]⟩
def Sl.tail{α:Type}{R:PH->List Value->α->Prop}{size:Nat}(hR:∀{I} c a,R I c a->c.length=size){I:PH}{b off n c:Nat}{s:α}{l:List α}(h:Sl R I (.slice (some ⟨b,off,none⟩) n c) (s::l))(hc:n<=c):Sl R I (.slice (sO (some ⟨b,off,none⟩) size 1 c) (n-1) (c-1)) l:=by
 obtain⟨a,c',e,h⟩:=h;cases e
 simp only[aaj]at hc;refine⟨sO (some ⟨b,off,none⟩) size 1 c,c-1,by simp,?_⟩;rcases h with h|⟨b',off',xs,e1,e2,e3⟩
 ·cases h
 ·cases e1
  rcases abn l.length with h0|h0
  ·exact .inl (List.length_eq_zero_iff.1 h0)
  ·obtain⟨cs,ys,rfl,h1,h2⟩:=e3;have aa:=hR cs s h1;refine .inr ⟨b,off+size,ys,?_,?_,h2⟩
   ·unfold sO;rw[ZV ab];simp[gG]
   ·have:=e2.sub size ys.length (by simp;omega);rw[List.drop_left' aa,aaS]at this;exact this
def RM(pb:Nat)(rv v8 vb v12 vdn vh:Value)(n i:Nat)(vh2:Value)(n2:Nat)(x:Nat×Value):St:=⟨dn 126 [(0,.v (pt pb)),(2,.v rv),(8,.v v8),(9,.v vb),(12,.v v12),(14,.v x.2),(21,.v vdn),(26,.v vh),(27,.v (iv n)),(28,.v (iv i)),(93,.v vh2),(94,.v (iv n2)),(95,.v (iv x.1))],[]⟩
def YA(Fr:List PH)(more:List aB)(g:ar)(I0:PH)(x:Nat×Value)(H:PH):Prop:=
 ∃I,H=U (I::Fr)/\Dj (I::Fr)/\I0.le I/\x.1<=more.length/\eR I x.2 ((more.take x.1).foldl joinH1 g)/\DZ x.2
structure YD where
 m:Nat
 v8:Value
 v12:Value
 v14:Value
 dv:Value
def RS(pb:Nat)(rv vb vh:Value)(n i:Nat)(x:YD):St:=⟨dn 126 [(0,.v (pt pb)),(2,.v rv),(8,.v x.v8),(9,.v vb),(12,.v x.v12),(14,.v x.v14),(26,.v vh),(27,.v (iv n)),(28,.v (iv i))],[]⟩
def YM(pb:Nat)(ts:List Tok)(lv fv ov:Value)(par:Bool)(o M:Nat)(a ri:Syn.bW)(e:List cO)(B:PH)(I0:PH)(x:YD)(H:PH):Prop:=
 ∃I D A C l g fin ee,H=U [I,sg pb (cg lv fv ov x.dv o),D,A,B,C]/\Dj [I,sg pb (cg lv fv ov x.dv o),D,A,B,C]/\I0.le I/\x.m<=M/\uI ts par o a x.m l g fin ee/\
  eR I x.v14 g/\DZ x.v14/\FN ts.length g/\jy I C x.v12 fin/\FN ts.length fin/\bQ I A x.v8 (ri.l++l)/\eF I D x.dv (e++(ri.e++ee))
def Tf(pb:Nat)(rv vh:Value)(n:Nat)(x:Nat×Value×Value×Value):St:=⟨dn 126 [(0,.v (pt pb)),(2,.v rv),(8,.v x.2.1),(9,.v x.2.2.1),(26,.v vh),(27,.v (iv n)),(28,.v (iv x.1))],[]⟩
theorem JR{n:Nat}(ih:kP pb ts lv fv ov n){f:ar}{r:Syn.bW}(hr:Syn.run ts n (.listed par o f)=some r):vQ pb ts lv fv ov (.listed par o f) r:=by
 obtain⟨m,rfl,hs⟩:=bR hr;have hJ:cT ts f (mw ts (Syn.run ts m) par o)=some r:=hs;rw[vX]at hJ;clear hs hr;intro ho I D dv vf e h hf fn he hm hd;have hl:=h.len;refine ah 126 Tryz.func206 fun w0=>?_
 try simp only[iv,pt,fH]
 refine aT ?_;refine DY hd [0,1] rfl kU rfl (ps:=[sg pb _]) (F:=[D]) rfl (kW h hf fn) fun v I2 qs hL c6 hq=>?_;obtain⟨rfl,hH⟩:=hq;obtain⟨ha,hc,rfl,_⟩:=id hH;simp only[aaz,aaA]at hL |-;refine dP ?_;have hN:∀x∈heads ts f,kS ts x:=fun x hx=>b9 h.ok fn hx;have kp:=fM h.ok fn;have ka:=hH;generalize heads ts f=al at *;refine aR hL fun i9=>?_;refine aR i9 fun i5=>?_;refine bf i5 [2,3,0,1] fun i4=>?_;refine aA (fun x=>al.length-x.1) (Tf pb (fH pb (if par then 207 else 83)) (.slice ha al.length hc) al.length) (WC pb ts lv fv ov o al (mw ts (Syn.run ts m) par o) r e I2) (0,.slice none 0 0,.slice none 0 0,dv) (bJ (by simp only[go_sem,aa6,iv,pt,fH])) (by simp only[go_sem,aa6,Tf]) ?_ ?_
 ·exact⟨I2,D,PH.no,PH.no,⟨[],[],[]⟩,rfl,i4,abW _,aaL _,hJ,by simpa using eF.le he c6,Ow.nil _ _ _ _,Ow.nil _ _ _ _,FN.nil _,aaL _⟩
 rintro⟨i,va,vb,dv⟩ H ⟨I3,D3,A3,B3,ri,rfl,ek,a4,i1,e5,hE,hA,hB,ey,gk⟩ a7;simp only at i1 e5 hE hA hB;simp only[Tf];have j2:qO I3 (.slice ha al.length hc) al:=ka.le a4;rcases aaf i al.length with e0|kt
 ·have eA:decide ((i:Int)<(al.length:Int))=true:=by simp;omega
  have e1:=wrap64 (n:=i+1) ab;have fc:IntKind.i64.wrap ((i:Int)+1)=((i+1:Nat):Int):=by rw[<-e1];congr 1
  obtain⟨x,hx⟩:∃x,al[i]?=some x:=⟨_,aak e0⟩;have h6:=aaV hx;have eb:=hN x h6;obtain⟨b,off,cs,rfl,ja,en⟩:=j2.load l7.len hx;obtain⟨xa,xk,rfl,bx⟩:=ja;obtain⟨r',h7,b1⟩:=oF hx e5;have b0:=xq b1;obtain⟨y,hy,eH,rfl⟩:=pC h7;have h3:=h.le (abV c6 a4);simp only[aa9]at b0 eH;apply RG;simp only[go_sem,eA,iv,pt,fH];refine⟨ab,?_⟩;refine XN (l:=[iv x.at',sD xa xk x.cond,rD x.cond,.int .u8 x.kind,.string ⟨⟨x.text⟩⟩]) (v:=.agg #[iv x.at',sD xa xk x.cond,rD x.cond,.int .u8 x.kind,.string ⟨⟨x.text⟩⟩]) rfl (cellsU ek (.head _) en) (.inl ⟨gI,rfl⟩) ?_;unfold Syn.mw at hy;by_cases d3:x.text=eM
  ·have hn:(x.text == [40])=true:=by rw[d3];decide
   rw[ZV (by simp[d3])]at hy;apply RG;simp only[go_sem,eA,iv,pt,sD,rD,hn,abQ];by_cases c2:o=64
   ·rw[aaq c2]at hy;cases hy
    subst c2;refine ad ek [0,1,2,3] [sg pb _,D3] [A3,B3] rfl jh rfl (nq h3 eb.le bx hE (by simp[cJ]at b0 |-;omega)) fun v I4 qs b3 am hq=>?_;obtain⟨dv2,D4,rs,rfl,gC,rfl,rfl⟩:=hq;simp only[aaz,aaA]at b3 |-;apply RG;simp only[go_sem,iv,pt,sD,rD,fc,abK];exact a7 (i+1,va,vb,dv2) _ _ dt (bJ (by simp only[go_sem,aa6,iv,pt,fH])) (by simp only[go_sem,aa6,Tf]) ⟨I4,D4,A3,B3,_,rfl,b3,abV a4 am,e0,b1,by simp only;rw[<-aaT];exact gC,by simpa using hA.le am,hB.le am,ey,by simpa using gk⟩
   ·rw[ZV c2]at hy;obtain⟨yes,g,hF⟩:∃yes g,aM ts (bv x) (bD fK)=(yes,g):=⟨_,_,rfl⟩;rw[hF]at hy;simp only at hy;obtain⟨a,jf,fh⟩:=bU hy;obtain⟨gt,e2,ht⟩:∃g e1,Syn.take ts a.f fK=(g,e1):=⟨_,_,rfl⟩;rw[ht]at fh;simp only at fh;cases fh
    have ea:=eb.lt (.inl (by rw[d3];decide));have kj:=wrap64 (n:=x.at'+1) ab;have e2'':IntKind.i64.wrap ((x.at':Int)+1)=((x.at'+1:Nat):Int):=by rw[<-kj];congr 1
    refine ad ek [0,1,2,3] [sg pb _] [D3,A3,B3] rfl jh rfl (lz (h:=x) (a:=xa) (k:=xk) ab) fun v I4 qs b3 am hq=>?_;obtain⟨rfl,rfl,rfl⟩:=hq;simp only[aaz,aaA]at b3 |-;apply RG;simp only[go_sem,iv,pt,fH,sD,rD,fc,e2'',abQ];refine CS mixed [0,1,2,3,4,5,6] 7 8 [9,10,11,12,13,14] [9,10,11,12,13,14] [] [] rfl rfl ?_;apply mI;simp only[go_sem,iv,pt,fH,sD,rD,e2''];simp only[aaT,aa9]at b0 hm eH;refine wC ?_ ?_;refine bj b3 (by exact jH) rfl rfl rfl rfl rfl bg fun nb I5 fA bF fr=>?_;apply au;simp only[go_sem,iv,pt,fH,sD,rD];refine aE fA [0,1,2,3] [] [sg pb _,D3,A3,B3] rfl jl rfl (kM (s:=fK)) fun vi I6 qs ei bC hq=>?_;obtain⟨rfl,eq⟩:=hq;simp only[aaz,aaA]at ei |-;obtain⟨fi,first,cap,rfl,gi,ci⟩:=id eq;apply au;simp only[go_sem,iv,pt,fH,sD,rD];have kk:I4.le I6:=abV bF bC;have g8:eR I6 (.slice (some ⟨nb,0,none⟩) 1 1) (bv x):=⟨_,_,rfl,.inr ⟨nb,0,[iv (x.at'+1),sD xa xk x.cond,rD x.cond],rfl,(az fr (by simp[aD,Value.cells]) (by simp[aD,Value.cells,iv,sD,rD])).le bC,.one ⟨_,_,rfl,bx.le kk⟩⟩⟩;have afn:=bH eb ea;refine aE ei [0,1,2,3] [sg pb _] [D3,A3,B3] rfl jD rfl (jC (h3.le kk) g8 afn (JE.le eq (abW _))) fun v I7 qs ds cA hq=>?_
    rotate_left
    refine aE b3 [0,1,2,3] [] [sg pb _,D3,A3,B3] rfl jl rfl (kM (s:=fK)) fun vi I6 qs ei bC hq=>?_;obtain⟨rfl,eq⟩:=hq;simp only[aaz,aaA]at ei |-;obtain⟨fi,first,cap,rfl,gi,ci⟩:=id eq;apply au;simp only[go_sem,iv,pt,fH,sD,rD];refine bj ei (by exact jH) rfl rfl rfl rfl rfl bg fun nb I5 fA bF fr=>?_;apply au;simp only[go_sem,iv,pt,fH,sD,rD];have kk:I4.le I5:=abV bC bF;have g8:eR I5 (.slice (some ⟨nb,0,none⟩) 1 1) (bv x):=⟨_,_,rfl,.inr ⟨nb,0,[iv (x.at'+1),sD xa xk x.cond,rD x.cond],rfl,(az fr (by simp[aD,Value.cells]) (by simp[aD,Value.cells,iv,sD,rD])).le (abW _),.one ⟨_,_,rfl,bx.le kk⟩⟩⟩;have afn:=bH eb ea;refine aE fA [0,1,2,3] [sg pb _] [D3,A3,B3] rfl jD rfl (jC (h3.le kk) g8 afn (JE.le eq bF)) fun v I7 qs ds cA hq=>?_
    all_goals
     obtain⟨A6,B6,va6,vb6,rfl,rfl,e9,e8⟩:=hq;have hY:=fm h.ok afn (is:=bD fK);have hR:=gE h.ok afn (bD fK);have gn:=dC h.ok afn (bD fK);rw[hF]at e9 e8 hY hR gn;simp only at e9 e8 hY hR gn;obtain⟨ya,yc,rfl⟩:=e9.shape;simp only[aaz,aaA]at ds |-;apply au;simp only[go_sem,iv,pt,fH,sD,rD];refine aw ?_;apply RG;simp only[go_sem,iv,pt,fH,sD,rD];refine bf ds [1,0,2,3,4,5] fun ge=>?_;refine ae (c:=.st _) ge fun I8 f9 bb hk=>?_;have jg:qO I8 (.slice ya yes.length yc) yes:=e9.sl bb hk;refine bf f9 [1,0,2,3,4] fun f6=>?_;refine ae (c:=.st _) f6 fun I9 f5 ba g6=>?_;have kd:eR I9 vb6 g:=e8.sl (abV bb ba) g6;have kc:DZ vb6:=e8.cap iD.len;refine aR (c:=.st _) f5 fun f3=>?_;refine bf f3 [1,0,2,3,4] fun f2=>?_;have h2:=abV kk (abV cA (abV bb ba));refine aA (fun x=>yes.length-x.1) (Rf pb (fH pb (if par then 207 else 83)) va vb vb6 (.slice (some ⟨b,off,none⟩) al.length hc) al.length i (.slice ya yes.length yc) yes.length) (Xf pb lv fv ov dv (o+1) joinH [] yes [D3,A3,B3] I9) (0,.slice none 0 0) (bJ (by simp only[go_sem,aa6,iv,pt,fH])) (by simp only[go_sem,aa6,Rf]) ?_ ?_
     ·exact⟨I9,PH.no,rfl,f2,abW _,aaL _,Ow.nil _ _ _ _⟩
     rintro⟨j,v12⟩ H ⟨h1,C10,rfl,dk,a2,hj,bs⟩ c5;simp only at hj bs;simp only[Rf];have hP:∀y∈yes,kS ts y:=fun y hy=>(hY y hy).1;have ex:FN ts.length ((yes.take j).foldl joinH []):=lJ (fun y hy=>hP y (abf hy)) (FN.nil _);have gA:=ex.len;rcases aaf j yes.length with hK|kq
     ·have fb:decide ((j:Int)<(yes.length:Int))=true:=by simp;omega
      have e3:=wrap64 (n:=j+1) ab;have hu:IntKind.i64.wrap ((j:Int)+1)=((j+1:Nat):Int):=by rw[<-e3];congr 1
      obtain⟨y,hy⟩:∃y,yes[j]?=some y:=⟨_,aak hK⟩;have fg:=hP y (aaV hy);have h5:=fg.le;obtain⟨b2,off2,cs2,rfl,dw,ao⟩:=(qO.le jg (abV ba a2)).load l7.len hy;obtain⟨ua,uk,rfl,a6⟩:=dw;have a5:=dm (g:=joinH) (z:=[]) hy;obtain⟨ta,tc,rfl⟩:=bs.shape;apply RG;simp only[go_sem,fb,iv,pt,fH];refine⟨ab,?_⟩;refine XN (l:=[iv y.at',sD ua uk y.cond,rD y.cond,.int .u8 y.kind,.string ⟨⟨y.text⟩⟩]) (v:=.agg #[iv y.at',sD ua uk y.cond,rD y.cond,.int .u8 y.kind,.string ⟨⟨y.text⟩⟩]) rfl (cellsU dk (.head _) ao) (.inl ⟨gI,rfl⟩) ?_;apply RG;simp only[go_sem,fb,iv,pt,fH,sD,rD];refine ad dk [1,0,2,3,4] [C10] [sg pb _,D3,A3,B3] rfl ej rfl (bK (a:=y.at') bs a6 ex.ok.2 (fun t ht=>by have:=ex.le t ht;omega) ab ab) fun v hD qs cb ef hq=>?_;obtain⟨C11,rfl,dT⟩:=hq;obtain⟨ta2,tc2,rfl⟩:=dT.shape;simp only[aaz,aaA]at cb |-;apply RG;simp only[go_sem,iv,pt,fH,sD,rD,hu];refine bf cb [1,0,2,3,4] fun bd=>?_;rw[show Syn.join ((yes.take j).foldl joinH []) y.at' y.cond=(yes.take (j+1)).foldl joinH [] from a5.symm]at dT |-;exact c5 (j+1,.slice ta2 _ tc2) _ _ dt (bJ (by simp only[go_sem,aa6,iv,pt,fH])) (by simp only[go_sem,aa6,Rf]) ⟨hD,C11,rfl,bd,abV a2 ef,hK,dT⟩
     ·have fs:j=yes.length:=by omega
      subst fs;have fb:=Z6 yes.length;rw[aaS]at bs ex gA;apply RG;simp only[go_sem,fb,iv,pt,fH];refine bf dk [0,2,3,4,1] fun cb=>?_;have k410:=abV h2 a2;have j1:uI ts par (o+1) a m [] g (yes.foldl joinH []) []:=⟨a,jf,rfl,rfl,rfl⟩;refine aA (fun x=>x.m) (RS pb (fH pb (if par then 207 else 83)) vb (.slice (some ⟨b,off,none⟩) al.length hc) al.length i) (YM pb ts lv fv ov par (o+1) m a ri e B3 h1) ⟨m,va,v12,vb6,dv⟩ (bJ (by simp only[go_sem,aa6,iv,pt,fH])) (by simp only[go_sem,aa6,RS]) ?_ ?_
      ·exact⟨h1,D3,A3,C10,[],g,_,[],rfl,cb,abW _,ZR _,j1,eR.le kd a2,kc,gn,bs,ex,by simpa using hA.le k410,by simpa using hE.le k410⟩
      rintro⟨mm,v8,v12,v14,dv⟩ H ⟨hD,D11,A11,C11,l,gg,fin,ee,rfl,bd,cy,h8,e6,hG,er,cf,hC,a3,d2,dA⟩ c4;simp only at h8 e6 hG er hC d2 dA;simp only[RS];have k411:=abV k410 cy;obtain⟨ga,gc,rfl,kv⟩:=id hG;have h9:=e6.len;obtain fl|⟨s,gg',cB⟩:gg=[]\/∃s t,gg=s::t:=by
       cases gg with
       |nil=>exact .inl rfl
       |cons s t=>exact .inr ⟨s,t,rfl⟩
      ·subst fl;obtain⟨rfl,rfl,rfl⟩:=tY e6;apply RG;simp only[go_sem,iv,pt,fH,aaO,abo,gt_iff_lt,Int.lt_irrefl,decide_false];refine bf bd [4,0,1,2,3] fun dj=>?_;refine ae dj fun hz b8 aa g2=>?_;have gr:eR hz v12 a.f:=hC.sl aa g2;refine ad b8 [0,1,2,3] [sg pb _,D11] [A11,B3] rfl iG rfl (kf (s:=fK) (h3.le (abV k411 aa)) gr a3 bg (dA.le aa) (by rw[ht];simp only[aa9];omega)) fun v kn qs b7 ed hq=>?_;obtain⟨dv10,D10,rs,rfl,dI,B10,rfl,d1⟩:=hq;rw[ht]at dI d1;have tf:=dK h.ok a3 (s:=fK) bg;rw[ht]at tf;simp only at dI d1 tf;simp only[aaz,aaA]at b7 |-;apply RG;simp only[go_sem,iv,pt,fH,sD,rD];refine bf b7 [2,0,1,3,4] fun dd=>?_;refine ae dd fun hw dc a9 g5=>?_;have dx:eR hw v gt:=d1.sl a9 g5;have k1114:=abV aa (abV ed a9);have k414:=abV k411 k1114;refine ad dc [3,0,1,2] [B3] [sg pb _,D10,A11] rfl eI rfl (cS (N:=ts.length) ab (hB.le k414) ey dx tf) fun v h0 qs bc aj hq=>?_;obtain⟨B14,rfl,c1⟩:=hq;simp only[aaz,aaA]at bc |-;apply RG;simp only[go_sem,iv,pt,fH,sD,rD];refine XN (l:=[.int .i64 ((o+1:Nat):Int)]) rfl (cellsU bc (.tail _ (.tail _ (.head _))) (ay (by simp[cg]) rfl)) (.inr ⟨jq,rfl⟩) ?_;apply RG;simp only[go_sem,iv,pt,fH,sD,rD,kE o ho];refine bf bc [1,2,3,0] fun da=>?_;refine bw da rfl rfl rfl rfl rfl (by exact uZ) (by simp) fun c9=>?_;apply RG;simp only[go_sem,iv,pt,fH,sD,rD,fc];obtain⟨ta,tc,rfl⟩:=c1.shape
       exact a7 (i+1,v8,.slice ta (Syn.joinAll ri.f gt).length tc,dv10) _ _ dt (bJ (by simp only[go_sem,aa6,iv,pt,fH])) (by simp only[go_sem,aa6,Tf]) ⟨h0,D10,A11,B14,_,rfl,c9,abV a4 (abV k414 aj),e0,b1,by simpa[aaT]using dI.le (abV a9 aj),d2.le (abV k1114 aj),c1,ey.joinAll tf,by simp only[aa9];unfold aN;unfold aN at eH;omega⟩
      ·have eo:=e6;rw[cB]at eo;obtain⟨m2,cc,rfl,jd,kx,cd⟩:=wI eo;have cp:=cd.len;have kr:gg.length=gg'.length+1:=by rw[cB];rfl
       have gf:gg.length<=gc:=er;have ki:decide ((gg.length:Int)>0)=true:=by simp;omega
       have i2:gg[0]?=some s:=by rw[cB];rfl
       obtain⟨gb,goff,gcs,rfl,fz,c7⟩:=hG.load iD.len i2;obtain⟨za,zk,rfl,ec⟩:=fz.shape;apply RG;simp only[go_sem,iv,pt,fH,ki];refine⟨ab,?_⟩;refine XN (l:=[iv s.1,.slice za (T.subs s.2).length zk,iv (T.plc (T.subs s.2) s.2)]) (v:=.agg #[iv s.1,.slice za (T.subs s.2).length zk,iv (T.plc (T.subs s.2) s.2)]) rfl (by simpa using cellsU bd (.head _) c7) (.inl ⟨sM,rfl⟩) ?_;apply RG;simp only[go_sem,iv,pt,fH];refine ax bd (by exact jH) rfl rfl rfl rfl rfl bg fun nb3 hz dj ak fo=>?_;apply RG;simp only[go_sem,iv,pt,fH];refine⟨ab,?_⟩;have dx:eR hD (.slice (sO (some ⟨gb,goff,none⟩) 3 1 gc) (gg.length-1) (gc-1)) gg':=Sl.tail (R:=iD) (fun{I} c a h=>iD.len c a h) (by rw[<-cB];exact hG) gf;have fk:eR hz (.slice (some ⟨nb3,0,none⟩) 1 1) [s]:=⟨_,_,rfl,.inr ⟨nb3,0,[iv s.1,.slice za (T.subs s.2).length zk,iv (T.plc (T.subs s.2) s.2)],rfl,az fo (by simp[aD,Value.cells]) (by simp[aD,Value.cells,iv]),.one ⟨_,_,rfl,ec.le ak⟩⟩⟩;have fns:FN ts.length [s]:=⟨cq.head (by rw[<-cB];exact cf.ok),fun t ht=>by simp at ht;subst ht;exact cf.le t (by rw[cB];exact .head _)⟩;have fng:FN ts.length gg':=⟨cq.tail (by rw[<-cB];exact cf.ok),fun t ht=>cf.le t (by rw[cB];exact .tail _ ht)⟩;obtain⟨ix,i3⟩:=MU ih ab ab jd;refine ad dj [0,1,2,3,4] [sg pb _,D11] [A11,B3,C11] rfl i3 rfl (ix (h3.le (abV k411 ak)) fk fns (dA.le ak) (by simp only[aa9]at cp |-;omega)) fun v kn qs b8 aa hq=>?_;obtain⟨dv13,D13,rs,rfl,gT,⟨A13,B13,va13,vb13,rfl,rfl,hh,g7⟩,cl,j0⟩:=hq;simp only[aaz,aaA]at b8 |-;apply RG;simp only[go_sem,iv,pt,fH];refine bf b8 [2,0,1,3,4,5,6] fun b7=>?_;refine ae b7 fun hw dd a1 hb=>?_
       have gl:eE hw va13 cc.l:=hh.sl a1 hb;refine bf dd [3,0,1,2,4,5] fun dc=>?_;have k1214:=abV ak (abV aa a1);have ia:=cp.1;simp only[aa9]at ia;unfold aN at eH;refine bl dc (by exact dQ) (d2.le k1214) gl (fun{I J c a} h k=>bm.le h k) (fun{I} c a h=>bm.len c a h) (fun{I} c a h=>bm.ones h) rfl rfl rfl rfl (by simp only[aa9];omega) (by simp only[aa9];unfold maxLen;omega) fun na nc h0 A15 bc aj hg=>?_;apply RG;simp only[go_sem,iv,pt,fH];refine bf bc [3,0,1,2,4,5] fun da=>?_;refine ae da fun kl c9 cx g4=>?_;have k1416:=abV a1 (abV aj cx);have go:eR kl vb13 cc.f:=g7.sl k1416 g4;refine ad c9 [0,1,2,3,4] [] [A15,sg pb _,D13,B3,C11] rfl jl rfl (kM (s:=bB)) fun v2 k1 qs em aS hq=>?_;obtain⟨rfl,ep⟩:=hq;simp only[aaz,aaA]at em |-;obtain⟨fi2,first2,cap2,rfl,gi2,ci2⟩:=id ep;apply RG;simp only[go_sem,iv,pt,fH];have k417:=abV k411 (abV ak (abV aa (abV k1416 aS)));refine ad em [1,0,2,3,4] [sg pb _] [A15,D13,B3,C11] rfl jD rfl (jC (h3.le k417) (go.le aS) cl ep) fun v kO qs el ct hq=>?_;obtain⟨A17,B17,va17,vb17,rfl,rfl,cm,d0⟩:=hq;have hM:=fm h.ok cl (is:=bD bB);have hT:=gE h.ok cl (bD bB);have e7:=dC h.ok cl (bD bB);obtain⟨more,dne,fj⟩:∃yes g,aM ts cc.f (bD bB)=(yes,g):=⟨_,_,rfl⟩;rw[fj]at cm d0 hM hT e7 cd;simp only at cm d0 hM hT e7 cd;obtain⟨ma,mc,rfl⟩:=cm.shape;simp only[aaz,aaA]at el |-;apply RG;simp only[go_sem,iv,pt,fH];refine bf el [1,0,2,3,4,5,6] fun f1=>?_;refine ae (c:=.st _) f1 fun hv f0 aq g9=>?_
       have jo:qO hv (.slice ma more.length mc) more:=cm.sl aq g9;have k1219:=abV ak (abV aa (abV k1416 (abV aS (abV ct aq))));refine aA (fun x=>more.length-x.1) (RM pb (fH pb (if par then 207 else 83)) (.slice na (ri.l++l++cc.l).length nc) vb v12 vb17 (.slice (some ⟨b,off,none⟩) al.length hc) al.length i (.slice ma more.length mc) more.length) (YA [sg pb (cg lv fv ov dv13 (o+1)),B17,A15,D13,B3,C11] more gg' hv) (0,.slice (sO (some ⟨gb,goff,none⟩) 3 1 gc) (gg.length-1) (gc-1)) (bJ (by simp only[go_sem,aa6,iv,pt,fH])) (by simp only[go_sem,aa6,RM]) ?_ ?_
       ·exact⟨hv,rfl,f0,abW _,aaL _,dx.le k1219,show gg.length-1<=gc-1 by omega⟩
       rintro⟨j,v14⟩ H ⟨kB,rfl,c8,an,ie,cj,c0⟩ c3;simp only at ie cj c0;simp only[RM];have hS:∀y∈more,kS ts y/\y.at'<ts.length:=fun y hy=>⟨(hM y hy).1,qo bg (hM y hy).1 (hM y hy).2⟩;have et:FN ts.length ((more.take j).foldl joinH1 gg'):=m8 (fun y hy=>hS y (abf hy)) fng;have gs:=et.len;rcases aaf j more.length with eg|ic
       ·have fa:decide ((j:Int)<(more.length:Int))=true:=by simp;omega
        have e3:=wrap64 (n:=j+1) ab;have hu:IntKind.i64.wrap ((j:Int)+1)=((j+1:Nat):Int):=by rw[<-e3];congr 1
        obtain⟨y,hy⟩:∃y,more[j]?=some y:=⟨_,aak eg⟩;have fg:=hS y (aaV hy);have h4:=fg.2;have e4:=wrap64 (n:=y.at'+1) ab;have hU:IntKind.i64.wrap ((y.at':Int)+1)=((y.at'+1:Nat):Int):=by rw[<-e4];congr 1
        obtain⟨b2,off2,cs2,rfl,dw,ao⟩:=(qO.le jo an).load l7.len hy;obtain⟨ua,uk,rfl,a6⟩:=dw;have a5:=dm (g:=joinH1) (z:=gg') hy;apply RG;simp only[go_sem,fa,iv,pt,fH];refine⟨ab,?_⟩;refine XN (l:=[iv y.at',sD ua uk y.cond,rD y.cond,.int .u8 y.kind,.string ⟨⟨y.text⟩⟩]) (v:=.agg #[iv y.at',sD ua uk y.cond,rD y.cond,.int .u8 y.kind,.string ⟨⟨y.text⟩⟩]) rfl (cellsU c8 (.head _) ao) (.inl ⟨gI,rfl⟩) ?_;apply RG;simp only[go_sem,fa,iv,pt,fH,sD,rD];refine eP [0,2,3,4,5,6,1,7,8] [] [] ?_;apply au;simp only[go_sem,iv,pt,fH,sD,rD,hU];refine aE c8 [0,1,2,3,4,5] [] [sg pb _,B17,A15,D13,B3,C11] rfl HC rfl (Hv cj ab) fun v hX qs b6 cr hq=>?_;obtain⟨E21,rfl,ez⟩:=hq;obtain⟨ca,ck,rfl⟩:=ez.shape;simp only[aaz,aaA]at b6 |-;apply au;simp only[go_sem,iv,pt,fH,sD,rD,hU];refine aE b6 [0,1,2,3,4,5,6] [E21] [sg pb _,B17,A15,D13,B3,C11] rfl ej rfl (bK (a:=y.at'+1) ez (a6.le cr) et.ok.2 (fun t ht=>by have:=et.le t ht;omega) ab ab) fun v hW qs b5 ag hq=>?_;obtain⟨E22,rfl,dy⟩:=hq;have hO:=dy.cap iD.len;simp only[aaz,aaA]at b5 |-;apply au;simp only[go_sem,iv,pt,fH,sD,rD];refine aw ?_;refine ae (c:=.st _) b5 fun hV b4 ac gF=>?_;have es:eR hV v _:=dy.sl ac gF;obtain⟨wa,wc,rfl⟩:=dy.shape;apply RG;simp only[go_sem,iv,pt,fH,sD,rD,hu];rw[show Syn.join ((more.take j).foldl joinH1 gg') (y.at'+1) y.cond=(more.take (j+1)).foldl joinH1 gg' from a5.symm]at es hO |-;exact c3 (j+1,.slice wa _ wc) _ _ dt (bJ (by simp only[go_sem,aa6,iv,pt,fH])) (by simp only[go_sem,aa6,RM]) ⟨hV,rfl,b4,abV an (abV cr (abV ag ac)),eg,es,hO⟩
       ·have fs:j=more.length:=by omega
        subst fs;have fa:=Z6 more.length;rw[aaS]at cj et gs;apply RG;simp only[go_sem,fa,iv,pt,fH];refine bf c8 [1,0,2,3,4,5] fun b6=>?_;refine ae b6 fun hX b5 ag g3=>?_;have g0:eR hX vb17 dne:=d0.sl (abV aq (abV an ag)) g3;have k1221:=abV k1219 (abV an ag);refine ad b5 [4,0,1,2,3] [C11] [sg pb _,A15,D13,B3] rfl eI rfl (cS (N:=ts.length) ab (hC.le k1221) a3 g0 e7) fun v hW qs b4 ac hq=>?_;obtain⟨C22,rfl,g1⟩:=hq;simp only[aaz,aaA]at b4 |-;apply RG;simp only[go_sem,iv,pt,fH];refine bf b4 [1,3,2,4,0] fun fC=>?_;have k1522:=abV cx (abV aS (abV ct (abV aq (abV an (abV ag ac)))));refine c4 ⟨m2+1,.slice na (ri.l++l++cc.l).length nc,v,v14,dv13⟩ _ _ dt (bJ (by simp only[go_sem,aa6,iv,pt,fH])) (by simp only[go_sem,aa6,RS]) ⟨hW,D13,A15,C22,_,_,_,_,rfl,fC,abV cy (abV k1221 ac),by simp only;omega,cd,cj.le (abV ag ac),c0,et,g1,a3.joinAll e7,by rw[<-aaT];exact bQ.le hg k1522,?_⟩;have:=gT.le (abV a1 (abV aj k1522));simpa[aaT]using this
  ·have hn:(x.text == [40])=false:=by
    rw[abS];exact d3
   rw[aaq d3]at hy;cases hy
   apply RG;simp only[go_sem,eA,iv,pt,sD,rD,hn,abK];refine ad ek [0,1,2,3] [sg pb _,D3] [A3,B3] rfl kX rfl (ow h3 eb.le bx hE (by simp[cJ]at b0 |-;omega)) fun v I4 qs b3 am hq=>?_;obtain⟨dv2,D4,rs,rfl,gC,rfl⟩:=hq;simp only[aaz,aaA]at b3 |-;apply RG;simp only[go_sem,iv,pt,sD,rD,fc];exact a7 (i+1,va,vb,dv2) _ _ dt (bJ (by simp only[go_sem,aa6,iv,pt,fH])) (by simp only[go_sem,aa6,Tf]) ⟨I4,D4,A3,B3,_,rfl,b3,abV a4 am,e0,b1,by simp only;rw[<-aaT];exact gC,by simpa using hA.le am,hB.le am,ey,by simpa using gk⟩
 ·have i0:i=al.length:=by omega
  subst i0;have eA:=Z6 al.length;rw[abH]at e5;cases e5
  apply RG;simp only[go_sem,eA,iv,pt];exact af rfl ek (r:=[va,vb]) rfl (abV c6 a4) ⟨_,D3,[A3,B3],rfl,hE,⟨A3,B3,va,vb,rfl,rfl,hA,hB⟩,ey,gk⟩
end
end Go.Proofs.YtfaclfkpnmcmlaaGreatDoor
