import Derived.Test.YtfaclfkpnmcmlaaGreatDoorH12
import Derived.Test.YtfaclfkpnmcmlaaGreatDoorH13
set_option maxHeartbeats 8000000
set_option linter.all false
namespace Go.Proofs.YtfaclfkpnmcmlaaGreatDoor
open Go Go.Sx Dg Syn
def Bj:aO Tryz.prog 270:=⟨_,Tryz.func270,rfl,rfl⟩
def UO(g:aB->Option Syn.bW)(r:Syn.bW)(h:aB):Option Syn.bW:=match g h with
 |some x=>if (r.l++x.l).length<=aN then some ⟨r.l++x.l,Syn.joinAll r.f x.f,r.e++x.e⟩else none
 |none=>none
theorem vX(ts:List Tok)(f:ar)(g:aB->Option Syn.bW):cT ts f g=lH (UO g) ⟨[],[],[]⟩ (bE ts f):=rfl
def pC{g:aB->Option Syn.bW}{r r':Syn.bW}{h:aB}(e:UO g r h=some r'):∃x,g h=some x/\(r.l++x.l).length<=aN/\r'=⟨r.l++x.l,Syn.joinAll r.f x.f,r.e++x.e⟩:=by
 unfold UO at e;split at e
 ·rename_i x hx;split at e
  ·rename_i hl;cases e
   exact⟨x,hx,hl,rfl⟩
  ·cases e
 ·cases e
def yg{α β:Type}{g:α->β->Option α}{z r:α}{x:β}{l:List β}(e:lH g z (x::l)=some r):∃z',g z x=some z'/\lH g z' l=some r:=by
 unfold lH at e;split at e
 ·rename_i b hb;exact⟨b,hb,e⟩
 ·cases e
def oF{α β:Type}{g:α->β->Option α}{z r:α}{l:List β}{i:Nat}{x:β}(hx:l[i]?=some x)(e:lH g z (l.drop i)=some r):∃z',g z x=some z'/\lH g z' (l.drop (i+1))=some r:=by
 have aa:i<l.length:=by
  rcases aaf i l.length with h|h
  ·exact h
  ·rw[aan h]at hx;cases hx
 have hd:l.drop i=x::l.drop (i+1):=by
  rw[aaK aa];rw[aak aa]at hx;rw[aaZ hx]
 rw[hd]at e;exact yg e
def xq{g:aB->Option Syn.bW}:∀{l:List aB} {z r:Syn.bW},lH (UO g) z l=some r->z.e.length<=r.e.length
 | [],z,r,e=>by cases e;exact ZR _
 |x::l,z,r,e=>by
  obtain⟨z',h1,h2⟩:=yg e;obtain⟨y,_,_,rfl⟩:=pC h1;have:=xq h2;simp only[aa9]at this;omega
def kE(o:Nat)(h:o<=64):IntKind.i64.wrap (((o+1:Nat):Int)-1)=(o:Int):=by
 have:=cH (a:=o+1) (b:=1) ab ab;rw[show ((1:Nat):Int)=1 from rfl]at this;rw[this];omega
section
variable {pb:Nat} {ts:List Tok} {lv fv ov:Value}
def WC(pb:Nat)(ts:List Tok)(lv fv ov:Value)(o:Nat)(hs:List aB)(g:aB->Option Syn.bW)(r:Syn.bW)(e:List cO)(I0:PH)(x:Nat×Value×Value×Value)(H:PH):Prop:=
 ∃I D A B ri,H=U [I,sg pb (cg lv fv ov x.2.2.2 o),D,A,B]/\Dj [I,sg pb (cg lv fv ov x.2.2.2 o),D,A,B]/\I0.le I/\x.1<=hs.length/\lH (UO g) ri (hs.drop x.1)=some r/\eF I D x.2.2.2 (e++ri.e)/\bQ I A x.2.1 ri.l/\jy I B x.2.2.1 ri.f/\FN ts.length ri.f/\ri.l.length<=aN
def UA(pb slot:Nat)(vh:Value)(n:Nat)(x:Nat×Value×Value×Value):St:=⟨dn 63 [(0,.v (pt pb)),(2,.v (iv slot)),(8,.v x.2.1),(9,.v x.2.2.1),(16,.v vh),(17,.v (iv n)),(18,.v (iv x.1))],[]⟩
theorem J6{n:Nat}(ih:kP pb ts lv fv ov n){o:Nat}{f:ar}{slot:Nat}{r:Syn.bW}(hr:Syn.run ts n (.inside o f slot)=some r):vQ pb ts lv fv ov (.inside o f slot) r:=by
 obtain⟨m,rfl,hs⟩:=bR hr;have c6:cT ts f (ml ts (Syn.run ts m) o slot)=some r:=hs;rw[vX]at c6;clear hs hr;intro ho I D dv vf e h hf fn he hm hd;have hl:=h.len;refine ah 63 Tryz.func270 fun w0=>?_
 try simp only[iv,pt]
 refine aT ?_;refine DY hd [0,1] rfl kU rfl (ps:=[sg pb _]) (F:=[D]) rfl (kW h hf fn) fun v I2 qs c8 a1 hq=>?_;obtain⟨rfl,hH⟩:=hq;obtain⟨ha,hc,rfl,_⟩:=id hH;simp only[aaz,aaA]at c8 |-;refine dP ?_;have hN:∀x∈bE ts f,kS ts x:=fun x hx=>b9 h.ok fn hx;have ei:=fM h.ok fn;have d1:=hH;generalize bE ts f=ao at *;refine aR c8 fun dy=>?_;refine aR dy fun dx=>?_;refine bf dx [2,3,0,1] fun dw=>?_;refine aA (fun x=>ao.length-x.1) (UA pb slot (.slice ha ao.length hc) ao.length) (WC pb ts lv fv ov o ao (ml ts (Syn.run ts m) o slot) r e I2) (0,.slice none 0 0,.slice none 0 0,dv) gP (by simp only[go_sem,aa6,UA]) ?_ ?_
 ·exact⟨I2,D,PH.no,PH.no,⟨[],[],[]⟩,rfl,dw,abW _,aaL _,c6,by simpa using eF.le he a1,Ow.nil _ _ _ _,Ow.nil _ _ _ _,FN.nil _,aaL _⟩
 rintro⟨i,va,vb,dv⟩ H ⟨I3,D3,A3,B3,ri,rfl,bd,aj,dk,b5,hE,hA,hB,b0,b6⟩ aq;simp only at dk b5 hE hA hB;simp only[UA];have d0:qO I3 (.slice ha ao.length hc) ao:=d1.le aj;rcases aaf i ao.length with b4|ek
 ·have b2:decide ((i:Int)<(ao.length:Int))=true:=by simp;omega
  have e1:=wrap64 (n:=i+1) ab;have ca:IntKind.i64.wrap ((i:Int)+1)=((i+1:Nat):Int):=by rw[<-e1];congr 1
  obtain⟨x,hx⟩:∃x,ao[i]?=some x:=⟨_,aak b4⟩;have da:=aaV hx;have b3:=hN x da;obtain⟨b,off,cs,rfl,dA,bx⟩:=d0.load l7.len hx;obtain⟨xa,xk,rfl,a6⟩:=dA;obtain⟨r',dc,a3⟩:=oF hx b5;have a2:=xq a3;obtain⟨y,hy,cc,rfl⟩:=pC dc;have h3:=h.le (abV a1 aj);simp only[aa9]at a2 cc;apply RG;simp only[go_sem,b2,iv,pt];refine⟨ab,?_⟩;refine XN (l:=[iv x.at',sD xa xk x.cond,rD x.cond,.int .u8 x.kind,.string ⟨⟨x.text⟩⟩]) (v:=.agg #[iv x.at',sD xa xk x.cond,rD x.cond,.int .u8 x.kind,.string ⟨⟨x.text⟩⟩]) rfl (cellsU bd (.head _) bx) (.inl ⟨gI,rfl⟩) ?_;unfold ml at hy;by_cases bc:x.text=eM
  ·have c5:(x.text == [40])=true:=by rw[bc];decide
   rw[ZV (by simp[bc])]at hy;apply RG;simp only[go_sem,b2,iv,pt,sD,rD,c5,abQ];by_cases a7:o=64
   ·rw[aaq a7]at hy;cases hy
    subst a7;refine ad bd [0,1,2,3] [sg pb _,D3] [A3,B3] rfl jh rfl (nq h3 b3.le a6 hE (by simp[cJ]at a2 |-;omega)) fun v I4 qs a5 aa hq=>?_;obtain⟨dv2,D4,rs,rfl,c1,rfl,rfl⟩:=hq;simp only[aaz,aaA]at a5 |-;apply RG;simp only[go_sem,iv,pt,sD,rD,ca,abK];exact aq (i+1,va,vb,dv2) _ _ dt gP (by simp only[go_sem,aa6,UA]) ⟨I4,D4,A3,B3,_,rfl,a5,abV aj aa,b4,a3,by simp only;rw[<-aaT];exact c1,by simpa using hA.le aa,hB.le aa,b0,by simpa using b6⟩
   ·rw[ZV a7]at hy;obtain⟨a,dI,cf⟩:=bU hy;obtain⟨g,e2,ht⟩:∃g e1,Syn.take ts a.f fK=(g,e1):=⟨_,_,rfl⟩;rw[ht]at cf;simp only at cf;cases cf
    have ci:=b3.lt (.inl (by rw[bc];decide));have ee:=wrap64 (n:=x.at'+1) ab;have e2'':IntKind.i64.wrap ((x.at':Int)+1)=((x.at'+1:Nat):Int):=by rw[<-ee];congr 1
    refine ad bd [0,1,2,3] [sg pb _] [D3,A3,B3] rfl jh rfl (lz (h:=x) (a:=xa) (k:=xk) ab) fun v I4 qs a5 aa hq=>?_;obtain⟨rfl,rfl,rfl⟩:=hq;simp only[aaz,aaA]at a5 |-;apply RG;simp only[go_sem,iv,pt,sD,rD,ca,e2'',abQ];refine ax a5 (by exact jH) rfl rfl rfl rfl rfl bg fun nb I5 ds a0 dd=>?_;have eb:eR I5 (.slice (some ⟨nb,0,none⟩) 1 1) (bv x):=⟨_,_,rfl,.inr ⟨nb,0,[iv (x.at'+1),sD xa xk x.cond,rD x.cond],rfl,az dd (by simp[aD,Value.cells]) (by simp[aD,Value.cells,iv,sD,rD]),.one ⟨_,_,rfl,a6.le a0⟩⟩⟩;refine dg ?_;simp only[aaT,aa9]at a2 hm cc;refine ad ds [0,1,2,3] [sg pb _,D3] [A3,B3] rfl rU rfl (rT (ih m (aba m) _ _ dI) ab (h3.le a0) eb (bH b3 ci) (hE.le a0) (by simp only[aa9];omega)) fun v I6 qs c7 cj hq=>?_;obtain⟨dv6,D6,rs,rfl,d3,⟨A6,B6,va6,vb6,rfl,rfl,ed,ea⟩,c9,el⟩:=hq;simp only[aaz,aaA]at c7 |-;refine dg ?_;refine bf c7 [2,0,1,3,4,5] fun cB=>?_;refine ae cB fun I7 cA an c4=>?_;have dT:eE I7 va6 a.l:=ed.sl an c4;refine bf cA [3,0,1,2,4] fun cy=>?_;have cb:=abV a0 (abV cj an);unfold aN at cc b6;refine bl cy (by exact dQ) (hA.le cb) dT (fun{I J c a} h k=>bm.le h k) (fun{I} c a h=>bm.len c a h) (fun{I} c a h=>bm.ones h) rfl rfl rfl rfl ab (by unfold maxLen;omega) fun na nc I8 A8 cx am ec=>?_;refine dg ?_;refine bf cx [3,0,1,2,4] fun ct=>?_;refine ae ct fun I9 cr ac c3=>?_;have d2:eR I9 vb6 a.f:=ea.sl (abV an (abV am ac)) c3;have k9:=abV a1 (abV aj (abV cb (abV am ac)))
    refine ad cr [1,2,0,3] [sg pb _,D6] [A8,B3] rfl iG rfl (kf (s:=fK) (h.le k9) d2 c9 bg (d3.le (abV an (abV am ac))) (by rw[ht];simp only[aa9];omega)) fun v em qs bs a4 hq=>?_;obtain⟨dv10,D10,rs,rfl,ba,B10,rfl,bb⟩:=hq;rw[ht]at ba bb;have tf:=dK h.ok c9 (s:=fK) bg;rw[ht]at tf;simp only at ba bb tf;simp only[aaz,aaA]at bs |-;refine dg ?_;refine bf bs [2,0,1,3,4] fun cp=>?_;refine ae cp fun eg cn ak c2=>?_;have c0:eR eg v g:=bb.sl ak c2;have k311:=abV cb (abV am (abV ac (abV a4 ak)));refine ad cn [3,0,1,2] [B3] [sg pb _,D10,A8] rfl eI rfl (cS (N:=ts.length) ab (hB.le k311) b0 c0 tf) fun v ef qs a9 aS hq=>?_;obtain⟨B12,rfl,b1⟩:=hq;simp only[aaz,aaA]at a9 |-;refine dg ?_;refine XN (l:=[.int .i64 ((o+1:Nat):Int)]) rfl (cellsU a9 (.tail _ (.tail _ (.head _))) (ay (by simp[cg]) rfl)) (.inr ⟨jq,rfl⟩) ?_;apply RG;simp only[go_sem,iv,pt,sD,rD,kE o ho];refine bf a9 [1,2,3,0] fun cm=>?_;refine bw cm rfl rfl rfl rfl rfl (by exact uZ) (by simp) fun cl=>?_;apply RG;simp only[go_sem,iv,pt,sD,rD,ca];obtain⟨ta,tc,rfl⟩:=b1.shape;exact aq (i+1,.slice na (ri.l++a.l).length nc,.slice ta (Syn.joinAll ri.f g).length tc,dv10) _ _ dt gP (by simp only[go_sem,aa6,UA]) ⟨ef,D10,A8,B12,_,rfl,cl,abV aj (abV k311 aS),b4,a3,by simpa[aaT]using ba.le (abV ak aS),bQ.le ec (abV ac (abV a4 (abV ak aS))),b1,b0.joinAll tf,by simp only[aa9];unfold aN;omega⟩
  ·have c5:(x.text == [40])=false:=by
    rw[abS];exact bc
   rw[aaq bc]at hy;cases hy
   apply RG;simp only[go_sem,b2,iv,pt,sD,rD,c5,abK];refine ad bd [0,1,2,3] [sg pb _,D3] [A3,B3] rfl kX rfl (ow h3 b3.le a6 hE (by simp[cJ]at a2 |-;omega)) fun v I4 qs a5 aa hq=>?_;obtain⟨dv2,D4,rs,rfl,c1,rfl⟩:=hq;simp only[aaz,aaA]at a5 |-;apply RG;simp only[go_sem,iv,pt,sD,rD,ca];exact aq (i+1,va,vb,dv2) _ _ dt gP (by simp only[go_sem,aa6,UA]) ⟨I4,D4,A3,B3,_,rfl,a5,abV aj aa,b4,a3,by simp only;rw[<-aaT];exact c1,by simpa using hA.le aa,hB.le aa,b0,by simpa using b6⟩
 ·have dj:i=ao.length:=by omega
  subst dj;have b2:=Z6 ao.length;rw[abH]at b5;cases b5
  apply RG;simp only[go_sem,b2,iv,pt];exact af rfl bd (r:=[va,vb]) rfl (abV a1 aj) ⟨_,D3,[A3,B3],rfl,hE,⟨A3,B3,va,vb,rfl,rfl,hA,hB⟩,b0,b6⟩
end
open Go Go.Sx Dg Syn
def BR:aO Tryz.prog 135:=⟨_,Tryz.func135,rfl,rfl⟩
section
variable {pb:Nat} {ts:List Tok} {lv fv ov:Value}
def LQ(pb:Nat)(ts:List Tok)(lv fv ov:Value)(n:Nat)(top:Bool)(o:Nat)(I0:PH)(vr:Value):Prop:=
 ∃fid first cap,vr=.func (.func fid) first cap/\aO Tryz.prog fid/\∀m,m<n->∀(x:aB) a,zy (Syn.run ts m) top o x=some a->
  ∀{I D:PH} {dv:Value} {xa:Option Addr} {xk:Nat} {e:List cO},I0.le I->zr I ts lv fv->kS ts x->cX I (.agg #[sD xa xk x.cond,rD x.cond]) x.cond->eF I D dv e->e.length+a.e.length<=ux->
   aK Tryz.prog fid (first++[yL xa xk x].toArray++cap) I [sg pb (cg lv fv ov dv o),D] (PP pb lv fv ov o (e++a.e) (Uq ts a))
def XJ(pb:Nat)(ts:List Tok)(lv fv ov:Value)(o:Nat)(I:PH)(v:Value)(is:aB->Bool):Prop:=∃f first cap,v=.func (.func f) first cap/\aO Tryz.prog f/\∀J,I.le J->zr J ts lv fv->∀(dv:Value) (h:aB) (a:Option Addr) (k:Nat),cX J (.agg #[sD a k h.cond,rD h.cond]) h.cond->
 aK Tryz.prog f (first++[yL a k h].toArray++cap) J [sg pb (cg lv fv ov dv o)] fun v I2 qs=>qs=[sg pb (cg lv fv ov dv o)]/\v=.bool (is h)
variable{o:Nat}
def JE.toP{I:PH}{v:Value}{is:aB->Bool}(h:JE I v is):XJ pb ts lv fv ov o I v is:=by
 obtain⟨f,first,cap,rfl,g,c⟩:=h;refine⟨f,first,cap,rfl,g,fun J hJ _ dv x a k hr hd=>?_⟩;refine((c J hJ x a k hr).frame (F:=[sg pb (cg lv fv ov dv o)]) hd).mono fun v H2 ⟨I2,qs,e1,e2,e3,e4,e5⟩=>?_;subst e4;exact⟨I2,_,e1,e2,e3,rfl,e5⟩
structure YH where
 m:Nat
 fl:Nat
 vf:Value
 vl:Value
 vo:Value
 dv:Value
def UI(pb:Nat)(vi vr:Value)(x:YH):St:=⟨dn 62 [(0,.v (pt pb)),(1,.v x.vf),(2,.v vi),(3,.v vr),(10,.v x.vl),(11,.v x.vo)],[]⟩
def Left(ts:List Tok)(top:Bool)(o:Nat)(r:Syn.bW)(m:Nat)(f:ar)(l:List Nd)(out:ar)(ee:List cO):Prop:=
 ∃b,Syn.run ts m (.seqL top o f l out)=some b/\b.l=r.l/\b.f=r.f/\ee++b.e=r.e
def Zs(pb:Nat)(ts:List Tok)(lv fv ov:Value)(top:Bool)(n o:Nat)(r:Syn.bW)(e:List cO)(I0:PH)(x:YH)(H:PH):Prop:=
 ∃I D A B f l out ee,H=U [I,sg pb (cg lv fv ov x.dv o),D,A,B]/\Dj [I,sg pb (cg lv fv ov x.dv o),D,A,B]/\I0.le I/\x.m<=n/\x.fl=f.length/\Left ts top o r x.m f l out ee/\
  eR I x.vf f/\FN ts.length f/\eF I D x.dv (e++ee)/\bQ I A x.vl l/\jy I B x.vo out/\FN ts.length out/\l.length<=aN
def Up(pb:Nat)(vi vr:Value)(vh:Value)(n:Nat)(x:Nat×Value×Value×Value×Value):St:=⟨dn 62 [(0,.v (pt pb)),(1,.v x.2.1),(2,.v vi),(3,.v vr),(10,.v x.2.2.1),(11,.v x.2.2.2.1),(23,.v vh),(24,.v (iv n)),(25,.v (iv x.1))],[]⟩
def Zp(pb:Nat)(ts:List Tok)(lv fv ov:Value)(top:Bool)(m o:Nat)(r:Syn.bW)(e:List cO)(hs:List aB)(I0:PH)(f0:ar)(l0:List Nd)(out0:ar)(ee0:List cO)(x:Nat×Value×Value×Value×Value)(H:PH):Prop:=
 ∃I D A B C f l out ee,H=U [I,sg pb (cg lv fv ov x.2.2.2.2 o),D,A,B,C]/\Dj [I,sg pb (cg lv fv ov x.2.2.2.2 o),D,A,B,C]/\I0.le I/\x.1<=hs.length/\
  jy I C x.2.1 f/\FN ts.length f/\eF I D x.2.2.2.2 (e++ee)/\bQ I A x.2.2.1 l/\jy I B x.2.2.2.1 out/\FN ts.length out/\l.length<=aN/\
  ((x.1=0/\f=[]/\l=l0/\out=out0/\ee=ee0)\/(0<x.1/\Left ts top o r m ((hs.drop x.1).foldl joinH f) l out ee))
variable{ee:List cO}{l:List Nd}{f out:ar}{r:Syn.bW}{top:Bool}
def Left.le{m:Nat}(h:Left ts top o r m f l out ee):ee.length<=r.e.length:=by
 obtain⟨b,_,_,_,h⟩:=h;rw[<-h];simp
def LW{α:Type}{l:List α}{i:Nat}{x:α}(hx:l[i]?=some x):l.drop i=x::l.drop (i+1):=by
 have aa:i<l.length:=by
  rcases aaf i l.length with h|h
  ·exact h
  ·rw[aan h]at hx;cases hx
 rw[aaK aa];rw[aak aa]at hx;rw[aaZ hx]
def HN{m:Nat}{x:aB}{hs:List aB}(h:Left ts top o r m f l out ee)(hh:bE ts f=x::hs):∃m',m=m'+1/\
  (lF ts top x=true->Left ts top o r m' (hs.foldl joinH []) l (joinH out x) ee)/\
  (lF ts top x=false->∃a,zy (Syn.run ts m') top o x=some a/\(l++a.l).length<=aN/\Left ts top o r m' (hs.foldl joinH (Syn.joinAll [] a.f)) (l++a.l) out (ee++a.e)):=by
 obtain⟨b,hb,h1,h2,h3⟩:=h;obtain⟨m',rfl,am⟩:=bR hb;have aa:Syn.seqL ts (Syn.run ts m') top o f l out=some b:=am;unfold Syn.seqL at aa;rw[hh]at aa;simp only at aa;refine⟨m',rfl,fun hx=>?_,fun hx=>?_⟩
 ·rw[hx]at aa;exact⟨b,aa,h1,h2,h3⟩
 ·rw[ZV (by rw[hx];simp)]at aa;obtain⟨a,ha,ak⟩:=bU aa;obtain⟨u,hu,aj⟩:=bU ak;obtain⟨b',an,ac⟩:=bU aj;cases ac
  exact⟨a,ha,qK hu,b',an,h1,h2,by rw[aaT];exact h3⟩
def C6{m:Nat}(h:Left ts top o r m f l out ee)(hh:bE ts f=[]):l=r.l/\out=r.f/\ee=r.e/\∃m',m=m'+1:=by
 obtain⟨b,hb,h1,h2,h3⟩:=h;obtain⟨m',rfl,ac⟩:=bR hb;have aa:Syn.seqL ts (Syn.run ts m') top o f l out=some b:=ac;unfold Syn.seqL at aa;rw[hh]at aa;simp only at aa;cases aa
 exact⟨h1,h2,by simpa using h3,m',rfl⟩
theorem J1{n:Nat}(hr:Syn.run ts n (.seqL top o f [] [])=some r){I D:PH}{dv vf vi vr:Value}{e:List cO}(hi:XJ pb ts lv fv ov o I vi (lF ts top))(hv:LQ pb ts lv fv ov n top o I vr)(h:zr I ts lv fv)(hf:eR I vf f)(fn:FN ts.length f)(he:eF I D dv e)(hm:e.length+r.e.length<=ux):
  aK Tryz.prog 135 #[pt pb,vf,vi,vr] I [sg pb (cg lv fv ov dv o),D] (PP pb lv fv ov o (e++r.e) (Uq ts r)):=by
 intro hd;have hl:=h.len;obtain⟨fr,frst,fcap,rfl,gr,cr⟩:=id hv;obtain⟨fi,ifirst,icap,rfl,gi,ci⟩:=id hi;refine ah 62 Tryz.func135 fun w0=>?_
 try simp only[iv,pt]
 refine aT ?_;refine aR hd fun ef=>?_;refine aR ef fun ed=>?_;refine bf ed [2,3,0,1] fun ec=>?_;refine aA (fun x=>2*x.m+min x.fl 1) (UI pb (.func (.func fi) ifirst icap) (.func (.func fr) frst fcap)) (Zs pb ts lv fv ov top n o r e I) ⟨n,f.length,vf,.slice none 0 0,.slice none 0 0,dv⟩ gP (by simp only[go_sem,aa6,UI]) ?_ ?_
 ·exact⟨I,D,PH.no,PH.no,f,[],[],[],rfl,ec,abW _,ZR _,rfl,⟨r,hr,rfl,rfl,rfl⟩,hf,fn,by simpa using he,Ow.nil _ _ _ _,Ow.nil _ _ _ _,FN.nil _,aaL _⟩
 rintro⟨m,fl,vf,vl,vo,dv⟩ H ⟨I3,D3,A3,B3,f,l,out,ee,rfl,da,bb,c5,rfl,hL,cl,fn3,hE,hA,hB,dk,dd⟩ a9;simp only at c5 hL cl hE hA hB;simp only[UI];obtain⟨fa,fc,rfl,_⟩:=id cl;have h3:=h.le bb;rcases abn f.length with h0|h0
 ·
  have d3:f=[]:=List.length_eq_zero_iff.1 h0;have c3:decide ((f.length:Int)>0)=false:=by simp;omega
  obtain⟨rfl,rfl,rfl,_⟩:=C6 hL (by rw[d3];rfl);apply RG;simp only[go_sem,iv,pt,c3];exact af rfl da (r:=[vl,vo]) rfl bb ⟨_,D3,[A3,B3],rfl,hE,⟨A3,B3,vl,vo,rfl,rfl,hA,hB⟩,dk,dd⟩
 ·have c3:decide ((f.length:Int)>0)=true:=by simp;omega
  apply RG;simp only[go_sem,iv,pt,c3];refine ad da [0,1,2,3] [sg pb _] [D3,A3,B3] rfl kU rfl (kW h3 cl fn3) fun v I4 qs c9 a6 hq=>?_;obtain⟨rfl,hH⟩:=hq;obtain⟨ha,hc,rfl,_⟩:=id hH;simp only[aaz,aaA]at c9 |-;refine ll ?_;have hN:∀x∈bE ts f,kS ts x:=fun x hx=>b9 h.ok fn3 hx;have et:=fM h.ok fn3;refine aR c9 fun eb=>?_;refine bf eb [1,2,3,4,0] fun ea=>?_;refine aA (fun x=>(bE ts f).length-x.1) (Up pb (.func (.func fi) ifirst icap) (.func (.func fr) frst fcap) (.slice ha (bE ts f).length hc) (bE ts f).length) (Zp pb ts lv fv ov top (m-1) o r e (bE ts f) I4 f l out ee) (0,.slice none 0 0,vl,vo,dv) gP (by simp only[go_sem,aa6,Up]) ?_ ?_
  ·exact⟨I4,D3,A3,B3,PH.no,[],l,out,ee,rfl,ea,abW _,aaL _,Ow.nil _ _ _ _,FN.nil _,hE.le a6,hA.le a6,hB.le a6,dk,dd,.inl ⟨rfl,rfl,rfl,rfl,rfl⟩⟩
  rintro⟨i,v1,vl,vo,dv⟩ H ⟨I5,D5,A5,B5,C5,f5,l5,out5,ee5,rfl,cb,aS,dT,bs,fn5,bd,bx,bc,ak,a4,aq⟩ am;simp only at dT bs bd bx bc aq;simp only[Up];have ek:qO I5 (.slice ha (bE ts f).length hc) (bE ts f):=hH.le aS;have k5:=abV bb (abV a6 aS);have h5:=h.le k5;have c6:∀q:Nat,q<=aN->(q+0)*96<=140737488355328:=fun q hq=>by unfold aN at hq;omega
  obtain⟨m',rfl⟩:∃m',m=m'+1:=by
   obtain⟨b,hb,_⟩:=hL;obtain⟨m',e,_⟩:=bR hb;exact⟨m',e⟩
  have dA:=fn5.len;have dy:=ak.len;rcases aaf i (bE ts f).length with ca|ex
  ·have b3:decide ((i:Int)<((bE ts f).length:Int))=true:=by simp;omega
   have e1:=wrap64 (n:=i+1) ab;have eq:IntKind.i64.wrap ((i:Int)+1)=((i+1:Nat):Int):=by rw[<-e1];congr 1
   obtain⟨x,hx⟩:∃x,(bE ts f)[i]?=some x:=⟨_,aak ca⟩;have dx:=aaV hx;have b5:=hN x dx;have b0:=b5.le;obtain⟨b,off,cs,rfl,eg,b2⟩:=ek.load l7.len hx;obtain⟨xa,xk,rfl,a5⟩:=eg;have c8:=LW hx;obtain⟨c1,c2,rfl⟩:=bs.shape;apply RG;simp only[go_sem,b3,iv,pt];refine⟨ab,?_⟩;refine XN (l:=[iv x.at',sD xa xk x.cond,rD x.cond,.int .u8 x.kind,.string ⟨⟨x.text⟩⟩]) (v:=.agg #[iv x.at',sD xa xk x.cond,rD x.cond,.int .u8 x.kind,.string ⟨⟨x.text⟩⟩]) rfl (cellsU cb (.head _) b2) (.inl ⟨gI,rfl⟩) ?_;rcases abn i with c7|c7
   ·subst c7;rcases aq with ⟨_,rfl,rfl,rfl,rfl⟩|⟨cf,_⟩
    ·obtain⟨m2,em,sy,sn⟩:=HN hL c8;obtain rfl:m'=m2:=by omega
     have e01:IntKind.i64.wrap ((0:Int)+1)=((1:Nat):Int):=by decide
     apply RG;simp only[go_sem,b3,iv,pt,sD,rD,abo,gt_iff_lt,Int.lt_irrefl,decide_false];refine ad cb [0,1,2,3,4] [sg pb _] [D5,A5,B5,C5] rfl gi rfl (ci I5 k5 h5 dv x xa xk a5) fun v I6 qs a3 ac hq=>?_;obtain⟨rfl,rfl⟩:=hq;simp only[aaz,aaA]at a3 |-;cases b6:lF ts top x
     ·obtain⟨a,ha,dc,ba⟩:=sn b6;have cj:=ba.le;simp only[aa9]at dc cj;apply RG;simp only[go_sem,iv,pt,b6,sD,rD];refine ad a3 [0,1,2,3,4] [sg pb _,D5] [A5,B5,C5] rfl gr rfl (cr m' ab x a ha (abV k5 ac) (h5.le ac) b5 (a5.le ac) (bd.le ac) (by simp only[aa9];omega)) fun v I7 qs aj aa hq=>?_;obtain⟨dv7,D7,rs,rfl,el,⟨A7,B7,va7,vb7,rfl,rfl,eo,cc⟩,ds,ey⟩:=hq;simp only[aaz,aaA]at aj |-;refine dg ?_;refine bf aj [2,0,1,3,4,5,6] fun a2=>?_;refine ae a2 fun I8 cy ao c0=>?_;have ei:eE I8 va7 a.l:=eo.sl ao c0;refine bf cy [3,0,1,2,4,5] fun cx=>?_;have c4:=abV ac (abV aa ao);unfold aN at dc a4;refine bl cx (by exact dQ) (bx.le c4) ei (fun{I J c a} h k=>bm.le h k) (fun{I} c a h=>bm.len c a h) (fun{I} c a h=>bm.ones h) rfl rfl rfl rfl ab (by unfold maxLen;omega) fun na nc I9 A9 ct a1 en=>?_;refine dg ?_;refine bf ct [3,0,1,2,4,5] fun cp=>?_;refine ae cp fun es cn an cB=>?_;have cA:eR es vb7 a.f:=cc.sl (abV ao (abV a1 an)) cB;have k510:=abV c4 (abV a1 an);refine ad cn [4,0,1,2,3] [C5] [A9,sg pb _,D7,B5] rfl eI rfl (cS (N:=ts.length) ab (bs.le k510) (FN.nil _) cA ds) fun v er qs b1 a0 hq=>?_;obtain⟨C11,rfl,a7⟩:=hq;obtain⟨d1,d2,rfl⟩:=a7.shape;simp only[aaz,aaA]at b1 |-;apply RG;simp only[go_sem,iv,pt,sD,rD,e01];refine bf b1 [2,3,1,4,0] fun cm=>?_;have k511:=abV k510 a0
      exact am (0+1,.slice d1 (Syn.joinAll [] a.f).length d2,.slice na (l5++a.l).length nc,vo,dv7) _ _ dt gP (by simp only[go_sem,aa6,Up]) ⟨er,D7,A9,B5,C11,_,_,_,_,rfl,cm,abV aS k511,ca,a7,(FN.nil _).joinAll ds,by rw[<-aaT];exact el.le (abV ao (abV a1 (abV an a0))),bQ.le en (abV an a0),bc.le k511,ak,by simp only[aa9];unfold aN;omega,.inr ⟨by simp only;omega,ba⟩⟩
     ·apply RG;simp only[go_sem,iv,pt,b6,sD,rD];obtain⟨o1,o2,rfl⟩:=bc.shape;refine ad a3 [3,0,1,2,4] [B5] [sg pb _,D5,A5,C5] rfl ej rfl (bK (a:=x.at') (bc.le ac) (a5.le ac) ak.ok.2 (fun t ht=>by have:=ak.le t ht;omega) ab ab) fun v I7 qs aj aa hq=>?_;obtain⟨B7,rfl,cc⟩:=hq;obtain⟨p1,p2,rfl⟩:=cc.shape;simp only[aaz,aaA]at aj |-;apply RG;simp only[go_sem,iv,pt,sD,rD,e01];refine bf aj [1,2,3,0,4] fun a2=>?_;have b4:=abV ac aa;exact am (0+1,.slice c1 ([]:ar).length c2,vl,.slice p1 (Syn.join out5 x.at' x.cond).length p2,dv) _ _ dt (bJ (by simp only[go_sem,aa6,iv,pt,aaO])) (by simp only[go_sem,aa6,Up]) ⟨I7,D5,A5,B7,C5,_,_,_,_,rfl,a2,abV aS b4,ca,bs.le b4,FN.nil _,bd.le b4,bx.le b4,cc,ak.join b0 b5.ok,a4,.inr ⟨by simp only;omega,sy b6⟩⟩
    ·omega
   ·rcases aq with ⟨cf,_⟩|⟨_,ba⟩
    ·omega
    ·have ep:decide ((i:Int)>0)=true:=by simp;omega
     apply RG;simp only[go_sem,b3,iv,pt,sD,rD,ep];refine ad cb [4,0,1,2,3] [C5] [sg pb _,D5,A5,B5] rfl ej rfl (bK (a:=x.at') bs a5 fn5.ok.2 (fun t ht=>by have:=fn5.le t ht;omega) ab ab) fun v I7 qs aj aa hq=>?_;obtain⟨C7,rfl,dw⟩:=hq;obtain⟨p1,p2,rfl⟩:=dw.shape;simp only[aaz,aaA]at aj |-;apply RG;simp only[go_sem,iv,pt,sD,rD,eq];refine bf aj [1,2,3,4,0] fun a2=>?_;rw[c8,fu]at ba;exact am (i+1,.slice p1 (Syn.join f5 x.at' x.cond).length p2,vl,vo,dv) _ _ dt gP (by simp only[go_sem,aa6,Up]) ⟨I7,D5,A5,B5,C7,_,_,_,_,rfl,a2,abV aS aa,ca,dw,fn5.join b0 b5.ok,bd.le aa,bx.le aa,bc.le aa,ak,a4,.inr ⟨by simp only;omega,ba⟩⟩
  ·have dI:i=(bE ts f).length:=by omega
   subst dI;have b3:decide (((bE ts f).length:Int)<((bE ts f).length:Int))=false:=by simp
   apply RG;simp only[go_sem,b3,iv,pt];refine bf cb [4,0,1,2,3] fun a3=>?_;refine ae (c:=.st _) a3 fun I6 aj aa a7=>?_;have dj:eR I6 v1 f5:=bs.sl aa a7;rcases aq with ⟨cf,rfl,rfl,rfl,rfl⟩|⟨cf,ba⟩
   ·have d0:bE ts f=[]:=List.length_eq_zero_iff.1 cf;obtain⟨e2,e3,e4,_⟩:=C6 hL d0;refine a9 ⟨m'+1,0,v1,vl,vo,dv⟩ _ _ dt gP (by simp only[go_sem,aa6,UI]) ⟨I6,D5,A5,B5,[],l5,out5,ee5,rfl,aj,abV k5 aa,c5,rfl,⟨⟨l5,out5,[]⟩,rfl,e2,e3,by simpa using e4⟩,dj,FN.nil _,bd.le aa,bx.le aa,bc.le aa,ak,a4⟩
   ·rw[abH,List.foldl_nil]at ba;refine a9 ⟨m',f5.length,v1,vl,vo,dv⟩ _ _ dt gP (by simp only[go_sem,aa6,UI]) ⟨I6,D5,A5,B5,f5,l5,out5,ee5,rfl,aj,abV k5 aa,by simp only;omega,rfl,ba,dj,fn5,bd.le aa,bx.le aa,bc.le aa,ak,a4⟩
end
end Go.Proofs.YtfaclfkpnmcmlaaGreatDoor
namespace Go.Sx
open Go
section
variable {P:Program} {ol:List Oper} {fr:iK} {str:ip} {K:St->PH->Prop}
def zV:∀(l m:List Nat) {σ:St} {H:PH},VD P ol fr str K (l++m) σ H<->VD P ol fr str (VD P ol fr str K m) l σ H
 | [],m,σ,H=>Iff.rfl
 |i::l,m,σ,H=>by
  have e:VD P ol fr str K (l++m)=VD P ol fr str (VD P ol fr str K m) l:=by
   funext σ' H';exact propext (zV l m)
  simp only[aaz,VD];cases ol[i]? with
  |none=>simp only[e]
  |some o=>simp only[e]
structure Inv(ops:Array Oper)(κ:List Nat)(listed:Array Bool):Prop where
 size:listed.size=ops.size
 mem:∀i,i∈κ<->i<ops.size/\listed.getD i true=false
 closed:∀y o,ops.toList[y]?=some o->listed.getD y false=true->∀z∈kR o,listed.getD z false=true
variable{listed:Array Bool}{κ:List Nat}{ops:Array Oper}
def Inv.perm{κ':List Nat}(h:Inv ops κ listed)(hp:∀i,i∈κ'<->i∈κ):Inv ops κ' listed:=⟨h.size,fun i=>(hp i).trans (h.mem i),h.closed⟩
theorem Inv.step{l1 l2:List Nat}{i:Nat}(h:Inv ops (l1++i::l2) listed)(hi:i∉l1++l2){oi:Oper}(aa:ops.toList[i]?=some oi)(hd:∀z∈kR oi,listed.getD z false=true):Inv ops (l1++l2) (listed.setIfInBounds i true):=by
 have h1:=((h.mem i).1 (aav _ (.head _))).1;have ak:=h.size;have getset:∀(j:Nat) (d:Bool),(listed.setIfInBounds i true).getD j d=if i=j then (if i<listed.size then true else d)else listed.getD j d:=by
  intro j d;rw[ZU,aaF];by_cases e:i=j
  ·subst e;by_cases hl:i<listed.size<;>simp[hl]
  ·simp[e,ZU]
 refine⟨by simp[h.size],fun j=>?_,fun y o ho hl z hz=>?_⟩
 ·rw[getset];by_cases e:i=j
  ·subst e;simp only[ZT,aaq (show i<listed.size by omega)];exact⟨fun ac=>absurd ac hi,fun hh=>by cases hh.2⟩
  ·simp only[ZV e];rw[<-h.mem j];constructor
   ·intro hj;rcases List.mem_append.1 hj with hj|hj
    ·exact aau _ hj
    ·exact aav _ (.tail _ hj)
   ·intro hj;rcases List.mem_append.1 hj with hj|hj
    ·exact aau _ hj
    ·rcases List.mem_cons.1 hj with rfl|hj
     ·exact absurd rfl e
     ·exact aav _ hj
 ·rw[getset]at hl |-;have aj:i<listed.size:=by omega
  by_cases ez:i=z
  ·subst ez;simp[aj]
  ·simp only[ZV ez];by_cases ey:i=y
   ·subst ey;rw[aa]at ho;cases ho;exact hd z hz
   ·simp only[ZV ey]at hl;exact h.closed y o ho hl z hz
def Aj(listed:Array Bool)(i:Nat):i∈Region.ready .any ops listed<->i<ops.size/\listed.getD i true=false/\∃o,ops[i]?=some o/\∀z∈kR o,listed.getD z false=true:=by
 simp only[Region.ready,aaD,List.mem_range,aao,aay];constructor
 ·rintro⟨h1,h2,h3⟩;refine⟨h1,h2,?_⟩;cases ho:ops[i]? with
  |none=>rw[ho]at h3;cases h3
  |some o=>
   rw[ho]at h3;simp only[Z9,aam]at h3;refine⟨o,rfl,fun z hz=>?_⟩;simp only[kR,aaE,aaD]at hz;obtain⟨e,⟨he,hb⟩,rfl⟩:=hz;have:=Array.all_eq_true'.1 h3 e (by simpa using he);simpa[hb]using this
 ·rintro⟨h1,h2,o,ho,h3⟩;refine⟨h1,h2,?_⟩;rw[ho];simp only[Z9,aam];refine Array.all_eq_true'.2 fun e he=>?_;cases hb:Region.binds .any e with
  |false=>rfl
  |true=>
   have:=h3 e.on (by simp only[kR,aaE,aaD];exact⟨e,⟨by simpa using he,hb⟩,rfl⟩);simpa using this
variable{cl:List (List Nat)}
def Ji(ak:Ia ops.toList cl=true)(h:Inv ops κ listed)(hr:Region.ready .any ops listed=[]):κ=[]:=by
 have am:=h.size;have sizeol:ops.size=ops.toList.length:=(hZ).symm;have getol:∀i:Nat,ops[i]?=ops.toList[i]?:=fun i=>by simp
 have key:∀n i,i<n->i<ops.size->listed.getD i true=true:=by
  intro n
  induction n with
  |zero=>intro i h;omega
  |succ n ih=>
   intro i hi ac;cases hl:listed.getD i true with
   |true=>rfl
   |false=>
    exfalso;have aa:ops[i]?=some ops[i]:=aab ac;have:i∈Region.ready .any ops listed:=(Aj listed i).2 ⟨ac,hl,ops[i],aa,fun z hz=>by
     have h1:=List.all_eq_true.1 ak i (List.mem_range.2 ab);rw[<-getol i,aa]at h1;simp only[aao]at h1;have aj:=List.all_eq_true.1 h1.1 z hz;simp only[aaC]at aj;have:=ih z ab ab;rw[ZU]at this |-;rw[aab ab]at this |-;simpa using this⟩
    rw[hr]at this;cases this
 cases κ with
 |nil=>rfl
 |cons i l=>
  exfalso;have:=(h.mem i).1 (.head _);rw[key (i+1) i ab this.1]at this;exact Bool.noConfusion this.2
def vt(ol:List Oper)(cl:List (List Nat))(fr:iK)(str:ip)(i:Nat)(l:List Nat):Bool:=
 l.all fun x=>(cl.getD i []).contains x || match ol[x]?,ol[i]? with
  |some ox,some oi=>Fl ol (fr.at' x) (str.at' x) (str.at' i) ox oi
  |_,_=>false
variable{w0:World}
def HZ{n0:Nat}{H0:PH}(hn:n0=w0.heap.size)(a5:Ia ops.toList cl=true){p q:Nat}{r1 r2:List Nat}(cf:p≠q)
  (b3:r1.all (fun i=>(cl.getD i []).contains p || (cl.getD i []).contains q)=true) (hr:∀i,i∈r2<->i∈r1) :
  ∀(iW:Nat) (κ:List Nat) (listed:Array Bool) {σ:St} {H:PH} {a:Act} {w:World},(κ++p::q::r1).length<=iW->(κ++q::p::r2).length<=iW->
   cN ops.toList cl fr str (κ++q::r1)=true->cN ops.toList cl fr str (κ++p::r2)=true->vt ops.toList cl fr str p κ=true->vt ops.toList cl fr str q κ=true->cN ops.toList cl fr str κ=true->p∉κ++q::r1->q∉κ++p::r2->
   Inv ops (κ++p::q::r1) listed->qN σ.bx->VD P ops.toList fr str (fun σ H=>VD P ops.toList fr str K (p::q::r1) σ H/\VD P ops.toList fr str K (q::p::r2) σ H) κ σ H->dM H0 w0 H w->G n0 σ H a w->wpAny P .any ops (QK n0 H0 w0 K) iW listed a w:=by
 have getol:∀i:Nat,ops[i]?=ops.toList[i]?:=fun i=>by simp
 have notl:∀{listed:Array Bool} {x:Nat},listed.getD x false=true->listed.getD x true=false->False:=by
  intro listed x h1 h2;rw[ZU]at h1 h2;cases hg:listed[x]? with
  |none=>rw[hg]at h1;cases h1
  |some b=>rw[hg]at h1 h2;simp only[aam]at h1 h2;rw[h1]at h2;cases h2
 intro iW
 induction iW with
 |zero=>intro κ listed σ H a w ac;simp at ac
 |succ iW ih=>
  intro κ listed σ H a w ac ak ba a9 bs bd b4 a2 bb hI hs h st g;refine⟨fun hr=>?_,fun i hi=>?_⟩
  ·have:=Ji a5 hI hr;simp at this
  ·obtain⟨h1,h2,oi,a1,aj⟩:=(Aj listed i).1 hi;have aa:ops.toList[i]?=some oi:=by rw[<-getol];exact a1
   have ca:i∈κ++p::q::r1:=(hI.mem i).2 ⟨h1,h2⟩;have anc:=rJ a5 (L:=fun x=>listed.getD x false=true) hI.closed (i+1) i ab oi aa aj;have bub:∀(l:List Nat),(∀x∈l,x∈κ)->vt ops.toList cl fr str i l=true->∀x∈l,∃ox,ops.toList[x]?=some ox/\Fl ops.toList (fr.at' x) (str.at' x) (str.at' i) ox oi=true:=by
    intro l hl hb x hx;have:=List.all_eq_true.1 hb x hx;simp only[aax]at this;rcases this with hc|hc
    ·exact(notl (anc x (by simpa using hc)) ((hI.mem x).1 (aau _ (hl x hx))).2).elim
    ·split at hc
     ·rename_i ox oy e1 e2;rw[aa]at e2;cases e2;exact⟨ox,e1,hc⟩
     ·cases hc
   have fin:∀(u v:Nat) (rr:List Nat),i=u->(∀x,x∈κ++u::v::rr<->x∈κ++p::q::r1)->(κ++u::v::rr).length<=iW+1->cN ops.toList cl fr str (κ++v::rr)=true->vt ops.toList cl fr str u κ=true->u∉κ++v::rr->VD P ops.toList fr str (VD P ops.toList fr str K (u::v::rr)) κ σ H->
     wpOp P ops (QK n0 H0 w0 K) i (wpAny P .any ops (QK n0 H0 w0 K) iW (listed.setIfInBounds i true)) a w:=by
    intro u v rr e a4 ac hp hb a3 hv;subst e;have cb:=hI.perm a4;have b2:=(zV (K:=K) κ (i::v::rr)).2 hv;have b0:=Ay (K:=K) (P:=P) aa κ (v::rr) hs (bub κ (fun _ h=>h) hb) b2;simp only[VD,aa]at b0;have ao:=(kC (K':=fun σ' H'=>qN σ'.bx/\VD P ops.toList fr str K (κ++v::rr) σ' H') (fun σ' H' aq h'=>⟨aq,h'⟩) hs b0).toV;have an:=cb.step a3 aa aj;refine mp a1 hn (fun σ' H' a' w' hk st' g'=>?_) ao st g;exact zF hn rfl a5 iW (κ++v::rr) _ (by simp at ac |-;omega) an.size hp an.mem an.closed hk.1 hk.2 st' g'
   have am:∀x,x∈κ++q::p::r2<->x∈κ++p::q::r1:=fun x=>by
    simp only[aaX,aad,hr];constructor
    ·rintro(h|h|h|h)
     ·exact .inl h
     ·exact .inr (.inr (.inl h))
     ·exact .inr (.inl h)
     ·exact .inr (.inr (.inr h))
    ·rintro(h|h|h|h)
     ·exact .inl h
     ·exact .inr (.inr (.inl h))
     ·exact .inr (.inl h)
     ·exact .inr (.inr (.inr h))
   rcases List.mem_append.1 ca with hk|hk
   ·obtain⟨l1,l2,rfl⟩:=List.append_of_mem hk;have a0:cN ops.toList cl fr str (l1++i::(l2++q::r1))=true:=by simpa using ba
    have aS:cN ops.toList cl fr str (l1++i::(l2++p::r2))=true:=by simpa using a9
    obtain⟨_,pb,pc⟩:=qi a0;obtain⟨_,pb2,pc2⟩:=qi aS;obtain⟨pk,pbk,pck⟩:=qi b4;have hb:=Ay (K:=fun σ H=>VD P ops.toList fr str K (p::q::r1) σ H/\VD P ops.toList fr str K (q::p::r2) σ H) (P:=P) aa l1 l2 hs (fun x hx=>by
     rcases pk x hx with b1|⟨ox,oy,e1,e2,e3⟩
     ·exact(notl (anc x b1) ((hI.mem x).1 (aau _ (aau _ hx))).2).elim
     ·rw[aa]at e2;cases e2;exact⟨ox,e1,e3⟩) h
    simp only[VD,aa]at hb;have ao:=(kC (K':=fun σ' H'=>qN σ'.bx/\VD P ops.toList fr str (fun σ H=>VD P ops.toList fr str K (p::q::r1) σ H/\VD P ops.toList fr str K (q::p::r2) σ H) (l1++l2) σ' H') (fun σ' H' aq h'=>⟨aq,h'⟩) hs (by simpa only[VD]using hb)).toV;have b6:i≠p:=fun e=>by subst e;exact a2 (by simp)
    have b5:i∉(l1++l2)++p::q::r1:=by
     intro hm;simp only[aaT,aaX,aad]at hm pc;rcases hm with h|h|h|h|h
     ·exact pc (.inl h)
     ·exact pc (.inr (.inl h))
     ·exact b6 h
     ·exact pc (.inr (.inr (.inl h)))
     ·exact pc (.inr (.inr (.inr h)))
    have cc:Inv ops (l1++i::(l2++p::q::r1)) listed:=hI.perm fun x=>by simp
    have an:=cc.step (by simpa using b5) aa aj;have a7:vt ops.toList cl fr str p (l1++l2)=true:=List.all_eq_true.2 fun x hx=>List.all_eq_true.1 bs x (by
     rcases List.mem_append.1 hx with h|h
     ·exact aau _ h
     ·exact aav _ (.tail _ h))
    have a6:vt ops.toList cl fr str q (l1++l2)=true:=List.all_eq_true.2 fun x hx=>List.all_eq_true.1 bd x (by
     rcases List.mem_append.1 hx with h|h
     ·exact aau _ h
     ·exact aav _ (.tail _ h))
    refine mp a1 hn (fun σ' H' a' w' bc st' g'=>?_) ao st g;refine ih (l1++l2) _ (by simp at ac |-;omega) (by simp at ak |-;omega) (by simpa using pb) (by simpa using pb2) a7 a6 pbk (fun hm=>a2 ?_) (fun hm=>bb ?_) (by simpa using an) bc.1 bc.2 st' g'
    ·simp only[aaT,aaX,aad]at hm |-;rcases hm with h|h|h|h
     ·exact .inl h
     ·exact .inr (.inl (.inr h))
     ·exact .inr (.inr (.inl h))
     ·exact .inr (.inr (.inr h))
    ·simp only[aaT,aaX,aad]at hm |-;rcases hm with h|h|h|h
     ·exact .inl h
     ·exact .inr (.inl (.inr h))
     ·exact .inr (.inr (.inl h))
     ·exact .inr (.inr (.inr h))
   ·rcases List.mem_cons.1 hk with e|hk
    ·exact fin p q r1 e (fun x=>Iff.rfl) ac ba bs a2 (wg (fun σ' H' _ h=>h.1) κ hs h)
    ·rcases List.mem_cons.1 hk with e|hk
     ·exact fin q p r2 e am ak a9 bd bb (wg (fun σ' H' _ h=>h.2) κ hs h)
     ·exfalso;have:=List.all_eq_true.1 b3 i hk;simp only[aax]at this;rcases this with hc|hc
      ·exact notl (anc p (by simpa using hc)) ((hI.mem p).1 (by simp)).2
      ·exact notl (anc q (by simpa using hc)) ((hI.mem q).1 (by simp)).2
def Uw(ol:List Oper)(κ:List Nat)(p q:Nat)(r1 r2:List Nat)(fr:iK)(str:ip):Bool:=
 Ia ol (jr ol) && (List.range ol.length).all ((κ++p::q::r1).contains ·) && decide (p≠q) && decide (p<ol.length) && decide (q<ol.length) &&
 r1.all (fun i=>((jr ol).getD i []).contains p || ((jr ol).getD i []).contains q) && r1.all (r2.contains ·) && r2.all (r1.contains ·) &&
 cN ol (jr ol) fr str (κ++q::r1) && cN ol (jr ol) fr str (κ++p::r2) && vt ol (jr ol) fr str p κ && vt ol (jr ol) fr str q κ && cN ol (jr ol) fr str κ &&
 !(κ++q::r1).contains p && !(κ++p::r2).contains q
def vB{n0:Nat}{H0:PH}(hn:n0=w0.heap.size)(hm:P.follows .mixedOrders=true){id:Nat}{p q:Nat}{r1 r2:List Nat}(aq:Uw ops.toList κ p q r1 r2 fr str=true){σ:St}{H:PH}{a:Act}{w:World}
  (hs:qN σ.bx) (h:VD P ops.toList fr str (fun σ H=>VD P ops.toList fr str K (p::q::r1) σ H/\VD P ops.toList fr str K (q::p::r2) σ H) κ σ H) (st:dM H0 w0 H w) (g:G n0 σ H a w):(Code.region id ops true).wp P (QK n0 H0 w0 K) a w:=by
 simp only[Uw,aao,aaC,aay]at aq;obtain⟨⟨⟨⟨⟨⟨⟨⟨⟨⟨⟨⟨⟨⟨h1,h2⟩,a3⟩,a4⟩,a2⟩,a1⟩,a0⟩,aS⟩,aj⟩,an⟩,ba⟩,a9⟩,a5⟩,a7⟩,a6⟩:=aq;have am:p∉κ++q::r1:=by simpa using a7
 have ak:q∉κ++p::r2:=by simpa using a6
 have mem:∀(l:List Nat),cN ops.toList (jr ops.toList) fr str l=true->∀i∈l,i<ops.size:=by
  intro l
  induction l with
  |nil=>intro _ i hi;cases hi
  |cons x l ih=>
   intro hp i hi;simp only[cN,aao,aaC]at hp;rcases List.mem_cons.1 hi with rfl|hi
   ·simpa using hp.1.1.1
   ·exact ih hp.2 i hi
 have len:∀(l:List Nat),cN ops.toList (jr ops.toList) fr str l=true->l.Nodup:=by
  intro l
  induction l with
  |nil=>intro _;exact List.nodup_nil
  |cons x l ih=>
   intro hp;simp only[cN,aao]at hp;exact List.nodup_cons.2 ⟨by simpa using hp.1.1.2,ih hp.2⟩
 have ac:p<ops.size:=by simpa using a4
 have aa:q<ops.size:=by simpa using a2
 have l1:(κ++p::q::r1).length<=ops.size:=by
  have ao:(p::(κ++q::r1)).Nodup:=List.nodup_cons.2 ⟨am,len _ aj⟩;have:=tq ops.size _ ao fun i hi=>by
   rcases List.mem_cons.1 hi with rfl|hi
   ·exact ac
   ·exact mem _ aj i hi
  simp at this |-;omega
 have l2:(κ++q::p::r2).length<=ops.size:=by
  have ao:(q::(κ++p::r2)).Nodup:=List.nodup_cons.2 ⟨ak,len _ an⟩;have:=tq ops.size _ ao fun i hi=>by
   rcases List.mem_cons.1 hi with rfl|hi
   ·exact aa
   ·exact mem _ an i hi
  simp at this |-;omega
 refine wp_region_any hm (HZ hn h1 a3 a1 (fun i=>⟨fun hi=>by simpa using List.all_eq_true.1 aS i hi,fun hi=>by simpa using List.all_eq_true.1 a0 i hi⟩) ops.size κ _ l1 l2 aj an ba a9 a5 am ak ⟨by simp,fun i=>?_,fun y o ho hl=>?_⟩ hs h (w:={ w with drawn:=w.drawn+1 }) ?_ ?_)
 ·constructor
  ·intro hi;have:i<ops.size:=by
    simp only[aaX,aad]at hi;rcases hi with hi|rfl|rfl|hi
    ·exact mem _ aj i (aau _ hi)
    ·exact ac
    ·exact aa
    ·exact mem _ aj i (aav _ (.tail _ hi))
   exact⟨this,by simp[ZU,this]⟩
  ·rintro⟨hi,_⟩;have:=List.all_eq_true.1 h2 i (List.mem_range.2 (by simpa using hi));simpa using this
 ·exfalso;rw[ZU,Array.getElem?_replicate]at hl;split at hl<;>cases hl
 ·exact⟨st.sub,st.size,st.priv,st.dom,st.os,st.tape,st.out⟩
 ·obtain⟨β,g⟩:=g;exact⟨β,g.defers,g.size,g.tm,g.bx,g.inj,g.lo,g.keys⟩
end
section
variable {C:Cx} {k:List Item} {σ:St} {H:PH}
def wJ{P:Program}{ol:List Oper}{fr:iK}{str:ip}{K K':St->PH->Prop}(k:∀σ' H',K σ' H'->K' σ' H'):∀(l:List (Nat×Oper)) {σ:St} {H:PH},Ut P ol fr str K l σ H->Ut P ol fr str K' l σ H
 | [],σ,H,h=>k _ _ h
 |(i,o)::l,σ,H,h=>xK (fun σ' H' h'=>wJ k l h') h
def NR(C:Cx)(ol:List Oper)(fr:iK)(str:ip)(r1 r2:List (Nat×Oper))(l:List (Nat×Oper))(k:List Item)(σ:St)(H:PH):Prop:=Ut C.P ol fr str (fun σ H=>RD C ol fr str r1 k σ H/\RD C ol fr str r2 k σ H) l σ H
def yC{ol:List Oper}{fr:iK}{str:ip}{r1 r2:List (Nat×Oper)}:∀(l:List (Nat×Oper)) (σ:St) (ps:List Prop),qS (my C.P ol fr.k str.k fr.kp l σ ps).1->NR C ol fr str r1 r2 (my C.P ol fr.k str.k fr.kp l σ ps).2.1 k (my C.P ol fr.k str.k fr.kp l σ ps).2.2 H->qS ps/\NR C ol fr str r1 r2 l k σ H
 | [],σ,ps,hp,h=>⟨hp,h⟩
 |(i,o)::l,σ,ps,hp,h=>by
  unfold my at hp h;cases ha:Ac C.P ol (lx fr.k i) (lx str.k i) fr.kp o σ with
  |none=>rw[ha]at hp h;exact⟨hp,h⟩
  |some x=>
   obtain⟨φ,σ'⟩:=x;rw[ha]at hp h;obtain⟨⟨a,b⟩,c⟩:=yC l _ _ hp h;exact⟨a,uD (f:=fr.at' i) (s:=str.at' i) ha b c⟩
def Wo(C:Cx)(ol:List Oper)(fr:iK)(str:ip)(r1 r2:List (Nat×Oper))(k:List Item)(H:PH)(r:List Prop×List (Nat×Oper)×St):Prop:=qS r.1/\NR C ol fr str r1 r2 r.2.1 k r.2.2 H
theorem Qz(C:Cx)(ol:List Oper)(fr:iK)(str:ip)(r1 r2:List (Nat×Oper))(k:List Item)(H:PH)(ps:List Prop)(l:List (Nat×Oper))(σ:St):Wo C ol fr str r1 r2 k H (ps,l,σ)=(qS ps/\NR C ol fr str r1 r2 l k σ H):=rfl
def mI{ol:List Oper}{fr:iK}{str:ip}{r1 r2 l:List (Nat×Oper)}(h:Wo C ol fr str r1 r2 k H (my C.P ol fr.k str.k fr.kp l σ [])):NR C ol fr str r1 r2 l k σ H:=(yC l σ [] h.1 h.2).2
def wC{ol:List Oper}{fr:iK}{str:ip}{r1 r2:List (Nat×Oper)}(h1:RD C ol fr str r1 k σ H)(h2:RD C ol fr str r2 k σ H):NR C ol fr str r1 r2 [] k σ H:=⟨h1,h2⟩
attribute [go_sem] Qz
def pV{ol:List Oper}{cl:List (List Nat)}{fr:iK}{str:ip}:∀{l:List Nat},cN ol cl fr str l=true->∀i∈l,i<ol.length
 | [],_,i,hi=>by cases hi
 |x::l,hp,i,hi=>by
  simp only[cN,aao,aaC]at hp;rcases List.mem_cons.1 hi with rfl|hi
  ·exact hp.1.1.1
  ·exact pV hp.2 i hi
def CS{id:Nat}{ops:Array Oper}(hm:C.P.follows .mixedOrders=true)(κ:List Nat)(p q:Nat)(r1 r2:List Nat)(fr str:List Nat)(aa:Uw ops.toList κ p q r1 r2 ⟨fr,[],PH.emp,[],[]⟩ ⟨str,[],[]⟩=true)(hs:yS σ.bx=true)
  (h:NR C ops.toList ⟨fr,[],PH.emp,[],[]⟩ ⟨str,[],[]⟩ (pick ops.toList (p::q::r1)) (pick ops.toList (q::p::r2)) (pick ops.toList κ) k σ H):RC C (.st (.code (.region id ops true)::k)) σ H:=by
 have hk:=aa;simp only[Uw,aao,aaC,aay]at hk;obtain⟨⟨⟨⟨⟨⟨⟨⟨⟨⟨⟨⟨⟨⟨h1,h2⟩,aS⟩,aj⟩,ac⟩,aq⟩,ao⟩,an⟩,am⟩,ak⟩,a4⟩,a3⟩,a0⟩,a2⟩,a1⟩:=hk;have e1:=pV am;have e2:=pV ak;refine(show R C (.code (.region id ops true)::k) σ H from wD fun _ _ s g=>vB rfl hm aa (FK hs) ?_ s g);refine uF κ (fun i hi=>e1 i (aau _ hi)) (wJ (fun σ' H' hh=>⟨uF _ (fun i hi=>?_) hh.1,uF _ (fun i hi=>?_) hh.2⟩) _ h)
 ·rcases List.mem_cons.1 hi with rfl|hi
  ·exact aj
  ·exact e1 i (aav _ hi)
 ·rcases List.mem_cons.1 hi with rfl|hi
  ·exact ac
  ·exact e2 i (aav _ hi)
end
end Go.Sx
namespace Go.Proofs.YtfaclfkpnmcmlaaGreatDoor
open Go Go.Sx Dg Syn
def Pn:aO Tryz.prog 264:=⟨_,Tryz.func264,rfl,rfl⟩
section
variable {pb:Nat} {ts:List Tok} {lv fv ov:Value}
def sJ:lF ts false=bD qD:=by funext h;simp[lF,bD]
def Ab{n m o:Nat}(ih:kP pb ts lv fv ov n)(hm:m<n/\o<=64){I:PH}:LQ pb ts lv fv ov m false o I (.func (.func 264) #[pt pb] #[]):=
 ⟨264,#[pt pb],#[],rfl,Pn,fun m' aa x a ha I D dv xa xk e _ h hx hr he hl=>ih m' ab (.stmt o x) a ha hm.2 h hx hr he hl⟩
def TN(pb slot:Nat)(vh:Value)(n:Nat)(x:Nat×Value×Value×Value):St:=⟨dn 72 [(0,.v (pt pb)),(2,.v (iv slot)),(8,.v x.2.1),(9,.v x.2.2.1),(16,.v vh),(17,.v (iv n)),(18,.v (iv x.1))],[]⟩
theorem Qh{n:Nat}(ih:kP pb ts lv fv ov n){o:Nat}{f:ar}{slot:Nat}{r:Syn.bW}(hr:Syn.run ts n (.block o f slot)=some r):vQ pb ts lv fv ov (.block o f slot) r:=by
 obtain⟨m,rfl,hs⟩:=bR hr;have ei:cT ts f (oZ ts (Syn.run ts m) o slot)=some r:=hs;rw[vX]at ei;clear hs hr;intro ho I D dv vf e h hf fn he hm hd;have hl:=h.len;refine ah 72 Tryz.func208 fun w0=>?_
 try simp only[iv,pt]
 refine aT ?_;refine DY hd [0,1] rfl kU rfl (ps:=[sg pb _]) (F:=[D]) rfl (kW h hf fn) fun v I2 qs ek ca hq=>?_;obtain⟨rfl,hH⟩:=hq;obtain⟨ha,hc,rfl,_⟩:=id hH;simp only[aaz,aaA]at ek |-;refine dP ?_;have hN:∀x∈bE ts f,kS ts x:=fun x hx=>b9 h.ok fn hx;have e0:=fM h.ok fn;have ez:=hH;generalize bE ts f=a6 at *;refine aR ek fun es=>?_;refine aR es fun er=>?_;refine bf er [2,3,0,1] fun eq=>?_;refine aA (fun x=>a6.length-x.1) (TN pb slot (.slice ha a6.length hc) a6.length) (WC pb ts lv fv ov o a6 (oZ ts (Syn.run ts m) o slot) r e I2) (0,.slice none 0 0,.slice none 0 0,dv) gP (by simp only[go_sem,aa6,TN]) ?_ ?_
 ·exact⟨I2,D,PH.no,PH.no,⟨[],[],[]⟩,rfl,eq,abW _,aaL _,ei,by simpa using eF.le he ca,Ow.nil _ _ _ _,Ow.nil _ _ _ _,FN.nil _,aaL _⟩
 rintro⟨i,va,vb,dv⟩ H ⟨I3,D3,A3,B3,ri,rfl,da,a0,ep,dx,hE,hA,hB,cB,dd⟩ a4;simp only at ep dx hE hA hB;simp only[TN];have ey:qO I3 (.slice ha a6.length hc) a6:=ez.le a0;rcases aaf i a6.length with c8|e3
 ·have ds:decide ((i:Int)<(a6.length:Int))=true:=by simp;omega
  have e1:=wrap64 (n:=i+1) ab;have dw:IntKind.i64.wrap ((i:Int)+1)=((i+1:Nat):Int):=by rw[<-e1];congr 1
  obtain⟨x,hx⟩:∃x,a6[i]?=some x:=⟨_,aak c8⟩;have em:=aaV hx;have c7:=hN x em;obtain⟨b,off,cs,rfl,et,dc⟩:=ey.load l7.len hx;obtain⟨xa,xk,rfl,a5⟩:=et;obtain⟨r',en,a9⟩:=oF hx dx;have b3:=xq a9;obtain⟨y,hy,c4,rfl⟩:=pC en;have h3:=h.le (abV ca a0);simp only[aa9]at b3 c4;apply RG;simp only[go_sem,ds,iv,pt];refine⟨ab,?_⟩;refine XN (l:=[iv x.at',sD xa xk x.cond,rD x.cond,.int .u8 x.kind,.string ⟨⟨x.text⟩⟩]) (v:=.agg #[iv x.at',sD xa xk x.cond,rD x.cond,.int .u8 x.kind,.string ⟨⟨x.text⟩⟩]) rfl (cellsU da (.head _) dc) (.inl ⟨gI,rfl⟩) ?_;unfold Syn.oZ at hy;by_cases c5:x.text=Im
  ·have ec:(x.text == [123])=true:=by rw[c5];decide
   rw[ZV (by simp[c5])]at hy;apply RG;simp only[go_sem,ds,iv,pt,sD,rD,ec,abQ];by_cases b5:o=64
   ·rw[aaq b5]at hy;cases hy
    subst b5;refine ad da [0,1,2,3] [sg pb _,D3] [A3,B3] rfl jh rfl (nq h3 c7.le a5 hE (by simp[cJ]at b3 |-;omega)) fun v I4 qs b4 ao hq=>?_;obtain⟨dv2,D4,rs,rfl,d2,rfl,rfl⟩:=hq;simp only[aaz,aaA]at b4 |-;apply RG;simp only[go_sem,iv,pt,sD,rD,dw,abK];exact a4 (i+1,va,vb,dv2) _ _ dt gP (by simp only[go_sem,aa6,TN]) ⟨I4,D4,A3,B3,_,rfl,b4,abV a0 ao,c8,a9,by simp only;rw[<-aaT];exact d2,by simpa using hA.le ao,hB.le ao,cB,by simpa using dd⟩
   ·rw[ZV b5]at hy;obtain⟨a,el,dA⟩:=bU hy;obtain⟨g,e2,ht⟩:∃g e1,Syn.take ts a.f qD=(g,e1):=⟨_,_,rfl⟩;rw[ht]at dA;simp only at dA;cases dA
    have c6:=c7.lt (.inl (by rw[c5];decide));have eA:=wrap64 (n:=x.at'+1) ab;have e2'':IntKind.i64.wrap ((x.at':Int)+1)=((x.at'+1:Nat):Int):=by rw[<-eA];congr 1
    refine ad da [0,1,2,3] [sg pb _] [D3,A3,B3] rfl jh rfl (lz (h:=x) (a:=xa) (k:=xk) ab) fun v I4 qs b4 ao hq=>?_;obtain⟨rfl,rfl,rfl⟩:=hq;simp only[aaz,aaA]at b4 |-;apply RG;simp only[go_sem,iv,pt,sD,rD,dw,e2'',abQ];refine CS mixed [0,1,2,3,4,5,6,9,10] 7 8 [11,12,13,14,15,16] [11,12,13,14,15,16] [] [] rfl rfl ?_;apply mI;simp only[go_sem,iv,pt,sD,rD,e2''];simp only[aaT,aa9]at b3 hm c4;refine wC ?_ ?_
    ·refine bj b4 (by exact jH) rfl rfl rfl rfl rfl bg fun nb I5 dT b2 dI=>?_;refine qY ?_;refine aE dT [0,1,2,3] [] [sg pb _,D3,A3,B3] rfl jl rfl (kM (s:=qD)) fun vi I6 qs c9 b1 hq=>?_;obtain⟨rfl,dj⟩:=hq;simp only[aaz,aaA]at c9 |-;obtain⟨fi,first,cap,rfl,gi,ci⟩:=id dj;refine qY ?_;have kk:I4.le I6:=abV b2 b1;have ea:eR I6 (.slice (some ⟨nb,0,none⟩) 1 1) (bv x):=⟨_,_,rfl,.inr ⟨nb,0,[iv (x.at'+1),sD xa xk x.cond,rD x.cond],rfl,(az dI (by simp[aD,Value.cells]) (by simp[aD,Value.cells,iv,sD,rD])).le b1,.one ⟨_,_,rfl,a5.le kk⟩⟩⟩;refine aE c9 [0,1,2,3] [sg pb _,D3] [A3,B3] rfl BR rfl (J1 (n:=m) el (vi:=.func (.func fi) first cap) (vr:=.func (.func 264) #[pt pb] #[]) (by rw[sJ];exact(JE.le dj (abW _)).toP) (Ab ih ab) (h3.le kk) ea (bH c7 c6) (hE.le kk) (by simp only[aa9];omega)) fun v I7 qs bc a7 hq=>?_;obtain⟨dv6,D6,rs,rfl,d1,⟨A6,B6,va6,vb6,rfl,rfl,c2,d3⟩,dk,ex⟩:=hq;have bd:=c2.capN bm.len;obtain⟨ka,kc,rfl⟩:=c2.shape;simp only[aaz,aaA]at bc |-;refine qY ?_;refine aw ?_;refine dg ?_;refine bf bc [2,0,1,3,4,5] fun ct=>?_;refine ae ct fun I8 cr an c3=>?_;have d0:eE I8 (.slice ka a.l.length kc) a.l:=c2.sl an c3;refine ax cr (by exact dQ) rfl rfl rfl rfl rfl bg fun nb2 I9 cp am b6=>?_;refine dg ?_;refine bf cp [3,0,1,2,4] fun bb=>?_;have dy:=abV kk (abV a7 (abV an am));obtain⟨bs,aS,cx⟩:=hA;obtain⟨xsa,xsc,rfl⟩:=aS.slice;unfold aN at c4 dd
     refine dZ (m:=1) bb (by exact dQ) aS rfl rfl rfl rfl (cellsU bb (.head _) (az (l:=[.int .u8 6,.string ⟨#[]⟩,.int .i64 x.at',.int .i64 slot,.slice ka a.l.length kc,.slice xa (T.subs x.cond).length xk,iv (T.plc (T.subs x.cond) x.cond)]) b6 (by simp[aD,Value.cells]) (by simp[aD,Value.cells,iv]))) rfl rfl ab (by unfold maxLen;omega) fun v' eg A10 cn ak b0=>?_;obtain⟨na,nc,rfl⟩:=b0.slice;have k410:=abV dy ak;have eb:bQ eg A10 (.slice na (ri.l.length+1) nc) (ri.l++[⟨6,[],x.at',slot,a.l,x.cond⟩]):=by
      refine⟨_,by rw[aa9];exact b0,LR.app (cx.mono fun _ _ h=>bm.le h k410) (.one (bm.mk (n:=⟨6,[],x.at',slot,a.l,x.cond⟩) (a5.le k410) (d0.le (abV am ak)) bd))⟩
     refine dg ?_;refine bf cn [3,0,1,2,4] fun cm=>?_;refine ae cm fun ef cl aj c1=>?_;have k711:=abV an (abV am (abV ak aj));have cA:eR ef vb6 a.f:=d3.sl k711 c1;have k411:=abV k410 aj;refine ad cl [1,2,0,3] [sg pb _,D6] [A10,B3] rfl iG rfl (kf (s:=qD) (h3.le k411) cA dk bg (d1.le k711) (by rw[ht];simp only[aa9];omega)) fun v eH qs ba aq hq=>?_;obtain⟨dv10,D10,rs,rfl,a2,B10,rfl,a3⟩:=hq;rw[ht]at a2 a3;have tf:=dK h.ok dk (s:=qD) bg;rw[ht]at tf;simp only at a2 a3 tf;simp only[aaz,aaA]at ba |-;refine dg ?_;refine bf ba [2,0,1,3,4] fun cj=>?_;refine ae cj fun ee cf aa c0=>?_;have cy:eR ee v g:=a3.sl aa c0;have k413:=abV k411 (abV aq aa);refine ad cf [3,0,1,2] [B3] [sg pb _,D10,A10] rfl eI rfl (cS (N:=ts.length) ab (hB.le k413) cB cy tf) fun v ed qs a1 ac hq=>?_;obtain⟨B14,rfl,bx⟩:=hq;simp only[aaz,aaA]at a1 |-;refine dg ?_;refine XN (l:=[.int .i64 ((o+1:Nat):Int)]) rfl (cellsU a1 (.tail _ (.tail _ (.head _))) (ay (by simp[cg]) rfl)) (.inr ⟨jq,rfl⟩) ?_;apply RG;simp only[go_sem,iv,pt,sD,rD,kE o ho];refine bf a1 [1,2,3,0] fun cc=>?_;refine bw cc rfl rfl rfl rfl rfl (by exact uZ) (by simp) fun cb=>?_;apply RG;simp only[go_sem,iv,pt,sD,rD,dw];obtain⟨ta,tc,rfl⟩:=bx.shape
     refine a4 (i+1,.slice na (ri.l.length+1) nc,.slice ta (Syn.joinAll ri.f g).length tc,dv10) _ _ dt gP (by simp only[go_sem,aa6,TN]) ⟨ed,D10,A10,B14,_,rfl,cb,abV a0 (abV k413 ac),c8,a9,by simpa[aaT]using a2.le (abV aa ac),bQ.le eb (abV aj (abV aq (abV aa ac))),bx,cB.joinAll tf,by simp only[aa9];unfold aN;exact c4⟩
    ·refine aE b4 [0,1,2,3] [] [sg pb _,D3,A3,B3] rfl jl rfl (kM (s:=qD)) fun vi I6 qs c9 b1 hq=>?_;obtain⟨rfl,dj⟩:=hq;simp only[aaz,aaA]at c9 |-;obtain⟨fi,first,cap,rfl,gi,ci⟩:=id dj;refine qY ?_;refine bj c9 (by exact jH) rfl rfl rfl rfl rfl bg fun nb I5 dT b2 dI=>?_;refine qY ?_;have kk:I4.le I5:=abV b1 b2;have ea:eR I5 (.slice (some ⟨nb,0,none⟩) 1 1) (bv x):=⟨_,_,rfl,.inr ⟨nb,0,[iv (x.at'+1),sD xa xk x.cond,rD x.cond],rfl,(az dI (by simp[aD,Value.cells]) (by simp[aD,Value.cells,iv,sD,rD])).le (abW _),.one ⟨_,_,rfl,a5.le kk⟩⟩⟩;refine aE dT [0,1,2,3] [sg pb _,D3] [A3,B3] rfl BR rfl (J1 (n:=m) el (vi:=.func (.func fi) first cap) (vr:=.func (.func 264) #[pt pb] #[]) (by rw[sJ];exact(JE.le dj b2).toP) (Ab ih ab) (h3.le kk) ea (bH c7 c6) (hE.le kk) (by simp only[aa9];omega)) fun v I7 qs bc a7 hq=>?_;obtain⟨dv6,D6,rs,rfl,d1,⟨A6,B6,va6,vb6,rfl,rfl,c2,d3⟩,dk,ex⟩:=hq;have bd:=c2.capN bm.len;obtain⟨ka,kc,rfl⟩:=c2.shape;simp only[aaz,aaA]at bc |-;refine qY ?_;refine aw ?_;refine dg ?_;refine bf bc [2,0,1,3,4,5] fun ct=>?_;refine ae ct fun I8 cr an c3=>?_;have d0:eE I8 (.slice ka a.l.length kc) a.l:=c2.sl an c3;refine ax cr (by exact dQ) rfl rfl rfl rfl rfl bg fun nb2 I9 cp am b6=>?_;refine dg ?_;refine bf cp [3,0,1,2,4] fun bb=>?_;have dy:=abV kk (abV a7 (abV an am));obtain⟨bs,aS,cx⟩:=hA;obtain⟨xsa,xsc,rfl⟩:=aS.slice;unfold aN at c4 dd
     refine dZ (m:=1) bb (by exact dQ) aS rfl rfl rfl rfl (cellsU bb (.head _) (az (l:=[.int .u8 6,.string ⟨#[]⟩,.int .i64 x.at',.int .i64 slot,.slice ka a.l.length kc,.slice xa (T.subs x.cond).length xk,iv (T.plc (T.subs x.cond) x.cond)]) b6 (by simp[aD,Value.cells]) (by simp[aD,Value.cells,iv]))) rfl rfl ab (by unfold maxLen;omega) fun v' eg A10 cn ak b0=>?_;obtain⟨na,nc,rfl⟩:=b0.slice;have k410:=abV dy ak;have eb:bQ eg A10 (.slice na (ri.l.length+1) nc) (ri.l++[⟨6,[],x.at',slot,a.l,x.cond⟩]):=by
      refine⟨_,by rw[aa9];exact b0,LR.app (cx.mono fun _ _ h=>bm.le h k410) (.one (bm.mk (n:=⟨6,[],x.at',slot,a.l,x.cond⟩) (a5.le k410) (d0.le (abV am ak)) bd))⟩
     refine dg ?_;refine bf cn [3,0,1,2,4] fun cm=>?_;refine ae cm fun ef cl aj c1=>?_;have k711:=abV an (abV am (abV ak aj));have cA:eR ef vb6 a.f:=d3.sl k711 c1;have k411:=abV k410 aj;refine ad cl [1,2,0,3] [sg pb _,D6] [A10,B3] rfl iG rfl (kf (s:=qD) (h3.le k411) cA dk bg (d1.le k711) (by rw[ht];simp only[aa9];omega)) fun v eH qs ba aq hq=>?_;obtain⟨dv10,D10,rs,rfl,a2,B10,rfl,a3⟩:=hq;rw[ht]at a2 a3;have tf:=dK h.ok dk (s:=qD) bg;rw[ht]at tf;simp only at a2 a3 tf;simp only[aaz,aaA]at ba |-;refine dg ?_;refine bf ba [2,0,1,3,4] fun cj=>?_;refine ae cj fun ee cf aa c0=>?_;have cy:eR ee v g:=a3.sl aa c0;have k413:=abV k411 (abV aq aa);refine ad cf [3,0,1,2] [B3] [sg pb _,D10,A10] rfl eI rfl (cS (N:=ts.length) ab (hB.le k413) cB cy tf) fun v ed qs a1 ac hq=>?_;obtain⟨B14,rfl,bx⟩:=hq;simp only[aaz,aaA]at a1 |-;refine dg ?_;refine XN (l:=[.int .i64 ((o+1:Nat):Int)]) rfl (cellsU a1 (.tail _ (.tail _ (.head _))) (ay (by simp[cg]) rfl)) (.inr ⟨jq,rfl⟩) ?_;apply RG;simp only[go_sem,iv,pt,sD,rD,kE o ho];refine bf a1 [1,2,3,0] fun cc=>?_;refine bw cc rfl rfl rfl rfl rfl (by exact uZ) (by simp) fun cb=>?_;apply RG;simp only[go_sem,iv,pt,sD,rD,dw];obtain⟨ta,tc,rfl⟩:=bx.shape
     refine a4 (i+1,.slice na (ri.l.length+1) nc,.slice ta (Syn.joinAll ri.f g).length tc,dv10) _ _ dt gP (by simp only[go_sem,aa6,TN]) ⟨ed,D10,A10,B14,_,rfl,cb,abV a0 (abV k413 ac),c8,a9,by simpa[aaT]using a2.le (abV aa ac),bQ.le eb (abV aj (abV aq (abV aa ac))),bx,cB.joinAll tf,by simp only[aa9];unfold aN;exact c4⟩
  ·have ec:(x.text == [123])=false:=by
    rw[abS];exact c5
   rw[aaq c5]at hy;cases hy
   apply RG;simp only[go_sem,ds,iv,pt,sD,rD,ec,abK];refine ad da [0,1,2,3] [sg pb _,D3] [A3,B3] rfl kX rfl (ow h3 c7.le a5 hE (by simp[cJ]at b3 |-;omega)) fun v I4 qs b4 ao hq=>?_;obtain⟨dv2,D4,rs,rfl,d2,rfl⟩:=hq;simp only[aaz,aaA]at b4 |-;apply RG;simp only[go_sem,iv,pt,sD,rD,dw];exact a4 (i+1,va,vb,dv2) _ _ dt gP (by simp only[go_sem,aa6,TN]) ⟨I4,D4,A3,B3,_,rfl,b4,abV a0 ao,c8,a9,by simp only;rw[<-aaT];exact d2,by simpa using hA.le ao,hB.le ao,cB,by simpa using dd⟩
 ·have eo:i=a6.length:=by omega
  subst eo;have ds:=Z6 a6.length;rw[abH]at dx;cases dx
  apply RG;simp only[go_sem,ds,iv,pt];exact af rfl da (r:=[va,vb]) rfl (abV ca a0) ⟨_,D3,[A3,B3],rfl,hE,⟨A3,B3,va,vb,rfl,rfl,hA,hB⟩,cB,dd⟩
end
end Go.Proofs.YtfaclfkpnmcmlaaGreatDoor
