import Derived.Test.YtfaclfkpnmcmlaaGreatDoorT10
import Derived.Test.YtfaclfkpnmcmlaaGreatDoorT11
set_option maxHeartbeats 8000000
set_option linter.all false
open Go.Proofs.Tryz
namespace Go.Proofs.YtfaclfkpnmcmlaaGreatDoor
open Go Go.Sx Dg Syn
def Qs:aO prog 207:=⟨_,func207,rfl,rfl⟩
def Hc:aO prog 137:=⟨_,func137,rfl,rfl⟩
def O2:aO prog 139:=⟨_,func139,rfl,rfl⟩
def Bd:aO prog 206:=⟨_,func206,rfl,rfl⟩
def sK:aO prog 208:=⟨_,func208,rfl,rfl⟩
section
variable {pb:Nat} {ts:List Tok} {lv fv ov:Value}
def cW{l ks r:List Nd}(h:jb l ks=some r):∀n∈l,n.kids.length+ks.length<=aN:=by
 unfold jb at h;split at h
 ·rename_i h2;intro n hn;simpa using List.all_eq_true.1 h2 n hn
 ·cases h
def cw(l ks:List Nd):(give l ks).length=l.length:=by simp[give]
variable{v:Value}
def bQ.sl{I J A:PH}{l:List Nd}(h:bQ I A v l)(h1:I.le J)(h2:A.le J):eE J v l:=abX (R:=bm) (fun{I J c a} h k=>bm.le h k) h h1 h2
def jy.sl{I J A:PH}{l:ar}(h:jy I A v l)(h1:I.le J)(h2:A.le J):eR J v l:=abX (R:=iD) (fun{I J c a} h k=>iD.le h k) h h1 h2
def TP.sl{I J A:PH}{l:List aB}(h:TP I A v l)(h1:I.le J)(h2:A.le J):qO J v l:=abX (R:=l7) (fun{I J c a} h k=>l7.le h k) h h1 h2
variable{r:Syn.bW}{f:ar}{o:Nat}
theorem Og(rec:Syn.sY)(hr:Syn.item ts rec true o f=some r):WF pb ts lv fv ov 207 o (fun vf=>#[pt pb,vf,iv 0]) f r:=by
 unfold Syn.item at hr;simp only[ZT]at hr;obtain⟨g,e1,ht⟩:∃g e1,Syn.take ts (named ts f 4 0).f bA=(g,e1):=⟨_,_,rfl⟩;rw[ht]at hr;simp only at hr;obtain⟨l,hg,e⟩:=bU hr;cases e
 have a6:=bu hg;have a7:=cW hg;subst a6;clear hg hr;intro I D dv vf e h hf fn he hm hd;have hl:=h.len;have tne:bA≠[]:=by decide
 have nl:=lC h.ok fn 4 0;have nf:=iy h.ok fn 4 0;have tf:=dK h.ok nf tne;rw[ht]at tf;simp only[aa9]at hm;refine ah 30 func207 fun w0=>?_
 try simp only[iv,pt]
 refine aT ?_;refine ad hd [0,1] [sg pb _,D] [] rfl qI rfl (qA (kind:=4) (slot:=0) (f:=f) h hf fn he ab) fun v I2 qs a5 al hq=>?_;obtain⟨dv2,D2,rs,rfl,b1,⟨A2,B2,va2,vb2,rfl,rfl,ca,b5⟩,_,_⟩:=hq;simp only[aaz,aaA,aa6]at a5 |-;refine aT ?_;refine bf a5 [3,0,1,2] fun bd=>?_;refine ae bd fun I3 bc ag b4=>?_;have bC:eR I3 vb2 _:=b5.sl ag b4;have k3:=abV al ag;refine aT ?_;refine ad bc [0,1,2] [sg pb _,D2] [A2] rfl iG rfl (kf (s:=bA) (h.le k3) bC nf tne (b1.le ag) (by rw[ht];simp only[aa9];omega)) fun v I4 qs a4 ak hq=>?_;obtain⟨dv4,D4,rs,rfl,aS,B4,rfl,a1⟩:=hq;rw[ht]at aS a1;simp only at aS a1;simp only[aaz,aaA,aa6]at a4 |-;refine aT ?_;refine bf a4 [2,0,1,3] fun bb=>?_;refine ae bb fun I5 ba ac b3=>?_;have bx:eR I5 v g:=a1.sl ac b3;have k5:=abV k3 (abV ak ac);refine aT ?_;refine ad ba [0,1,2] [sg pb _,D4] [A2] rfl BN rfl (BM (slot:=0) (f:=g) (h.le k5) bx tf (aS.le ac) (by simp only[aa9];omega)) fun v I6 qs a3 an hq=>?_;obtain⟨dv6,D6,rs,rfl,b0,⟨A6,B6,va6,vb6,rfl,rfl,b8,b2⟩,bF,_⟩:=hq;simp only[aaz,aaA,aa6]at a3 |-;refine aT ?_;refine bf a3 [2,0,1,3,4] fun a9=>?_;refine ae a9 fun I7 aq aa b7=>?_;have bs:eE I7 va6 _:=b8.sl aa b7;have a2:=abV ag (abV ak (abV ac (abV an aa)));refine aT ?_;refine ad aq [3,0,1,2] [A2] [sg pb _,D6,B6] rfl gy rfl (iV (ca.le a2) bs (by unfold aN;omega) a7) fun v I8 qs am aj hq=>?_;obtain⟨A8,rfl,b6⟩:=hq;simp only[aaz,aaA,aa6]at am |-;refine aT ?_;refine bf am [1,2,0,3] fun ao=>?_
 refine af rfl ao (r:=[v,vb6]) rfl (abV al (abV a2 aj)) ⟨dv6,D6,[A8,B6],rfl,?_,⟨A8,B6,v,vb6,rfl,rfl,b6,b2.le (abV aa aj)⟩,bF,by simp only[cw];unfold aN;omega⟩;have:=b0.le (abV aa aj);simpa[aaT]using this
theorem Fc{n:Nat}(ih:kP pb ts lv fv ov n)(hr:Syn.run ts n (.vrb o f)=some r):vQ pb ts lv fv ov (.vrb o f) r:=by
 obtain⟨m,rfl,hs⟩:=bR hr;have a1:Syn.jQ ts (Syn.run ts m) o f=some r:=hs;unfold Syn.jQ at a1;simp only at a1;obtain⟨g1,e1,ht⟩:∃g e1,Syn.take ts (named ts f 2 0).f bA=(g,e1):=⟨_,_,rfl⟩;rw[ht]at a1;simp only at a1;obtain⟨c,hc,cm⟩:=bU a1;obtain⟨l1,bC,cl⟩:=bU cm;obtain⟨l2,bx,bb⟩:=bU cl;obtain⟨g2,e2,ba⟩:∃g e1,Syn.take ts c.f a8=(g,e1):=⟨_,_,rfl⟩;rw[ba]at bb;simp only at bb;cases bb
 have bs:=cW bC;have bd:=cW bx;obtain rfl:=bu bC;obtain rfl:=bu bx;clear a1 cm cl hs hr bC bx;intro ho I D dv vf e h hf fn he hm hd;have hl:=h.len;have tne:bA≠[]:=by decide
 have tne2:a8≠[]:=by decide
 have nl:=lC h.ok fn 2 0;have nf:=iy h.ok fn 2 0;have tf:=dK h.ok nf tne;rw[ht]at tf;simp only[aa9]at hm;refine ah 40 func137 fun w0=>?_
 try simp only[iv,pt]
 refine aT ?_;refine ad hd [0,1] [sg pb _,D] [] rfl qI rfl (qA (kind:=2) (slot:=0) (f:=f) h hf fn he ab) fun v I2 qs cs bc hq=>?_;obtain⟨dv2,D2,rs,rfl,c9,⟨A2,B2,va2,vb2,rfl,rfl,dA,ds⟩,_,_⟩:=hq;simp only[aaz,aaA,aa6]at cs |-;refine aT ?_;refine bf cs [3,0,1,2] fun c1=>?_;refine ae c1 fun I3 c0 ak dk=>?_;have c5:eR I3 vb2 _:=ds.sl ak dk;have k3:=abV bc ak;refine aT ?_;refine ad c0 [0,1,2] [sg pb _,D2] [A2] rfl iG rfl (kf (s:=bA) (h.le k3) c5 nf tne (c9.le ak) (by rw[ht];simp only[aa9];omega)) fun v I4 qs cr a3 hq=>?_;obtain⟨dv4,D4,rs,rfl,ca,B4,rfl,cb⟩:=hq;rw[ht]at ca cb;simp only at ca cb;simp only[aaz,aaA,aa6]at cr |-;refine aT ?_;refine bf cr [2,0,1,3] fun cB=>?_;refine ae cB fun I5 cA aj dj=>?_;have c4:eR I5 v g1:=cb.sl aj dj;have k5:=abV k3 (abV a3 aj);refine aT ?_;refine ad cA [0,1,2] [sg pb _,D4] [A2] rfl BN rfl (BM (slot:=0) (f:=g1) (h.le k5) c4 tf (ca.le aj) (by simp only[aa9];omega)) fun v I6 qs cp a2 hq=>?_;obtain⟨dv6,D6,rs,rfl,c8,⟨A6,B6,va6,vb6,rfl,rfl,dy,dd⟩,c6,_⟩:=hq;simp only[aaz,aaA,aa6]at cp |-;refine aT ?_;refine bf cp [2,0,1,3,4] fun cy=>?_;refine ae cy fun I7 b6 ac dx=>?_;have c2:eE I7 va6 _:=dy.sl ac dx;refine bf b6 [2,0,1,3] fun b5=>?_;refine ae b5 fun I8 b4 aa dc=>?_;have c3:eR I8 vb6 _:=dd.sl (abV ac aa) dc;have k8:=abV k5 (abV a2 (abV ac aa));refine aT ?_
 refine ad b4 [0,1,2] [sg pb _,D6] [A2] rfl Gf rfl (ih m (aba m) _ _ hc ho bg (h.le k8) c3 c6 (c8.le (abV ac aa)) (by simp only[aa9];omega)) fun v I9 qs a9 ao hq=>?_;obtain⟨dv9,D9,rs,rfl,c7,⟨A9,B9,va9,vb9,rfl,rfl,dw,da⟩,ct,_⟩:=hq;simp only[aaz,aaA,aa6]at a9 |-;have cx:=abV ak (abV a3 (abV aj (abV a2 (abV ac (abV aa ao)))));refine aT ?_;refine ad a9 [4,0,1,2,3] [A2] [sg pb _,D9,A9,B9] rfl gy rfl (iV (dA.le cx) (eE.le c2 (abV aa ao)) (by unfold aN;omega) bs) fun v d2 qs a7 an hq=>?_;obtain⟨A10,rfl,ci⟩:=hq;simp only[aaz,aaA,aa6]at a7 |-;refine aT ?_;refine bf a7 [3,0,1,2,4] fun b3=>?_;refine ae b3 fun dT b2 ag cf=>?_;have b7:eE dT va9 _:=dw.sl (abV an ag) cf;refine aT ?_;refine ad b2 [0,1,2,3] [A10] [sg pb _,D9,B9] rfl gy rfl (iV (ci.le ag) b7 (by rw[cw];unfold aN;omega) bd) fun v d1 qs a6 a4 hq=>?_;obtain⟨A12,rfl,cd⟩:=hq;simp only[aaz,aaA,aa6]at a6 |-;refine aT ?_;refine bf a6 [3,0,1,2] fun b1=>?_;refine ae b1 fun dI b0 am cc=>?_;have k913:=abV an (abV ag (abV a4 am));have b8:eR dI vb9 _:=da.sl k913 cc;have cj:=abV k8 (abV ao k913);refine aT ?_;refine ad b0 [1,2,0] [sg pb _,D9] [A12] rfl iG rfl (kf (s:=a8) (h.le cj) b8 ct tne2 (c7.le k913) (by rw[ba];simp only[aa9];omega)) fun v2 d0 qs a5 al hq=>?_;obtain⟨dv14,D14,rs,rfl,aq,B14,rfl,aS⟩:=hq;rw[ba]at aq aS;simp only at aq aS
 simp only[aaz,aaA,aa6]at a5 |-;refine aT ?_;refine bf a5 [0,1,3,2] fun bF=>?_;have tf2:=dK h.ok ct tne2;rw[ba]at tf2;refine af rfl bF (r:=[v,v2]) rfl (abV cj al) ⟨dv14,D14,[A12,B14],rfl,?_,⟨A12,B14,v,v2,rfl,rfl,cd.le (abV am al),aS⟩,tf2,by simp only[cw];unfold aN;omega⟩;simpa[aaT]using aq
theorem Fa{n:Nat}(ih:kP pb ts lv fv ov n)(hr:Syn.run ts n (.function o f)=some r):vQ pb ts lv fv ov (.function o f) r:=by
 obtain⟨m,rfl,hs⟩:=bR hr;have a7:Syn.function ts (Syn.run ts m) o f=some r:=hs;unfold Syn.function at a7;simp only at a7;obtain⟨b,hb,cp⟩:=bU a7;obtain⟨c,hc,cm⟩:=bU cp;obtain⟨d,cx,cl⟩:=bU cm;obtain⟨l1,bx,cj⟩:=bU cl;obtain⟨l2,bs,ci⟩:=bU cj;obtain⟨l3,bd,ct⟩:=bU ci;cases ct
 have bc:=cW bx;have bb:=cW bs;have ba:=cW bd;obtain rfl:=bu bx;obtain rfl:=bu bs;obtain rfl:=bu bd;clear a7 cp cm cl cj ci hs hr bx bs bd;intro ho I D dv vf e h hf fn he hm hd;have hl:=h.len;have nl:=lC h.ok fn 3 0;have nf:=iy h.ok fn 3 0;simp only[aa9]at hm;refine ah 47 func139 fun w0=>?_
 try simp only[iv,pt]
 refine aT ?_;refine ad hd [0,1] [sg pb _,D] [] rfl qI rfl (qA (kind:=3) (slot:=0) (f:=f) h hf fn he ab) fun v I2 qs cs a9 hq=>?_;obtain⟨dv2,D2,rs,rfl,dd,⟨A2,B2,va2,vb2,rfl,rfl,d1,dy⟩,_,_⟩:=hq;simp only[aaz,aaA,aa6]at cs |-;refine aT ?_;refine bf cs [3,0,1,2] fun c2=>?_;refine ae c2 fun I3 c1 an dx=>?_;have c7:eR I3 vb2 _:=dy.sl an dx;have k3:=abV a9 an;refine aT ?_;refine ad c1 [0,1,2] [sg pb _,D2] [A2] rfl Bd rfl (ih m (aba m) _ _ hb ho (h.le k3) c7 nf (dd.le an) (by simp only[aa9];omega)) fun v I4 qs cr aS hq=>?_;obtain⟨dv4,D4,rs,rfl,dc,⟨A4,B4,va4,vb4,rfl,rfl,d0,dw⟩,c9,_⟩:=hq;simp only[aaz,aaA,aa6]at cr |-;refine aT ?_;refine bf cr [2,0,1,3,4] fun c0=>?_;refine ae c0 fun I5 cB al dT=>?_;have c4:eE I5 va4 _:=d0.sl al dT;refine bf cB [2,0,1,3] fun cA=>?_;refine ae cA fun I6 cy ak ds=>?_;have c6:eR I6 vb4 _:=dw.sl (abV al ak) ds;have k6:=abV k3 (abV aS (abV al ak));refine aT ?_;refine ad cy [0,1,2] [sg pb _,D4] [A2] rfl Gf rfl (ih m (aba m) _ _ hc ho bg (h.le k6) c6 c9 (dc.le (abV al ak)) (by simp only[aa9];omega)) fun v I7 qs a6 aq hq=>?_;obtain⟨dv7,D7,rs,rfl,da,⟨A7,B7,va7,vb7,rfl,rfl,dI,dk⟩,c8,_⟩:=hq;simp only[aaz,aaA,aa6]at a6 |-;refine aT ?_;refine bf a6 [2,0,1,3,4] fun b4=>?_;refine ae b4 fun I8 b3 aj dA=>?_;have c3:eE I8 va7 _:=dI.sl aj dA;refine bf b3 [2,0,1,3] fun b2=>?_;refine ae b2 fun I9 b1 ag dj=>?_;have c5:eR I9 vb7 _:=dk.sl (abV aj ag) dj;have k9:=abV k6 (abV aq (abV aj ag))
 refine aT ?_;refine ad b1 [0,1,2] [sg pb _,D7] [A2] rfl sK rfl (ih m (aba m) _ _ cx ho (h.le k9) c5 c8 (da.le (abV aj ag)) (by simp only[aa9];omega)) fun v ec qs a5 ac hq=>?_;obtain⟨dv10,D10,rs,rfl,b7,⟨A10,B10,va10,vb10,rfl,rfl,cf,b8⟩,b6,_⟩:=hq;simp only[aaz,aaA,aa6]at a5 |-;refine aT ?_;refine bf a5 [2,0,1,3,4] fun b0=>?_;refine ae b0 fun d2 bF aa cd=>?_;have b5:eE d2 va10 _:=cf.sl aa cd;have k210:=abV an (abV aS (abV al (abV ak (abV aq (abV aj (abV ag (abV ac aa)))))));have k611:=abV ak (abV aq (abV aj (abV ag (abV ac aa))));have k911:=abV ag (abV ac aa);refine aT ?_;refine ad bF [3,0,1,2] [A2] [sg pb _,D10,B10] rfl gy rfl (iV (d1.le k210) (eE.le c4 k611) (by unfold aN;omega) bc) fun v eb qs a4 am hq=>?_;obtain⟨A12,rfl,cc⟩:=hq;simp only[aaz,aaA,aa6]at a4 |-;refine aT ?_;refine ad a4 [0,1,2,3] [A12] [sg pb _,D10,B10] rfl gy rfl (iV cc (eE.le c3 (abV k911 am)) (by rw[cw];unfold aN;omega) bb) fun v ea qs a3 ao hq=>?_;obtain⟨A13,rfl,cb⟩:=hq;simp only[aaz,aaA,aa6]at a3 |-;refine aT ?_;refine ad a3 [0,1,2,3] [A13] [sg pb _,D10,B10] rfl gy rfl (iV cb (eE.le b5 (abV am ao)) (by rw[cw,cw];unfold aN;omega) ba) fun v d3 qs a2 a1 hq=>?_;obtain⟨A14,rfl,ca⟩:=hq;simp only[aaz,aaA,aa6]at a2 |-;refine aT ?_;refine bf a2 [1,2,0,3] fun bC=>?_
 have k1114:=abV aa (abV am (abV ao a1));refine af rfl bC (r:=[v,vb10]) rfl (abV k9 (abV ac k1114)) ⟨dv10,D10,[A14,B10],rfl,?_,⟨A14,B10,v,vb10,rfl,rfl,ca,b8.le k1114⟩,b6,by simp only[cw];unfold aN;omega⟩;simpa[aaT]using b7.le k1114
end
open Go Go.Sx Dg Syn
def Bj:aO prog 270:=⟨_,func270,rfl,rfl⟩
def UO(g:aB->Option Syn.bW)(r:Syn.bW)(h:aB):Option Syn.bW:=match g h with
 |some x=>if (r.l++x.l).length<=aN then some ⟨r.l++x.l,Syn.joinAll r.f x.f,r.e++x.e⟩else none
 |none=>none
theorem vX(ts:List Tok)(f:ar)(g:aB->Option Syn.bW):cT ts f g=lH (UO g) ⟨[],[],[]⟩ (bE ts f):=rfl
def pC{g:aB->Option Syn.bW}{r r':Syn.bW}{h:aB}(e:UO g r h=some r'):∃x,g h=some x/\(r.l++x.l).length<=aN/\r'=⟨r.l++x.l,Syn.joinAll r.f x.f,r.e++x.e⟩:=by
 unfold UO at e;split at e
 ·rename_i x hx;split at e
  ·rename_i hl;cases e
   exact⟨x,hx,hl,rfl⟩
  ·cases e
 ·cases e
def yg{α β:Type}{g:α->β->Option α}{z r:α}{x:β}{l:List β}(e:lH g z (x::l)=some r):∃z',g z x=some z'/\lH g z' l=some r:=by
 unfold lH at e;split at e
 ·rename_i b hb;exact⟨b,hb,e⟩
 ·cases e
def oF{α β:Type}{g:α->β->Option α}{z r:α}{l:List β}{i:Nat}{x:β}(hx:l[i]?=some x)(e:lH g z (l.drop i)=some r):∃z',g z x=some z'/\lH g z' (l.drop (i+1))=some r:=by
 have aa:i<l.length:=by
  rcases aaf i l.length with h|h
  ·exact h
  ·rw[aan h]at hx;cases hx
 have hd:l.drop i=x::l.drop (i+1):=by
  rw[aaK aa];rw[aak aa]at hx;rw[aaZ hx]
 rw[hd]at e;exact yg e
def xq{g:aB->Option Syn.bW}:∀{l:List aB} {z r:Syn.bW},lH (UO g) z l=some r->z.e.length<=r.e.length
 | [],z,r,e=>by cases e;exact ZR _
 |x::l,z,r,e=>by
  obtain⟨z',h1,h2⟩:=yg e;obtain⟨y,_,_,rfl⟩:=pC h1;have:=xq h2;simp only[aa9]at this;omega
def kE(o:Nat)(h:o<=64):IntKind.i64.wrap (((o+1:Nat):Int)-1)=(o:Int):=by
 have:=cH (a:=o+1) (b:=1) ab ab;rw[show ((1:Nat):Int)=1 from rfl]at this;rw[this];omega
section
variable {pb:Nat} {ts:List Tok} {lv fv ov:Value}
def WC(pb:Nat)(ts:List Tok)(lv fv ov:Value)(o:Nat)(hs:List aB)(g:aB->Option Syn.bW)(r:Syn.bW)(e:List cO)(I0:PH)(x:Nat×Value×Value×Value)(H:PH):Prop:=
 ∃I D A B ri,H=U [I,sg pb (cg lv fv ov x.2.2.2 o),D,A,B]/\Dj [I,sg pb (cg lv fv ov x.2.2.2 o),D,A,B]/\I0.le I/\x.1<=hs.length/\lH (UO g) ri (hs.drop x.1)=some r/\eF I D x.2.2.2 (e++ri.e)/\bQ I A x.2.1 ri.l/\jy I B x.2.2.1 ri.f/\FN ts.length ri.f/\ri.l.length<=aN
def UA(pb slot:Nat)(vh:Value)(n:Nat)(x:Nat×Value×Value×Value):St:=⟨dn 63 [(0,.v (pt pb)),(2,.v (iv slot)),(8,.v x.2.1),(9,.v x.2.2.1),(16,.v vh),(17,.v (iv n)),(18,.v (iv x.1))],[]⟩
theorem J6{n:Nat}(ih:kP pb ts lv fv ov n){o:Nat}{f:ar}{slot:Nat}{r:Syn.bW}(hr:Syn.run ts n (.inside o f slot)=some r):vQ pb ts lv fv ov (.inside o f slot) r:=by
 obtain⟨m,rfl,hs⟩:=bR hr;have c1:cT ts f (ml ts (Syn.run ts m) o slot)=some r:=hs;rw[vX]at c1;clear hs hr;intro ho I D dv vf e h hf fn he hm hd;have hl:=h.len;refine ah 63 func270 fun w0=>?_
 try simp only[iv,pt]
 refine aT ?_;refine DY hd [0,1] rfl kU rfl (ps:=[sg pb _]) (F:=[D]) rfl (kW h hf fn) fun v I2 qs c3 aS hq=>?_;obtain⟨rfl,hH⟩:=hq;obtain⟨ha,hc,rfl,_⟩:=id hH;simp only[aaz,aaA]at c3 |-;refine dP ?_;have hN:∀x∈bE ts f,kS ts x:=fun x hx=>b9 h.ok fn hx;have ec:=fM h.ok fn;have dy:=hH;generalize bE ts f=am at *;refine aR c3 fun dj=>?_;refine aR dj fun dd=>?_;refine bf dd [2,3,0,1] fun dc=>?_;refine aA (fun x=>am.length-x.1) (UA pb slot (.slice ha am.length hc) am.length) (WC pb ts lv fv ov o am (ml ts (Syn.run ts m) o slot) r e I2) (0,.slice none 0 0,.slice none 0 0,dv) gP (by simp only[go_sem,aa6,UA]) ?_ ?_
 ·exact⟨I2,D,PH.no,PH.no,⟨[],[],[]⟩,rfl,dc,abW _,aaL _,c1,by simpa using eF.le he aS,Ow.nil _ _ _ _,Ow.nil _ _ _ _,FN.nil _,aaL _⟩
 rintro⟨i,va,vb,dv⟩ H ⟨I3,D3,A3,B3,ri,rfl,bc,ag,c9,b2,hE,hA,hB,bx,b3⟩ an;simp only at c9 b2 hE hA hB;simp only[UA];have dx:qO I3 (.slice ha am.length hc) am:=dy.le ag;rcases aaf i am.length with b1|ed
 ·have bF:decide ((i:Int)<(am.length:Int))=true:=by simp;omega
  have e1:=wrap64 (n:=i+1) ab;have b4:IntKind.i64.wrap ((i:Int)+1)=((i+1:Nat):Int):=by rw[<-e1];congr 1
  obtain⟨x,hx⟩:∃x,am[i]?=some x:=⟨_,aak b1⟩;have c5:=aaV hx;have b0:=hN x c5;obtain⟨b,off,cs,rfl,dk,bs⟩:=dx.load l7.len hx;obtain⟨xa,xk,rfl,a5⟩:=dk;obtain⟨r',c6,a2⟩:=oF hx b2;have a1:=xq a2;obtain⟨y,hy,b6,rfl⟩:=pC c6;have h3:=h.le (abV aS ag);simp only[aa9]at a1 b6;apply RG;simp only[go_sem,bF,iv,pt];refine⟨ab,?_⟩;refine XN (l:=[iv x.at',sD xa xk x.cond,rD x.cond,.int .u8 x.kind,.string ⟨⟨x.text⟩⟩]) (v:=.agg #[iv x.at',sD xa xk x.cond,rD x.cond,.int .u8 x.kind,.string ⟨⟨x.text⟩⟩]) rfl (cellsU bc (.head _) bs) (.inl ⟨gI,rfl⟩) ?_;unfold ml at hy;by_cases bb:x.text=eM
  ·have c0:(x.text == [40])=true:=by rw[bb];decide
   rw[ZV (by simp[bb])]at hy;apply RG;simp only[go_sem,bF,iv,pt,sD,rD,c0,abQ];by_cases a6:o=64
   ·rw[aaq a6]at hy;cases hy
    subst a6;refine ad bc [0,1,2,3] [sg pb _,D3] [A3,B3] rfl jh rfl (nq h3 b0.le a5 hE (by simp[cJ]at a1 |-;omega)) fun v I4 qs a4 aa hq=>?_;obtain⟨dv2,D4,rs,rfl,cx,rfl,rfl⟩:=hq;simp only[aaz,aaA]at a4 |-;apply RG;simp only[go_sem,iv,pt,sD,rD,b4,abK];exact an (i+1,va,vb,dv2) _ _ dt gP (by simp only[go_sem,aa6,UA]) ⟨I4,D4,A3,B3,_,rfl,a4,abV ag aa,b1,a2,by simp only;rw[<-aaT];exact cx,by simpa using hA.le aa,hB.le aa,bx,by simpa using b3⟩
   ·rw[ZV a6]at hy;obtain⟨a,ds,b7⟩:=bU hy;obtain⟨g,e2,ht⟩:∃g e1,Syn.take ts a.f fK=(g,e1):=⟨_,_,rfl⟩;rw[ht]at b7;simp only at b7;cases b7
    have b8:=b0.lt (.inl (by rw[bb];decide));have d3:=wrap64 (n:=x.at'+1) ab;have e2'':IntKind.i64.wrap ((x.at':Int)+1)=((x.at'+1:Nat):Int):=by rw[<-d3];congr 1
    refine ad bc [0,1,2,3] [sg pb _] [D3,A3,B3] rfl jh rfl (lz (h:=x) (a:=xa) (k:=xk) ab) fun v I4 qs a4 aa hq=>?_;obtain⟨rfl,rfl,rfl⟩:=hq;simp only[aaz,aaA]at a4 |-;apply RG;simp only[go_sem,iv,pt,sD,rD,b4,e2'',abQ];refine ax a4 (by exact jH) rfl rfl rfl rfl rfl bg fun nb I5 da aq c7=>?_;have d0:eR I5 (.slice (some ⟨nb,0,none⟩) 1 1) (bv x):=⟨_,_,rfl,.inr ⟨nb,0,[iv (x.at'+1),sD xa xk x.cond,rD x.cond],rfl,az c7 (by simp[aD,Value.cells]) (by simp[aD,Value.cells,iv,sD,rD]),.one ⟨_,_,rfl,a5.le aq⟩⟩⟩;refine dg ?_;simp only[aaT,aa9]at a1 hm b6;refine ad da [0,1,2,3] [sg pb _,D3] [A3,B3] rfl rU rfl (rT (ih m (aba m) _ _ ds) ab (h3.le aq) d0 (bH b0 b8) (hE.le aq) (by simp only[aa9];omega)) fun v I6 qs c2 ca hq=>?_;obtain⟨dv6,D6,rs,rfl,dI,⟨A6,B6,va6,vb6,rfl,rfl,d2,dT⟩,c4,ee⟩:=hq;simp only[aaz,aaA]at c2 |-;refine dg ?_;refine bf c2 [2,0,1,3,4,5] fun cr=>?_;refine ae cr fun I7 cp al cB=>?_;have dw:eE I7 va6 a.l:=d2.sl al cB;refine bf cp [3,0,1,2,4] fun cm=>?_;have b5:=abV aq (abV ca al);unfold aN at b6 b3;refine bl cm (by exact dQ) (hA.le b5) dw (fun{I J c a} h k=>bm.le h k) (fun{I} c a h=>bm.len c a h) (fun{I} c a h=>bm.ones h) rfl rfl rfl rfl ab (by unfold maxLen;omega) fun na nc I8 A8 cl ak d1=>?_;refine dg ?_;refine bf cl [3,0,1,2,4] fun cj=>?_;refine ae cj fun I9 ci ac cA=>?_;have dA:eR I9 vb6 a.f:=dT.sl (abV al (abV ak ac)) cA;have k9:=abV aS (abV ag (abV b5 (abV ak ac)))
    refine ad ci [1,2,0,3] [sg pb _,D6] [A8,B3] rfl iG rfl (kf (s:=fK) (h.le k9) dA c4 bg (dI.le (abV al (abV ak ac))) (by rw[ht];simp only[aa9];omega)) fun v ef qs bd a3 hq=>?_;obtain⟨dv10,D10,rs,rfl,a9,B10,rfl,ba⟩:=hq;rw[ht]at a9 ba;have tf:=dK h.ok c4 (s:=fK) bg;rw[ht]at tf;simp only at a9 ba tf;simp only[aaz,aaA]at bd |-;refine dg ?_;refine bf bd [2,0,1,3,4] fun cf=>?_;refine ae cf fun eb cd aj cy=>?_;have ct:eR eb v g:=ba.sl aj cy;have k311:=abV b5 (abV ak (abV ac (abV a3 aj)));refine ad cd [3,0,1,2] [B3] [sg pb _,D10,A8] rfl eI rfl (cS (N:=ts.length) ab (hB.le k311) bx ct tf) fun v ea qs a7 ao hq=>?_;obtain⟨B12,rfl,bC⟩:=hq;simp only[aaz,aaA]at a7 |-;refine dg ?_;refine XN (l:=[.int .i64 ((o+1:Nat):Int)]) rfl (cellsU a7 (.tail _ (.tail _ (.head _))) (ay (by simp[cg]) rfl)) (.inr ⟨jq,rfl⟩) ?_;apply RG;simp only[go_sem,iv,pt,sD,rD,kE o ho];refine bf a7 [1,2,3,0] fun cc=>?_;refine bw cc rfl rfl rfl rfl rfl (by exact uZ) (by simp) fun cb=>?_;apply RG;simp only[go_sem,iv,pt,sD,rD,b4];obtain⟨ta,tc,rfl⟩:=bC.shape;exact an (i+1,.slice na (ri.l++a.l).length nc,.slice ta (Syn.joinAll ri.f g).length tc,dv10) _ _ dt gP (by simp only[go_sem,aa6,UA]) ⟨ea,D10,A8,B12,_,rfl,cb,abV ag (abV k311 ao),b1,a2,by simpa[aaT]using a9.le (abV aj ao),bQ.le d1 (abV ac (abV a3 (abV aj ao))),bC,bx.joinAll tf,by simp only[aa9];unfold aN;omega⟩
  ·have c0:(x.text == [40])=false:=by
    rw[abS];exact bb
   rw[aaq bb]at hy;cases hy
   apply RG;simp only[go_sem,bF,iv,pt,sD,rD,c0,abK];refine ad bc [0,1,2,3] [sg pb _,D3] [A3,B3] rfl kX rfl (ow h3 b0.le a5 hE (by simp[cJ]at a1 |-;omega)) fun v I4 qs a4 aa hq=>?_;obtain⟨dv2,D4,rs,rfl,cx,rfl⟩:=hq;simp only[aaz,aaA]at a4 |-;apply RG;simp only[go_sem,iv,pt,sD,rD,b4];exact an (i+1,va,vb,dv2) _ _ dt gP (by simp only[go_sem,aa6,UA]) ⟨I4,D4,A3,B3,_,rfl,a4,abV ag aa,b1,a2,by simp only;rw[<-aaT];exact cx,by simpa using hA.le aa,hB.le aa,bx,by simpa using b3⟩
 ·have c8:i=am.length:=by omega
  subst c8;have bF:=Z6 am.length;rw[abH]at b2;cases b2
  apply RG;simp only[go_sem,bF,iv,pt];exact af rfl bc (r:=[va,vb]) rfl (abV aS ag) ⟨_,D3,[A3,B3],rfl,hE,⟨A3,B3,va,vb,rfl,rfl,hA,hB⟩,bx,b3⟩
end
open Go Go.Sx Dg Syn
def BR:aO prog 135:=⟨_,func135,rfl,rfl⟩
section
variable {pb:Nat} {ts:List Tok} {lv fv ov:Value}
def LQ(pb:Nat)(ts:List Tok)(lv fv ov:Value)(n:Nat)(top:Bool)(o:Nat)(I0:PH)(vr:Value):Prop:=
 ∃fid first cap,vr=.func (.func fid) first cap/\aO prog fid/\∀m,m<n->∀(x:aB) a,zy (Syn.run ts m) top o x=some a->
  ∀{I D:PH} {dv:Value} {xa:Option Addr} {xk:Nat} {e:List cO},I0.le I->zr I ts lv fv->kS ts x->cX I (.agg #[sD xa xk x.cond,rD x.cond]) x.cond->eF I D dv e->e.length+a.e.length<=ux->
   aK prog fid (first++[yL xa xk x].toArray++cap) I [sg pb (cg lv fv ov dv o),D] (PP pb lv fv ov o (e++a.e) (Uq ts a))
def XJ(pb:Nat)(ts:List Tok)(lv fv ov:Value)(o:Nat)(I:PH)(v:Value)(is:aB->Bool):Prop:=∃f first cap,v=.func (.func f) first cap/\aO prog f/\∀J,I.le J->zr J ts lv fv->∀(dv:Value) (h:aB) (a:Option Addr) (k:Nat),cX J (.agg #[sD a k h.cond,rD h.cond]) h.cond->
 aK prog f (first++[yL a k h].toArray++cap) J [sg pb (cg lv fv ov dv o)] fun v I2 qs=>qs=[sg pb (cg lv fv ov dv o)]/\v=.bool (is h)
variable{o:Nat}
def JE.toP{I:PH}{v:Value}{is:aB->Bool}(h:JE I v is):XJ pb ts lv fv ov o I v is:=by
 obtain⟨f,first,cap,rfl,g,c⟩:=h;refine⟨f,first,cap,rfl,g,fun J hJ _ dv x a k hr hd=>?_⟩;refine((c J hJ x a k hr).frame (F:=[sg pb (cg lv fv ov dv o)]) hd).mono fun v H2 ⟨I2,qs,e1,e2,e3,e4,e5⟩=>?_;subst e4;exact⟨I2,_,e1,e2,e3,rfl,e5⟩
structure YH where
 m:Nat
 fl:Nat
 vf:Value
 vl:Value
 vo:Value
 dv:Value
def UI(pb:Nat)(vi vr:Value)(x:YH):St:=⟨dn 62 [(0,.v (pt pb)),(1,.v x.vf),(2,.v vi),(3,.v vr),(10,.v x.vl),(11,.v x.vo)],[]⟩
def Left(ts:List Tok)(top:Bool)(o:Nat)(r:Syn.bW)(m:Nat)(f:ar)(l:List Nd)(out:ar)(ee:List cO):Prop:=
 ∃b,Syn.run ts m (.seqL top o f l out)=some b/\b.l=r.l/\b.f=r.f/\ee++b.e=r.e
def Zs(pb:Nat)(ts:List Tok)(lv fv ov:Value)(top:Bool)(n o:Nat)(r:Syn.bW)(e:List cO)(I0:PH)(x:YH)(H:PH):Prop:=
 ∃I D A B f l out ee,H=U [I,sg pb (cg lv fv ov x.dv o),D,A,B]/\Dj [I,sg pb (cg lv fv ov x.dv o),D,A,B]/\I0.le I/\x.m<=n/\x.fl=f.length/\Left ts top o r x.m f l out ee/\
  eR I x.vf f/\FN ts.length f/\eF I D x.dv (e++ee)/\bQ I A x.vl l/\jy I B x.vo out/\FN ts.length out/\l.length<=aN
def Up(pb:Nat)(vi vr:Value)(vh:Value)(n:Nat)(x:Nat×Value×Value×Value×Value):St:=⟨dn 62 [(0,.v (pt pb)),(1,.v x.2.1),(2,.v vi),(3,.v vr),(10,.v x.2.2.1),(11,.v x.2.2.2.1),(23,.v vh),(24,.v (iv n)),(25,.v (iv x.1))],[]⟩
def Zp(pb:Nat)(ts:List Tok)(lv fv ov:Value)(top:Bool)(m o:Nat)(r:Syn.bW)(e:List cO)(hs:List aB)(I0:PH)(f0:ar)(l0:List Nd)(out0:ar)(ee0:List cO)(x:Nat×Value×Value×Value×Value)(H:PH):Prop:=
 ∃I D A B C f l out ee,H=U [I,sg pb (cg lv fv ov x.2.2.2.2 o),D,A,B,C]/\Dj [I,sg pb (cg lv fv ov x.2.2.2.2 o),D,A,B,C]/\I0.le I/\x.1<=hs.length/\
  jy I C x.2.1 f/\FN ts.length f/\eF I D x.2.2.2.2 (e++ee)/\bQ I A x.2.2.1 l/\jy I B x.2.2.2.1 out/\FN ts.length out/\l.length<=aN/\
  ((x.1=0/\f=[]/\l=l0/\out=out0/\ee=ee0)\/(0<x.1/\Left ts top o r m ((hs.drop x.1).foldl joinH f) l out ee))
variable{ee:List cO}{l:List Nd}{f out:ar}{r:Syn.bW}{top:Bool}
def Left.le{m:Nat}(h:Left ts top o r m f l out ee):ee.length<=r.e.length:=by
 obtain⟨b,_,_,_,h⟩:=h;rw[<-h];simp
def LW{α:Type}{l:List α}{i:Nat}{x:α}(hx:l[i]?=some x):l.drop i=x::l.drop (i+1):=by
 have aa:i<l.length:=by
  rcases aaf i l.length with h|h
  ·exact h
  ·rw[aan h]at hx;cases hx
 rw[aaK aa];rw[aak aa]at hx;rw[aaZ hx]
def HN{m:Nat}{x:aB}{hs:List aB}(h:Left ts top o r m f l out ee)(hh:bE ts f=x::hs):∃m',m=m'+1/\
  (lF ts top x=true->Left ts top o r m' (hs.foldl joinH []) l (joinH out x) ee)/\
  (lF ts top x=false->∃a,zy (Syn.run ts m') top o x=some a/\(l++a.l).length<=aN/\Left ts top o r m' (hs.foldl joinH (Syn.joinAll [] a.f)) (l++a.l) out (ee++a.e)):=by
 obtain⟨b,hb,h1,h2,h3⟩:=h;obtain⟨m',rfl,ak⟩:=bR hb;have aa:Syn.seqL ts (Syn.run ts m') top o f l out=some b:=ak;unfold Syn.seqL at aa;rw[hh]at aa;simp only at aa;refine⟨m',rfl,fun hx=>?_,fun hx=>?_⟩
 ·rw[hx]at aa;exact⟨b,aa,h1,h2,h3⟩
 ·rw[ZV (by rw[hx];simp)]at aa;obtain⟨a,ha,aj⟩:=bU aa;obtain⟨u,hu,ag⟩:=bU aj;obtain⟨b',al,ac⟩:=bU ag;cases ac
  exact⟨a,ha,qK hu,b',al,h1,h2,by rw[aaT];exact h3⟩
def C6{m:Nat}(h:Left ts top o r m f l out ee)(hh:bE ts f=[]):l=r.l/\out=r.f/\ee=r.e/\∃m',m=m'+1:=by
 obtain⟨b,hb,h1,h2,h3⟩:=h;obtain⟨m',rfl,ac⟩:=bR hb;have aa:Syn.seqL ts (Syn.run ts m') top o f l out=some b:=ac;unfold Syn.seqL at aa;rw[hh]at aa;simp only at aa;cases aa
 exact⟨h1,h2,by simpa using h3,m',rfl⟩
theorem J1{n:Nat}(hr:Syn.run ts n (.seqL top o f [] [])=some r){I D:PH}{dv vf vi vr:Value}{e:List cO}(hi:XJ pb ts lv fv ov o I vi (lF ts top))(hv:LQ pb ts lv fv ov n top o I vr)(h:zr I ts lv fv)(hf:eR I vf f)(fn:FN ts.length f)(he:eF I D dv e)(hm:e.length+r.e.length<=ux):
  aK prog 135 #[pt pb,vf,vi,vr] I [sg pb (cg lv fv ov dv o),D] (PP pb lv fv ov o (e++r.e) (Uq ts r)):=by
 intro hd;have hl:=h.len;obtain⟨fr,frst,fcap,rfl,gr,cr⟩:=id hv;obtain⟨fi,ifirst,icap,rfl,gi,ci⟩:=id hi;refine ah 62 func135 fun w0=>?_
 try simp only[iv,pt]
 refine aT ?_;refine aR hd fun d3=>?_;refine aR d3 fun d0=>?_;refine bf d0 [2,3,0,1] fun dT=>?_;refine aA (fun x=>2*x.m+min x.fl 1) (UI pb (.func (.func fi) ifirst icap) (.func (.func fr) frst fcap)) (Zs pb ts lv fv ov top n o r e I) ⟨n,f.length,vf,.slice none 0 0,.slice none 0 0,dv⟩ gP (by simp only[go_sem,aa6,UI]) ?_ ?_
 ·exact⟨I,D,PH.no,PH.no,f,[],[],[],rfl,dT,abW _,ZR _,rfl,⟨r,hr,rfl,rfl,rfl⟩,hf,fn,by simpa using he,Ow.nil _ _ _ _,Ow.nil _ _ _ _,FN.nil _,aaL _⟩
 rintro⟨m,fl,vf,vl,vo,dv⟩ H ⟨I3,D3,A3,B3,f,l,out,ee,rfl,c5,ba,cA,rfl,hL,ca,fn3,hE,hA,hB,c9,c7⟩ a7;simp only at cA hL ca hE hA hB;simp only[UI];obtain⟨fa,fc,rfl,_⟩:=id ca;have h3:=h.le ba;rcases abn f.length with h0|h0
 ·
  have dy:f=[]:=List.length_eq_zero_iff.1 h0;have cx:decide ((f.length:Int)>0)=false:=by simp;omega
  obtain⟨rfl,rfl,rfl,_⟩:=C6 hL (by rw[dy];rfl);apply RG;simp only[go_sem,iv,pt,cx];exact af rfl c5 (r:=[vl,vo]) rfl ba ⟨_,D3,[A3,B3],rfl,hE,⟨A3,B3,vl,vo,rfl,rfl,hA,hB⟩,c9,c7⟩
 ·have cx:decide ((f.length:Int)>0)=true:=by simp;omega
  apply RG;simp only[go_sem,iv,pt,cx];refine ad c5 [0,1,2,3] [sg pb _] [D3,A3,B3] rfl kU rfl (kW h3 ca fn3) fun v I4 qs c4 a5 hq=>?_;obtain⟨rfl,hH⟩:=hq;obtain⟨ha,hc,rfl,_⟩:=id hH;simp only[aaz,aaA]at c4 |-;refine ll ?_;have hN:∀x∈bE ts f,kS ts x:=fun x hx=>b9 h.ok fn3 hx;have eo:=fM h.ok fn3;refine aR c4 fun dI=>?_;refine bf dI [1,2,3,4,0] fun dA=>?_;refine aA (fun x=>(bE ts f).length-x.1) (Up pb (.func (.func fi) ifirst icap) (.func (.func fr) frst fcap) (.slice ha (bE ts f).length hc) (bE ts f).length) (Zp pb ts lv fv ov top (m-1) o r e (bE ts f) I4 f l out ee) (0,.slice none 0 0,vl,vo,dv) gP (by simp only[go_sem,aa6,Up]) ?_ ?_
  ·exact⟨I4,D3,A3,B3,PH.no,[],l,out,ee,rfl,dA,abW _,aaL _,Ow.nil _ _ _ _,FN.nil _,hE.le a5,hA.le a5,hB.le a5,c9,c7,.inl ⟨rfl,rfl,rfl,rfl,rfl⟩⟩
  rintro⟨i,v1,vl,vo,dv⟩ H ⟨I5,D5,A5,B5,C5,f5,l5,out5,ee5,rfl,b5,ao,dw,bd,fn5,bc,bs,bb,aj,a3,an⟩ ak;simp only at dw bd bc bs bb an;simp only[Up];have ec:qO I5 (.slice ha (bE ts f).length hc) (bE ts f):=hH.le ao;have k5:=abV ba (abV a5 ao);have h5:=h.le k5;have cB:∀q:Nat,q<=aN->(q+0)*96<=140737488355328:=fun q hq=>by unfold aN at hq;omega
  obtain⟨m',rfl⟩:∃m',m=m'+1:=by
   obtain⟨b,hb,_⟩:=hL;obtain⟨m',e,_⟩:=bR hb;exact⟨m',e⟩
  have dk:=fn5.len;have dj:=aj.len;rcases aaf i (bE ts f).length with b4|ep
  ·have b0:decide ((i:Int)<((bE ts f).length:Int))=true:=by simp;omega
   have e1:=wrap64 (n:=i+1) ab;have ek:IntKind.i64.wrap ((i:Int)+1)=((i+1:Nat):Int):=by rw[<-e1];congr 1
   obtain⟨x,hx⟩:∃x,(bE ts f)[i]?=some x:=⟨_,aak b4⟩;have dd:=aaV hx;have b2:=hN x dd;have bx:=b2.le;obtain⟨b,off,cs,rfl,ea,bF⟩:=ec.load l7.len hx;obtain⟨xa,xk,rfl,a4⟩:=ea;have c3:=LW hx;obtain⟨c1,c2,rfl⟩:=bd.shape;apply RG;simp only[go_sem,b0,iv,pt];refine⟨ab,?_⟩;refine XN (l:=[iv x.at',sD xa xk x.cond,rD x.cond,.int .u8 x.kind,.string ⟨⟨x.text⟩⟩]) (v:=.agg #[iv x.at',sD xa xk x.cond,rD x.cond,.int .u8 x.kind,.string ⟨⟨x.text⟩⟩]) rfl (cellsU b5 (.head _) bF) (.inl ⟨gI,rfl⟩) ?_;rcases abn i with c0|c0
   ·subst c0;rcases an with ⟨_,rfl,rfl,rfl,rfl⟩|⟨b7,_⟩
    ·obtain⟨m2,em,sy,sn⟩:=HN hL c3;obtain rfl:m'=m2:=by omega
     have e01:IntKind.i64.wrap ((0:Int)+1)=((1:Nat):Int):=by decide
     apply RG;simp only[go_sem,b0,iv,pt,sD,rD,abo,gt_iff_lt,Int.lt_irrefl,decide_false];refine ad b5 [0,1,2,3,4] [sg pb _] [D5,A5,B5,C5] rfl gi rfl (ci I5 k5 h5 dv x xa xk a4) fun v I6 qs a2 ac hq=>?_;obtain⟨rfl,rfl⟩:=hq;simp only[aaz,aaA]at a2 |-;cases b3:lF ts top x
     ·obtain⟨a,ha,c6,a9⟩:=sn b3;have b8:=a9.le;simp only[aa9]at c6 b8;apply RG;simp only[go_sem,iv,pt,b3,sD,rD];refine ad a2 [0,1,2,3,4] [sg pb _,D5] [A5,B5,C5] rfl gr rfl (cr m' ab x a ha (abV k5 ac) (h5.le ac) b2 (a4.le ac) (bc.le ac) (by simp only[aa9];omega)) fun v I7 qs ag aa hq=>?_;obtain⟨dv7,D7,rs,rfl,ed,⟨A7,B7,va7,vb7,rfl,rfl,eg,b6⟩,da,eq⟩:=hq;simp only[aaz,aaA]at ag |-;refine dg ?_;refine bf ag [2,0,1,3,4,5,6] fun a1=>?_;refine ae a1 fun I8 cl am ct=>?_;have eb:eE I8 va7 a.l:=eg.sl am ct;refine bf cl [3,0,1,2,4,5] fun cj=>?_;have cy:=abV ac (abV aa am);unfold aN at c6 a3;refine bl cj (by exact dQ) (bs.le cy) eb (fun{I J c a} h k=>bm.le h k) (fun{I} c a h=>bm.len c a h) (fun{I} c a h=>bm.ones h) rfl rfl rfl rfl ab (by unfold maxLen;omega) fun na nc I9 A9 cf aS ef=>?_;refine dg ?_;refine bf cf [3,0,1,2,4,5] fun cd=>?_;refine ae cd fun en cc al cp=>?_;have cm:eR en vb7 a.f:=b6.sl (abV am (abV aS al)) cp;have k510:=abV cy (abV aS al);refine ad cc [4,0,1,2,3] [C5] [A9,sg pb _,D7,B5] rfl eI rfl (cS (N:=ts.length) ab (bd.le k510) (FN.nil _) cm da) fun v el qs bC aq hq=>?_;obtain⟨C11,rfl,a6⟩:=hq;obtain⟨d1,d2,rfl⟩:=a6.shape;simp only[aaz,aaA]at bC |-;apply RG;simp only[go_sem,iv,pt,sD,rD,e01];refine bf bC [2,3,1,4,0] fun cb=>?_;have k511:=abV k510 aq
      exact ak (0+1,.slice d1 (Syn.joinAll [] a.f).length d2,.slice na (l5++a.l).length nc,vo,dv7) _ _ dt gP (by simp only[go_sem,aa6,Up]) ⟨el,D7,A9,B5,C11,_,_,_,_,rfl,cb,abV ao k511,b4,a6,(FN.nil _).joinAll da,by rw[<-aaT];exact ed.le (abV am (abV aS (abV al aq))),bQ.le ef (abV al aq),bb.le k511,aj,by simp only[aa9];unfold aN;omega,.inr ⟨by simp only;omega,a9⟩⟩
     ·apply RG;simp only[go_sem,iv,pt,b3,sD,rD];obtain⟨o1,o2,rfl⟩:=bb.shape;refine ad a2 [3,0,1,2,4] [B5] [sg pb _,D5,A5,C5] rfl ej rfl (bK (a:=x.at') (bb.le ac) (a4.le ac) aj.ok.2 (fun t ht=>by have:=aj.le t ht;omega) ab ab) fun v I7 qs ag aa hq=>?_;obtain⟨B7,rfl,b6⟩:=hq;obtain⟨p1,p2,rfl⟩:=b6.shape;simp only[aaz,aaA]at ag |-;apply RG;simp only[go_sem,iv,pt,sD,rD,e01];refine bf ag [1,2,3,0,4] fun a1=>?_;have b1:=abV ac aa;exact ak (0+1,.slice c1 ([]:ar).length c2,vl,.slice p1 (Syn.join out5 x.at' x.cond).length p2,dv) _ _ dt (bJ (by simp only[go_sem,aa6,iv,pt,aaO])) (by simp only[go_sem,aa6,Up]) ⟨I7,D5,A5,B7,C5,_,_,_,_,rfl,a1,abV ao b1,b4,bd.le b1,FN.nil _,bc.le b1,bs.le b1,b6,aj.join bx b2.ok,a3,.inr ⟨by simp only;omega,sy b3⟩⟩
    ·omega
   ·rcases an with ⟨b7,_⟩|⟨_,a9⟩
    ·omega
    ·have ei:decide ((i:Int)>0)=true:=by simp;omega
     apply RG;simp only[go_sem,b0,iv,pt,sD,rD,ei];refine ad b5 [4,0,1,2,3] [C5] [sg pb _,D5,A5,B5] rfl ej rfl (bK (a:=x.at') bd a4 fn5.ok.2 (fun t ht=>by have:=fn5.le t ht;omega) ab ab) fun v I7 qs ag aa hq=>?_;obtain⟨C7,rfl,dc⟩:=hq;obtain⟨p1,p2,rfl⟩:=dc.shape;simp only[aaz,aaA]at ag |-;apply RG;simp only[go_sem,iv,pt,sD,rD,ek];refine bf ag [1,2,3,4,0] fun a1=>?_;rw[c3,fu]at a9;exact ak (i+1,.slice p1 (Syn.join f5 x.at' x.cond).length p2,vl,vo,dv) _ _ dt gP (by simp only[go_sem,aa6,Up]) ⟨I7,D5,A5,B5,C7,_,_,_,_,rfl,a1,abV ao aa,b4,dc,fn5.join bx b2.ok,bc.le aa,bs.le aa,bb.le aa,aj,a3,.inr ⟨by simp only;omega,a9⟩⟩
  ·have ds:i=(bE ts f).length:=by omega
   subst ds;have b0:decide (((bE ts f).length:Int)<((bE ts f).length:Int))=false:=by simp
   apply RG;simp only[go_sem,b0,iv,pt];refine bf b5 [4,0,1,2,3] fun a2=>?_;refine ae (c:=.st _) a2 fun I6 ag aa a6=>?_;have c8:eR I6 v1 f5:=bd.sl aa a6;rcases an with ⟨b7,rfl,rfl,rfl,rfl⟩|⟨b7,a9⟩
   ·have dx:bE ts f=[]:=List.length_eq_zero_iff.1 b7;obtain⟨e2,e3,e4,_⟩:=C6 hL dx;refine a7 ⟨m'+1,0,v1,vl,vo,dv⟩ _ _ dt gP (by simp only[go_sem,aa6,UI]) ⟨I6,D5,A5,B5,[],l5,out5,ee5,rfl,ag,abV k5 aa,cA,rfl,⟨⟨l5,out5,[]⟩,rfl,e2,e3,by simpa using e4⟩,c8,FN.nil _,bc.le aa,bs.le aa,bb.le aa,aj,a3⟩
   ·rw[abH,List.foldl_nil]at a9;refine a7 ⟨m',f5.length,v1,vl,vo,dv⟩ _ _ dt gP (by simp only[go_sem,aa6,UI]) ⟨I6,D5,A5,B5,f5,l5,out5,ee5,rfl,ag,abV k5 aa,by simp only;omega,rfl,a9,c8,fn5,bc.le aa,bs.le aa,bb.le aa,aj,a3⟩
end
open Go Go.Sx Dg Syn
def Pn:aO prog 264:=⟨_,func264,rfl,rfl⟩
section
variable {pb:Nat} {ts:List Tok} {lv fv ov:Value}
def sJ:lF ts false=bD qD:=by funext h;simp[lF,bD]
def Ab{n m o:Nat}(ih:kP pb ts lv fv ov n)(hm:m<n/\o<=64){I:PH}:LQ pb ts lv fv ov m false o I (.func (.func 264) #[pt pb] #[]):=
 ⟨264,#[pt pb],#[],rfl,Pn,fun m' aa x a ha I D dv xa xk e _ h hx hr he hl=>ih m' ab (.stmt o x) a ha hm.2 h hx hr he hl⟩
def TN(pb slot:Nat)(vh:Value)(n:Nat)(x:Nat×Value×Value×Value):St:=⟨dn 72 [(0,.v (pt pb)),(2,.v (iv slot)),(8,.v x.2.1),(9,.v x.2.2.1),(16,.v vh),(17,.v (iv n)),(18,.v (iv x.1))],[]⟩
theorem Qh{n:Nat}(ih:kP pb ts lv fv ov n){o:Nat}{f:ar}{slot:Nat}{r:Syn.bW}(hr:Syn.run ts n (.block o f slot)=some r):vQ pb ts lv fv ov (.block o f slot) r:=by
 obtain⟨m,rfl,hs⟩:=bR hr;have dy:cT ts f (oZ ts (Syn.run ts m) o slot)=some r:=hs;rw[vX]at dy;clear hs hr;intro ho I D dv vf e h hf fn he hm hd;have hl:=h.len;refine ah 72 func208 fun w0=>?_
 try simp only[iv,pt]
 refine aT ?_;refine DY hd [0,1] rfl kU rfl (ps:=[sg pb _]) (F:=[D]) rfl (kW h hf fn) fun v I2 qs dA bb hq=>?_;obtain⟨rfl,hH⟩:=hq;obtain⟨ha,hc,rfl,_⟩:=id hH;simp only[aaz,aaA]at dA |-;refine dP ?_;have hN:∀x∈bE ts f,kS ts x:=fun x hx=>b9 h.ok fn hx;have es:=fM h.ok fn;have ei:=hH;generalize bE ts f=aj at *;refine aR dA fun ed=>?_;refine aR ed fun ec=>?_;refine bf ec [2,3,0,1] fun eb=>?_;refine aA (fun x=>aj.length-x.1) (TN pb slot (.slice ha aj.length hc) aj.length) (WC pb ts lv fv ov o aj (oZ ts (Syn.run ts m) o slot) r e I2) (0,.slice none 0 0,.slice none 0 0,dv) gP (by simp only[go_sem,aa6,TN]) ?_ ?_
 ·exact⟨I2,D,PH.no,PH.no,⟨[],[],[]⟩,rfl,eb,abW _,aaL _,dy,by simpa using eF.le he bb,Ow.nil _ _ _ _,Ow.nil _ _ _ _,FN.nil _,aaL _⟩
 rintro⟨i,va,vb,dv⟩ H ⟨I3,D3,A3,B3,ri,rfl,b3,ag,ea,cl,hE,hA,hB,ca,cm⟩ al;simp only at ea cl hE hA hB;simp only[TN];have eg:qO I3 (.slice ha aj.length hc) aj:=ei.le ag;rcases aaf i aj.length with cj|et
 ·have cd:decide ((i:Int)<(aj.length:Int))=true:=by simp;omega
  have e1:=wrap64 (n:=i+1) ab;have cp:IntKind.i64.wrap ((i:Int)+1)=((i+1:Nat):Int):=by rw[<-e1];congr 1
  obtain⟨x,hx⟩:∃x,aj[i]?=some x:=⟨_,aak cj⟩;have d1:=aaV hx;have b1:=hN x d1;obtain⟨b,off,cs,rfl,ee,b6⟩:=eg.load l7.len hx;obtain⟨xa,xk,rfl,ak⟩:=ee;obtain⟨r',d2,a4⟩:=oF hx cl;have a3:=xq a4;obtain⟨y,hy,cf,rfl⟩:=pC d2;have h3:=h.le (abV bb ag);simp only[aa9]at a3 cf;apply RG;simp only[go_sem,cd,iv,pt];refine⟨ab,?_⟩;refine XN (l:=[iv x.at',sD xa xk x.cond,rD x.cond,.int .u8 x.kind,.string ⟨⟨x.text⟩⟩]) (v:=.agg #[iv x.at',sD xa xk x.cond,rD x.cond,.int .u8 x.kind,.string ⟨⟨x.text⟩⟩]) rfl (cellsU b3 (.head _) b6) (.inl ⟨gI,rfl⟩) ?_;unfold Syn.oZ at hy;by_cases bF:x.text=Im
  ·have dx:(x.text == [123])=true:=by rw[bF];decide
   rw[ZV (by simp[bF])]at hy;apply RG;simp only[go_sem,cd,iv,pt,sD,rD,dx,abQ];by_cases ba:o=64
   ·rw[aaq ba]at hy;cases hy
    subst ba;refine ad b3 [0,1,2,3] [sg pb _,D3] [A3,B3] rfl jh rfl (nq h3 b1.le ak hE (by simp[cJ]at a3 |-;omega)) fun v I4 qs a5 aa hq=>?_;obtain⟨dv2,D4,rs,rfl,dc,rfl,rfl⟩:=hq;simp only[aaz,aaA]at a5 |-;apply RG;simp only[go_sem,iv,pt,sD,rD,cp,abK];exact al (i+1,va,vb,dv2) _ _ dt gP (by simp only[go_sem,aa6,TN]) ⟨I4,D4,A3,B3,_,rfl,a5,abV ag aa,cj,a4,by simp only;rw[<-aaT];exact dc,by simpa using hA.le aa,hB.le aa,ca,by simpa using cm⟩
   ·rw[ZV ba]at hy;obtain⟨a,dI,cr⟩:=bU hy;obtain⟨g,e2,ht⟩:∃g e1,Syn.take ts a.f qD=(g,e1):=⟨_,_,rfl⟩;rw[ht]at cr;simp only at cr;cases cr
    have b0:=b1.lt (.inl (by rw[bF];decide));have en:=wrap64 (n:=x.at'+1) ab;have e2'':IntKind.i64.wrap ((x.at':Int)+1)=((x.at'+1:Nat):Int):=by rw[<-en];congr 1
    refine ad b3 [0,1,2,3] [sg pb _] [D3,A3,B3] rfl jh rfl (lz (h:=x) (a:=xa) (k:=xk) ab) fun v I4 qs a5 aa hq=>?_;obtain⟨rfl,rfl,rfl⟩:=hq;simp only[aaz,aaA]at a5 |-;apply RG;simp only[go_sem,iv,pt,sD,rD,cp,e2'',abQ];refine CS mixed [0,1,2,3,4,5,6,9,10] 7 8 [11,12,13,14,15,16] [11,12,13,14,15,16] [] [] rfl rfl ?_;apply mI;simp only[go_sem,iv,pt,sD,rD,e2''];simp only[aaT,aa9]at a3 hm cf;refine wC ?_ ?_;refine bj a5 (by exact jH) rfl rfl rfl rfl rfl bg fun nb I5 cy a2 cx=>?_;refine qY ?_;refine aE cy [0,1,2,3] [] [sg pb _,D3,A3,B3] rfl jl rfl (kM (s:=qD)) fun vi I6 qs b2 a1 hq=>?_;obtain⟨rfl,b8⟩:=hq;simp only[aaz,aaA]at b2 |-;obtain⟨fi,first,cap,rfl,gi,ci⟩:=id b8;refine qY ?_;have kk:I4.le I6:=abV a2 a1;have dk:eR I6 (.slice (some ⟨nb,0,none⟩) 1 1) (bv x):=⟨_,_,rfl,.inr ⟨nb,0,[iv (x.at'+1),sD xa xk x.cond,rD x.cond],rfl,(az cx (by simp[aD,Value.cells]) (by simp[aD,Value.cells,iv,sD,rD])).le a1,.one ⟨_,_,rfl,ak.le kk⟩⟩⟩;refine aE b2 [0,1,2,3] [sg pb _,D3] [A3,B3] rfl BR rfl (J1 (n:=m) dI (vi:=.func (.func fi) first cap) (vr:=.func (.func 264) #[pt pb] #[]) (by rw[sJ];exact(JE.le b8 (abW _)).toP) (Ab ih ab) (h3.le kk) dk (bH b1 b0) (hE.le kk) (by simp only[aa9];omega)) fun v I7 qs bd a7 hq=>?_
    rotate_left
    refine aE a5 [0,1,2,3] [] [sg pb _,D3,A3,B3] rfl jl rfl (kM (s:=qD)) fun vi I6 qs b2 a1 hq=>?_;obtain⟨rfl,b8⟩:=hq;simp only[aaz,aaA]at b2 |-;obtain⟨fi,first,cap,rfl,gi,ci⟩:=id b8;refine qY ?_;refine bj b2 (by exact jH) rfl rfl rfl rfl rfl bg fun nb I5 cy a2 cx=>?_;refine qY ?_;have kk:I4.le I5:=abV a1 a2;have dk:eR I5 (.slice (some ⟨nb,0,none⟩) 1 1) (bv x):=⟨_,_,rfl,.inr ⟨nb,0,[iv (x.at'+1),sD xa xk x.cond,rD x.cond],rfl,(az cx (by simp[aD,Value.cells]) (by simp[aD,Value.cells,iv,sD,rD])).le (abW _),.one ⟨_,_,rfl,ak.le kk⟩⟩⟩;refine aE cy [0,1,2,3] [sg pb _,D3] [A3,B3] rfl BR rfl (J1 (n:=m) dI (vi:=.func (.func fi) first cap) (vr:=.func (.func 264) #[pt pb] #[]) (by rw[sJ];exact(JE.le b8 a2).toP) (Ab ih ab) (h3.le kk) dk (bH b1 b0) (hE.le kk) (by simp only[aa9];omega)) fun v I7 qs bd a7 hq=>?_
    all_goals
     obtain⟨dv6,D6,rs,rfl,ek,⟨A6,B6,va6,vb6,rfl,rfl,ds,el⟩,dT,ex⟩:=hq;have b7:=ds.capN bm.len;obtain⟨ka,kc,rfl⟩:=ds.shape;simp only[aaz,aaA]at bd |-;refine qY ?_;refine aw ?_;refine dg ?_;refine bf bd [2,0,1,3,4,5] fun c7=>?_;refine ae c7 fun I8 c6 aS dw=>?_;have ef:eE I8 (.slice ka a.l.length kc) a.l:=ds.sl aS dw;refine ax c6 (by exact dQ) rfl rfl rfl rfl rfl bg fun nb2 I9 c5 aq ct=>?_;refine dg ?_;refine bf c5 [3,0,1,2,4] fun b5=>?_;have d0:=abV kk (abV a7 (abV aS aq));obtain⟨bs,a9,c8⟩:=hA;obtain⟨xsa,xsc,rfl⟩:=a9.slice;unfold aN at cf cm;refine dZ (m:=1) b5 (by exact dQ) a9 rfl rfl rfl rfl (cellsU b5 (.head _) (az (l:=[.int .u8 6,.string ⟨#[]⟩,.int .i64 x.at',.int .i64 slot,.slice ka a.l.length kc,.slice xa (T.subs x.cond).length xk,iv (T.plc (T.subs x.cond) x.cond)]) ct (by simp[aD,Value.cells]) (by simp[aD,Value.cells,iv]))) rfl rfl ab (by unfold maxLen;omega) fun v' er A10 c4 ao cc=>?_;obtain⟨na,nc,rfl⟩:=cc.slice;have k410:=abV d0 ao;have em:bQ er A10 (.slice na (ri.l.length+1) nc) (ri.l++[⟨6,[],x.at',slot,a.l,x.cond⟩]):=by
      refine⟨_,by rw[aa9];exact cc,LR.app (c8.mono fun _ _ h=>bm.le h k410) (.one (bm.mk (n:=⟨6,[],x.at',slot,a.l,x.cond⟩) (ak.le k410) (ef.le (abV aq ao)) b7))⟩
     refine dg ?_;refine bf c4 [3,0,1,2,4] fun c3=>?_;refine ae c3 fun eq c2 an dj=>?_;have k711:=abV aS (abV aq (abV ao an));have da:eR eq vb6 a.f:=el.sl k711 dj;have k411:=abV k410 an;refine ad c2 [1,2,0,3] [sg pb _,D6] [A10,B3] rfl iG rfl (kf (s:=qD) (h3.le k411) da dT bg (ek.le k711) (by rw[ht];simp only[aa9];omega)) fun v ey qs b4 a6 hq=>?_;obtain⟨dv10,D10,rs,rfl,bx,B10,rfl,bC⟩:=hq;rw[ht]at bx bC;have tf:=dK h.ok dT (s:=qD) bg;rw[ht]at tf;simp only at bx bC tf;simp only[aaz,aaA]at b4 |-;refine dg ?_;refine bf b4 [2,0,1,3,4] fun c1=>?_;refine ae c1 fun ep c0 ac dd=>?_;have c9:eR ep v g:=bC.sl ac dd;have k413:=abV k411 (abV a6 ac);refine ad c0 [3,0,1,2] [B3] [sg pb _,D10,A10] rfl eI rfl (cS (N:=ts.length) ab (hB.le k413) ca c9 tf) fun v eo qs bc am hq=>?_;obtain⟨B14,rfl,cb⟩:=hq;simp only[aaz,aaA]at bc |-;refine dg ?_;refine XN (l:=[.int .i64 ((o+1:Nat):Int)]) rfl (cellsU bc (.tail _ (.tail _ (.head _))) (ay (by simp[cg]) rfl)) (.inr ⟨jq,rfl⟩) ?_;apply RG;simp only[go_sem,iv,pt,sD,rD,kE o ho];refine bf bc [1,2,3,0] fun cB=>?_;refine bw cB rfl rfl rfl rfl rfl (by exact uZ) (by simp) fun cA=>?_;apply RG;simp only[go_sem,iv,pt,sD,rD,cp];obtain⟨ta,tc,rfl⟩:=cb.shape
     refine al (i+1,.slice na (ri.l.length+1) nc,.slice ta (Syn.joinAll ri.f g).length tc,dv10) _ _ dt gP (by simp only[go_sem,aa6,TN]) ⟨eo,D10,A10,B14,_,rfl,cA,abV ag (abV k413 am),cj,a4,by simpa[aaT]using bx.le (abV ac am),bQ.le em (abV an (abV a6 (abV ac am))),cb,ca.joinAll tf,by simp only[aa9];unfold aN;exact cf⟩
  ·have dx:(x.text == [123])=false:=by
    rw[abS];exact bF
   rw[aaq bF]at hy;cases hy
   apply RG;simp only[go_sem,cd,iv,pt,sD,rD,dx,abK];refine ad b3 [0,1,2,3] [sg pb _,D3] [A3,B3] rfl kX rfl (ow h3 b1.le ak hE (by simp[cJ]at a3 |-;omega)) fun v I4 qs a5 aa hq=>?_;obtain⟨dv2,D4,rs,rfl,dc,rfl⟩:=hq;simp only[aaz,aaA]at a5 |-;apply RG;simp only[go_sem,iv,pt,sD,rD,cp];exact al (i+1,va,vb,dv2) _ _ dt gP (by simp only[go_sem,aa6,TN]) ⟨I4,D4,A3,B3,_,rfl,a5,abV ag aa,cj,a4,by simp only;rw[<-aaT];exact dc,by simpa using hA.le aa,hB.le aa,ca,by simpa using cm⟩
 ·have d3:i=aj.length:=by omega
  subst d3;have cd:=Z6 aj.length;rw[abH]at cl;cases cl
  apply RG;simp only[go_sem,cd,iv,pt];exact af rfl b3 (r:=[va,vb]) rfl (abV bb ag) ⟨_,D3,[A3,B3],rfl,hE,⟨A3,B3,va,vb,rfl,rfl,hA,hB⟩,ca,cm⟩
end
end Go.Proofs.YtfaclfkpnmcmlaaGreatDoor
