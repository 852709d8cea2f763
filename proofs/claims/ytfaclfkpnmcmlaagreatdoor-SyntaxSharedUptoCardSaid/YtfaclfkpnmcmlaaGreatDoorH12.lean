import Derived.Test.YtfaclfkpnmcmlaaGreatDoorH05
import Derived.Test.YtfaclfkpnmcmlaaGreatDoorH11
import Derived.Deep.Upon
set_option maxHeartbeats 8000000
set_option linter.all false
namespace Go.Proofs.YtfaclfkpnmcmlaaGreatDoor
open Go Go.Sx Dg Syn
variable{Q:Prop}{c:Cf}
def dP{C:Cx}{σ:St}{H:PH}(h:Q)(e:bW C H (nF C.P 500 c σ [])=Q:=by simp only[go_sem,iv];rfl):RC C c σ H:=pX 500 (e.mpr h)
variable{l:List (Nat×Oper)}{str:ip}{fr:iK}{ol:List Oper}
def dS{C:Cx}{k:List Item}{σ:St}{H:PH}(h:Q)(e:CI C ol fr str k H (my C.P ol fr.k str.k fr.kp l σ [])=Q:=by simp only[go_sem,iv];rfl):RD C ol fr str l k σ H:=au (e.mpr h)
def ll{C:Cx}{σ:St}{H:PH}(h:Q)(e:bW C H (nF C.P 500 c σ [])=Q:=by simp only[go_sem,iv,pt];rfl):RC C c σ H:=pX 500 (e.mpr h)
def FW{C:Cx}{k:List Item}{σ:St}{H:PH}(h:Q)(e:CI C ol fr str k H (my C.P ol fr.k str.k fr.kp l σ [])=Q:=by simp only[go_sem,iv,pt];rfl):RD C ol fr str l k σ H:=au (e.mpr h)
def dg{C:Cx}{σ:St}{H:PH}(h:Q)(e:bW C H (nF C.P 500 c σ [])=Q:=by simp only[go_sem,iv,pt,sD,rD];rfl):RC C c σ H:=pX 500 (e.mpr h)
def qY{C:Cx}{k:List Item}{σ:St}{H:PH}(h:Q)(e:CI C ol fr str k H (my C.P ol fr.k str.k fr.kp l σ [])=Q:=by simp only[go_sem,iv,pt,sD,rD];rfl):RD C ol fr str l k σ H:=au (e.mpr h)
def lY{C:Cx}{σ:St}{H:PH}(h:Q)(e:bW C H (nF C.P 500 c σ [])=Q:=by simp only[go_sem,iv,sD,rD];rfl):RC C c σ H:=pX 500 (e.mpr h)
def lE{C:Cx}{k:List Item}{σ:St}{H:PH}(h:Q)(e:CI C ol fr str k H (my C.P ol fr.k str.k fr.kp l σ [])=Q:=by simp only[go_sem,iv,sD,rD];rfl):RD C ol fr str l k σ H:=au (e.mpr h)
def OZ{C:Cx}{σ:St}{H:PH}(h:Q)(e:bW C H (nF C.P 500 c σ [])=Q:=by simp only[go_sem,pt];rfl):RC C c σ H:=pX 500 (e.mpr h)
def J7{C:Cx}{k:List Item}{σ:St}{H:PH}(h:Q)(e:CI C ol fr str k H (my C.P ol fr.k str.k fr.kp l σ [])=Q:=by simp only[go_sem,pt];rfl):RD C ol fr str l k σ H:=au (e.mpr h)
variable{L:List (Nat×SV)}{n:Nat}
def bM{K:List (Nat×SV)}(h:Bn K L:=by simp only[go_sem,aa6,iv]):nm (dn n K) (dn n L):=bJ h
def gP{K:List (Nat×SV)}(h:Bn K L:=by simp only[go_sem,aa6,iv,pt]):nm (dn n K) (dn n L):=bJ h
def R5{K:List (Nat×SV)}(h:Bn K L:=by simp only[go_sem,aa6,iv,pt,sD,rD]):nm (dn n K) (dn n L):=bJ h
def Tp{K:List (Nat×SV)}(h:Bn K L:=by simp only[go_sem,aa6,iv,sD,rD]):nm (dn n K) (dn n L):=bJ h
def ah(n:Nat){P:Program}{f:FuncId}{fn:Func}{c:Code}{args:Array Value}{H:PH}{Φ:Value->PH->Prop}(hf:P.funcs[f]?=some fn)
  (h:∀w0,RC ⟨P,f,fn,hf,H,w0,Φ⟩ (.st [.code c]) ⟨dn n (Ao 0 args.toList),[]⟩ H) (hq:(fn.body,fn.ntmps,decide (args.toList.length<=n))=(some c,n,true):=by exact rfl):bO P f args H Φ:=by
 simp only[aaI,aaC]at hq;obtain⟨h1,rfl,h3⟩:=hq;exact iz hf h1 h3 h
def eP{C:Cx}{k:List Item}{σ:St}{H:PH}{id:Nat}{ops:Array Oper}(κ fr str:List Nat)
  (h:RD C ops.toList ⟨fr,[],PH.emp,[],[]⟩ ⟨str,[],[]⟩ (pick ops.toList κ) k σ H) (hm:C.P.follows .mixedOrders=true:=by exact mixed) (aa:OD ops.toList κ ⟨fr,[],PH.emp,[],[]⟩ ⟨str,[],[]⟩=true:=by exact rfl) (hs:yS σ.bx=true:=by exact rfl):RC C (.st (.code (.region id ops true)::k)) σ H:=dN hm κ fr str aa hs h
def kU:aO Tryz.prog 198:=⟨_,Tryz.func198,rfl,rfl⟩
def l7(I:PH)(c:List Value)(h:aB):Prop:=∃a k,c=[iv h.at',sD a k h.cond,rD h.cond,.int .u8 h.kind,.string ⟨⟨h.text⟩⟩]/\cX I (.agg #[sD a k h.cond,rD h.cond]) h.cond
variable{I:PH}
def l7.le{J:PH}{c:List Value}{h:aB}(k:l7 I c h)(aa:I.le J):l7 J c h:=by
 obtain⟨a,b,e,r⟩:=k;exact⟨a,b,e,cX.le r aa⟩
def l7.len(c:List Value)(h:aB)(k:l7 I c h):c.length=5:=by obtain⟨a,b,e,_⟩:=k;rw[e];rfl
abbrev qO(I:PH)(v:Value)(l:List aB):Prop:=Sl l7 I v l
def Nj{d:T}(h:d.ok 0):d.and ff=ff:=T.ext (T.and_ok h (show ff.ok 0 from trivial)) (show ff.ok 0 from trivial) fun c=>by rw[T.and_at h (show ff.ok 0 from trivial)];simp[T.at']
def Mb{d:T}(h:d.ok 0):d.and tt=d:=T.ext (T.and_ok h (show tt.ok 0 from trivial)) h fun c=>by rw[T.and_at h (show tt.ok 0 from trivial)];simp[T.at']
def VF(pb:Nat)(vf:Value)(n:Nat)(x:Nat×Value):St:=⟨dn 153 [(0,.v (pt pb)),(5,.v x.2),(16,.v vf),(17,.v (iv n)),(18,.v (iv x.1))],[]⟩
def Zg(pb:Nat)(rc:Obj)(ts:List Tok)(f:ar)(I0:PH)(x:Nat×Value)(H:PH):Prop:=
 ∃I A,H=U [I,sg pb rc,A]/\Dj [I,sg pb rc,A]/\I0.le I/\x.1<=f.length/\jy I A x.2 (Hk ts f x.1)
def Ws(pb:Nat)(vf:Value)(n i:Nat)(x:Nat×Option Addr×Nat×T×Value):St:=⟨dn 153 [(0,.v (pt pb)),(5,.v x.2.2.2.2),(8,.p 8 0),(9,.v (iv x.1)),(16,.v vf),(17,.v (iv n)),(18,.v (iv i))],[⟨8,50,[.slice x.2.1 (T.subs x.2.2.2.1).length x.2.2.1,.int .i64 (T.plc (T.subs x.2.2.2.1) x.2.2.2.1)]⟩]⟩
def YR(pb:Nat)(rc:Obj)(ts:List Tok)(tgt:ar)(I0:PH)(x:Nat×Option Addr×Nat×T×Value)(H:PH):Prop:=
 ∃I A cur,H=U [I,sg pb rc,A]/\Dj [I,sg pb rc,A]/\I0.le I/\x.1<=ts.length/\jy I A x.2.2.2.2 cur/\FN ts.length cur/\cX I (.agg #[sD x.2.1 x.2.2.1 x.2.2.2.1,rD x.2.2.2.1]) x.2.2.2.1/\eW cur (ts.drop x.1) x.1 x.2.2.2.1=tgt
def Uz(pb:Nat)(va:Value)(n:Nat)(x:Nat×Value):St:=⟨dn 153 [(0,.v (pt pb)),(10,.v x.2),(73,.v va),(74,.v (iv n)),(75,.v (iv x.1))],[]⟩
def ZM(pb:Nat)(rc:Obj)(ts:List Tok)(a:ar)(I0:PH)(x:Nat×Value)(H:PH):Prop:=
 ∃I B,H=U [I,sg pb rc,B]/\Dj [I,sg pb rc,B]/\I0.le I/\x.1<=a.length/\Ow l7 227 5 I B x.2 ((a.take x.1).map (cQ ts))
theorem kW{pb:Nat}{ts:List Tok}{lv fv ov dv vf:Value}{o:Nat}{f:ar}(h:zr I ts lv fv)(hf:eR I vf f)(fn:FN ts.length f):
  aK Tryz.prog 198 #[pt pb,vf] I [sg pb (cg lv fv ov dv o)] fun v I2 qs=>qs=[sg pb (cg lv fv ov dv o)]/\qO I2 v (bE ts f):=by
 intro hd;have hl:=h.len;have fl:=fn.len;obtain⟨la,lc,rfl,_⟩:=id h.tok;obtain⟨fa,fc,rfl,_⟩:=id h.fit;obtain⟨ga,gc,rfl,_⟩:=id hf;refine V5 Tryz.func198 rfl fun w0=>?_;simp only[Tryz.ntmps198,iv,pt];refine aT ?_;refine aR hd fun ez=>?_;refine nr (c:=.st _) ez [1,0] rfl fun eo=>?_;simp only[vG,aa7,aa8]at eo |-;refine aA (fun x=>f.length-x.1) (VF pb (.slice ga f.length gc) f.length) (Zg pb (cg (.slice la ts.length lc) (.slice fa ts.length fc) ov dv o) ts f I) (0,.slice none 0 0) (bJ (by simp only[go_sem,aa6,iv,pt])) (by simp only[go_sem,aa6,VF]) ?_ ?_
 ·exact⟨I,PH.no,rfl,eo,abW _,aaL _,Ow.nil _ _ _ _⟩
 rintro⟨i,vat⟩ H ⟨I1,A1,rfl,eg,a5,hi,dx⟩ cl;simp only at hi dx;simp only[VF];have fA:=Ft h.ok fn i hi;obtain⟨aa,ac,rfl⟩:=dx.shape;have ex:eR I1 (.slice ga f.length gc) f:=Sl.le (R:=iD) (fun{I J c a} h k=>iD.le h k) hf a5;rcases aaf i f.length with b3|es
 ·have el:decide ((i:Int)<(f.length:Int))=true:=by simp;omega
  have e1:=wrap64 (n:=i+1) ab;have c8:IntKind.i64.wrap ((i:Int)+1)=((i+1:Nat):Int):=by rw[<-e1];congr 1
  obtain⟨s,hs⟩:∃s,f[i]?=some s:=⟨_,aak b3⟩;have dA:=aaV hs;obtain⟨b,off,cs,rfl,ei,b1⟩:=ex.load iD.len hs;obtain⟨sa,sk,rfl,cb⟩:=ei.shape;apply RG;simp only[go_sem,el,iv,pt];refine⟨ab,?_⟩;refine XN (l:=[iv s.1,.slice sa (T.subs s.2).length sk,iv (T.plc (T.subs s.2) s.2)]) (v:=.agg #[iv s.1,.slice sa (T.subs s.2).length sk,iv (T.plc (T.subs s.2) s.2)]) rfl (cellsU eg (.head _) b1) (.inl ⟨sM,rfl⟩) ?_;apply RG;simp only[go_sem,iv,pt];refine aA (fun x=>ts.length-x.1) (Ws pb (.slice (some ⟨b,off,none⟩) f.length gc) f.length i) (YR pb (cg (.slice la ts.length lc) (.slice fa ts.length fc) ov dv o) ts (Hk ts f (i+1)) I1) (s.1,sa,sk,s.2,.slice aa (Hk ts f i).length ac) (bJ (by simp only[go_sem,aa6,iv,pt])) (by simp only[go_sem,aa6,Ws]) ?_ ?_
  ·exact⟨I1,A1,_,rfl,eg,abW _,fn.le s dA,dx,fA,cb,(Dy hs).symm⟩
  rintro⟨j,da,dk,d,vat⟩ H ⟨I2,A2,cur,rfl,a6,ci,hj,dw,fC,c1,ct⟩ cy;simp only at hj dw c1 ct;simp only[Ws];obtain⟨ba,bc,rfl⟩:=dw.shape;have e7:=fC.len;have ee:=c1.1;have h2:=h.le (abV a5 ci);have e2:=wrap64 (n:=j+1) ab;have e4:IntKind.i64.wrap ((j:Int)+1)=((j+1:Nat):Int):=by rw[<-e2];congr 1
  rcases aaf j ts.length with dI|e6
  ·have dy:decide ((j:Int)<(ts.length:Int))=true:=by simp;omega
   apply RG;simp only[go_sem,dy,iv,pt];refine XN (l:=[_]) rfl (cellsU a6 (.tail _ (.head _)) (ay (by simp[cg]) rfl)) (.inr ⟨uy,rfl⟩) ?_;apply RG;simp only[go_sem,dy,iv,pt];refine WZ rfl jt (gO c1) fun v H2 hv=>?_;obtain⟨rfl,rfl⟩:=hv;cases b4:decide (d=.lf false)
   ·have ef:d≠ff:=by simpa using b4
    obtain⟨t,ht⟩:∃t,ts[j]?=some t:=⟨_,aak dI⟩;have d2:=h.ok t (aaV ht);have dj:ts.drop j=t::ts.drop (j+1):=by
     rw[aaK dI];rw[aak dI]at ht;rw[aaZ ht]
    obtain⟨tb,toff,tc,rfl,d3,a2⟩:=h2.tok.load dz.len ht;obtain⟨path,file,line,ta,tk,rfl,c9,d1⟩:=d3;have a7:=a2.sub 5 2 (by simp);simp only[abx,aa1,abA,abz]at a7;rw[dj,eW,ZV ef]at ct;apply RG;simp only[go_sem,b4,iv,pt];refine dN mixed [0,1,2,3,4,5,6,7,8,9,10,11,12,13] [6,10] [] rfl rfl ?_;apply au;simp only[go_sem,iv,pt];refine W7 (l:=[_]) rfl (cellsU a6 (.tail _ (.head _)) (ay (by simp[cg]) rfl)) (.inr ⟨uy,rfl⟩) ?_;apply au;simp only[go_sem,iv,pt];refine⟨ab,?_⟩;refine W7 (l:=[_,_]) (v:=.agg #[_,_]) rfl (cellsU a6 (.head _) a7) (.inl ⟨r9,rfl⟩) ?_;apply au;simp only[go_sem,iv,pt,sD,rD];refine aE a6 [0,1] [] [_,_] rfl kK rfl (oQ c1 d1) fun v I3 qs b5 am hq=>?_;obtain⟨rfl,c5⟩:=hq;obtain⟨xa,xc,rfl⟩:=c5.shape;simp only[aaA,aaz]at b5 |-;apply au;simp only[go_sem,iv,pt];refine aE b5 [1,0] [A2] [_] rfl ej rfl (bK (a:=j) (jy.le' dw am) c5 fC.ok.2 (fun t ht=>by have:=fC.le t ht;omega) ab ab) fun v I4 qs cn cf hq=>?_;obtain⟨A3,rfl,b6⟩:=hq;obtain⟨ca,cc,rfl⟩:=b6.shape;simp only[aaz,aaA]at cn |-;apply au;simp only[go_sem,iv,pt];refine nI cn [1,0] fun c7=>?_;refine aw ?_;have d0:=d1.le (abV am cf);have cr:=a7.le (abV am cf);have ed:=c1.le (abV am cf);apply RG;simp only[go_sem,iv,pt];refine dN mixed [0,1,2,3,4,5,6,7,8,9,10,11] [4,8] [] rfl rfl ?_;apply au;simp only[go_sem,iv,pt];refine W7 (l:=[_]) rfl (cellsU c7 (.tail _ (.head _)) (ay (by simp[cg]) rfl)) (.inr ⟨uy,rfl⟩) ?_;apply au;simp only[go_sem,iv,pt];refine⟨ab,?_⟩;refine W7 (l:=[_,_]) (v:=.agg #[_,_]) rfl (cellsU c7 (.head _) cr) (.inl ⟨r9,rfl⟩) ?_
    apply au;simp only[go_sem,iv,pt,sD,rD];refine aE c7 [0,1] [] [_,_] rfl oT rfl (uX d0) fun v I5 qs c6 a1 hq=>?_;obtain⟨rfl,c4⟩:=hq;obtain⟨ya,yc,rfl⟩:=c4.shape;simp only[aaA,aaz]at c6 |-;apply au;simp only[go_sem,iv,pt];refine aE c6 [0,1] [] [_,_] rfl kK rfl (oQ (ed.le a1) c4) fun v I6 qs cm cA hq=>?_;obtain⟨rfl,a9⟩:=hq;obtain⟨za,zc,rfl⟩:=a9.shape;simp only[aaA,aaz]at cm |-;apply au;simp only[go_sem,iv,pt];refine aw ?_;apply RG;simp only[go_sem,iv,pt,e4];have fC2:FN ts.length (Syn.join cur j (d.and t.cond)):=fC.join ab (T.and_ok ee d2);exact cy (j+1,za,zc,d.and t.cond.not,.slice ca (Syn.join cur j (d.and t.cond)).length cc) _ _ dt (bJ (by simp only[go_sem,aa6,iv,pt])) (by simp only[go_sem,aa6,Ws]) ⟨I6,A3,_,rfl,cm,abV ci (abV am (abV cf (abV a1 cA))),dI,jy.le' b6 (abV a1 cA),fC2,a9,ct⟩
   ·have ey:d=ff:=by simpa using b4
    subst ey;have bb:Syn.join cur ts.length ff=Hk ts f (i+1):=by rw[Al]at ct;rw[<-ct];simp[Syn.join]
    apply RG;simp only[go_sem,b4,iv,pt];refine dN mixed [0,1,2,3,4,5,6,7,8] [4] [] rfl rfl ?_;apply au;simp only[go_sem,iv,pt];refine W7 (l:=[_]) rfl (cellsU a6 (.tail _ (.head _)) (ay (by simp[cg]) rfl)) (.inr ⟨uy,rfl⟩) ?_;apply au;simp only[go_sem,iv,pt];refine aE a6 [1,0] [A2] [_] rfl ej rfl (bK (a:=ts.length) dw c1 fC.ok.2 (fun t ht=>by have:=fC.le t ht;omega) ab ab) fun v I3 qs b5 am hq=>?_;obtain⟨A3,rfl,b6⟩:=hq;obtain⟨ca,cc,rfl⟩:=b6.shape;simp only[aaz,aaA]at b5 |-;apply au;simp only[go_sem,iv,pt];refine nI b5 [1,0] fun cn=>?_;refine aw ?_;apply RG;simp only[go_sem,iv,pt,c8];rw[bb]at b6 |-;exact cl (i+1,.slice ca (Hk ts f (i+1)).length cc) _ _ dt (bJ (by simp only[go_sem,aa6,iv,pt])) (by simp only[go_sem,aa6,VF]) ⟨I3,A3,rfl,cn,abV a5 (abV ci am),b3,b6⟩
  ·have er:j=ts.length:=by omega
   subst er;have dy:=Z6 ts.length;have bb:Syn.join cur ts.length d=Hk ts f (i+1):=by rw[abH]at ct;exact ct
   apply RG;simp only[go_sem,dy,iv,pt];refine XN (l:=[_]) rfl (cellsU a6 (.tail _ (.head _)) (ay (by simp[cg]) rfl)) (.inr ⟨uy,rfl⟩) ?_;apply RG;simp only[go_sem,dy,iv,pt];refine dN mixed [0,1,2,3,4,5,6,7,8] [4] [] rfl rfl ?_;apply au;simp only[go_sem,iv,pt];refine W7 (l:=[_]) rfl (cellsU a6 (.tail _ (.head _)) (ay (by simp[cg]) rfl)) (.inr ⟨uy,rfl⟩) ?_;apply au;simp only[go_sem,iv,pt];refine aE a6 [1,0] [A2] [_] rfl ej rfl (bK (a:=ts.length) dw c1 fC.ok.2 (fun t ht=>by have:=fC.le t ht;omega) ab ab) fun v I3 qs b5 am hq=>?_;obtain⟨A3,rfl,b6⟩:=hq;obtain⟨ca,cc,rfl⟩:=b6.shape;simp only[aaz,aaA]at b5 |-;apply au;simp only[go_sem,iv,pt];refine nI b5 [1,0] fun cn=>?_;refine aw ?_;apply RG;simp only[go_sem,iv,pt,c8];rw[bb]at b6 |-;exact cl (i+1,.slice ca (Hk ts f (i+1)).length cc) _ _ dt (bJ (by simp only[go_sem,aa6,iv,pt])) (by simp only[go_sem,aa6,VF]) ⟨I3,A3,rfl,cn,abV a5 (abV ci am),b3,b6⟩
 ·have eb:i=f.length:=by omega
  subst eb;have el:=Z6 f.length;have eA:Hk ts f f.length=eK ts f:=by unfold Hk eK;rw[aaS]
  rw[eA]at dx fA |-;apply RG;simp only[go_sem,el,iv,pt];refine nr (c:=.st _) eg [1,0] rfl fun a6=>?_;simp only[vG,aa7,aa8]at a6 |-;refine ae (c:=.st _) a6 fun I2 b5 am e3=>?_;refine aR (c:=.st _) b5 fun cn=>?_;refine nr (c:=.st _) cn [1,0] rfl fun c7=>?_;simp only[vG,aa7,aa8]at c7 |-;have hS:eR I2 (.slice aa (eK ts f).length ac) (eK ts f):=Ow.sl (R:=iD) (fun{I J c a} h k=>iD.le h k) dx am e3;obtain⟨a,ha⟩:∃a,a=eK ts f:=⟨_,rfl⟩;rw[<-ha]at hS fA |-;have e8:=fA.len;have cB:bE ts f=a.map (cQ ts):=by rw[lS h.ok fn.ok,ha]
  refine aA (fun x=>a.length-x.1) (Uz pb (.slice aa a.length ac) a.length) (ZM pb (cg (.slice la ts.length lc) (.slice fa ts.length fc) ov dv o) ts a I2) (0,.slice none 0 0) (bJ (by simp only[go_sem,aa6,iv,pt])) (by simp only[go_sem,aa6,Uz]) ?_ ?_
  ·exact⟨I2,PH.no,rfl,c7,abW _,aaL _,Ow.nil _ _ _ _⟩
  rintro⟨i,vo⟩ H ⟨I3,B,rfl,c6,a1,hi,hB⟩ a4;simp only at hi hB;simp only[Uz];obtain⟨oa,oc,rfl⟩:=hB.shape;have cx:((a.take i).map (cQ ts)).length=i:=by simp;omega
  rw[cx]at hB |-;have eH:eR I3 (.slice aa a.length ac) a:=Sl.le (R:=iD) (fun{I J c a} h k=>iD.le h k) hS a1;have h3:=h.le (abV a5 (abV am a1));rcases aaf i a.length with b3|es
  ·have ek:decide ((i:Int)<(a.length:Int))=true:=by simp;omega
   have e1:=wrap64 (n:=i+1) ab;have c8:IntKind.i64.wrap ((i:Int)+1)=((i+1:Nat):Int):=by rw[<-e1];congr 1
   obtain⟨s,hs⟩:∃s,a[i]?=some s:=⟨_,aak b3⟩;have dA:=aaV hs;obtain⟨b,off,cs,rfl,ei,b1⟩:=eH.load iD.len hs;obtain⟨sa,sk,rfl,cb⟩:=ei.shape;have sle:=fA.le s dA;obtain⟨sok,sne⟩:=fA.ok.1 s dA;have c3:(a.take (i+1)).map (cQ ts)=(a.take i).map (cQ ts)++[cQ ts s]:=by
    rw[aaM b3,abP];rw[aak b3]at hs;rw[aaZ hs];rfl
   apply RG;simp only[go_sem,ek,iv,pt];refine⟨ab,?_⟩;refine XN (l:=[iv s.1,.slice sa (T.subs s.2).length sk,iv (T.plc (T.subs s.2) s.2)]) (v:=.agg #[iv s.1,.slice sa (T.subs s.2).length sk,iv (T.plc (T.subs s.2) s.2)]) rfl (cellsU c6 (.head _) b1) (.inl ⟨sM,rfl⟩) ?_;apply RG;simp only[go_sem,iv,pt];refine ad c6 [0,1] [_] [B] rfl G7 rfl (Am h3 sle) fun v I4 qs cm cA hq=>?_;obtain⟨rfl,rfl,rfl⟩:=hq;simp only[aaz,aaA]at cm |-;apply RG;simp only[go_sem,iv,pt];refine ad cm [0,1] [] [_,_] rfl kK rfl (oQ cb (mN I4 false)) fun v I5 qs dT aS hq=>?_;obtain⟨rfl,c5⟩:=hq;rw[Nj sok]at c5;obtain⟨xa,xc,rfl⟩:=c5.shape;simp only[aaz,aaA]at dT |-;apply RG;simp only[go_sem,iv,pt];refine WZ rfl jt (gO c5) fun v H2 hv=>?_;obtain⟨rfl,rfl⟩:=hv;apply RG;simp only[go_sem,iv,pt];refine dN mixed [8,0,1,2,3,4,5,6,7,9] [] [] rfl rfl ?_;apply au;simp only[go_sem,iv,pt];refine aE dT [0,1] [] [_,_] rfl oT rfl (uX (mN I5 false)) fun v I6 qs ds an hq=>?_;obtain⟨rfl,c4⟩:=hq;simp only[T.not,abK]at c4;obtain⟨ya,yc,rfl⟩:=c4.shape;simp only[aaz,aaA]at ds |-;apply au;simp only[go_sem,iv,pt];refine aE ds [0,1] [] [_,_] rfl kK rfl (oQ (cb.le (abV aS an)) c4) fun v I7 qs aq a0 hq=>?_;obtain⟨rfl,a9⟩:=hq;rw[Mb sok]at a9;obtain⟨za,zc,rfl⟩:=a9.shape;simp only[aaz,aaA]at aq |-;apply au;simp only[go_sem,iv,pt];refine aw ?_;apply RG;simp only[go_sem,iv,pt];have h7:=h3.le (abV aS (abV an a0));rcases aaf s.1 ts.length with eq|e5
   ·have c2:decide ((s.1:Int)<(ts.length:Int))=true:=by simp;omega
    obtain⟨t,ht⟩:∃t,ts[s.1]?=some t:=⟨_,aak eq⟩;obtain⟨fb,foff,fcs,rfl,et,c0⟩:=h7.fit.load (fun{I} c a h=>uh.len (I:=I) c a h) ht;obtain⟨tb,toff,tc,rfl,d3,a2⟩:=h7.tok.load dz.len ht;have ec:fcs=[.bool t.fits]:=et;subst ec;refine dN mixed [0,1,2,3,4,5,6,7,8,9,10,11,12,13,14,15,16,17] [5,12,16] [] rfl rfl ?_;apply au;simp only[go_sem,iv,pt];refine W7 (l:=[_]) rfl (cellsU aq (.tail _ (.head _)) (ay (by simp[cg]) rfl)) (.inr ⟨uy,rfl⟩) ?_;apply au;simp only[go_sem,iv,pt,c2];refine W7 (l:=[.slice (some ⟨fb,foff,none⟩) ts.length fc]) rfl (cellsU aq (.tail _ (.head _)) (ay (by simp[cg]) rfl)) (.inr ⟨Rq,rfl⟩) ?_;apply au;simp only[go_sem,iv,pt];refine⟨ab,?_⟩;refine W7 (l:=[.bool t.fits]) rfl (cellsU aq (.head _) c0) (.inr ⟨Ep,rfl⟩) ?_;apply au;simp only[go_sem,iv,pt];refine aw ?_;cases cj:t.fits
    ·have dd:cQ ts s=⟨s.1,s.2,0,[]⟩:=by simp[cQ,ht,cj]
     apply RG;simp only[go_sem,iv,pt,cj];refine WZ rfl jt (gO a9) fun v H2 hv=>?_;obtain⟨rfl,rfl⟩:=hv;have b4:decide (s.2=.lf false)=false:=by simpa using sne
     apply RG;simp only[go_sem,iv,pt,b4];refine ax aq (by exact uV) rfl rfl rfl rfl rfl bg fun nb I8 b0 ak dc=>?_;apply RG;simp only[go_sem,iv,pt];refine bf b0 [1,0] fun a3=>?_;obtain⟨bs,ao,b2⟩:=hB;rw[cx]at ao;refine dZ (m:=1) a3 (by exact uV) ao rfl rfl rfl rfl (cellsU a3 (.head _) (az (l:=[iv s.1,.slice za (T.subs s.2).length zc,iv (T.plc (T.subs s.2) s.2),.int .u8 0,.string ⟨#[]⟩]) dc (by simp[aD,Value.cells]) (by simp[aD,Value.cells,iv]))) rfl rfl ab (by unfold maxLen;omega) fun v' I9 B2 bx aj cp=>?_;obtain⟨na,nc,rfl⟩:=cp.slice;apply RG;simp only[go_sem,iv,pt,c8];refine bf bx [1,0] fun bd=>?_;refine a4 (i+1,.slice na (i+1) nc) _ _ dt (bJ (by simp only[go_sem,aa6,iv,pt])) (by simp only[go_sem,aa6,Uz]) ⟨I9,B2,rfl,bd,abV a1 (abV aS (abV an (abV a0 (abV ak aj)))),b3,bs++[iv s.1,.slice za (T.subs s.2).length zc,iv (T.plc (T.subs s.2) s.2),.int .u8 0,.string ⟨#[]⟩],?_,?_⟩
     ·simp only;rw[c3,aa9,cx];exact cp
     ·simp only;rw[c3,dd];exact LR.app (b2.mono fun _ _ h=>l7.le h (abV aS (abV an (abV a0 (abV ak aj))))) (.one ⟨za,zc,rfl,a9.le (abV ak aj)⟩)
    ·have dd:cQ ts s=⟨s.1,s.2,t.kind,t.text⟩:=by simp[cQ,ht,cj]
     obtain⟨path,file,line,ta,tk,rfl,c9,d1⟩:=d3;have en:=a2.sub 0 1 (by simp);have em:=a2.sub 1 1 (by simp);simp only[abx,aa1,abA,abz,acS]at en em;apply RG;simp only[go_sem,iv,pt,cj];refine cK mixed [0,1,2,3,4,5,6,7,8,9,10,11,12,13,14,15,16,17,18,19,20,21] [3,8,12,17] [] [12,14,17] [19] [12] rfl rfl ?_;apply au;simp only[go_sem,iv,pt];refine W7 (l:=[.slice (some ⟨tb,toff,none⟩) ts.length lc]) rfl (cellsU aq (.tail _ (.head _)) (ay (by simp[cg]) rfl)) (.inr ⟨uy,rfl⟩) ?_;apply au;simp only[go_sem,iv,pt];refine⟨ab,?_⟩;refine W7 (l:=[.int .u8 t.kind]) rfl (cellsU aq (.head _) en) (.inr ⟨Uv,rfl⟩) ?_;apply au;simp only[go_sem,iv,pt];refine W7 (l:=[.slice (some ⟨tb,toff,none⟩) ts.length lc]) rfl (cellsU aq (.tail _ (.head _)) (ay (by simp[cg]) rfl)) (.inr ⟨uy,rfl⟩) ?_;apply au;simp only[go_sem,iv,pt];refine⟨ab,?_⟩;refine W7 (l:=[.string ⟨⟨t.text⟩⟩]) rfl (cellsU aq (.head _) em) (.inr ⟨tL,rfl⟩) ?_;apply au;simp only[go_sem,iv,pt];refine aw ?_;apply RG;simp only[go_sem,iv,pt];refine WZ rfl jt (gO a9) fun v H2 hv=>?_;obtain⟨rfl,rfl⟩:=hv;have b4:decide (s.2=.lf false)=false:=by simpa using sne
     apply RG;simp only[go_sem,iv,pt,b4];refine ax aq (by exact uV) rfl rfl rfl rfl rfl bg fun nb I8 b0 ak dc=>?_;apply RG;simp only[go_sem,iv,pt];refine bf b0 [1,0] fun a3=>?_;obtain⟨bs,ao,b2⟩:=hB;rw[cx]at ao;refine dZ (m:=1) a3 (by exact uV) ao rfl rfl rfl rfl (cellsU a3 (.head _) (az (l:=[iv s.1,.slice za (T.subs s.2).length zc,iv (T.plc (T.subs s.2) s.2),.int .u8 t.kind,.string ⟨⟨t.text⟩⟩]) dc (by simp[aD,Value.cells]) (by simp[aD,Value.cells,iv]))) rfl rfl ab (by unfold maxLen;omega) fun v' I9 B2 bx aj cp=>?_;obtain⟨na,nc,rfl⟩:=cp.slice;apply RG;simp only[go_sem,iv,pt,c8];refine bf bx [1,0] fun bd=>?_;refine a4 (i+1,.slice na (i+1) nc) _ _ dt (bJ (by simp only[go_sem,aa6,iv,pt])) (by simp only[go_sem,aa6,Uz]) ⟨I9,B2,rfl,bd,abV a1 (abV aS (abV an (abV a0 (abV ak aj)))),b3,bs++[iv s.1,.slice za (T.subs s.2).length zc,iv (T.plc (T.subs s.2) s.2),.int .u8 t.kind,.string ⟨⟨t.text⟩⟩],?_,?_⟩
     ·simp only;rw[c3,aa9,cx];exact cp
     ·simp only;rw[c3,dd];exact LR.app (b2.mono fun _ _ h=>l7.le h (abV aS (abV an (abV a0 (abV ak aj))))) (.one ⟨za,zc,rfl,a9.le (abV ak aj)⟩)
   ·have ep:s.1=ts.length:=by omega
    have c2:decide ((s.1:Int)<(ts.length:Int))=false:=by simp;omega
    have dd:cQ ts s=⟨s.1,s.2,0,[]⟩:=by simp[cQ,ep]
    refine dN mixed [0,1,2,3,4,5,6,7,8,9,10,11,12,13,14,15,16,17] [5,12,16] [] rfl rfl ?_;apply au;simp only[go_sem,iv,pt];refine W7 (l:=[_]) rfl (cellsU aq (.tail _ (.head _)) (ay (by simp[cg]) rfl)) (.inr ⟨uy,rfl⟩) ?_;apply au;simp only[go_sem,iv,pt,c2];refine aw ?_;apply RG;simp only[go_sem,iv,pt];refine WZ rfl jt (gO a9) fun v H2 hv=>?_;obtain⟨rfl,rfl⟩:=hv;have b4:decide (s.2=.lf false)=false:=by simpa using sne
    apply RG;simp only[go_sem,iv,pt,b4];refine ax aq (by exact uV) rfl rfl rfl rfl rfl bg fun nb I8 b0 ak dc=>?_;apply RG;simp only[go_sem,iv,pt];refine bf b0 [1,0] fun a3=>?_;obtain⟨bs,ao,b2⟩:=hB;rw[cx]at ao;refine dZ (m:=1) a3 (by exact uV) ao rfl rfl rfl rfl (cellsU a3 (.head _) (az (l:=[iv s.1,.slice za (T.subs s.2).length zc,iv (T.plc (T.subs s.2) s.2),.int .u8 0,.string ⟨#[]⟩]) dc (by simp[aD,Value.cells]) (by simp[aD,Value.cells,iv]))) rfl rfl ab (by unfold maxLen;omega) fun v' I9 B2 bx aj cp=>?_;obtain⟨na,nc,rfl⟩:=cp.slice;apply RG;simp only[go_sem,iv,pt,c8];refine bf bx [1,0] fun bd=>?_;refine a4 (i+1,.slice na (i+1) nc) _ _ dt (bJ (by simp only[go_sem,aa6,iv,pt])) (by simp only[go_sem,aa6,Uz]) ⟨I9,B2,rfl,bd,abV a1 (abV aS (abV an (abV a0 (abV ak aj)))),b3,bs++[iv s.1,.slice za (T.subs s.2).length zc,iv (T.plc (T.subs s.2) s.2),.int .u8 0,.string ⟨#[]⟩],?_,?_⟩
    ·simp only;rw[c3,aa9,cx];exact cp
    ·simp only;rw[c3,dd];exact LR.app (b2.mono fun _ _ h=>l7.le h (abV aS (abV an (abV a0 (abV ak aj))))) (.one ⟨za,zc,rfl,a9.le (abV ak aj)⟩)
  ·have eb:i=a.length:=by omega
   subst eb;have ek:=Z6 a.length;rw[aaS,<-cB]at hB;apply RG;simp only[go_sem,ek,iv,pt];refine nr (c:=.st _) c6 [1,0] rfl fun cm=>?_;simp only[vG,aa7,aa8]at cm |-;refine ae (c:=.st _) cm fun I4 dT aS e0=>?_;have ea:qO I4 (.slice oa a.length oc) (bE ts f):=Ow.sl (R:=l7) (fun{I J c a} h k=>l7.le h k) hB aS e0;exact af rfl dT (r:=[_]) rfl (abV a5 (abV am (abV a1 aS))) ⟨rfl,ea⟩
end Go.Proofs.YtfaclfkpnmcmlaaGreatDoor
namespace Go.Sx
open Go
section
variable {C:Cx} {P:Program} {k:List Item} {σ:St} {H:PH}
variable{I:PH}
def VW{I2:PH}{qs F:List PH}(aa:I.le I2)(ac:Dj (I::F))(hd:Dj (I2::qs++F)):(U (I::F)).le (U (I2::qs++F)):=by
 intro b o h;rcases(nU ac).1 h with ⟨A,hA,hb⟩
 rcases List.mem_cons.1 hA with rfl|hA
 ·exact(nU hd).2 ⟨I2,.head _,aa b o hb⟩
 ·exact(nU hd).2 ⟨A,.tail _ (aav _ hA),hb⟩
def Dj.drop_mid{ps F:List PH}(h:Dj (I::ps++F)):Dj (I::F):=
 h.sublist (List.Sublist.cons_cons I (List.sublist_append_right ps F))
variable{Ψ:Value->PH->List PH->Prop}{x:Operand}{o:Oper}{ol:List Oper}
def tG{fr:iK}{str:ip}{i:Nat}{lo:List (Nat×Oper)}{aS:Array Operand}{ts:Array TypeId}{f:FuncId}{vs:List Value}{first cap:Array Value}{l ps F:List PH}(hd:Dj (I::l))(is:List Nat)(hs:str.h.contains i=false)(hw:aH ol σ o=some true)(ac:o.op=.call ⟨.value x,aS,ts⟩)
  (hx:ev σ x=.v (.func (.func f) first cap)) (ha:j8 (ev σ) aS.toList=some vs) (hg:aO C.P f) (hi:is.isPerm (List.range l.length)=true) (hl:vG l is=ps++F) (aa:fr.J.le (U (I::F))) (h:aK C.P f (first++vs.toArray++cap) I ps Ψ)
  (hk:∀v I2 qs,Dj (I2::qs++F)->I.le I2->Ψ v I2 qs->RD C ol fr str lo k (σ.put o.dst (.v v)) (U (I2::qs++F))):RD C ol fr str ((i,o)::lo) k σ (U (I::l)):=by
 obtain⟨e,d⟩:=oz ((o5 hi).cons I) hd;rw[hl]at e d;rw[e];exact tH hw ac hx ha hg (h.frame d) fun v H2 ⟨I2,qs,a,b,c,dd⟩=>⟨⟨fun hh=>Bool.noConfusion (hs.symm.trans hh),fun hj _=>by subst a;exact abV aa (VW c (Dj.drop_mid d) b)⟩,by subst a;exact hk v I2 qs b c dd⟩
def d8{r:List Value}{I2:PH}{qs:List PH}(aa:C.post=fun v H2=>∃I2 qs,H2=U (I2::qs)/\Dj (I2::qs)/\I.le I2/\Ψ v I2 qs)(hd:Dj (I2::qs))(h:xx C.P σ C.fn.results.toList=some r)(ac:I.le I2)(hp:Ψ (gv r) I2 qs):RC C (.st []) σ (U (I2::qs)):=
 VA h (by rw[aa];exact⟨I2,qs,rfl,hd,ac,hp⟩)
variable{a:Option Addr}{y:Operand}{size:Nat}{e:TypeId}
def DJ{T:TypeId}{z:Operand}{len cap h m:Nat}{k1 k2:IntKind}(ac:o.op=.slice T x none (some y) (some z))(hu:P.underlying T=some (.slice e))(hi:∃i,P.info? e=some i/\i.size=size)
  (hx:ev σ x=.v (.slice a len cap)) (hy:ev σ y=.v (.int k1 h)) (hz:ev σ z=.v (.int k2 m)) (h1:h<=m) (h2:m<=cap) :
  bh σ o.op=true/\de P (execOp (bN σ) o) H fun sv H2=>sv=.v (.slice (sO a size 0 m) h m)/\H2=H:=by
 constructor
 ·simp[bh,ac,fT,Op.operands,hx,hy,hz,ul]
 ·intro w hw;obtain⟨i,hi,rfl⟩:=hi;have aj:(sizeOf e).run P w=.ok i.size w:=by simp[sizeOf,typeInfo,program,Sem.run,hi]
  have r1:=gX (P:=P) (w:=w) (i:=(m:Int)) (k:=k2) (code:=.slice3Acap) (y:=cap) ab ab;have r2:=gX (P:=P) (w:=w) (i:=(h:Int)) (k:=k1) (code:=.slice3B) (y:=m) ab ab;simp only[Int.toNat_natCast]at r1 r2;have aa:(execOp (bN σ) o).run P w=.ok (.value (.slice (sO a i.size 0 m) h m)) w:=by
   simp[execOp,ac,bN,hx,hy,hz,Instr.sliceAt,bt hu,run_underlying hu,Instr.slice,Instr.sliceBounds,Result.andThen,aj,sO,r1,r2]
  rw[aa];exact⟨H,dM.refl hw,rfl,rfl⟩
variable{rem:List Oper}
def II{T:TypeId}{z:Operand}{len cap h m:Nat}{k1 k2:IntKind}(hw:aH ol σ o=some true)(aa:o.op=.slice T x none (some y) (some z))(hu:C.P.underlying T=some (.slice e))(hi:∃i,C.P.info? e=some i/\i.size=size)
  (hx:ev σ x=.v (.slice a len cap)) (hy:ev σ y=.v (.int k1 h)) (hz:ev σ z=.v (.int k2 m)) (h1:h<=m) (h2:m<=cap)
  (hk:RC C (.op ol rem k) (σ.put o.dst (.v (.slice (sO a size 0 m) h m))) H):RC C (.op ol (o::rem) k) σ H:=by
 obtain⟨a,b⟩:=DJ (H:=H) aa hu hi hx hy hz h1 h2;exact iU hw a (b.mono fun sv H2 ⟨e1,e2⟩=>by subst e1;subst e2;exact hk)
variable{n c:Nat}
def EA{T T2:TypeId}(ac:o.op=.binOp .eql T x y T2)(hu:P.underlying T=some (.slice e))
  (hx:ev σ x=.v (.slice a n c)) (hy:ev σ y=.v (.slice none 0 0)) :
  bh σ o.op=true/\de P (execOp (bN σ) o) H fun sv H2=>sv=.v (.bool a.isNone)/\H2=H:=by
 constructor
 ·simp[bh,ac,fT,Op.operands,hx,hy,ul]
 ·intro w hw;have aa:(execOp (bN σ) o).run P w=.ok (.value (.bool a.isNone)) w:=by
   have:∀k,Op.maxDepth=k+1->(Op.equal T (.slice a n c) (.slice none 0 0)).run P w=.ok a.isNone w:=by
    intro k hk;unfold Op.equal;rw[hk];cases a<;>simp[Op.equalIn,run_underlying hu,ZY,Result.andThen]
   have hh:=this 9999 rfl;simp[execOp,ac,bN,hx,hy,eqGuard,binOp,ZY,hh,Result.andThen]
  rw[aa];exact⟨H,dM.refl hw,rfl,rfl⟩
def nG{T T2:TypeId}(hw:aH ol σ o=some true)(aa:o.op=.binOp .eql T x y T2)(hu:C.P.underlying T=some (.slice e))
  (hx:ev σ x=.v (.slice a n c)) (hy:ev σ y=.v (.slice none 0 0)) (hk:RC C (.op ol rem k) (σ.put o.dst (.v (.bool a.isNone))) H):RC C (.op ol (o::rem) k) σ H:=by
 obtain⟨p,q⟩:=EA (H:=H) aa hu hx hy;exact iU hw p (q.mono fun sv H2 ⟨e1,e2⟩=>by subst e1;subst e2;exact hk)
variable{bytes:Nat}{t:TypeId}
def tE(ht:jv P t e size bytes){ya:Option Addr}{n2:Nat}(ac:o.op=.call ⟨.builtin .append,#[x,y],#[t,t]⟩)
  (hx:ev σ x=.v (.slice a n n2)) (aj:n<=n2) (hy:ev σ y=.v (.slice ya 0 c)) :
  bh σ o.op=true/\de P (execOp (bN σ) o) H fun sv H2=>sv=.v (.slice a n n2)/\H2=H:=by
 constructor
 ·simp[bh,ac,fT,Op.operands,Call.operands,hx,hy,ul]
 ·intro w hw;obtain⟨i,z,a1,a2,a3,a4,a5,a6,a7⟩:=ht;have hs:Src P i.size t (.slice ya 0 c) 0 [] w:=by
   cases ya with
   |none=>exact Src.ofNil w a1 c
   |some b=>exact Src.ofSlice w a1 b 0 c [] (by simp) (fun j u h=>by simp at h) (fun u h=>by cases h)
  have aa:=run_append_nothing (P:=P) w t t o.type e i a1 a2 a n n2 aj _ hs;rw[pF ac hx hy aa];exact⟨H,dM.refl hw,rfl,rfl⟩
def AA(ht:jv P t e size bytes){n2 m xb xo:Nat}{olds news:List Value}(ak:o.op=.call ⟨.builtin .append,#[x,y],#[t,t]⟩)
  (hx:ev σ x=.v (.slice a n n2)) (am:n2<n+m) (hy:ev σ y=.v (.slice (some ⟨xb,xo,none⟩) m c)) (aj:n=0\/∃b off,a=some ⟨b,off,none⟩/\aP H b off olds) (hl:olds.length=n*size)
  (hc:aP H xb xo news) (ao:news.length=m*size) (h1:news.all one=true) (an:n+m<=maxLen) (hb:(n+m)*bytes<=140737488355328) :
  bh σ o.op=true/\de P (execOp (bN σ) o) H fun sv H2=>∃g cap zs,H g=none/\(n+m<=cap/\cap<=maxLen)/\sv=.v (.slice (some ⟨g,0,none⟩) (n+m) cap)/\H2=H.put g (.cells (olds++news++zs).toArray e (0,0)):=by
 constructor
 ·simp[bh,ak,fT,Op.operands,Call.operands,hx,hy,ul]
 ·intro w hw;obtain⟨i,z,a1,a2,a3,a4,a5,a6,a7⟩:=ht;subst a4;subst a5;have aq:(Builtin.firstCells i.size n (.slice a n n2)).run P w.drew=.ok olds.toArray w.drew:=by
   rcases aj with rfl|⟨b,off,rfl,aS⟩
   ·have:olds=[]:=by simpa using hl
    subst this;cases a with
    |none=>exact run_firstCells_none w.drew i.size 0 0 n2
    |some b=>exact run_firstCells_some w.drew i.size 0 b 0 n2 [] (by simp) (fun j u h=>by simp at h)
   ·exact run_firstCells_some (P:=P) (w:=w.drew) i.size n ⟨b,off,none⟩ n n2 olds hl (oK aS (w:=w.drew) hw)
  have hs:Src P i.size t (.slice (some ⟨xb,xo,none⟩) m c) m news w:=Src.ofSlice w a1 ⟨xb,xo,none⟩ m c news ao (oK hc hw)
   (fun u hu=>by have:=List.all_eq_true.1 h1 u hu;cases u<;>first|rfl|cases this)
  have aa:n+m<=9223372036854775807:=by simp only[maxLen]at an;omega
  have ac:=run_append_grow_src (P:=P) w t t o.type e i z a1 a2 a3 a n n2 olds aq _ m news hs am ab (growslice_fits am hb);rw[pF ak hx hy ac];obtain⟨n1,n2'⟩:=dM.newD hw (.cells ((olds++news).toArray++Builtin.zeroCells z.cells (grownCap w (n+m) n2 e-(n+m))) e (0,0));refine⟨_,n2',w.heap.size,grownCap w (n+m) n2 e,(Builtin.zeroCells z.cells (grownCap w (n+m) n2 e-(n+m))).toList,n1,⟨grownCap_ge w (n+m) n2 e,grownCap_le_maxLen w (n+m) n2 e an⟩,rfl,?_⟩;congr 2;rw[<-aaa];simp
def yq(ht:jv C.P t e size bytes){ya:Option Addr}{n2:Nat}(hw:aH ol σ o=some true)(aa:o.op=.call ⟨.builtin .append,#[x,y],#[t,t]⟩)
  (hx:ev σ x=.v (.slice a n n2)) (ac:n<=n2) (hy:ev σ y=.v (.slice ya 0 c)) (hk:RC C (.op ol rem k) (σ.put o.dst (.v (.slice a n n2))) H):RC C (.op ol (o::rem) k) σ H:=by
 obtain⟨a,b⟩:=tE (H:=H) ht aa hx ac hy;exact iU hw a (b.mono fun sv H2 ⟨e1,e2⟩=>by subst e1;subst e2;exact hk)
def FT{l:List PH}(hd:Dj (I::l))(ht:jv C.P t e size bytes){n2 m xb xo:Nat}{olds news:List Value}(hw:aH ol σ o=some true)(ac:o.op=.call ⟨.builtin .append,#[x,y],#[t,t]⟩)
  (hx:ev σ x=.v (.slice a n n2)) (ak:n2<n+m) (hy:ev σ y=.v (.slice (some ⟨xb,xo,none⟩) m c)) (aa:n=0\/∃b off,a=some ⟨b,off,none⟩/\aP (U (I::l)) b off olds) (hl:olds.length=n*size)
  (hc:aP (U (I::l)) xb xo news) (aj:news.length=m*size) (h1:news.all one=true) (am:n+m<=maxLen) (hb:(n+m)*bytes<=140737488355328)
  (hk:∀g cap I2,Dj (I2::l)->I.le I2->(n+m<=cap/\cap<=maxLen)->aP I2 g 0 (olds++news)->RC C (.op ol rem k) (σ.put o.dst (.v (.slice (some ⟨g,0,none⟩) (n+m) cap))) (U (I2::l))):RC C (.op ol (o::rem) k) σ (U (I::l)):=by
 obtain⟨a,b⟩:=AA ht ac hx ak hy aa hl hc aj h1 am hb;refine iU hw a (b.mono fun sv H2 ⟨g,cap,zs,e1,e4,e2,e3⟩=>?_);subst e2;subst e3;obtain⟨q1,q2,q3,q4⟩:=La hd (o:=.cells (olds++news++zs).toArray e (0,0)) e1;rw[q1];refine hk g cap _ q2 q3 e4 (az q4 (by simp) (by show (List.drop 0 (olds++news++zs)).take (olds++news).length=_;rw[aa1];exact List.take_left))
end
theorem Ox(l:List UInt8):(⟨⟨l⟩⟩:ByteArray).toList=l:=ByteArray.toList_eq _
attribute [go_sem] Ox
end Go.Sx
namespace Go.Proofs.YtfaclfkpnmcmlaaGreatDoor
open Go Go.Sx Dg Syn
def kX:aO Tryz.prog 140:=⟨_,Tryz.func140,rfl,rfl⟩
def eG(I:PH)(c:List Value)(e:cO):Prop:=∃a k,c=[.int .u8 e.code,.int .i64 e.tok,sD a k e.cond,rD e.cond]/\cX I (.agg #[sD a k e.cond,rD e.cond]) e.cond
variable{c:List Value}{I J:PH}
def eG.le{e:cO}(h:eG I c e)(aa:I.le J):eG J c e:=by
 obtain⟨a,k,e,h⟩:=h;exact⟨a,k,e,cX.le h aa⟩
def eG.len(c:List Value)(e:cO)(h:eG I c e):c.length=4:=by obtain⟨a,k,e,_⟩:=h;rw[e];rfl
abbrev eF(I D:PH)(v:Value)(e:List cO):Prop:=Ow eG 80 4 I D v e
def eF.le{I J D:PH}{v:Value}{e:List cO}(h:eF I D v e)(aa:I.le J):eF J D v e:=Ow.le (R:=eG) (fun{I J c a} h k=>eG.le h k) h aa
abbrev abZ:=@eF.le
variable{v:Value}
def Sl.monoR{α:Type}{R R':PH->List Value->α->Prop}{l:List α}(h:Sl R I v l)(hR:∀c a,R I c a->R' I c a):Sl R' I v l:=by
 obtain⟨a,c,e,h⟩:=h;exact⟨a,c,e,h.imp id fun⟨b,off,xs,e1,e2,e3⟩=>⟨b,off,xs,e1,e2,e3.mono hR⟩⟩
def DZ:Value->Prop
 | .slice _ n c=>n<=c
 |_=>True
def sB:Value->Prop
 | .slice _ n c=>n<=c/\(0<n->c<=maxLen)
 |_=>True
def lM:sB (.slice none 0 0):=⟨ZR _,fun h=>absurd h (Nat.lt_irrefl _)⟩
def rC:Nat->PH->List Value->Nd->Prop
 |0,_,_,_=>False
 |d+1,I,c,n=>∃vk a k,c=[.int .u8 n.kind,.string ⟨⟨n.text⟩⟩,.int .i64 n.tok,.int .i64 n.slot,vk,sD a k n.cond,rD n.cond]/\cX I (.agg #[sD a k n.cond,rD n.cond]) n.cond/\Sl (rC d) I vk n.kids/\sB vk
def rC.le:∀{d:Nat} {I J:PH} {c:List Value} {n:Nd},rC d I c n->I.le J->rC d J c n
 |0,_,_,_,_,h,_=>h
 |d+1,I,J,c,n,⟨vk,a,k,e,h,hk,hc⟩,aa=>⟨vk,a,k,e,cX.le h aa,Sl.le (R:=rC d) (fun{I J c a} h k=>rC.le h k) hk aa,hc⟩
def rC.up:∀{d:Nat} {I:PH} {c:List Value} {n:Nd},rC d I c n->rC (d+1) I c n
 |0,_,_,_,h=>h.elim
 |d+1,I,c,n,⟨vk,a,k,e,h,hk,hc⟩=>⟨vk,a,k,e,h,hk.monoR fun _ _ h=>rC.up h,hc⟩
variable{n:Nd}
def rC.ups{d d':Nat}(h:rC d I c n)(hd:d<=d'):rC d' I c n:=by
 induction hd with
 |refl=>exact h
 |step _ ih=>exact ih.up
def bm(I:PH)(c:List Value)(n:Nd):Prop:=∃d,rC d I c n
def LR.depth{I:PH}:∀{l:List Nd} {xs:List Value},LR (bm I) xs l->∃d,LR (rC d I) xs l
 | [],xs,h=>⟨0,h⟩
 |a::l,xs,⟨c,ys,e,⟨d,h1⟩,h2⟩=>by
  obtain⟨d',h3⟩:=LR.depth h2;exact⟨max d d',c,ys,e,h1.ups (Nat.le_max_left _ _),h3.mono fun _ _ h=>h.ups (Nat.le_max_right _ _)⟩
variable{a:Option Addr}
theorem bm.mk{vk:Value}{k:Nat}(h:cX I (.agg #[sD a k n.cond,rD n.cond]) n.cond)(hk:Sl bm I vk n.kids)(hc:sB vk):bm I [.int .u8 n.kind,.string ⟨⟨n.text⟩⟩,.int .i64 n.tok,.int .i64 n.slot,vk,sD a k n.cond,rD n.cond] n:=by
 obtain⟨b,c,e,h2⟩:=hk;rcases h2 with h2|⟨b',off,xs,e1,e2,e3⟩
 ·exact⟨1,vk,a,k,rfl,h,⟨b,c,e,.inl h2⟩,hc⟩
 ·obtain⟨d,h4⟩:=LR.depth e3;exact⟨d+1,vk,a,k,rfl,h,⟨b,c,e,.inr ⟨b',off,xs,e1,e2,h4⟩⟩,hc⟩
def bm.shape(h:bm I c n):∃vk a k,c=[.int .u8 n.kind,.string ⟨⟨n.text⟩⟩,.int .i64 n.tok,.int .i64 n.slot,vk,sD a k n.cond,rD n.cond]/\cX I (.agg #[sD a k n.cond,rD n.cond]) n.cond/\Sl bm I vk n.kids/\sB vk:=by
 obtain⟨d,h⟩:=h;cases d with
 |zero=>exact h.elim
 |succ d=>
  obtain⟨vk,a,k,e,h1,h2,h3⟩:=h;exact⟨vk,a,k,e,h1,h2.monoR fun _ _ h=>⟨d,h⟩,h3⟩
def bm.le(h:bm I c n)(aa:I.le J):bm J c n:=by obtain⟨d,h⟩:=h;exact⟨d,h.le aa⟩
def bm.len(c:List Value)(n:Nd)(h:bm I c n):c.length=7:=by obtain⟨vk,a,k,e,_⟩:=h.shape;rw[e];rfl
abbrev bQ(I A:PH)(v:Value)(l:List Nd):Prop:=Ow bm 60 7 I A v l
abbrev eE(I:PH)(v:Value)(l:List Nd):Prop:=Sl bm I v l
def bQ.le{I J A:PH}{v:Value}{l:List Nd}(h:bQ I A v l)(aa:I.le J):bQ J A v l:=Ow.le (R:=bm) (fun{I J c a} h k=>bm.le h k) h aa
abbrev abY:=@bQ.le
def eE.le{l:List Nd}(h:eE I v l)(aa:I.le J):eE J v l:=Sl.le (R:=bm) (fun{I J c a} h k=>bm.le h k) h aa
def eR.le{l:ar}(h:eR I v l)(aa:I.le J):eR J v l:=Sl.le (R:=iD) (fun{I J c a} h k=>iD.le h k) h aa
variable{l:List aB}
def qO.le(h:qO I v l)(aa:I.le J):qO J v l:=Sl.le (R:=l7) (fun{I J c a} h k=>l7.le h k) h aa
def yL(a:Option Addr)(k:Nat)(h:aB):Value:=.agg #[iv h.at',sD a k h.cond,rD h.cond,.int .u8 h.kind,.string ⟨⟨h.text⟩⟩]
def PP(pb:Nat)(lv fv ov:Value)(o:Nat)(e:List cO)(Φ:Value->PH->List PH->Prop):Value->PH->List PH->Prop:=
 fun v I2 qs=>∃dv2 D2 rs,qs=sg pb (cg lv fv ov dv2 o)::D2::rs/\eF I2 D2 dv2 e/\Φ v I2 rs
abbrev ux:Nat:=2^40
variable{e:List cO}{h:aB}{o pb:Nat}{lv fv ov dv:Value}{ts:List Tok}
theorem ow{D:PH}{k code:Nat}(hp:zr I ts lv fv)(bs:h.at'<=ts.length)(hr:cX I (.agg #[sD a k h.cond,rD h.cond]) h.cond)(he:eF I D dv e)(hl:e.length+2<=ux):
  aK Tryz.prog 140 #[pt pb,yL a k h,.int .u8 code] I [sg pb (cg lv fv ov dv o),D] (PP pb lv fv ov o (e++cJ h code) fun v I2 rs=>rs=[]):=by
 intro hd;have bx:=hp.len;unfold ux at hl;obtain⟨la,lc,rfl,_⟩:=id hp.tok;obtain⟨fa,fc,rfl,_⟩:=id hp.fit;obtain⟨da,dc,rfl⟩:=id he.shape;refine ah 36 Tryz.func140 fun w0=>?_
 try simp only[iv,pt,yL,sD,rD]
 refine aT ?_;refine eP [7,0,1,2,3,4,5,6,8] [] [] ?_;refine FW ?_;refine aE hd [0,1] [_] [D] rfl G7 rfl (Am hp bs) fun v I2 qs a5 ba hq=>?_;obtain⟨rfl,rfl,rfl⟩:=hq;simp only[aaz,aaA]at a5 |-;refine FW ?_;refine aE a5 [0,1] [] [sg pb _,D] rfl kK rfl (oQ hr (mN I2 false)) fun v I3 qs ao am hq=>?_;obtain⟨rfl,an⟩:=hq;rw[show h.cond.and (.lf false)=ff from Nj hr.1]at an;obtain⟨ya,yk,rfl⟩:=an.shape2;simp only[aaz,aaA]at ao |-;refine qY ?_;refine aw ?_;refine dg ?_;refine iZ mixed [0,1,2,3,4,5,6,7,8,9,10,11,12,13,14,15,16,17,18,19,20,21,22] [] [] [4] [15,16,18] (sg pb (cg (.slice la ts.length lc) (.slice fa ts.length fc) ov (.slice da e.length dc) o)) rfl rfl ?_;refine FW ?_;refine je (l:=[.slice da e.length dc]) rfl (di ao) rfl rfl rfl (ay (by simp[cg]) rfl) (.inr ⟨Te,rfl⟩) ?_;refine qY ?_;refine tG ao [0,1] rfl rfl rfl rfl rfl oT (by rfl) (ps:=[]) (F:=[sg pb _,D]) rfl (di ao) (uX an) fun v I4 qs a1 aj hq=>?_;obtain⟨rfl,a0⟩:=hq;rw[show ff.not=tt from rfl]at a0;obtain⟨za,zk,rfl⟩:=a0.shape2;simp only[aaz,aaA]at a1 |-;refine qY ?_;refine tG a1 [0,1] rfl rfl rfl rfl rfl kK (by rfl) (ps:=[]) (F:=[sg pb _,D]) rfl (di a1) (oQ (hr.le (abV am aj)) a0) fun v I5 qs a4 ak hq=>?_;obtain⟨rfl,aS⟩:=hq;rw[show h.cond.and tt=h.cond from Mb hr.1]at aS;obtain⟨xa,xk,rfl⟩:=aS.shape2;simp only[aaz,aaA]at a4 |-;refine qY ?_;refine bj a4 (by exact vP) rfl rfl rfl rfl rfl bg fun nb I6 bd ac a7=>?_;refine qY ?_;refine nI bd [1,0] fun a3=>?_;obtain⟨xs,aq,a9⟩:=he
 refine j3 (m:=2) a3 (by exact vP) aq rfl rfl rfl rfl rfl rfl (cellsU a3 (.head _) (az (l:=[.int .u8 12,.int .i64 h.at',.slice ya (T.subs ff).length yk,.int .i64 (T.plc (T.subs ff) ff),.int .u8 code,.int .i64 h.at',.slice xa (T.subs h.cond).length xk,.int .i64 (T.plc (T.subs h.cond) h.cond)]) a7 (by simp[aD,Value.cells]) (by simp[aD,Value.cells]))) rfl rfl ab (by unfold maxLen;omega) fun v' I7 D2 bc aa a6=>?_;obtain⟨na,nc,rfl⟩:=a6.slice;refine qY ?_;refine nI bc [1,0] fun bb=>?_;refine aQ bb rfl rfl rfl rfl rfl rfl (by exact UF) (by simp) fun a2=>?_;refine qY ?_;refine aw ?_;refine dg ?_;refine d8 rfl a2 (r:=[]) rfl (abV am (abV aj (abV ak (abV ac aa)))) ⟨_,D2,[],rfl,⟨_,a6.xs (by simp[cJ]) rfl,?_⟩,rfl⟩;refine LR.app (a9.mono fun _ _ h=>eG.le h (abV am (abV aj (abV ak (abV ac aa))))) ?_;refine LR.app (l:=[_]) (m:=[_]) (LR.one ?_) (LR.one ?_) (xs:=[_,_,_,_]) (ys:=[_,_,_,_])
 ·exact⟨ya,yk,rfl,an.le (abV aj (abV ak (abV ac aa)))⟩
 ·exact⟨xa,xk,rfl,aS.le (abV ac aa)⟩
def iG:aO Tryz.prog 203:=⟨_,Tryz.func203,rfl,rfl⟩
def Vi(pb:Nat)(s:bq)(vh:Value)(n:Nat)(x:Nat×Value×Value):St:=⟨dn 34 [(0,.v (pt pb)),(2,.v (.string ⟨⟨s⟩⟩)),(7,.v x.2.1),(12,.v vh),(13,.v (iv n)),(14,.v (iv x.1))],[]⟩
def YW(pb:Nat)(lv fv ov:Value)(o:Nat)(hs:List aB)(s:bq)(e:List cO)(I0:PH)(x:Nat×Value×Value)(H:PH):Prop:=
 ∃I D A,H=U [I,sg pb (cg lv fv ov x.2.2 o),D,A]/\Dj [I,sg pb (cg lv fv ov x.2.2 o),D,A]/\I0.le I/\x.1<=hs.length/\eF I D x.2.2 (e++((hs.take x.1).foldl (gH s) ([],[])).2)/\jy I A x.2.1 ((hs.take x.1).foldl (gH s) ([],[])).1
def l7.shape(k:l7 I c h):∃a k,c=[iv h.at',sD a k h.cond,rD h.cond,.int .u8 h.kind,.string ⟨⟨h.text⟩⟩]/\cX I (.agg #[sD a k h.cond,rD h.cond]) h.cond:=k
variable{s:bq}
theorem kf{D:PH}{vf:Value}{f:ar}(h:zr I ts lv fv)(hf:eR I vf f)(fn:FN ts.length f)(hs:s≠[])(he:eF I D dv e)(hm:e.length+(Syn.take ts f s).2.length<=ux):
  aK Tryz.prog 203 #[pt pb,vf,.string ⟨⟨s⟩⟩] I [sg pb (cg lv fv ov dv o),D] (PP pb lv fv ov o (e++(Syn.take ts f s).2) fun v I2 rs=>∃A,rs=[A]/\jy I2 A v (Syn.take ts f s).1):=by
 intro hd;have hl:=h.len;refine ah 34 Tryz.func203 fun w0=>?_
 try simp only[iv,pt]
 refine aT ?_;refine DY hd [0,1] rfl kU rfl (ps:=[sg pb _]) (F:=[D]) rfl (kW h hf fn) fun v I2 qs bb ao hq=>?_;obtain⟨rfl,hH⟩:=hq;obtain⟨ha,hc,rfl,_⟩:=id hH;simp only[aaz,aaA]at bb |-;refine dP ?_;rw[tX]at hm |-;have hN:∀x∈bE ts f,kS ts x:=fun x hx=>b9 h.ok fn hx;have cb:=fM h.ok fn;have b5:=hH;generalize bE ts f=ac at *;refine aR bb fun b2=>?_;refine bf b2 [1,2,0] fun b1=>?_;refine aA (fun x=>ac.length-x.1) (Vi pb s (.slice ha ac.length hc) ac.length) (YW pb lv fv ov o ac s e I2) (0,.slice none 0 0,dv) gP (by simp only[go_sem,aa6,Vi]) ?_ ?_
 ·exact⟨I2,D,PH.no,rfl,b1,abW _,aaL _,by simpa using eF.le he ao,Ow.nil _ _ _ _⟩
 rintro⟨i,vat,dv⟩ H ⟨I3,D3,A3,rfl,a4,am,hi,hE,hA⟩ an;simp only at hi hE hA;simp only[Vi];have b4:qO I3 (.slice ha ac.length hc) ac:=b5.le am;have a6:FN ts.length ((ac.take i).foldl (gH s) ([],[])).1:=DI hs fun x hx=>hN x (abf hx);have cf:=a6.len;rcases aaf i ac.length with a5|cc
 ·have a9:decide ((i:Int)<(ac.length:Int))=true:=by simp;omega
  have e1:=wrap64 (n:=i+1) ab;have bc:IntKind.i64.wrap ((i:Int)+1)=((i+1:Nat):Int):=by rw[<-e1];congr 1
  obtain⟨x,hx⟩:∃x,ac[i]?=some x:=⟨_,aak a5⟩;have bd:=aaV hx;have ba:=hN x bd;obtain⟨b,off,cs,rfl,b3,a2⟩:=b4.load l7.len hx;obtain⟨xa,xk,rfl,a0⟩:=b3;have aj:=dm (g:=gH s) (z:=([],[])) hx;have aq:=oE (g:=gH s) (fun r=>r.2.length) (fun z y=>by unfold gH;split<;>simp) ac (i+1) ([],[]);rw[aj]at aq;apply RG;simp only[go_sem,a9,iv,pt];refine⟨ab,?_⟩;refine XN (l:=[iv x.at',sD xa xk x.cond,rD x.cond,.int .u8 x.kind,.string ⟨⟨x.text⟩⟩]) (v:=.agg #[iv x.at',sD xa xk x.cond,rD x.cond,.int .u8 x.kind,.string ⟨⟨x.text⟩⟩]) rfl (cellsU a4 (.head _) a2) (.inl ⟨gI,rfl⟩) ?_;by_cases aS:x.text=s
  ·have a3:(x.text == s)=true:=by simpa using aS
   have aa:(ac.take (i+1)).foldl (gH s) ([],[])=(Syn.join ((ac.take i).foldl (gH s) ([],[])).1 (x.at'+1) x.cond,((ac.take i).foldl (gH s) ([],[])).2):=by rw[aj];simp[gH,aS]
   have bs:=ba.lt (.inl (by rw[aS];exact hs));have e2:=wrap64 (n:=x.at'+1) ab;have ca:IntKind.i64.wrap ((x.at':Int)+1)=((x.at'+1:Nat):Int):=by rw[<-e2];congr 1
   obtain⟨ta,tc,rfl⟩:=hA.shape;apply RG;simp only[go_sem,a3,iv,pt,sD,rD,abQ,ca];refine ad a4 [2,0,1] [A3] [sg pb _,D3] rfl ej rfl (bK (a:=x.at'+1) hA a0 a6.ok.2 (fun t ht=>by have:=a6.le t ht;omega) ab ab) fun v I4 qs a1 ak hq=>?_;obtain⟨A4,rfl,a7⟩:=hq;obtain⟨ta2,tc2,rfl⟩:=a7.shape;simp only[aaz,aaA]at a1 |-;apply RG;simp only[go_sem,a3,iv,pt,sD,rD,bc];refine bf a1 [1,2,0] fun b0=>?_;rw[show Syn.join ((ac.take i).foldl (gH s) ([],[])).1 (x.at'+1) x.cond=((ac.take (i+1)).foldl (gH s) ([],[])).1 from by rw[aa]]at a7 |-;exact an (i+1,.slice ta2 _ tc2,dv) _ _ dt gP (by simp only[go_sem,aa6,Vi]) ⟨I4,D3,A4,rfl,b0,abV am ak,a5,by simp only;rw[aa];exact hE.le ak,a7⟩
  ·have a3:(x.text == s)=false:=by simpa using aS
   have aa:(ac.take (i+1)).foldl (gH s) ([],[])=(((ac.take i).foldl (gH s) ([],[])).1,((ac.take i).foldl (gH s) ([],[])).2++cJ x 10):=by rw[aj];simp[gH,aS]
   apply RG;simp only[go_sem,a3,iv,pt,sD,rD,abK];refine ad a4 [0,1,2] [sg pb _,D3] [A3] rfl kX rfl (ow (h.le (abV ao am)) ba.le a0 hE (by rw[<-aj,aa]at aq;simp[cJ]at aq |-;omega)) fun v I4 qs a1 ak hq=>?_;obtain⟨dv2,D4,rs,rfl,b6,rfl⟩:=hq;simp only[aaz,aaA]at a1 |-;apply RG;simp only[go_sem,a3,iv,pt,sD,rD,bc];exact an (i+1,vat,dv2) _ _ dt gP (by simp only[go_sem,aa6,Vi]) ⟨I4,D4,A3,rfl,a1,abV am ak,a5,by simp only;rw[aa,<-aaT];exact b6,by simp only;rw[aa];exact Ow.le (R:=iD) (fun{I J c a} h k=>iD.le h k) hA ak⟩
 ·have bx:i=ac.length:=by omega
  subst bx;have a9:=Z6 ac.length;rw[aaS]at hE hA;apply RG;simp only[go_sem,a9,iv,pt];refine af rfl a4 (r:=[_]) rfl (abV ao am) ⟨_,D3,[A3],rfl,hE,A3,rfl,hA⟩
def jD:aO Tryz.prog 221:=⟨_,Tryz.func221,rfl,rfl⟩
def Q8:aO Tryz.prog 259:=⟨_,Tryz.func259,rfl,rfl⟩
def jl:aO Tryz.prog 260:=⟨_,Tryz.func260,rfl,rfl⟩
def jh:aO Tryz.prog 262:=⟨_,Tryz.func262,rfl,rfl⟩
def O0:aO Tryz.prog 290:=⟨_,Tryz.func290,rfl,rfl⟩
def My{H:PH}:bO Tryz.prog 259 #[.string ⟨⟨s⟩⟩] H fun v H2=>v=.bool (dG s)/\H2=H:=by
 refine ah 18 Tryz.func259 fun w0=>?_;cases h0:(s == [118,97,114])
 rotate_left
 ·apply RG;simp only[go_sem,h0];exact aJ (r:=[.bool true]) rfl ⟨by rw[show dG s=true from by rw[eq_of_beq h0];decide];rfl,rfl⟩
 cases h1:(s == [102,110])
 rotate_left
 ·apply RG;simp only[go_sem,h0,h1];exact aJ (r:=[.bool true]) rfl ⟨by rw[show dG s=true from by rw[eq_of_beq h1];decide];rfl,rfl⟩
 cases h2:(s == [105,110,116])
 rotate_left
 ·apply RG;simp only[go_sem,h0,h1,h2];exact aJ (r:=[.bool true]) rfl ⟨by rw[show dG s=true from by rw[eq_of_beq h2];decide];rfl,rfl⟩
 cases h3:(s == [98,111,111,108])
 rotate_left
 ·apply RG;simp only[go_sem,h0,h1,h2,h3];exact aJ (r:=[.bool true]) rfl ⟨by rw[show dG s=true from by rw[eq_of_beq h3];decide];rfl,rfl⟩
 cases h4:(s == [105,102])
 rotate_left
 ·apply RG;simp only[go_sem,h0,h1,h2,h3,h4];exact aJ (r:=[.bool true]) rfl ⟨by rw[show dG s=true from by rw[eq_of_beq h4];decide];rfl,rfl⟩
 cases h5:(s == [101,108,115,101])
 rotate_left
 ·apply RG;simp only[go_sem,h0,h1,h2,h3,h4,h5];exact aJ (r:=[.bool true]) rfl ⟨by rw[show dG s=true from by rw[eq_of_beq h5];decide];rfl,rfl⟩
 cases h6:(s == [119,104,105,108,101])
 rotate_left
 ·apply RG;simp only[go_sem,h0,h1,h2,h3,h4,h5,h6];exact aJ (r:=[.bool true]) rfl ⟨by rw[show dG s=true from by rw[eq_of_beq h6];decide];rfl,rfl⟩
 cases h7:(s == [114,101,116,117,114,110])
 rotate_left
 ·apply RG;simp only[go_sem,h0,h1,h2,h3,h4,h5,h6,h7];exact aJ (r:=[.bool true]) rfl ⟨by rw[show dG s=true from by rw[eq_of_beq h7];decide];rfl,rfl⟩
 cases h8:(s == [112,114,105,110,116])
 rotate_left
 ·apply RG;simp only[go_sem,h0,h1,h2,h3,h4,h5,h6,h7,h8];exact aJ (r:=[.bool true]) rfl ⟨by rw[show dG s=true from by rw[eq_of_beq h8];decide];rfl,rfl⟩
 cases h9:(s == [97,115,115,101,114,116])
 rotate_left
 ·apply RG;simp only[go_sem,h0,h1,h2,h3,h4,h5,h6,h7,h8,h9];exact aJ (r:=[.bool true]) rfl ⟨by rw[show dG s=true from by rw[eq_of_beq h9];decide];rfl,rfl⟩
 cases aa:(s == [116,114,117,101])
 rotate_left
 ·apply RG;simp only[go_sem,h0,h1,h2,h3,h4,h5,h6,h7,h8,h9,aa];exact aJ (r:=[.bool true]) rfl ⟨by rw[show dG s=true from by rw[eq_of_beq aa];decide];rfl,rfl⟩
 cases ac:(s == [102,97,108,115,101])
 rotate_left
 ·apply RG;simp only[go_sem,h0,h1,h2,h3,h4,h5,h6,h7,h8,h9,aa,ac];exact aJ (r:=[.bool true]) rfl ⟨by rw[show dG s=true from by rw[eq_of_beq ac];decide];rfl,rfl⟩
 cases aj:(s == [114,101,97,100])
 rotate_left
 ·apply RG;simp only[go_sem,h0,h1,h2,h3,h4,h5,h6,h7,h8,h9,aa,ac,aj];exact aJ (r:=[.bool true]) rfl ⟨by rw[show dG s=true from by rw[eq_of_beq aj];decide];rfl,rfl⟩
 apply RG;simp only[go_sem,h0,h1,h2,h3,h4,h5,h6,h7,h8,h9,aa,ac,aj];exact aJ (r:=[.bool false]) rfl ⟨by rw[show dG s=false from by simp only[dG,List.contains_cons,lT,Gg,vM,oO,kT,dr,jG,iH,jU,ew,pH,mK,qX,h0,h1,h2,h3,h4,h5,h6,h7,h8,h9,aa,ac,aj,Bool.or_self];rfl];rfl,rfl⟩
def nq{D:PH}{k:Nat}(hp:zr I ts lv fv)(aj:h.at'<=ts.length)(hr:cX I (.agg #[sD a k h.cond,rD h.cond]) h.cond)(he:eF I D dv e)(hl:e.length+2<=ux):
  aK Tryz.prog 262 #[pt pb,yL a k h] I [sg pb (cg lv fv ov dv 64),D] (PP pb lv fv ov 64 (e++cJ h 11) fun v I2 rs=>rs=[]/\v=.bool false):=by
 intro hd;refine ah 20 Tryz.func262 fun w0=>?_
 try simp only[iv,pt,yL]
 refine aT ?_;refine XN (l:=[.int .i64 64]) rfl (cellsU hd (.tail _ (.head _)) (ay (by simp[cg]) rfl)) (.inr ⟨jq,rfl⟩) ?_;apply RG;simp only[go_sem,iv,pt,BEq.rfl];refine ad hd [0,1] [sg pb _,D] [] rfl kX rfl (ow hp aj hr he hl) fun v I4 qs ac aa hq=>?_;obtain⟨dv2,D4,rs,rfl,ak,rfl⟩:=hq;simp only[aaz,aaA,aa6]at ac |-;refine ll ?_;exact af rfl ac (r:=[_]) rfl aa ⟨_,D4,[],rfl,ak,rfl,rfl⟩
def lz{k:Nat}(ho:o<64):
  aK Tryz.prog 262 #[pt pb,yL a k h] I [sg pb (cg lv fv ov dv o)] fun v I2 qs=>qs=[sg pb (cg lv fv ov dv (o+1))]/\I2=I/\v=.bool true:=by
 intro hd;have h9:((o:Int) == 64)=false:=by simp;omega
 have e1:=wrap64 (n:=o+1) ab;have ac:IntKind.i64.wrap ((o:Int)+1)=((o+1:Nat):Int):=by rw[<-e1];congr 1
 refine ah 20 Tryz.func262 fun w0=>?_
 try simp only[iv,pt,yL]
 refine aT ?_;refine XN (l:=[.int .i64 o]) rfl (cellsU hd (.tail _ (.head _)) (ay (by simp[cg]) rfl)) (.inr ⟨jq,rfl⟩) ?_;apply RG;simp only[go_sem,iv,pt,h9];refine XN (l:=[.int .i64 o]) rfl (cellsU hd (.tail _ (.head _)) (ay (by simp[cg]) rfl)) (.inr ⟨jq,rfl⟩) ?_;apply RG;simp only[go_sem,iv,pt,ac];refine bw hd rfl rfl rfl rfl rfl (by exact uZ) (by simp) fun aa=>?_;refine ll ?_;exact af rfl aa (r:=[_]) rfl (abW _) ⟨rfl,rfl,rfl⟩
def JE(I:PH)(v:Value)(is:aB->Bool):Prop:=∃f first cap,v=.func (.func f) first cap/\aO Tryz.prog f/\∀J,I.le J->∀(h:aB) (a:Option Addr) (k:Nat),cX J (.agg #[sD a k h.cond,rD h.cond]) h.cond->aK Tryz.prog f (first++[yL a k h].toArray++cap) J [] fun v I2 qs=>qs=[]/\v=.bool (is h)
def JE.le{is:aB->Bool}(h:JE I v is)(aa:I.le J):JE J v is:=by
 obtain⟨f,a,b,e,g,k⟩:=h;exact⟨f,a,b,e,g,fun K hk=>k K (abV aa hk)⟩
def LH{H:PH}{b:Nat}(hb:aP H b 0 [.string ⟨⟨s⟩⟩]){k:Nat}:bO Tryz.prog 290 #[yL a k h,pt b] H fun v H2=>v=.bool (bD s h)/\H2=H:=by
 refine ah 8 Tryz.func290 fun w0=>?_
 try simp only[yL,iv,pt]
 refine aT ?_;refine XN (l:=[.string ⟨⟨s⟩⟩]) rfl hb (.inr ⟨tL,rfl⟩) ?_;refine ll ?_;refine aJ (r:=[.bool (h.text == s)]) rfl ⟨?_,rfl⟩;show Value.bool (h.text == s)=Value.bool (bD s h);unfold bD;congr 1;by_cases e:h.text=s
 ·subst e;simp
 ·simp[e]
def kM:aK Tryz.prog 260 #[.string ⟨⟨s⟩⟩] I [] fun v I2 qs=>qs=[]/\JE I2 v (bD s):=by
 intro hd;refine ah 4 Tryz.func260 fun w0=>?_;apply bL 4;simp only[go_sem];refine fV 1 hd rfl fun b aj=>?_;refine ae (c:=.st _) aj fun I2 ac aa ak=>?_;apply RG;simp only[go_sem,mF,List.map];refine af rfl ac (r:=[.func (.func 290) #[] #[pt b]]) rfl aa ⟨rfl,290,#[],#[pt b],rfl,O0,fun J hJ h a k hr=>bO.toI ((LH (H:=J) (b:=b) (s:=s) ?_).mono fun v H2 ⟨e1,e2⟩=>⟨by rw[e2];exact abW _,e1⟩)⟩;exact((ay (by simp) rfl:aP (sg b (.cells [Value.string ⟨⟨s⟩⟩].toArray 9 (0,0))) b 0 [.string ⟨⟨s⟩⟩]).le ak).le hJ
def Wl(pb:Nat)(vi:Value)(vh:Value)(n:Nat)(x:Nat×Value×Value):St:=⟨dn 34 [(0,.v (pt pb)),(2,.v vi),(6,.v x.2.1),(7,.v x.2.2),(12,.v vh),(13,.v (iv n)),(14,.v (iv x.1))],[]⟩
abbrev TP(I A:PH)(v:Value)(l:List aB):Prop:=Ow l7 227 5 I A v l
def ZD(pb:Nat)(rc:Obj)(hs:List aB)(is:aB->Bool)(I0:PH)(x:Nat×Value×Value)(H:PH):Prop:=
 ∃I A B,H=U [I,sg pb rc,A,B]/\Dj [I,sg pb rc,A,B]/\I0.le I/\x.1<=hs.length/\TP I A x.2.1 ((hs.take x.1).foldl (fJ is) ([],[])).1/\jy I B x.2.2 ((hs.take x.1).foldl (fJ is) ([],[])).2
def jy.le{A:PH}{l:ar}(h:jy I A v l)(aa:I.le J):jy J A v l:=Ow.le (R:=iD) (fun{I J c a} h k=>iD.le h k) h aa
def TP.le{A:PH}(h:TP I A v l)(aa:I.le J):TP J A v l:=Ow.le (R:=l7) (fun{I J c a} h k=>l7.le h k) h aa
theorem jC{vf vi:Value}{f:ar}{is:aB->Bool}(h:zr I ts lv fv)(hf:eR I vf f)(fn:FN ts.length f)(hi:JE I vi is):
  aK Tryz.prog 221 #[pt pb,vf,vi] I [sg pb (cg lv fv ov dv o)] fun v I2 qs=>∃A B va vb,qs=[sg pb (cg lv fv ov dv o),A,B]/\v=.tuple #[va,vb]/\TP I2 A va (aM ts f is).1/\jy I2 B vb (aM ts f is).2:=by
 intro hd;have hl:=h.len;refine ah 34 Tryz.func221 fun w0=>?_
 try simp only[iv,pt]
 refine aT ?_;refine DY hd [0] rfl kU rfl (ps:=[sg pb _]) (F:=[]) rfl (kW h hf fn) fun v I2 qs b2 a0 hq=>?_;obtain⟨rfl,hH⟩:=hq;obtain⟨ha,hc,rfl,_⟩:=id hH;simp only[aaz,aaA]at b2 |-;refine dP ?_;rw[xL];have hN:∀x∈bE ts f,kS ts x:=fun x hx=>b9 h.ok fn hx;have cx:=fM h.ok fn;have cr:=hH;generalize bE ts f=ac at *;refine aR b2 fun cm=>?_;refine aR cm fun cl=>?_;refine bf cl [2,0,1] fun cj=>?_;refine aA (fun x=>ac.length-x.1) (Wl pb vi (.slice ha ac.length hc) ac.length) (ZD pb (cg lv fv ov dv o) ac is I2) (0,.slice none 0 0,.slice none 0 0) gP (by simp only[go_sem,aa6,Wl]) ?_ ?_
 ·exact⟨I2,PH.no,PH.no,rfl,cj,abW _,aaL _,Ow.nil _ _ _ _,Ow.nil _ _ _ _⟩
 rintro⟨i,va,vb⟩ H ⟨I3,A3,B3,rfl,bb,ak,cf,hA,hB⟩ aq;simp only at cf hA hB;simp only[Wl];have cp:qO I3 (.slice ha ac.length hc) ac:=cr.le ak;have b0:FN ts.length ((ac.take i).foldl (fJ is) ([],[])).2:=zw fun x hx=>hN x (abf hx);have cA:=b0.len;rcases aaf i ac.length with a9|cy
 ·have a7:decide ((i:Int)<(ac.length:Int))=true:=by simp;omega
  have e1:=wrap64 (n:=i+1) ab;have b4:IntKind.i64.wrap ((i:Int)+1)=((i+1:Nat):Int):=by rw[<-e1];congr 1
  obtain⟨x,hx⟩:∃x,ac[i]?=some x:=⟨_,aak a9⟩;have b5:=aaV hx;have ca:=hN x b5;obtain⟨b,off,cs,rfl,cn,a2⟩:=cp.load l7.len hx;obtain⟨xa,xk,rfl,aS⟩:=cn;have ao:=dm (g:=fJ is) (z:=([],[])) hx;obtain⟨fi,first,cap,rfl,gi,ci⟩:=id hi;have ct:=xt (is:=is) (ac.take i) ([],[]);simp only[aaO,abF]at ct;apply RG;simp only[go_sem,a7,iv,pt];refine⟨ab,?_⟩;refine XN (l:=[iv x.at',sD xa xk x.cond,rD x.cond,.int .u8 x.kind,.string ⟨⟨x.text⟩⟩]) (v:=.agg #[iv x.at',sD xa xk x.cond,rD x.cond,.int .u8 x.kind,.string ⟨⟨x.text⟩⟩]) rfl (cellsU bb (.head _) a2) (.inl ⟨gI,rfl⟩) ?_;apply RG;simp only[go_sem,a7,iv,pt,sD,rD];refine ad bb [0,1,2] [] [sg pb _,A3,B3] rfl gi rfl (ci I3 (abV a0 ak) x xa xk aS) fun v I4 qs ba aj hq=>?_;obtain⟨rfl,rfl⟩:=hq;simp only[aaz,aaA]at ba |-;cases a4:is x
  ·have aa:(ac.take (i+1)).foldl (fJ is) ([],[])=(((ac.take i).foldl (fJ is) ([],[])).1,Syn.join ((ac.take i).foldl (fJ is) ([],[])).2 x.at' x.cond):=by rw[ao];simp[fJ,a4]
   obtain⟨ta,tc,rfl⟩:=hB.shape;have b6:=ca.le;apply RG;simp only[go_sem,iv,pt,a4,sD,rD];refine ad ba [2,0,1] [B3] [sg pb _,A3] rfl ej rfl (bK (a:=x.at') (hB.le aj) (aS.le aj) b0.ok.2 (fun t ht=>by have:=b0.le t ht;omega) ab ab) fun v I5 qs a6 am hq=>?_;obtain⟨B4,rfl,b1⟩:=hq;obtain⟨ta2,tc2,rfl⟩:=b1.shape;simp only[aaz,aaA]at a6 |-;apply RG;simp only[go_sem,iv,pt,sD,rD,b4];refine bf a6 [1,2,0] fun a5=>?_;rw[show Syn.join ((ac.take i).foldl (fJ is) ([],[])).2 x.at' x.cond=((ac.take (i+1)).foldl (fJ is) ([],[])).2 from by rw[aa]]at b1 |-;exact aq (i+1,va,.slice ta2 _ tc2) _ _ dt gP (by simp only[go_sem,aa6,Wl]) ⟨I5,A3,B4,rfl,a5,abV ak (abV aj am),a9,by simp only;rw[aa];exact hA.le (abV aj am),b1⟩
  ·have aa:(ac.take (i+1)).foldl (fJ is) ([],[])=(((ac.take i).foldl (fJ is) ([],[])).1++[x],((ac.take i).foldl (fJ is) ([],[])).2):=by rw[ao];simp[fJ,a4]
   obtain⟨ta,tc,rfl⟩:=hA.shape;apply RG;simp only[go_sem,iv,pt,a4,sD,rD];refine ax ba (by exact uV) rfl rfl rfl rfl rfl bg fun nb I8 a6 am cb=>?_;refine dg ?_;refine bf a6 [1,0,2] fun a5=>?_;obtain⟨bs,a3,bx⟩:=hA;refine dZ (m:=1) a5 (by exact uV) a3 rfl rfl rfl rfl (cellsU a5 (.head _) (az (l:=[iv x.at',.slice xa (T.subs x.cond).length xk,iv (T.plc (T.subs x.cond) x.cond),.int .u8 x.kind,.string ⟨⟨x.text⟩⟩]) cb (by simp[aD,Value.cells]) (by simp[aD,Value.cells,iv]))) rfl rfl ab (by unfold maxLen;omega) fun v' I9 A2 bd a1 b3=>?_;obtain⟨na,nc,rfl⟩:=b3.slice;apply RG;simp only[go_sem,iv,pt,b4];refine bf bd [1,0,2] fun bc=>?_;have an:=abV aj (abV am a1);refine aq (i+1,.slice na (((ac.take i).foldl (fJ is) ([],[])).1.length+1) nc,vb) _ _ dt gP (by simp only[go_sem,aa6,Wl]) ⟨I9,A2,B3,rfl,bc,abV ak an,a9,⟨bs++[iv x.at',.slice xa (T.subs x.cond).length xk,iv (T.plc (T.subs x.cond) x.cond),.int .u8 x.kind,.string ⟨⟨x.text⟩⟩],?_,?_⟩,by simp only;rw[aa];exact hB.le an⟩
   ·simp only;rw[aa];simp only[aa9,aaJ];exact b3
   ·simp only;rw[aa];exact LR.app (bx.mono fun _ _ h=>l7.le h an) (.one ⟨xa,xk,rfl,aS.le an⟩)
 ·have cc:i=ac.length:=by omega
  subst cc;have a7:=Z6 ac.length;rw[aaS]at hA hB;apply RG;simp only[go_sem,a7,iv,pt];exact af rfl bb (r:=[va,vb]) rfl (abV a0 ak) ⟨A3,B3,va,vb,rfl,rfl,hA,hB⟩
end Go.Proofs.YtfaclfkpnmcmlaaGreatDoor
