import Derived.Test.YtfaclfkpnmcmlaaGreatDoorJ05
import Derived.Test.YtfaclfkpnmcmlaaGreatDoorJ12
import Derived.Deep.Upon
set_option maxHeartbeats 8000000
set_option linter.all false
open Go.Proofs.Tryz
namespace Go.Proofs.YtfaclfkpnmcmlaaGreatDoor
open Go Go.Sx Dg Syn
def bF{C:Cx}{σ:St}{H:PH}{c:Cf}{Q:Prop}(h:Q)(e:aw C H (fN C.P 500 c σ [])=Q:=by simp only[go_sem,E];rfl):RC C c σ H:=jK 500 (e.mpr h)
def bR{C:Cx}{k:List Item}{σ:St}{H:PH}{ol:List Oper}{fr:cu}{str:cw}{l:List (Nat×Oper)}{Q:Prop}(h:Q)(e:pw C ol fr str k H (g7 C.P ol fr.k str.k fr.kp l σ [])=Q:=by simp only[go_sem,E];rfl):RD C ol fr str l k σ H:=bd (e.mpr h)
def dI{C:Cx}{σ:St}{H:PH}{c:Cf}{Q:Prop}(h:Q)(e:aw C H (fN C.P 500 c σ [])=Q:=by simp only[go_sem,E,pt];rfl):RC C c σ H:=jK 500 (e.mpr h)
def kM{C:Cx}{k:List Item}{σ:St}{H:PH}{ol:List Oper}{fr:cu}{str:cw}{l:List (Nat×Oper)}{Q:Prop}(h:Q)(e:pw C ol fr str k H (g7 C.P ol fr.k str.k fr.kp l σ [])=Q:=by simp only[go_sem,E,pt];rfl):RD C ol fr str l k σ H:=bd (e.mpr h)
def aW{C:Cx}{σ:St}{H:PH}{c:Cf}{Q:Prop}(h:Q)(e:aw C H (fN C.P 500 c σ [])=Q:=by simp only[go_sem,E,pt,sD,rD];rfl):RC C c σ H:=jK 500 (e.mpr h)
def fj{C:Cx}{k:List Item}{σ:St}{H:PH}{ol:List Oper}{fr:cu}{str:cw}{l:List (Nat×Oper)}{Q:Prop}(h:Q)(e:pw C ol fr str k H (g7 C.P ol fr.k str.k fr.kp l σ [])=Q:=by simp only[go_sem,E,pt,sD,rD];rfl):RD C ol fr str l k σ H:=bd (e.mpr h)
def cv{C:Cx}{σ:St}{H:PH}{c:Cf}{Q:Prop}(h:Q)(e:aw C H (fN C.P 500 c σ [])=Q:=by simp only[go_sem,E,sD,rD];rfl):RC C c σ H:=jK 500 (e.mpr h)
def cF{C:Cx}{k:List Item}{σ:St}{H:PH}{ol:List Oper}{fr:cu}{str:cw}{l:List (Nat×Oper)}{Q:Prop}(h:Q)(e:pw C ol fr str k H (g7 C.P ol fr.k str.k fr.kp l σ [])=Q:=by simp only[go_sem,E,sD,rD];rfl):RD C ol fr str l k σ H:=bd (e.mpr h)
def qZ{C:Cx}{σ:St}{H:PH}{c:Cf}{Q:Prop}(h:Q)(e:aw C H (fN C.P 500 c σ [])=Q:=by simp only[go_sem,pt];rfl):RC C c σ H:=jK 500 (e.mpr h)
def pq{C:Cx}{k:List Item}{σ:St}{H:PH}{ol:List Oper}{fr:cu}{str:cw}{l:List (Nat×Oper)}{Q:Prop}(h:Q)(e:pw C ol fr str k H (g7 C.P ol fr.k str.k fr.kp l σ [])=Q:=by simp only[go_sem,pt];rfl):RD C ol fr str l k σ H:=bd (e.mpr h)
section
variable {C:Cx} {σ:St} {H:PH} {c:Cf} {k:List Item} {ol:List Oper} {fr:cu} {str:cw} {l:List (Nat×Oper)} {Q p q r s t o:Prop}
def be(x:p)(h:Q)(e:p->jH C c σ H Q:=by intro x;simp only[jH,go_sem,E,x];rfl):RC C c σ H:=jK 500 ((e x).mpr h)
def bJ(x:p)(h:Q)(e:p->tP C ol fr str l k σ H Q:=by intro x;simp only[tP,go_sem,E,x];rfl):RD C ol fr str l k σ H:=bd ((e x).mpr h)
def dW(x:p)(y:q)(h:Q)(e:p->q->jH C c σ H Q:=by intro x y;simp only[jH,go_sem,E,x,y];rfl):RC C c σ H:=jK 500 ((e x y).mpr h)
def kL(x:p)(y:q)(h:Q)(e:p->q->tP C ol fr str l k σ H Q:=by intro x y;simp only[tP,go_sem,E,x,y];rfl):RD C ol fr str l k σ H:=bd ((e x y).mpr h)
def nm(x:p)(y:q)(z:r)(h:Q)(e:p->q->r->jH C c σ H Q:=by intro x y z;simp only[jH,go_sem,E,x,y,z];rfl):RC C c σ H:=jK 500 ((e x y z).mpr h)
def fZ(x:p)(y:q)(z:r)(u:s)(h:Q)(e:p->q->r->s->tP C ol fr str l k σ H Q:=by intro x y z u;simp only[tP,go_sem,E,x,y,z,u];rfl):RD C ol fr str l k σ H:=bd ((e x y z u).mpr h)
def eb(x:p)(h:Q)(e:p->jH C c σ H Q:=by intro x;simp only[jH,go_sem,E,pt,x];rfl):RC C c σ H:=jK 500 ((e x).mpr h)
def dB(x:p)(h:Q)(e:p->jH C c σ H Q:=by intro x;simp only[jH,go_sem,E,pt,sD,rD,x];rfl):RC C c σ H:=jK 500 ((e x).mpr h)
def dP(x:p)(h:Q)(e:p->jH C c σ H Q:=by intro x;simp only[jH,go_sem,E,sD,rD,x];rfl):RC C c σ H:=jK 500 ((e x).mpr h)
end
variable{L:List (Nat×SV)}{n:Nat}
def ak{K:List (Nat×SV)}(h:py K L:=by simp only[go_sem,Y,E]):iO (dn n K) (dn n L):=ft h
def cJ{K:List (Nat×SV)}(h:py K L:=by simp only[go_sem,Y,E,pt]):iO (dn n K) (dn n L):=ft h
def tp{K:List (Nat×SV)}(h:py K L:=by simp only[go_sem,Y,E,pt,sD,rD]):iO (dn n K) (dn n L):=ft h
def tq{K:List (Nat×SV)}(h:py K L:=by simp only[go_sem,Y,E,sD,rD]):iO (dn n K) (dn n L):=ft h
def aP(n:Nat){P:Program}{f:FuncId}{fn:Func}{c:Code}{args:Array Value}{H:PH}{Φ:Value->PH->Prop}(hf:P.funcs[f]?=some fn)
  (h:∀w0,RC ⟨P,f,fn,hf,H,w0,Φ⟩ (.st [.code c]) ⟨dn n (pG 0 args.toList),[]⟩ H) (a:(fn.body,fn.ntmps,decide (args.toList.length<=n))=(some c,n,true):=by exact rfl):br P f args H Φ:=by
 simp only[ij,dA]at a;obtain⟨h1,rfl,h3⟩:=a;exact Ch hf h1 h3 h
def bE{C:Cx}{k:List Item}{σ:St}{H:PH}{id:Nat}{ops:Array Oper}(κ fr str:List Nat)
  (h:RD C ops.toList ⟨fr,[],PH.emp,[],[]⟩ ⟨str,[],[]⟩ (pick ops.toList κ) k σ H) (hm:C.P.follows .mixedOrders=true:=by exact mixed) (a:qh ops.toList κ ⟨fr,[],PH.emp,[],[]⟩ ⟨str,[],[]⟩=true:=by exact rfl) (hs:o3 σ.bx=true:=by exact rfl):RC C (.st (.code (.region id ops true)::k)) σ H:=iA hm κ fr str a hs h
def pS:ax prog 198:=⟨_,func198,rfl,rfl⟩
def dJ(I:PH)(c:List Value)(h:ah):Prop:=∃a k,c=[E h.at',sD a k h.cond,rD h.cond,.int .u8 h.kind,.string ⟨⟨h.text⟩⟩]/\bU I (.agg #[sD a k h.cond,rD h.cond]) h.cond
variable{I:PH}
def dJ.le{J:PH}{c:List Value}{h:ah}(k:dJ I c h)(d:I.le J):dJ J c h:=by obtain⟨a,b,e,r⟩:=k;exact⟨a,b,e,bU.le r d⟩
def dJ.len(c:List Value)(h:ah)(k:dJ I c h):c.length=5:=by obtain⟨a,b,e,_⟩:=k;rw[e];rfl
abbrev fH(I:PH)(v:Value)(l:List ah):Prop:=Sl dJ I v l
def Gv{d:T}(h:d.ok 0):d.and ff=ff:=T.ext (T.and_ok h (show ff.ok 0 from trivial)) (show ff.ok 0 from trivial) fun c=>by rw[T.and_at h (show ff.ok 0 from trivial)];simp[T.at']
def Gw{d:T}(h:d.ok 0):d.and tt=d:=T.ext (T.and_ok h (show tt.ok 0 from trivial)) h fun c=>by rw[T.and_at h (show tt.ok 0 from trivial)];simp[T.at']
def xj(pb:Nat)(vf:Value)(n:Nat)(x:Nat×Value):St:=⟨dn 153 [(0,.v (pt pb)),(5,.v x.2),(16,.v vf),(17,.v (E n)),(18,.v (E x.1))],[]⟩
def Q0(pb:Nat)(a:Obj)(Z:List Tok)(f:ad)(b:PH)(x:Nat×Value)(H:PH):Prop:=
 ∃I A,H=U [I,sg pb a,A]/\Dj [I,sg pb a,A]/\b.le I/\x.1<=f.length/\cU I A x.2 (kQ Z f x.1)
def Ad(pb:Nat)(vf:Value)(n i:Nat)(x:Nat×Option Addr×Nat×T×Value):St:=⟨dn 153 [(0,.v (pt pb)),(5,.v x.2.2.2.2),(8,.p 8 0),(9,.v (E x.1)),(16,.v vf),(17,.v (E n)),(18,.v (E i))],[⟨8,50,[.slice x.2.1 (T.subs x.2.2.2.1).length x.2.2.1,.int .i64 (T.plc (T.subs x.2.2.2.1) x.2.2.2.1)]⟩]⟩
def Q1(pb:Nat)(b:Obj)(Z:List Tok)(a:ad)(d:PH)(x:Nat×Option Addr×Nat×T×Value)(H:PH):Prop:=
 ∃I A cur,H=U [I,sg pb b,A]/\Dj [I,sg pb b,A]/\d.le I/\x.1<=Z.length/\cU I A x.2.2.2.2 cur/\FN Z.length cur/\bU I (.agg #[sD x.2.1 x.2.2.1 x.2.2.2.1,rD x.2.2.2.1]) x.2.2.2.1/\gF cur (Z.drop x.1) x.1 x.2.2.2.1=a
def uH(pb:Nat)(a:Value)(n:Nat)(x:Nat×Value):St:=⟨dn 153 [(0,.v (pt pb)),(10,.v x.2),(73,.v a),(74,.v (E n)),(75,.v (E x.1))],[]⟩
def Q2(pb:Nat)(b:Obj)(Z:List Tok)(a:ad)(d:PH)(x:Nat×Value)(H:PH):Prop:=
 ∃I B,H=U [I,sg pb b,B]/\Dj [I,sg pb b,B]/\d.le I/\x.1<=a.length/\Ow dJ 227 5 I B x.2 ((a.take x.1).map (fk Z))
theorem pV{pb:Nat}{Z:List Tok}{lv fv ov dv vf:Value}{o:Nat}{f:ad}(h:iz I Z lv fv)(hf:bK I vf f)(fn:FN Z.length f):
  aT prog 198 #[pt pb,vf] I [sg pb (bN lv fv ov dv o)] fun v I2 qs=>qs=[sg pb (bN lv fv ov dv o)]/\fH I2 v (ce Z f):=by
 intro hd;have hl:=h.len;have fl:=fn.len;obtain⟨la,lc,rfl,_⟩:=id h.tok;obtain⟨fa,fc,rfl,_⟩:=id h.fit;obtain⟨ga,gc,rfl,_⟩:=id hf;refine X3 func198 rfl fun w0=>?_;simp only[ntmps198,E,pt];refine ai ?_;refine dg hd fun eg=>?_;refine tW (c:=.st _) eg [1,0] rfl fun d5=>?_;simp only[gw,yO,yN]at d5 |-;refine bY (fun x=>f.length-x.1) (xj pb (.slice ga f.length gc) f.length) (Q0 pb (bN (.slice la Z.length lc) (.slice fa Z.length fc) ov dv o) Z f I) (0,.slice none 0 0) (ft (by simp only[go_sem,Y,E,pt])) (by simp only[go_sem,Y,xj]) ?_ ?_
 .exact⟨I,PH.no,rfl,d5,aC _,aF _,Ow.nil _ _ _ _⟩
 rintro⟨i,vat⟩ H ⟨I1,A1,rfl,dT,X,hi,cB⟩ a7;simp only at hi cB;simp only[xj];have fA:=CR h.ok fn i hi;obtain⟨aa,ac,rfl⟩:=cB.shape;have ee:bK I1 (.slice ga f.length gc) f:=Sl.le (R:=cI) (fun{I J c a} h k=>cI.le h k) hf X;rcases aI i f.length with S|ec
 .have d2:decide ((i:Int)<(f.length:Int))=true:=by simp;omega
  have e1:=wrap64 (n:=i+1) O;have cm:IntKind.i64.wrap ((i:Int)+1)=((i+1:Nat):Int):=by rw[<-e1];congr 1
  obtain⟨s,hs⟩:∃s,f[i]?=some s:=⟨_,aZ S⟩;have c1:=cY hs;obtain⟨b,off,cs,rfl,d0,a1⟩:=ee.load cI.len hs;obtain⟨sa,sk,rfl,a3⟩:=d0.shape;apply RG;simp only[go_sem,d2,E,pt];refine⟨O,?_⟩;refine X5 (l:=[E s.1,.slice sa (T.subs s.2).length sk,E (T.plc (T.subs s.2) s.2)]) (v:=.agg #[E s.1,.slice sa (T.subs s.2).length sk,E (T.plc (T.subs s.2) s.2)]) rfl (cellsU dT (.head _) a1) (.inl ⟨rg,rfl⟩) ?_;apply RG;simp only[go_sem,E,pt];refine bY (fun x=>Z.length-x.1) (Ad pb (.slice (some ⟨b,off,none⟩) f.length gc) f.length i) (Q1 pb (bN (.slice la Z.length lc) (.slice fa Z.length fc) ov dv o) Z (kQ Z f (i+1)) I1) (s.1,sa,sk,s.2,.slice aa (kQ Z f i).length ac) (ft (by simp only[go_sem,Y,E,pt])) (by simp only[go_sem,Y,Ad]) ?_ ?_
  .exact⟨I1,A1,_,rfl,dT,aC _,fn.le s c1,cB,fA,a3,(GD hs).symm⟩
  rintro⟨j,da,dk,d,vat⟩ H ⟨I2,A2,cur,rfl,L,a5,hj,cA,fC,b7,b1⟩ b3;simp only at hj cA b7 b1;simp only[Ad];obtain⟨ba,bc,rfl⟩:=cA.shape;have er:=fC.len;have dw:=b7.1;have h2:=h.le (D X a5);have e2:=wrap64 (n:=j+1) O;have el:IntKind.i64.wrap ((j:Int)+1)=((j+1:Nat):Int):=by rw[<-e2];congr 1
  rcases aI j Z.length with c2|eq
  .have c0:decide ((j:Int)<(Z.length:Int))=true:=by simp;omega
   apply RG;simp only[go_sem,c0,E,pt];refine X5 (l:=[_]) rfl (cellsU L (.tail _ (.head _)) (dt (by simp[bN]) rfl)) (.inr ⟨lL,rfl⟩) ?_;apply RG;simp only[go_sem,c0,E,pt];refine X4 rfl iG (iE b7) ?_;rintro v H2⟨rfl,rfl⟩;cases U:decide (d=.lf false)
   .have dx:d≠ff:=by simpa using U
    obtain⟨t,ht⟩:∃t,Z[j]?=some t:=⟨_,aZ c2⟩;have c6:=h.ok t (cY ht);have cx:Z.drop j=t::Z.drop (j+1):=by rw[js c2];rw[aZ c2]at ht;rw[cW ht]
    obtain⟨tb,toff,tc,rfl,c7,N⟩:=h2.tok.load cR.len ht;obtain⟨path,file,line,ta,tk,rfl,cn,c5⟩:=c7;have an:=N.sub 5 2 (by simp);simp only[ls,gV,lz,lB]at an;rw[cx,gF,ab dx]at b1;apply RG;simp only[go_sem,U,E,pt];refine iA mixed [0,1,2,3,4,5,6,7,8,9,10,11,12,13] [6,10] [] rfl rfl ?_;apply bd;simp only[go_sem,E,pt];refine X6 (l:=[_]) rfl (cellsU L (.tail _ (.head _)) (dt (by simp[bN]) rfl)) (.inr ⟨lL,rfl⟩) ?_;apply bd;simp only[go_sem,E,pt];refine⟨O,?_⟩;refine X6 (l:=[_,_]) (v:=.agg #[_,_]) rfl (cellsU L (.head _) an) (.inl ⟨iB,rfl⟩) ?_;apply bd;simp only[go_sem,E,pt,sD,rD];refine cE L [0,1] [] [_,_] rfl kT rfl (kP b7 c5) ?_;rintro v I3 qs V u⟨rfl,ci⟩;obtain⟨xa,xc,rfl⟩:=ci.shape;simp only[aM,aN]at V |-;apply bd;simp only[go_sem,E,pt];refine cE V [1,0] [A2] [_] rfl jl rfl (jm (a:=j) (cU.le' cA u) ci fC.ok.2 (fun t ht=>by have:=fC.le t ht;omega) O O) ?_;rintro v I4 qs bb a4⟨A3,rfl,W⟩;obtain⟨ca,cc,rfl⟩:=W.shape;simp only[aN,aM]at bb |-;apply bd;simp only[go_sem,E,pt];refine iV bb [1,0] fun cl=>?_;apply aL;have c4:=c5.le (D u a4);have b0:=an.le (D u a4);have dd:=b7.le (D u a4);apply RG;simp only[go_sem,E,pt];refine iA mixed [0,1,2,3,4,5,6,7,8,9,10,11] [4,8] [] rfl rfl ?_;apply bd;simp only[go_sem,E,pt];refine X6 (l:=[_]) rfl (cellsU cl (.tail _ (.head _)) (dt (by simp[bN]) rfl)) (.inr ⟨lL,rfl⟩) ?_;apply bd;simp only[go_sem,E,pt];refine⟨O,?_⟩;refine X6 (l:=[_,_]) (v:=.agg #[_,_]) rfl (cellsU cl (.head _) b0) (.inl ⟨iB,rfl⟩) ?_;apply bd;simp only[go_sem,E,pt,sD,rD]
    refine cE cl [0,1] [] [_,_] rfl pT rfl (qf c4) ?_;rintro v I5 qs cj F⟨rfl,cf⟩;obtain⟨ya,yc,rfl⟩:=cf.shape;simp only[aM,aN]at cj |-;apply bd;simp only[go_sem,E,pt];refine cE cj [0,1] [] [_,_] rfl kT rfl (kP (dd.le F) cf) ?_;rintro v I6 qs a9 b4⟨rfl,P⟩;obtain⟨za,zc,rfl⟩:=P.shape;simp only[aM,aN]at a9 |-;apply bd;simp only[go_sem,E,pt];apply aL;apply RG;simp only[go_sem,E,pt,el];have fC2:FN Z.length (Syn.join cur j (d.and t.cond)):=fC.join O (T.and_ok dw c6);exact b3 (j+1,za,zc,d.and t.cond.not,.slice ca (Syn.join cur j (d.and t.cond)).length cc) _ _ bh (ft (by simp only[go_sem,Y,E,pt])) (by simp only[go_sem,Y,Ad]) ⟨I6,A3,_,rfl,a9,D a5 (D u (D a4 (D F b4))),c2,cU.le' W (D F b4),fC2,P,b1⟩
   .have ef:d=ff:=by simpa using U
    subst ef;have ap:Syn.join cur Z.length ff=kQ Z f (i+1):=by rw[KP]at b1;rw[<-b1];simp[Syn.join]
    apply RG;simp only[go_sem,U,E,pt];refine iA mixed [0,1,2,3,4,5,6,7,8] [4] [] rfl rfl ?_;apply bd;simp only[go_sem,E,pt];refine X6 (l:=[_]) rfl (cellsU L (.tail _ (.head _)) (dt (by simp[bN]) rfl)) (.inr ⟨lL,rfl⟩) ?_;apply bd;simp only[go_sem,E,pt];refine cE L [1,0] [A2] [_] rfl jl rfl (jm (a:=Z.length) cA b7 fC.ok.2 (fun t ht=>by have:=fC.le t ht;omega) O O) ?_;rintro v I3 qs V u⟨A3,rfl,W⟩;obtain⟨ca,cc,rfl⟩:=W.shape;simp only[aN,aM]at V |-;apply bd;simp only[go_sem,E,pt];refine iV V [1,0] fun bb=>?_;apply aL;apply RG;simp only[go_sem,E,pt,cm];rw[ap]at W |-;exact a7 (i+1,.slice ca (kQ Z f (i+1)).length cc) _ _ bh (ft (by simp only[go_sem,Y,E,pt])) (by simp only[go_sem,Y,xj]) ⟨I3,A3,rfl,bb,D X (D a5 u),S,W⟩
  .have ea:j=Z.length:=by omega
   subst ea;have c0:=Z6 Z.length;have ap:Syn.join cur Z.length d=kQ Z f (i+1):=by rw[jk]at b1;exact b1
   apply RG;simp only[go_sem,c0,E,pt];refine X5 (l:=[_]) rfl (cellsU L (.tail _ (.head _)) (dt (by simp[bN]) rfl)) (.inr ⟨lL,rfl⟩) ?_;apply RG;simp only[go_sem,c0,E,pt];refine iA mixed [0,1,2,3,4,5,6,7,8] [4] [] rfl rfl ?_;apply bd;simp only[go_sem,E,pt];refine X6 (l:=[_]) rfl (cellsU L (.tail _ (.head _)) (dt (by simp[bN]) rfl)) (.inr ⟨lL,rfl⟩) ?_;apply bd;simp only[go_sem,E,pt];refine cE L [1,0] [A2] [_] rfl jl rfl (jm (a:=Z.length) cA b7 fC.ok.2 (fun t ht=>by have:=fC.le t ht;omega) O O) ?_;rintro v I3 qs V u⟨A3,rfl,W⟩;obtain⟨ca,cc,rfl⟩:=W.shape;simp only[aN,aM]at V |-;apply bd;simp only[go_sem,E,pt];refine iV V [1,0] fun bb=>?_;apply aL;apply RG;simp only[go_sem,E,pt,cm];rw[ap]at W |-;exact a7 (i+1,.slice ca (kQ Z f (i+1)).length cc) _ _ bh (ft (by simp only[go_sem,Y,E,pt])) (by simp only[go_sem,Y,xj]) ⟨I3,A3,rfl,bb,D X (D a5 u),S,W⟩
 .have c9:i=f.length:=by omega
  subst c9;have d2:=Z6 f.length;have eh:kQ Z f f.length=ll Z f:=by unfold kQ ll;rw[dO]
  rw[eh]at cB fA |-;apply RG;simp only[go_sem,d2,E,pt];refine tW (c:=.st _) dT [1,0] rfl fun L=>?_;simp only[gw,yO,yN]at L |-;refine aH (c:=.st _) L fun I2 V u ek=>?_;refine dg (c:=.st _) V fun bb=>?_;refine tW (c:=.st _) bb [1,0] rfl fun cl=>?_;simp only[gw,yO,yN]at cl |-;have hS:bK I2 (.slice aa (ll Z f).length ac) (ll Z f):=Ow.sl (R:=cI) (fun{I J c a} h k=>cI.le h k) cB u ek;obtain⟨a,ha⟩:∃a,a=ll Z f:=⟨_,rfl⟩;rw[<-ha]at hS fA |-;have es:=fA.len;have b5:ce Z f=a.map (fk Z):=by rw[s5 h.ok fn.ok,ha]
  refine bY (fun x=>a.length-x.1) (uH pb (.slice aa a.length ac) a.length) (Q2 pb (bN (.slice la Z.length lc) (.slice fa Z.length fc) ov dv o) Z a I2) (0,.slice none 0 0) (ft (by simp only[go_sem,Y,E,pt])) (by simp only[go_sem,Y,uH]) ?_ ?_
  .exact⟨I2,PH.no,rfl,cl,aC _,aF _,Ow.nil _ _ _ _⟩
  rintro⟨i,vo⟩ H ⟨I3,B,rfl,cj,F,hi,hB⟩ am;simp only at hi hB;simp only[uH];obtain⟨oa,oc,rfl⟩:=hB.shape;have b2:((a.take i).map (fk Z)).length=i:=by simp;omega
  rw[b2]at hB |-;have ei:bK I3 (.slice aa a.length ac) a:=Sl.le (R:=cI) (fun{I J c a} h k=>cI.le h k) hS F;have h3:=h.le (D X (D u F));rcases aI i a.length with S|ec
  .have d1:decide ((i:Int)<(a.length:Int))=true:=by simp;omega
   have e1:=wrap64 (n:=i+1) O;have cm:IntKind.i64.wrap ((i:Int)+1)=((i+1:Nat):Int):=by rw[<-e1];congr 1
   obtain⟨s,hs⟩:∃s,a[i]?=some s:=⟨_,aZ S⟩;have c1:=cY hs;obtain⟨b,off,cs,rfl,d0,a1⟩:=ei.load cI.len hs;obtain⟨sa,sk,rfl,a3⟩:=d0.shape;have sle:=fA.le s c1;obtain⟨sok,sne⟩:=fA.ok.1 s c1;have cb:(a.take (i+1)).map (fk Z)=(a.take i).map (fk Z)++[fk Z s]:=by rw[pj S,mf];rw[aZ S]at hs;rw[cW hs];rfl
   apply RG;simp only[go_sem,d1,E,pt];refine⟨O,?_⟩;refine X5 (l:=[E s.1,.slice sa (T.subs s.2).length sk,E (T.plc (T.subs s.2) s.2)]) (v:=.agg #[E s.1,.slice sa (T.subs s.2).length sk,E (T.plc (T.subs s.2) s.2)]) rfl (cellsU cj (.head _) a1) (.inl ⟨rg,rfl⟩) ?_;apply RG;simp only[go_sem,E,pt];refine au cj [0,1] [_] [B] rfl HM rfl (Lp h3 sle) ?_;rintro v I4 qs a9 b4⟨rfl,rfl,rfl⟩;simp only[aN,aM]at a9 |-;apply RG;simp only[go_sem,E,pt];refine au a9 [0,1] [] [_,_] rfl kT rfl (kP a3 (oV I4 false)) ?_;rintro v I5 qs c3 y⟨rfl,ci⟩;rw[Gv sok]at ci;obtain⟨xa,xc,rfl⟩:=ci.shape;simp only[aN,aM]at c3 |-;apply RG;simp only[go_sem,E,pt];refine X4 rfl iG (iE ci) ?_;rintro v H2⟨rfl,rfl⟩;apply RG;simp only[go_sem,E,pt];refine iA mixed [8,0,1,2,3,4,5,6,7,9] [] [] rfl rfl ?_;apply bd;simp only[go_sem,E,pt];refine cE c3 [0,1] [] [_,_] rfl pT rfl (qf (oV I5 false)) ?_;rintro v I6 qs cy z⟨rfl,cf⟩;simp only[T.not,ds]at cf;obtain⟨ya,yc,rfl⟩:=cf.shape;simp only[aN,aM]at cy |-;apply bd;simp only[go_sem,E,pt];refine cE cy [0,1] [] [_,_] rfl kT rfl (kP (a3.le (D y z)) cf) ?_;rintro v I7 qs w G⟨rfl,P⟩;rw[Gw sok]at P;obtain⟨za,zc,rfl⟩:=P.shape;simp only[aN,aM]at w |-;apply bd;simp only[go_sem,E,pt];apply aL;apply RG;simp only[go_sem,E,pt];have h7:=h3.le (D y (D z G));rcases aI s.1 Z.length with d9|em
   .have b8:decide ((s.1:Int)<(Z.length:Int))=true:=by simp;omega
    obtain⟨t,ht⟩:∃t,Z[s.1]?=some t:=⟨_,aZ d9⟩;obtain⟨fb,foff,fcs,rfl,ed,b6⟩:=h7.fit.load (fun{I} c a h=>lF.len (I:=I) c a h) ht;obtain⟨tb,toff,tc,rfl,c7,N⟩:=h7.tok.load cR.len ht;have dc:fcs=[.bool t.fits]:=ed;subst dc;refine iA mixed [0,1,2,3,4,5,6,7,8,9,10,11,12,13,14,15,16,17] [5,12,16] [] rfl rfl ?_;apply bd;simp only[go_sem,E,pt];refine X6 (l:=[_]) rfl (cellsU w (.tail _ (.head _)) (dt (by simp[bN]) rfl)) (.inr ⟨lL,rfl⟩) ?_;apply bd;simp only[go_sem,E,pt,b8];refine X6 (l:=[.slice (some ⟨fb,foff,none⟩) Z.length fc]) rfl (cellsU w (.tail _ (.head _)) (dt (by simp[bN]) rfl)) (.inr ⟨Gl,rfl⟩) ?_;apply bd;simp only[go_sem,E,pt];refine⟨O,?_⟩;refine X6 (l:=[.bool t.fits]) rfl (cellsU w (.head _) b6) (.inr ⟨Gq,rfl⟩) ?_;apply bd;simp only[go_sem,E,pt];apply aL;cases a6:t.fits
    .have cr:fk Z s=⟨s.1,s.2,0,[]⟩:=by simp[fk,ht,a6]
     apply RG;simp only[go_sem,E,pt,a6];refine X4 rfl iG (iE P) ?_;rintro v H2⟨rfl,rfl⟩;have U:decide (s.2=.lf false)=false:=by simpa using sne
     apply RG;simp only[go_sem,E,pt,U];refine cH w (by exact r0) rfl rfl rfl rfl rfl af fun nb I8 a0 g cp=>?_;apply RG;simp only[go_sem,E,pt];refine aj a0 [1,0] fun K=>?_;obtain⟨bs,A,a2⟩:=hB;rw[b2]at A;refine ni (m:=1) K (by exact r0) A rfl rfl rfl rfl (cellsU K (.head _) (bz (l:=[E s.1,.slice za (T.subs s.2).length zc,E (T.plc (T.subs s.2) s.2),.int .u8 0,.string ⟨#[]⟩]) cp (by simp[av,Value.cells]) (by simp[av,Value.cells,E]))) rfl rfl O (by unfold maxLen;omega) fun v' I9 B2 aS e bx=>?_;obtain⟨na,nc,rfl⟩:=bx.slice;apply RG;simp only[go_sem,E,pt,cm];refine aj aS [1,0] fun aq=>?_;refine am (i+1,.slice na (i+1) nc) _ _ bh (ft (by simp only[go_sem,Y,E,pt])) (by simp only[go_sem,Y,uH]) ⟨I9,B2,rfl,aq,D F (D y (D z (D G (D g e)))),S,bs++[E s.1,.slice za (T.subs s.2).length zc,E (T.plc (T.subs s.2) s.2),.int .u8 0,.string ⟨#[]⟩],?_,?_⟩
     .simp only;rw[cb,aE,b2];exact bx
     .simp only;rw[cb,cr];exact LR.app (a2.mono fun _ _ h=>dJ.le h (D y (D z (D G (D g e))))) (.one ⟨za,zc,rfl,P.le (D g e)⟩)
    .have cr:fk Z s=⟨s.1,s.2,t.kind,t.text⟩:=by simp[fk,ht,a6]
     obtain⟨path,file,line,ta,tk,rfl,cn,c5⟩:=c7;have d4:=N.sub 0 1 (by simp);have d3:=N.sub 1 1 (by simp);simp only[ls,gV,lz,lB,sw]at d4 d3;apply RG;simp only[go_sem,E,pt,a6];refine Cw mixed [0,1,2,3,4,5,6,7,8,9,10,11,12,13,14,15,16,17,18,19,20,21] [3,8,12,17] [] [12,14,17] [19] [12] rfl rfl ?_;apply bd;simp only[go_sem,E,pt];refine X6 (l:=[.slice (some ⟨tb,toff,none⟩) Z.length lc]) rfl (cellsU w (.tail _ (.head _)) (dt (by simp[bN]) rfl)) (.inr ⟨lL,rfl⟩) ?_;apply bd;simp only[go_sem,E,pt];refine⟨O,?_⟩;refine X6 (l:=[.int .u8 t.kind]) rfl (cellsU w (.head _) d4) (.inr ⟨uq,rfl⟩) ?_;apply bd;simp only[go_sem,E,pt];refine X6 (l:=[.slice (some ⟨tb,toff,none⟩) Z.length lc]) rfl (cellsU w (.tail _ (.head _)) (dt (by simp[bN]) rfl)) (.inr ⟨lL,rfl⟩) ?_;apply bd;simp only[go_sem,E,pt];refine⟨O,?_⟩;refine X6 (l:=[.string ⟨⟨t.text⟩⟩]) rfl (cellsU w (.head _) d3) (.inr ⟨gM,rfl⟩) ?_;apply bd;simp only[go_sem,E,pt];apply aL;apply RG;simp only[go_sem,E,pt];refine X4 rfl iG (iE P) ?_;rintro v H2⟨rfl,rfl⟩;have U:decide (s.2=.lf false)=false:=by simpa using sne
     apply RG;simp only[go_sem,E,pt,U];refine cH w (by exact r0) rfl rfl rfl rfl rfl af fun nb I8 a0 g cp=>?_;apply RG;simp only[go_sem,E,pt];refine aj a0 [1,0] fun K=>?_;obtain⟨bs,A,a2⟩:=hB;rw[b2]at A;refine ni (m:=1) K (by exact r0) A rfl rfl rfl rfl (cellsU K (.head _) (bz (l:=[E s.1,.slice za (T.subs s.2).length zc,E (T.plc (T.subs s.2) s.2),.int .u8 t.kind,.string ⟨⟨t.text⟩⟩]) cp (by simp[av,Value.cells]) (by simp[av,Value.cells,E]))) rfl rfl O (by unfold maxLen;omega) fun v' I9 B2 aS e bx=>?_;obtain⟨na,nc,rfl⟩:=bx.slice;apply RG;simp only[go_sem,E,pt,cm];refine aj aS [1,0] fun aq=>?_;refine am (i+1,.slice na (i+1) nc) _ _ bh (ft (by simp only[go_sem,Y,E,pt])) (by simp only[go_sem,Y,uH]) ⟨I9,B2,rfl,aq,D F (D y (D z (D G (D g e)))),S,bs++[E s.1,.slice za (T.subs s.2).length zc,E (T.plc (T.subs s.2) s.2),.int .u8 t.kind,.string ⟨⟨t.text⟩⟩],?_,?_⟩
     .simp only;rw[cb,aE,b2];exact bx
     .simp only;rw[cb,cr];exact LR.app (a2.mono fun _ _ h=>dJ.le h (D y (D z (D G (D g e))))) (.one ⟨za,zc,rfl,P.le (D g e)⟩)
   .have d7:s.1=Z.length:=by omega
    have b8:decide ((s.1:Int)<(Z.length:Int))=false:=by simp;omega
    have cr:fk Z s=⟨s.1,s.2,0,[]⟩:=by simp[fk,d7]
    refine iA mixed [0,1,2,3,4,5,6,7,8,9,10,11,12,13,14,15,16,17] [5,12,16] [] rfl rfl ?_;apply bd;simp only[go_sem,E,pt];refine X6 (l:=[_]) rfl (cellsU w (.tail _ (.head _)) (dt (by simp[bN]) rfl)) (.inr ⟨lL,rfl⟩) ?_;apply bd;simp only[go_sem,E,pt,b8];apply aL;apply RG;simp only[go_sem,E,pt];refine X4 rfl iG (iE P) ?_;rintro v H2⟨rfl,rfl⟩;have U:decide (s.2=.lf false)=false:=by simpa using sne
    apply RG;simp only[go_sem,E,pt,U];refine cH w (by exact r0) rfl rfl rfl rfl rfl af fun nb I8 a0 g cp=>?_;apply RG;simp only[go_sem,E,pt];refine aj a0 [1,0] fun K=>?_;obtain⟨bs,A,a2⟩:=hB;rw[b2]at A;refine ni (m:=1) K (by exact r0) A rfl rfl rfl rfl (cellsU K (.head _) (bz (l:=[E s.1,.slice za (T.subs s.2).length zc,E (T.plc (T.subs s.2) s.2),.int .u8 0,.string ⟨#[]⟩]) cp (by simp[av,Value.cells]) (by simp[av,Value.cells,E]))) rfl rfl O (by unfold maxLen;omega) fun v' I9 B2 aS e bx=>?_;obtain⟨na,nc,rfl⟩:=bx.slice;apply RG;simp only[go_sem,E,pt,cm];refine aj aS [1,0] fun aq=>?_;refine am (i+1,.slice na (i+1) nc) _ _ bh (ft (by simp only[go_sem,Y,E,pt])) (by simp only[go_sem,Y,uH]) ⟨I9,B2,rfl,aq,D F (D y (D z (D G (D g e)))),S,bs++[E s.1,.slice za (T.subs s.2).length zc,E (T.plc (T.subs s.2) s.2),.int .u8 0,.string ⟨#[]⟩],?_,?_⟩
    .simp only;rw[cb,aE,b2];exact bx
    .simp only;rw[cb,cr];exact LR.app (a2.mono fun _ _ h=>dJ.le h (D y (D z (D G (D g e))))) (.one ⟨za,zc,rfl,P.le (D g e)⟩)
  .have c9:i=a.length:=by omega
   subst c9;have d1:=Z6 a.length;rw[dO,<-b5]at hB;apply RG;simp only[go_sem,d1,E,pt];refine tW (c:=.st _) cj [1,0] rfl fun a9=>?_;simp only[gw,yO,yN]at a9 |-;refine aH (c:=.st _) a9 fun I4 c3 y ej=>?_;have c8:fH I4 (.slice oa a.length oc) (ce Z f):=Ow.sl (R:=dJ) (fun{I J c a} h k=>dJ.le h k) hB y ej;exact az rfl c3 (r:=[_]) rfl (D X (D u (D F y))) ⟨rfl,c8⟩
end Go.Proofs.YtfaclfkpnmcmlaaGreatDoor
namespace Go.Sx
open Go
section
variable {C:Cx} {P:Program} {k:List Item} {σ:St} {H:PH}
variable{I:PH}
def SU{I2:PH}{qs F:List PH}(a:I.le I2)(c:Dj (I::F))(hd:Dj (I2::qs++F)):(U (I::F)).le (U (I2::qs++F)):=by
 intro b o h;rcases(pD c).1 h with ⟨A,d,hb⟩
 rcases List.mem_cons.1 d with rfl|d
 .exact(pD hd).2 ⟨I2,.head _,a b o hb⟩
 .exact(pD hd).2 ⟨A,.tail _ (gz _ d),hb⟩
def Dj.drop_mid{ps F:List PH}(h:Dj (I::ps++F)):Dj (I::F):=
 h.sublist (List.Sublist.cons_cons I (List.sublist_append_right ps F))
variable{Ψ:Value->PH->List PH->Prop}{x:Operand}
def zd{ol:List Oper}{fr:cu}{str:cw}{i:Nat}{lo:List (Nat×Oper)}{o:Oper}{aS:Array Operand}{Z:Array TypeId}{f:FuncId}{vs:List Value}{first cap:Array Value}{l ps F:List PH}(hd:Dj (I::l))(is:List Nat)(hs:str.h.contains i=false)(p:bH ol σ o=some true)(aa:o.op=.call ⟨.value x,aS,Z⟩)
  (n:ev σ x=.v (.func (.func f) first cap)) (ha:fU (ev σ) aS.toList=some vs) (t:ax C.P f) (hi:is.isPerm (List.range l.length)=true) (q:gw l is=ps++F) (m:fr.J.le (U (I::F))) (h:aT C.P f (first++vs.toArray++cap) I ps Ψ)
  (r:∀v g j,Dj (g::j++F)->I.le g->Ψ v g j->RD C ol fr str lo k (σ.put o.dst (.v v)) (U (g::j++F))):RD C ol fr str ((i,o)::lo) k σ (U (I::l)):=by
 obtain⟨e,d⟩:=pC ((yd hi).cons I) hd;rw[q]at e d;rw[e];exact wy p aa n ha t (h.frame d) fun v H2 ⟨g,j,a,b,c,dd⟩=>⟨⟨fun s=>Bool.noConfusion (hs.symm.trans s),fun u _=>by subst a;exact D m (SU c (Dj.drop_mid d) b)⟩,by subst a;exact r v g j b c dd⟩
def jM{r:List Value}{I2:PH}{qs:List PH}(a:C.post=fun v H2=>∃I2 qs,H2=U (I2::qs)/\Dj (I2::qs)/\I.le I2/\Ψ v I2 qs)(hd:Dj (I2::qs))(h:nN C.P σ C.fn.results.toList=some r)(b:I.le I2)(hp:Ψ (dS r) I2 qs):RC C (.st []) σ (U (I2::qs)):=
 Mt h (by rw[a];exact⟨I2,qs,rfl,hd,b,hp⟩)
variable{a:Option Addr}{y:Operand}{size:Nat}{e:TypeId}
def Wb{o:Oper}{T:TypeId}{z:Operand}{len cap h m:Nat}{k1 k2:IntKind}(aa:o.op=.slice T x none (some y) (some z))(n:P.underlying T=some (.slice e))(hi:∃i,P.info? e=some i/\i.size=size)
  (l:ev σ x=.v (.slice a len cap)) (j:ev σ y=.v (.int k1 h)) (g:ev σ z=.v (.int k2 m)) (h1:h<=m) (h2:m<=cap) :
  bQ σ o.op=true/\eD P (execOp (bf σ) o) H fun sv H2=>sv=.v (.slice (fV a size 0 m) h m)/\H2=H:=by
 constructor
 .simp[bQ,aa,fB,Op.operands,l,j,g,fO]
 .intro w p;obtain⟨i,hi,rfl⟩:=hi;have c:(sizeOf e).run P w=.ok i.size w:=by simp[sizeOf,typeInfo,program,Sem.run,hi]
  have f:=om (P:=P) (w:=w) (i:=(m:Int)) (k:=k2) (code:=.slice3Acap) (y:=cap) O O;have d:=om (P:=P) (w:=w) (i:=(h:Int)) (k:=k1) (code:=.slice3B) (y:=m) O O;simp only[Int.toNat_natCast]at f d;have b:(execOp (bf σ) o).run P w=.ok (.value (.slice (fV a i.size 0 m) h m)) w:=by simp[execOp,aa,bf,l,j,g,Instr.sliceAt,eV n,run_underlying n,Instr.slice,Instr.sliceBounds,Result.andThen,c,fV,f,d]
  rw[b];exact⟨H,cM.refl p,rfl,rfl⟩
variable{rem:List Oper}
def L9{ol:List Oper}{o:Oper}{T:TypeId}{z:Operand}{len cap h m:Nat}{k1 k2:IntKind}(g:bH ol σ o=some true)(aa:o.op=.slice T x none (some y) (some z))(j:C.P.underlying T=some (.slice e))(hi:∃i,C.P.info? e=some i/\i.size=size)
  (f:ev σ x=.v (.slice a len cap)) (d:ev σ y=.v (.int k1 h)) (c:ev σ z=.v (.int k2 m)) (h1:h<=m) (h2:m<=cap)
  (l:RC C (.op ol rem k) (σ.put o.dst (.v (.slice (fV a size 0 m) h m))) H):RC C (.op ol (o::rem) k) σ H:=by
 obtain⟨a,b⟩:=Wb (H:=H) aa j hi f d c h1 h2;exact jw g a (b.mono fun sv H2 ⟨e1,e2⟩=>by subst e1;subst e2;exact l)
variable{n:Nat}
def V7{o:Oper}{T T2:TypeId}{c:Nat}(aa:o.op=.binOp .eql T x y T2)(h:P.underlying T=some (.slice e))
  (f:ev σ x=.v (.slice a n c)) (d:ev σ y=.v (.slice none 0 0)) :
  bQ σ o.op=true/\eD P (execOp (bf σ) o) H fun sv H2=>sv=.v (.bool a.isNone)/\H2=H:=by
 constructor
 .simp[bQ,aa,fB,Op.operands,f,d,fO]
 .intro w g;have b:(execOp (bf σ) o).run P w=.ok (.value (.bool a.isNone)) w:=by
   have:∀k,Op.maxDepth=k+1->(Op.equal T (.slice a n c) (.slice none 0 0)).run P w=.ok a.isNone w:=by intro k i;unfold Op.equal;rw[i];cases a<;>simp[Op.equalIn,run_underlying h,eI,Result.andThen]
   have j:=this 9999 rfl;simp[execOp,aa,bf,f,d,eqGuard,binOp,eI,j,Result.andThen]
  rw[b];exact⟨H,cM.refl g,rfl,rfl⟩
def tV{ol:List Oper}{o:Oper}{T T2:TypeId}{c:Nat}(f:bH ol σ o=some true)(aa:o.op=.binOp .eql T x y T2)(g:C.P.underlying T=some (.slice e))
  (d:ev σ x=.v (.slice a n c)) (b:ev σ y=.v (.slice none 0 0)) (h:RC C (.op ol rem k) (σ.put o.dst (.v (.bool a.isNone))) H):RC C (.op ol (o::rem) k) σ H:=by
 obtain⟨p,q⟩:=V7 (H:=H) aa g d b;exact jw f p (q.mono fun sv H2 ⟨e1,e2⟩=>by subst e1;subst e2;exact h)
variable{n2 bytes:Nat}
def KE{o:Oper}{t:TypeId}(ht:cL P t e size bytes){ya:Option Addr}{c:Nat}(aa:o.op=.call ⟨.builtin .append,#[x,y],#[t,t]⟩)
  (m:ev σ x=.v (.slice a n n2)) (f:n<=n2) (l:ev σ y=.v (.slice ya 0 c)) :
  bQ σ o.op=true/\eD P (execOp (bf σ) o) H fun sv H2=>sv=.v (.slice a n n2)/\H2=H:=by
 constructor
 .simp[bQ,aa,fB,Op.operands,Call.operands,m,l,fO]
 .intro w p;obtain⟨i,z,g,a2,a3,a4,a5,r,q⟩:=ht;have hs:Src P i.size t (.slice ya 0 c) 0 [] w:=by
   cases ya with
   |none=>exact Src.ofNil w g c
   |some b=>exact Src.ofSlice w g b 0 c [] (by simp) (fun j u h=>by simp at h) (fun u h=>by cases h)
  have d:=run_append_nothing (P:=P) w t t o.type e i g a2 a n n2 f _ hs;rw[Dp aa m l d];exact⟨H,cM.refl p,rfl,rfl⟩
def V1{o:Oper}{t:TypeId}(ht:cL P t e size bytes){m c xb xo:Nat}{olds news:List Value}(aa:o.op=.call ⟨.builtin .append,#[x,y],#[t,t]⟩)
  (I:ev σ x=.v (.slice a n n2)) (l:n2<n+m) (G:ev σ y=.v (.slice (some ⟨xb,xo,none⟩) m c)) (f:n=0\/∃b off,a=some ⟨b,off,none⟩/\aX H b off olds) (J:olds.length=n*size)
  (Q:aX H xb xo news) (A:news.length=m*size) (h1:news.all one=true) (p:n+m<=maxLen) (hb:(n+m)*bytes<=140737488355328) :
  bQ σ o.op=true/\eD P (execOp (bf σ) o) H fun sv H2=>∃g cap zs,H g=none/\(n+m<=cap/\cap<=maxLen)/\sv=.v (.slice (some ⟨g,0,none⟩) (n+m) cap)/\H2=H.put g (.cells (olds++news++zs).toArray e (0,0)):=by
 constructor
 .simp[bQ,aa,fB,Op.operands,Call.operands,I,G,fO]
 .intro w s;obtain⟨i,z,K,a2,a3,a4,a5,S,R⟩:=ht;subst a4;subst a5;have B:(Builtin.firstCells i.size n (.slice a n n2)).run P w.drew=.ok olds.toArray w.drew:=by
   rcases f with rfl|⟨b,off,rfl,F⟩
   .have:olds=[]:=by simpa using J
    subst this;cases a with
    |none=>exact run_firstCells_none w.drew i.size 0 0 n2
    |some b=>exact run_firstCells_some w.drew i.size 0 b 0 n2 [] (by simp) (fun j u h=>by simp at h)
   .exact run_firstCells_some (P:=P) (w:=w.drew) i.size n ⟨b,off,none⟩ n n2 olds J (zJ F (w:=w.drew) s)
  have hs:Src P i.size t (.slice (some ⟨xb,xo,none⟩) m c) m news w:=Src.ofSlice w K ⟨xb,xo,none⟩ m c news A (zJ Q s)
   (fun u N=>by have:=List.all_eq_true.1 h1 u N;cases u<;>first|rfl|cases this)
  have q:n+m<=9223372036854775807:=by simp only[maxLen]at p;omega
  have d:=run_append_grow_src (P:=P) w t t o.type e i z K a2 a3 a n n2 olds B _ m news hs l O (growslice_fits l hb);rw[Dp aa I G d];obtain⟨L,r⟩:=cM.newD s (.cells ((olds++news).toArray++Builtin.zeroCells z.cells (grownCap w (n+m) n2 e-(n+m))) e (0,0));refine⟨_,r,w.heap.size,grownCap w (n+m) n2 e,(Builtin.zeroCells z.cells (grownCap w (n+m) n2 e-(n+m))).toList,L,⟨grownCap_ge w (n+m) n2 e,grownCap_le_maxLen w (n+m) n2 e p⟩,rfl,?_⟩;congr 2;rw[<-mY];simp
def F0{ol:List Oper}{o:Oper}{t:TypeId}(ht:cL C.P t e size bytes){ya:Option Addr}{c:Nat}(h:bH ol σ o=some true)(aa:o.op=.call ⟨.builtin .append,#[x,y],#[t,t]⟩)
  (g:ev σ x=.v (.slice a n n2)) (d:n<=n2) (f:ev σ y=.v (.slice ya 0 c)) (i:RC C (.op ol rem k) (σ.put o.dst (.v (.slice a n n2))) H):RC C (.op ol (o::rem) k) σ H:=by
 obtain⟨a,b⟩:=KE (H:=H) ht aa g d f;exact jw h a (b.mono fun sv H2 ⟨e1,e2⟩=>by subst e1;subst e2;exact i)
def LY{ol:List Oper}{o:Oper}{t:TypeId}{l:List PH}(hd:Dj (I::l))(ht:cL C.P t e size bytes){m c xb xo:Nat}{olds news:List Value}(z:bH ol σ o=some true)(aa:o.op=.call ⟨.builtin .append,#[x,y],#[t,t]⟩)
  (w:ev σ x=.v (.slice a n n2)) (i:n2<n+m) (u:ev σ y=.v (.slice (some ⟨xb,xo,none⟩) m c)) (d:n=0\/∃b off,a=some ⟨b,off,none⟩/\aX (U (I::l)) b off olds) (A:olds.length=n*size)
  (F:aX (U (I::l)) xb xo news) (h:news.length=m*size) (h1:news.all one=true) (j:n+m<=maxLen) (hb:(n+m)*bytes<=140737488355328)
  (B:∀g cap f,Dj (f::l)->I.le f->(n+m<=cap/\cap<=maxLen)->aX f g 0 (olds++news)->RC C (.op ol rem k) (σ.put o.dst (.v (.slice (some ⟨g,0,none⟩) (n+m) cap))) (U (f::l))):RC C (.op ol (o::rem) k) σ (U (I::l)):=by
 obtain⟨a,b⟩:=V1 ht aa w i u d A F h h1 j hb;refine jw z a (b.mono fun sv H2 ⟨g,cap,zs,e1,G,e2,J⟩=>?_);subst e2;subst J;obtain⟨s,r,q,p⟩:=EO hd (o:=.cells (olds++news++zs).toArray e (0,0)) e1;rw[s];refine B g cap _ r q G (bz p (by simp) (by show (List.drop 0 (olds++news++zs)).take (olds++news).length=_;rw[gV];exact List.take_left))
end
theorem NC(l:List UInt8):(⟨⟨l⟩⟩:ByteArray).toList=l:=ByteArray.toList_eq _
attribute [go_sem] NC
end Go.Sx
namespace Go.Proofs.YtfaclfkpnmcmlaaGreatDoor
open Go Go.Sx Dg Syn
def pR:ax prog 140:=⟨_,func140,rfl,rfl⟩
def bi(I:PH)(c:List Value)(e:aG):Prop:=∃a k,c=[.int .u8 e.code,.int .i64 e.tok,sD a k e.cond,rD e.cond]/\bU I (.agg #[sD a k e.cond,rD e.cond]) e.cond
variable{I J:PH}
def bi.le{c:List Value}{e:aG}(h:bi I c e)(b:I.le J):bi J c e:=by obtain⟨a,k,e,h⟩:=h;exact⟨a,k,e,bU.le h b⟩
def bi.len(c:List Value)(e:aG)(h:bi I c e):c.length=4:=by obtain⟨a,k,e,_⟩:=h;rw[e];rfl
abbrev bj(I Z:PH)(v:Value)(e:List aG):Prop:=Ow bi 80 4 I Z v e
def bj.le{I J Z:PH}{v:Value}{e:List aG}(h:bj I Z v e)(b:I.le J):bj J Z v e:=Ow.le (R:=bi) (fun{I J c a} h k=>bi.le h k) h b
abbrev fY:=@bj.le
variable{v:Value}
def Sl.monoR{α:Type}{R R':PH->List Value->α->Prop}{l:List α}(h:Sl R I v l)(d:∀c a,R I c a->R' I c a):Sl R' I v l:=by obtain⟨a,c,e,h⟩:=h;exact⟨a,c,e,h.imp id fun⟨b,off,xs,e1,e2,f⟩=>⟨b,off,xs,e1,e2,f.mono d⟩⟩
def yX:Value->Prop
 | .slice _ n c=>n<=c
 |_=>True
def kH:Value->Prop
 | .slice _ n c=>n<=c/\(0<n->c<=maxLen)
 |_=>True
def oo:kH (.slice none 0 0):=⟨aR _,fun h=>absurd h (Nat.lt_irrefl _)⟩
def j4:Nat->PH->List Value->M->Prop
 |0,_,_,_=>False
 |d+1,I,c,n=>∃b a k,c=[.int .u8 n.kind,.string ⟨⟨n.text⟩⟩,.int .i64 n.tok,.int .i64 n.slot,b,sD a k n.cond,rD n.cond]/\bU I (.agg #[sD a k n.cond,rD n.cond]) n.cond/\Sl (j4 d) I b n.kids/\kH b
def j4.le:∀{d:Nat} {I J:PH} {c:List Value} {n:M},j4 d I c n->I.le J->j4 d J c n
 |0,_,_,_,_,h,_=>h
 |d+1,I,J,c,n,⟨f,a,k,e,h,g,i⟩,b=>⟨f,a,k,e,bU.le h b,Sl.le (R:=j4 d) (fun{I J c a} h k=>j4.le h k) g b,i⟩
def j4.up:∀{d:Nat} {I:PH} {c:List Value} {n:M},j4 d I c n->j4 (d+1) I c n
 |0,_,_,_,h=>h.elim
 |d+1,I,c,n,⟨b,a,k,e,h,f,g⟩=>⟨b,a,k,e,h,f.monoR fun _ _ h=>j4.up h,g⟩
variable{n:M}
def j4.ups{d d':Nat}{c:List Value}(h:j4 d I c n)(hd:d<=d'):j4 d' I c n:=by
 induction hd with
 |refl=>exact h
 |step _ a=>exact a.up
def ae(I:PH)(c:List Value)(n:M):Prop:=∃d,j4 d I c n
def LR.depth{I:PH}:∀{l:List M} {xs:List Value},LR (ae I) xs l->∃d,LR (j4 d I) xs l
 | [],xs,h=>⟨0,h⟩
 |a::l,xs,⟨c,ys,e,⟨d,h1⟩,h2⟩=>by obtain⟨d',h3⟩:=LR.depth h2;exact⟨max d d',c,ys,e,h1.ups (Nat.le_max_left _ _),h3.mono fun _ _ h=>h.ups (Nat.le_max_right _ _)⟩
variable{a:Option Addr}
theorem ae.mk{vk:Value}{k:Nat}(h:bU I (.agg #[sD a k n.cond,rD n.cond]) n.cond)(g:Sl ae I vk n.kids)(f:kH vk):ae I [.int .u8 n.kind,.string ⟨⟨n.text⟩⟩,.int .i64 n.tok,.int .i64 n.slot,vk,sD a k n.cond,rD n.cond] n:=by
 obtain⟨b,c,e,h2⟩:=g;rcases h2 with h2|⟨b',off,xs,e1,e2,i⟩
 .exact⟨1,vk,a,k,rfl,h,⟨b,c,e,.inl h2⟩,f⟩
 .obtain⟨d,h4⟩:=LR.depth i;exact⟨d+1,vk,a,k,rfl,h,⟨b,c,e,.inr ⟨b',off,xs,e1,e2,h4⟩⟩,f⟩
def ae.shape{c:List Value}(h:ae I c n):∃b a k,c=[.int .u8 n.kind,.string ⟨⟨n.text⟩⟩,.int .i64 n.tok,.int .i64 n.slot,b,sD a k n.cond,rD n.cond]/\bU I (.agg #[sD a k n.cond,rD n.cond]) n.cond/\Sl ae I b n.kids/\kH b:=by
 obtain⟨d,h⟩:=h;cases d with
 |zero=>exact h.elim
 |succ d=>obtain⟨b,a,k,e,h1,h2,h3⟩:=h;exact⟨b,a,k,e,h1,h2.monoR fun _ _ h=>⟨d,h⟩,h3⟩
def ae.le{c:List Value}(h:ae I c n)(a:I.le J):ae J c n:=by obtain⟨d,h⟩:=h;exact⟨d,h.le a⟩
def ae.len(c:List Value)(n:M)(h:ae I c n):c.length=7:=by obtain⟨b,a,k,e,_⟩:=h.shape;rw[e];rfl
abbrev ar(I A:PH)(v:Value)(l:List M):Prop:=Ow ae 60 7 I A v l
abbrev bu(I:PH)(v:Value)(l:List M):Prop:=Sl ae I v l
def ar.le{I J A:PH}{v:Value}{l:List M}(h:ar I A v l)(b:I.le J):ar J A v l:=Ow.le (R:=ae) (fun{I J c a} h k=>ae.le h k) h b
abbrev bW:=@ar.le
def bu.le{l:List M}(h:bu I v l)(b:I.le J):bu J v l:=Sl.le (R:=ae) (fun{I J c a} h k=>ae.le h k) h b
def bK.le{l:ad}(h:bK I v l)(b:I.le J):bK J v l:=Sl.le (R:=cI) (fun{I J c a} h k=>cI.le h k) h b
def fH.le{l:List ah}(h:fH I v l)(b:I.le J):fH J v l:=Sl.le (R:=dJ) (fun{I J c a} h k=>dJ.le h k) h b
def g8(a:Option Addr)(k:Nat)(h:ah):Value:=.agg #[E h.at',sD a k h.cond,rD h.cond,.int .u8 h.kind,.string ⟨⟨h.text⟩⟩]
def PP(pb:Nat)(lv fv ov:Value)(o:Nat)(e:List aG)(Φ:Value->PH->List PH->Prop):Value->PH->List PH->Prop:=
 fun v c f=>∃a d b,f=sg pb (bN lv fv ov a o)::d::b/\bj c d a e/\Φ v c b
abbrev lV:Nat:=2^40
variable{e:List aG}{h:ah}{lv fv ov dv:Value}{Z:List Tok}{pb:Nat}
theorem pO{X:PH}{o:Nat}{k code:Nat}(hp:iz I Z lv fv)(K:h.at'<=Z.length)(hr:bU I (.agg #[sD a k h.cond,rD h.cond]) h.cond)(S:bj I X dv e)(hl:e.length+2<=lV):
  aT prog 140 #[pt pb,g8 a k h,.int .u8 code] I [sg pb (bN lv fv ov dv o),X] (PP pb lv fv ov o (e++db h code) fun v W rs=>rs=[]):=by
 intro hd;have aa:=hp.len;unfold lV at hl;obtain⟨la,lc,rfl,_⟩:=id hp.tok;obtain⟨fa,fc,rfl,_⟩:=id hp.fit;obtain⟨V,U,rfl⟩:=id S.shape;refine aP 36 func140 fun w0=>?_
 try simp only[E,pt,g8,sD,rD]
 refine ai ?_;refine bE [7,0,1,2,3,4,5,6,8] [] [] ?_;refine kM ?_;refine cE hd [0,1] [_] [X] rfl HM rfl (Lp hp K) ?_;rintro v W A x R⟨rfl,rfl,rfl⟩;simp only[aN,aM]at x |-;refine kM ?_;refine cE x [0,1] [] [sg pb _,X] rfl kT rfl (kP hr (oV W false)) ?_;rintro v I3 A j g⟨rfl,i⟩;rw[show h.cond.and (.lf false)=ff from Gv hr.1]at i;obtain⟨N,L,rfl⟩:=i.shape2;simp only[aN,aM]at j |-;refine fj ?_;apply aL;refine aW ?_;refine q8 mixed [0,1,2,3,4,5,6,7,8,9,10,11,12,13,14,15,16,17,18,19,20,21,22] [] [] [4] [15,16,18] (sg pb (bN (.slice la Z.length lc) (.slice fa Z.length fc) ov (.slice V e.length U) o)) rfl rfl ?_;refine kM ?_;refine qY (l:=[.slice V e.length U]) rfl (jn j) rfl rfl rfl (dt (by simp[bN]) rfl) (.inr ⟨CM,rfl⟩) ?_;refine fj ?_;refine zd j [0,1] rfl rfl rfl rfl rfl pT (by rfl) (ps:=[]) (F:=[sg pb _,X]) rfl (jn j) (qf i) ?_;rintro v I4 A s d⟨rfl,p⟩;rw[show ff.not=tt from rfl]at p;obtain⟨za,zk,rfl⟩:=p.shape2;simp only[aN,aM]at s |-;refine fj ?_;refine zd s [0,1] rfl rfl rfl rfl rfl kT (by rfl) (ps:=[]) (F:=[sg pb _,X]) rfl (jn s) (kP (hr.le (D g d)) p) ?_;rintro v I5 A w f⟨rfl,n⟩;rw[show h.cond.and tt=h.cond from Gw hr.1]at n;obtain⟨Q,P,rfl⟩:=n.shape2;simp only[aN,aM]at w |-;refine fj ?_;refine im w (by exact mU) rfl rfl rfl rfl rfl af fun nb I6 J c B=>?_;refine fj ?_;refine iV J [1,0] fun u=>?_;obtain⟨xs,t,C⟩:=S
 refine wx (m:=2) u (by exact mU) t rfl rfl rfl rfl rfl rfl (cellsU u (.head _) (bz (l:=[.int .u8 12,.int .i64 h.at',.slice N (T.subs ff).length L,.int .i64 (T.plc (T.subs ff) ff),.int .u8 code,.int .i64 h.at',.slice Q (T.subs h.cond).length P,.int .i64 (T.plc (T.subs h.cond) h.cond)]) B (by simp[av,Value.cells]) (by simp[av,Value.cells]))) rfl rfl O (by unfold maxLen;omega) fun v' I7 D2 H b z=>?_;obtain⟨na,nc,rfl⟩:=z.slice;refine fj ?_;refine iV H [1,0] fun G=>?_;refine cT G rfl rfl rfl rfl rfl rfl (by exact K9) (by simp) fun y=>?_;refine fj ?_;apply aL;refine aW ?_;refine jM rfl y (r:=[]) rfl (D g (D d (D f (D c b)))) ⟨_,D2,[],rfl,⟨_,z.xs (by simp[db]) rfl,?_⟩,rfl⟩;refine LR.app (C.mono fun _ _ h=>bi.le h (D g (D d (D f (D c b))))) ?_;refine LR.app (l:=[_]) (m:=[_]) (LR.one ?_) (LR.one ?_) (xs:=[_,_,_,_]) (ys:=[_,_,_,_])
 .exact⟨N,L,rfl,i.le (D d (D f (D c b)))⟩
 .exact⟨Q,P,rfl,n.le (D c b)⟩
def oz:ax prog 203:=⟨_,func203,rfl,rfl⟩
def yD(pb:Nat)(s:al)(a:Value)(n:Nat)(x:Nat×Value×Value):St:=⟨dn 34 [(0,.v (pt pb)),(2,.v (.string ⟨⟨s⟩⟩)),(7,.v x.2.1),(12,.v a),(13,.v (E n)),(14,.v (E x.1))],[]⟩
def WP(pb:Nat)(lv fv ov:Value)(o:Nat)(hs:List ah)(s:al)(e:List aG)(a:PH)(x:Nat×Value×Value)(H:PH):Prop:=
 ∃I Z A,H=U [I,sg pb (bN lv fv ov x.2.2 o),Z,A]/\Dj [I,sg pb (bN lv fv ov x.2.2 o),Z,A]/\a.le I/\x.1<=hs.length/\bj I Z x.2.2 (e++((hs.take x.1).foldl (fX s) ([],[])).2)/\cU I A x.2.1 ((hs.take x.1).foldl (fX s) ([],[])).1
def dJ.shape{c:List Value}(k:dJ I c h):∃a k,c=[E h.at',sD a k h.cond,rD h.cond,.int .u8 h.kind,.string ⟨⟨h.text⟩⟩]/\bU I (.agg #[sD a k h.cond,rD h.cond]) h.cond:=k
theorem o7{X:PH}{vf:Value}{o:Nat}{f:ad}{s:al}(h:iz I Z lv fv)(hf:bK I vf f)(fn:FN Z.length f)(hs:s≠[])(he:bj I X dv e)(hm:e.length+(Syn.take Z f s).2.length<=lV):
  aT prog 203 #[pt pb,vf,.string ⟨⟨s⟩⟩] I [sg pb (bN lv fv ov dv o),X] (PP pb lv fv ov o (e++(Syn.take Z f s).2) fun v I2 rs=>∃A,rs=[A]/\cU I2 A v (Syn.take Z f s).1):=by
 intro hd;have hl:=h.len;refine aP 34 func203 fun w0=>?_
 try simp only[E,pt]
 refine ai ?_;refine F2 hd [0,1] rfl pS rfl (ps:=[sg pb _]) (F:=[X]) rfl (pV h hf fn) ?_;rintro v I2 qs ac B⟨rfl,hH⟩;obtain⟨ha,hc,rfl,_⟩:=id hH;simp only[aN,aM]at ac |-;refine bF ?_;rw[Fu]at hm |-;have hN:∀x∈ce Z f,dp Z x:=fun x P=>gp h.ok fn P;have a7:=mF h.ok fn;have a4:=hH;generalize ce Z f=d at *;refine dg ac fun a1=>?_;refine aj a1 [1,2,0] fun a0=>?_;refine bY (fun x=>d.length-x.1) (yD pb s (.slice ha d.length hc) d.length) (WP pb lv fv ov o d s e I2) (0,.slice none 0 0,dv) cJ (by simp only[go_sem,Y,yD]) ?_ ?_
 .exact⟨I2,X,PH.no,rfl,a0,aC _,aF _,by simpa using bj.le he B,Ow.nil _ _ _ _⟩
 rintro⟨i,vat,dv⟩ H ⟨I3,D3,A3,rfl,L,q,hi,hE,W⟩ w;simp only at hi hE W;simp only[yD];have a3:fH I3 (.slice ha d.length hc) d:=a4.le q;have T:FN Z.length ((d.take i).foldl (fX s) ([],[])).1:=Li hs fun x P=>hN x (ly P);have ba:=T.len;rcases aI i d.length with Q|a9
 .have V:decide ((i:Int)<(d.length:Int))=true:=by simp;omega
  have e1:=wrap64 (n:=i+1) O;have am:IntKind.i64.wrap ((i:Int)+1)=((i+1:Nat):Int):=by rw[<-e1];congr 1
  obtain⟨x,P⟩:∃x,d[i]?=some x:=⟨_,aZ Q⟩;have an:=cY P;have aa:=hN x an;obtain⟨b,off,cs,rfl,a2,S⟩:=a3.load dJ.len P;obtain⟨xa,xk,rfl,N⟩:=a2;have m:=rC (g:=fX s) (z:=([],[])) P;have C:=DB (g:=fX s) (fun r=>r.2.length) (fun z y=>by unfold fX;split<;>simp) d (i+1) ([],[]);rw[m]at C;refine eb V ?_;refine⟨O,?_⟩;refine X5 (l:=[E x.at',sD xa xk x.cond,rD x.cond,.int .u8 x.kind,.string ⟨⟨x.text⟩⟩]) (v:=.agg #[E x.at',sD xa xk x.cond,rD x.cond,.int .u8 x.kind,.string ⟨⟨x.text⟩⟩]) rfl (cellsU L (.head _) S) (.inl ⟨gm,rfl⟩) ?_;by_cases u:x.text=s
  .have K:(x.text == s)=true:=by simpa using u
   have j:(d.take (i+1)).foldl (fX s) ([],[])=(Syn.join ((d.take i).foldl (fX s) ([],[])).1 (x.at'+1) x.cond,((d.take i).foldl (fX s) ([],[])).2):=by rw[m];simp[fX,u]
   have ap:=aa.lt (.inl (by rw[u];exact hs));have e2:=wrap64 (n:=x.at'+1) O;have a6:IntKind.i64.wrap ((x.at':Int)+1)=((x.at'+1:Nat):Int):=by rw[<-e2];congr 1
   obtain⟨ta,tc,rfl⟩:=W.shape;apply RG;simp only[go_sem,K,E,pt,sD,rD,cP,a6];refine au L [2,0,1] [A3] [sg pb _,D3] rfl jl rfl (jm (a:=x.at'+1) W N T.ok.2 (fun t ht=>by have:=T.le t ht;omega) O O) ?_;rintro v I4 qs G p⟨A4,rfl,U⟩;obtain⟨ta2,tc2,rfl⟩:=U.shape;simp only[aN,aM]at G |-;apply RG;simp only[go_sem,K,E,pt,sD,rD,am];refine aj G [1,2,0] fun aS=>?_;rw[show Syn.join ((d.take i).foldl (fX s) ([],[])).1 (x.at'+1) x.cond=((d.take (i+1)).foldl (fX s) ([],[])).1 from by rw[j]]at U |-;exact w (i+1,.slice ta2 _ tc2,dv) _ _ bh cJ (by simp only[go_sem,Y,yD]) ⟨I4,D3,A4,rfl,aS,D q p,Q,by simp only;rw[j];exact hE.le p,U⟩
  .have K:(x.text == s)=false:=by simpa using u
   have j:(d.take (i+1)).foldl (fX s) ([],[])=(((d.take i).foldl (fX s) ([],[])).1,((d.take i).foldl (fX s) ([],[])).2++db x 10):=by rw[m];simp[fX,u]
   apply RG;simp only[go_sem,K,E,pt,sD,rD,ds];refine au L [0,1,2] [sg pb _,D3] [A3] rfl pR rfl (pO (h.le (D B q)) aa.le N hE (by rw[<-m,j]at C;simp[db]at C |-;omega)) ?_;rintro v I4 qs G p⟨dv2,D4,rs,rfl,a5,rfl⟩;simp only[aN,aM]at G |-;apply RG;simp only[go_sem,K,E,pt,sD,rD,am];exact w (i+1,vat,dv2) _ _ bh cJ (by simp only[go_sem,Y,yD]) ⟨I4,D4,A3,rfl,G,D q p,Q,by simp only;rw[j,<-cq];exact a5,by simp only;rw[j];exact Ow.le (R:=cI) (fun{I J c a} h k=>cI.le h k) W p⟩
 .have aq:i=d.length:=by omega
  subst aq;have V:=Z6 d.length;rw[dO]at hE W;refine eb V ?_;refine az rfl L (r:=[_]) rfl (D B q) ⟨_,D3,[A3],rfl,hE,A3,rfl,W⟩
def oA:ax prog 221:=⟨_,func221,rfl,rfl⟩
def HZ:ax prog 259:=⟨_,func259,rfl,rfl⟩
def nB:ax prog 260:=⟨_,func260,rfl,rfl⟩
def oB:ax prog 262:=⟨_,func262,rfl,rfl⟩
def Qe:ax prog 290:=⟨_,func290,rfl,rfl⟩
def Iv{H:PH}{s:al}:br prog 259 #[.string ⟨⟨s⟩⟩] H fun v H2=>v=.bool (fy s)/\H2=H:=by
 refine aP 18 func259 fun w0=>?_;cases h0:(s == [118,97,114])
 rotate_left
 .apply RG;simp only[go_sem,h0];exact aU (r:=[.bool true]) rfl ⟨by rw[show fy s=true from by rw[eq_of_beq h0];decide];rfl,rfl⟩
 cases h1:(s == [102,110])
 rotate_left
 .apply RG;simp only[go_sem,h0,h1];exact aU (r:=[.bool true]) rfl ⟨by rw[show fy s=true from by rw[eq_of_beq h1];decide];rfl,rfl⟩
 cases h2:(s == [105,110,116])
 rotate_left
 .apply RG;simp only[go_sem,h0,h1,h2];exact aU (r:=[.bool true]) rfl ⟨by rw[show fy s=true from by rw[eq_of_beq h2];decide];rfl,rfl⟩
 cases h3:(s == [98,111,111,108])
 rotate_left
 .apply RG;simp only[go_sem,h0,h1,h2,h3];exact aU (r:=[.bool true]) rfl ⟨by rw[show fy s=true from by rw[eq_of_beq h3];decide];rfl,rfl⟩
 cases h4:(s == [105,102])
 rotate_left
 .apply RG;simp only[go_sem,h0,h1,h2,h3,h4];exact aU (r:=[.bool true]) rfl ⟨by rw[show fy s=true from by rw[eq_of_beq h4];decide];rfl,rfl⟩
 cases h5:(s == [101,108,115,101])
 rotate_left
 .apply RG;simp only[go_sem,h0,h1,h2,h3,h4,h5];exact aU (r:=[.bool true]) rfl ⟨by rw[show fy s=true from by rw[eq_of_beq h5];decide];rfl,rfl⟩
 cases h6:(s == [119,104,105,108,101])
 rotate_left
 .apply RG;simp only[go_sem,h0,h1,h2,h3,h4,h5,h6];exact aU (r:=[.bool true]) rfl ⟨by rw[show fy s=true from by rw[eq_of_beq h6];decide];rfl,rfl⟩
 cases c:(s == [114,101,116,117,114,110])
 rotate_left
 .apply RG;simp only[go_sem,h0,h1,h2,h3,h4,h5,h6,c];exact aU (r:=[.bool true]) rfl ⟨by rw[show fy s=true from by rw[eq_of_beq c];decide];rfl,rfl⟩
 cases e:(s == [112,114,105,110,116])
 rotate_left
 .apply RG;simp only[go_sem,h0,h1,h2,h3,h4,h5,h6,c,e];exact aU (r:=[.bool true]) rfl ⟨by rw[show fy s=true from by rw[eq_of_beq e];decide];rfl,rfl⟩
 cases f:(s == [97,115,115,101,114,116])
 rotate_left
 .apply RG;simp only[go_sem,h0,h1,h2,h3,h4,h5,h6,c,e,f];exact aU (r:=[.bool true]) rfl ⟨by rw[show fy s=true from by rw[eq_of_beq f];decide];rfl,rfl⟩
 cases a:(s == [116,114,117,101])
 rotate_left
 .apply RG;simp only[go_sem,h0,h1,h2,h3,h4,h5,h6,c,e,f,a];exact aU (r:=[.bool true]) rfl ⟨by rw[show fy s=true from by rw[eq_of_beq a];decide];rfl,rfl⟩
 cases b:(s == [102,97,108,115,101])
 rotate_left
 .apply RG;simp only[go_sem,h0,h1,h2,h3,h4,h5,h6,c,e,f,a,b];exact aU (r:=[.bool true]) rfl ⟨by rw[show fy s=true from by rw[eq_of_beq b];decide];rfl,rfl⟩
 cases d:(s == [114,101,97,100])
 rotate_left
 .apply RG;simp only[go_sem,h0,h1,h2,h3,h4,h5,h6,c,e,f,a,b,d];exact aU (r:=[.bool true]) rfl ⟨by rw[show fy s=true from by rw[eq_of_beq d];decide];rfl,rfl⟩
 apply RG;simp only[go_sem,h0,h1,h2,h3,h4,h5,h6,c,e,f,a,b,d];exact aU (r:=[.bool false]) rfl ⟨by rw[show fy s=false from by simp only[fy,List.contains_cons,mX,tz,nZ,nY,eG,iQ,tF,tE,tC,jF,o6,qD,tD,h0,h1,h2,h3,h4,h5,h6,c,e,f,a,b,d,Bool.or_self];rfl];rfl,rfl⟩
def wU{X:PH}{k:Nat}(hp:iz I Z lv fv)(d:h.at'<=Z.length)(hr:bU I (.agg #[sD a k h.cond,rD h.cond]) h.cond)(m:bj I X dv e)(j:e.length+2<=lV):
  aT prog 262 #[pt pb,g8 a k h] I [sg pb (bN lv fv ov dv 64),X] (PP pb lv fv ov 64 (e++db h 11) fun v s g=>g=[]/\v=.bool false):=by
 intro hd;refine aP 20 func262 fun w0=>?_
 try simp only[E,pt,g8]
 refine ai ?_;refine X5 (l:=[.int .i64 64]) rfl (cellsU hd (.tail _ (.head _)) (dt (by simp[bN]) rfl)) (.inr ⟨fI,rfl⟩) ?_;apply RG;simp only[go_sem,E,pt,BEq.rfl];refine au hd [0,1] [sg pb _,X] [] rfl pR rfl (pO hp d hr m j) ?_;rintro v q p c b⟨n,o,g,rfl,f,rfl⟩;simp only[aN,aM,Y]at c |-;refine dI ?_;exact az rfl c (r:=[_]) rfl b ⟨_,o,[],rfl,f,rfl,rfl⟩
def wV{k o:Nat}(g:o<64):
  aT prog 262 #[pt pb,g8 a k h] I [sg pb (bN lv fv ov dv o)] fun v f d=>d=[sg pb (bN lv fv ov dv (o+1))]/\f=I/\v=.bool true:=by
 intro hd;have e:((o:Int) == 64)=false:=by simp;omega
 have e1:=wrap64 (n:=o+1) O;have c:IntKind.i64.wrap ((o:Int)+1)=((o+1:Nat):Int):=by rw[<-e1];congr 1
 refine aP 20 func262 fun w0=>?_
 try simp only[E,pt,g8]
 refine ai ?_;refine X5 (l:=[.int .i64 o]) rfl (cellsU hd (.tail _ (.head _)) (dt (by simp[bN]) rfl)) (.inr ⟨fI,rfl⟩) ?_;refine eb e ?_;refine X5 (l:=[.int .i64 o]) rfl (cellsU hd (.tail _ (.head _)) (dt (by simp[bN]) rfl)) (.inr ⟨fI,rfl⟩) ?_;refine eb c ?_;refine kK hd rfl rfl rfl rfl rfl (by exact r9) (by simp) fun b=>?_;refine dI ?_;exact az rfl b (r:=[_]) rfl (aC _) ⟨rfl,rfl,rfl⟩
def mn(I:PH)(v:Value)(is:ah->Bool):Prop:=∃f first cap,v=.func (.func f) first cap/\ax prog f/\∀J,I.le J->∀(h:ah) (a:Option Addr) (k:Nat),bU J (.agg #[sD a k h.cond,rD h.cond]) h.cond->aT prog f (first++[g8 a k h].toArray++cap) J [] fun v c b=>b=[]/\v=.bool (is h)
def mn.le{is:ah->Bool}(h:mn I v is)(c:I.le J):mn J v is:=by obtain⟨f,a,b,e,g,k⟩:=h;exact⟨f,a,b,e,g,fun K d=>k K (D c d)⟩
def WJ{H:PH}{b:Nat}{s:al}(hb:aX H b 0 [.string ⟨⟨s⟩⟩]){k:Nat}:br prog 290 #[g8 a k h,pt b] H fun v H2=>v=.bool (bg s h)/\H2=H:=by
 refine aP 8 func290 fun w0=>?_
 try simp only[g8,E,pt]
 refine ai ?_;refine X5 (l:=[.string ⟨⟨s⟩⟩]) rfl hb (.inr ⟨gM,rfl⟩) ?_;refine dI ?_;refine aU (r:=[.bool (h.text == s)]) rfl ⟨?_,rfl⟩;show Value.bool (h.text == s)=Value.bool (bg s h);unfold bg;congr 1;by_cases e:h.text=s
 .subst e;simp
 .simp[e]
def n6{s:al}:aT prog 260 #[.string ⟨⟨s⟩⟩] I [] fun v i j=>j=[]/\mn i v (bg s):=by intro hd;refine aP 4 func260 fun w0=>?_;apply cD 4;simp only[go_sem];refine jL 1 hd rfl fun b f=>?_;refine aH (c:=.st _) f fun i e d g=>?_;apply RG;simp only[go_sem,iN,List.map];refine az rfl e (r:=[.func (.func 290) #[] #[pt b]]) rfl d ⟨rfl,290,#[],#[pt b],rfl,Qe,fun J l h a k hr=>br.toI ((WJ (H:=J) (b:=b) (s:=s) ?_).mono fun v H2 ⟨e1,e2⟩=>⟨by rw[e2];exact aC _,e1⟩)⟩;exact((dt (by simp) rfl:aX (sg b (.cells [Value.string ⟨⟨s⟩⟩].toArray 9 (0,0))) b 0 [.string ⟨⟨s⟩⟩]).le g).le l
def yl(pb:Nat)(vi:Value)(a:Value)(n:Nat)(x:Nat×Value×Value):St:=⟨dn 34 [(0,.v (pt pb)),(2,.v vi),(6,.v x.2.1),(7,.v x.2.2),(12,.v a),(13,.v (E n)),(14,.v (E x.1))],[]⟩
abbrev sI(I A:PH)(v:Value)(l:List ah):Prop:=Ow dJ 227 5 I A v l
def VZ(pb:Nat)(a:Obj)(hs:List ah)(is:ah->Bool)(b:PH)(x:Nat×Value×Value)(H:PH):Prop:=
 ∃I A B,H=U [I,sg pb a,A,B]/\Dj [I,sg pb a,A,B]/\b.le I/\x.1<=hs.length/\sI I A x.2.1 ((hs.take x.1).foldl (hQ is) ([],[])).1/\cU I B x.2.2 ((hs.take x.1).foldl (hQ is) ([],[])).2
def cU.le{A:PH}{l:ad}(h:cU I A v l)(b:I.le J):cU J A v l:=Ow.le (R:=cI) (fun{I J c a} h k=>cI.le h k) h b
def sI.le{A:PH}{l:List ah}(h:sI I A v l)(b:I.le J):sI J A v l:=Ow.le (R:=dJ) (fun{I J c a} h k=>dJ.le h k) h b
theorem oZ{vf vi:Value}{o:Nat}{f:ad}{is:ah->Bool}(h:iz I Z lv fv)(hf:bK I vf f)(fn:FN Z.length f)(hi:mn I vi is):
  aT prog 221 #[pt pb,vf,vi] I [sg pb (bN lv fv ov dv o)] fun v I2 qs=>∃A B va vb,qs=[sg pb (bN lv fv ov dv o),A,B]/\v=.tuple #[va,vb]/\sI I2 A va (bM Z f is).1/\cU I2 B vb (bM Z f is).2:=by
 intro hd;have hl:=h.len;refine aP 34 func221 fun w0=>?_
 try simp only[E,pt]
 refine ai ?_;refine F2 hd [0] rfl pS rfl (ps:=[sg pb _]) (F:=[]) rfl (pV h hf fn) ?_;rintro v I2 qs an J⟨rfl,hH⟩;obtain⟨ha,hc,rfl,_⟩:=id hH;simp only[aN,aM]at an |-;refine bF ?_;rw[KN];have hN:∀x∈ce Z f,dp Z x:=fun x K=>gp h.ok fn K;have bx:=mF h.ok fn;have bb:=hH;generalize ce Z f=c at *;refine dg an fun a7=>?_;refine dg a7 fun a6=>?_;refine aj a6 [2,0,1] fun a5=>?_;refine bY (fun x=>c.length-x.1) (yl pb vi (.slice ha c.length hc) c.length) (VZ pb (bN lv fv ov dv o) c is I2) (0,.slice none 0 0,.slice none 0 0) cJ (by simp only[go_sem,Y,yl]) ?_ ?_
 .exact⟨I2,PH.no,PH.no,rfl,a5,aC _,aF _,Ow.nil _ _ _ _,Ow.nil _ _ _ _⟩
 rintro⟨i,va,vb⟩ H ⟨I3,A3,B3,rfl,Q,j,a4,hA,hB⟩ u;simp only at a4 hA hB;simp only[yl];have ba:fH I3 (.slice ha c.length hc) c:=bb.le j;have U:FN Z.length ((c.take i).foldl (hQ is) ([],[])).2:=KL fun x K=>hN x (ly K);have b1:=U.len;rcases aI i c.length with L|b0
 .have G:decide ((i:Int)<(c.length:Int))=true:=by simp;omega
  have e1:=wrap64 (n:=i+1) O;have aq:IntKind.i64.wrap ((i:Int)+1)=((i+1:Nat):Int):=by rw[<-e1];congr 1
  obtain⟨x,K⟩:∃x,c[i]?=some x:=⟨_,aZ L⟩;have aS:=cY K;have a1:=hN x aS;obtain⟨b,off,cs,rfl,a9,R⟩:=ba.load dJ.len K;obtain⟨X,W,rfl,s⟩:=a9;have q:=rC (g:=hQ is) (z:=([],[])) K;obtain⟨fi,first,cap,rfl,gi,ci⟩:=id hi;have bc:=KM (is:=is) (c.take i) ([],[]);simp only[bo,lw]at bc;refine eb G ?_;refine⟨O,?_⟩;refine X5 (l:=[E x.at',sD X W x.cond,rD x.cond,.int .u8 x.kind,.string ⟨⟨x.text⟩⟩]) (v:=.agg #[E x.at',sD X W x.cond,rD x.cond,.int .u8 x.kind,.string ⟨⟨x.text⟩⟩]) rfl (cellsU Q (.head _) R) (.inl ⟨gm,rfl⟩) ?_;refine dB G ?_;refine au Q [0,1,2] [] [sg pb _,A3,B3] rfl gi rfl (ci I3 (D J j) x X W s) ?_;rintro v I4 qs P e⟨rfl,rfl⟩;simp only[aN,aM]at P |-;cases w:is x
  .have d:(c.take (i+1)).foldl (hQ is) ([],[])=(((c.take i).foldl (hQ is) ([],[])).1,Syn.join ((c.take i).foldl (hQ is) ([],[])).2 x.at' x.cond):=by rw[q];simp[hQ,w]
   obtain⟨ta,tc,rfl⟩:=hB.shape;have a0:=a1.le;refine dB w ?_;refine au P [2,0,1] [B3] [sg pb _,A3] rfl jl rfl (jm (a:=x.at') (hB.le e) (s.le e) U.ok.2 (fun t ht=>by have:=U.le t ht;omega) O O) ?_;rintro v I5 qs C k⟨B4,rfl,V⟩;obtain⟨ta2,tc2,rfl⟩:=V.shape;simp only[aN,aM]at C |-;refine dB aq ?_;refine aj C [1,2,0] fun y=>?_;rw[show Syn.join ((c.take i).foldl (hQ is) ([],[])).2 x.at' x.cond=((c.take (i+1)).foldl (hQ is) ([],[])).2 from by rw[d]]at V |-;exact u (i+1,va,.slice ta2 _ tc2) _ _ bh cJ (by simp only[go_sem,Y,yl]) ⟨I5,A3,B4,rfl,y,D j (D e k),L,by simp only;rw[d];exact hA.le (D e k),V⟩
  .have d:(c.take (i+1)).foldl (hQ is) ([],[])=(((c.take i).foldl (hQ is) ([],[])).1++[x],((c.take i).foldl (hQ is) ([],[])).2):=by rw[q];simp[hQ,w]
   obtain⟨ta,tc,rfl⟩:=hA.shape;refine dB w ?_;refine cH P (by exact r0) rfl rfl rfl rfl rfl af fun nb I8 C k a2=>?_;refine aW ?_;refine aj C [1,0,2] fun y=>?_;obtain⟨bs,S,am⟩:=hA;refine ni (m:=1) y (by exact r0) S rfl rfl rfl rfl (cellsU y (.head _) (bz (l:=[E x.at',.slice X (T.subs x.cond).length W,E (T.plc (T.subs x.cond) x.cond),.int .u8 x.kind,.string ⟨⟨x.text⟩⟩]) a2 (by simp[av,Value.cells]) (by simp[av,Value.cells,E]))) rfl rfl O (by unfold maxLen;omega) fun v' I9 A2 ac N ap=>?_;obtain⟨na,nc,rfl⟩:=ap.slice;refine eb aq ?_;refine aj ac [1,0,2] fun aa=>?_;have p:=D e (D k N);refine u (i+1,.slice na (((c.take i).foldl (hQ is) ([],[])).1.length+1) nc,vb) _ _ bh cJ (by simp only[go_sem,Y,yl]) ⟨I9,A2,B3,rfl,aa,D j p,L,⟨bs++[E x.at',.slice X (T.subs x.cond).length W,E (T.plc (T.subs x.cond) x.cond),.int .u8 x.kind,.string ⟨⟨x.text⟩⟩],?_,?_⟩,by simp only;rw[d];exact hB.le p⟩
   .simp only;rw[d];simp only[aE,gy];exact ap
   .simp only;rw[d];exact LR.app (am.mono fun _ _ h=>dJ.le h p) (.one ⟨X,W,rfl,s.le p⟩)
 .have a3:i=c.length:=by omega
  subst a3;have G:=Z6 c.length;rw[dO]at hA hB;refine eb G ?_;exact az rfl Q (r:=[va,vb]) rfl (D J j) ⟨A3,B3,va,vb,rfl,rfl,hA,hB⟩
end Go.Proofs.YtfaclfkpnmcmlaaGreatDoor
