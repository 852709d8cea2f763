import Derived.Test.YtfaclfkpnmcmlaaGreatDoorG04
import Derived.Test.YtfaclfkpnmcmlaaGreatDoorG10
set_option maxHeartbeats 8000000
set_option linter.all false
open Go.Proofs.Tryz
namespace Go.Proofs.YtfaclfkpnmcmlaaGreatDoor
open Go Go.Sx Dg
theorem mixed:prog.follows .mixedOrders=true:=ah
def yq:ay prog 125:=⟨_,func125,rfl,rfl⟩
def CR{a b:Nat}(h:E a=E b):a=b:=by simp[E]at h;omega
def NC{a b:Nat×Nat×Nat}(h:cT a=cT b):a=b:=by obtain⟨a1,a2,a3⟩:=a;obtain⟨b1,b2,b3⟩:=b;simp[cT,E]at h;obtain⟨h1,h2,h3⟩:=h;rw[Int.ofNat.inj h1,Int.ofNat.inj h2,Int.ofNat.inj h3]
variable{u:Value}{i:Nat}{ms:List T}
def CV(s:T.Seq ms){lo hi:T}(e:T.isIn ms lo)(g:T.isIn ms hi):vu ms (cT (i,T.plc ms lo,T.plc ms hi)) u<->T.nd i lo hi∈ms/\u=E (T.plc ms (.nd i lo hi)):=by
 constructor
 .rintro⟨t,ht,k,e2⟩;obtain⟨j,f⟩:=List.mem_iff_getElem?.1 ht;obtain⟨v,l,h,rfl,_⟩:=s.2 j t f;have:=NC k;simp only[T.dec,eL]at this;obtain⟨rfl,b,c⟩:=this;have d:=s.kids ht;rw[T.plc_inj e d.1 b,T.plc_inj g d.2 c];exact⟨ht,e2⟩
 .rintro⟨a,b⟩;exact⟨_,a,rfl,b⟩
def R4(s:T.Seq ms){lo hi:T}(d:T.isIn ms lo)(f:T.isIn ms hi)(c:T.nd i lo hi∉ms)(y u:Value):
  vu (ms++[.nd i lo hi]) y u<->(y=cT (i,T.plc ms lo,T.plc ms hi)/\u=E (ms.length+2))\/(y≠cT (i,T.plc ms lo,T.plc ms hi)/\vu ms y u):=by
 have a:∀t∈ms,T.isIn ms t:=fun t ht=>by obtain⟨j,g⟩:=List.mem_iff_getElem?.1 ht;obtain⟨v,l,h,rfl,_⟩:=s.2 j t g;exact ht
 have new:T.dec (ms++[.nd i lo hi]) (.nd i lo hi)=(i,T.plc ms lo,T.plc ms hi)/\T.plc (ms++[.nd i lo hi]) (.nd i lo hi)=ms.length+2:=by refine⟨by simp[T.dec,T.plc_app d,T.plc_app f],?_⟩;simp only[T.plc];rw[List.idxOf_append,ad c];simp
 unfold vu;constructor
 .rintro⟨t,ht,b,e2⟩;rcases List.mem_append.1 ht with h|h
  .rw[T.dec_app s (a t h)]at b;rw[T.plc_app (a t h)]at e2;refine .inr ⟨fun e=>?_,t,h,b,e2⟩;exact c ((CV s d f (u:=u)).1 ⟨t,h,e▸b,e2⟩).1
  .simp at h;subst h;rw[new.1]at b;rw[new.2]at e2;exact .inl ⟨b,e2⟩
 .rintro(⟨b,e2⟩|⟨_,t,h,b,e2⟩)
  .exact⟨_,eo _ (.head _),by rw[new.1];exact b,by rw[new.2];exact e2⟩
  .exact⟨t,dk _ h,by rw[T.dec_app s (a t h)];exact b,by rw[T.plc_app (a t h)];exact e2⟩
theorem wrap64{n:Nat}(h:n<2^62):IntKind.i64.wrap (n:Int)=(n:Int):=by have h1:(n:Int) % (2^64:Int)=n:=rz O O;simp only[IntKind.wrap,show IntKind.bits .i64=64 from rfl,show IntKind.signed .i64=true from rfl,h1];rw[ad];simp;omega
theorem Z7(i:Nat)(h:i+1<2^62:=by omega):IntKind.i64.wrap ((i:Int)+1)=((i+1:Nat):Int):=by rw[<-wrap64 (n:=i+1) h];congr 1
variable{ps:List PH}{I:PH}{mb:Nat}
def zf(h:mY mb ms ps){lo hi:T}(q:i<24)(z:lo.ok (i+1))(B:hi.ok (i+1))(f:T.isIn ms lo)(g:T.isIn ms hi)(R:ms.length<2^30):
  aI prog 125 #[pt mb,E i,E (T.plc ms lo),E (T.plc ms hi)] I ps fun v I2 qs=>∃us,mY mb (ms++us) qs/\us.length<=1/\T.isIn (ms++us) (T.mk i lo hi)/\v=E (T.plc (ms++us) (T.mk i lo hi)):=by
 intro hd;obtain⟨A,sv,r,M,rfl,P,x,sq⟩:=h;have Z:=T.plc_lt f;have ph:=T.plc_lt g;refine fq func125 rfl (by simp[ntmps125]) fun w0=>?_;simp only[ntmps125,pt,E];by_cases e:T.plc ms lo=T.plc ms hi
 .have e':=T.plc_inj f g e;subst e';have k:((T.plc ms lo:Int) == (T.plc ms lo:Int))=true:=ai;refine db k ?_;refine ao rfl hd (r:=[_]) rfl (ax _) ⟨[],?_,by simp,?_,?_⟩
  .rw[ab];exact⟨A,sv,r,M,rfl,P,x,sq⟩
  .rw[ab];simp only[T.mk,cY];exact f
  .simp[T.mk,bT,E]
 .have c:¬lo=hi:=fun e2=>e (by rw[e2]);have k:((T.plc ms lo:Int) == (T.plc ms hi:Int))=false:=by simp;omega
  refine db k ?_;refine jI mixed [0,1,2,3,4,5,6,7,8,9,10] [3,5] [] rfl rfl ?_;refine dB ?_;refine Xc (l:=[_]) rfl (cellsU hd (.tail _ (.tail _ (.head _))) (gX ai rfl)) (.inr ⟨Bk,rfl⟩) ?_;refine dB ?_;have t:=x.atU hd ai;have d:dQ prog 181 (cT (i,T.plc ms lo,T.plc ms hi)):=RN O O O;by_cases a:T.nd i lo hi∈ms
  .refine xm AM CP mT (key:=cT (i,T.plc ms lo,T.plc ms hi)) rfl rfl rfl rfl rfl t d (E (T.plc ms (.nd i lo hi))) true (.inl ⟨rfl,(CV sq f g).2 ⟨a,rfl⟩⟩) ?_;refine dB ?_;apply an;refine af ?_;refine ao rfl hd (r:=[_]) rfl (ax _) ⟨[],?_,by simp,?_,?_⟩
   .rw[ab];exact⟨A,sv,r,M,rfl,P,x,sq⟩
   .rw[ab];simp only[T.mk,ad c];exact a
   .rw[ab];simp only[T.mk,ad c];rfl
  .refine xm AM CP mT (key:=cT (i,T.plc ms lo,T.plc ms hi)) rfl rfl rfl rfl rfl t d (E 0) false (.inr ⟨rfl,rfl,fun u V=>a ((CV sq f g).1 V).1⟩) ?_;refine dB ?_;apply an;refine af ?_;refine jI mixed [0,1,2,3,4,5,6,7,8,9,10] [4] [6] rfl rfl ?_;refine dB ?_;refine Xc (l:=[_]) rfl (cellsU hd (.tail _ (.tail _ (.head _))) (gX ai rfl)) (.inr ⟨oR,rfl⟩) ?_;refine dB ?_;refine lV hd zO rfl rfl rfl rfl rfl aR fun b I2 s p hb=>?_;refine AT (m:=1) s zO P rfl rfl rfl rfl rfl rfl (cellsU s (.head _) (bD (l:=gi (i,T.plc ms lo,T.plc ms hi)) hb (by simp[gi,aD,Value.cells]) (by simp[gi,aD,Value.cells,E]))) rfl rfl O (by unfold maxLen;omega) fun X S Q L o w=>?_;obtain⟨a3,c3,rfl⟩:=w.slice;refine dB ?_;refine gw L [1,0,2] fun K=>?_;refine cg K rfl rfl rfl rfl rfl rfl Ef ai fun J=>?_;apply an;have j:Dj [S,sg mb (.cells #[.slice a3 (ms.length+1) c3,.map (some r)] 300 (0,0)),Q,M]:=J;show RC _ _ _ (U [S,sg mb (.cells #[.slice a3 (ms.length+1) c3,.map (some r)] 300 (0,0)),Q,M]);refine af ?_;refine Xb (l:=[_]) rfl (cellsU j (.tail _ (.head _)) (gX ai rfl)) (.inr ⟨oR,rfl⟩) ?_;have hw:IntKind.i64.wrap (((ms.length+1:Nat):Int)+1)=((ms.length+2:Nat):Int):=by have:=wrap64 (n:=ms.length+2) O;rw[<-this];congr 1
   refine db hw ?_;refine jI mixed [0,1,2,3,4,5,6] [3] [] rfl rfl ?_;refine dB ?_;refine Xc (l:=[_]) rfl (cellsU j (.tail _ (.head _)) (gX ai rfl)) (.inr ⟨Bk,rfl⟩) ?_;refine dB ?_;refine gw j [2,0,1] fun H=>?_;refine AW (by exact AM) (by exact CP) (key:=cT (i,T.plc ms lo,T.plc ms hi)) (v:=E (ms.length+2)) H rfl rfl rfl (.inl rfl) rfl rfl rfl x d fun W G N=>?_;apply an;refine af ?_;refine bq G [2,1,0] fun F=>?_;have D:(T.nd i lo hi).ok 0:=⟨bg _,q,c,z,B⟩;have C:T.plc (ms++[.nd i lo hi]) (.nd i lo hi)=ms.length+2:=by simp only[T.plc];rw[List.idxOf_append,ad a];simp
   refine ao rfl F (r:=[_]) rfl (Y p o) ⟨[.nd i lo hi],⟨Q,.slice a3 (ms.length+1) c3,r,W,rfl,w.xs ai (JX sq f g).symm,N.congr fun y u=>R4 sq f g a y u,sq.snoc D f g a⟩,by simp,?_,?_⟩
   .simp only[T.mk,ad c];show T.nd i lo hi∈_;simp
   .simp only[T.mk,ad c,C];rfl
def Dh(I:PH):aI prog 124 #[] I [] fun v I2 qs=>∃mb,v=pt mb/\mY mb [] qs:=by intro hd;refine fq func124 rfl (by simp[ntmps124]) fun w0=>?_;simp only[ntmps124];refine af ?_;refine AR 181 hd rfl rfl fun r M c d=>?_;refine af ?_;refine jE 3 c rfl fun mb b=>?_;refine dR b fun a=>?_;refine ao rfl a (r:=[_]) rfl (ax _) ⟨mb,rfl,PH.no,.slice none 0 0,r,M,rfl,cZ.nil _ _,d.congr fun y u=>⟨fun⟨t,h,_⟩=>(by simp at h),fun h=>h.elim⟩,T.Seq.nil⟩
def jc(I:PH)(sl:Value)(ts:List T):Prop:=∃a c,sl=.slice a ts.length c/\(ts=[]\/∃b,a=some ⟨b,0,none⟩/\aX I b 0 (iM ts))
variable{ts:List T}{J:PH}
def jc.le{sl:Value}(h:jc I sl ts)(d:I.le J):jc J sl ts:=by obtain⟨a,c,e,h⟩:=h;exact⟨a,c,e,h.imp id fun⟨b,f,e2⟩=>⟨b,f,e2.le d⟩⟩
def bO(I:PH)(v:Value)(t:T):Prop:=t.ok 0/\∃sl,v=.agg #[sl,E (T.plc (T.subs t) t)]/\jc I sl (T.subs t)
variable{t:T}{v:Value}
def bO.le(h:bO I v t)(b:I.le J):bO J v t:=by obtain⟨a,sl,e,h⟩:=h;exact⟨a,sl,e,h.le b⟩
def Fq{H:PH}{sl rv:Value}(m:jc H sl ts)(sq:T.Seq ts)(ht:T.isIn ts t)(i:ts.length<2^40):
  aJ prog 236 #[.agg #[sl,rv],E (T.plc ts t)] H fun v H2=>v=cT (T.dec ts t)/\H2=H:=by
 obtain⟨a,c,rfl,e⟩:=m;refine fq func236 rfl (by simp[ntmps236]) fun w0=>?_;simp only[ntmps236,E];cases t with
 |lf b=>
  have f:decide (((T.plc ts (.lf b):Nat):Int)<2)=true:=by simp only[T.plc];split<;>simp
  refine db f ?_;refine au (r:=[.agg #[.int .i64 24,.int .i64 (T.plc ts (.lf b):Nat),.int .i64 (T.plc ts (.lf b):Nat)]]) (by simp only[results236,go_sem]) ⟨?_,rfl⟩;simp only[bT,cT,T.dec,T.plc,E];cases b<;>rfl
 |nd v l h=>
  have hm:T.nd v l h∈ts:=ht;have hi:=rB hm;have hp:T.plc ts (.nd v l h)=ts.idxOf (.nd v l h)+2:=rfl;have f:decide (((T.plc ts (.nd v l h):Nat):Int)<2)=false:=by rw[hp];simp;omega
  have g:IntKind.i64.wrap (((T.plc ts (.nd v l h):Nat):Int)-2)=((ts.idxOf (.nd v l h):Nat):Int):=by rw[<-wrap64 (n:=ts.idxOf (.nd v l h)) O,hp];congr 1;omega
  rcases e with rfl|⟨b,rfl,e⟩
  .simp at hm
  .refine je f g ?_;refine⟨⟨O,O⟩,?_⟩;have j:=T.plc_get hm;rw[hp,rG]at j;have k:(iM ts).length=ts.length*3:=rp ts;have d:=e.sub (ts.idxOf (.nd v l h)*3) 3 O;rw[rn j,eR]at d;refine Xb (l:=gi (T.dec ts (.nd v l h))) (v:=cT (T.dec ts (.nd v l h))) rfl d (.inl ⟨l7,rfl⟩) ?_;apply RG;simp only[go_sem,cT,E];refine au (r:=[cT (T.dec ts (.nd v l h))]) (by simp only[results236,go_sem,cT,E]) ⟨rfl,rfl⟩
def K3:Maps.Keyed prog 3:=Maps.int_keyed lM
def yM{n:Nat}(h:n<2^62):dQ prog 3 (E n):=⟨_,Maps.keyOf_int_mk lM (tK h)⟩
def Cv:ay prog 189:=⟨_,func189,rfl,rfl⟩
def vQ(ms us:List T)(y u:Value):Prop:=∃t,T.isIn ms t/\T.isIn us t/\y=E (T.plc ms t)/\u=E (T.plc us t)
variable{us:List T}
def Dw(ht:T.isIn ms t):vQ ms us (E (T.plc ms t)) u<->T.isIn us t/\u=E (T.plc us t):=by
 constructor
 .rintro⟨d,h1,h2,h3,c⟩;have:=T.plc_inj ht h1 (CR h3);subst this;exact⟨h2,c⟩
 .rintro⟨a,b⟩;exact⟨t,ht,a,rfl,b⟩
def QW(s:T.Seq us)(ht:t∈us):T.isIn us t:=by obtain⟨j,a⟩:=List.mem_iff_getElem?.1 ht;obtain⟨v,l,h,rfl,_⟩:=s.2 j t a;exact ht
def Dx{v:Nat}{l h:T}(a:T.nd v l h∉us):T.plc (us++[.nd v l h]) (.nd v l h)=us.length+2:=by simp only[T.plc];rw[List.idxOf_append,ad a];simp
def yJ{v:Nat}{l h:T}:T.isIn (us++[.nd v l h]) t<->T.isIn us t\/t=.nd v l h:=by
 cases t with
 |lf b=>simp[T.isIn]
 |nd a l' c=>simp[T.isIn]
def TJ{v:Nat}{l h:T}(a:T.isIn ms (.nd v l h))(b:T.nd v l h∉us)(y u:Value):
  vQ ms (us++[.nd v l h]) y u<->(y=E (T.plc ms (.nd v l h))/\u=E (us.length+2))\/(y≠E (T.plc ms (.nd v l h))/\vQ ms us y u):=by
 constructor
 .rintro⟨t,h1,h2,rfl,rfl⟩;rcases yJ.1 h2 with h3|rfl
  .refine .inr ⟨fun e=>?_,t,h1,h3,rfl,by rw[T.plc_app h3]⟩;have:=T.plc_inj h1 a (CR e);subst this;exact b h3
  .exact .inl ⟨rfl,by rw[Dx b]⟩
 .rintro(⟨rfl,rfl⟩|⟨_,t,h1,h2,rfl,rfl⟩)
  .exact⟨_,a,yJ.2 (.inr rfl),rfl,by rw[Dx b]⟩
  .exact⟨t,h1,yJ.2 (.inl h2),rfl,by rw[T.plc_app h2]⟩
def yf(pb tb vb ob:Nat):Value:=.func (.func 189) #[] #[pt pb,pt tb,pt vb,pt ob]
structure ul(I:PH)(pb tb vb ob mb r:Nat)(ms:List T):Prop where
 hp:I pb=some (.cells #[.map (some r)] 301 (0,0))
 ht:I tb=some (.cells #[pt mb] 217 (0,0))
 hv:I vb=some (.cells #[yf pb tb vb ob] 302 (0,0))
 hm:∃slv m,I mb=some (.cells #[slv,m] 300 (0,0))/\jc I slv ms
 sq:T.Seq ms
 len:ms.length<2^30
def ul.le{pb tb vb ob r:Nat}(h:ul I pb tb vb ob mb r ms)(e:I.le J):ul J pb tb vb ob mb r ms:=
 ⟨e _ _ h.hp,e _ _ h.ht,e _ _ h.hv,let ⟨a,b,c,d⟩:=h.hm;⟨a,b,e _ _ c,d.le e⟩,h.sq,h.len⟩
def Bf(ob r:Nat)(ms us:List T)(qs:List PH):Prop:=∃A sv M,qs=[A,sg ob (.cells #[sv] 48 (0,0)),M]/\cZ A 181 3 sv us.length (iM us)/\ip prog M r 3 (vQ ms us)/\T.Seq us
def Wn{pb tb vb ob r:Nat}(t:T):∀{k:Nat} {us:List T} {I:PH} {ps:List PH},t.ok k->k<=24->T.isIn ms t->ul I pb tb vb ob mb r ms->Bf ob r ms us ps->us.length+2^(24-k)<=2^30->
  aI prog 189 #[E (T.plc ms t),pt pb,pt tb,pt vb,pt ob] I ps fun v I2 qs=>Bf ob r ms (t.vis us) qs/\v=E (T.plc (t.vis us) t):=by
 induction t with
 |lf x=>intro k us I ps G q c f hP P hd;obtain⟨A,sv,M,rfl,V,C,sq⟩:=hP;refine fq func189 rfl (by simp[ntmps189]) fun w0=>?_;simp only[ntmps189,pt,E];refine af ?_;refine Xb (l:=[_]) rfl (cellsU hd (.head _) (bD f.hp ai rfl)) (.inr ⟨xv,rfl⟩) ?_;refine af ?_;refine tW (by exact K3) (by exact sM) (by exact mT) (key:=E (T.plc ms (.lf x))) rfl rfl rfl rfl (C.atU hd ai) (by exact yM (by simp only[T.plc];split<;>omega)) (E (T.plc us (.lf x))) true (.inl ⟨rfl,(Dw c).2 ⟨trivial,rfl⟩⟩) ?_;refine af ?_;exact ao rfl hd (r:=[_]) rfl (ax _) ⟨⟨A,sv,M,rfl,V,C,sq⟩,rfl⟩
 |nd v l h ihl ihh=>
  intro k us I ps G q c f hP P hd;obtain⟨A,sv,M,rfl,V,C,sq⟩:=hP;have bd:=T.plc_lt c;have bs:=f.len;have d:dQ prog 3 (E (T.plc ms (.nd v l h))):=yM O;refine fq func189 rfl (by simp[ntmps189]) fun w0=>?_;simp only[ntmps189,pt,E];refine af ?_;refine Xb (l:=[_]) rfl (cellsU hd (.head _) (bD f.hp ai rfl)) (.inr ⟨xv,rfl⟩) ?_;refine af ?_;by_cases b:T.nd v l h∈us
  .refine tW (by exact K3) (by exact sM) (by exact mT) (key:=E (T.plc ms (.nd v l h))) rfl rfl rfl rfl (C.atU hd ai) (by exact d) (E (T.plc us (.nd v l h))) true (.inl ⟨rfl,(Dw c).2 ⟨b,rfl⟩⟩) ?_;refine af ?_;refine ao rfl hd (r:=[_]) rfl (ax _) ⟨?_,?_⟩
   .simp only[T.vis,ak b];exact⟨A,sv,M,rfl,V,C,sq⟩
   .simp only[T.vis,ak b];rfl
  .refine tW (by exact K3) (by exact sM) (by exact mT) (key:=E (T.plc ms (.nd v l h))) rfl rfl rfl rfl (C.atU hd ai) (by exact d) (E 0) false (.inr ⟨rfl,rfl,fun u hu=>b ((Dw c).1 hu).1⟩) ?_;refine af ?_;refine Xb (l:=[_]) rfl (cellsU hd (.head _) (bD f.ht ai rfl)) (.inr ⟨xu,rfl⟩) ?_;apply RG;simp only[go_sem,pt];obtain⟨slv,mm,ag,am,cm,rfl,a6⟩:=f.hm;refine Xb (l:=[_]) rfl (cellsU hd (.head _) (bD ag ai rfl)) (.inr ⟨oR,rfl⟩) ?_;have hm:T.nd v l h∈ms:=c;have hi:=rB hm;have hp:T.plc ms (.nd v l h)=ms.idxOf (.nd v l h)+2:=rfl;have bc:IntKind.i64.wrap (((T.plc ms (.nd v l h):Nat):Int)-2)=((ms.idxOf (.nd v l h):Nat):Int):=by rw[<-wrap64 (n:=ms.idxOf (.nd v l h)) O,hp];congr 1;omega
   rcases a6 with rfl|⟨lb,rfl,hc⟩
   .simp at hm
   .refine db bc ?_;refine⟨⟨O,O⟩,?_⟩;have hg:=T.plc_get hm;rw[hp,rG]at hg;have bx:(iM ms).length=ms.length*3:=rp ms;have e:=hc.sub (ms.idxOf (.nd v l h)*3) 3 O;rw[rn hg,eR]at e;refine Xb (l:=gi (T.dec ms (.nd v l h))) (v:=cT (T.dec ms (.nd v l h))) rfl (cellsU hd (.head _) e) (.inl ⟨l7,rfl⟩) ?_;apply RG;simp only[go_sem,cT,E,T.dec];refine Xb (l:=[_]) rfl (cellsU hd (.head _) (bD f.hv ai rfl)) (.inr ⟨xw,rfl⟩) ?_;apply RG;simp only[go_sem,cT,E,T.dec,yf];have H:=G.2.2.2.1;have J:=G.2.2.2.2;have aa:=G.2.1;have b0:=G.1;have K:=f.sq.kids hm;have bo:2^(24-(v+1))+2^(24-(v+1))<=2^(24-k):=by
     have:2^(24-(v+1))+2^(24-(v+1))=2^(24-v):=by rw[show 24-v=(24-(v+1))+1 by omega,og];omega
     rw[this];exact iP O O
    obtain⟨s1,i1,X,e1,n1,_⟩:=T.vis_spec l H O us sq;obtain⟨s2,i2,W,e2,n2,_⟩:=T.vis_spec h J O _ s1;have len1:(l.vis us).length=us.length+X.length:=by rw[e1];simp
    have len2:(h.vis (l.vis us)).length=(l.vis us).length+W.length:=by rw[e2];simp
    have a:(T.nd v l h).vis us=h.vis (l.vis us)++[.nd v l h]:=by simp only[T.vis,ad b]
    have s3:T.Seq ((T.nd v l h).vis us):=(T.vis_spec _ G q us sq).1;have g:T.nd v l h∉h.vis (l.vis us):=by rw[a]at s3;intro a1;exact(List.nodup_append.1 s3.1).2.2 _ a1 _ (.head _) rfl
    have pl1:T.plc (h.vis (l.vis us)) l=T.plc (l.vis us) l:=by rw[e2];exact T.plc_app i1
    have i1':T.isIn (h.vis (l.vis us)) l:=by rw[e2];exact i1.app
    have b1:=T.plc_lt i1;have b2:=T.plc_lt i2;refine EK hd [0,1,2] rfl Cv rfl (F:=[]) rfl (ihl H O K.1 f ⟨A,sv,M,rfl,V,C,sq⟩ O) ?_;rintro v1 I2 qs B p⟨⟨A2,Z,M2,rfl,bb,a4,sq2⟩,rfl⟩;simp only[ab]at B |-;have D:=f.le p;apply RG;simp only[go_sem,E];refine Xb (l:=[_]) rfl (cellsU B (.head _) (bD D.hv ai rfl)) (.inr ⟨xw,rfl⟩) ?_;apply RG;simp only[go_sem,E,yf];refine EK B [0,1,2] rfl Cv rfl (F:=[]) rfl (ihh J O K.2 D ⟨A2,Z,M2,rfl,bb,a4,sq2⟩ O) ?_;rintro v2 I3 qs z o⟨⟨A3,sv3,M3,rfl,ba,a3,sq3⟩,rfl⟩;simp only[ab]at z |-;have a9:=D.le o;apply RG;simp only[go_sem,E];refine Xb (l:=[_]) rfl (cellsU z (.tail _ (.tail _ (.head _))) (gX ai rfl)) (.inr ⟨oR,rfl⟩) ?_;apply RG;simp only[go_sem,E];refine cd z (by exact zO) rfl rfl rfl rfl rfl aR fun nb I4 Q j ac=>?_;apply RG;simp only[go_sem,E];refine EI (m:=1) Q (by exact zO) ba rfl rfl rfl rfl (cellsU Q (.head _) (bD (l:=gi (v,T.plc (l.vis us) l,T.plc (h.vis (l.vis us)) h)) ac (by simp[gi,aD,Value.cells]) (by simp[gi,aD,Value.cells,E]))) rfl rfl O (by unfold maxLen;omega) fun v' I5 A5 a0 i S=>?_;obtain⟨a5,c5,rfl⟩:=S.slice;apply RG;simp only[go_sem,E];refine bq a0 [1,0,2] fun aq=>?_;refine oB aq rfl rfl rfl rfl rfl (by exact Ef) ai fun ap=>?_;have w:Dj [I5,sg ob (.cells #[.slice a5 ((h.vis (l.vis us)).length+1) c5] 48 (0,0)),A5,M3]:=ap;show RC _ _ _ (U [I5,sg ob (.cells #[.slice a5 ((h.vis (l.vis us)).length+1) c5] 48 (0,0)),A5,M3]);have a7:=(a9.le j).le i;apply RG;simp only[go_sem,E];refine Xb (l:=[_]) rfl (cellsU w (.head _) (bD a7.hp ai rfl)) (.inr ⟨xv,rfl⟩) ?_;apply RG;simp only[go_sem,E];refine Xb (l:=[_]) rfl (cellsU w (.tail _ (.head _)) (gX ai rfl)) (.inr ⟨oR,rfl⟩) ?_
    have hw:IntKind.i64.wrap ((((h.vis (l.vis us)).length+1:Nat):Int)+1)=(((h.vis (l.vis us)).length+2:Nat):Int):=by have:=wrap64 (n:=(h.vis (l.vis us)).length+2) O;rw[<-this];congr 1
    apply RG;simp only[go_sem,E,hw];refine bq w [2,0,1] fun al=>?_;refine xl (by exact K3) (by exact sM) (key:=E (T.plc ms (.nd v l h))) (v:=E ((h.vis (l.vis us)).length+2)) al rfl (.inl rfl) rfl rfl rfl a3 (by exact d) fun M6 s a2=>?_;apply RG;simp only[go_sem,E];refine Xb (l:=[_]) rfl (cellsU s (.tail _ (.tail _ (.head _))) (gX ai rfl)) (.inr ⟨oR,rfl⟩) ?_;apply RG;simp only[go_sem,E,hw];refine bq s [2,1,0] fun R=>?_;refine ao rfl R (r:=[_]) rfl (Y p (Y o (Y j i))) ⟨?_,?_⟩
    .refine⟨A5,_,M6,rfl,S.xs (by rw[a];simp) ?_,a2.congr fun y u=>by rw[a];exact TJ c g y u,s3⟩;rw[a,JX s2 i1' i2,pl1]
    .rw[a,Dx g];rfl
def Cn:ay prog 124:=⟨_,func124,rfl,rfl⟩
def Co:ay prog 126:=⟨_,func126,rfl,rfl⟩
def cZ.lst{A:PH}{sv:Value}(h:cZ A 181 3 sv ts.length (iM ts))(b:A.le J):jc J sv ts:=by
 obtain⟨a,c,e⟩:=h.slice;rcases g9 ts.length with d|hp
 .subst e;exact⟨a,c,rfl,.inl (List.length_eq_zero_iff.1 d)⟩
 .obtain⟨g,cap,e2,f⟩:=h.1.cells hp;exact⟨_,cap,e2,.inr ⟨g,rfl,f.le b⟩⟩
def TI {ms : List T} (y u : Value) : vQ ms [] y u ↔ (y = E 1 ∧ u = E 1) ∨ (y ≠ E 1 ∧ ((y = E 0 ∧ u = E 0) ∨ (y ≠ E 0 ∧ False))) := by
  have aa : E 0 ≠ E 1 := fun e => absurd (CR e) O
  constructor
  · rintro ⟨t, h1, h2, rfl, rfl⟩
    cases t with
    | lf b => cases b
              · exact .inr ⟨aa, .inl ⟨rfl, rfl⟩⟩
              · exact .inl ⟨rfl, rfl⟩
    | nd v l h => exact absurd h2 (by simp [T.isIn])
  · rintro (⟨rfl, rfl⟩ | ⟨_, ⟨rfl, rfl⟩ | ⟨_, h⟩⟩)
    · exact ⟨.lf true, trivial, trivial, rfl, rfl⟩
    · exact ⟨.lf false, trivial, trivial, rfl, rfl⟩
    · exact h.elim
def BR(h:mY mb ms ps)(ht:T.isIn ms t)(o:t.ok 0)(aa:ms.length<2^29):
  aI prog 126 #[pt mb,E (T.plc ms t)] I ps fun v I2 qs=>qs=[]/\bO I2 v t:=by
 intro hd;obtain⟨A,sv,r,M,rfl,hA,hM,sq⟩:=h;refine fq func126 rfl (by simp[ntmps126]) fun w0=>?_;simp only[ntmps126,pt,E];refine bH (c:=.st _) hd fun I1 am P L=>?_;refine bH (c:=.st _) am fun I2 al k K=>?_;refine bH (c:=.st _) al fun I3 ag i leC=>?_;refine af ?_;refine AR 3 ag rfl rfl fun q M1 ac a0=>?_;refine af ?_;refine xl (by exact K3) (by exact sM) (key:=E 0) (v:=E 0) ac rfl (.inr rfl) rfl rfl rfl a0 (by exact yM O) fun M2 Z aq=>?_;refine af ?_;refine xl (by exact K3) (by exact sM) (key:=E 1) (v:=E 1) Z rfl (.inr rfl) rfl rfl rfl aq (by exact yM O) fun M3 X ap=>?_;apply bU 9;simp only[go_sem];refine jE 6 X rfl fun pb W=>?_;refine bH W fun I4 V g J=>?_;refine jE 2 V rfl fun tb U=>?_;refine bH U fun I5 C d H=>?_;refine jE 5 C rfl fun ob B=>?_;refine dR B fun z=>?_;refine jE 7 z rfl fun vb y=>?_;apply RG;simp only[go_sem,iH,List.map];refine oB y rfl rfl rfl rfl rfl (by exact JI) ai fun x=>?_;refine bH x fun I6 f a G=>?_;have n:ul I6 pb tb vb ob mb q ms:=by
  refine⟨a _ _ (d _ _ (J _ _ (dV _ _))),a _ _ (H _ _ (dV _ _)),G _ _ (dV _ _),⟨sv,.map (some r),?_,?_⟩,sq,O⟩
  .exact a _ _ (d _ _ (g _ _ (i _ _ (K _ _ (dV _ _)))))
  .exact cZ.lst hA (Y L (Y k (Y i (Y g (Y d a)))))
 refine af ?_;refine Xb (l:=[_]) rfl (cellsU f (.head _) (bD n.hv ai rfl)) (.inr ⟨xw,rfl⟩) ?_;apply RG;simp only[go_sem,yf];have R:Bf ob q ms [] [PH.no,sg ob (.cells #[.slice none 0 0] 48 (0,0)),M3]:=⟨PH.no,_,M3,rfl,cZ.nil _ _,ap.congr TI,T.Seq.nil⟩;refine EK f [0,1,2] rfl Cv rfl (F:=[]) rfl (Wn t o O ht n R aR) ?_;rintro v1 I7 qs b p⟨⟨A2,sv2,M4,rfl,D,a2,sq2⟩,rfl⟩;simp only[ab]at b |-;obtain⟨sa,sc,rfl⟩:=D.slice;apply RG;simp only[go_sem,E];refine Xb (l:=[_]) rfl (cellsU b (.tail _ (.tail _ (.head _))) (gX ai rfl)) (.inr ⟨oR,rfl⟩) ?_;apply RG;simp only[go_sem,E];refine bH b fun I8 w N Q=>?_;refine bH w fun I9 u j _=>?_;refine bH u fun a1 s e _=>?_;have m:I.le a1:=Y P (Y k (Y i (Y g (Y d (Y a (Y p (Y N (Y j e))))))));refine ao (r:=[.agg #[.slice sa (t.vis []).length sc,E (T.plc (t.vis []) t)]]) rfl s (by simp only[results126,go_sem,E]) m ⟨rfl,o,_,rfl,?_⟩;exact cZ.lst D (Y Q (Y j e))
def pp(a b:Nat):((a:Int) == (b:Int))=decide (a=b):=by
 by_cases h:a=b
 .subst h;simp
 .have:¬(a:Int)=b:=by omega
  simp[h,this]
def kf(a:Nat):((a:Int) == 0)=decide (a=0):=pp a 0
def kg(a:Nat):((a:Int) == 1)=decide (a=1):=pp a 1
def vR:T.plc ts t=0<->t=.lf false:=by
 cases t with
 |lf b=>cases b<;>simp[T.plc]
 |nd v l h=>simp[T.plc]
def vS:T.plc ts t=1<->t=.lf true:=by
 cases t with
 |lf b=>cases b<;>simp[T.plc]
 |nd v l h=>simp[T.plc]
def ny{H:PH}(h:bO I v t):aJ prog 50 #[v] H fun v H2=>v=.bool (decide (t=.lf false))/\H2=H:=by obtain⟨b,sl,rfl,d⟩:=h;obtain⟨a,c,rfl,_⟩:=d;refine fq func50 rfl (by simp[ntmps50]) fun w0=>?_;simp only[ntmps50,E];apply RG;simp only[go_sem,kf];exact au (r:=[_]) rfl ⟨by simp[bT,vR],rfl⟩
def OG{H:PH}(h:bO I v t):aJ prog 68 #[v] H fun v H2=>v=.bool (decide (t=.lf true))/\H2=H:=by obtain⟨b,sl,rfl,d⟩:=h;obtain⟨a,c,rfl,_⟩:=d;refine fq func68 rfl (by simp[ntmps68]) fun w0=>?_;simp only[ntmps68,E];apply RG;simp only[go_sem,kg];exact au (r:=[_]) rfl ⟨by simp[bT,vS],rfl⟩
def nV(I:PH)(b:Bool):bO I (.agg #[.slice none 0 0,E (if b then 1 else 0)]) (.lf b):=⟨trivial,_,rfl,none,0,rfl,.inl rfl⟩
def wN(H:PH):aJ prog 27 #[] H fun v H2=>v=.agg #[.slice none 0 0,E 1]/\H2=H:=by refine fq func27 rfl (by simp[ntmps27]) fun w0=>?_;simp only[ntmps27];refine af ?_;exact au (r:=[.agg #[.slice none 0 0,E 1]]) (by simp only[results27,go_sem,E,bG]) ⟨rfl,rfl⟩
def uS(H:PH):aJ prog 80 #[] H fun v H2=>v=.agg #[.slice none 0 0,E 0]/\H2=H:=by refine fq func80 rfl (by simp[ntmps80]) fun w0=>?_;simp only[ntmps80];refine af ?_;exact au (r:=[.agg #[.slice none 0 0,E 0]]) (by simp only[results80,go_sem,E,bG]) ⟨rfl,rfl⟩
def ns(x y:Nat):Option Bool:=if x=0\/y=0 then some false else if x=1/\y=1 then some true else none
def nQ(x y:Nat):Option Bool:=if x=1\/y=1 then some true else if x=0/\y=0 then some false else none
def bn(b:Bool):Nat:=if b then 1 else 0
def xd(f:FuncId)(S:Nat->Nat->Option Bool):Prop:=∀(x y:Nat) (H:PH),aJ prog f #[E x,E y] H fun v H2=>H2=H/\∃r,v=.tuple #[E r,.bool (S x y).isSome]/\∀b,S x y=some b->r=bn b
def NV:xd 97 nQ:=by
 intro x y H;refine fq func97 rfl (by simp[ntmps97]) fun w0=>?_;simp only[ntmps97,E];have c:((x:Int) == 1)=decide (x=1):=kg x;cases h1:decide (x=1)
 .cases h2:decide (y=1)
  .cases h3:decide (x=0)
   .apply RG;simp only[go_sem,kg,kf,h1,h2,h3];refine au (r:=[_,_]) rfl ⟨rfl,0,?_,?_⟩<;>simp_all[bT,nQ,E]
   .apply RG;simp only[go_sem,kg,kf,h1,h2,h3];refine au (r:=[_,_]) rfl ⟨rfl,0,?_,?_⟩
    .by_cases a:y=0<;>simp_all[bT,nQ,E,bn]
    .intro b hb;simp_all[nQ,bn]
  .apply RG;simp only[go_sem,kg,kf,h1,h2];refine au (r:=[_,_]) rfl ⟨rfl,1,?_,?_⟩<;>simp_all[bT,nQ,E,bn]
 .apply RG;simp only[go_sem,kg,kf,h1];refine au (r:=[_,_]) rfl ⟨rfl,1,?_,?_⟩<;>simp_all[bT,nQ,E,bn]
def H7(x y:Nat):pD (.int .i64 x) (.int .i64 y)=some (.int .i64 ((min x y:Nat):Int)):=by simp only[pD,bv,Value.int.injEq,dP];split<;>omega
def SS(x:Nat):pD (.int .i64 x) (.int .i64 1)=some (.int .i64 ((min x 1:Nat):Int)):=H7 x 1
def Mq:xd 163 ns:=by
 intro x y H;refine fq func163 rfl (by simp[ntmps163]) fun w0=>?_;simp only[ntmps163,E];apply RG;simp only[go_sem,kg,kf];refine tX (E (min (min x y) 1)) rfl rfl (fun w _=>?_) ?_
 .simp only[execOp,resolve,aQ,ev,eW,invoke,builtin,Builtin.min_,bY];simp[Result.andThen,List.foldlM,resolve,aQ,ev,eW,invoke,builtin,Builtin.min_,-Nat.min_assoc];rw[DP (H7 x y)];simp only[];rw[DP (SS _)];simp[E,Nat.min_assoc]
 cases h1:decide (x=0)
 .cases h2:decide (y=0)
  .cases h3:decide (x=1)
   .apply RG;simp only[go_sem,kg,kf,h1,h2,h3];refine au (r:=[_,_]) rfl ⟨rfl,min (min x y) 1,?_,?_⟩<;>simp_all[bT,ns,E]
   .apply RG;simp only[go_sem,kg,kf,h1,h2,h3];refine au (r:=[_,_]) rfl ⟨rfl,min (min x y) 1,?_,?_⟩
    .by_cases a:y=1<;>simp_all[bT,ns,E,bn]
    .intro b hb;simp_all[ns,bn]
  .apply RG;simp only[go_sem,kg,kf,h1,h2];apply RG;simp only[go_sem,kg,kf,h1,h2];refine au (r:=[_,_]) rfl ⟨rfl,min (min x y) 1,?_,?_⟩<;>simp_all[bT,ns,E,bn]
 .apply RG;simp only[go_sem,kg,kf,h1];apply RG;simp only[go_sem,kg,kf,h1];refine au (r:=[_,_]) rfl ⟨rfl,min (min x y) 1,?_,?_⟩<;>simp_all[bT,ns,E,bn]
end Go.Proofs.YtfaclfkpnmcmlaaGreatDoor
namespace Dg.T
open Dg
def opT(f:Bool->Bool->Bool)(s t:T):T:=op f 24 s t
variable{s t:T}{f:Bool->Bool->Bool}
theorem opT_ok{k:Nat}(a:s.ok k)(ht:t.ok k)(b:k<=24):(opT f s t).ok k:=(sX f 24 k s t O b a ht).1
def zq(a:s.ok 0)(ht:t.ok 0)(c:dp):(opT f s t).at' c=f (s.at' c) (t.at' c):=(sX f 24 0 s t O O a ht).2 c
theorem opT_rec{i:Nat}(a:s.ok 0)(ht:t.ok 0)(hi:i=min s.var t.var)(b:i<24):opT f s t=mk i (opT f (lo i s) (lo i t)) (opT f (T.hi i s) (T.hi i t)):=by have h:=lo_ok a (show i<=s.var by omega);have g:=lo_ok ht (show i<=t.var by omega);have e:=hi_ok a (show i<=s.var by omega);have d:=hi_ok ht (show i<=t.var by omega);refine ext (opT_ok a ht O) (mk_ok (k:=0) (bg i) b (opT_ok h g O) (opT_ok e d O)) fun c=>?_;rw[zq a ht,mk_at,zq (h.mono (bg _)) (g.mono (bg _)),zq (e.mono (bg _)) (d.mono (bg _)),xD i s c,xD i t c];split<;>rfl
theorem opT_lf{b:Bool}(a:s.ok 0)(ht:t.ok 0)(h:∀c,f (s.at' c) (t.at' c)=b):opT f s t=lf b:=
 ext (opT_ok a ht O) (show (lf b).ok 0 from trivial) fun c=>by rw[zq a ht,h];rfl
theorem and_eq(s t:T):and s t=opT (· && ·) s t:=rfl
theorem or_eq(s t:T):or s t=opT (· || ·) s t:=rfl
theorem dec_var(ts:List T)(t:T):(dec ts t).1=t.var:=by cases t<;>rfl
theorem dec_lo (ts : List T) (t : T) {i : Nat} (hi : i ≤ t.var) (aa : i < 24) : (if (dec ts t).1 = i then (dec ts t).2.1 else plc ts t) = plc ts (lo i t) := by
  cases t with
  | lf b => have e : ¬ (24 = i) := by omega
            simp [dec, lo, e]
  | nd v l h => by_cases e : v = i <;> simp [dec, lo, e]
theorem dec_hi (ts : List T) (t : T) {i : Nat} (hi : i ≤ t.var) (aa : i < 24) : (if (dec ts t).1 = i then (dec ts t).2.2 else plc ts t) = plc ts (T.hi i t) := by
  cases t with
  | lf b => have e : ¬ (24 = i) := by omega
            simp [dec, T.hi, e]
  | nd v l h => by_cases e : v = i <;> simp [dec, T.hi, e]
variable{ts: List T}
theorem isIn_lo  (s : Seq ts) {t : T} (h : isIn ts t) (i : Nat) : isIn ts (lo i t) := by
  cases t with
  | lf b => trivial
  | nd v l r => simp only [lo]; split
                · exact (s.kids h).1
                · exact h
theorem isIn_hi  (s : Seq ts) {t : T} (h : isIn ts t) (i : Nat) : isIn ts (T.hi i t) := by
  cases t with
  | lf b => trivial
  | nd v l r => simp only [T.hi]; split
                · exact (s.kids h).2
                · exact h
end Dg.T
namespace Go.Proofs.YtfaclfkpnmcmlaaGreatDoor
open Go Go.Sx Dg
def J1:prog.underlying 335=some (.array 2 3):=ah
def Sb:prog.keyTypeAt 3 335=true:=ah
def VJ:prog.tiled 3 335=true:=ah
def AN:Maps.Keyed prog 335:=by refine Maps.Keyed.of_law (deep_law (m:=3) O Sb VJ ?_);rw[J1]
def RT:prog.keyType 335=true:=ah
def MK:prog.cellsOf 335=2:=ah
def kV(x y:Nat):Value:=.agg #[E x,E y]
def RU{P:Program}{k t:TypeId}{a b:Nat}(d:P.underlying k=some (.array 2 t))(h1:P.keyType k=true)(h2:P.cellsOf k=2)(h3:P.cellsOf t=1)(e:P.underlying t=some (.int .i64))(f:1<P.types.size)
  (ha:a<2^62) (hb:b<2^62):dQ P k (kV a b):=by
 obtain⟨n,c⟩:∃n,P.types.size=n+1:=⟨P.types.size-1,O⟩;unfold dQ keyOf;rw[h1];simp[d,Value.formed,kV,c,Program.keyLits,h2,h3,e,Value.cells,tK ha,tK hb,E,List.range,List.range.loop]
def RP{a b:Nat}(ha:a<2^62)(hb:b<2^62):dQ prog 335 (kV a b):=RU J1 RT MK sx lM DX ha hb
def Hv{a b c d:Nat}(h:kV a b=kV c d):a=c/\b=d:=by simp[kV,E]at h;exact⟨Int.ofNat.inj h.1,Int.ofNat.inj h.2⟩
def tx(f:Bool->Bool->Bool)(ta tb ms:List T)(L:List (T×T))(y u:Value):Prop:=∃s t,(s,t)∈L/\y=kV (T.plc ta s) (T.plc tb t)/\u=E (T.plc ms (T.opT f s t))
def ow(f:Bool->Bool->Bool)(ta tb ms:List T)(L:List (T×T)):Prop:=∀s t,(s,t)∈L->T.isIn ta s/\T.isIn tb t/\T.isIn ms (T.opT f s t)
variable{L:List (T×T)}{ta tb ms:List T}{f:Bool->Bool->Bool}
def ow.app{us:List T}(h:ow f ta tb ms L):ow f ta tb (ms++us) L:=fun s t hm=>⟨(h s t hm).1,(h s t hm).2.1,(h s t hm).2.2.app⟩
def UV{us:List T}(h:ow f ta tb ms L)(y u:Value):tx f ta tb (ms++us) L y u<->tx f ta tb ms L y u:=by
 constructor
 .rintro⟨s,t,hm,a,b⟩;exact⟨s,t,hm,a,by rw[b,T.plc_app (h s t hm).2.2]⟩
 .rintro⟨s,t,hm,a,b⟩;exact⟨s,t,hm,a,by rw[b,T.plc_app (h s t hm).2.2]⟩
def Jv(h:ow f ta tb ms L){s t:T}(d:T.isIn ta s)(ht:T.isIn tb t){u:Value}:tx f ta tb ms L (kV (T.plc ta s) (T.plc tb t)) u<->(s,t)∈L/\u=E (T.plc ms (T.opT f s t)):=by
 constructor
 .rintro⟨s',c,hm,a,b⟩;obtain⟨e,e2⟩:=Hv a;have h1:=T.plc_inj d (h s' c hm).1 e;have h2:=T.plc_inj ht (h s' c hm).2.1 e2;subst h1;subst h2;exact⟨hm,b⟩
 .rintro⟨a,b⟩;exact⟨s,t,a,rfl,b⟩
def UW(h:ow f ta tb ms L){s t:T}(c:T.isIn ta s)(ht:T.isIn tb t)(y u:Value):
  tx f ta tb ms ((s,t)::L) y u<->(y=kV (T.plc ta s) (T.plc tb t)/\u=E (T.plc ms (T.opT f s t)))\/(y≠kV (T.plc ta s) (T.plc tb t)/\tx f ta tb ms L y u):=by
 constructor
 .rintro⟨s',b,hm,rfl,rfl⟩;rcases List.mem_cons.1 hm with e|a
  .cases e;exact .inl ⟨rfl,rfl⟩
  .by_cases e:kV (T.plc ta s') (T.plc tb b)=kV (T.plc ta s) (T.plc tb t)
   .obtain⟨d,e2⟩:=Hv e;have h1:=T.plc_inj (h s' b a).1 c d;have h2:=T.plc_inj (h s' b a).2.1 ht e2;subst h1;subst h2;exact .inl ⟨rfl,rfl⟩
   .exact .inr ⟨e,s',b,a,rfl,rfl⟩
 .rintro(⟨rfl,rfl⟩|⟨_,s',b,hm,rfl,rfl⟩)
  .exact⟨s,t,.head _,rfl,rfl⟩
  .exact⟨s',b,.tail _ hm,rfl,rfl⟩
structure tR(I:PH)(pb mb q:Nat)(sla ra slb rb:Value)(ta tb:List T):Prop where
 hp:I pb=some (.cells #[pt mb,sla,ra,slb,rb,.map (some q)] 262 (0,0))
 ha:jc I sla ta
 hb:jc I slb tb
 sa:T.Seq ta
 sb:T.Seq tb
 la:ta.length<2^30
 lb:tb.length<2^30
def tR.le{I J:PH}{pb mb q:Nat}{sla ra slb rb:Value}(h:tR I pb mb q sla ra slb rb ta tb)(a:I.le J):tR J pb mb q sla ra slb rb ta tb:=
 ⟨a _ _ h.hp,h.ha.le a,h.hb.le a,h.sa,h.sb,h.la,h.lb⟩
def EE(f:Bool->Bool->Bool)(mb q:Nat)(ta tb ms:List T)(L:List (T×T))(qs:List PH):Prop:=∃mk N,qs=mk++[N]/\mY mb ms mk/\ip prog N q 335 (tx f ta tb ms L)/\ow f ta tb ms L
structure xq(S:Nat->Nat->Option Bool)(f:Bool->Bool->Bool):Prop where
 yes:∀{ta tb:List T} {s t:T} {b:Bool},S (T.plc ta s) (T.plc tb t)=some b->∀c,f (s.at' c) (t.at' c)=b
 no:∀{x y:Nat},S x y=none->¬(x<2/\y<2)
def UG:xq ns (· && ·):=by
 refine⟨fun{ta tb s t b} h c=>?_,fun{x y} h=>?_⟩
 .unfold ns at h;split at h
  .rename_i a;cases h
   rcases a with a|a
   .rw[vR.1 a];rfl
   .rw[vR.1 a];simp[T.at']
  .split at h
   .rename_i h1;cases h;rw[vS.1 h1.1,vS.1 h1.2];rfl
   .cases h
 .unfold ns at h;split at h
  .cases h
  .split at h
   .cases h
   .omega
def UH:xq nQ (· || ·):=by
 refine⟨fun{ta tb s t b} h c=>?_,fun{x y} h=>?_⟩
 .unfold nQ at h;split at h
  .rename_i a;cases h
   rcases a with a|a
   .rw[vS.1 a];rfl
   .rw[vS.1 a];simp[T.at']
  .split at h
   .rename_i h1;cases h;rw[vR.1 h1.1,vR.1 h1.2];rfl
   .cases h
 .unfold nQ at h;split at h
  .cases h
  .split at h
   .cases h
   .omega
def Cr:ay prog 168:=⟨_,func168,rfl,rfl⟩
def G3:ay prog 236:=⟨_,func236,rfl,rfl⟩
variable{fid:FuncId}{S:Nat->Nat->Option Bool}
def RL(a9:xd fid S)(ba:ay prog fid)(hS:xq S f){pb mb q:Nat}{sla ra slb rb:Value}:
  ∀(n:Nat) {k:Nat} {s t:T} {ms:List T} {L:List (T×T)} {I:PH} {ps:List PH},24<=n+k->k<=24->s.ok k->t.ok k->T.isIn ta s->T.isIn tb t->tR I pb mb q sla ra slb rb ta tb->EE f mb q ta tb ms L ps->ms.length+2^n<=2^28->
  aI prog 168 #[pt pb,E (T.plc ta s),E (T.plc tb t),.func (.func fid) #[] #[]] I ps fun v I2 qs=>∃us L2,EE f mb q ta tb (ms++us) L2 qs/\us.length+1<=2^n/\T.isIn (ms++us) (T.opT f s t)/\v=E (T.plc (ms++us) (T.opT f s t)):=by
 intro n
 induction n with
 |zero=>
  intro k s t ms L I ps hn K R ht j g m hP a1 hd;have hk:k=24:=O;subst hk;obtain⟨x,rfl⟩:=T.is_lf R;obtain⟨y,rfl⟩:=T.is_lf ht;refine fq func168 rfl (by simp[ntmps168]) fun w0=>?_;simp only[ntmps168,pt,E];refine af ?_;refine Xa rfl ba (a9 _ _ _) ?_;rintro v H2⟨rfl,r,rfl,hr⟩;have z:(S (T.plc ta (.lf x)) (T.plc tb (.lf y))).isSome=true:=by
   cases h:S (T.plc ta (.lf x)) (T.plc tb (.lf y))with
   |none=>exact absurd ⟨by simp only[T.plc];split<;>omega,by simp only[T.plc];split<;>omega⟩ (hS.no h)
   |some b=>rfl
  obtain⟨b,hb⟩:=Option.isSome_iff_exists.1 z;have a0:=hr b hb;have H:T.opT f (.lf x) (.lf y)=.lf b:=T.opT_lf trivial trivial (hS.yes hb);refine db z ?_;refine ao rfl hd (r:=[_]) rfl (ax _) ⟨[],L,by rw[ab];exact hP,by simp,?_,?_⟩
  .rw[H];trivial
  .rw[H,a0];rfl
 |succ n ih=>
  intro k s t ms L I ps hn K R ht j g m hP a1 hd;have ap:=R.mono (bg k);have am:=ht.mono (bg k);refine fq func168 rfl (by simp[ntmps168]) fun w0=>?_;simp only[ntmps168,pt,E];refine af ?_;refine Xa rfl ba (a9 _ _ _) ?_;rintro v H2⟨rfl,r,rfl,hr⟩;cases B:S (T.plc ta s) (T.plc tb t)with
  |some b=>
   have a0:=hr b B;have H:T.opT f s t=.lf b:=T.opT_lf ap am (hS.yes B);apply RG;simp only[go_sem,B,Option.isSome_some];refine ao rfl hd (r:=[_]) rfl (ax _) ⟨[],L,by rw[ab];exact hP,by simp[Nat.one_le_two_pow],?_,?_⟩
   .rw[H];trivial
   .rw[H,a0];rfl
  |none=>
   have b0:=hS.no B;have w:=T.plc_lt j;have ck:=T.plc_lt g;have cr:=m.la;have cp:=m.lb;obtain⟨mk,N,rfl,hM,hN,C⟩:=hP;obtain⟨A,sv,r',M,rfl,hA,bd,sq⟩:=hM;apply RG;simp only[go_sem,B,Option.isSome_none];refine jI mixed [0,1,2,3,4,5,6,7,8,9,10] [3,5] [] rfl rfl ?_;refine dB ?_;refine Xc (l:=[_]) rfl (cellsU hd (.head _) (bD m.hp ai rfl)) (.inr ⟨Bi,rfl⟩) ?_;refine dB ?_;have J:dQ prog 335 (kV (T.plc ta s) (T.plc tb t)):=RP O O;by_cases G:(s,t)∈L
   .refine xm (by exact AN) (by exact CO) (by exact mT) (key:=kV (T.plc ta s) (T.plc tb t)) rfl rfl rfl rfl rfl (hN.atU hd ai) (by exact J) (E (T.plc ms (T.opT f s t))) true (.inl ⟨rfl,(Jv C j g).2 ⟨G,rfl⟩⟩) ?_;refine dB ?_;apply an;refine af ?_;refine ao rfl hd (r:=[_]) rfl (ax _) ⟨[],L,?_,by simp[Nat.one_le_two_pow],?_,?_⟩
    .rw[ab];exact⟨_,N,rfl,⟨A,sv,r',M,rfl,hA,bd,sq⟩,hN,C⟩
    .rw[ab];exact(C s t G).2.2
    .rw[ab];rfl
   .refine xm (by exact AN) (by exact CO) (by exact mT) (key:=kV (T.plc ta s) (T.plc tb t)) rfl rfl rfl rfl rfl (hN.atU hd ai) (by exact J) (E 0) false (.inr ⟨rfl,rfl,fun u hu=>G ((Jv C j g).1 hu).1⟩) ?_;refine dB ?_;apply an;refine af ?_;refine jI mixed [12,13,0,1,2,3,4,6,7,8,9,10,5,11,14,15] [3,9] [5] rfl rfl ?_;refine dB ?_;refine Xc (l:=[sla,ra]) (v:=.agg #[sla,ra]) rfl (cellsU hd (.head _) (bD m.hp ai rfl)) (.inl ⟨nr,rfl⟩) ?_;refine dB ?_;refine Xc (l:=[slb,rb]) (v:=.agg #[slb,rb]) rfl (cellsU hd (.head _) (bD m.hp ai rfl)) (.inl ⟨nr,rfl⟩) ?_;refine dB ?_;refine lW rfl rfl rfl rfl G3 (Fq (m.ha.le (eP hd)) m.sa j O) ?_;rintro v1 H3⟨rfl,rfl⟩;refine⟨gL.le (ax _),?_⟩;refine dB ?_;refine lW rfl rfl rfl rfl G3 (Fq (m.hb.le (eP hd)) m.sb g O) ?_;rintro v2 H3⟨rfl,rfl⟩;refine⟨gL.le (ax _),?_⟩;apply bp;simp only[go_sem,cT,E,T.dec_var];apply an;obtain⟨i,hi⟩:∃i,i=min s.var t.var:=⟨_,rfl⟩;have D:(if ((t.var:Nat):Int)<((s.var:Nat):Int)then ((t.var:Nat):Int)else ((s.var:Nat):Int))=((i:Nat):Int):=by split<;>omega
    have d:i<24:=by
     rcases aB i 24 with h|h
     .exact h
     .exfalso;have h1:=T.var_le ap;have h2:=T.var_le am;have h3:s.ok 24:=by cases s with
       |lf b=>trivial
       |nd v l r=>exact absurd R.2.1 (by simp only[T.var]at *;omega)
      have h4:t.ok 24:=by cases t with
       |lf b=>trivial
       |nd v l r=>exact absurd ht.2.1 (by simp only[T.var]at *;omega)
      obtain⟨x,rfl⟩:=T.is_lf h3;obtain⟨y,rfl⟩:=T.is_lf h4;exact b0 ⟨by simp only[T.plc];split<;>omega,by simp only[T.plc];split<;>omega⟩
    have p:i<=s.var:=O;have o:i<=t.var:=O;have cs:k<=i:=by have:=T.var_ge R K;have:=T.var_ge ht K;omega
    have pn:2^(n+1)=2^n+2^n:=by rw[og];omega
    have pnn:0<2^n:=Nat.two_pow_pos n;have U:=T.dec_lo ta s p d;have W:=T.dec_hi ta s p d;have fF:=T.dec_lo tb t o d;have V:=T.dec_hi tb t o d;rw[T.dec_var]at U W fF V;cases c:decide (s.var=i)<;>cases a:decide (t.var=i)
    .simp only[pZ]at c a;omega
    have els:T.plc ta (T.lo i s)=T.plc ta s:=by rw[<-U,ad (by simpa using c)]
    have ehs:T.plc ta (T.hi i s)=T.plc ta s:=by rw[<-W,ad (by simpa using c)]
    have elt:T.plc tb (T.lo i t)=(T.dec tb t).2.1:=by rw[<-fF,ak (by simpa using a)]
    have eht:T.plc tb (T.hi i t)=(T.dec tb t).2.2:=by rw[<-V,ak (by simpa using a)]
    apply RG;simp only[go_sem,cT,E,T.dec_var,D,pp,c,a]
    rotate_left
    have els:T.plc ta (T.lo i s)=(T.dec ta s).2.1:=by rw[<-U,ak (by simpa using c)]
    have ehs:T.plc ta (T.hi i s)=(T.dec ta s).2.2:=by rw[<-W,ak (by simpa using c)]
    have elt:T.plc tb (T.lo i t)=T.plc tb t:=by rw[<-fF,ad (by simpa using a)]
    have eht:T.plc tb (T.hi i t)=T.plc tb t:=by rw[<-V,ad (by simpa using a)]
    apply RG;simp only[go_sem,cT,E,T.dec_var,D,pp,c,a]
    rotate_left
    have els:T.plc ta (T.lo i s)=(T.dec ta s).2.1:=by rw[<-U,ak (by simpa using c)]
    have ehs:T.plc ta (T.hi i s)=(T.dec ta s).2.2:=by rw[<-W,ak (by simpa using c)]
    have elt:T.plc tb (T.lo i t)=(T.dec tb t).2.1:=by rw[<-fF,ak (by simpa using a)]
    have eht:T.plc tb (T.hi i t)=(T.dec tb t).2.2:=by rw[<-V,ak (by simpa using a)]
    apply RG;simp only[go_sem,cT,E,T.dec_var,D,pp,c,a];refine AZ mixed [0,1,2,3,4,5,6,7] [] [] [3] [5] [14,15] rfl rfl ?_;refine dB ?_;apply an;apply RG;simp only[go_sem,pp,a]
    all_goals
     refine AZ mixed [0,1,2,3,4,5,6,7] [] [] [3] [5] [14,15] rfl rfl ?_;refine dB ?_;apply an;apply RG;simp only[go_sem,pp,a];have c1:=ih (k:=i+1) (I:=I) (ms:=ms) (L:=L) O O (T.lo_ok R O) (T.lo_ok ht O) (T.isIn_lo m.sa j i) (T.isIn_lo m.sb g i) m ⟨_,N,rfl,⟨A,sv,r',M,rfl,hA,bd,sq⟩,hN,C⟩ O;rw[els,elt]at c1;refine EK hd [0,1,2,3] rfl Cr rfl (F:=[]) rfl c1 ?_;rintro v1 I2 qs a4 ag⟨Q,L1,bc,cn,al,rfl⟩;have a7:=m.le ag;simp only[ab]at a4 |-;apply RG;simp only[go_sem,E];refine tZ mixed [0,1,2,3,4,5,6,7,8,9,10,11,12,13,14] [] [] [3] [12] I2 rfl rfl ?_;apply bp;simp only[go_sem,E];refine jH (l:=[_]) rfl (eP a4) rfl rfl rfl (bD a7.hp ai rfl) (.inr ⟨xu,rfl⟩) ?_;apply bp;simp only[go_sem,E];have c2:=ih (k:=i+1) (I:=I2) (ms:=ms++Q) (L:=L1) O O (T.hi_ok R O) (T.hi_ok ht O) (T.isIn_hi m.sa j i) (T.isIn_hi m.sb g i) a7 bc (by simp only[dG];omega);rw[ehs,eht]at c2;obtain⟨mk1,N1,rfl,cb,ct,bx⟩:=bc;obtain⟨A1,sv1,r1',M1,rfl,cx,b7,sq1⟩:=cb;refine EQ a4 [0,1,2,3] rfl (fun _=>ax _) rfl Cr rfl (F:=[]) rfl c2 ?_;rintro v2 I3 qs bb ac⟨us2,L2,b4,cm,a2,rfl⟩;have cf:=a7.le ac;obtain⟨mk2,N2,rfl,ca,b6,Z⟩:=b4;obtain⟨A2,sv2,r2',M2,rfl,cj,a6,sq2⟩:=ca;simp only[ab,gR,gk]at bb |-;apply bp;simp only[go_sem,E];have c3:=zf (mb:=mb) (I:=I3) (i:=i) ⟨A2,sv2,r2',M2,rfl,cj,a6,sq2⟩ d (T.opT_ok (f:=f) (T.lo_ok R p) (T.lo_ok ht o) O) (T.opT_ok (f:=f) (T.hi_ok R p) (T.hi_ok ht o) O) al.app a2 (by simp only[dG];omega);rw[T.plc_app al]at c3;refine EQ bb [0,1,2,3] rfl (fun h=>by cases h) rfl yq rfl (F:=[N2]) rfl c3 ?_;rintro v3 I4 qs a3 aa⟨us3,b8,cl,P,rfl⟩;have cc:=cf.le aa
     obtain⟨A3,sv3,r3',M3,rfl,ci,a5,sq3⟩:=b8;simp only[gR,gk]at a3 |-;apply bp;simp only[go_sem,E];apply an;apply RG;simp only[go_sem,E];refine jI mixed [0,1,2,3,4,5,6] [3] [] rfl rfl ?_;apply bp;simp only[go_sem,E];refine Xc (l:=[_]) rfl (cellsU a3 (.head _) (bD cc.hp ai rfl)) (.inr ⟨Bi,rfl⟩) ?_;apply bp;simp only[go_sem,E];have aq:T.mk i (T.opT f (T.lo i s) (T.lo i t)) (T.opT f (T.hi i s) (T.hi i t))=T.opT f s t:=(T.opT_rec ap am hi d).symm;rw[aq]at P |-;refine gw a3 [3,0,1,2] fun b3=>?_;refine AW (by exact AN) (by exact CO) (key:=kV (T.plc ta s) (T.plc tb t)) (v:=E (T.plc (ms++Q++us2++us3) (T.opT f s t))) b3 rfl rfl rfl (.inl rfl) rfl rfl rfl b6 (by exact J) fun N3 b2 b5=>?_;apply an;apply RG;simp only[go_sem,E];refine bq b2 [1,2,3,0] fun b1=>?_;have X:ow f ta tb (ms++Q++us2++us3) L2:=Z.app;refine ao rfl b1 (r:=[_]) rfl (Y ag (Y ac aa)) ⟨Q++us2++us3,(s,t)::L2,?_,?_,?_,?_⟩
     .refine⟨_,N3,rfl,⟨A3,sv3,r3',M3,rfl,?_,?_,?_⟩,?_,?_⟩
      .simpa[eD]using ci
      .simpa[eD]using a5
      .simpa[eD]using sq3
      .refine b5.congr fun y u=>?_;have e1:=UW X j g y u;rw[UV Z]at e1;simpa[eD]using e1
      .intro s' t' hm;rcases List.mem_cons.1 hm with e|hm
       .cases e;exact⟨j,g,by simpa[eD]using P⟩
       .simpa[eD]using X s' t' hm
     .simp only[dG];omega
     .simpa[eD]using P
     .simp[bT,E,eD]
def Kl(aa:xd fid S)(Q:ay prog fid)(hS:xq S f){I:PH}{va vb:Value}{a b:T}(ha:bO I va a)(hb:bO I vb b):
  aI prog 96 #[va,vb,.func (.func fid) #[] #[]] I [] fun v I2 qs=>qs=[]/\bO I2 v (T.opT f a b):=by
 intro hd;obtain⟨e,sla,rfl,P⟩:=ha;obtain⟨d,slb,rfl,K⟩:=hb;refine fq func96 rfl (by simp[ntmps96]) fun w0=>?_;simp only[ntmps96,pt,E];apply RG;simp only[go_sem,E];refine jI mixed [1,2,0,3,4,5,6] [] [] rfl rfl ?_;apply bp;simp only[go_sem,E];refine EQ hd [] rfl (fun h=>by cases h) rfl Cn rfl (F:=[]) rfl (Dh I) ?_;rintro v I2 qs B i⟨mb,rfl,A,sv,r,M,rfl,hA,hM,sq⟩;simp only[ab]at B |-;apply bp;simp only[go_sem,E,pt];refine AU 335 B rfl rfl fun q N W hN=>?_;apply bp;simp only[go_sem,E,pt];apply an;apply RG;simp only[go_sem,E,pt];refine jE 13 W rfl fun pb V=>?_;refine bH V fun I3 z g J=>?_;have hI:tR I3 pb mb q sla (E (T.plc (T.subs a) a)) slb (E (T.plc (T.subs b) b)) (T.subs a) (T.subs b):=
  ⟨J _ _ (dV _ _),(P.le i).le g,(K.le i).le g,T.subs_seq e,T.subs_seq d,by have:=T.subs_len e;omega,by have:=T.subs_len d;omega⟩
 apply RG;simp only[go_sem,E,pt];refine tZ mixed [0,1,2,3,4,5,6,7,8,9,10,11,12] [] [] [3] [10] I3 rfl rfl ?_;apply bp;simp only[go_sem,E,pt];refine jH (l:=[_]) rfl (eP z) rfl rfl rfl (bD hI.hp ai rfl) (.inr ⟨xu,rfl⟩) ?_;apply bp;simp only[go_sem,E,pt];refine gw z [1,2,3,0] fun U=>?_;have c1:=RL aa Q hS (pb:=pb) (mb:=mb) (q:=q) 24 (k:=0) (s:=a) (t:=b) (ms:=[]) (L:=[]) (I:=I3) O O e d (T.subs_in e) (T.subs_in d) hI ⟨_,N,rfl,⟨A,sv,r,M,rfl,hA,hM,sq⟩,hN.congr fun y u=>⟨fun⟨_,_,h,_⟩=>absurd h dH,fun h=>h.elim⟩,fun s t h=>absurd h dH⟩ ai;refine EQ U [0,1,2,3] rfl (fun _=>ax _) rfl Cr rfl (F:=[]) rfl c1 ?_;rintro v1 I4 qs x o⟨us,L2,hP,hn,p,rfl⟩;obtain⟨mk,N2,rfl,X,ac,_⟩:=hP;obtain⟨A2,D,r2,M2,rfl,Z,C,G⟩:=X;simp only[ab,gk,gR]at x p |-;apply bp;simp only[go_sem,E,pt];have c2:=BR (mb:=mb) (I:=I4) ⟨A2,D,r2,M2,rfl,Z,C,G⟩ p (T.opT_ok e d O) (by simp only[gk];omega);refine EQ x [0,1,2,3] rfl (fun h=>by cases h) rfl Co rfl (F:=[N2]) rfl c2 ?_;rintro v2 I5 qs w n⟨rfl,hr⟩;simp only[gk]at w |-;obtain⟨H,slr,rfl,⟨za,zc,rfl,hz⟩⟩:=hr;apply bp;simp only[go_sem,E,pt];apply an;apply RG;simp only[go_sem,E,pt];refine bH (c:=.st _) w fun I6 R j _=>?_;refine ao rfl R (r:=[.agg #[.slice za (T.subs (T.opT f a b)).length zc,E (T.plc (T.subs (T.opT f a b)) (T.opT f a b))]]) (by simp only[results96,go_sem,E]) (Y i (Y g (Y o (Y n j)))) ⟨rfl,H,_,rfl,jc.le ⟨za,zc,rfl,hz⟩ j⟩
def OU:ay prog 127:=⟨_,func127,rfl,rfl⟩
end Go.Proofs.YtfaclfkpnmcmlaaGreatDoor
namespace Go.Sx
def aX.get{H:PH}{b off:Nat}{l:List Value}(h:aX H b off l){i:Nat}{x:Value}(a:l[i]?=some x):aX H b (off+i) [x]:=by
 have hi:i<l.length:=by
  rcases aB i l.length with h|h
  .exact h
  .rw[fW h]at a;cases a
 have:=h.sub i 1 O;have e:(l.drop i).take 1=[x]:=by rw[jv hi];rw[aL hi]at a;simp[df a]
 rw[e]at this;exact this
end Go.Sx
namespace Go.Proofs.YtfaclfkpnmcmlaaGreatDoor
open Go Go.Sx Dg
variable{t:T}{ts:List T}
def LS(h:T.isIn ts t):(T.lf false::T.lf true::ts)[T.plc ts t]?=some t:=by
 cases t with
 |lf b=>cases b<;>rfl
 |nd v l r=>have hm:T.nd v l r∈ts:=h;simp only[T.plc,pX];rw[aL (rB hm)];simp
def s0(ms ts:List T):List Value:=(T.lf false::T.lf true::ts).map fun t=>E (T.plc ms t.not)
def Ds{ms:List T}(h:T.isIn ts t):(s0 ms ts)[T.plc ts t]?=some (E (T.plc ms t.not)):=by unfold s0;rw[fX,LS h];rfl
def II{j:Nat}(h:T.isIn (ts.take j) t):T.plc ts t=T.plc (ts.take j) t:=by
 have:=T.plc_app (us:=ts.drop j) h
 rwa [fl]at this
def QV{ms us:List T}(h:∀t,T.isIn us t->T.isIn ms t.not){v:Nat}{l r:T}(a:T.isIn ms (T.nd v l r).not)(t:T)(ht:T.isIn (us++[.nd v l r]) t):T.isIn ms t.not:=by
 rcases yJ.1 ht with h1|rfl
 .exact h t h1
 .exact a
def sH(mb:Nat)(sl b:Value)(n:Nat)(a:Nat×Value):St:=
 ⟨sp 0 45 [(3,.v (.func (.func 125) #[pt mb] #[])),(4,.p 4 0),(9,.v a.2),(16,.v sl),(17,.v (.int .i64 n)),(18,.v (.int .i64 a.1))],[⟨4,50,[sl,b]⟩]⟩
def Oz(mb:Nat)(ts:List T)(b:PH)(a:Nat×Value)(H:PH):Prop:=
 ∃I A mk ms,H=U (I::A::mk)/\Dj (I::A::mk)/\b.le I/\a.1<=ts.length/\cZ A 3 1 a.2 (a.1+2) (s0 ms (ts.take a.1))/\mY mb ms mk/\ms.length<=a.1/\∀t,T.isIn (ts.take a.1) t->T.isIn ms t.not
variable{I:PH}
def OA{mb:Nat}{ps:List PH}{sl:Value}(D:t.ok 0)(hL:jc I sl (T.subs t))(hM:mY mb [] ps):
  aI prog 127 #[.agg #[sl,E (T.plc (T.subs t) t)],.int .i64 1,.int .i64 0,.func (.func 125) #[pt mb] #[]] I ps fun v I2 qs=>∃ms,mY mb ms qs/\T.isIn ms t.not/\v=E (T.plc ms t.not)/\ms.length<2^24:=by
 intro hd;obtain⟨za,zc,rfl,hz⟩:=hL;have a9:=T.subs_len D;have C:=T.subs_seq D;have J:=T.subs_in D;refine fq func127 rfl (by simp[ntmps127]) fun w0=>?_;simp only[ntmps127,pt,E];refine af ?_;refine tV hd jp rfl rfl rfl rfl rfl aR fun b A bo hA=>?_;refine af ?_;refine bz (fun a=>(T.subs t).length-a.1) (sH mb (.slice za (T.subs t).length zc) (E (T.plc (T.subs t) t)) (T.subs t).length) (Oz mb (T.subs t) I) (0,.slice (some ⟨b,0,none⟩) 2 2) (by simp only[go_sem,ab,sH,E,pt]) (by simp only[go_sem,ab,sH,E]) ?_ ?_
 .exact⟨I,A,ps,[],rfl,bo,ax _,bg _,hA,hM,by simp,fun t ht=>by cases t<;>simp_all[T.isIn,T.not]⟩
 rintro⟨j,sv⟩ H ⟨I1,A1,mk,ms,rfl,o,k,hj,q,K,a0,d⟩ G;simp only at hj q a0 d;simp only[sH];rcases aB j (T.subs t).length with f|b4
 .have L:decide ((j:Int)<((T.subs t).length:Int))=true:=by simp;omega
  rcases hz with h0|⟨lb,rfl,hc⟩
  .rw[h0]at f;simp at f
  obtain⟨u,hu⟩:∃u,(T.subs t)[j]?=some u:=⟨_,aL f⟩;obtain⟨v,l,r,rfl,s,z,y⟩:=C.2 j u hu;apply RG;simp only[go_sem,L,E,pt];refine⟨⟨O,O⟩,?_⟩;have p:=hc.sub (j*3) 3 (by have:=rp (T.subs t);omega);rw[rn hu,eR]at p;refine Xb (l:=gi (T.dec (T.subs t) (.nd v l r))) (v:=cT (T.dec (T.subs t) (.nd v l r))) rfl (cellsU o (.head _) (p.le k)) (.inl ⟨l7,rfl⟩) ?_;obtain⟨g,cap,rfl,W⟩:=q.cellsU o (.tail _ (.head _)) O;apply RG;simp only[go_sem,cT,E,pt,T.dec];refine jI mixed [0,1,2,3,4,5,6,7,8,9,10,11,12,13,14,15,16,17] [8,13] [] rfl rfl ?_;apply bp;simp only[go_sem,E,pt];have pl:=T.plc_lt z;have pr:=T.plc_lt y;have tl:((T.subs t).take j).length=j:=by simp;omega
  rw[tl]at pl pr;have el:=II z;have er:=II y;have cl:=W.get (Ds z);have cr:=W.get (Ds y);rw[eR,<-el]at cl;rw[eR,<-er]at cr;refine⟨⟨O,O⟩,?_⟩;refine Xc (l:=[E (T.plc ms l.not)]) rfl (by simpa using cl) (.inr ⟨dI,rfl⟩) ?_;apply bp;simp only[go_sem,E,pt];refine⟨⟨O,O⟩,?_⟩;refine Xc (l:=[E (T.plc ms r.not)]) rfl (by simpa using cr) (.inr ⟨dI,rfl⟩) ?_;apply bp;simp only[go_sem,E,pt];have c1:=zf (mb:=mb) (I:=I1) (i:=v) K s.2.1 (T.not_ok s.2.2.2.1) (T.not_ok s.2.2.2.2) (d l z) (d r y) O;obtain⟨mA,mS,mR,mM,rfl,b3,b2,b1⟩:=K;refine EQ o [1,2,3,0] rfl (fun h=>by cases h) rfl yq rfl (F:=[A1]) rfl c1 ?_;rintro v1 I2 qs Z S⟨us,bs,b0,U,rfl⟩;obtain⟨nA,nS,nR,nM,rfl,aq,ap,am⟩:=bs;simp only[gR,gk]at Z |-;apply bp;simp only[go_sem,E,pt];refine lV Z jp rfl rfl rfl rfl rfl aR fun nb I3 bd R al=>?_;apply bp;simp only[go_sem,E,pt];refine gw bd [3,0,1,2] fun X=>?_;have bx:cZ A1 3 1 (.slice (some ⟨g,0,none⟩) (j+2) cap) (j+2) (s0 (ms++us) ((T.subs t).take j)):=q.xs rfl (by
   unfold s0;refine n8 fun x B=>?_;have:T.isIn ms x.not:=by
    rcases List.mem_cons.1 B with rfl|B
    .trivial
    .rcases List.mem_cons.1 B with rfl|B
     .trivial
     .exact d x (QW ⟨(C.1.sublist (List.take_sublist j _)),fun i u w=>by
       rw[AJ]at w;split at w
       .obtain⟨a1,a2,a3,a4,a5,a6,a7⟩:=C.2 i u w;rename_i V;exact⟨a1,a2,a3,a4,a5,by rw[rF,kF (fo V)];exact a6,by rw[rF,kF (fo V)];exact a7⟩
       .cases w⟩ B)
   rw[T.plc_app this])
  refine AT (m:=1) X jp bx rfl rfl rfl rfl rfl rfl (cellsU X (.head _) (bD (l:=[E (T.plc (ms++us) (T.mk v l.not r.not))]) al (by simp[aD,Value.cells]) (by simp[aD,Value.cells,E]))) rfl rfl O (by unfold maxLen;omega) fun v' I4 A4 bc Q aa=>?_;obtain⟨a4,c4,rfl⟩:=aa.slice;apply bp;simp only[go_sem,E,pt];apply an;have hw:=wrap64 (n:=j+1) O;have ac:IntKind.i64.wrap ((j:Int)+1)=((j+1:Nat):Int):=by rw[<-hw];congr 1
  apply RG;simp only[go_sem,E,pt,ac];have N:T.mk v l.not r.not=(T.nd v l r).not:=by simp only[T.mk,T.not];rw[ad];intro e;apply s.2.2.1;rw[<-T.not_not l,e,T.not_not]
  have M:(T.subs t).take (j+1)=(T.subs t).take j++[T.nd v l r]:=by rw[List.take_succ_eq_append_getElem f];congr 1;rw[aL f]at hu;rw[df hu]
  refine G (j+1,.slice a4 (j+2+1) c4) _ _ bC (by simp only[go_sem,ab,sH,E,pt]) (by simp only[go_sem,ab,sH,E]) ⟨I4,A4,_,ms++us,rfl,bc,Y k (Y S (Y R Q)),f,aa.xs O ?_,⟨nA,nS,nR,nM,rfl,aq,ap,am⟩,by simp only[dG];omega,?_⟩
  .simp only;rw[M];simp[s0,N]
  .simp only;rw[M];exact QV (fun x B=>(d x B).app) (by rw[<-N];exact U)
 .have L:decide ((j:Int)<((T.subs t).length:Int))=false:=by simp;omega
  obtain⟨g,cap,rfl,W⟩:=q.cellsU o (.tail _ (.head _)) O;have ba:j=(T.subs t).length:=O;subst ba;rw[cB]at W d q;have pt':=T.plc_lt J;have ct:=W.get (Ds J);rw[eR]at ct;apply RG;simp only[go_sem,L,E];refine⟨⟨O,O⟩,?_⟩;refine Xb (l:=[E (T.plc ms t.not)]) rfl (by simpa using ct) (.inr ⟨dI,rfl⟩) ?_;apply RG;simp only[go_sem,E];refine bH (c:=.st _) (A:=A1) o fun I5 bb P _=>?_;exact ao rfl bb (r:=[_]) rfl (Y k P) ⟨ms,K,d t J,rfl,O⟩
def Hg:ay prog 96:=⟨_,func96,rfl,rfl⟩
def O6:ay prog 163:=⟨_,func163,rfl,rfl⟩
def Qd:ay prog 97:=⟨_,func97,rfl,rfl⟩
def yu:ay prog 94:=⟨_,func94,rfl,rfl⟩
def pi:ay prog 39:=⟨_,func39,rfl,rfl⟩
def Hb:ay prog 71:=⟨_,func71,rfl,rfl⟩
def nC:ay prog 50:=⟨_,func50,rfl,rfl⟩
def P6:ay prog 68:=⟨_,func68,rfl,rfl⟩
def uY:ay prog 27:=⟨_,func27,rfl,rfl⟩
def u0:ay prog 80:=⟨_,func80,rfl,rfl⟩
def bO.shape{v:Value}(h:bO I v t):∃a c,v=.agg #[.slice a (T.subs t).length c,E (T.plc (T.subs t) t)]:=by obtain⟨_,sl,rfl,a,c,rfl,_⟩:=h;exact⟨a,c,rfl⟩
variable{va:Value}
def xA{vb:Value}{a b:T}(ha:bO I va a)(hb:bO I vb b):aI prog 94 #[va,vb] I [] fun v I2 qs=>qs=[]/\bO I2 v (a.and b):=by intro hd;obtain⟨h,j,rfl⟩:=ha.shape;obtain⟨xb,i,rfl⟩:=hb.shape;refine fq func94 rfl (by simp[ntmps94]) fun w0=>?_;simp only[ntmps94,E];apply RG;simp only[go_sem,E];refine EK hd [] rfl Hg rfl (F:=[]) rfl (Kl Mq O6 UG ha hb) ?_;rintro v I2 qs d c⟨rfl,hr⟩;obtain⟨e,g,rfl⟩:=hr.shape;simp only[ab]at d |-;apply RG;simp only[go_sem,E];exact ao rfl d (r:=[.agg #[.slice e (T.subs (a.and b)).length g,E (T.plc (T.subs (a.and b)) (a.and b))]]) (by simp only[results94,go_sem,E,T.and_eq]) c ⟨rfl,hr⟩
def pH{vb:Value}{a b:T}(ha:bO I va a)(hb:bO I vb b):aI prog 39 #[va,vb] I [] fun v I2 qs=>qs=[]/\bO I2 v (a.or b):=by intro hd;obtain⟨h,j,rfl⟩:=ha.shape;obtain⟨xb,i,rfl⟩:=hb.shape;refine fq func39 rfl (by simp[ntmps39]) fun w0=>?_;simp only[ntmps39,E];apply RG;simp only[go_sem,E];refine EK hd [] rfl Hg rfl (F:=[]) rfl (Kl NV Qd UH ha hb) ?_;rintro v I2 qs d c⟨rfl,hr⟩;obtain⟨e,g,rfl⟩:=hr.shape;simp only[ab]at d |-;apply RG;simp only[go_sem,E];exact ao rfl d (r:=[.agg #[.slice e (T.subs (a.or b)).length g,E (T.plc (T.subs (a.or b)) (a.or b))]]) (by simp only[results39,go_sem,E,T.or_eq]) c ⟨rfl,hr⟩
def Ip{a:T}(ha:bO I va a):aI prog 71 #[va] I [] fun v I2 qs=>qs=[]/\bO I2 v a.not:=by intro hd;obtain⟨c,sla,rfl,g⟩:=ha;obtain⟨x,D,rfl,B⟩:=id g;refine fq func71 rfl (by simp[ntmps71]) fun w0=>?_;simp only[ntmps71,E];apply RG;simp only[go_sem,E];refine EK hd [] rfl Cn rfl (F:=[]) rfl (Dh I) ?_;rintro v I2 qs j b⟨mb,rfl,o⟩;obtain⟨A,sv,r,M,rfl,C,t,sq⟩:=id o;simp only[ab]at j |-;apply RG;simp only[go_sem,E,pt];refine EK j [0,1,2] rfl OU rfl (F:=[]) rfl (OA (mb:=mb) c (g.le b) o) ?_;rintro y J qs i f⟨ms,k,l,rfl,m⟩;obtain⟨K,q,z,G,rfl,u,n,s⟩:=id k;simp only[ab]at i |-;apply RG;simp only[go_sem,E,pt];refine EK i [0,1,2] rfl Co rfl (F:=[]) rfl (BR (mb:=mb) k l (T.not_ok c) O) ?_;rintro v2 H qs h e⟨rfl,hr⟩;obtain⟨p,w,rfl⟩:=hr.shape;simp only[ab]at h |-;apply RG;simp only[go_sem,E];exact ao rfl h (r:=[.agg #[.slice p (T.subs a.not).length w,E (T.plc (T.subs a.not) a.not)]]) (by simp only[results71,go_sem,E]) (Y b (Y f e)) ⟨rfl,hr⟩
end Go.Proofs.YtfaclfkpnmcmlaaGreatDoor
