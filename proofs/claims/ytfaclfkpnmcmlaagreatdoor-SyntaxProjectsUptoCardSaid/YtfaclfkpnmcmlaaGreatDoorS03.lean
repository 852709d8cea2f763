import Derived.Test.YtfaclfkpnmcmlaaGreatDoorS02
set_option maxHeartbeats 8000000
set_option linter.all false
namespace Go.Proofs.YtfaclfkpnmcmlaaGreatDoor
open Go Go.Sx Dg
theorem mixed:Tryz.prog.follows .mixedOrders=true:=by kernel_rfl
theorem mJ:aP Tryz.prog 125:=⟨_,Tryz.func125,rfl,rfl⟩
theorem Bl{a b:Nat}(h:iv a=iv b):a=b:=by simp[iv]at h;omega
theorem GG{a b:Nat×Nat×Nat}(h:fG a=fG b):a=b:=by
 obtain⟨a1,a2,a3⟩:=a;obtain⟨b1,b2,b3⟩:=b;simp[fG,iv]at h;obtain⟨h1,h2,h3⟩:=h;rw[Int.ofNat.inj h1,Int.ofNat.inj h2,Int.ofNat.inj h3]
theorem tO{ms:List T}(s:T.Seq ms){i:Nat}{lo hi:T}(hl:T.isIn ms lo)(hh:T.isIn ms hi){u:Value}:OH ms (fG (i,T.plc ms lo,T.plc ms hi)) u<->T.nd i lo hi∈ms/\u=iv (T.plc ms (.nd i lo hi)):=by
 constructor
 ·rintro⟨t,ht,e1,e2⟩;obtain⟨j,hj⟩:=List.mem_iff_getElem?.1 ht;obtain⟨v,l,h,rfl,_⟩:=s.2 j t hj;have:=GG e1;simp only[T.dec,S3]at this;obtain⟨rfl,b,c⟩:=this;have kl:=s.kids ht;rw[T.plc_inj hl kl.1 b,T.plc_inj hh kl.2 c];exact⟨ht,e2⟩
 ·rintro⟨a,b⟩;exact⟨_,a,rfl,b⟩
theorem GD{ms:List T}(s:T.Seq ms){i:Nat}{lo hi:T}(hl:T.isIn ms lo)(hh:T.isIn ms hi)(hn:T.nd i lo hi∉ms)(y u:Value):
  OH (ms++[.nd i lo hi]) y u<->(y=fG (i,T.plc ms lo,T.plc ms hi)/\u=iv (ms.length+2))\/(y≠fG (i,T.plc ms lo,T.plc ms hi)/\OH ms y u):=by
 have isin:∀t∈ms,T.isIn ms t:=fun t ht=>by
  obtain⟨j,hj⟩:=List.mem_iff_getElem?.1 ht;obtain⟨v,l,h,rfl,_⟩:=s.2 j t hj;exact ht
 have new:T.dec (ms++[.nd i lo hi]) (.nd i lo hi)=(i,T.plc ms lo,T.plc ms hi)/\T.plc (ms++[.nd i lo hi]) (.nd i lo hi)=ms.length+2:=by
  refine⟨by simp[T.dec,T.plc_app hl,T.plc_app hh],?_⟩;simp only[T.plc];rw[List.idxOf_append,Sb hn];simp
 unfold OH;constructor
 ·rintro⟨t,ht,e1,e2⟩;rcases List.mem_append.1 ht with h|h
  ·rw[T.dec_app s (isin t h)]at e1;rw[T.plc_app (isin t h)]at e2;refine .inr ⟨fun e=>?_,t,h,e1,e2⟩;exact hn ((tO s hl hh (u:=u)).1 ⟨t,h,e▸e1,e2⟩).1
  ·simp at h;subst h;rw[new.1]at e1;rw[new.2]at e2;exact .inl ⟨e1,e2⟩
 ·rintro(⟨e1,e2⟩|⟨_,t,h,e1,e2⟩)
  ·exact⟨_,SN _ (.head _),by rw[new.1];exact e1,by rw[new.2];exact e2⟩
  ·exact⟨t,SM _ h,by rw[T.dec_app s (isin t h)];exact e1,by rw[T.plc_app (isin t h)];exact e2⟩
theorem wrap64{n:Nat}(h:n<2^62):IntKind.i64.wrap (n:Int)=(n:Int):=by
 have h1:(n:Int) % (2^64:Int)=n:=TH Vi Vi;simp only[IntKind.wrap,show IntKind.bits .i64=64 from rfl,show IntKind.signed .i64=true from rfl,h1];rw[Sb];simp;omega
theorem Z7{i:Nat}(h:i+1<2^62):IntKind.i64.wrap ((i:Int)+1)=((i+1:Nat):Int):=by
 rw[<-wrap64 (n:=i+1) h];congr 1
theorem pO{mb:Nat}{ms:List T}{I:PH}{ps:List PH}(h:wP mb ms ps){i:Nat}{lo hi:T}(an:i<24)(okl:lo.ok (i+1))(okh:hi.ok (i+1))(hl:T.isIn ms lo)(hh:T.isIn ms hi)(a5:ms.length<2^30):
  aO Tryz.prog 125 #[pt mb,iv i,iv (T.plc ms lo),iv (T.plc ms hi)] I ps fun v I2 qs=>∃us,wP mb (ms++us) qs/\us.length<=1/\T.isIn (ms++us) (T.mk i lo hi)/\v=iv (T.plc (ms++us) (T.mk i lo hi)):=by
 intro hd;obtain⟨A,sv,r,M,rfl,hA,hM,sq⟩:=h;have pl:=T.plc_lt hl;have ph:=T.plc_lt hh;refine bK Tryz.func125 rfl (by simp[Tryz.ntmps125]) fun w0=>?_;simp only[Tryz.ntmps125,pt,iv];by_cases e:T.plc ms lo=T.plc ms hi
 ·have e':=T.plc_inj hl hh e;subst e';have ap:((T.plc ms lo:Int) == (T.plc ms lo:Int))=true:=by simp
  apply RG;simp only[go_sem,ap];refine ai rfl hd (r:=[_]) rfl (Uj _) ⟨[],?_,by simp,?_,?_⟩
  ·rw[Tq];exact⟨A,sv,r,M,rfl,hA,hM,sq⟩
  ·rw[Tq];simp only[T.mk,R9];exact hl
  ·simp[T.mk,eN,iv]
 ·have aj:¬lo=hi:=fun e2=>e (by rw[e2]);have ap:((T.plc ms lo:Int) == (T.plc ms hi:Int))=false:=by simp;omega
  apply RG;simp only[go_sem,ap];refine ax mixed [0,1,2,3,4,5,6,7,8,9,10] [3,5] [] rfl rfl ?_;refine Ux ?_;refine P7 (l:=[_]) rfl (cellsU hd (.tail _ (.tail _ (.head _))) (aU (by simp) rfl)) (.inr ⟨G6,rfl⟩) ?_;refine Ux ?_;have a0:=hM.atU hd (by simp);have aa:iD Tryz.prog 181 (fG (i,T.plc ms lo,T.plc ms hi)):=Ml Vi Vi Vi;by_cases ac:T.nd i lo hi∈ms
  ·refine mY LK Fa Hw (key:=fG (i,T.plc ms lo,T.plc ms hi)) rfl rfl rfl rfl rfl a0 aa (iv (T.plc ms (.nd i lo hi))) true (.inl ⟨rfl,(tO sq hl hh).2 ⟨ac,rfl⟩⟩) ?_;refine Ux ?_;refine aw ?_;refine Un ?_;refine ai rfl hd (r:=[_]) rfl (Uj _) ⟨[],?_,by simp,?_,?_⟩
   ·rw[Tq];exact⟨A,sv,r,M,rfl,hA,hM,sq⟩
   ·rw[Tq];simp only[T.mk,Sb aj];exact ac
   ·rw[Tq];simp only[T.mk,Sb aj];rfl
  ·refine mY LK Fa Hw (key:=fG (i,T.plc ms lo,T.plc ms hi)) rfl rfl rfl rfl rfl a0 aa (iv 0) false (.inr ⟨rfl,rfl,fun u hu=>ac ((tO sq hl hh).1 hu).1⟩) ?_;refine Ux ?_;refine aw ?_;refine Un ?_;refine ax mixed [0,1,2,3,4,5,6,7,8,9,10] [4] [6] rfl rfl ?_;refine Ux ?_;refine P7 (l:=[_]) rfl (cellsU hd (.tail _ (.tail _ (.head _))) (aU (by simp) rfl)) (.inr ⟨yW,rfl⟩) ?_;refine Ux ?_;refine aZ hd Jc rfl rfl rfl rfl rfl Vm fun b I2 aS am hb=>?_;refine jt (m:=1) aS Jc hA rfl rfl rfl rfl rfl rfl (cellsU aS (.head _) (az (l:=lm (i,T.plc ms lo,T.plc ms hi)) hb (by simp[lm,aE,Value.cells]) (by simp[lm,aE,Value.cells,iv]))) rfl rfl Vi (by unfold maxLen;omega) fun v' I3 A3 bc ak a1=>?_;obtain⟨a3,c3,rfl⟩:=a1.slice;refine Ux ?_;refine UT bc [1,0,2] fun bb=>?_;refine aH bb rfl rfl rfl rfl rfl rfl Mi (by simp) fun ba=>?_;refine aw ?_;have ao:Dj [I3,sg mb (.cells #[.slice a3 (ms.length+1) c3,.map (some r)] 300 (0,0)),A3,M]:=ba;show RC _ _ _ (U [I3,sg mb (.cells #[.slice a3 (ms.length+1) c3,.map (some r)] 300 (0,0)),A3,M]);refine Un ?_;refine Qz (l:=[_]) rfl (cellsU ao (.tail _ (.head _)) (aU (by simp) rfl)) (.inr ⟨yW,rfl⟩) ?_;have hw:IntKind.i64.wrap (((ms.length+1:Nat):Int)+1)=((ms.length+2:Nat):Int):=by
    have:=wrap64 (n:=ms.length+2) Vi;rw[<-this];congr 1
   apply RG;simp only[go_sem,hw];refine ax mixed [0,1,2,3,4,5,6] [3] [] rfl rfl ?_;refine Ux ?_;refine P7 (l:=[_]) rfl (cellsU ao (.tail _ (.head _)) (aU (by simp) rfl)) (.inr ⟨G6,rfl⟩) ?_;refine Ux ?_;refine UT ao [2,0,1] fun a9=>?_;refine kP (by exact LK) (by exact Fa) (key:=fG (i,T.plc ms lo,T.plc ms hi)) (v:=iv (ms.length+2)) a9 rfl rfl rfl (.inl rfl) rfl rfl rfl hM aa fun M2 a7 bd=>?_;refine aw ?_;refine Un ?_;refine Um a7 [2,1,0] fun a6=>?_;have a4:(T.nd i lo hi).ok 0:=⟨S6 _,an,aj,okl,okh⟩;have a2:T.plc (ms++[.nd i lo hi]) (.nd i lo hi)=ms.length+2:=by
    simp only[T.plc];rw[List.idxOf_append,Sb ac];simp
   refine ai rfl a6 (r:=[_]) rfl (Ui am ak) ⟨[.nd i lo hi],⟨A3,.slice a3 (ms.length+1) c3,r,M2,rfl,a1.xs (by simp) (zG sq hl hh).symm,bd.congr fun y u=>GD sq hl hh ac y u,sq.snoc a4 hl hh ac⟩,by simp,?_,?_⟩
   ·simp only[T.mk,Sb aj];show T.nd i lo hi∈_;simp
   ·simp only[T.mk,Sb aj,a2];rfl
theorem nO(I:PH):aO Tryz.prog 124 #[] I [] fun v I2 qs=>∃mb,v=pt mb/\wP mb [] qs:=by
 intro hd;refine bK Tryz.func124 rfl (by simp[Tryz.ntmps124]) fun w0=>?_;simp only[Tryz.ntmps124];refine Un ?_;refine lW 181 hd rfl rfl fun r M aj hM=>?_;refine Un ?_;refine eP 3 aj rfl fun mb ac=>?_;refine aT ac fun aa=>?_;refine ai rfl aa (r:=[_]) rfl (Uj _) ⟨mb,rfl,PH.no,.slice none 0 0,r,M,rfl,jF.nil _ _,hM.congr fun y u=>⟨fun⟨t,h,_⟩=>(by simp at h),fun h=>h.elim⟩,T.Seq.nil⟩
def pS(I:PH)(sl:Value)(ts:List T):Prop:=∃a c,sl=.slice a ts.length c/\(ts=[]\/∃b,a=some ⟨b,0,none⟩/\aQ I b 0 (BD ts))
theorem pS.le{I J:PH}{sl:Value}{ts:List T}(h:pS I sl ts)(aa:I.le J):pS J sl ts:=by
 obtain⟨a,c,e,h⟩:=h;exact⟨a,c,e,h.imp id fun⟨b,e1,e2⟩=>⟨b,e1,e2.le aa⟩⟩
def cu(I:PH)(v:Value)(t:T):Prop:=t.ok 0/\∃sl,v=.agg #[sl,iv (T.plc (T.subs t) t)]/\pS I sl (T.subs t)
theorem cu.le{I J:PH}{v:Value}{t:T}(h:cu I v t)(aa:I.le J):cu J v t:=by
 obtain⟨a,sl,e,h⟩:=h;exact⟨a,sl,e,h.le aa⟩
theorem OO{H:PH}{sl rv:Value}{ts:List T}{t:T}(hL:pS H sl ts)(sq:T.Seq ts)(ht:T.isIn ts t)(ac:ts.length<2^40):
  bv Tryz.prog 236 #[.agg #[sl,rv],iv (T.plc ts t)] H fun v H2=>v=fG (T.dec ts t)/\H2=H:=by
 obtain⟨a,c,rfl,hc⟩:=hL;refine bK Tryz.func236 rfl (by simp[Tryz.ntmps236]) fun w0=>?_;simp only[Tryz.ntmps236,iv];cases t with
 |lf b=>
  have h6:decide (((T.plc ts (.lf b):Nat):Int)<2)=true:=by simp only[T.plc];split<;>simp
  apply RG;simp only[go_sem,h6];refine aK (r:=[.agg #[.int .i64 24,.int .i64 (T.plc ts (.lf b):Nat),.int .i64 (T.plc ts (.lf b):Nat)]]) (by simp only[Tryz.results236,go_sem]) ⟨?_,rfl⟩;simp only[eN,fG,T.dec,T.plc,iv];cases b<;>rfl
 |nd v l h=>
  have hm:T.nd v l h∈ts:=ht;have hi:=Tw hm;have hp:T.plc ts (.nd v l h)=ts.idxOf (.nd v l h)+2:=rfl;have h6:decide (((T.plc ts (.nd v l h):Nat):Int)<2)=false:=by rw[hp];simp;omega
  have aj:IntKind.i64.wrap (((T.plc ts (.nd v l h):Nat):Int)-2)=((ts.idxOf (.nd v l h):Nat):Int):=by
   rw[<-wrap64 (n:=ts.idxOf (.nd v l h)) Vi,hp];congr 1;omega
  rcases hc with rfl|⟨b,rfl,hc⟩
  ·simp at hm
  ·apply RG;simp only[go_sem,h6,aj];refine⟨⟨Vi,Vi⟩,?_⟩;have hg:=T.plc_get hm;rw[hp,Tx]at hg;have ak:(BD ts).length=ts.length*3:=oG ts;have aa:=hc.sub (ts.idxOf (.nd v l h)*3) 3 Vi;rw[oJ hg,Sf]at aa;refine Qz (l:=lm (T.dec ts (.nd v l h))) (v:=fG (T.dec ts (.nd v l h))) rfl aa (.inl ⟨ti,rfl⟩) ?_;apply RG;simp only[go_sem,fG,iv];refine aK (r:=[fG (T.dec ts (.nd v l h))]) (by simp only[Tryz.results236,go_sem,fG,iv]) ⟨rfl,rfl⟩
theorem K3:Maps.Keyed Tryz.prog 3:=Maps.int_keyed Kw
theorem Hz{n:Nat}(h:n<2^62):iD Tryz.prog 3 (iv n):=⟨_,Maps.keyOf_int_mk Kw (Ek h)⟩
theorem wo:aP Tryz.prog 189:=⟨_,Tryz.func189,rfl,rfl⟩
def Na(ms us:List T)(y u:Value):Prop:=∃t,T.isIn ms t/\T.isIn us t/\y=iv (T.plc ms t)/\u=iv (T.plc us t)
theorem wU{ms us:List T}{t:T}(ht:T.isIn ms t){u:Value}:Na ms us (iv (T.plc ms t)) u<->T.isIn us t/\u=iv (T.plc us t):=by
 constructor
 ·rintro⟨t',h1,h2,h3,h4⟩;have:=T.plc_inj ht h1 (Bl h3);subst this;exact⟨h2,h4⟩
 ·rintro⟨a,b⟩;exact⟨t,ht,a,rfl,b⟩
theorem xS{us:List T}(s:T.Seq us){t:T}(ht:t∈us):T.isIn us t:=by
 obtain⟨j,hj⟩:=List.mem_iff_getElem?.1 ht;obtain⟨v,l,h,rfl,_⟩:=s.2 j t hj;exact ht
theorem wI{us:List T}{v:Nat}{l h:T}(hn:T.nd v l h∉us):T.plc (us++[.nd v l h]) (.nd v l h)=us.length+2:=by
 simp only[T.plc];rw[List.idxOf_append,Sb hn];simp
theorem mL{us:List T}{v:Nat}{l h t:T}:T.isIn (us++[.nd v l h]) t<->T.isIn us t\/t=.nd v l h:=by
 cases t with
 |lf b=>simp[T.isIn]
 |nd v' l' h'=>simp[T.isIn]
theorem Fo{ms us:List T}{v:Nat}{l h:T}(aa:T.isIn ms (.nd v l h))(hn:T.nd v l h∉us)(y u:Value):
  Na ms (us++[.nd v l h]) y u<->(y=iv (T.plc ms (.nd v l h))/\u=iv (us.length+2))\/(y≠iv (T.plc ms (.nd v l h))/\Na ms us y u):=by
 constructor
 ·rintro⟨t,h1,h2,rfl,rfl⟩;rcases mL.1 h2 with h3|rfl
  ·refine .inr ⟨fun e=>?_,t,h1,h3,rfl,by rw[T.plc_app h3]⟩;have:=T.plc_inj h1 aa (Bl e);subst this;exact hn h3
  ·exact .inl ⟨rfl,by rw[wI hn]⟩
 ·rintro(⟨rfl,rfl⟩|⟨_,t,h1,h2,rfl,rfl⟩)
  ·exact⟨_,aa,mL.2 (.inr rfl),rfl,by rw[wI hn]⟩
  ·exact⟨t,h1,mL.2 (.inl h2),rfl,by rw[T.plc_app h2]⟩
def CE(pb tb vb ob:Nat):Value:=.func (.func 189) #[] #[pt pb,pt tb,pt vb,pt ob]
structure EM(I:PH)(pb tb vb ob mb r:Nat)(ms:List T):Prop where
 hp:I pb=some (.cells #[.map (some r)] 301 (0,0))
 ht:I tb=some (.cells #[pt mb] 217 (0,0))
 hv:I vb=some (.cells #[CE pb tb vb ob] 302 (0,0))
 hm:∃slv m,I mb=some (.cells #[slv,m] 300 (0,0))/\pS I slv ms
 sq:T.Seq ms
 len:ms.length<2^30
theorem EM.le{I J:PH}{pb tb vb ob mb r:Nat}{ms:List T}(h:EM I pb tb vb ob mb r ms)(aa:I.le J):EM J pb tb vb ob mb r ms:=
 ⟨aa _ _ h.hp,aa _ _ h.ht,aa _ _ h.hv,let ⟨a,b,c,d⟩:=h.hm;⟨a,b,aa _ _ c,d.le aa⟩,h.sq,h.len⟩
def MF(ob r:Nat)(ms us:List T)(qs:List PH):Prop:=∃A sv M,qs=[A,sg ob (.cells #[sv] 48 (0,0)),M]/\jF A 181 3 sv us.length (BD us)/\jh Tryz.prog M r 3 (Na ms us)/\T.Seq us
theorem IX{pb tb vb ob mb r:Nat}{ms:List T}(t:T):∀{k:Nat} {us:List T} {I:PH} {ps:List PH},t.ok k->k<=24->T.isIn ms t->EM I pb tb vb ob mb r ms->MF ob r ms us ps->us.length+2^(24-k)<=2^30->
  aO Tryz.prog 189 #[iv (T.plc ms t),pt pb,pt tb,pt vb,pt ob] I ps fun v I2 qs=>MF ob r ms (t.vis us) qs/\v=iv (T.plc (t.vis us) t):=by
 induction t with
 |lf x=>
  intro k us I ps hk a2 an hI hP a7 hd;obtain⟨A,sv,M,rfl,hA,hM,sq⟩:=hP;refine bK Tryz.func189 rfl (by simp[Tryz.ntmps189]) fun w0=>?_;simp only[Tryz.ntmps189,pt,iv];refine Un ?_;refine Qz (l:=[_]) rfl (cellsU hd (.head _) (az hI.hp (by simp) rfl)) (.inr ⟨Bt,rfl⟩) ?_;refine Un ?_;refine kh (by exact K3) (by exact uF) (by exact Hw) (key:=iv (T.plc ms (.lf x))) rfl rfl rfl rfl (hM.atU hd (by simp)) (by exact Hz (by simp only[T.plc];split<;>omega)) (iv (T.plc us (.lf x))) true (.inl ⟨rfl,(wU an).2 ⟨trivial,rfl⟩⟩) ?_;refine Un ?_;exact ai rfl hd (r:=[_]) rfl (Uj _) ⟨⟨A,sv,M,rfl,hA,hM,sq⟩,rfl⟩
 |nd v l h ihl ihh=>
  intro k us I ps hk a2 an hI hP a7 hd;obtain⟨A,sv,M,rfl,hA,hM,sq⟩:=hP;have cy:=T.plc_lt an;have cB:=hI.len;have ak:iD Tryz.prog 3 (iv (T.plc ms (.nd v l h))):=Hz Vi;refine bK Tryz.func189 rfl (by simp[Tryz.ntmps189]) fun w0=>?_;simp only[Tryz.ntmps189,pt,iv];refine Un ?_;refine Qz (l:=[_]) rfl (cellsU hd (.head _) (az hI.hp (by simp) rfl)) (.inr ⟨Bt,rfl⟩) ?_;refine Un ?_;by_cases ac:T.nd v l h∈us
  ·refine kh (by exact K3) (by exact uF) (by exact Hw) (key:=iv (T.plc ms (.nd v l h))) rfl rfl rfl rfl (hM.atU hd (by simp)) (by exact ak) (iv (T.plc us (.nd v l h))) true (.inl ⟨rfl,(wU an).2 ⟨ac,rfl⟩⟩) ?_;refine Un ?_;refine ai rfl hd (r:=[_]) rfl (Uj _) ⟨?_,?_⟩
   ·simp only[T.vis,SI ac];exact⟨A,sv,M,rfl,hA,hM,sq⟩
   ·simp only[T.vis,SI ac];rfl
  ·refine kh (by exact K3) (by exact uF) (by exact Hw) (key:=iv (T.plc ms (.nd v l h))) rfl rfl rfl rfl (hM.atU hd (by simp)) (by exact ak) (iv 0) false (.inr ⟨rfl,rfl,fun u hu=>ac ((wU an).1 hu).1⟩) ?_;refine Un ?_;refine Qz (l:=[_]) rfl (cellsU hd (.head _) (az hI.ht (by simp) rfl)) (.inr ⟨uX,rfl⟩) ?_;apply RG;simp only[go_sem,pt];obtain⟨slv,mm,b5,am,cm,rfl,cn⟩:=hI.hm;refine Qz (l:=[_]) rfl (cellsU hd (.head _) (az b5 (by simp) rfl)) (.inr ⟨yW,rfl⟩) ?_;have hm:T.nd v l h∈ms:=an;have hi:=Tw hm;have hp:T.plc ms (.nd v l h)=ms.idxOf (.nd v l h)+2:=rfl;have cx:IntKind.i64.wrap (((T.plc ms (.nd v l h):Nat):Int)-2)=((ms.idxOf (.nd v l h):Nat):Int):=by
    rw[<-wrap64 (n:=ms.idxOf (.nd v l h)) Vi,hp];congr 1;omega
   rcases cn with rfl|⟨lb,rfl,hc⟩
   ·simp at hm
   ·apply RG;simp only[go_sem,cx];refine⟨⟨Vi,Vi⟩,?_⟩;have hg:=T.plc_get hm;rw[hp,Tx]at hg;have c0:(BD ms).length=ms.length*3:=oG ms;have aj:=hc.sub (ms.idxOf (.nd v l h)*3) 3 Vi;rw[oJ hg,Sf]at aj;refine Qz (l:=lm (T.dec ms (.nd v l h))) (v:=fG (T.dec ms (.nd v l h))) rfl (cellsU hd (.head _) aj) (.inl ⟨ti,rfl⟩) ?_;apply RG;simp only[go_sem,fG,iv,T.dec];refine Qz (l:=[_]) rfl (cellsU hd (.head _) (az hI.hv (by simp) rfl)) (.inr ⟨Ci,rfl⟩) ?_;apply RG;simp only[go_sem,fG,iv,T.dec,CE];have okl:=hk.2.2.2.1;have okh:=hk.2.2.2.2;have b3:=hk.2.1;have c1:=hk.1;have kin:=hI.sq.kids hm;have cA:2^(24-(v+1))+2^(24-(v+1))<=2^(24-k):=by
     have:2^(24-(v+1))+2^(24-(v+1))=2^(24-v):=by rw[show 24-v=(24-(v+1))+1 by omega,Ty];omega
     rw[this];exact Tz Vi Vi
    obtain⟨s1,i1,us1,e1,n1,_⟩:=T.vis_spec l okl Vi us sq;obtain⟨s2,i2,us2,e2,n2,_⟩:=T.vis_spec h okh Vi _ s1;have len1:(l.vis us).length=us.length+us1.length:=by rw[e1];simp
    have len2:(h.vis (l.vis us)).length=(l.vis us).length+us2.length:=by rw[e2];simp
    have aa:(T.nd v l h).vis us=h.vis (l.vis us)++[.nd v l h]:=by simp only[T.vis,Sb ac]
    have s3:T.Seq ((T.nd v l h).vis us):=(T.vis_spec _ hk a2 us sq).1;have ao:T.nd v l h∉h.vis (l.vis us):=by
     rw[aa]at s3;intro cf;exact(List.nodup_append.1 s3.1).2.2 _ cf _ (.head _) rfl
    have pl1:T.plc (h.vis (l.vis us)) l=T.plc (l.vis us) l:=by rw[e2];exact T.plc_app i1
    have i1':T.isIn (h.vis (l.vis us)) l:=by rw[e2];exact i1.app
    have b1:=T.plc_lt i1;have b2:=T.plc_lt i2;refine NB hd [0,1,2] rfl wo rfl (F:=[]) rfl (ihl okl Vi kin.1 hI ⟨A,sv,M,rfl,hA,hM,sq⟩ Vi) fun v1 I2 qs bb a1 a6=>?_;obtain⟨⟨A2,sv2,M2,rfl,ct,cl,sq2⟩,rfl⟩:=a6;simp only[Tq]at bb |-;have bd:=hI.le a1;apply RG;simp only[go_sem,iv];refine Qz (l:=[_]) rfl (cellsU bb (.head _) (az bd.hv (by simp) rfl)) (.inr ⟨Ci,rfl⟩) ?_;apply RG;simp only[go_sem,iv,CE];refine NB bb [0,1,2] rfl wo rfl (F:=[]) rfl (ihh okh Vi kin.2 bd ⟨A2,sv2,M2,rfl,ct,cl,sq2⟩ Vi) fun v2 I3 qs ba a0 a4=>?_;obtain⟨⟨A3,sv3,M3,rfl,cs,cj,sq3⟩,rfl⟩:=a4;simp only[Tq]at ba |-;have cr:=bd.le a0;apply RG;simp only[go_sem,iv];refine Qz (l:=[_]) rfl (cellsU ba (.tail _ (.tail _ (.head _))) (aU (by simp) rfl)) (.inr ⟨yW,rfl⟩) ?_;apply RG;simp only[go_sem,iv];refine av ba (by exact Jc) rfl rfl rfl rfl rfl Vm fun nb I4 bx aS b4=>?_;apply RG;simp only[go_sem,iv];refine dr (m:=1) bx (by exact Jc) cs rfl rfl rfl rfl (cellsU bx (.head _) (az (l:=lm (v,T.plc (l.vis us) l,T.plc (h.vis (l.vis us)) h)) b4 (by simp[lm,aE,Value.cells]) (by simp[lm,aE,Value.cells,iv]))) rfl rfl Vi (by unfold maxLen;omega) fun v' I5 A5 cc ap b0=>?_;obtain⟨a5,c5,rfl⟩:=b0.slice;apply RG;simp only[go_sem,iv];refine Um cc [1,0,2] fun cb=>?_;refine cG cb rfl rfl rfl rfl rfl (by exact Mi) (by simp) fun ca=>?_;have a9:Dj [I5,sg ob (.cells #[.slice a5 ((h.vis (l.vis us)).length+1) c5] 48 (0,0)),A5,M3]:=ca;show RC _ _ _ (U [I5,sg ob (.cells #[.slice a5 ((h.vis (l.vis us)).length+1) c5] 48 (0,0)),A5,M3]);have cp:=(cr.le aS).le ap;apply RG;simp only[go_sem,iv];refine Qz (l:=[_]) rfl (cellsU a9 (.head _) (az cp.hp (by simp) rfl)) (.inr ⟨Bt,rfl⟩) ?_;apply RG;simp only[go_sem,iv]
    refine Qz (l:=[_]) rfl (cellsU a9 (.tail _ (.head _)) (aU (by simp) rfl)) (.inr ⟨yW,rfl⟩) ?_;have hw:IntKind.i64.wrap ((((h.vis (l.vis us)).length+1:Nat):Int)+1)=(((h.vis (l.vis us)).length+2:Nat):Int):=by
     have:=wrap64 (n:=(h.vis (l.vis us)).length+2) Vi;rw[<-this];congr 1
    apply RG;simp only[go_sem,iv,hw];refine Um a9 [2,0,1] fun b6=>?_;refine kM (by exact K3) (by exact uF) (key:=iv (T.plc ms (.nd v l h))) (v:=iv ((h.vis (l.vis us)).length+2)) b6 rfl (.inl rfl) rfl rfl rfl cj (by exact ak) fun M6 a3 ci=>?_;apply RG;simp only[go_sem,iv];refine Qz (l:=[_]) rfl (cellsU a3 (.tail _ (.tail _ (.head _))) (aU (by simp) rfl)) (.inr ⟨yW,rfl⟩) ?_;apply RG;simp only[go_sem,iv,hw];refine Um a3 [2,1,0] fun bc=>?_;refine ai rfl bc (r:=[_]) rfl (Ui a1 (Ui a0 (Ui aS ap))) ⟨?_,?_⟩
    ·refine⟨A5,_,M6,rfl,b0.xs (by rw[aa];simp) ?_,ci.congr fun y u=>by rw[aa];exact Fo an ao y u,s3⟩;rw[aa,zG s2 i1' i2,pl1]
    ·rw[aa,wI ao];rfl
theorem wg:aP Tryz.prog 124:=⟨_,Tryz.func124,rfl,rfl⟩
theorem wG:aP Tryz.prog 126:=⟨_,Tryz.func126,rfl,rfl⟩
theorem jF.lst{A J:PH}{sv:Value}{ts:List T}(h:jF A 181 3 sv ts.length (BD ts))(aa:A.le J):pS J sv ts:=by
 obtain⟨a,c,e⟩:=h.slice;rcases TI ts.length with hz|hp
 ·subst e;exact⟨a,c,rfl,.inl (List.length_eq_zero_iff.1 hz)⟩
 ·obtain⟨g,cap,e2,hc⟩:=h.1.cells hp;exact⟨_,cap,e2,.inr ⟨g,rfl,hc.le aa⟩⟩
theorem IN {ms : List T} (y u : Value) : Na ms [] y u ↔ (y = iv 1 ∧ u = iv 1) ∨ (y ≠ iv 1 ∧ ((y = iv 0 ∧ u = iv 0) ∨ (y ≠ iv 0 ∧ False))) := by
  have aa : iv 0 ≠ iv 1 := fun e => absurd (Bl e) Vi
  constructor
  · rintro ⟨t, h1, h2, rfl, rfl⟩
    cases t with
    | lf b => cases b
              · exact .inr ⟨aa, .inl ⟨rfl, rfl⟩⟩
              · exact .inl ⟨rfl, rfl⟩
    | nd v l h => exact absurd h2 (by simp [T.isIn])
  · rintro (⟨rfl, rfl⟩ | ⟨_, ⟨rfl, rfl⟩ | ⟨_, h⟩⟩)
    · exact ⟨.lf true, trivial, trivial, rfl, rfl⟩
    · exact ⟨.lf false, trivial, trivial, rfl, rfl⟩
    · exact h.elim
theorem zN{mb:Nat}{ms:List T}{I:PH}{ps:List PH}{t:T}(h:wP mb ms ps)(ht:T.isIn ms t)(a3:t.ok 0)(a7:ms.length<2^29):
  aO Tryz.prog 126 #[pt mb,iv (T.plc ms t)] I ps fun v I2 qs=>qs=[]/\cu I2 v t:=by
 intro hd;obtain⟨A,sv,r,M,rfl,hA,hM,sq⟩:=h;refine bK Tryz.func126 rfl (by simp[Tryz.ntmps126]) fun w0=>?_;simp only[Tryz.ntmps126,pt,iv];refine ag (c:=.st _) hd fun I1 b2 le1 leA=>?_;refine ag (c:=.st _) b2 fun I2 b1 le2 leB=>?_;refine ag (c:=.st _) b1 fun I3 b0 le3 leC=>?_;refine Un ?_;refine lW 3 b0 rfl rfl fun q M1 bx b5=>?_;refine Un ?_;refine kM (by exact K3) (by exact uF) (key:=iv 0) (v:=iv 0) bx rfl (.inr rfl) rfl rfl rfl b5 (by exact Hz Vi) fun M2 bd b4=>?_;refine Un ?_;refine kM (by exact K3) (by exact uF) (key:=iv 1) (v:=iv 1) bd rfl (.inr rfl) rfl rfl rfl b4 (by exact Hz Vi) fun M3 bc b3=>?_;apply bq 9;simp only[go_sem];refine eP 6 bc rfl fun pb bb=>?_;refine ag bb fun I4 ba le4 lpb=>?_;refine eP 2 ba rfl fun tb a9=>?_;refine ag a9 fun I5 a1 le5 ltb=>?_;refine eP 5 a1 rfl fun ob a0=>?_;refine aT a0 fun aS=>?_;refine eP 7 aS rfl fun vb ap=>?_;apply RG;simp only[go_sem,kE,List.map];refine cG ap rfl rfl rfl rfl rfl (by exact KY) (by simp) fun ao=>?_;refine ag ao fun I6 ac le6 lvb=>?_;have a2:EM I6 pb tb vb ob mb q ms:=by
  refine⟨le6 _ _ (le5 _ _ (lpb _ _ (cP _ _))),le6 _ _ (ltb _ _ (cP _ _)),lvb _ _ (cP _ _),⟨sv,.map (some r),?_,?_⟩,sq,Vi⟩
  ·exact le6 _ _ (le5 _ _ (le4 _ _ (le3 _ _ (leB _ _ (cP _ _)))))
  ·exact jF.lst hA (Ui leA (Ui le2 (Ui le3 (Ui le4 (Ui le5 le6)))))
 refine Un ?_;refine Qz (l:=[_]) rfl (cellsU ac (.head _) (az a2.hv (by simp) rfl)) (.inr ⟨Ci,rfl⟩) ?_;apply RG;simp only[go_sem,CE];have a5:MF ob q ms [] [PH.no,sg ob (.cells #[.slice none 0 0] 48 (0,0)),M3]:=⟨PH.no,_,M3,rfl,jF.nil _ _,b3.congr IN,T.Seq.nil⟩;refine NB ac [0,1,2] rfl wo rfl (F:=[]) rfl (IX t a3 Vi ht a2 a5 Vm) fun v1 I7 qs aa aj a6=>?_;obtain⟨⟨A2,sv2,M4,rfl,a4,ca,sq2⟩,rfl⟩:=a6;simp only[Tq]at aa |-;obtain⟨sa,sc,rfl⟩:=a4.slice;apply RG;simp only[go_sem,iv];refine Qz (l:=[_]) rfl (cellsU aa (.tail _ (.tail _ (.head _))) (aU (by simp) rfl)) (.inr ⟨yW,rfl⟩) ?_;apply RG;simp only[go_sem,iv];refine ag aa fun I8 an le8 lA2=>?_;refine ag an fun I9 am le9 _=>?_;refine ag am fun b6 ak le10 _=>?_;have lall:I.le b6:=Ui le1 (Ui le2 (Ui le3 (Ui le4 (Ui le5 (Ui le6 (Ui aj (Ui le8 (Ui le9 le10))))))));refine ai (r:=[.agg #[.slice sa (t.vis []).length sc,iv (T.plc (t.vis []) t)]]) rfl ak (by simp only[Tryz.results126,go_sem,iv]) lall ⟨rfl,a3,_,rfl,?_⟩;exact jF.lst a4 (Ui lA2 (Ui le9 le10))
theorem Ht(a b:Nat):((a:Int) == (b:Int))=decide (a=b):=by
 by_cases h:a=b
 ·subst h;simp
 ·have:¬(a:Int)=b:=by omega
  simp[h,this]
theorem pK(a:Nat):((a:Int) == 0)=decide (a=0):=Ht a 0
theorem pF(a:Nat):((a:Int) == 1)=decide (a=1):=Ht a 1
theorem Ho{ts:List T}{t:T}:T.plc ts t=0<->t=.lf false:=by
 cases t with
 |lf b=>cases b<;>simp[T.plc]
 |nd v l h=>simp[T.plc]
theorem GU{ts:List T}{t:T}:T.plc ts t=1<->t=.lf true:=by
 cases t with
 |lf b=>cases b<;>simp[T.plc]
 |nd v l h=>simp[T.plc]
theorem fq{I H:PH}{v:Value}{t:T}(h:cu I v t):bv Tryz.prog 50 #[v] H fun v H2=>v=.bool (decide (t=.lf false))/\H2=H:=by
 obtain⟨aa,sl,rfl,hL⟩:=h;obtain⟨a,c,rfl,_⟩:=hL;refine bK Tryz.func50 rfl (by simp[Tryz.ntmps50]) fun w0=>?_;simp only[Tryz.ntmps50,iv];apply RG;simp only[go_sem,pK];exact aK (r:=[_]) rfl ⟨by simp[eN,Ho],rfl⟩
theorem Fs{I H:PH}{v:Value}{t:T}(h:cu I v t):bv Tryz.prog 68 #[v] H fun v H2=>v=.bool (decide (t=.lf true))/\H2=H:=by
 obtain⟨aa,sl,rfl,hL⟩:=h;obtain⟨a,c,rfl,_⟩:=hL;refine bK Tryz.func68 rfl (by simp[Tryz.ntmps68]) fun w0=>?_;simp only[Tryz.ntmps68,iv];apply RG;simp only[go_sem,pF];exact aK (r:=[_]) rfl ⟨by simp[eN,GU],rfl⟩
theorem jP(I:PH)(b:Bool):cu I (.agg #[.slice none 0 0,iv (if b then 1 else 0)]) (.lf b):=⟨trivial,_,rfl,none,0,rfl,.inl rfl⟩
theorem Bo(H:PH):bv Tryz.prog 27 #[] H fun v H2=>v=.agg #[.slice none 0 0,iv 1]/\H2=H:=by
 refine bK Tryz.func27 rfl (by simp[Tryz.ntmps27]) fun w0=>?_;simp only[Tryz.ntmps27];refine Un ?_;exact aK (r:=[.agg #[.slice none 0 0,iv 1]]) (by simp only[Tryz.results27,go_sem,iv,TJ]) ⟨rfl,rfl⟩
theorem oH(H:PH):bv Tryz.prog 80 #[] H fun v H2=>v=.agg #[.slice none 0 0,iv 0]/\H2=H:=by
 refine bK Tryz.func80 rfl (by simp[Tryz.ntmps80]) fun w0=>?_;simp only[Tryz.ntmps80];refine Un ?_;exact aK (r:=[.agg #[.slice none 0 0,iv 0]]) (by simp only[Tryz.results80,go_sem,iv,TJ]) ⟨rfl,rfl⟩
def xv(x y:Nat):Option Bool:=if x=0\/y=0 then some false else if x=1/\y=1 then some true else none
def HM(x y:Nat):Option Bool:=if x=1\/y=1 then some true else if x=0/\y=0 then some false else none
def bn(b:Bool):Nat:=if b then 1 else 0
def Pq(f:FuncId)(S:Nat->Nat->Option Bool):Prop:=∀(x y:Nat) (H:PH),bv Tryz.prog f #[iv x,iv y] H fun v H2=>H2=H/\∃r,v=.tuple #[iv r,.bool (S x y).isSome]/\∀b,S x y=some b->r=bn b
theorem Fz:Pq 97 HM:=by
 intro x y H;refine bK Tryz.func97 rfl (by simp[Tryz.ntmps97]) fun w0=>?_;simp only[Tryz.ntmps97,iv];have e1:((x:Int) == 1)=decide (x=1):=pF x;cases h1:decide (x=1)
 ·cases h2:decide (y=1)
  ·cases h3:decide (x=0)
   ·apply RG;simp only[go_sem,pF,pK,h1,h2,h3];refine aK (r:=[_,_]) rfl ⟨rfl,0,?_,?_⟩<;>simp_all[eN,HM,iv]
   ·apply RG;simp only[go_sem,pF,pK,h1,h2,h3];refine aK (r:=[_,_]) rfl ⟨rfl,0,?_,?_⟩
    ·by_cases hy:y=0<;>simp_all[eN,HM,iv,bn]
    ·intro b hb;simp_all[HM,bn]
  ·apply RG;simp only[go_sem,pF,pK,h1,h2];refine aK (r:=[_,_]) rfl ⟨rfl,1,?_,?_⟩<;>simp_all[eN,HM,iv,bn]
 ·apply RG;simp only[go_sem,pF,pK,h1];refine aK (r:=[_,_]) rfl ⟨rfl,1,?_,?_⟩<;>simp_all[eN,HM,iv,bn]
theorem KD(x y:Nat):Af (.int .i64 x) (.int .i64 y)=some (.int .i64 ((min x y:Nat):Int)):=by
 simp only[Af,Sc,Value.int.injEq,SP];split<;>omega
theorem Nq(x:Nat):Af (.int .i64 x) (.int .i64 1)=some (.int .i64 ((min x 1:Nat):Int)):=KD x 1
theorem L7:Pq 163 xv:=by
 intro x y H;refine bK Tryz.func163 rfl (by simp[Tryz.ntmps163]) fun w0=>?_;simp only[Tryz.ntmps163,iv];apply RG;simp only[go_sem,pF,pK];refine rI (iv (min (min x y) 1)) rfl rfl (fun w _=>?_) ?_
 ·simp only[execOp,resolve,bp,ev,lV,invoke,builtin,Builtin.min_,Se];simp[Result.andThen,List.foldlM,resolve,bp,ev,lV,invoke,builtin,Builtin.min_,-Nat.min_assoc];rw[tY (KD x y)];simp only[];rw[tY (Nq _)];simp[iv,Nat.min_assoc]
 cases h1:decide (x=0)
 ·cases h2:decide (y=0)
  ·cases h3:decide (x=1)
   ·apply RG;simp only[go_sem,pF,pK,h1,h2,h3];refine aK (r:=[_,_]) rfl ⟨rfl,min (min x y) 1,?_,?_⟩<;>simp_all[eN,xv,iv]
   ·apply RG;simp only[go_sem,pF,pK,h1,h2,h3];refine aK (r:=[_,_]) rfl ⟨rfl,min (min x y) 1,?_,?_⟩
    ·by_cases hy:y=1<;>simp_all[eN,xv,iv,bn]
    ·intro b hb;simp_all[xv,bn]
  ·apply RG;simp only[go_sem,pF,pK,h1,h2];apply RG;simp only[go_sem,pF,pK,h1,h2];refine aK (r:=[_,_]) rfl ⟨rfl,min (min x y) 1,?_,?_⟩<;>simp_all[eN,xv,iv,bn]
 ·apply RG;simp only[go_sem,pF,pK,h1];apply RG;simp only[go_sem,pF,pK,h1];refine aK (r:=[_,_]) rfl ⟨rfl,min (min x y) 1,?_,?_⟩<;>simp_all[eN,xv,iv,bn]
end Go.Proofs.YtfaclfkpnmcmlaaGreatDoor
namespace Dg.T
open Dg
def opT(f:Bool->Bool->Bool)(s t:T):T:=op f 24 s t
theorem opT_ok{f:Bool->Bool->Bool}{s t:T}{k:Nat}(hs:s.ok k)(ht:t.ok k)(hk:k<=24):(opT f s t).ok k:=(mG f 24 k s t Vi hk hs ht).1
theorem wS{f:Bool->Bool->Bool}{s t:T}(hs:s.ok 0)(ht:t.ok 0)(c:cg):(opT f s t).at' c=f (s.at' c) (t.at' c):=(mG f 24 0 s t Vi Vi hs ht).2 c
theorem opT_rec{f:Bool->Bool->Bool}{s t:T}{i:Nat}(hs:s.ok 0)(ht:t.ok 0)(hi:i=min s.var t.var)(aa:i<24):opT f s t=mk i (opT f (lo i s) (lo i t)) (opT f (T.hi i s) (T.hi i t)):=by
 have l1:=lo_ok hs (show i<=s.var by omega);have l2:=lo_ok ht (show i<=t.var by omega);have r1:=hi_ok hs (show i<=s.var by omega);have r2:=hi_ok ht (show i<=t.var by omega);refine ext (opT_ok hs ht Vi) (mk_ok (k:=0) (S6 i) aa (opT_ok l1 l2 Vi) (opT_ok r1 r2 Vi)) fun c=>?_;rw[wS hs ht,mk_at,wS (l1.mono (S6 _)) (l2.mono (S6 _)),wS (r1.mono (S6 _)) (r2.mono (S6 _)),ou i s c,ou i t c];split<;>rfl
theorem opT_lf{f:Bool->Bool->Bool}{s t:T}{b:Bool}(hs:s.ok 0)(ht:t.ok 0)(h:∀c,f (s.at' c) (t.at' c)=b):opT f s t=lf b:=
 ext (opT_ok hs ht Vi) (show (lf b).ok 0 from trivial) fun c=>by rw[wS hs ht,h];rfl
theorem and_eq(s t:T):and s t=opT (· && ·) s t:=rfl
theorem or_eq(s t:T):or s t=opT (· || ·) s t:=rfl
theorem dec_var(ts:List T)(t:T):(dec ts t).1=t.var:=by cases t<;>rfl
theorem dec_lo (ts : List T) (t : T) {i : Nat} (hi : i ≤ t.var) (aa : i < 24) : (if (dec ts t).1 = i then (dec ts t).2.1 else plc ts t) = plc ts (lo i t) := by
  cases t with
  | lf b => have e : ¬ (24 = i) := by omega
            simp [dec, lo, e]
  | nd v l h => by_cases e : v = i <;> simp [dec, lo, e]
theorem dec_hi (ts : List T) (t : T) {i : Nat} (hi : i ≤ t.var) (aa : i < 24) : (if (dec ts t).1 = i then (dec ts t).2.2 else plc ts t) = plc ts (T.hi i t) := by
  cases t with
  | lf b => have e : ¬ (24 = i) := by omega
            simp [dec, T.hi, e]
  | nd v l h => by_cases e : v = i <;> simp [dec, T.hi, e]
theorem isIn_lo {ts : List T} (s : Seq ts) {t : T} (h : isIn ts t) (i : Nat) : isIn ts (lo i t) := by
  cases t with
  | lf b => trivial
  | nd v l r => simp only [lo]; split
                · exact (s.kids h).1
                · exact h
theorem isIn_hi {ts : List T} (s : Seq ts) {t : T} (h : isIn ts t) (i : Nat) : isIn ts (T.hi i t) := by
  cases t with
  | lf b => trivial
  | nd v l r => simp only [T.hi]; split
                · exact (s.kids h).2
                · exact h
end Dg.T
namespace Go.Proofs.YtfaclfkpnmcmlaaGreatDoor
open Go Go.Sx Dg
theorem Kx:Tryz.prog.underlying 335=some (.array 2 3):=by kernel_rfl
theorem OF:Tryz.prog.keyTypeAt 3 335=true:=by kernel_rfl
theorem NS:Tryz.prog.tiled 3 335=true:=by kernel_rfl
theorem GH:Maps.Keyed Tryz.prog 335:=by
 refine Maps.Keyed.of_law (deep_law (m:=3) Vi OF NS ?_);rw[Kx]
theorem Iu:Tryz.prog.keyType 335=true:=by kernel_rfl
theorem Gt:Tryz.prog.cellsOf 335=2:=by kernel_rfl
def kV(x y:Nat):Value:=.agg #[iv x,iv y]
theorem Ok{P:Program}{k t:TypeId}{a b:Nat}(hk:P.underlying k=some (.array 2 t))(h1:P.keyType k=true)(h2:P.cellsOf k=2)(h3:P.cellsOf t=1)(h4:P.underlying t=some (.int .i64))(h5:1<P.types.size)
  (ha:a<2^62) (hb:b<2^62):iD P k (kV a b):=by
 obtain⟨n,hn⟩:∃n,P.types.size=n+1:=⟨P.types.size-1,Vi⟩;unfold iD keyOf;rw[h1];simp[hk,Value.formed,kV,hn,Program.keyLits,h2,h3,h4,Value.cells,Ek ha,Ek hb,iv,List.range,List.range.loop]
theorem LC{a b:Nat}(ha:a<2^62)(hb:b<2^62):iD Tryz.prog 335 (kV a b):=Ok Kx Iu Gt Bg Kw FT ha hb
theorem FQ{a b c d:Nat}(h:kV a b=kV c d):a=c/\b=d:=by
 simp[kV,iv]at h;exact⟨Int.ofNat.inj h.1,Int.ofNat.inj h.2⟩
def MS(f:Bool->Bool->Bool)(ta tb ms:List T)(L:List (T×T))(y u:Value):Prop:=∃s t,(s,t)∈L/\y=kV (T.plc ta s) (T.plc tb t)/\u=iv (T.plc ms (T.opT f s t))
def Hs(f:Bool->Bool->Bool)(ta tb ms:List T)(L:List (T×T)):Prop:=∀s t,(s,t)∈L->T.isIn ta s/\T.isIn tb t/\T.isIn ms (T.opT f s t)
theorem Hs.app{f:Bool->Bool->Bool}{ta tb ms us:List T}{L:List (T×T)}(h:Hs f ta tb ms L):Hs f ta tb (ms++us) L:=fun s t hm=>⟨(h s t hm).1,(h s t hm).2.1,(h s t hm).2.2.app⟩
theorem wY{f:Bool->Bool->Bool}{ta tb ms us:List T}{L:List (T×T)}(h:Hs f ta tb ms L)(y u:Value):MS f ta tb (ms++us) L y u<->MS f ta tb ms L y u:=by
 constructor
 ·rintro⟨s,t,hm,a,b⟩;exact⟨s,t,hm,a,by rw[b,T.plc_app (h s t hm).2.2]⟩
 ·rintro⟨s,t,hm,a,b⟩;exact⟨s,t,hm,a,by rw[b,T.plc_app (h s t hm).2.2]⟩
theorem Gk{f:Bool->Bool->Bool}{ta tb ms:List T}{L:List (T×T)}(h:Hs f ta tb ms L){s t:T}(hs:T.isIn ta s)(ht:T.isIn tb t){u:Value}:MS f ta tb ms L (kV (T.plc ta s) (T.plc tb t)) u<->(s,t)∈L/\u=iv (T.plc ms (T.opT f s t)):=by
 constructor
 ·rintro⟨s',t',hm,a,b⟩;obtain⟨e1,e2⟩:=FQ a;have h1:=T.plc_inj hs (h s' t' hm).1 e1;have h2:=T.plc_inj ht (h s' t' hm).2.1 e2;subst h1;subst h2;exact⟨hm,b⟩
 ·rintro⟨a,b⟩;exact⟨s,t,a,rfl,b⟩
theorem r9{f:Bool->Bool->Bool}{ta tb ms:List T}{L:List (T×T)}(h:Hs f ta tb ms L){s t:T}(hs:T.isIn ta s)(ht:T.isIn tb t)(y u:Value):
  MS f ta tb ms ((s,t)::L) y u<->(y=kV (T.plc ta s) (T.plc tb t)/\u=iv (T.plc ms (T.opT f s t)))\/(y≠kV (T.plc ta s) (T.plc tb t)/\MS f ta tb ms L y u):=by
 constructor
 ·rintro⟨s',t',hm,rfl,rfl⟩;rcases List.mem_cons.1 hm with e|aa
  ·cases e;exact .inl ⟨rfl,rfl⟩
  ·by_cases e:kV (T.plc ta s') (T.plc tb t')=kV (T.plc ta s) (T.plc tb t)
   ·obtain⟨e1,e2⟩:=FQ e;have h1:=T.plc_inj (h s' t' aa).1 hs e1;have h2:=T.plc_inj (h s' t' aa).2.1 ht e2;subst h1;subst h2;exact .inl ⟨rfl,rfl⟩
   ·exact .inr ⟨e,s',t',aa,rfl,rfl⟩
 ·rintro(⟨rfl,rfl⟩|⟨_,s',t',hm,rfl,rfl⟩)
  ·exact⟨s,t,.head _,rfl,rfl⟩
  ·exact⟨s',t',.tail _ hm,rfl,rfl⟩
structure y7(I:PH)(pb mb q:Nat)(sla ra slb rb:Value)(ta tb:List T):Prop where
 hp:I pb=some (.cells #[pt mb,sla,ra,slb,rb,.map (some q)] 262 (0,0))
 ha:pS I sla ta
 hb:pS I slb tb
 sa:T.Seq ta
 sb:T.Seq tb
 la:ta.length<2^30
 lb:tb.length<2^30
theorem y7.le{I J:PH}{pb mb q:Nat}{sla ra slb rb:Value}{ta tb:List T}(h:y7 I pb mb q sla ra slb rb ta tb)(aa:I.le J):y7 J pb mb q sla ra slb rb ta tb:=
 ⟨aa _ _ h.hp,h.ha.le aa,h.hb.le aa,h.sa,h.sb,h.la,h.lb⟩
def KW(f:Bool->Bool->Bool)(mb q:Nat)(ta tb ms:List T)(L:List (T×T))(qs:List PH):Prop:=∃mk N,qs=mk++[N]/\wP mb ms mk/\jh Tryz.prog N q 335 (MS f ta tb ms L)/\Hs f ta tb ms L
structure BT(S:Nat->Nat->Option Bool)(f:Bool->Bool->Bool):Prop where
 yes:∀{ta tb:List T} {s t:T} {b:Bool},S (T.plc ta s) (T.plc tb t)=some b->∀c,f (s.at' c) (t.at' c)=b
 no:∀{x y:Nat},S x y=none->¬(x<2/\y<2)
theorem Db:BT xv (· && ·):=by
 refine⟨fun{ta tb s t b} h c=>?_,fun{x y} h=>?_⟩
 ·unfold xv at h;split at h
  ·rename_i h0;cases h
   rcases h0 with h0|h0
   ·rw[Ho.1 h0];rfl
   ·rw[Ho.1 h0];simp[T.at']
  ·split at h
   ·rename_i h1;cases h;rw[GU.1 h1.1,GU.1 h1.2];rfl
   ·cases h
 ·unfold xv at h;split at h
  ·cases h
  ·split at h
   ·cases h
   ·omega
theorem Ga:BT HM (· || ·):=by
 refine⟨fun{ta tb s t b} h c=>?_,fun{x y} h=>?_⟩
 ·unfold HM at h;split at h
  ·rename_i h0;cases h
   rcases h0 with h0|h0
   ·rw[GU.1 h0];rfl
   ·rw[GU.1 h0];simp[T.at']
  ·split at h
   ·rename_i h1;cases h;rw[Ho.1 h1.1,Ho.1 h1.2];rfl
   ·cases h
 ·unfold HM at h;split at h
  ·cases h
  ·split at h
   ·cases h
   ·omega
theorem lg:aP Tryz.prog 168:=⟨_,Tryz.func168,rfl,rfl⟩
theorem CA:aP Tryz.prog 236:=⟨_,Tryz.func236,rfl,rfl⟩
theorem Ly{S:Nat->Nat->Option Bool}{f:Bool->Bool->Bool}{fid:FuncId}(c8:Pq fid S)(dd:aP Tryz.prog fid)(hS:BT S f){pb mb q:Nat}{sla ra slb rb:Value}{ta tb:List T}:
  ∀(n:Nat) {k:Nat} {s t:T} {ms:List T} {L:List (T×T)} {I:PH} {ps:List PH},24<=n+k->k<=24->s.ok k->t.ok k->T.isIn ta s->T.isIn tb t->y7 I pb mb q sla ra slb rb ta tb->KW f mb q ta tb ms L ps->ms.length+2^n<=2^28->
  aO Tryz.prog 168 #[pt pb,iv (T.plc ta s),iv (T.plc tb t),.func (.func fid) #[] #[]] I ps fun v I2 qs=>∃us L2,KW f mb q ta tb (ms++us) L2 qs/\us.length+1<=2^n/\T.isIn (ms++us) (T.opT f s t)/\v=iv (T.plc (ms++us) (T.opT f s t)):=by
 intro n
 induction n with
 |zero=>
  intro k s t ms L I ps hn b6 hs ht a2 a0 hI hP c7 hd;have hk:k=24:=by omega
  subst hk;obtain⟨x,rfl⟩:=T.is_lf hs;obtain⟨y,rfl⟩:=T.is_lf ht;refine bK Tryz.func168 rfl (by simp[Tryz.ntmps168]) fun w0=>?_;simp only[Tryz.ntmps168,pt,iv];refine Un ?_;refine Pf rfl dd (c8 _ _ _) fun v H2 hv=>?_;obtain⟨rfl,r,rfl,hr⟩:=hv;have b0:(S (T.plc ta (.lf x)) (T.plc tb (.lf y))).isSome=true:=by
   cases h:S (T.plc ta (.lf x)) (T.plc tb (.lf y))with
   |none=>exact absurd ⟨by simp only[T.plc];split<;>omega,by simp only[T.plc];split<;>omega⟩ (hS.no h)
   |some b=>rfl
  obtain⟨b,hb⟩:=Option.isSome_iff_exists.1 b0;have c6:=hr b hb;have ci:T.opT f (.lf x) (.lf y)=.lf b:=T.opT_lf trivial trivial (hS.yes hb);apply RG;simp only[go_sem,b0];refine ai rfl hd (r:=[_]) rfl (Uj _) ⟨[],L,by rw[Tq];exact hP,by simp,?_,?_⟩
  ·rw[ci];trivial
  ·rw[ci,c6];rfl
 |succ n ih=>
  intro k s t ms L I ps hn b6 hs ht a2 a0 hI hP c7 hd;have cc:=hs.mono (S6 k);have ca:=ht.mono (S6 k);refine bK Tryz.func168 rfl (by simp[Tryz.ntmps168]) fun w0=>?_;simp only[Tryz.ntmps168,pt,iv];refine Un ?_;refine Pf rfl dd (c8 _ _ _) fun v H2 hv=>?_;obtain⟨rfl,r,rfl,hr⟩:=hv;cases cb:S (T.plc ta s) (T.plc tb t)with
  |some b=>
   have c6:=hr b cb;have ci:T.opT f s t=.lf b:=T.opT_lf cc ca (hS.yes cb);apply RG;simp only[go_sem,cb,Option.isSome_some];refine ai rfl hd (r:=[_]) rfl (Uj _) ⟨[],L,by rw[Tq];exact hP,by simp[Nat.one_le_two_pow],?_,?_⟩
   ·rw[ci];trivial
   ·rw[ci,c6];rfl
  |none=>
   have dw:=hS.no cb;have aj:=T.plc_lt a2;have dx:=T.plc_lt a0;have dA:=hI.la;have dy:=hI.lb;obtain⟨mk,N,rfl,hM,hN,b3⟩:=hP;obtain⟨A,sv,r',M,rfl,hA,c5,sq⟩:=hM;apply RG;simp only[go_sem,cb,Option.isSome_none];refine ax mixed [0,1,2,3,4,5,6,7,8,9,10] [3,5] [] rfl rfl ?_;refine Ux ?_;refine P7 (l:=[_]) rfl (cellsU hd (.head _) (az hI.hp (by simp) rfl)) (.inr ⟨zw,rfl⟩) ?_;refine Ux ?_;have a6:iD Tryz.prog 335 (kV (T.plc ta s) (T.plc tb t)):=LC Vi Vi;by_cases b5:(s,t)∈L
   ·refine mY (by exact GH) (by exact yG) (by exact Hw) (key:=kV (T.plc ta s) (T.plc tb t)) rfl rfl rfl rfl rfl (hN.atU hd (by simp)) (by exact a6) (iv (T.plc ms (T.opT f s t))) true (.inl ⟨rfl,(Gk b3 a2 a0).2 ⟨b5,rfl⟩⟩) ?_;refine Ux ?_;refine aw ?_;refine Un ?_;refine ai rfl hd (r:=[_]) rfl (Uj _) ⟨[],L,?_,by simp[Nat.one_le_two_pow],?_,?_⟩
    ·rw[Tq];exact⟨_,N,rfl,⟨A,sv,r',M,rfl,hA,c5,sq⟩,hN,b3⟩
    ·rw[Tq];exact(b3 s t b5).2.2
    ·rw[Tq];rfl
   ·refine mY (by exact GH) (by exact yG) (by exact Hw) (key:=kV (T.plc ta s) (T.plc tb t)) rfl rfl rfl rfl rfl (hN.atU hd (by simp)) (by exact a6) (iv 0) false (.inr ⟨rfl,rfl,fun u hu=>b5 ((Gk b3 a2 a0).1 hu).1⟩) ?_;refine Ux ?_;refine aw ?_;refine Un ?_;refine ax mixed [12,13,0,1,2,3,4,6,7,8,9,10,5,11,14,15] [3,9] [5] rfl rfl ?_;refine Ux ?_;refine P7 (l:=[sla,ra]) (v:=.agg #[sla,ra]) rfl (cellsU hd (.head _) (az hI.hp (by simp) rfl)) (.inl ⟨oQ,rfl⟩) ?_;refine Ux ?_;refine P7 (l:=[slb,rb]) (v:=.agg #[slb,rb]) rfl (cellsU hd (.head _) (az hI.hp (by simp) rfl)) (.inl ⟨oQ,rfl⟩) ?_;refine Ux ?_;refine pi rfl rfl rfl rfl CA (OO (hI.ha.le (cD hd)) hI.sa a2 Vi) fun v1 H3 dv=>?_;obtain⟨rfl,rfl⟩:=dv;refine⟨jB.le (Uj _),?_⟩;refine Ux ?_;refine pi rfl rfl rfl rfl CA (OO (hI.hb.le (cD hd)) hI.sb a0 Vi) fun v2 H3 ds=>?_;obtain⟨rfl,rfl⟩:=ds;refine⟨jB.le (Uj _),?_⟩;apply af;simp only[go_sem,fG,iv,T.dec_var];refine aw ?_;obtain⟨i,hi⟩:∃i,i=min s.var t.var:=⟨_,rfl⟩;have b4:(if ((t.var:Nat):Int)<((s.var:Nat):Int)then ((t.var:Nat):Int)else ((s.var:Nat):Int))=((i:Nat):Int):=by split<;>omega
    have ac:i<24:=by
     rcases Sw i 24 with h|h
     ·exact h
     ·exfalso;have h1:=T.var_le cc;have h2:=T.var_le ca;have h3:s.ok 24:=by cases s with
       |lf b=>trivial
       |nd v l r=>exact absurd hs.2.1 (by simp only[T.var]at *;omega)
      have h4:t.ok 24:=by cases t with
       |lf b=>trivial
       |nd v l r=>exact absurd ht.2.1 (by simp only[T.var]at *;omega)
      obtain⟨x,rfl⟩:=T.is_lf h3;obtain⟨y,rfl⟩:=T.is_lf h4;exact dw ⟨by simp only[T.plc];split<;>omega,by simp only[T.plc];split<;>omega⟩
    have a1:i<=s.var:=by omega
    have aS:i<=t.var:=by omega
    have dI:k<=i:=by have:=T.var_ge hs b6;have:=T.var_ge ht b6;omega
    have pn:2^(n+1)=2^n+2^n:=by rw[Ty];omega
    have pnn:0<2^n:=Nat.two_pow_pos n;have dls:=T.dec_lo ta s a1 ac;have dhs:=T.dec_hi ta s a1 ac;have tS:=T.dec_lo tb t aS ac;have dht:=T.dec_hi tb t aS ac;rw[T.dec_var]at dls dhs tS dht;cases bx:decide (s.var=i)<;>cases a4:decide (t.var=i)
    ·simp only[TK]at bx a4;omega
    ·have els:T.plc ta (T.lo i s)=T.plc ta s:=by rw[<-dls,Sb (by simpa using bx)]
     have ehs:T.plc ta (T.hi i s)=T.plc ta s:=by rw[<-dhs,Sb (by simpa using bx)]
     have elt:T.plc tb (T.lo i t)=(T.dec tb t).2.1:=by rw[<-tS,SI (by simpa using a4)]
     have eht:T.plc tb (T.hi i t)=(T.dec tb t).2.2:=by rw[<-dht,SI (by simpa using a4)]
     apply RG;simp only[go_sem,fG,iv,T.dec_var,b4,Ht,bx,a4];refine mf mixed [0,1,2,3,4,5,6,7] [] [] [3] [5] [14,15] rfl rfl ?_;refine Ux ?_;refine aw ?_;apply RG;simp only[go_sem,Ht,a4];have c1:=ih (k:=i+1) (I:=I) (ms:=ms) (L:=L) Vi Vi (T.lo_ok hs Vi) (T.lo_ok ht Vi) (T.isIn_lo hI.sa a2 i) (T.isIn_lo hI.sb a0 i) hI ⟨_,N,rfl,⟨A,sv,r',M,rfl,hA,c5,sq⟩,hN,b3⟩ Vi;rw[els,elt]at c1;refine NB hd [0,1,2,3] rfl lg rfl (F:=[]) rfl c1 fun v1 I2 qs ba ap aj=>?_;obtain⟨us1,L1,b2,dc,a3,rfl⟩:=aj;have bd:=hI.le ap;simp only[Tq]at ba |-;apply RG;simp only[go_sem,iv];refine go mixed [0,1,2,3,4,5,6,7,8,9,10,11,12,13,14] [] [] [3] [12] I2 rfl rfl ?_;apply af;simp only[go_sem,iv];refine gm (l:=[_]) rfl (cD ba) rfl rfl rfl (az bd.hp (by simp) rfl) (.inr ⟨uX,rfl⟩) ?_;apply af;simp only[go_sem,iv];have c2:=ih (k:=i+1) (I:=I2) (ms:=ms++us1) (L:=L1) Vi Vi (T.hi_ok hs Vi) (T.hi_ok ht Vi) (T.isIn_hi hI.sa a2 i) (T.isIn_hi hI.sb a0 i) bd b2 (by simp only[Tu];omega);rw[ehs,eht]at c2;obtain⟨mk1,N1,rfl,cy,dj,cf⟩:=b2;obtain⟨A1,sv1,r1',M1,rfl,dk,cs,sq1⟩:=cy;refine Og ba [0,1,2,3] rfl (fun _=>Uj _) rfl lg rfl (F:=[]) rfl c2 fun v2 I3 qs b1 ao aj=>?_;obtain⟨us2,L2,cn,da,a7,rfl⟩:=aj;have cB:=bd.le ao;obtain⟨mk2,N2,rfl,cx,cr,am⟩:=cn;obtain⟨A2,sv2,r2',M2,rfl,c4,bc,sq2⟩:=cx;simp only[Tq,SS,SU]at b1 |-;apply af;simp only[go_sem,iv];have c3:=pO (mb:=mb) (I:=I3) (i:=i) ⟨A2,sv2,r2',M2,rfl,c4,bc,sq2⟩ ac (T.opT_ok (f:=f) (T.lo_ok hs a1) (T.lo_ok ht aS) Vi) (T.opT_ok (f:=f) (T.hi_ok hs a1) (T.hi_ok ht aS) Vi) a3.app a7 (by simp only[Tu];omega);rw[T.plc_app a3]at c3
     refine Og b1 [0,1,2,3] rfl (fun h=>by cases h) rfl mJ rfl (F:=[N2]) rfl c3 fun v3 I4 qs a9 an aj=>?_;obtain⟨us3,ct,c9,aa,rfl⟩:=aj;have cA:=cB.le an;obtain⟨A3,sv3,r3',M3,rfl,c0,bb,sq3⟩:=ct;simp only[SS,SU]at a9 |-;apply af;simp only[go_sem,iv];refine aw ?_;apply RG;simp only[go_sem,iv];refine ax mixed [0,1,2,3,4,5,6] [3] [] rfl rfl ?_;apply af;simp only[go_sem,iv];refine P7 (l:=[_]) rfl (cellsU a9 (.head _) (az cA.hp (by simp) rfl)) (.inr ⟨zw,rfl⟩) ?_;apply af;simp only[go_sem,iv];have a5:T.mk i (T.opT f (T.lo i s) (T.lo i t)) (T.opT f (T.hi i s) (T.hi i t))=T.opT f s t:=(T.opT_rec cc ca hi ac).symm;rw[a5]at aa |-;refine UT a9 [3,0,1,2] fun cm=>?_;refine kP (by exact GH) (by exact yG) (key:=kV (T.plc ta s) (T.plc tb t)) (v:=iv (T.plc (ms++us1++us2++us3) (T.opT f s t))) cm rfl rfl rfl (.inl rfl) rfl rfl rfl cr (by exact a6) fun N3 cl cp=>?_;refine aw ?_;apply RG;simp only[go_sem,iv];refine Um cl [1,2,3,0] fun cj=>?_;have ak:Hs f ta tb (ms++us1++us2++us3) L2:=am.app;refine ai rfl cj (r:=[_]) rfl (Ui ap (Ui ao an)) ⟨us1++us2++us3,(s,t)::L2,?_,?_,?_,?_⟩
     ·refine⟨_,N3,rfl,⟨A3,sv3,r3',M3,rfl,?_,?_,?_⟩,?_,?_⟩
      ·simpa[Te]using c0
      ·simpa[Te]using bb
      ·simpa[Te]using sq3
      ·refine cp.congr fun y u=>?_;have e1:=r9 ak a2 a0 y u;rw[wY am]at e1;simpa[Te]using e1
      ·intro s' t' hm;rcases List.mem_cons.1 hm with e|hm
       ·cases e;exact⟨a2,a0,by simpa[Te]using aa⟩
       ·simpa[Te]using ak s' t' hm
     ·simp only[Tu];omega
     ·simpa[Te]using aa
     ·simp[eN,iv,Te]
    ·have els:T.plc ta (T.lo i s)=(T.dec ta s).2.1:=by rw[<-dls,SI (by simpa using bx)]
     have ehs:T.plc ta (T.hi i s)=(T.dec ta s).2.2:=by rw[<-dhs,SI (by simpa using bx)]
     have elt:T.plc tb (T.lo i t)=T.plc tb t:=by rw[<-tS,Sb (by simpa using a4)]
     have eht:T.plc tb (T.hi i t)=T.plc tb t:=by rw[<-dht,Sb (by simpa using a4)]
     apply RG;simp only[go_sem,fG,iv,T.dec_var,b4,Ht,bx,a4];refine mf mixed [0,1,2,3,4,5,6,7] [] [] [3] [5] [14,15] rfl rfl ?_;refine Ux ?_;refine aw ?_;apply RG;simp only[go_sem,Ht,a4];have c1:=ih (k:=i+1) (I:=I) (ms:=ms) (L:=L) Vi Vi (T.lo_ok hs Vi) (T.lo_ok ht Vi) (T.isIn_lo hI.sa a2 i) (T.isIn_lo hI.sb a0 i) hI ⟨_,N,rfl,⟨A,sv,r',M,rfl,hA,c5,sq⟩,hN,b3⟩ Vi;rw[els,elt]at c1;refine NB hd [0,1,2,3] rfl lg rfl (F:=[]) rfl c1 fun v1 I2 qs ba ap aj=>?_;obtain⟨us1,L1,b2,dc,a3,rfl⟩:=aj;have bd:=hI.le ap;simp only[Tq]at ba |-;apply RG;simp only[go_sem,iv];refine go mixed [0,1,2,3,4,5,6,7,8,9,10,11,12,13,14] [] [] [3] [12] I2 rfl rfl ?_;apply af;simp only[go_sem,iv];refine gm (l:=[_]) rfl (cD ba) rfl rfl rfl (az bd.hp (by simp) rfl) (.inr ⟨uX,rfl⟩) ?_;apply af;simp only[go_sem,iv];have c2:=ih (k:=i+1) (I:=I2) (ms:=ms++us1) (L:=L1) Vi Vi (T.hi_ok hs Vi) (T.hi_ok ht Vi) (T.isIn_hi hI.sa a2 i) (T.isIn_hi hI.sb a0 i) bd b2 (by simp only[Tu];omega);rw[ehs,eht]at c2;obtain⟨mk1,N1,rfl,cy,dj,cf⟩:=b2;obtain⟨A1,sv1,r1',M1,rfl,dk,cs,sq1⟩:=cy;refine Og ba [0,1,2,3] rfl (fun _=>Uj _) rfl lg rfl (F:=[]) rfl c2 fun v2 I3 qs b1 ao aj=>?_;obtain⟨us2,L2,cn,da,a7,rfl⟩:=aj;have cB:=bd.le ao;obtain⟨mk2,N2,rfl,cx,cr,am⟩:=cn;obtain⟨A2,sv2,r2',M2,rfl,c4,bc,sq2⟩:=cx;simp only[Tq,SS,SU]at b1 |-;apply af;simp only[go_sem,iv];have c3:=pO (mb:=mb) (I:=I3) (i:=i) ⟨A2,sv2,r2',M2,rfl,c4,bc,sq2⟩ ac (T.opT_ok (f:=f) (T.lo_ok hs a1) (T.lo_ok ht aS) Vi) (T.opT_ok (f:=f) (T.hi_ok hs a1) (T.hi_ok ht aS) Vi) a3.app a7 (by simp only[Tu];omega);rw[T.plc_app a3]at c3
     refine Og b1 [0,1,2,3] rfl (fun h=>by cases h) rfl mJ rfl (F:=[N2]) rfl c3 fun v3 I4 qs a9 an aj=>?_;obtain⟨us3,ct,c9,aa,rfl⟩:=aj;have cA:=cB.le an;obtain⟨A3,sv3,r3',M3,rfl,c0,bb,sq3⟩:=ct;simp only[SS,SU]at a9 |-;apply af;simp only[go_sem,iv];refine aw ?_;apply RG;simp only[go_sem,iv];refine ax mixed [0,1,2,3,4,5,6] [3] [] rfl rfl ?_;apply af;simp only[go_sem,iv];refine P7 (l:=[_]) rfl (cellsU a9 (.head _) (az cA.hp (by simp) rfl)) (.inr ⟨zw,rfl⟩) ?_;apply af;simp only[go_sem,iv];have a5:T.mk i (T.opT f (T.lo i s) (T.lo i t)) (T.opT f (T.hi i s) (T.hi i t))=T.opT f s t:=(T.opT_rec cc ca hi ac).symm;rw[a5]at aa |-;refine UT a9 [3,0,1,2] fun cm=>?_;refine kP (by exact GH) (by exact yG) (key:=kV (T.plc ta s) (T.plc tb t)) (v:=iv (T.plc (ms++us1++us2++us3) (T.opT f s t))) cm rfl rfl rfl (.inl rfl) rfl rfl rfl cr (by exact a6) fun N3 cl cp=>?_;refine aw ?_;apply RG;simp only[go_sem,iv];refine Um cl [1,2,3,0] fun cj=>?_;have ak:Hs f ta tb (ms++us1++us2++us3) L2:=am.app;refine ai rfl cj (r:=[_]) rfl (Ui ap (Ui ao an)) ⟨us1++us2++us3,(s,t)::L2,?_,?_,?_,?_⟩
     ·refine⟨_,N3,rfl,⟨A3,sv3,r3',M3,rfl,?_,?_,?_⟩,?_,?_⟩
      ·simpa[Te]using c0
      ·simpa[Te]using bb
      ·simpa[Te]using sq3
      ·refine cp.congr fun y u=>?_;have e1:=r9 ak a2 a0 y u;rw[wY am]at e1;simpa[Te]using e1
      ·intro s' t' hm;rcases List.mem_cons.1 hm with e|hm
       ·cases e;exact⟨a2,a0,by simpa[Te]using aa⟩
       ·simpa[Te]using ak s' t' hm
     ·simp only[Tu];omega
     ·simpa[Te]using aa
     ·simp[eN,iv,Te]
    ·have els:T.plc ta (T.lo i s)=(T.dec ta s).2.1:=by rw[<-dls,SI (by simpa using bx)]
     have ehs:T.plc ta (T.hi i s)=(T.dec ta s).2.2:=by rw[<-dhs,SI (by simpa using bx)]
     have elt:T.plc tb (T.lo i t)=(T.dec tb t).2.1:=by rw[<-tS,SI (by simpa using a4)]
     have eht:T.plc tb (T.hi i t)=(T.dec tb t).2.2:=by rw[<-dht,SI (by simpa using a4)]
     apply RG;simp only[go_sem,fG,iv,T.dec_var,b4,Ht,bx,a4];refine mf mixed [0,1,2,3,4,5,6,7] [] [] [3] [5] [14,15] rfl rfl ?_;refine Ux ?_;refine aw ?_;apply RG;simp only[go_sem,Ht,a4];refine mf mixed [0,1,2,3,4,5,6,7] [] [] [3] [5] [14,15] rfl rfl ?_;refine Ux ?_;refine aw ?_;apply RG;simp only[go_sem,Ht,a4];have c1:=ih (k:=i+1) (I:=I) (ms:=ms) (L:=L) Vi Vi (T.lo_ok hs Vi) (T.lo_ok ht Vi) (T.isIn_lo hI.sa a2 i) (T.isIn_lo hI.sb a0 i) hI ⟨_,N,rfl,⟨A,sv,r',M,rfl,hA,c5,sq⟩,hN,b3⟩ Vi;rw[els,elt]at c1;refine NB hd [0,1,2,3] rfl lg rfl (F:=[]) rfl c1 fun v1 I2 qs ba ap aj=>?_;obtain⟨us1,L1,b2,dc,a3,rfl⟩:=aj;have bd:=hI.le ap;simp only[Tq]at ba |-;apply RG;simp only[go_sem,iv];refine go mixed [0,1,2,3,4,5,6,7,8,9,10,11,12,13,14] [] [] [3] [12] I2 rfl rfl ?_;apply af;simp only[go_sem,iv];refine gm (l:=[_]) rfl (cD ba) rfl rfl rfl (az bd.hp (by simp) rfl) (.inr ⟨uX,rfl⟩) ?_;apply af;simp only[go_sem,iv];have c2:=ih (k:=i+1) (I:=I2) (ms:=ms++us1) (L:=L1) Vi Vi (T.hi_ok hs Vi) (T.hi_ok ht Vi) (T.isIn_hi hI.sa a2 i) (T.isIn_hi hI.sb a0 i) bd b2 (by simp only[Tu];omega);rw[ehs,eht]at c2;obtain⟨mk1,N1,rfl,cy,dj,cf⟩:=b2;obtain⟨A1,sv1,r1',M1,rfl,dk,cs,sq1⟩:=cy;refine Og ba [0,1,2,3] rfl (fun _=>Uj _) rfl lg rfl (F:=[]) rfl c2 fun v2 I3 qs b1 ao aj=>?_;obtain⟨us2,L2,cn,da,a7,rfl⟩:=aj;have cB:=bd.le ao;obtain⟨mk2,N2,rfl,cx,cr,am⟩:=cn;obtain⟨A2,sv2,r2',M2,rfl,c4,bc,sq2⟩:=cx;simp only[Tq,SS,SU]at b1 |-;apply af;simp only[go_sem,iv]
     have c3:=pO (mb:=mb) (I:=I3) (i:=i) ⟨A2,sv2,r2',M2,rfl,c4,bc,sq2⟩ ac (T.opT_ok (f:=f) (T.lo_ok hs a1) (T.lo_ok ht aS) Vi) (T.opT_ok (f:=f) (T.hi_ok hs a1) (T.hi_ok ht aS) Vi) a3.app a7 (by simp only[Tu];omega);rw[T.plc_app a3]at c3;refine Og b1 [0,1,2,3] rfl (fun h=>by cases h) rfl mJ rfl (F:=[N2]) rfl c3 fun v3 I4 qs a9 an aj=>?_;obtain⟨us3,ct,c9,aa,rfl⟩:=aj;have cA:=cB.le an;obtain⟨A3,sv3,r3',M3,rfl,c0,bb,sq3⟩:=ct;simp only[SS,SU]at a9 |-;apply af;simp only[go_sem,iv];refine aw ?_;apply RG;simp only[go_sem,iv];refine ax mixed [0,1,2,3,4,5,6] [3] [] rfl rfl ?_;apply af;simp only[go_sem,iv];refine P7 (l:=[_]) rfl (cellsU a9 (.head _) (az cA.hp (by simp) rfl)) (.inr ⟨zw,rfl⟩) ?_;apply af;simp only[go_sem,iv];have a5:T.mk i (T.opT f (T.lo i s) (T.lo i t)) (T.opT f (T.hi i s) (T.hi i t))=T.opT f s t:=(T.opT_rec cc ca hi ac).symm;rw[a5]at aa |-;refine UT a9 [3,0,1,2] fun cm=>?_;refine kP (by exact GH) (by exact yG) (key:=kV (T.plc ta s) (T.plc tb t)) (v:=iv (T.plc (ms++us1++us2++us3) (T.opT f s t))) cm rfl rfl rfl (.inl rfl) rfl rfl rfl cr (by exact a6) fun N3 cl cp=>?_;refine aw ?_;apply RG;simp only[go_sem,iv];refine Um cl [1,2,3,0] fun cj=>?_;have ak:Hs f ta tb (ms++us1++us2++us3) L2:=am.app;refine ai rfl cj (r:=[_]) rfl (Ui ap (Ui ao an)) ⟨us1++us2++us3,(s,t)::L2,?_,?_,?_,?_⟩
     ·refine⟨_,N3,rfl,⟨A3,sv3,r3',M3,rfl,?_,?_,?_⟩,?_,?_⟩
      ·simpa[Te]using c0
      ·simpa[Te]using bb
      ·simpa[Te]using sq3
      ·refine cp.congr fun y u=>?_;have e1:=r9 ak a2 a0 y u;rw[wY am]at e1;simpa[Te]using e1
      ·intro s' t' hm;rcases List.mem_cons.1 hm with e|hm
       ·cases e;exact⟨a2,a0,by simpa[Te]using aa⟩
       ·simpa[Te]using ak s' t' hm
     ·simp only[Tu];omega
     ·simpa[Te]using aa
     ·simp[eN,iv,Te]
theorem FA{S:Nat->Nat->Option Bool}{f:Bool->Bool->Bool}{fid:FuncId}(a4:Pq fid S)(a7:aP Tryz.prog fid)(hS:BT S f){I:PH}{va vb:Value}{a b:T}(ha:cu I va a)(hb:cu I vb b):
  aO Tryz.prog 96 #[va,vb,.func (.func fid) #[] #[]] I [] fun v I2 qs=>qs=[]/\cu I2 v (T.opT f a b):=by
 intro hd;obtain⟨oka,sla,rfl,a6⟩:=ha;obtain⟨okb,slb,rfl,a5⟩:=hb;refine bK Tryz.func96 rfl (by simp[Tryz.ntmps96]) fun w0=>?_;simp only[Tryz.ntmps96,pt,iv];apply RG;simp only[go_sem,iv];refine ax mixed [1,2,0,3,4,5,6] [] [] rfl rfl ?_;apply af;simp only[go_sem,iv];refine Og hd [] rfl (fun h=>by cases h) rfl wg rfl (F:=[]) rfl (nO I) fun v I2 qs a2 ac hq=>?_;obtain⟨mb,rfl,A,sv,r,M,rfl,hA,hM,sq⟩:=hq;simp only[Tq]at a2 |-;apply af;simp only[go_sem,iv,pt];refine yh 335 a2 rfl rfl fun q N bc hN=>?_;apply af;simp only[go_sem,iv,pt];refine aw ?_;apply RG;simp only[go_sem,iv,pt];refine eP 13 bc rfl fun pb bb=>?_;refine ag bb fun I3 a1 aa a3=>?_;have hI:y7 I3 pb mb q sla (iv (T.plc (T.subs a) a)) slb (iv (T.plc (T.subs b) b)) (T.subs a) (T.subs b):=
  ⟨a3 _ _ (cP _ _),(a6.le ac).le aa,(a5.le ac).le aa,T.subs_seq oka,T.subs_seq okb,by have:=T.subs_len oka;omega,by have:=T.subs_len okb;omega⟩
 apply RG;simp only[go_sem,iv,pt];refine go mixed [0,1,2,3,4,5,6,7,8,9,10,11,12] [] [] [3] [10] I3 rfl rfl ?_;apply af;simp only[go_sem,iv,pt];refine gm (l:=[_]) rfl (cD a1) rfl rfl rfl (az hI.hp (by simp) rfl) (.inr ⟨uX,rfl⟩) ?_;apply af;simp only[go_sem,iv,pt];refine UT a1 [1,2,3,0] fun ba=>?_;have c1:=Ly a4 a7 hS (pb:=pb) (mb:=mb) (q:=q) 24 (k:=0) (s:=a) (t:=b) (ms:=[]) (L:=[]) (I:=I3) Vi Vi oka okb (T.subs_in oka) (T.subs_in okb) hI ⟨_,N,rfl,⟨A,sv,r,M,rfl,hA,hM,sq⟩,hN.congr fun y u=>⟨fun⟨_,_,h,_⟩=>absurd h SW,fun h=>h.elim⟩,fun s t h=>absurd h SW⟩ (by simp);refine Og ba [0,1,2,3] rfl (fun _=>Uj _) rfl lg rfl (F:=[]) rfl c1 fun v1 I4 qs a0 an ak=>?_;obtain⟨us,L2,hP,hn,ap,rfl⟩:=ak;obtain⟨mk,N2,rfl,bd,b0,_⟩:=hP;obtain⟨A2,sv2,r2,M2,rfl,bx,ao,sq2⟩:=bd;simp only[Tq,SU,SS]at a0 ap |-;apply af;simp only[go_sem,iv,pt];have c2:=zN (mb:=mb) (I:=I4) ⟨A2,sv2,r2,M2,rfl,bx,ao,sq2⟩ ap (T.opT_ok oka okb Vi) (by simp only[SU];omega);refine Og a0 [0,1,2,3] rfl (fun h=>by cases h) rfl wG rfl (F:=[N2]) rfl c2 fun v2 I5 qs aS am ak=>?_;obtain⟨rfl,hr⟩:=ak;simp only[SU]at aS |-;obtain⟨okr,slr,rfl,⟨za,zc,rfl,hz⟩⟩:=hr;apply af;simp only[go_sem,iv,pt];refine aw ?_;apply RG;simp only[go_sem,iv,pt];refine ag (c:=.st _) aS fun I6 a9 aj _=>?_;refine ai rfl a9 (r:=[.agg #[.slice za (T.subs (T.opT f a b)).length zc,iv (T.plc (T.subs (T.opT f a b)) (T.opT f a b))]]) (by simp only[Tryz.results96,go_sem,iv]) (Ui ac (Ui aa (Ui an (Ui am aj)))) ⟨rfl,okr,_,rfl,pS.le ⟨za,zc,rfl,hz⟩ aj⟩
theorem Ir:aP Tryz.prog 127:=⟨_,Tryz.func127,rfl,rfl⟩
end Go.Proofs.YtfaclfkpnmcmlaaGreatDoor
namespace Go.Sx
theorem aQ.get{H:PH}{b off:Nat}{l:List Value}(h:aQ H b off l){i:Nat}{x:Value}(hx:l[i]?=some x):aQ H b (off+i) [x]:=by
 have hi:i<l.length:=by
  rcases Sw i l.length with h|h
  ·exact h
  ·rw[SF h]at hx;cases hx
 have:=h.sub i 1 Vi;have e:(l.drop i).take 1=[x]:=by
  rw[S5 hi];rw[SC hi]at hx;simp[Tk hx]
 rw[e]at this;exact this
end Go.Sx
namespace Go.Proofs.YtfaclfkpnmcmlaaGreatDoor
open Go Go.Sx Dg
theorem Kb{ts:List T}{t:T}(h:T.isIn ts t):(T.lf false::T.lf true::ts)[T.plc ts t]?=some t:=by
 cases t with
 |lf b=>cases b<;>rfl
 |nd v l r=>
  have hm:T.nd v l r∈ts:=h;simp only[T.plc,TD];rw[SC (Tw hm)];simp
def DQ(ms ts:List T):List Value:=(T.lf false::T.lf true::ts).map fun t=>iv (T.plc ms t.not)
theorem r8{ms ts:List T}{t:T}(h:T.isIn ts t):(DQ ms ts)[T.plc ts t]?=some (iv (T.plc ms t.not)):=by
 unfold DQ;rw[SA,Kb h];rfl
theorem yi{ts:List T}{j:Nat}{t:T}(h:T.isIn (ts.take j) t):T.plc ts t=T.plc (ts.take j) t:=by
 have:=T.plc_app (us:=ts.drop j) h
 rwa [TL]at this
theorem Fg{ms us:List T}(h:∀t,T.isIn us t->T.isIn ms t.not){v:Nat}{l r:T}(hn:T.isIn ms (T.nd v l r).not)(t:T)(ht:T.isIn (us++[.nd v l r]) t):T.isIn ms t.not:=by
 rcases mL.1 ht with h1|rfl
 ·exact h t h1
 ·exact hn
def vR(mb:Nat)(sl rv:Value)(n:Nat)(a:Nat×Value):St:=
 ⟨sp 0 45 [(3,.v (.func (.func 125) #[pt mb] #[])),(4,.p 4 0),(9,.v a.2),(16,.v sl),(17,.v (.int .i64 n)),(18,.v (.int .i64 a.1))],[⟨4,50,[sl,rv]⟩]⟩
def O2(mb:Nat)(ts:List T)(I0:PH)(a:Nat×Value)(H:PH):Prop:=
 ∃I A mk ms,H=U (I::A::mk)/\Dj (I::A::mk)/\I0.le I/\a.1<=ts.length/\jF A 3 1 a.2 (a.1+2) (DQ ms (ts.take a.1))/\wP mb ms mk/\ms.length<=a.1/\∀t,T.isIn (ts.take a.1) t->T.isIn ms t.not
theorem L5{mb:Nat}{I:PH}{ps:List PH}{t:T}{sl:Value}(bb:t.ok 0)(hL:pS I sl (T.subs t))(hM:wP mb [] ps):
  aO Tryz.prog 127 #[.agg #[sl,iv (T.plc (T.subs t) t)],.int .i64 1,.int .i64 0,.func (.func 125) #[pt mb] #[]] I ps fun v I2 qs=>∃ms,wP mb ms qs/\T.isIn ms t.not/\v=iv (T.plc ms t.not)/\ms.length<2^24:=by
 intro hd;obtain⟨za,zc,rfl,hz⟩:=hL;have cy:=T.subs_len bb;have ba:=T.subs_seq bb;have b2:=T.subs_in bb;refine bK Tryz.func127 rfl (by simp[Tryz.ntmps127]) fun w0=>?_;simp only[Tryz.ntmps127,pt,iv];refine Un ?_;refine dP hd qX rfl rfl rfl rfl rfl Vm fun b A c3 hA=>?_;refine Un ?_;refine aB (fun a=>(T.subs t).length-a.1) (vR mb (.slice za (T.subs t).length zc) (iv (T.plc (T.subs t) t)) (T.subs t).length) (O2 mb (T.subs t) I) (0,.slice (some ⟨b,0,none⟩) 2 2) (by simp only[go_sem,Tq,vR,iv,pt]) (by simp only[go_sem,Tq,vR,iv]) ?_ ?_
 ·exact⟨I,A,ps,[],rfl,c3,Uj _,S6 _,hA,hM,by simp,fun t ht=>by cases t<;>simp_all[T.isIn,T.not]⟩
 rintro⟨j,sv⟩ H ⟨I1,A1,mk,ms,rfl,an,aj,hj,ao,b3,cx,aa⟩ am;simp only at hj ao cx aa;simp only[vR];rcases Sw j (T.subs t).length with ak|dc
 ·have b4:decide ((j:Int)<((T.subs t).length:Int))=true:=by simp;omega
  rcases hz with h0|⟨lb,rfl,hc⟩
  ·rw[h0]at ak;simp at ak
  obtain⟨u,hu⟩:∃u,(T.subs t)[j]?=some u:=⟨_,SC ak⟩;obtain⟨v,l,r,rfl,ap,a9,a0⟩:=ba.2 j u hu;apply RG;simp only[go_sem,b4,iv,pt];refine⟨⟨Vi,Vi⟩,?_⟩;have ac:=hc.sub (j*3) 3 (by have:=oG (T.subs t);omega);rw[oJ hu,Sf]at ac;refine Qz (l:=lm (T.dec (T.subs t) (.nd v l r))) (v:=fG (T.dec (T.subs t) (.nd v l r))) rfl (cellsU an (.head _) (ac.le aj)) (.inl ⟨ti,rfl⟩) ?_;obtain⟨g,cap,rfl,hg⟩:=ao.cellsU an (.tail _ (.head _)) Vi;apply RG;simp only[go_sem,fG,iv,pt,T.dec];refine ax mixed [0,1,2,3,4,5,6,7,8,9,10,11,12,13,14,15,16,17] [8,13] [] rfl rfl ?_;apply af;simp only[go_sem,iv,pt];have pl:=T.plc_lt a9;have pr:=T.plc_lt a0;have tl:((T.subs t).take j).length=j:=by simp;omega
  rw[tl]at pl pr;have el:=yi a9;have er:=yi a0;have cl:=hg.get (r8 a9);have cr:=hg.get (r8 a0);rw[Sf,<-el]at cl;rw[Sf,<-er]at cr;refine⟨⟨Vi,Vi⟩,?_⟩;refine P7 (l:=[iv (T.plc ms l.not)]) rfl (by simpa using cl) (.inr ⟨mF,rfl⟩) ?_;apply af;simp only[go_sem,iv,pt];refine⟨⟨Vi,Vi⟩,?_⟩;refine P7 (l:=[iv (T.plc ms r.not)]) rfl (by simpa using cr) (.inr ⟨mF,rfl⟩) ?_;apply af;simp only[go_sem,iv,pt];have c1:=pO (mb:=mb) (I:=I1) (i:=v) b3 ap.2.1 (T.not_ok ap.2.2.2.1) (T.not_ok ap.2.2.2.2) (aa l a9) (aa r a0) Vi;obtain⟨mA,mS,mR,mM,rfl,da,c9,c8⟩:=b3;refine Og an [1,2,3,0] rfl (fun h=>by cases h) rfl mJ rfl (F:=[A1]) rfl c1 fun v1 I2 qs cc b0 cj=>?_;obtain⟨us,c5,c7,b1,rfl⟩:=cj;obtain⟨nA,nS,nR,nM,rfl,cs,cp,cn⟩:=c5;simp only[SS,SU]at cc |-;apply af;simp only[go_sem,iv,pt];refine aZ cc qX rfl rfl rfl rfl rfl Vm fun nb I3 c2 bx cm=>?_;apply af;simp only[go_sem,iv,pt];refine UT c2 [3,0,1,2] fun cb=>?_;have c6:jF A1 3 1 (.slice (some ⟨g,0,none⟩) (j+2) cap) (j+2) (DQ (ms++us) ((T.subs t).take j)):=ao.xs rfl (by
   unfold DQ;refine SL fun x hx=>?_;have:T.isIn ms x.not:=by
    rcases List.mem_cons.1 hx with rfl|hx
    ·trivial
    ·rcases List.mem_cons.1 hx with rfl|hx
     ·trivial
     ·exact aa x (xS ⟨(ba.1.sublist (List.take_sublist j _)),fun i u aS=>by
       rw[Sg]at aS;split at aS
       ·obtain⟨a1,a2,a3,a4,a5,a6,a7⟩:=ba.2 i u aS;rename_i ca;exact⟨a1,a2,a3,a4,a5,by rw[To,S8 (SJ ca)];exact a6,by rw[To,S8 (SJ ca)];exact a7⟩
       ·cases aS⟩ hx)
   rw[T.plc_app this])
  refine jt (m:=1) cb qX c6 rfl rfl rfl rfl rfl rfl (cellsU cb (.head _) (az (l:=[iv (T.plc (ms++us) (T.mk v l.not r.not))]) cm (by simp[aE,Value.cells]) (by simp[aE,Value.cells,iv]))) rfl rfl Vi (by unfold maxLen;omega) fun v' I4 A4 c0 bd cf=>?_;obtain⟨a4,c4,rfl⟩:=cf.slice;apply af;simp only[go_sem,iv,pt];refine aw ?_;have hw:=wrap64 (n:=j+1) Vi;have ci:IntKind.i64.wrap ((j:Int)+1)=((j+1:Nat):Int):=by rw[<-hw];congr 1
  apply RG;simp only[go_sem,iv,pt,ci];have b6:T.mk v l.not r.not=(T.nd v l r).not:=by
   simp only[T.mk,T.not];rw[Sb];intro e;apply ap.2.2.1;rw[<-T.not_not l,e,T.not_not]
  have b5:(T.subs t).take (j+1)=(T.subs t).take j++[T.nd v l r]:=by
   rw[S7 ak];congr 1;rw[SC ak]at hu;rw[Tk hu]
  refine am (j+1,.slice a4 (j+2+1) c4) _ _ V9 (by simp only[go_sem,Tq,vR,iv,pt]) (by simp only[go_sem,Tq,vR,iv]) ⟨I4,A4,_,ms++us,rfl,c0,Ui aj (Ui b0 (Ui bx bd)),ak,cf.xs Vi ?_,⟨nA,nS,nR,nM,rfl,cs,cp,cn⟩,by simp only[Tu];omega,?_⟩
  ·simp only;rw[b5];simp[DQ,b6]
  ·simp only;rw[b5];exact Fg (fun x hx=>(aa x hx).app) (by rw[<-b6];exact b1)
 ·have b4:decide ((j:Int)<((T.subs t).length:Int))=false:=by simp;omega
  obtain⟨g,cap,rfl,hg⟩:=ao.cellsU an (.tail _ (.head _)) Vi;have cA:j=(T.subs t).length:=by omega
  subst cA;rw[Td]at hg aa ao;have pt':=T.plc_lt b2;have ct:=hg.get (r8 b2);rw[Sf]at ct;apply RG;simp only[go_sem,b4,iv];refine⟨⟨Vi,Vi⟩,?_⟩;refine Qz (l:=[iv (T.plc ms t.not)]) rfl (by simpa using ct) (.inr ⟨mF,rfl⟩) ?_;apply RG;simp only[go_sem,iv];refine ag (c:=.st _) (A:=A1) an fun I5 cB bc _=>?_;exact ai rfl cB (r:=[_]) rfl (Ui aj bc) ⟨ms,b3,aa t b2,rfl,Vi⟩
theorem Fv:aP Tryz.prog 96:=⟨_,Tryz.func96,rfl,rfl⟩
theorem IB:aP Tryz.prog 163:=⟨_,Tryz.func163,rfl,rfl⟩
theorem L6:aP Tryz.prog 97:=⟨_,Tryz.func97,rfl,rfl⟩
theorem iy:aP Tryz.prog 94:=⟨_,Tryz.func94,rfl,rfl⟩
theorem sQ:aP Tryz.prog 39:=⟨_,Tryz.func39,rfl,rfl⟩
theorem mn:aP Tryz.prog 71:=⟨_,Tryz.func71,rfl,rfl⟩
theorem gK:aP Tryz.prog 50:=⟨_,Tryz.func50,rfl,rfl⟩
theorem GY:aP Tryz.prog 68:=⟨_,Tryz.func68,rfl,rfl⟩
theorem Bd:aP Tryz.prog 27:=⟨_,Tryz.func27,rfl,rfl⟩
theorem sV:aP Tryz.prog 80:=⟨_,Tryz.func80,rfl,rfl⟩
theorem cu.shape{I:PH}{v:Value}{t:T}(h:cu I v t):∃a c,v=.agg #[.slice a (T.subs t).length c,iv (T.plc (T.subs t) t)]:=by
 obtain⟨_,sl,rfl,a,c,rfl,_⟩:=h;exact⟨a,c,rfl⟩
theorem lE{I:PH}{va vb:Value}{a b:T}(ha:cu I va a)(hb:cu I vb b):aO Tryz.prog 94 #[va,vb] I [] fun v I2 qs=>qs=[]/\cu I2 v (a.and b):=by
 intro hd;obtain⟨xa,ca,rfl⟩:=ha.shape;obtain⟨xb,cb,rfl⟩:=hb.shape;refine bK Tryz.func94 rfl (by simp[Tryz.ntmps94]) fun w0=>?_;simp only[Tryz.ntmps94,iv];apply RG;simp only[go_sem,iv];refine NB hd [] rfl Fv rfl (F:=[]) rfl (FA L7 IB Db ha hb) fun v I2 qs ac aa hq=>?_;obtain⟨rfl,hr⟩:=hq;obtain⟨xr,cr,rfl⟩:=hr.shape;simp only[Tq]at ac |-;apply RG;simp only[go_sem,iv];exact ai rfl ac (r:=[.agg #[.slice xr (T.subs (a.and b)).length cr,iv (T.plc (T.subs (a.and b)) (a.and b))]]) (by simp only[Tryz.results94,go_sem,iv,T.and_eq]) aa ⟨rfl,hr⟩
theorem G1{I:PH}{va vb:Value}{a b:T}(ha:cu I va a)(hb:cu I vb b):aO Tryz.prog 39 #[va,vb] I [] fun v I2 qs=>qs=[]/\cu I2 v (a.or b):=by
 intro hd;obtain⟨xa,ca,rfl⟩:=ha.shape;obtain⟨xb,cb,rfl⟩:=hb.shape;refine bK Tryz.func39 rfl (by simp[Tryz.ntmps39]) fun w0=>?_;simp only[Tryz.ntmps39,iv];apply RG;simp only[go_sem,iv];refine NB hd [] rfl Fv rfl (F:=[]) rfl (FA Fz L6 Ga ha hb) fun v I2 qs ac aa hq=>?_;obtain⟨rfl,hr⟩:=hq;obtain⟨xr,cr,rfl⟩:=hr.shape;simp only[Tq]at ac |-;apply RG;simp only[go_sem,iv];exact ai rfl ac (r:=[.agg #[.slice xr (T.subs (a.or b)).length cr,iv (T.plc (T.subs (a.or b)) (a.or b))]]) (by simp only[Tryz.results39,go_sem,iv,T.or_eq]) aa ⟨rfl,hr⟩
theorem qK{I:PH}{va:Value}{a:T}(ha:cu I va a):aO Tryz.prog 71 #[va] I [] fun v I2 qs=>qs=[]/\cu I2 v a.not:=by
 intro hd;obtain⟨oka,sla,rfl,ak⟩:=ha;obtain⟨xa,ca,rfl,hz⟩:=id ak;refine bK Tryz.func71 rfl (by simp[Tryz.ntmps71]) fun w0=>?_;simp only[Tryz.ntmps71,iv];apply RG;simp only[go_sem,iv];refine NB hd [] rfl wg rfl (F:=[]) rfl (nO I) fun v I2 qs ao aa hq=>?_;obtain⟨mb,rfl,hM⟩:=hq;obtain⟨A,sv,r,M,rfl,hA,a2,sq⟩:=id hM;simp only[Tq]at ao |-;apply RG;simp only[go_sem,iv,pt];refine NB ao [0,1,2] rfl Ir rfl (F:=[]) rfl (L5 (mb:=mb) oka (ak.le aa) hM) fun v1 I3 qs an aj hq=>?_;obtain⟨ms,ap,a0,rfl,aS⟩:=hq;obtain⟨A2,sv2,r2,M2,rfl,a3,a1,sq2⟩:=id ap;simp only[Tq]at an |-;apply RG;simp only[go_sem,iv,pt];refine NB an [0,1,2] rfl wG rfl (F:=[]) rfl (zN (mb:=mb) ap a0 (T.not_ok oka) Vi) fun v2 I4 qs am ac hq=>?_;obtain⟨rfl,hr⟩:=hq;obtain⟨xr,cr,rfl⟩:=hr.shape;simp only[Tq]at am |-;apply RG;simp only[go_sem,iv];exact ai rfl am (r:=[.agg #[.slice xr (T.subs a.not).length cr,iv (T.plc (T.subs a.not) a.not)]]) (by simp only[Tryz.results71,go_sem,iv]) (Ui aa (Ui aj ac)) ⟨rfl,hr⟩
theorem jY{a b:Nat}(ha:a<2^32)(hb:b<2^32):qN .u32 (a:Int) (b:Int)=((a&&&b:Nat):Int):=by
 have ea:BitVec.ofInt 32 (a:Int)=BitVec.ofNat _ a:=by rw[BitVec.ofInt_natCast]
 have eb:BitVec.ofInt 32 (b:Int)=BitVec.ofNat _ b:=by rw[BitVec.ofInt_natCast]
 have hc:a&&&b<2^32:=TM TN ha;have:qN .u32 (a:Int) (b:Int)=IntKind.u32.wrap ((BitVec.ofInt 32 (a:Int)&&&BitVec.ofInt 32 (b:Int)).toNat:Int):=rfl;rw[this,ea,eb,BitVec.toNat_and,BitVec.toNat_ofNat,BitVec.toNat_ofNat,Nat.mod_eq_of_lt ha,Nat.mod_eq_of_lt hb];simp only[IntKind.wrap,show IntKind.bits .u32=32 from rfl,show IntKind.signed .u32=false from rfl];have:((a&&&b:Nat):Int) % (2^32:Int)=((a&&&b:Nat):Int):=TH Vi (by exact_mod_cast hc);simpa using this
theorem Cy{a i:Nat}(hi:i<=32):qj .u32 (a:Int) (i:Int)=((a >>> i:Nat):Int):=by
 have:qj .u32 (a:Int) (i:Int)=Int.fdiv (a:Int) (2^(min i 32)):=rfl;have e:min i 32=i:=by omega
 rw[this,e,TO];have:(2^i:Int)=((2^i:Nat):Int):=by simp
 rw[this,Int.fdiv_eq_ediv_of_nonneg _ (TP _)];rfl
theorem vX{a i:Nat}(ha:a<2^32):a >>> i<2^32:=by rw[TO];exact TM (Nat.div_le_self _ _) ha
theorem FV(a i:Nat):((((a >>> i)&&&1:Nat):Int) == 1)=a.testBit i:=by
 have:(a >>> i)&&&1=(a.testBit i).toNat:=by
  rw[Nat.and_one_is_mod,Nat.testBit_eq_decide_div_mod_eq,TO];have:=Nat.mod_two_eq_zero_or_one (a / 2^i);rcases this with h|h<;>simp[h]
 rw[this];cases a.testBit i<;>rfl
def fd(on off:Nat):Nat->T
 |0=>.lf true
 |k+1=>if on.testBit (23-k)then T.mk (23-k) (.lf false) (fd on off k)else if off.testBit (23-k)then T.mk (23-k) (fd on off k) (.lf false)else fd on off k
theorem oI(on off:Nat):∀k,k<=24->(fd on off k).ok (24-k)
 |0,_=>trivial
 |k+1,hk=>by
  have ih:=oI on off k Vi;have e:24-k=23-k+1:=by omega
  have e2:24-(k+1)=23-k:=by omega
  rw[e]at ih;unfold fd;rw[e2];split
  ·exact T.mk_ok (R7 _) Vi trivial ih
  ·split
   ·exact T.mk_ok (R7 _) Vi ih trivial
   ·exact ih.mono Vi
theorem yI(on off:Nat)(c:cg):∀k,k<=24->((fd on off k).at' c=true<->∀i,24-k<=i->i<24->(on.testBit i=true->c i=true)/\(on.testBit i=false->off.testBit i=true->c i=false))
 |0,_=>⟨fun _ i h1 h2=>by omega,fun _=>rfl⟩
 |k+1,hk=>by
  have ih:=yI on off c k Vi;have step:(∀i,24-(k+1)<=i->i<24->(on.testBit i=true->c i=true)/\(on.testBit i=false->off.testBit i=true->c i=false))<->
    ((on.testBit (23-k)=true->c (23-k)=true)/\(on.testBit (23-k)=false->off.testBit (23-k)=true->c (23-k)=false))/\(∀i,24-k<=i->i<24->(on.testBit i=true->c i=true)/\(on.testBit i=false->off.testBit i=true->c i=false)):=by
   constructor
   ·exact fun h=>⟨h _ Vi Vi,fun i h1 h2=>h i Vi h2⟩
   ·rintro⟨h1,h2⟩ i h3 h4;by_cases e:i=23-k
    ·subst e;exact h1
    ·exact h2 i Vi h4
  rw[step,<-ih];have e:fd on off (k+1)=if on.testBit (23-k)then T.mk (23-k) (.lf false) (fd on off k)else if off.testBit (23-k)then T.mk (23-k) (fd on off k) (.lf false)else fd on off k:=rfl
  rw[e];generalize fd on off k=r;cases h1:on.testBit (23-k)<;>cases h2:off.testBit (23-k)<;>cases hc:c (23-k)<;>simp[T.mk_at,T.at',hc]
def gL(on off:Nat):T:=if (on&&&16777215)&&&(off&&&16777215)≠0 then .lf false else fd (on&&&16777215) (off&&&16777215) 24
theorem ub(on off:Nat):(gL on off).ok 0:=by
 unfold gL;split
 ·trivial
 ·exact oI _ _ 24 (R7 _)
def ni(on off mb:Nat)(a:Nat×Nat):St:=
 ⟨sp 0 45 [(0,.v (.int .u32 on)),(1,.v (.int .u32 off)),(4,.p 4 0),(5,.v (pt mb)),(6,.v (iv a.2)),(7,.v (.int .i64 (23-(a.1:Int))))],[⟨4,50,[.slice none 0 0,.int .i64 0]⟩]⟩
def OS(on off mb:Nat)(I0:PH)(a:Nat×Nat)(H:PH):Prop:=
 ∃I mk ms,H=U (I::mk)/\Dj (I::mk)/\I0.le I/\a.1<=24/\wP mb ms mk/\ms.length<=a.1/\T.isIn ms (fd on off a.1)/\a.2=T.plc ms (fd on off a.1)
theorem AX{I:PH}{on off:Nat}(b6:on<2^32)(a1:off<2^32):aO Tryz.prog 69 #[.int .u32 on,.int .u32 off] I [] fun v I2 qs=>qs=[]/\cu I2 v (gL on off):=by
 intro hd;refine bK Tryz.func69 rfl (by simp[Tryz.ntmps69]) fun w0=>?_;simp only[Tryz.ntmps69,iv];have ci:(16777215:Nat)<2^32:=by decide
 have aS:on&&&16777215<2^32:=TM TN b6;have ak:off&&&16777215<2^32:=TM TN a1;have e1:=jY b6 ci;have e2:=jY a1 ci;have e3:=jY aS ak;simp only[TJ]at e1 e2;by_cases hz:(on&&&16777215)&&&(off&&&16777215)=0
 ·have b5:((((on&&&16777215)&&&(off&&&16777215):Nat):Int) != 0)=false:=by rw[hz];rfl
  apply RG;simp only[go_sem,e1,e2,e3,b5];refine NB hd [] rfl wg rfl (F:=[]) rfl (nO I) fun v I2 qs cf bb hq=>?_;obtain⟨mb,rfl,hM⟩:=hq;simp only[Tq]at cf |-;apply RG;simp only[go_sem,iv,pt];refine aB (fun a=>24-a.1) (ni (on&&&16777215) (off&&&16777215) mb) (OS (on&&&16777215) (off&&&16777215) mb I) (0,1) (by simp only[go_sem,Tq,ni,iv,pt,Int.sub_zero]) (by simp only[go_sem,Tq,ni,iv]) ?_ ?_
  ·exact⟨I2,qs,[],rfl,cf,bb,S6 _,hM,by simp,trivial,rfl⟩
  rintro⟨k,r⟩ H ⟨I3,mk,ms,rfl,a4,aj,hk,an,cl,a2,hr⟩ aa;simp only at hk an cl a2 hr;subst hr;simp only[ni];rcases Sw k 24 with a3|cm
  ·have b4:decide (23-(k:Int)>=0)=true:=by simp;omega
   have ei:(23-(k:Int))=((23-k:Nat):Int):=by omega
   have ewr:IntKind.i64.wrap (((23-k:Nat):Int)-1)=23-((k+1:Nat):Int):=by
    have h1:(((23-k:Nat):Int)-1)=22-(k:Int):=by omega
    rw[h1];have:∀k:Nat,k<24->IntKind.i64.wrap (22-(k:Int))=23-((k+1:Nat):Int):=by decide
    exact this k a3
   have a9:=Cy (a:=on&&&16777215) (i:=23-k) Vi;have a7:=Cy (a:=off&&&16777215) (i:=23-k) Vi;have a6:=jY (vX (i:=23-k) aS) (show (1:Nat)<2^32 by decide);have a5:=jY (vX (i:=23-k) ak) (show (1:Nat)<2^32 by decide);simp only[TJ]at a6 a5;have b0:=FV (on&&&16777215) (23-k);have bx:=FV (off&&&16777215) (23-k);have ap:decide (((23-k:Nat):Int)>=0)=true:=by simp
   have ge0:(0:Int)<=((23-k:Nat):Int):=by omega
   have a0:=oI (on&&&16777215) (off&&&16777215) k hk;rw[show 24-k=23-k+1 by omega]at a0;rw[ei];cases b1:(on&&&16777215).testBit (23-k)
   ·cases b2:(off&&&16777215).testBit (23-k)
    ·apply RG;simp only[go_sem,ap,ge0,a9,a7,a6,a5,b0,bx,b1,b2,iv,pt,ewr];refine aa (k+1,T.plc ms (fd (on&&&16777215) (off&&&16777215) k)) _ _ V9 (by simp only[go_sem,Tq,ni,iv,pt]) (by simp only[go_sem,Tq,ni,iv]) ⟨I3,mk,ms,rfl,a4,aj,a3,an,Vi,?_,?_⟩
     ·simp only[fd,b1,b2,Tp,Si];exact a2
     ·simp only[fd,b1,b2,Tp,Si]
    ·apply RG;simp only[go_sem,ap,ge0,a9,a7,a6,a5,b0,bx,b1,b2,iv,pt];have c1:=pO (mb:=mb) (I:=I3) (i:=23-k) (lo:=fd (on&&&16777215) (off&&&16777215) k) (hi:=.lf false) an Vi a0 trivial a2 trivial Vi;obtain⟨mA,mS,mR,mM,rfl,cc,cb,ca⟩:=an;refine NB a4 [0,1,2] rfl mJ rfl (F:=[]) rfl c1 fun v1 I4 qs am ac ba=>?_;obtain⟨us,b3,cj,ao,rfl⟩:=ba;simp only[Tq]at am |-;apply RG;simp only[go_sem,iv,pt,ewr];refine aa (k+1,T.plc (ms++us) (fd (on&&&16777215) (off&&&16777215) (k+1))) _ _ V9 ?_ (by simp only[go_sem,Tq,ni,iv]) ⟨I4,qs,ms++us,rfl,am,Ui aj ac,a3,b3,by simp only[Tu];omega,?_,rfl⟩
     ·simp only[fd,b1,b2,R9,Tp,Si];exact(by simp only[go_sem,Tq,ni,iv,pt])
     ·simp only[fd,b1,b2,R9,Tp,Si];exact ao
   ·apply RG;simp only[go_sem,ap,ge0,a9,a7,a6,a5,b0,bx,b1,iv,pt];have c1:=pO (mb:=mb) (I:=I3) (i:=23-k) (lo:=.lf false) (hi:=fd (on&&&16777215) (off&&&16777215) k) an Vi trivial a0 trivial a2 Vi;obtain⟨mA,mS,mR,mM,rfl,cc,cb,ca⟩:=an;refine NB a4 [0,1,2] rfl mJ rfl (F:=[]) rfl c1 fun v1 I4 qs am ac ba=>?_;obtain⟨us,b3,cj,ao,rfl⟩:=ba;simp only[Tq]at am |-;apply RG;simp only[go_sem,iv,pt,ewr];refine aa (k+1,T.plc (ms++us) (fd (on&&&16777215) (off&&&16777215) (k+1))) _ _ V9 ?_ (by simp only[go_sem,Tq,ni,iv]) ⟨I4,qs,ms++us,rfl,am,Ui aj ac,a3,b3,by simp only[Tu];omega,?_,rfl⟩
    ·simp only[fd,b1,R9,Tp,Si];exact(by simp only[go_sem,Tq,ni,iv,pt])
    ·simp only[fd,b1,R9,Tp,Si];exact ao
  ·have bc:k=24:=by omega
   subst bc;have b4:decide (23-((24:Nat):Int)>=0)=false:=by decide
   have a0:=oI (on&&&16777215) (off&&&16777215) 24 (R7 _);have bd:gL on off=fd (on&&&16777215) (off&&&16777215) 24:=by unfold gL;rw[Sb (by simpa using hz)]
   rw[show 23-((24:Nat):Int)=-1 by decide]at b4 |-;apply RG;simp only[go_sem,b4,iv,pt];obtain⟨mA,mS,mR,mM,rfl,cc,cb,ca⟩:=id an;refine NB a4 [0,1,2] rfl wG rfl (F:=[]) rfl (zN (mb:=mb) an a2 a0 Vi) fun v2 I4 qs am ac hq=>?_;obtain⟨rfl,hr⟩:=hq;rw[<-bd]at hr;obtain⟨xr,cr,rfl⟩:=hr.shape;simp only[Tq]at am |-;apply RG;simp only[go_sem,iv];exact ai rfl am (r:=[.agg #[.slice xr (T.subs (gL on off)).length cr,iv (T.plc (T.subs (gL on off)) (gL on off))]]) (by simp only[Tryz.results69,go_sem,iv]) (Ui aj ac) ⟨rfl,hr⟩
 ·have b5:((((on&&&16777215)&&&(off&&&16777215):Nat):Int) != 0)=true:=by
   simp only[bne_iff_ne,ne_eq];omega
  have bd:gL on off=.lf false:=by unfold gL;rw[SI (by simpa using hz)]
  apply RG;simp only[go_sem,e1,e2,e3,b5];exact ai rfl hd (r:=[.agg #[.slice none 0 0,iv 0]]) (by simp only[Tryz.results69,go_sem,iv]) (Uj _) ⟨rfl,by rw[bd];exact jP I false⟩
def dW(c:Nat):cg:=fun i=>c.testBit i
def jO(l:List (Nat×Nat)):T:=l.foldl (fun d x=>d.or (gL x.1 x.2)) (.lf false)
def EF(c:Nat)(x:Nat×Nat):Bool:=decide ((c&&&x.1)&&&16777215=x.1&&&16777215) && decide ((c&&&x.2)&&&16777215=0)
def KF(l:List (Nat×Nat))(c:Nat):Bool:=l.any (EF c)
theorem sN(i:Nat):(16777215:Nat).testBit i=decide (i<24):=by
 rw[show (16777215:Nat)=2^24-1 from rfl,Nat.testBit_two_pow_sub_one]
theorem BF(c:Nat)(x:Nat×Nat):EF c x=true<->∀i,i<24->(x.1.testBit i=true->c.testBit i=true)/\(x.2.testBit i=true->c.testBit i=false):=by
 unfold EF;rw[SG,SX,SX];constructor
 ·rintro⟨h1,h2⟩ i hi;have e1:=congrArg (fun n=>n.testBit i) h1;have e2:=congrArg (fun n=>n.testBit i) h2;simp only[TQ,sN,hi,decide_true,TR,Nat.zero_testBit]at e1 e2;refine⟨fun h=>?_,fun h=>?_⟩
  ·rw[h]at e1;simpa using e1
  ·rw[h]at e2;simpa using e2
 ·intro h;constructor
  ·apply Nat.eq_of_testBit_eq;intro i;simp only[TQ,sN];by_cases hi:i<24
   ·have:=(h i hi).1;cases h1:x.1.testBit i
    ·simp
    ·simp[this h1]
   ·simp[hi]
  ·apply Nat.eq_of_testBit_eq;intro i;simp only[TQ,sN,Nat.zero_testBit];by_cases hi:i<24
   ·have:=(h i hi).2;cases h1:x.2.testBit i
    ·simp
    ·simp[this h1]
   ·simp[hi]
theorem zd(c:Nat)(x:Nat×Nat):(gL x.1 x.2).at' (dW c)=EF c x:=by
 rw[Bool.eq_iff_iff,BF];unfold gL;split
 ·rename_i h;constructor
  ·intro h;cases h
  ·intro k;refine absurd ?_ h;apply Nat.eq_of_testBit_eq;intro i;simp only[TQ,sN,Nat.zero_testBit];by_cases hi:i<24
   ·have h1:=(k i hi).1;have h2:=(k i hi).2;cases e1:x.1.testBit i<;>cases e2:x.2.testBit i<;>simp_all
   ·simp[hi]
 ·rename_i h;have h0:∀i,i<24->x.1.testBit i=true->x.2.testBit i=true->False:=by
   intro i hi e1 e2;apply h;intro e;have:=congrArg (fun n=>n.testBit i) e;simp[TQ,sN,hi,e1,e2]at this
  rw[yI _ _ _ 24 (R7 _)];constructor
  ·intro k i hi;have:=k i Vi hi;simp only[TQ,sN,hi,decide_true,TR]at this;refine⟨this.1,fun e=>?_⟩;cases e1:x.1.testBit i
   ·exact this.2 e1 e
   ·exact(h0 i hi e1 e).elim
  ·intro k i _ hi;have:=k i hi;simp only[TQ,sN,hi,decide_true,TR];exact⟨this.1,fun _ e=>this.2 e⟩
theorem lS(c:Nat):∀(l:List (Nat×Nat)) (z:T),z.ok 0->(l.foldl (fun d x=>d.or (gL x.1 x.2)) z).ok 0/\(l.foldl (fun d x=>d.or (gL x.1 x.2)) z).at' (dW c)=(z.at' (dW c) || KF l c)
 | [],z,hz=>⟨hz,by simp[KF]⟩
 |x::l,z,hz=>by
  have hx:=ub x.1 x.2;obtain⟨h1,h2⟩:=lS c l (z.or (gL x.1 x.2)) (T.or_ok hz hx);refine⟨h1,?_⟩;rw[Sj,h2,T.or_at hz hx,zd];simp[KF,Bool.or_assoc]
theorem u8(l:List (Nat×Nat)):(jO l).ok 0:=(lS 0 l (.lf false) trivial).1
theorem DG(l:List (Nat×Nat))(c:Nat):(jO l).at' (dW c)=KF l c:=by
 have:=(lS c l (.lf false) trivial).2;rw[show (T.lf false).at' (dW c)=false from rfl,TS]at this;exact this
theorem vQ(c:Nat):(gL c (4294967295 ^^^ c)).at' (dW c)=true:=by
 have:=zd c (c,4294967295 ^^^ c);rw[this,BF];intro i hi;refine⟨fun h=>h,fun h=>?_⟩;simp only[Nat.testBit_xor]at h;rw[show (4294967295:Nat)=2^32-1 from rfl,Nat.testBit_two_pow_sub_one]at h;have aa:i<32:=by omega
 simp[aa]at h;exact h
end Go.Proofs.YtfaclfkpnmcmlaaGreatDoor
namespace Syn
open Dg
abbrev bM:=List UInt8
structure Nd where
 kind:Nat
 text:bM
 tok:Int
 slot:Int
 kids:List Nd
 cond:T
structure bX where
 code:Nat
 tok:Int
 cond:T
deriving DecidableEq
structure Tok where
 kind:Nat
 text:bM
 cond:T
 fits:Bool
structure ay where
 at':Nat
 cond:T
 kind:Nat
 text:bM
abbrev ah:=List (Nat×T)
abbrev ff:T:=.lf false
abbrev tt:T:=.lf true
def qV:ah->Nat->T->ah
 | [],a,d=>[(a,d)]
 |(b,e)::l,a,d=>if b<a then (b,e)::qV l a d else if b=a then (b,e.or d)::l else (a,d)::(b,e)::l
def join(f:ah)(a:Nat)(d:T):ah:=if d=ff then f else qV f a d
def joinAll(f g:ah):ah:=g.foldl (fun f s=>join f s.1 s.2) f
def fE(f:ah):T:=f.foldl (fun d s=>d.or s.2) ff
def dE(at':ah):List Tok->Nat->T->ah
 | [],i,d=>join at' i d
 |t::l,i,d=>if d=ff then at' else dE (join at' i (d.and t.cond)) l (i+1) (d.and t.cond.not)
def dm(ts:List Tok)(f:ah):ah:=f.foldl (fun at' s=>dE at' (ts.drop s.1) s.1 s.2) []
def cL(ts:List Tok)(s:Nat×T):ay:=match ts[s.1]? with
 |some t=>if t.fits then ⟨s.1,s.2,t.kind,t.text⟩else ⟨s.1,s.2,0,[]⟩
 |none=>⟨s.1,s.2,0,[]⟩
def bk(ts:List Tok)(f:ah):List ay:=((dm ts f).filter (fun s=>decide (s.2≠ff))).map (cL ts)
def rg:bM:=[118,97,114]
def MC:bM:=[102,110]
def AI:bM:=[105,110,116]
def sB:bM:=[98,111,111,108]
def ny:bM:=[105,102]
def ip:bM:=[101,108,115,101]
def nK:bM:=[119,104,105,108,101]
def lh:bM:=[114,101,116,117,114,110]
def n8:bM:=[112,114,105,110,116]
def fe:bM:=[97,115,115,101,114,116]
def qv:bM:=[116,114,117,101]
def oe:bM:=[102,97,108,115,101]
def tj:bM:=[114,101,97,100]
def hZ:bM:=[40]
def iI:bM:=[41]
def Ky:bM:=[123]
def uo:bM:=[125]
def cd:bM:=[44]
def bl:bM:=[59]
def bS:bM:=[58]
def zJ:bM:=[61]
def C9:bM:=[33]
def nV:bM:=[45]
def Kl:bM:=[124,124]
def CI:bM:=[38,38]
def KM:bM:=[61,61]
def Ra:bM:=[33,61]
def QQ:bM:=[60]
def QT:bM:=[60,61]
def Q0:bM:=[62]
def Rb:bM:=[62,61]
def Km:bM:=[43]
def Nf:bM:=[42]
def OL:bM:=[47]
def Nl:bM:=[37]
structure bE where
 l:List Nd
 f:ah
 e:List bX
def bR(h:ay)(code:Nat):List bX:=[⟨12,h.at',ff⟩,⟨code,h.at',h.cond⟩]
def iO{α:Type}(ts:List Tok)(f:ah)(z:α)(g:α->ay->α):α:=(bk ts f).foldl g z
def take(ts:List Tok)(f:ah)(s:bM):ah×List bX:=
 iO ts f ([],[]) fun(out,e) h=>if h.text=s then (join out (h.at'+1) h.cond,e)else (out,e++bR h 10)
def aC(ts:List Tok)(f:ah)(is:ay->Bool):List ay×ah:=
 iO ts f ([],[]) fun(yes,no) h=>if is h then (yes++[h],no)else (yes,join no h.at' h.cond)
def bj(s:bM)(h:ay):Bool:=decide (h.text=s)
def dz(s:bM):Bool:=[rg,MC,AI,sB,ny,ip,nK,lh,n8,fe,qv,oe,tj].contains s
def dY(s:bM):Nat:=
 if s=Kl then 0
 else if s=CI then 1
 else if [KM,Ra,QQ,QT,Q0,Rb].contains s then 2
 else if s=Km\/s=nV then 3
 else if [Nf,OL,Nl].contains s then 4
 else 9
def named(ts:List Tok)(f:ah)(kind slot:Nat):bE:=
 iO ts f ⟨[],[],[]⟩ fun r h=>
  if h.kind≠1\/dz h.text=true then { r with e:=r.e++bR h 10 }
  else ⟨r.l++[⟨kind,h.text,h.at',slot,[],h.cond⟩],join r.f (h.at'+1) h.cond,r.e⟩
def typed(ts:List Tok)(f:ah)(slot:Nat):bE:=
 iO ts f ⟨[],[],[]⟩ fun r h=>
  if h.text≠AI/\h.text≠sB then { r with e:=r.e++bR h 10 }
  else ⟨r.l++[⟨5,h.text,h.at',slot,[],h.cond⟩],join r.f (h.at'+1) h.cond,r.e⟩
def give(l kids:List Nd):List Nd:=l.map fun n=>{ n with kids:=n.kids++kids }
def bh(h:ay):ah:=[(h.at'+1,h.cond)]
def bA(h:ay):ah:=[(h.at',h.cond)]
def joinH(f:ah)(h:ay):ah:=join f h.at' h.cond
def joinH1(f:ah)(h:ay):ah:=join f (h.at'+1) h.cond
inductive Call where
 |line (k o:Nat) (f:ah) (slot:Nat)
 |lineL (k o:Nat) (slot:Nat) (first:Bool) (l:List Nd) (g out:ah)
 |lineO (k o:Nat) (slot:Nat) (ops:List ay) (l:List Nd) (g:ah)
 |unary (o:Nat) (f:ah) (slot:Nat)
 |unaryH (o:Nat) (h:ay) (slot:Nat)
 |calls (o:Nat) (h:ay) (slot:Nat) (xs:List ay) (names:List Nd) (g:ah)
 |inside (o:Nat) (f:ah) (slot:Nat)
 |listed (par:Bool) (o:Nat) (f:ah)
 |listL (par:Bool) (o:Nat) (l:List Nd) (g fin:ah)
 |item (par:Bool) (o:Nat) (f:ah)
 |behind (typ:Bool) (o:Nat) (f:ah) (sign:bM) (slot:Nat)
 |vrb (o:Nat) (f:ah)
 |function (o:Nat) (f:ah)
 |block (o:Nat) (f:ah) (slot:Nat)
 |seqL (top:Bool) (o:Nat) (f:ah) (l:List Nd) (out:ah)
 |stmt (o:Nat) (h:ay)
 |sCalls (o:Nat) (h:ay) (xs:List ay) (l:List Nd) (g:ah)
 |branch (o:Nat) (h:ay) (slot:Nat)
 |elses (o:Nat) (xs:List ay) (l:List Nd) (out:ah)
 |ifs (o:Nat) (ys:List ay) (l:List Nd) (out:ah)
def aF:Nat:=2^40
def jr{α β:Type}(g:α->β->Option α):α->List β->Option α
 |a,[]=>some a
 |a,x::l=>match g a x with
  |some b=>jr g b l
  |none=>none
def ck(l:List Nd):Option Unit:=if l.length<=aF then some ()else none
def gv(l kids:List Nd):Option (List Nd):=if l.all fun n=>decide (n.kids.length+kids.length<=aF)then some (give l kids)else none
def eF(l:List Nd)(d:T):List Nd:=l.filterMap fun n=>if n.cond.and d=ff then none else some { n with cond:=n.cond.and d,slot:=0 }
def cM(l:List Nd)(d:T):List Nd:=l.filterMap fun n=>if n.cond.and d.not=ff then none else some { n with cond:=n.cond.and d.not }
def iA(l:List Nd)(d:T):List Nd:=match l with
 | []=>[]
 |n::l=>{ n with cond:=n.cond.and d.not }::l
abbrev oR:=Call->Option bE
def ix(kind:Nat)(h:ay)(slot:Nat):Nd:=⟨kind,[],h.at',slot,[],h.cond⟩
section
variable (ts:List Tok) (rec:oR)
def bY(f:ah)(g:ay->Option bE):Option bE:=
 jr (fun r h=>match g h with
  |some x=>if (r.l++x.l).length<=aF then some ⟨r.l++x.l,joinAll r.f x.f,r.e++x.e⟩else none
  |none=>none) ⟨[],[],[]⟩ (bk ts f)
def line(k o:Nat)(f:ah)(slot:Nat):Option bE:=
 if k=5 then rec (.unary o f slot)
 else do
  let a <-rec (.line (k+1) o f slot)
  let b <-rec (.lineL k o slot true a.l a.f [])
  some ⟨b.l,b.f,a.e++b.e⟩
def isOp(k:Nat)(h:ay):Bool:=decide (h.kind=3) && decide (dY h.text=k)
def lineL(k o slot:Nat)(first:Bool)(l:List Nd)(g out:ah):Option bE:=
 if g=[]then some ⟨l,out,[]⟩
 else if k=2/\first=false then some ⟨l,joinAll out g,[]⟩
 else do
  let (ops,rest):=aC ts g (isOp k)
  let a <-rec (.lineO k o slot ops l [])
  let b <-rec (.lineL k o slot false a.l a.f (joinAll out rest))
  some ⟨b.l,b.f,a.e++b.e⟩
def lineO(k o slot:Nat)(ops:List ay)(l:List Nd)(g:ah):Option bE:=
 match ops with
 | []=>some ⟨l,g,[]⟩
 |h::ops=>do
  let a <-rec (.line (k+1) o (bh h) 1)
  ck (eF l h.cond++a.l)
  ck (cM l h.cond++[⟨13,h.text,h.at',slot,eF l h.cond++a.l,h.cond⟩])
  let b <-rec (.lineO k o slot ops (cM l h.cond++[⟨13,h.text,h.at',slot,eF l h.cond++a.l,h.cond⟩]) (joinAll g a.f))
  some ⟨b.l,b.f,a.e++b.e⟩
def unaryH(o:Nat)(h:ay)(slot:Nat):Option bE:=
 if h.text=C9\/h.text=nV then
  if o=64 then some ⟨[],[],bR h 11⟩
  else do
   let a <-rec (.unary (o+1) (bh h) 0)
   some ⟨[⟨14,h.text,h.at',slot,a.l,h.cond⟩],a.f,a.e⟩
 else if h.text=hZ then rec (.inside o (bA h) slot)
 else if h.kind=2 then some ⟨[⟨15,h.text,h.at',slot,[],h.cond⟩],bh h,[]⟩
 else if h.text=qv\/h.text=oe then some ⟨[⟨16,h.text,h.at',slot,[],h.cond⟩],bh h,[]⟩
 else if h.text=tj then some ⟨[⟨17,[],h.at',slot,[],h.cond⟩],bh h,[]⟩
 else do
  let a:=named ts (bA h) 18 slot
  let (xs,g):=aC ts a.f (bj hZ)
  let b <-rec (.calls o h slot xs a.l g)
  some ⟨b.l,b.f,a.e++b.e⟩
def calls(o:Nat)(h:ay)(slot:Nat)(xs:List ay)(names:List Nd)(g:ah):Option bE:=
 match xs with
 | []=>some ⟨names,g,[]⟩
 |x::xs=>do
  let a <-rec (.listed false o (bA x))
  ck (iA names x.cond++[⟨19,h.text,h.at',slot,a.l,x.cond⟩])
  let b <-rec (.calls o h slot xs (iA names x.cond++[⟨19,h.text,h.at',slot,a.l,x.cond⟩]) (joinAll g a.f))
  some ⟨b.l,b.f,a.e++b.e⟩
def jE(o:Nat)(slot:Nat)(h:ay):Option bE:=
 if h.text≠hZ then some ⟨[],[],bR h 10⟩
 else if o=64 then some ⟨[],[],bR h 11⟩
 else do
  let a <-rec (.line 0 (o+1) (bh h) slot)
  let (g,e):=take ts a.f iI
  some ⟨a.l,g,a.e++e⟩
def jH(par:Bool)(o:Nat)(h:ay):Option bE:=
 if h.text≠hZ then some ⟨[],[],bR h 10⟩
 else if o=64 then some ⟨[],[],bR h 11⟩
 else do
  let (yes,g):=aC ts (bh h) (bj iI)
  let a <-rec (.listL par (o+1) [] g (yes.foldl joinH []))
  let (f,e):=take ts a.f iI
  some ⟨a.l,f,a.e++e⟩
def listL(par:Bool)(o:Nat)(l:List Nd)(g fin:ah):Option bE:=
 match g with
 | []=>some ⟨l,fin,[]⟩
 |s::g=>do
  let a <-rec (.item par o [s])
  ck (l++a.l)
  let (more,done):=aC ts a.f (bj cd)
  let b <-rec (.listL par o (l++a.l) (more.foldl joinH1 g) (joinAll fin done))
  some ⟨b.l,b.f,a.e++b.e⟩
def item(par:Bool)(o:Nat)(f:ah):Option bE:=
 if par then do
  let a:=named ts f 4 0
  let (g,e):=take ts a.f bS
  let b:=typed ts g 0
  let l <-gv a.l b.l
  some ⟨l,b.f,a.e++e++b.e⟩
 else rec (.line 0 o f 0)
def rq(typ:Bool)(o:Nat)(f:ah)(slot:Nat):Option bE:=if typ then some (typed ts f slot)else rec (.line 0 o f slot)
def behind(typ:Bool)(o:Nat)(f:ah)(sign:bM)(slot:Nat):Option bE:=do
 let (yes,out):=aC ts f (bj sign)
 let a <-rq ts rec typ o (yes.foldl joinH1 []) slot
 some ⟨a.l,joinAll out a.f,a.e⟩
def ig(o:Nat)(f:ah):Option bE:=do
 let a:=named ts f 2 0
 let (g1,e1):=take ts a.f bS
 let b:=typed ts g1 0
 let c <-rec (.behind false o b.f zJ 1)
 let l1 <-gv a.l b.l
 let l2 <-gv l1 c.l
 let (g2,e2):=take ts c.f bl
 some ⟨l2,g2,a.e++e1++b.e++c.e++e2⟩
def function(o:Nat)(f:ah):Option bE:=do
 let a:=named ts f 3 0
 let b <-rec (.listed true o a.f)
 let c <-rec (.behind true o b.f bS 1)
 let d <-rec (.block o c.f 2)
 let l1 <-gv a.l b.l
 let l2 <-gv l1 c.l
 let l3 <-gv l2 d.l
 some ⟨l3,d.f,a.e++b.e++c.e++d.e⟩
def mw(o:Nat)(slot:Nat)(h:ay):Option bE:=
 if h.text≠Ky then some ⟨[],[],bR h 10⟩
 else if o=64 then some ⟨[],[],bR h 11⟩
 else do
  let a <-rec (.seqL false (o+1) (bh h) [] [])
  let (f,e):=take ts a.f uo
  some ⟨[⟨6,[],h.at',slot,a.l,h.cond⟩],f,a.e++e⟩
def ju(top:Bool)(h:ay):Bool:=if top then decide (h.at'=ts.length)else decide (h.text=uo)
def mV(o:Nat)(h:ay):Option bE:=
 if h.text=rg then rec (.vrb o (bh h))
 else if h.text=MC then rec (.function o (bh h))
 else some ⟨[],[],bR h 10⟩
def uV(top:Bool)(o:Nat)(h:ay):Option bE:=if top then mV rec o h else rec (.stmt o h)
def seqL(top:Bool)(o:Nat)(f:ah)(l:List Nd)(out:ah):Option bE:=
 match bk ts f with
 | []=>some ⟨l,out,[]⟩
 |h::hs=>
  if ju ts top h then rec (.seqL top o (hs.foldl joinH []) l (joinH out h))
  else do
   let a <-uV rec top o h
   ck (l++a.l)
   let b <-rec (.seqL top o (hs.foldl joinH (joinAll [] a.f)) (l++a.l) out)
   some ⟨b.l,b.f,a.e++b.e⟩
def stmt(o:Nat)(h:ay):Option bE:=
 if h.text=rg then rec (.vrb o (bh h))
 else if h.text=ny then rec (.branch o h 0)
 else if h.text=nK then do
  let a <-rec (.inside o (bh h) 0)
  let b <-rec (.block o a.f 1)
  let l1 <-gv [ix 9 h 0] a.l
  let l2 <-gv l1 b.l
  some ⟨l2,b.f,a.e++b.e⟩
 else if h.text=Ky then rec (.block o (bA h) 0)
 else if h.text=lh then do
  let (fin,g):=aC ts (bh h) (bj bl)
  let a <-rec (.line 0 o g 0)
  let l1 <-gv [ix 10 h 0] a.l
  let (f,e):=take ts (fin.foldl joinH a.f) bl
  some ⟨l1,f,a.e++e⟩
 else if h.text=n8\/h.text=fe then do
  let a <-rec (.line 0 o (bh h) 0)
  let l1 <-gv [ix (if h.text=fe then 12 else 11) h 0] a.l
  let (f,e):=take ts a.f bl
  some ⟨l1,f,a.e++e⟩
 else
  let a:=named ts (bA h) 7 0
  if a.l=[]then some ⟨[],[],a.e⟩
  else do
   let (xs,g):=aC ts a.f (bj hZ)
   let (g1,e1):=take ts g zJ
   let b <-rec (.line 0 o g1 0)
   let l1 <-gv a.l b.l
   let c <-rec (.sCalls o h xs l1 b.f)
   let (f,e2):=take ts c.f bl
   some ⟨c.l,f,a.e++e1++b.e++c.e++e2⟩
def sCalls(o:Nat)(h:ay)(xs:List ay)(l:List Nd)(g:ah):Option bE:=
 match xs with
 | []=>some ⟨l,g,[]⟩
 |x::xs=>do
  let a <-rec (.listed false o (bA x))
  ck (l++[⟨19,h.text,h.at',0,a.l,x.cond⟩])
  let b <-rec (.sCalls o h xs (iA (l++[⟨19,h.text,h.at',0,a.l,x.cond⟩]) x.cond) (joinAll g a.f))
  some ⟨b.l,b.f,a.e++b.e⟩
def branch(o:Nat)(h:ay)(slot:Nat):Option bE:=do
 let a <-rec (.inside o (bh h) 0)
 let b <-rec (.block o a.f 1)
 let l1 <-gv [ix 8 h slot] a.l
 let l2 <-gv l1 b.l
 let (xs,out):=aC ts b.f (bj ip)
 let c <-rec (.elses o xs l2 out)
 some ⟨c.l,c.f,a.e++b.e++c.e⟩
def elses(o:Nat)(xs:List ay)(l:List Nd)(out:ah):Option bE:=
 match xs with
 | []=>some ⟨l,out,[]⟩
 |x::xs=>do
  let (ys,rest):=aC ts (bh x) (bj ny)
  let a <-rec (.block o rest 2)
  let l1 <-gv l a.l
  let b <-rec (.ifs o ys l1 (joinAll out a.f))
  let c <-rec (.elses o xs b.l b.f)
  some ⟨c.l,c.f,a.e++b.e++c.e⟩
def ifs(o:Nat)(ys:List ay)(l:List Nd)(out:ah):Option bE:=
 match ys with
 | []=>some ⟨l,out,[]⟩
 |y::ys=>
  if o=64 then do
   let b <-rec (.ifs o ys l out)
   some ⟨b.l,b.f,bR y 11++b.e⟩
  else do
   let a <-rec (.branch (o+1) y 2)
   let l1 <-gv l a.l
   let b <-rec (.ifs o ys l1 (joinAll out a.f))
   some ⟨b.l,b.f,a.e++b.e⟩
def step:Call->Option bE
 | .line k o f slot=>line rec k o f slot
 | .lineL k o slot first l g out=>lineL ts rec k o slot first l g out
 | .lineO k o slot ops l g=>lineO rec k o slot ops l g
 | .unary o f slot=>bY ts f fun h=>rec (.unaryH o h slot)
 | .unaryH o h slot=>unaryH ts rec o h slot
 | .calls o h slot xs names g=>calls rec o h slot xs names g
 | .inside o f slot=>bY ts f (jE ts rec o slot)
 | .listed par o f=>bY ts f (jH ts rec par o)
 | .listL par o l g fin=>listL ts rec par o l g fin
 | .item par o f=>item ts rec par o f
 | .behind typ o f sign slot=>behind ts rec typ o f sign slot
 | .vrb o f=>ig ts rec o f
 | .function o f=>function ts rec o f
 | .block o f slot=>bY ts f (mw ts rec o slot)
 | .seqL top o f l out=>seqL ts rec top o f l out
 | .stmt o h=>stmt ts rec o h
 | .sCalls o h xs l g=>sCalls rec o h xs l g
 | .branch o h slot=>branch ts rec o h slot
 | .elses o xs l out=>elses ts rec o xs l out
 | .ifs o ys l out=>ifs rec o ys l out
end
def run(ts:List Tok):Nat->oR
 |0=>fun _=>none
 |n+1=>step ts (run ts n)
end Syn
