import Derived.Test.YtfaclfkpnmcmlaaGreatDoorE04
set_option maxHeartbeats 8000000
set_option linter.all false
namespace Go.Proofs.YtfaclfkpnmcmlaaGreatDoor
open Go Go.Sx Dg
def K3:Maps.Keyed Tryz.prog 3:=Maps.int_keyed S5
def PK{n:Nat}(h:n<2^62):kN Tryz.prog 3 (iv n):=⟨_,Maps.keyOf_int_mk S5 (HJ h)⟩
def Aw:aO Tryz.prog 189:=⟨_,Tryz.func189,rfl,rfl⟩
def VP(ms us:List T)(y u:Value):Prop:=∃t,T.isIn ms t/\T.isIn us t/\y=iv (T.plc ms t)/\u=iv (T.plc us t)
variable{t:T}{ms us:List T}
def BZ(ht:T.isIn ms t){u:Value}:VP ms us (iv (T.plc ms t)) u<->T.isIn us t/\u=iv (T.plc us t):=by
 constructor
 ·rintro⟨t',h1,h2,h3,h4⟩;have:=T.plc_inj ht h1 (F8 h3);subst this;exact⟨h2,h4⟩
 ·rintro⟨a,b⟩;exact⟨t,ht,a,rfl,b⟩
def DH(s:T.Seq us)(ht:t∈us):T.isIn us t:=by
 obtain⟨j,hj⟩:=List.mem_iff_getElem?.1 ht;obtain⟨v,l,h,rfl,_⟩:=s.2 j t hj;exact ht
variable{v:Nat}
def BC{l h:T}(hn:T.nd v l h∉us):T.plc (us++[.nd v l h]) (.nd v l h)=us.length+2:=by
 simp only[T.plc];rw[List.idxOf_append,ZV hn];simp
def qH{l h:T}:T.isIn (us++[.nd v l h]) t<->T.isIn us t\/t=.nd v l h:=by
 cases t with
 |lf b=>simp[T.isIn]
 |nd v' l' h'=>simp[T.isIn]
def Nw{l h:T}(aa:T.isIn ms (.nd v l h))(hn:T.nd v l h∉us)(y u:Value):
  VP ms (us++[.nd v l h]) y u<->(y=iv (T.plc ms (.nd v l h))/\u=iv (us.length+2))\/(y≠iv (T.plc ms (.nd v l h))/\VP ms us y u):=by
 constructor
 ·rintro⟨t,h1,h2,rfl,rfl⟩;rcases qH.1 h2 with h3|rfl
  ·refine .inr ⟨fun e=>?_,t,h1,h3,rfl,by rw[T.plc_app h3]⟩;have:=T.plc_inj h1 aa (F8 e);subst this;exact hn h3
  ·exact .inl ⟨rfl,by rw[BC hn]⟩
 ·rintro(⟨rfl,rfl⟩|⟨_,t,h1,h2,rfl,rfl⟩)
  ·exact⟨_,aa,qH.2 (.inr rfl),rfl,by rw[BC hn]⟩
  ·exact⟨t,h1,qH.2 (.inl h2),rfl,by rw[T.plc_app h2]⟩
def Gy(pb tb vb ob:Nat):Value:=.func (.func 189) #[] #[pt pb,pt tb,pt vb,pt ob]
structure MK(I:PH)(pb tb vb ob mb r:Nat)(ms:List T):Prop where
 hp:I pb=some (.cells #[.map (some r)] 301 (0,0))
 ht:I tb=some (.cells #[pt mb] 217 (0,0))
 hv:I vb=some (.cells #[Gy pb tb vb ob] 302 (0,0))
 hm:∃slv m,I mb=some (.cells #[slv,m] 300 (0,0))/\uo I slv ms
 sq:T.Seq ms
 len:ms.length<2^30
variable{I:PH}
def MK.le{J:PH}{pb tb vb ob mb r:Nat}(h:MK I pb tb vb ob mb r ms)(aa:I.le J):MK J pb tb vb ob mb r ms:=
 ⟨aa _ _ h.hp,aa _ _ h.ht,aa _ _ h.hv,let ⟨a,b,c,d⟩:=h.hm;⟨a,b,aa _ _ c,d.le aa⟩,h.sq,h.len⟩
def S3(ob r:Nat)(ms us:List T)(qs:List PH):Prop:=∃A sv M,qs=[A,sg ob (.cells #[sv] 48 (0,0)),M]/\mh A 181 3 sv us.length (EN us)/\lO Tryz.prog M r 3 (VP ms us)/\T.Seq us
def N4{pb tb vb ob mb r:Nat}(t:T):∀{k:Nat} {us:List T} {I:PH} {ps:List PH},t.ok k->k<=24->T.isIn ms t->MK I pb tb vb ob mb r ms->S3 ob r ms us ps->us.length+2^(24-k)<=2^30->
  aK Tryz.prog 189 #[iv (T.plc ms t),pt pb,pt tb,pt vb,pt ob] I ps fun v I2 qs=>S3 ob r ms (t.vis us) qs/\v=iv (T.plc (t.vis us) t):=by
 induction t with
 |lf x=>
  intro k us I ps hk a1 ak hI hP a6 hd;obtain⟨A,sv,M,rfl,hA,hM,sq⟩:=hP;refine cC Tryz.func189 rfl (by simp[Tryz.ntmps189]) fun w0=>?_;simp only[Tryz.ntmps189,pt,iv];refine aT ?_;refine XN (l:=[_]) rfl (cellsU hd (.head _) (az hI.hp (by simp) rfl)) (.inr ⟨GM,rfl⟩) ?_;refine aT ?_;refine nB (by exact K3) (by exact zR) (by exact NL) (key:=iv (T.plc ms (.lf x))) rfl rfl rfl rfl (hM.atU hd (by simp)) (by exact PK (by simp only[T.plc];split<;>omega)) (iv (T.plc us (.lf x))) true (.inl ⟨rfl,(BZ ak).2 ⟨trivial,rfl⟩⟩) ?_;refine aT ?_;exact af rfl hd (r:=[_]) rfl (abW _) ⟨⟨A,sv,M,rfl,hA,hM,sq⟩,rfl⟩
 |nd v l h ihl ihh=>
  intro k us I ps hk a1 ak hI hP a6 hd;obtain⟨A,sv,M,rfl,hA,hM,sq⟩:=hP;have cl:=T.plc_lt ak;have cr:=hI.len;have aj:kN Tryz.prog 3 (iv (T.plc ms (.nd v l h))):=PK ab;refine cC Tryz.func189 rfl (by simp[Tryz.ntmps189]) fun w0=>?_;simp only[Tryz.ntmps189,pt,iv];refine aT ?_;refine XN (l:=[_]) rfl (cellsU hd (.head _) (az hI.hp (by simp) rfl)) (.inr ⟨GM,rfl⟩) ?_;refine aT ?_;by_cases ac:T.nd v l h∈us
  ·refine nB (by exact K3) (by exact zR) (by exact NL) (key:=iv (T.plc ms (.nd v l h))) rfl rfl rfl rfl (hM.atU hd (by simp)) (by exact aj) (iv (T.plc us (.nd v l h))) true (.inl ⟨rfl,(BZ ak).2 ⟨ac,rfl⟩⟩) ?_;refine aT ?_;refine af rfl hd (r:=[_]) rfl (abW _) ⟨?_,?_⟩
   ·simp only[T.vis,aaq ac];exact⟨A,sv,M,rfl,hA,hM,sq⟩
   ·simp only[T.vis,aaq ac];rfl
  ·refine nB (by exact K3) (by exact zR) (by exact NL) (key:=iv (T.plc ms (.nd v l h))) rfl rfl rfl rfl (hM.atU hd (by simp)) (by exact aj) (iv 0) false (.inr ⟨rfl,rfl,fun u hu=>ac ((BZ ak).1 hu).1⟩) ?_;refine aT ?_;refine XN (l:=[_]) rfl (cellsU hd (.head _) (az hI.ht (by simp) rfl)) (.inr ⟨zj,rfl⟩) ?_;apply RG;simp only[go_sem,pt];obtain⟨slv,mm,bF,am,cm,rfl,cb⟩:=hI.hm;refine XN (l:=[_]) rfl (cellsU hd (.head _) (az bF (by simp) rfl)) (.inr ⟨DR,rfl⟩) ?_;have hm:T.nd v l h∈ms:=ak;have hi:=abb hm;have hp:T.plc ms (.nd v l h)=ms.idxOf (.nd v l h)+2:=rfl;have cj:IntKind.i64.wrap (((T.plc ms (.nd v l h):Nat):Int)-2)=((ms.idxOf (.nd v l h):Nat):Int):=by
    rw[<-wrap64 (n:=ms.idxOf (.nd v l h)) ab,hp];congr 1;omega
   rcases cb with rfl|⟨lb,rfl,hc⟩
   ·simp at hm
   ·apply RG;simp only[go_sem,cj];refine⟨⟨ab,ab⟩,?_⟩;have hg:=T.plc_get hm;rw[hp,Nat.add_sub_cancel]at hg;have cs:(EN ms).length=ms.length*3:=qp ms;have ag:=hc.sub (ms.idxOf (.nd v l h)*3) 3 ab;rw[qw hg,ZZ]at ag;refine XN (l:=nt (T.dec ms (.nd v l h))) (v:=gV (T.dec ms (.nd v l h))) rfl (cellsU hd (.head _) ag) (.inl ⟨uK,rfl⟩) ?_;apply RG;simp only[go_sem,gV,iv,T.dec];refine XN (l:=[_]) rfl (cellsU hd (.head _) (az hI.hv (by simp) rfl)) (.inr ⟨Gq,rfl⟩) ?_;apply RG;simp only[go_sem,gV,iv,T.dec,Gy];have okl:=hk.2.2.2.1;have okh:=hk.2.2.2.2;have bx:=hk.2.1;have ct:=hk.1;have kin:=hI.sq.kids hm;have cp:2^(24-(v+1))+2^(24-(v+1))<=2^(24-k):=by
     have:2^(24-(v+1))+2^(24-(v+1))=2^(24-v):=by rw[show 24-v=(24-(v+1))+1 by omega,abd];omega
     rw[this];exact abe ab ab
    obtain⟨s1,i1,us1,e1,n1,_⟩:=T.vis_spec l okl ab us sq;obtain⟨s2,i2,us2,e2,n2,_⟩:=T.vis_spec h okh ab _ s1;have len1:(l.vis us).length=us.length+us1.length:=by rw[e1];simp
    have len2:(h.vis (l.vis us)).length=(l.vis us).length+us2.length:=by rw[e2];simp
    have aa:(T.nd v l h).vis us=h.vis (l.vis us)++[.nd v l h]:=by simp only[T.vis,ZV ac]
    have s3:T.Seq ((T.nd v l h).vis us):=(T.vis_spec _ hk a1 us sq).1;have al:T.nd v l h∉h.vis (l.vis us):=by
     rw[aa]at s3;intro b6;exact(List.nodup_append.1 s3.1).2.2 _ b6 _ (.head _) rfl
    have pl1:T.plc (h.vis (l.vis us)) l=T.plc (l.vis us) l:=by rw[e2];exact T.plc_app i1
    have i1':T.isIn (h.vis (l.vis us)) l:=by rw[e2];exact i1.app
    have b1:=T.plc_lt i1;have b2:=T.plc_lt i2;refine DY hd [0,1,2] rfl Aw rfl (F:=[]) rfl (ihl okl ab kin.1 hI ⟨A,sv,M,rfl,hA,hM,sq⟩ ab) fun v1 I2 qs ba aS a4=>?_;obtain⟨⟨A2,sv2,M2,rfl,ci,ca,sq2⟩,rfl⟩:=a4;simp only[aa6]at ba |-;have bc:=hI.le aS;apply RG;simp only[go_sem,iv];refine XN (l:=[_]) rfl (cellsU ba (.head _) (az bc.hv (by simp) rfl)) (.inr ⟨Gq,rfl⟩) ?_;apply RG;simp only[go_sem,iv,Gy];refine DY ba [0,1,2] rfl Aw rfl (F:=[]) rfl (ihh okh ab kin.2 bc ⟨A2,sv2,M2,rfl,ci,ca,sq2⟩ ab) fun v2 I3 qs a9 aq a3=>?_;obtain⟨⟨A3,sv3,M3,rfl,cf,b8,sq3⟩,rfl⟩:=a3;simp only[aa6]at a9 |-;have cd:=bc.le aq;apply RG;simp only[go_sem,iv];refine XN (l:=[_]) rfl (cellsU a9 (.tail _ (.tail _ (.head _))) (ay (by simp) rfl)) (.inr ⟨DR,rfl⟩) ?_;apply RG;simp only[go_sem,iv];refine ax a9 (by exact Qr) rfl rfl rfl rfl rfl bg fun nb I4 bd ao bC=>?_;apply RG;simp only[go_sem,iv];refine dZ (m:=1) bd (by exact Qr) cf rfl rfl rfl rfl (cellsU bd (.head _) (az (l:=nt (v,T.plc (l.vis us) l,T.plc (h.vis (l.vis us)) h)) bC (by simp[nt,aD,Value.cells]) (by simp[nt,aD,Value.cells,iv]))) rfl rfl ab (by unfold maxLen;omega) fun v' I5 A5 b5 an bs=>?_;obtain⟨a5,c5,rfl⟩:=bs.slice;apply RG;simp only[go_sem,iv];refine bf b5 [1,0,2] fun b4=>?_;refine bw b4 rfl rfl rfl rfl rfl (by exact SF) (by simp) fun b3=>?_;have a7:Dj [I5,sg ob (.cells #[.slice a5 ((h.vis (l.vis us)).length+1) c5] 48 (0,0)),A5,M3]:=b3;show RC _ _ _ (U [I5,sg ob (.cells #[.slice a5 ((h.vis (l.vis us)).length+1) c5] 48 (0,0)),A5,M3]);have cc:=(cd.le ao).le an;apply RG;simp only[go_sem,iv];refine XN (l:=[_]) rfl (cellsU a7 (.head _) (az cc.hp (by simp) rfl)) (.inr ⟨GM,rfl⟩) ?_;apply RG;simp only[go_sem,iv]
    refine XN (l:=[_]) rfl (cellsU a7 (.tail _ (.head _)) (ay (by simp) rfl)) (.inr ⟨DR,rfl⟩) ?_;have hw:IntKind.i64.wrap ((((h.vis (l.vis us)).length+1:Nat):Int)+1)=(((h.vis (l.vis us)).length+2:Nat):Int):=by
     have:=wrap64 (n:=(h.vis (l.vis us)).length+2) ab;rw[<-this];congr 1
    apply RG;simp only[go_sem,iv,hw];refine bf a7 [2,0,1] fun b0=>?_;refine nZ (by exact K3) (by exact zR) (key:=iv (T.plc ms (.nd v l h))) (v:=iv ((h.vis (l.vis us)).length+2)) b0 rfl (.inl rfl) rfl rfl rfl b8 (by exact aj) fun M6 a2 b7=>?_;apply RG;simp only[go_sem,iv];refine XN (l:=[_]) rfl (cellsU a2 (.tail _ (.tail _ (.head _))) (ay (by simp) rfl)) (.inr ⟨DR,rfl⟩) ?_;apply RG;simp only[go_sem,iv,hw];refine bf a2 [2,1,0] fun bb=>?_;refine af rfl bb (r:=[_]) rfl (abV aS (abV aq (abV ao an))) ⟨?_,?_⟩
    ·refine⟨A5,_,M6,rfl,bs.xs (by rw[aa];simp) ?_,b7.congr fun y u=>by rw[aa];exact Nw ak al y u,s3⟩;rw[aa,DU s2 i1' i2,pl1]
    ·rw[aa,BC al];rfl
def BY:aO Tryz.prog 124:=⟨_,Tryz.func124,rfl,rfl⟩
def BX:aO Tryz.prog 126:=⟨_,Tryz.func126,rfl,rfl⟩
variable{ts:List T}
def mh.lst{A J:PH}{sv:Value}(h:mh A 181 3 sv ts.length (EN ts))(aa:A.le J):uo J sv ts:=by
 obtain⟨a,c,e⟩:=h.slice;rcases abn ts.length with hz|hp
 ·subst e;exact⟨a,c,rfl,.inl (List.length_eq_zero_iff.1 hz)⟩
 ·obtain⟨g,cap,e2,hc⟩:=h.1.cells hp;exact⟨_,cap,e2,.inr ⟨g,rfl,hc.le aa⟩⟩
def PI {ms : List T} (y u : Value) : VP ms [] y u ↔ (y = iv 1 ∧ u = iv 1) ∨ (y ≠ iv 1 ∧ ((y = iv 0 ∧ u = iv 0) ∨ (y ≠ iv 0 ∧ False))) := by
  have aa : iv 0 ≠ iv 1 := fun e => absurd (F8 e) ab
  constructor
  · rintro ⟨t, h1, h2, rfl, rfl⟩
    cases t with
    | lf b => cases b
              · exact .inr ⟨aa, .inl ⟨rfl, rfl⟩⟩
              · exact .inl ⟨rfl, rfl⟩
    | nd v l h => exact absurd h2 (by simp [T.isIn])
  · rintro (⟨rfl, rfl⟩ | ⟨_, ⟨rfl, rfl⟩ | ⟨_, h⟩⟩)
    · exact ⟨.lf true, trivial, trivial, rfl, rfl⟩
    · exact ⟨.lf false, trivial, trivial, rfl, rfl⟩
    · exact h.elim
def Fx{mb:Nat}{ps:List PH}(h:Bt mb ms ps)(ht:T.isIn ms t)(a2:t.ok 0)(a6:ms.length<2^29):
  aK Tryz.prog 126 #[pt mb,iv (T.plc ms t)] I ps fun v I2 qs=>qs=[]/\cX I2 v t:=by
 intro hd;obtain⟨A,sv,r,M,rfl,hA,hM,sq⟩:=h;refine cC Tryz.func126 rfl (by simp[Tryz.ntmps126]) fun w0=>?_;simp only[Tryz.ntmps126,pt,iv];refine ae (c:=.st _) hd fun I1 bC le1 leA=>?_;refine ae (c:=.st _) bC fun I2 bx le2 leB=>?_;refine ae (c:=.st _) bx fun I3 bs uw leC=>?_;refine aT ?_;refine pM 3 bs rfl rfl fun q M1 bd b1=>?_;refine aT ?_;refine nZ (by exact K3) (by exact zR) (key:=iv 0) (v:=iv 0) bd rfl (.inr rfl) rfl rfl rfl b1 (by exact PK ab) fun M2 bc b0=>?_;refine aT ?_;refine nZ (by exact K3) (by exact zR) (key:=iv 1) (v:=iv 1) bc rfl (.inr rfl) rfl rfl rfl b0 (by exact PK ab) fun M3 bb bF=>?_;apply bL 9;simp only[go_sem];refine fV 6 bb rfl fun pb ba=>?_;refine ae ba fun I4 a9 Em lpb=>?_;refine fV 2 a9 rfl fun tb a7=>?_;refine ae a7 fun I5 aS Kg ltb=>?_;refine fV 5 aS rfl fun ob aq=>?_;refine aR aq fun ao=>?_;refine fV 7 ao rfl fun vb an=>?_;apply RG;simp only[go_sem,mF,List.map];refine bw an rfl rfl rfl rfl rfl (by exact RY) (by simp) fun am=>?_;refine ae am fun I6 ac Tq lvb=>?_;have a1:MK I6 pb tb vb ob mb q ms:=by
  refine⟨Tq _ _ (Kg _ _ (lpb _ _ (dL _ _))),Tq _ _ (ltb _ _ (dL _ _)),lvb _ _ (dL _ _),⟨sv,.map (some r),?_,?_⟩,sq,ab⟩
  ·exact Tq _ _ (Kg _ _ (Em _ _ (uw _ _ (leB _ _ (dL _ _)))))
  ·exact mh.lst hA (abV leA (abV le2 (abV uw (abV Em (abV Kg Tq)))))
 refine aT ?_;refine XN (l:=[_]) rfl (cellsU ac (.head _) (az a1.hv (by simp) rfl)) (.inr ⟨Gq,rfl⟩) ?_;apply RG;simp only[go_sem,Gy];have a4:S3 ob q ms [] [PH.no,sg ob (.cells #[.slice none 0 0] 48 (0,0)),M3]:=⟨PH.no,_,M3,rfl,mh.nil _ _,bF.congr PI,T.Seq.nil⟩;refine DY ac [0,1,2] rfl Aw rfl (F:=[]) rfl (N4 t a2 ab ht a1 a4 bg) fun v1 I7 qs aa ag a5=>?_;obtain⟨⟨A2,sv2,M4,rfl,a3,b3,sq2⟩,rfl⟩:=a5;simp only[aa6]at aa |-;obtain⟨sa,sc,rfl⟩:=a3.slice;apply RG;simp only[go_sem,iv];refine XN (l:=[_]) rfl (cellsU aa (.tail _ (.tail _ (.head _))) (ay (by simp) rfl)) (.inr ⟨DR,rfl⟩) ?_;apply RG;simp only[go_sem,iv];refine ae aa fun I8 al le8 lA2=>?_;refine ae al fun I9 ak le9 _=>?_;refine ae ak fun b2 aj le10 _=>?_;have lall:I.le b2:=abV le1 (abV le2 (abV uw (abV Em (abV Kg (abV Tq (abV ag (abV le8 (abV le9 le10))))))));refine af (r:=[.agg #[.slice sa (t.vis []).length sc,iv (T.plc (t.vis []) t)]]) rfl aj (by simp only[Tryz.results126,go_sem,iv]) lall ⟨rfl,a2,_,rfl,?_⟩;exact mh.lst a3 (abV lA2 (abV le9 le10))
def NP(a b:Nat):((a:Int) == (b:Int))=decide (a=b):=by
 by_cases h:a=b
 ·subst h;simp
 ·have:¬(a:Int)=b:=by omega
  simp[h,this]
def tZ(a:Nat):((a:Int) == 0)=decide (a=0):=NP a 0
def un(a:Nat):((a:Int) == 1)=decide (a=1):=NP a 1
def L7:T.plc ts t=0<->t=.lf false:=by
 cases t with
 |lf b=>cases b<;>simp[T.plc]
 |nd v l h=>simp[T.plc]
def KK:T.plc ts t=1<->t=.lf true:=by
 cases t with
 |lf b=>cases b<;>simp[T.plc]
 |nd v l h=>simp[T.plc]
def gO{H:PH}{v:Value}(h:cX I v t):bO Tryz.prog 50 #[v] H fun v H2=>v=.bool (decide (t=.lf false))/\H2=H:=by
 obtain⟨aa,sl,rfl,hL⟩:=h;obtain⟨a,c,rfl,_⟩:=hL;refine cC Tryz.func50 rfl (by simp[Tryz.ntmps50]) fun w0=>?_;simp only[Tryz.ntmps50,iv];apply RG;simp only[go_sem,tZ];exact aJ (r:=[_]) rfl ⟨by simp[gv,L7],rfl⟩
def MV{H:PH}{v:Value}(h:cX I v t):bO Tryz.prog 68 #[v] H fun v H2=>v=.bool (decide (t=.lf true))/\H2=H:=by
 obtain⟨aa,sl,rfl,hL⟩:=h;obtain⟨a,c,rfl,_⟩:=hL;refine cC Tryz.func68 rfl (by simp[Tryz.ntmps68]) fun w0=>?_;simp only[Tryz.ntmps68,iv];apply RG;simp only[go_sem,un];exact aJ (r:=[_]) rfl ⟨by simp[gv,KK],rfl⟩
def mN(I:PH)(b:Bool):cX I (.agg #[.slice none 0 0,iv (if b then 1 else 0)]) (.lf b):=⟨trivial,_,rfl,none,0,rfl,.inl rfl⟩
def Fp(H:PH):bO Tryz.prog 27 #[] H fun v H2=>v=.agg #[.slice none 0 0,iv 1]/\H2=H:=by
 refine cC Tryz.func27 rfl (by simp[Tryz.ntmps27]) fun w0=>?_;simp only[Tryz.ntmps27];refine aT ?_;exact aJ (r:=[.agg #[.slice none 0 0,iv 1]]) (by simp only[Tryz.results27,go_sem,iv,abo]) ⟨rfl,rfl⟩
def sU(H:PH):bO Tryz.prog 80 #[] H fun v H2=>v=.agg #[.slice none 0 0,iv 0]/\H2=H:=by
 refine cC Tryz.func80 rfl (by simp[Tryz.ntmps80]) fun w0=>?_;simp only[Tryz.ntmps80];refine aT ?_;exact aJ (r:=[.agg #[.slice none 0 0,iv 0]]) (by simp only[Tryz.results80,go_sem,iv,abo]) ⟨rfl,rfl⟩
def AQ(x y:Nat):Option Bool:=if x=0\/y=0 then some false else if x=1/\y=1 then some true else none
def O3(x y:Nat):Option Bool:=if x=1\/y=1 then some true else if x=0/\y=0 then some false else none
def bn(b:Bool):Nat:=if b then 1 else 0
def Wv(f:FuncId)(S:Nat->Nat->Option Bool):Prop:=∀(x y:Nat) (H:PH),bO Tryz.prog f #[iv x,iv y] H fun v H2=>H2=H/\∃r,v=.tuple #[iv r,.bool (S x y).isSome]/\∀b,S x y=some b->r=bn b
def Ny:Wv 97 O3:=by
 intro x y H;refine cC Tryz.func97 rfl (by simp[Tryz.ntmps97]) fun w0=>?_;simp only[Tryz.ntmps97,iv];have e1:((x:Int) == 1)=decide (x=1):=un x;cases h1:decide (x=1)
 ·cases h2:decide (y=1)
  ·cases h3:decide (x=0)
   ·apply RG;simp only[go_sem,un,tZ,h1,h2,h3];refine aJ (r:=[_,_]) rfl ⟨rfl,0,?_,?_⟩<;>simp_all[gv,O3,iv]
   ·apply RG;simp only[go_sem,un,tZ,h1,h2,h3];refine aJ (r:=[_,_]) rfl ⟨rfl,0,?_,?_⟩
    ·by_cases hy:y=0<;>simp_all[gv,O3,iv,bn]
    ·intro b hb;simp_all[O3,bn]
  ·apply RG;simp only[go_sem,un,tZ,h1,h2];refine aJ (r:=[_,_]) rfl ⟨rfl,1,?_,?_⟩<;>simp_all[gv,O3,iv,bn]
 ·apply RG;simp only[go_sem,un,tZ,h1];refine aJ (r:=[_,_]) rfl ⟨rfl,1,?_,?_⟩<;>simp_all[gv,O3,iv,bn]
def RU(x y:Nat):Eu (.int .i64 x) (.int .i64 y)=some (.int .i64 ((min x y:Nat):Int)):=by
 simp only[Eu,ZW,Value.int.injEq,true_and];split<;>omega
def VT(x:Nat):Eu (.int .i64 x) (.int .i64 1)=some (.int .i64 ((min x 1:Nat):Int)):=RU x 1
def Sj:Wv 163 AQ:=by
 intro x y H;refine cC Tryz.func163 rfl (by simp[Tryz.ntmps163]) fun w0=>?_;simp only[Tryz.ntmps163,iv];apply RG;simp only[go_sem,un,tZ];refine vZ (iv (min (min x y) 1)) rfl rfl (fun w _=>?_) ?_
 ·simp only[execOp,resolve,bN,ev,oY,invoke,builtin,Builtin.min_,ZY];simp[Result.andThen,List.foldlM,resolve,bN,ev,oY,invoke,builtin,Builtin.min_,-Nat.min_assoc];rw[xl (RU x y)];simp only[];rw[xl (VT _)];simp[iv,Nat.min_assoc]
 cases h1:decide (x=0)
 ·cases h2:decide (y=0)
  ·cases h3:decide (x=1)
   ·apply RG;simp only[go_sem,un,tZ,h1,h2,h3];refine aJ (r:=[_,_]) rfl ⟨rfl,min (min x y) 1,?_,?_⟩<;>simp_all[gv,AQ,iv]
   ·apply RG;simp only[go_sem,un,tZ,h1,h2,h3];refine aJ (r:=[_,_]) rfl ⟨rfl,min (min x y) 1,?_,?_⟩
    ·by_cases hy:y=1<;>simp_all[gv,AQ,iv,bn]
    ·intro b hb;simp_all[AQ,bn]
  ·apply RG;simp only[go_sem,un,tZ,h1,h2];apply RG;simp only[go_sem,un,tZ,h1,h2];refine aJ (r:=[_,_]) rfl ⟨rfl,min (min x y) 1,?_,?_⟩<;>simp_all[gv,AQ,iv,bn]
 ·apply RG;simp only[go_sem,un,tZ,h1];apply RG;simp only[go_sem,un,tZ,h1];refine aJ (r:=[_,_]) rfl ⟨rfl,min (min x y) 1,?_,?_⟩<;>simp_all[gv,AQ,iv,bn]
end Go.Proofs.YtfaclfkpnmcmlaaGreatDoor
namespace Dg.T
open Dg
def opT(f:Bool->Bool->Bool)(s t:T):T:=op f 24 s t
variable{s t:T}{f:Bool->Bool->Bool}
theorem opT_ok{k:Nat}(hs:s.ok k)(ht:t.ok k)(hk:k<=24):(opT f s t).ok k:=(ql f 24 k s t ab hk hs ht).1
def BE(hs:s.ok 0)(ht:t.ok 0)(c:bP):(opT f s t).at' c=f (s.at' c) (t.at' c):=(ql f 24 0 s t ab ab hs ht).2 c
theorem opT_rec{i:Nat}(hs:s.ok 0)(ht:t.ok 0)(hi:i=min s.var t.var)(aa:i<24):opT f s t=mk i (opT f (lo i s) (lo i t)) (opT f (T.hi i s) (T.hi i t)):=by
 have l1:=lo_ok hs (show i<=s.var by omega);have l2:=lo_ok ht (show i<=t.var by omega);have r1:=hi_ok hs (show i<=s.var by omega);have r2:=hi_ok ht (show i<=t.var by omega);refine ext (opT_ok hs ht ab) (mk_ok (k:=0) (aaL i) aa (opT_ok l1 l2 ab) (opT_ok r1 r2 ab)) fun c=>?_;rw[BE hs ht,mk_at,BE (l1.mono (aaL _)) (l2.mono (aaL _)),BE (r1.mono (aaL _)) (r2.mono (aaL _)),tg i s c,tg i t c];split<;>rfl
theorem opT_lf{b:Bool}(hs:s.ok 0)(ht:t.ok 0)(h:∀c,f (s.at' c) (t.at' c)=b):opT f s t=lf b:=
 ext (opT_ok hs ht ab) (show (lf b).ok 0 from trivial) fun c=>by rw[BE hs ht,h];rfl
theorem and_eq(s t:T):and s t=opT (· && ·) s t:=rfl
theorem or_eq(s t:T):or s t=opT (· || ·) s t:=rfl
theorem dec_var(ts:List T)(t:T):(dec ts t).1=t.var:=by cases t<;>rfl
theorem dec_lo (ts : List T) (t : T) {i : Nat} (hi : i ≤ t.var) (aa : i < 24) : (if (dec ts t).1 = i then (dec ts t).2.1 else plc ts t) = plc ts (lo i t) := by
  cases t with
  | lf b => have e : ¬ (24 = i) := by omega
            simp [dec, lo, e]
  | nd v l h => by_cases e : v = i <;> simp [dec, lo, e]
theorem dec_hi (ts : List T) (t : T) {i : Nat} (hi : i ≤ t.var) (aa : i < 24) : (if (dec ts t).1 = i then (dec ts t).2.2 else plc ts t) = plc ts (T.hi i t) := by
  cases t with
  | lf b => have e : ¬ (24 = i) := by omega
            simp [dec, T.hi, e]
  | nd v l h => by_cases e : v = i <;> simp [dec, T.hi, e]
variable{ts: List T}
theorem isIn_lo  (s : Seq ts) {t : T} (h : isIn ts t) (i : Nat) : isIn ts (lo i t) := by
  cases t with
  | lf b => trivial
  | nd v l r => simp only [lo]; split
                · exact (s.kids h).1
                · exact h
theorem isIn_hi  (s : Seq ts) {t : T} (h : isIn ts t) (i : Nat) : isIn ts (T.hi i t) := by
  cases t with
  | lf b => trivial
  | nd v l r => simp only [T.hi]; split
                · exact (s.kids h).2
                · exact h
end Dg.T
namespace Go.Proofs.YtfaclfkpnmcmlaaGreatDoor
open Go Go.Sx Dg
theorem Rv:Tryz.prog.underlying 335=some (.array 2 3):=by kernel_rfl
theorem UN:Tryz.prog.keyTypeAt 3 335=true:=by kernel_rfl
theorem Vz:Tryz.prog.tiled 3 335=true:=by kernel_rfl
def JS:Maps.Keyed Tryz.prog 335:=by
 refine Maps.Keyed.of_law (deep_law (m:=3) ab UN Vz ?_);rw[Rv]
theorem Qm:Tryz.prog.keyType 335=true:=by kernel_rfl
theorem Mz:Tryz.prog.cellsOf 335=2:=by kernel_rfl
def kV(x y:Nat):Value:=.agg #[iv x,iv y]
def Vs{P:Program}{k t:TypeId}{a b:Nat}(hk:P.underlying k=some (.array 2 t))(h1:P.keyType k=true)(h2:P.cellsOf k=2)(h3:P.cellsOf t=1)(h4:P.underlying t=some (.int .i64))(h5:1<P.types.size)
  (ha:a<2^62) (hb:b<2^62):kN P k (kV a b):=by
 obtain⟨n,hn⟩:∃n,P.types.size=n+1:=⟨P.types.size-1,ab⟩;unfold kN keyOf;rw[h1];simp[hk,Value.formed,kV,hn,Program.keyLits,h2,h3,h4,Value.cells,HJ ha,HJ hb,iv,List.range,List.range.loop]
def T0{a b:Nat}(ha:a<2^62)(hb:b<2^62):kN Tryz.prog 335 (kV a b):=Vs Rv Qm Mz EI S5 LB ha hb
def LP{a b c d:Nat}(h:kV a b=kV c d):a=c/\b=d:=by
 simp[kV,iv]at h;exact⟨Int.ofNat.inj h.1,Int.ofNat.inj h.2⟩
def Uo(f:Bool->Bool->Bool)(ta tb ms:List T)(L:List (T×T))(y u:Value):Prop:=∃s t,(s,t)∈L/\y=kV (T.plc ta s) (T.plc tb t)/\u=iv (T.plc ms (T.opT f s t))
def NN(f:Bool->Bool->Bool)(ta tb ms:List T)(L:List (T×T)):Prop:=∀s t,(s,t)∈L->T.isIn ta s/\T.isIn tb t/\T.isIn ms (T.opT f s t)
variable{L:List (T×T)}{ta tb ms:List T}{f:Bool->Bool->Bool}
def NN.app{us:List T}(h:NN f ta tb ms L):NN f ta tb (ms++us) L:=fun s t hm=>⟨(h s t hm).1,(h s t hm).2.1,(h s t hm).2.2.app⟩
def BA{us:List T}(h:NN f ta tb ms L)(y u:Value):Uo f ta tb (ms++us) L y u<->Uo f ta tb ms L y u:=by
 constructor
 ·rintro⟨s,t,hm,a,b⟩;exact⟨s,t,hm,a,by rw[b,T.plc_app (h s t hm).2.2]⟩
 ·rintro⟨s,t,hm,a,b⟩;exact⟨s,t,hm,a,by rw[b,T.plc_app (h s t hm).2.2]⟩
def Kt(h:NN f ta tb ms L){s t:T}(hs:T.isIn ta s)(ht:T.isIn tb t){u:Value}:Uo f ta tb ms L (kV (T.plc ta s) (T.plc tb t)) u<->(s,t)∈L/\u=iv (T.plc ms (T.opT f s t)):=by
 constructor
 ·rintro⟨s',t',hm,a,b⟩;obtain⟨e1,e2⟩:=LP a;have h1:=T.plc_inj hs (h s' t' hm).1 e1;have h2:=T.plc_inj ht (h s' t' hm).2.1 e2;subst h1;subst h2;exact⟨hm,b⟩
 ·rintro⟨a,b⟩;exact⟨s,t,a,rfl,b⟩
def x7(h:NN f ta tb ms L){s t:T}(hs:T.isIn ta s)(ht:T.isIn tb t)(y u:Value):
  Uo f ta tb ms ((s,t)::L) y u<->(y=kV (T.plc ta s) (T.plc tb t)/\u=iv (T.plc ms (T.opT f s t)))\/(y≠kV (T.plc ta s) (T.plc tb t)/\Uo f ta tb ms L y u):=by
 constructor
 ·rintro⟨s',t',hm,rfl,rfl⟩;rcases List.mem_cons.1 hm with e|aa
  ·cases e;exact .inl ⟨rfl,rfl⟩
  ·by_cases e:kV (T.plc ta s') (T.plc tb t')=kV (T.plc ta s) (T.plc tb t)
   ·obtain⟨e1,e2⟩:=LP e;have h1:=T.plc_inj (h s' t' aa).1 hs e1;have h2:=T.plc_inj (h s' t' aa).2.1 ht e2;subst h1;subst h2;exact .inl ⟨rfl,rfl⟩
   ·exact .inr ⟨e,s',t',aa,rfl,rfl⟩
 ·rintro(⟨rfl,rfl⟩|⟨_,s',t',hm,rfl,rfl⟩)
  ·exact⟨s,t,.head _,rfl,rfl⟩
  ·exact⟨s',t',.tail _ hm,rfl,rfl⟩
structure Du(I:PH)(pb mb q:Nat)(sla ra slb rb:Value)(ta tb:List T):Prop where
 hp:I pb=some (.cells #[pt mb,sla,ra,slb,rb,.map (some q)] 262 (0,0))
 ha:uo I sla ta
 hb:uo I slb tb
 sa:T.Seq ta
 sb:T.Seq tb
 la:ta.length<2^30
 lb:tb.length<2^30
def Du.le{I J:PH}{pb mb q:Nat}{sla ra slb rb:Value}(h:Du I pb mb q sla ra slb rb ta tb)(aa:I.le J):Du J pb mb q sla ra slb rb ta tb:=
 ⟨aa _ _ h.hp,h.ha.le aa,h.hb.le aa,h.sa,h.sb,h.la,h.lb⟩
def Rn(f:Bool->Bool->Bool)(mb q:Nat)(ta tb ms:List T)(L:List (T×T))(qs:List PH):Prop:=∃mk N,qs=mk++[N]/\Bt mb ms mk/\lO Tryz.prog N q 335 (Uo f ta tb ms L)/\NN f ta tb ms L
structure Hg(S:Nat->Nat->Option Bool)(f:Bool->Bool->Bool):Prop where
 yes:∀{ta tb:List T} {s t:T} {b:Bool},S (T.plc ta s) (T.plc tb t)=some b->∀c,f (s.at' c) (t.at' c)=b
 no:∀{x y:Nat},S x y=none->¬(x<2/\y<2)
def HG:Hg AQ (· && ·):=by
 refine⟨fun{ta tb s t b} h c=>?_,fun{x y} h=>?_⟩
 ·unfold AQ at h;split at h
  ·rename_i h0;cases h
   rcases h0 with h0|h0
   ·rw[L7.1 h0];rfl
   ·rw[L7.1 h0];simp[T.at']
  ·split at h
   ·rename_i h1;cases h;rw[KK.1 h1.1,KK.1 h1.2];rfl
   ·cases h
 ·unfold AQ at h;split at h
  ·cases h
  ·split at h
   ·cases h
   ·omega
def Mk:Hg O3 (· || ·):=by
 refine⟨fun{ta tb s t b} h c=>?_,fun{x y} h=>?_⟩
 ·unfold O3 at h;split at h
  ·rename_i h0;cases h
   rcases h0 with h0|h0
   ·rw[KK.1 h0];rfl
   ·rw[KK.1 h0];simp[T.at']
  ·split at h
   ·rename_i h1;cases h;rw[L7.1 h1.1,L7.1 h1.2];rfl
   ·cases h
 ·unfold O3 at h;split at h
  ·cases h
  ·split at h
   ·cases h
   ·omega
def oh:aO Tryz.prog 168:=⟨_,Tryz.func168,rfl,rfl⟩
def Hn:aO Tryz.prog 236:=⟨_,Tryz.func236,rfl,rfl⟩
variable{fid:FuncId}{S:Nat->Nat->Option Bool}
def Tg(b7:Wv fid S)(b8:aO Tryz.prog fid)(hS:Hg S f){pb mb q:Nat}{sla ra slb rb:Value}:
  ∀(n:Nat) {k:Nat} {s t:T} {ms:List T} {L:List (T×T)} {I:PH} {ps:List PH},24<=n+k->k<=24->s.ok k->t.ok k->T.isIn ta s->T.isIn tb t->Du I pb mb q sla ra slb rb ta tb->Rn f mb q ta tb ms L ps->ms.length+2^n<=2^28->
  aK Tryz.prog 168 #[pt pb,iv (T.plc ta s),iv (T.plc tb t),.func (.func fid) #[] #[]] I ps fun v I2 qs=>∃us L2,Rn f mb q ta tb (ms++us) L2 qs/\us.length+1<=2^n/\T.isIn (ms++us) (T.opT f s t)/\v=iv (T.plc (ms++us) (T.opT f s t)):=by
 intro n
 induction n with
 |zero=>
  intro k s t ms L I ps hn a1 hs ht am ak hI hP b0 hd;have hk:k=24:=by omega
  subst hk;obtain⟨x,rfl⟩:=T.is_lf hs;obtain⟨y,rfl⟩:=T.is_lf ht;refine cC Tryz.func168 rfl (by simp[Tryz.ntmps168]) fun w0=>?_;simp only[Tryz.ntmps168,pt,iv];refine aT ?_;refine WZ rfl b8 (b7 _ _ _) fun v H2 hv=>?_;obtain⟨rfl,r,rfl,hr⟩:=hv;have an:(S (T.plc ta (.lf x)) (T.plc tb (.lf y))).isSome=true:=by
   cases h:S (T.plc ta (.lf x)) (T.plc tb (.lf y))with
   |none=>exact absurd ⟨by simp only[T.plc];split<;>omega,by simp only[T.plc];split<;>omega⟩ (hS.no h)
   |some b=>rfl
  obtain⟨b,hb⟩:=Option.isSome_iff_exists.1 an;have bF:=hr b hb;have a9:T.opT f (.lf x) (.lf y)=.lf b:=T.opT_lf trivial trivial (hS.yes hb);apply RG;simp only[go_sem,an];refine af rfl hd (r:=[_]) rfl (abW _) ⟨[],L,by rw[aa6];exact hP,by simp,?_,?_⟩
  ·rw[a9];trivial
  ·rw[a9,bF];rfl
 |succ n ih=>
  intro k s t ms L I ps hn a1 hs ht am ak hI hP b0 hd;have bx:=hs.mono (aaL k);have bs:=ht.mono (aaL k);refine cC Tryz.func168 rfl (by simp[Tryz.ntmps168]) fun w0=>?_;simp only[Tryz.ntmps168,pt,iv];refine aT ?_;refine WZ rfl b8 (b7 _ _ _) fun v H2 hv=>?_;obtain⟨rfl,r,rfl,hr⟩:=hv;cases a4:S (T.plc ta s) (T.plc tb t)with
  |some b=>
   have bF:=hr b a4;have a9:T.opT f s t=.lf b:=T.opT_lf bx bs (hS.yes a4);apply RG;simp only[go_sem,a4,Option.isSome_some];refine af rfl hd (r:=[_]) rfl (abW _) ⟨[],L,by rw[aa6];exact hP,by simp[Nat.one_le_two_pow],?_,?_⟩
   ·rw[a9];trivial
   ·rw[a9,bF];rfl
  |none=>
   have cj:=hS.no a4;have a3:=T.plc_lt am;have c7:=T.plc_lt ak;have dd:=hI.la;have dc:=hI.lb;obtain⟨mk,N,rfl,hM,hN,a7⟩:=hP;obtain⟨A,sv,r',M,rfl,hA,cc,sq⟩:=hM;apply RG;simp only[go_sem,a4,Option.isSome_none];refine dN mixed [0,1,2,3,4,5,6,7,8,9,10] [3,5] [] rfl rfl ?_;refine gw ?_;refine W7 (l:=[_]) rfl (cellsU hd (.head _) (az hI.hp (by simp) rfl)) (.inr ⟨Dh,rfl⟩) ?_;refine gw ?_;have aS:kN Tryz.prog 335 (kV (T.plc ta s) (T.plc tb t)):=T0 ab ab;by_cases aq:(s,t)∈L
   ·refine qv (by exact JS) (by exact Ec) (by exact NL) (key:=kV (T.plc ta s) (T.plc tb t)) rfl rfl rfl rfl rfl (hN.atU hd (by simp)) (by exact aS) (iv (T.plc ms (T.opT f s t))) true (.inl ⟨rfl,(Kt a7 am ak).2 ⟨aq,rfl⟩⟩) ?_;refine gw ?_;refine aw ?_;refine aT ?_;refine af rfl hd (r:=[_]) rfl (abW _) ⟨[],L,?_,by simp[Nat.one_le_two_pow],?_,?_⟩
    ·rw[aa6];exact⟨_,N,rfl,⟨A,sv,r',M,rfl,hA,cc,sq⟩,hN,a7⟩
    ·rw[aa6];exact(a7 s t aq).2.2
    ·rw[aa6];rfl
   ·refine qv (by exact JS) (by exact Ec) (by exact NL) (key:=kV (T.plc ta s) (T.plc tb t)) rfl rfl rfl rfl rfl (hN.atU hd (by simp)) (by exact aS) (iv 0) false (.inr ⟨rfl,rfl,fun u hu=>aq ((Kt a7 am ak).1 hu).1⟩) ?_;refine gw ?_;refine aw ?_;refine aT ?_;refine dN mixed [12,13,0,1,2,3,4,6,7,8,9,10,5,11,14,15] [3,9] [5] rfl rfl ?_;refine gw ?_;refine W7 (l:=[sla,ra]) (v:=.agg #[sla,ra]) rfl (cellsU hd (.head _) (az hI.hp (by simp) rfl)) (.inl ⟨r9,rfl⟩) ?_;refine gw ?_;refine W7 (l:=[slb,rb]) (v:=.agg #[slb,rb]) rfl (cellsU hd (.head _) (az hI.hp (by simp) rfl)) (.inl ⟨r9,rfl⟩) ?_;refine gw ?_;refine tH rfl rfl rfl rfl Hn (Vc (hI.ha.le (cP hd)) hI.sa am ab) fun v1 H3 cf=>?_;obtain⟨rfl,rfl⟩:=cf;refine⟨l9.le (abW _),?_⟩;refine gw ?_;refine tH rfl rfl rfl rfl Hn (Vc (hI.hb.le (cP hd)) hI.sb ak ab) fun v2 H3 cd=>?_;obtain⟨rfl,rfl⟩:=cd;refine⟨l9.le (abW _),?_⟩;apply au;simp only[go_sem,gV,iv,T.dec_var];refine aw ?_;obtain⟨i,hi⟩:∃i,i=min s.var t.var:=⟨_,rfl⟩;have ao:(if ((t.var:Nat):Int)<((s.var:Nat):Int)then ((t.var:Nat):Int)else ((s.var:Nat):Int))=((i:Nat):Int):=by split<;>omega
    have aa:i<24:=by
     rcases aaf i 24 with h|h
     ·exact h
     ·exfalso;have h1:=T.var_le bx;have h2:=T.var_le bs;have h3:s.ok 24:=by cases s with
       |lf b=>trivial
       |nd v l r=>exact absurd hs.2.1 (by simp only[T.var]at *;omega)
      have h4:t.ok 24:=by cases t with
       |lf b=>trivial
       |nd v l r=>exact absurd ht.2.1 (by simp only[T.var]at *;omega)
      obtain⟨x,rfl⟩:=T.is_lf h3;obtain⟨y,rfl⟩:=T.is_lf h4;exact cj ⟨by simp only[T.plc];split<;>omega,by simp only[T.plc];split<;>omega⟩
    have al:i<=s.var:=by omega
    have aj:i<=t.var:=by omega
    have dj:k<=i:=by have:=T.var_ge hs a1;have:=T.var_ge ht a1;omega
    have pn:2^(n+1)=2^n+2^n:=by rw[abd];omega
    have pnn:0<2^n:=Nat.two_pow_pos n;have dls:=T.dec_lo ta s al aa;have dhs:=T.dec_hi ta s al aa;have x5:=T.dec_lo tb t aj aa;have dht:=T.dec_hi tb t aj aa;rw[T.dec_var]at dls dhs x5 dht;cases ag:decide (s.var=i)<;>cases ac:decide (t.var=i)
    ·simp only[abp]at ag ac;omega
    have els:T.plc ta (T.lo i s)=T.plc ta s:=by rw[<-dls,ZV (by simpa using ag)]
    have ehs:T.plc ta (T.hi i s)=T.plc ta s:=by rw[<-dhs,ZV (by simpa using ag)]
    have elt:T.plc tb (T.lo i t)=(T.dec tb t).2.1:=by rw[<-x5,aaq (by simpa using ac)]
    have eht:T.plc tb (T.hi i t)=(T.dec tb t).2.2:=by rw[<-dht,aaq (by simpa using ac)]
    apply RG;simp only[go_sem,gV,iv,T.dec_var,ao,NP,ag,ac]
    rotate_left
    have els:T.plc ta (T.lo i s)=(T.dec ta s).2.1:=by rw[<-dls,aaq (by simpa using ag)]
    have ehs:T.plc ta (T.hi i s)=(T.dec ta s).2.2:=by rw[<-dhs,aaq (by simpa using ag)]
    have elt:T.plc tb (T.lo i t)=T.plc tb t:=by rw[<-x5,ZV (by simpa using ac)]
    have eht:T.plc tb (T.hi i t)=T.plc tb t:=by rw[<-dht,ZV (by simpa using ac)]
    apply RG;simp only[go_sem,gV,iv,T.dec_var,ao,NP,ag,ac]
    rotate_left
    have els:T.plc ta (T.lo i s)=(T.dec ta s).2.1:=by rw[<-dls,aaq (by simpa using ag)]
    have ehs:T.plc ta (T.hi i s)=(T.dec ta s).2.2:=by rw[<-dhs,aaq (by simpa using ag)]
    have elt:T.plc tb (T.lo i t)=(T.dec tb t).2.1:=by rw[<-x5,aaq (by simpa using ac)]
    have eht:T.plc tb (T.hi i t)=(T.dec tb t).2.2:=by rw[<-dht,aaq (by simpa using ac)]
    apply RG;simp only[go_sem,gV,iv,T.dec_var,ao,NP,ag,ac];refine cK mixed [0,1,2,3,4,5,6,7] [] [] [3] [5] [14,15] rfl rfl ?_;refine gw ?_;refine aw ?_;apply RG;simp only[go_sem,NP,ac]
    all_goals
     refine cK mixed [0,1,2,3,4,5,6,7] [] [] [3] [5] [14,15] rfl rfl ?_;refine gw ?_;refine aw ?_;apply RG;simp only[go_sem,NP,ac];have c1:=ih (k:=i+1) (I:=I) (ms:=ms) (L:=L) ab ab (T.lo_ok hs ab) (T.lo_ok ht ab) (T.isIn_lo hI.sa am i) (T.isIn_lo hI.sb ak i) hI ⟨_,N,rfl,⟨A,sv,r',M,rfl,hA,cc,sq⟩,hN,a7⟩ ab;rw[els,elt]at c1;refine DY hd [0,1,2,3] rfl oh rfl (F:=[]) rfl c1 fun v1 I2 qs b3 bc a3=>?_;obtain⟨us1,L1,cb,da,bd,rfl⟩:=a3;have b6:=hI.le bc;simp only[aa6]at b3 |-;apply RG;simp only[go_sem,iv];refine iZ mixed [0,1,2,3,4,5,6,7,8,9,10,11,12,13,14] [] [] [3] [12] I2 rfl rfl ?_;apply au;simp only[go_sem,iv];refine je (l:=[_]) rfl (cP b3) rfl rfl rfl (az b6.hp (by simp) rfl) (.inr ⟨zj,rfl⟩) ?_;apply au;simp only[go_sem,iv];have c2:=ih (k:=i+1) (I:=I2) (ms:=ms++us1) (L:=L1) ab ab (T.hi_ok hs ab) (T.hi_ok ht ab) (T.isIn_hi hI.sa am i) (T.isIn_hi hI.sb ak i) b6 cb (by simp only[aa9];omega);rw[ehs,eht]at c2;obtain⟨mk1,N1,rfl,cB,dk,ci⟩:=cb;obtain⟨A1,sv1,r1',M1,rfl,ds,cx,sq1⟩:=cB;refine DX b3 [0,1,2,3] rfl (fun _=>abW _) rfl oh rfl (F:=[]) rfl c2 fun v2 I3 qs ca bb a3=>?_;obtain⟨us2,L2,cr,c9,b1,rfl⟩:=a3;have c4:=b6.le bb;obtain⟨mk2,N2,rfl,cA,ct,a6⟩:=cr;obtain⟨A2,sv2,r2',M2,rfl,c6,b5,sq2⟩:=cA;simp only[aa6,aaz,aaA]at ca |-;apply au;simp only[go_sem,iv];have c3:=tT (mb:=mb) (I:=I3) (i:=i) ⟨A2,sv2,r2',M2,rfl,c6,b5,sq2⟩ aa (T.opT_ok (f:=f) (T.lo_ok hs al) (T.lo_ok ht aj) ab) (T.opT_ok (f:=f) (T.hi_ok hs al) (T.hi_ok ht aj) ab) bd.app b1 (by simp only[aa9];omega);rw[T.plc_app bd]at c3;refine DX ca [0,1,2,3] rfl (fun h=>by cases h) rfl qk rfl (F:=[N2]) rfl c3 fun v3 I4 qs b2 ba a3=>?_
     obtain⟨us3,cy,c8,a2,rfl⟩:=a3;have c0:=c4.le ba;obtain⟨A3,sv3,r3',M3,rfl,c5,b4,sq3⟩:=cy;simp only[aaz,aaA]at b2 |-;apply au;simp only[go_sem,iv];refine aw ?_;apply RG;simp only[go_sem,iv];refine dN mixed [0,1,2,3,4,5,6] [3] [] rfl rfl ?_;apply au;simp only[go_sem,iv];refine W7 (l:=[_]) rfl (cellsU b2 (.head _) (az c0.hp (by simp) rfl)) (.inr ⟨Dh,rfl⟩) ?_;apply au;simp only[go_sem,iv];have bC:T.mk i (T.opT f (T.lo i s) (T.lo i t)) (T.opT f (T.hi i s) (T.hi i t))=T.opT f s t:=(T.opT_rec bx bs hi aa).symm;rw[bC]at a2 |-;refine nI b2 [3,0,1,2] fun cp=>?_;refine nT (by exact JS) (by exact Ec) (key:=kV (T.plc ta s) (T.plc tb t)) (v:=iv (T.plc (ms++us1++us2++us3) (T.opT f s t))) cp rfl rfl rfl (.inl rfl) rfl rfl rfl ct (by exact aS) fun N3 cm cs=>?_;refine aw ?_;apply RG;simp only[go_sem,iv];refine bf cm [1,2,3,0] fun cl=>?_;have a5:NN f ta tb (ms++us1++us2++us3) L2:=a6.app;refine af rfl cl (r:=[_]) rfl (abV bc (abV bb ba)) ⟨us1++us2++us3,(s,t)::L2,?_,?_,?_,?_⟩
     ·refine⟨_,N3,rfl,⟨A3,sv3,r3',M3,rfl,?_,?_,?_⟩,?_,?_⟩
      ·simpa[aaT]using c5
      ·simpa[aaT]using b4
      ·simpa[aaT]using sq3
      ·refine cs.congr fun y u=>?_;have e1:=x7 a5 am ak y u;rw[BA a6]at e1;simpa[aaT]using e1
      ·intro s' t' hm;rcases List.mem_cons.1 hm with e|hm
       ·cases e;exact⟨am,ak,by simpa[aaT]using a2⟩
       ·simpa[aaT]using a5 s' t' hm
     ·simp only[aa9];omega
     ·simpa[aaT]using a2
     ·simp[gv,iv,aaT]
def KI(a3:Wv fid S)(a6:aO Tryz.prog fid)(hS:Hg S f){I:PH}{va vb:Value}{a b:T}(ha:cX I va a)(hb:cX I vb b):
  aK Tryz.prog 96 #[va,vb,.func (.func fid) #[] #[]] I [] fun v I2 qs=>qs=[]/\cX I2 v (T.opT f a b):=by
 intro hd;obtain⟨oka,sla,rfl,a5⟩:=ha;obtain⟨okb,slb,rfl,a4⟩:=hb;refine cC Tryz.func96 rfl (by simp[Tryz.ntmps96]) fun w0=>?_;simp only[Tryz.ntmps96,pt,iv];apply RG;simp only[go_sem,iv];refine dN mixed [1,2,0,3,4,5,6] [] [] rfl rfl ?_;apply au;simp only[go_sem,iv];refine DX hd [] rfl (fun h=>by cases h) rfl BY rfl (F:=[]) rfl (rS I) fun v I2 qs a1 ac hq=>?_;obtain⟨mb,rfl,A,sv,r,M,rfl,hA,hM,sq⟩:=hq;simp only[aa6]at a1 |-;apply au;simp only[go_sem,iv,pt];refine Cn 335 a1 rfl rfl fun q N bb hN=>?_;apply au;simp only[go_sem,iv,pt];refine aw ?_;apply RG;simp only[go_sem,iv,pt];refine fV 13 bb rfl fun pb ba=>?_;refine ae ba fun I3 aS aa a2=>?_;have hI:Du I3 pb mb q sla (iv (T.plc (T.subs a) a)) slb (iv (T.plc (T.subs b) b)) (T.subs a) (T.subs b):=
  ⟨a2 _ _ (dL _ _),(a5.le ac).le aa,(a4.le ac).le aa,T.subs_seq oka,T.subs_seq okb,by have:=T.subs_len oka;omega,by have:=T.subs_len okb;omega⟩
 apply RG;simp only[go_sem,iv,pt];refine iZ mixed [0,1,2,3,4,5,6,7,8,9,10,11,12] [] [] [3] [10] I3 rfl rfl ?_;apply au;simp only[go_sem,iv,pt];refine je (l:=[_]) rfl (cP aS) rfl rfl rfl (az hI.hp (by simp) rfl) (.inr ⟨zj,rfl⟩) ?_;apply au;simp only[go_sem,iv,pt];refine nI aS [1,2,3,0] fun a9=>?_;have c1:=Tg a3 a6 hS (pb:=pb) (mb:=mb) (q:=q) 24 (k:=0) (s:=a) (t:=b) (ms:=[]) (L:=[]) (I:=I3) ab ab oka okb (T.subs_in oka) (T.subs_in okb) hI ⟨_,N,rfl,⟨A,sv,r,M,rfl,hA,hM,sq⟩,hN.congr fun y u=>⟨fun⟨_,_,h,_⟩=>absurd h aaB,fun h=>h.elim⟩,fun s t h=>absurd h aaB⟩ (by simp);refine DX a9 [0,1,2,3] rfl (fun _=>abW _) rfl oh rfl (F:=[]) rfl c1 fun v1 I4 qs aq al aj=>?_;obtain⟨us,L2,hP,hn,an,rfl⟩:=aj;obtain⟨mk,N2,rfl,bc,bs,_⟩:=hP;obtain⟨A2,sv2,r2,M2,rfl,bd,am,sq2⟩:=bc;simp only[aa6,aaA,aaz]at aq an |-;apply au;simp only[go_sem,iv,pt];have c2:=Fx (mb:=mb) (I:=I4) ⟨A2,sv2,r2,M2,rfl,bd,am,sq2⟩ an (T.opT_ok oka okb ab) (by simp only[aaA];omega);refine DX aq [0,1,2,3] rfl (fun h=>by cases h) rfl BX rfl (F:=[N2]) rfl c2 fun v2 I5 qs ao ak aj=>?_;obtain⟨rfl,hr⟩:=aj;simp only[aaA]at ao |-;obtain⟨okr,slr,rfl,⟨za,zc,rfl,hz⟩⟩:=hr;apply au;simp only[go_sem,iv,pt];refine aw ?_;apply RG;simp only[go_sem,iv,pt];refine ae (c:=.st _) ao fun I6 a7 ag _=>?_;refine af rfl a7 (r:=[.agg #[.slice za (T.subs (T.opT f a b)).length zc,iv (T.plc (T.subs (T.opT f a b)) (T.opT f a b))]]) (by simp only[Tryz.results96,go_sem,iv]) (abV ac (abV aa (abV al (abV ak ag)))) ⟨rfl,okr,_,rfl,uo.le ⟨za,zc,rfl,hz⟩ ag⟩
def Qj:aO Tryz.prog 127:=⟨_,Tryz.func127,rfl,rfl⟩
end Go.Proofs.YtfaclfkpnmcmlaaGreatDoor
namespace Go.Sx
def aP.get{H:PH}{b off:Nat}{l:List Value}(h:aP H b off l){i:Nat}{x:Value}(hx:l[i]?=some x):aP H b (off+i) [x]:=by
 have hi:i<l.length:=by
  rcases aaf i l.length with h|h
  ·exact h
  ·rw[aan h]at hx;cases hx
 have:=h.sub i 1 ab;have e:(l.drop i).take 1=[x]:=by
  rw[aaK hi];rw[aak hi]at hx;simp[aaZ hx]
 rw[e]at this;exact this
end Go.Sx
namespace Go.Proofs.YtfaclfkpnmcmlaaGreatDoor
open Go Go.Sx Dg
variable{t:T}{ts:List T}
def OC(h:T.isIn ts t):(T.lf false::T.lf true::ts)[T.plc ts t]?=some t:=by
 cases t with
 |lf b=>cases b<;>rfl
 |nd v l r=>
  have hm:T.nd v l r∈ts:=h;simp only[T.plc,abi];rw[aak (abb hm)];simp
def Js(ms ts:List T):List Value:=(T.lf false::T.lf true::ts).map fun t=>iv (T.plc ms t.not)
def xS{ms:List T}(h:T.isIn ts t):(Js ms ts)[T.plc ts t]?=some (iv (T.plc ms t.not)):=by
 unfold Js;rw[aai,OC h];rfl
def Ei{j:Nat}(h:T.isIn (ts.take j) t):T.plc ts t=T.plc (ts.take j) t:=by
 have:=T.plc_app (us:=ts.drop j) h
 rwa [abq]at this
def MM{ms us:List T}(h:∀t,T.isIn us t->T.isIn ms t.not){v:Nat}{l r:T}(hn:T.isIn ms (T.nd v l r).not)(t:T)(ht:T.isIn (us++[.nd v l r]) t):T.isIn ms t.not:=by
 rcases qH.1 ht with h1|rfl
 ·exact h t h1
 ·exact hn
def Ae(mb:Nat)(sl rv:Value)(n:Nat)(a:Nat×Value):St:=
 ⟨sp 0 45 [(3,.v (.func (.func 125) #[pt mb] #[])),(4,.p 4 0),(9,.v a.2),(16,.v sl),(17,.v (.int .i64 n)),(18,.v (.int .i64 a.1))],[⟨4,50,[sl,rv]⟩]⟩
def Vx(mb:Nat)(ts:List T)(I0:PH)(a:Nat×Value)(H:PH):Prop:=
 ∃I A mk ms,H=U (I::A::mk)/\Dj (I::A::mk)/\I0.le I/\a.1<=ts.length/\mh A 3 1 a.2 (a.1+2) (Js ms (ts.take a.1))/\Bt mb ms mk/\ms.length<=a.1/\∀t,T.isIn (ts.take a.1) t->T.isIn ms t.not
variable{I:PH}
def TJ{mb:Nat}{ps:List PH}{sl:Value}(ba:t.ok 0)(hL:uo I sl (T.subs t))(hM:Bt mb [] ps):
  aK Tryz.prog 127 #[.agg #[sl,iv (T.plc (T.subs t) t)],.int .i64 1,.int .i64 0,.func (.func 125) #[pt mb] #[]] I ps fun v I2 qs=>∃ms,Bt mb ms qs/\T.isIn ms t.not/\v=iv (T.plc ms t.not)/\ms.length<2^24:=by
 intro hd;obtain⟨za,zc,rfl,hz⟩:=hL;have ci:=T.subs_len ba;have a9:=T.subs_seq ba;have bC:=T.subs_in ba;refine cC Tryz.func127 rfl (by simp[Tryz.ntmps127]) fun w0=>?_;simp only[Tryz.ntmps127,pt,iv];refine aT ?_;refine fx hd tz rfl rfl rfl rfl rfl bg fun b A cx hA=>?_;refine aT ?_;refine aA (fun a=>(T.subs t).length-a.1) (Ae mb (.slice za (T.subs t).length zc) (iv (T.plc (T.subs t) t)) (T.subs t).length) (Vx mb (T.subs t) I) (0,.slice (some ⟨b,0,none⟩) 2 2) (by simp only[go_sem,aa6,Ae,iv,pt]) (by simp only[go_sem,aa6,Ae,iv]) ?_ ?_
 ·exact⟨I,A,ps,[],rfl,cx,abW _,aaL _,hA,hM,by simp,fun t ht=>by cases t<;>simp_all[T.isIn,T.not]⟩
 rintro⟨j,sv⟩ H ⟨I1,A1,mk,ms,rfl,al,ag,hj,am,bF,cf,aa⟩ ak;simp only at hj am cf aa;simp only[Ae];rcases aaf j (T.subs t).length with aj|c5
 ·have b0:decide ((j:Int)<((T.subs t).length:Int))=true:=by simp;omega
  rcases hz with h0|⟨lb,rfl,hc⟩
  ·rw[h0]at aj;simp at aj
  obtain⟨u,hu⟩:∃u,(T.subs t)[j]?=some u:=⟨_,aak aj⟩;obtain⟨v,l,r,rfl,an,aS,aq⟩:=a9.2 j u hu;apply RG;simp only[go_sem,b0,iv,pt];refine⟨⟨ab,ab⟩,?_⟩;have ac:=hc.sub (j*3) 3 (by have:=qp (T.subs t);omega);rw[qw hu,ZZ]at ac;refine XN (l:=nt (T.dec (T.subs t) (.nd v l r))) (v:=gV (T.dec (T.subs t) (.nd v l r))) rfl (cellsU al (.head _) (ac.le ag)) (.inl ⟨uK,rfl⟩) ?_;obtain⟨g,cap,rfl,hg⟩:=am.cellsU al (.tail _ (.head _)) ab;apply RG;simp only[go_sem,gV,iv,pt,T.dec];refine dN mixed [0,1,2,3,4,5,6,7,8,9,10,11,12,13,14,15,16,17] [8,13] [] rfl rfl ?_;apply au;simp only[go_sem,iv,pt];have pl:=T.plc_lt aS;have pr:=T.plc_lt aq;have tl:((T.subs t).take j).length=j:=by simp;omega
  rw[tl]at pl pr;have el:=Ei aS;have er:=Ei aq;have cl:=hg.get (xS aS);have cr:=hg.get (xS aq);rw[ZZ,<-el]at cl;rw[ZZ,<-er]at cr;refine⟨⟨ab,ab⟩,?_⟩;refine W7 (l:=[iv (T.plc ms l.not)]) rfl (by simpa using cl) (.inr ⟨jq,rfl⟩) ?_;apply au;simp only[go_sem,iv,pt];refine⟨⟨ab,ab⟩,?_⟩;refine W7 (l:=[iv (T.plc ms r.not)]) rfl (by simpa using cr) (.inr ⟨jq,rfl⟩) ?_;apply au;simp only[go_sem,iv,pt];have c1:=tT (mb:=mb) (I:=I1) (i:=v) bF an.2.1 (T.not_ok an.2.2.2.1) (T.not_ok an.2.2.2.2) (aa l aS) (aa r aq) ab;obtain⟨mA,mS,mR,mM,rfl,c3,c2,c0⟩:=bF;refine DX al [1,2,3,0] rfl (fun h=>by cases h) rfl qk rfl (F:=[A1]) rfl c1 fun v1 I2 qs b5 bs b8=>?_;obtain⟨us,cy,cB,bx,rfl⟩:=b8;obtain⟨nA,nS,nR,nM,rfl,cd,cc,cb⟩:=cy;simp only[aaz,aaA]at b5 |-;apply au;simp only[go_sem,iv,pt];refine bj b5 tz rfl rfl rfl rfl rfl bg fun nb I3 cs bd ca=>?_;apply au;simp only[go_sem,iv,pt];refine nI cs [3,0,1,2] fun b4=>?_;have cA:mh A1 3 1 (.slice (some ⟨g,0,none⟩) (j+2) cap) (j+2) (Js (ms++us) ((T.subs t).take j)):=am.xs rfl (by
   unfold Js;refine aat fun x hx=>?_;have:T.isIn ms x.not:=by
    rcases List.mem_cons.1 hx with rfl|hx
    ·trivial
    ·rcases List.mem_cons.1 hx with rfl|hx
     ·trivial
     ·exact aa x (DH ⟨(a9.1.sublist (List.take_sublist j _)),fun i u ao=>by
       rw[Z0]at ao;split at ao
       ·obtain⟨a1,a2,a3,a4,a5,a6,a7⟩:=a9.2 i u ao;rename_i b3;exact⟨a1,a2,a3,a4,a5,by rw[aa4,aaN (aar b3)];exact a6,by rw[aa4,aaN (aar b3)];exact a7⟩
       ·cases ao⟩ hx)
   rw[T.plc_app this])
  refine j3 (m:=1) b4 tz cA rfl rfl rfl rfl rfl rfl (cellsU b4 (.head _) (az (l:=[iv (T.plc (ms++us) (T.mk v l.not r.not))]) ca (by simp[aD,Value.cells]) (by simp[aD,Value.cells,iv]))) rfl rfl ab (by unfold maxLen;omega) fun v' I4 A4 cp bc b6=>?_;obtain⟨a4,c4,rfl⟩:=b6.slice;apply au;simp only[go_sem,iv,pt];refine aw ?_;have hw:=wrap64 (n:=j+1) ab;have b7:IntKind.i64.wrap ((j:Int)+1)=((j+1:Nat):Int):=by rw[<-hw];congr 1
  apply RG;simp only[go_sem,iv,pt,b7];have b2:T.mk v l.not r.not=(T.nd v l r).not:=by
   simp only[T.mk,T.not];rw[ZV];intro e;apply an.2.2.1;rw[<-T.not_not l,e,T.not_not]
  have b1:(T.subs t).take (j+1)=(T.subs t).take j++[T.nd v l r]:=by
   rw[aaM aj];congr 1;rw[aak aj]at hu;rw[aaZ hu]
  refine ak (j+1,.slice a4 (j+2+1) c4) _ _ dt (by simp only[go_sem,aa6,Ae,iv,pt]) (by simp only[go_sem,aa6,Ae,iv]) ⟨I4,A4,_,ms++us,rfl,cp,abV ag (abV bs (abV bd bc)),aj,b6.xs ab ?_,⟨nA,nS,nR,nM,rfl,cd,cc,cb⟩,by simp only[aa9];omega,?_⟩
  ·simp only;rw[b1];simp[Js,b2]
  ·simp only;rw[b1];exact MM (fun x hx=>(aa x hx).app) (by rw[<-b2];exact bx)
 ·have b0:decide ((j:Int)<((T.subs t).length:Int))=false:=by simp;omega
  obtain⟨g,cap,rfl,hg⟩:=am.cellsU al (.tail _ (.head _)) ab;have cj:j=(T.subs t).length:=by omega
  subst cj;rw[aaS]at hg aa am;have pt':=T.plc_lt bC;have ct:=hg.get (xS bC);rw[ZZ]at ct;apply RG;simp only[go_sem,b0,iv];refine⟨⟨ab,ab⟩,?_⟩;refine XN (l:=[iv (T.plc ms t.not)]) rfl (by simpa using ct) (.inr ⟨jq,rfl⟩) ?_;apply RG;simp only[go_sem,iv];refine ae (c:=.st _) (A:=A1) al fun I5 cm bb _=>?_;exact af rfl cm (r:=[_]) rfl (abV ag bb) ⟨ms,bF,aa t bC,rfl,ab⟩
def LS:aO Tryz.prog 96:=⟨_,Tryz.func96,rfl,rfl⟩
def Qi:aO Tryz.prog 163:=⟨_,Tryz.func163,rfl,rfl⟩
def S0:aO Tryz.prog 97:=⟨_,Tryz.func97,rfl,rfl⟩
def kK:aO Tryz.prog 94:=⟨_,Tryz.func94,rfl,rfl⟩
def yj:aO Tryz.prog 39:=⟨_,Tryz.func39,rfl,rfl⟩
def oT:aO Tryz.prog 71:=⟨_,Tryz.func71,rfl,rfl⟩
def jt:aO Tryz.prog 50:=⟨_,Tryz.func50,rfl,rfl⟩
def Kb:aO Tryz.prog 68:=⟨_,Tryz.func68,rfl,rfl⟩
def FR:aO Tryz.prog 27:=⟨_,Tryz.func27,rfl,rfl⟩
def yl:aO Tryz.prog 80:=⟨_,Tryz.func80,rfl,rfl⟩
def cX.shape{v:Value}(h:cX I v t):∃a c,v=.agg #[.slice a (T.subs t).length c,iv (T.plc (T.subs t) t)]:=by
 obtain⟨_,sl,rfl,a,c,rfl,_⟩:=h;exact⟨a,c,rfl⟩
variable{va:Value}
def oQ{vb:Value}{a b:T}(ha:cX I va a)(hb:cX I vb b):aK Tryz.prog 94 #[va,vb] I [] fun v I2 qs=>qs=[]/\cX I2 v (a.and b):=by
 intro hd;obtain⟨xa,ca,rfl⟩:=ha.shape;obtain⟨xb,cb,rfl⟩:=hb.shape;refine cC Tryz.func94 rfl (by simp[Tryz.ntmps94]) fun w0=>?_;simp only[Tryz.ntmps94,iv];apply RG;simp only[go_sem,iv];refine DY hd [] rfl LS rfl (F:=[]) rfl (KI Sj Qi HG ha hb) fun v I2 qs ac aa hq=>?_;obtain⟨rfl,hr⟩:=hq;obtain⟨xr,cr,rfl⟩:=hr.shape;simp only[aa6]at ac |-;apply RG;simp only[go_sem,iv];exact af rfl ac (r:=[.agg #[.slice xr (T.subs (a.and b)).length cr,iv (T.plc (T.subs (a.and b)) (a.and b))]]) (by simp only[Tryz.results94,go_sem,iv,T.and_eq]) aa ⟨rfl,hr⟩
def KP{vb:Value}{a b:T}(ha:cX I va a)(hb:cX I vb b):aK Tryz.prog 39 #[va,vb] I [] fun v I2 qs=>qs=[]/\cX I2 v (a.or b):=by
 intro hd;obtain⟨xa,ca,rfl⟩:=ha.shape;obtain⟨xb,cb,rfl⟩:=hb.shape;refine cC Tryz.func39 rfl (by simp[Tryz.ntmps39]) fun w0=>?_;simp only[Tryz.ntmps39,iv];apply RG;simp only[go_sem,iv];refine DY hd [] rfl LS rfl (F:=[]) rfl (KI Ny S0 Mk ha hb) fun v I2 qs ac aa hq=>?_;obtain⟨rfl,hr⟩:=hq;obtain⟨xr,cr,rfl⟩:=hr.shape;simp only[aa6]at ac |-;apply RG;simp only[go_sem,iv];exact af rfl ac (r:=[.agg #[.slice xr (T.subs (a.or b)).length cr,iv (T.plc (T.subs (a.or b)) (a.or b))]]) (by simp only[Tryz.results39,go_sem,iv,T.or_eq]) aa ⟨rfl,hr⟩
def uX{a:T}(ha:cX I va a):aK Tryz.prog 71 #[va] I [] fun v I2 qs=>qs=[]/\cX I2 v a.not:=by
 intro hd;obtain⟨oka,sla,rfl,aj⟩:=ha;obtain⟨xa,ca,rfl,hz⟩:=id aj;refine cC Tryz.func71 rfl (by simp[Tryz.ntmps71]) fun w0=>?_;simp only[Tryz.ntmps71,iv];apply RG;simp only[go_sem,iv];refine DY hd [] rfl BY rfl (F:=[]) rfl (rS I) fun v I2 qs am aa hq=>?_;obtain⟨mb,rfl,hM⟩:=hq;obtain⟨A,sv,r,M,rfl,hA,a1,sq⟩:=id hM;simp only[aa6]at am |-;apply RG;simp only[go_sem,iv,pt];refine DY am [0,1,2] rfl Qj rfl (F:=[]) rfl (TJ (mb:=mb) oka (aj.le aa) hM) fun v1 I3 qs al ag hq=>?_;obtain⟨ms,an,aq,rfl,ao⟩:=hq;obtain⟨A2,sv2,r2,M2,rfl,a2,aS,sq2⟩:=id an;simp only[aa6]at al |-;apply RG;simp only[go_sem,iv,pt];refine DY al [0,1,2] rfl BX rfl (F:=[]) rfl (Fx (mb:=mb) an aq (T.not_ok oka) ab) fun v2 I4 qs ak ac hq=>?_;obtain⟨rfl,hr⟩:=hq;obtain⟨xr,cr,rfl⟩:=hr.shape;simp only[aa6]at ak |-;apply RG;simp only[go_sem,iv];exact af rfl ak (r:=[.agg #[.slice xr (T.subs a.not).length cr,iv (T.plc (T.subs a.not) a.not)]]) (by simp only[Tryz.results71,go_sem,iv]) (abV aa (abV ag ac)) ⟨rfl,hr⟩
def mf{a b:Nat}(ha:a<2^32)(hb:b<2^32):tN .u32 (a:Int) (b:Int)=((a&&&b:Nat):Int):=by
 have ea:BitVec.ofInt 32 (a:Int)=BitVec.ofNat _ a:=by rw[BitVec.ofInt_natCast]
 have eb:BitVec.ofInt 32 (b:Int)=BitVec.ofNat _ b:=by rw[BitVec.ofInt_natCast]
 have hc:a&&&b<2^32:=Nat.lt_of_le_of_lt Nat.and_le_left ha;have:tN .u32 (a:Int) (b:Int)=IntKind.u32.wrap ((BitVec.ofInt 32 (a:Int)&&&BitVec.ofInt 32 (b:Int)).toNat:Int):=rfl;rw[this,ea,eb,BitVec.toNat_and,BitVec.toNat_ofNat,BitVec.toNat_ofNat,Nat.mod_eq_of_lt ha,Nat.mod_eq_of_lt hb];simp only[IntKind.wrap,show IntKind.bits .u32=32 from rfl,show IntKind.signed .u32=false from rfl];have:((a&&&b:Nat):Int) % (2^32:Int)=((a&&&b:Nat):Int):=abm ab (by exact_mod_cast hc);simpa using this
def Gj{a i:Nat}(hi:i<=32):ut .u32 (a:Int) (i:Int)=((a >>> i:Nat):Int):=by
 have:ut .u32 (a:Int) (i:Int)=Int.fdiv (a:Int) (2^(min i 32)):=rfl;have e:min i 32=i:=by omega
 rw[this,e,abs];have:(2^i:Int)=((2^i:Nat):Int):=by simp
 rw[this,Int.fdiv_eq_ediv_of_nonneg _ (abt _)];rfl
def AL{a i:Nat}(ha:a<2^32):a >>> i<2^32:=by rw[abs];exact Nat.lt_of_le_of_lt (Nat.div_le_self _ _) ha
def Me(a i:Nat):((((a >>> i)&&&1:Nat):Int) == 1)=a.testBit i:=by
 have:(a >>> i)&&&1=(a.testBit i).toNat:=by
  rw[Nat.and_one_is_mod,Nat.testBit_eq_decide_div_mod_eq,abs];have:=Nat.mod_two_eq_zero_or_one (a / 2^i);rcases this with h|h<;>simp[h]
 rw[this];cases a.testBit i<;>rfl
def gN(on off:Nat):Nat->T
 |0=>.lf true
 |k+1=>if on.testBit (23-k)then T.mk (23-k) (.lf false) (gN on off k)else if off.testBit (23-k)then T.mk (23-k) (gN on off k) (.lf false)else gN on off k
def sm(on off:Nat):∀k,k<=24->(gN on off k).ok (24-k)
 |0,_=>trivial
 |k+1,hk=>by
  have ih:=sm on off k ab;have e:24-k=23-k+1:=by omega
  have e2:24-(k+1)=23-k:=by omega
  rw[e]at ih;unfold gN;rw[e2];split
  ·exact T.mk_ok (ZR _) ab trivial ih
  ·split
   ·exact T.mk_ok (ZR _) ab ih trivial
   ·exact ih.mono ab
def DV(on off:Nat)(c:bP):∀k,k<=24->((gN on off k).at' c=true<->∀i,24-k<=i->i<24->(on.testBit i=true->c i=true)/\(on.testBit i=false->off.testBit i=true->c i=false))
 |0,_=>⟨fun _ i h1 h2=>by omega,fun _=>rfl⟩
 |k+1,hk=>by
  have ih:=DV on off c k ab;have step:(∀i,24-(k+1)<=i->i<24->(on.testBit i=true->c i=true)/\(on.testBit i=false->off.testBit i=true->c i=false))<->
    ((on.testBit (23-k)=true->c (23-k)=true)/\(on.testBit (23-k)=false->off.testBit (23-k)=true->c (23-k)=false))/\(∀i,24-k<=i->i<24->(on.testBit i=true->c i=true)/\(on.testBit i=false->off.testBit i=true->c i=false)):=by
   constructor
   ·exact fun h=>⟨h _ ab ab,fun i h1 h2=>h i ab h2⟩
   ·rintro⟨h1,h2⟩ i h3 h4;by_cases e:i=23-k
    ·subst e;exact h1
    ·exact h2 i ab h4
  rw[step,<-ih];have e:gN on off (k+1)=if on.testBit (23-k)then T.mk (23-k) (.lf false) (gN on off k)else if off.testBit (23-k)then T.mk (23-k) (gN on off k) (.lf false)else gN on off k:=rfl
  rw[e];generalize gN on off k=r;cases h1:on.testBit (23-k)<;>cases h2:off.testBit (23-k)<;>cases hc:c (23-k)<;>simp[T.mk_at,T.at',hc]
def jx(on off:Nat):T:=if (on&&&16777215)&&&(off&&&16777215)≠0 then .lf false else gN (on&&&16777215) (off&&&16777215) 24
def wQ(on off:Nat):(jx on off).ok 0:=by
 unfold jx;split
 ·trivial
 ·exact sm _ _ 24 (ZR _)
def rg(on off mb:Nat)(a:Nat×Nat):St:=
 ⟨sp 0 45 [(0,.v (.int .u32 on)),(1,.v (.int .u32 off)),(4,.p 4 0),(5,.v (pt mb)),(6,.v (iv a.2)),(7,.v (.int .i64 (23-(a.1:Int))))],[⟨4,50,[.slice none 0 0,.int .i64 0]⟩]⟩
def UZ(on off mb:Nat)(I0:PH)(a:Nat×Nat)(H:PH):Prop:=
 ∃I mk ms,H=U (I::mk)/\Dj (I::mk)/\I0.le I/\a.1<=24/\Bt mb ms mk/\ms.length<=a.1/\T.isIn ms (gN on off a.1)/\a.2=T.plc ms (gN on off a.1)
def FD{on off:Nat}(bF:on<2^32)(aS:off<2^32):aK Tryz.prog 69 #[.int .u32 on,.int .u32 off] I [] fun v I2 qs=>qs=[]/\cX I2 v (jx on off):=by
 intro hd;refine cC Tryz.func69 rfl (by simp[Tryz.ntmps69]) fun w0=>?_;simp only[Tryz.ntmps69,iv];have b6:(16777215:Nat)<2^32:=by decide
 have ao:on&&&16777215<2^32:=Nat.lt_of_le_of_lt Nat.and_le_left bF;have aj:off&&&16777215<2^32:=Nat.lt_of_le_of_lt Nat.and_le_left aS;have e1:=mf bF b6;have e2:=mf aS b6;have e3:=mf ao aj;simp only[abo]at e1 e2;by_cases hz:(on&&&16777215)&&&(off&&&16777215)=0
 ·have bC:((((on&&&16777215)&&&(off&&&16777215):Nat):Int) != 0)=false:=by rw[hz];rfl
  apply RG;simp only[go_sem,e1,e2,e3,bC];refine DY hd [] rfl BY rfl (F:=[]) rfl (rS I) fun v I2 qs b5 a9 hq=>?_;obtain⟨mb,rfl,hM⟩:=hq;simp only[aa6]at b5 |-;apply RG;simp only[go_sem,iv,pt];refine aA (fun a=>24-a.1) (rg (on&&&16777215) (off&&&16777215) mb) (UZ (on&&&16777215) (off&&&16777215) mb I) (0,1) (by simp only[go_sem,aa6,rg,iv,pt,Int.sub_zero]) (by simp only[go_sem,aa6,rg,iv]) ?_ ?_
  ·exact⟨I2,qs,[],rfl,b5,a9,aaL _,hM,by simp,trivial,rfl⟩
  rintro⟨k,r⟩ H ⟨I3,mk,ms,rfl,a3,ag,hk,al,b8,a1,hr⟩ aa;simp only at hk al b8 a1 hr;subst hr;simp only[rg];rcases aaf k 24 with a2|ca
  ·have bx:decide (23-(k:Int)>=0)=true:=by simp;omega
   have ei:(23-(k:Int))=((23-k:Nat):Int):=by omega
   have ewr:IntKind.i64.wrap (((23-k:Nat):Int)-1)=23-((k+1:Nat):Int):=by
    have h1:(((23-k:Nat):Int)-1)=22-(k:Int):=by omega
    rw[h1];have:∀k:Nat,k<24->IntKind.i64.wrap (22-(k:Int))=23-((k+1:Nat):Int):=by decide
    exact this k a2
   have hs1:=Gj (a:=on&&&16777215) (i:=23-k) ab;have a6:=Gj (a:=off&&&16777215) (i:=23-k) ab;have a5:=mf (AL (i:=23-k) ao) (show (1:Nat)<2^32 by decide);have a4:=mf (AL (i:=23-k) aj) (show (1:Nat)<2^32 by decide);simp only[abo]at a5 a4;have bd:=Me (on&&&16777215) (23-k);have bc:=Me (off&&&16777215) (23-k);have an:decide (((23-k:Nat):Int)>=0)=true:=by simp
   have ge0:(0:Int)<=((23-k:Nat):Int):=by omega
   have aq:=sm (on&&&16777215) (off&&&16777215) k hk;rw[show 24-k=23-k+1 by omega]at aq;rw[ei];cases b1:(on&&&16777215).testBit (23-k)
   ·cases b2:(off&&&16777215).testBit (23-k)
    ·apply RG;simp only[go_sem,an,ge0,hs1,a6,a5,a4,bd,bc,b1,b2,iv,pt,ewr];refine aa (k+1,T.plc ms (gN (on&&&16777215) (off&&&16777215) k)) _ _ dt (by simp only[go_sem,aa6,rg,iv,pt]) (by simp only[go_sem,aa6,rg,iv]) ⟨I3,mk,ms,rfl,a3,ag,a2,al,ab,?_,?_⟩
     ·simp only[gN,b1,b2,aa5,Z2];exact a1
     ·simp only[gN,b1,b2,aa5,Z2]
    ·apply RG;simp only[go_sem,an,ge0,hs1,a6,a5,a4,bd,bc,b1,b2,iv,pt];have c1:=tT (mb:=mb) (I:=I3) (i:=23-k) (lo:=gN (on&&&16777215) (off&&&16777215) k) (hi:=.lf false) al ab aq trivial a1 trivial ab;obtain⟨mA,mS,mR,mM,rfl,b4,b3,b0⟩:=al;refine DY a3 [0,1,2] rfl qk rfl (F:=[]) rfl c1 fun v1 I4 qs ak ac a7=>?_;obtain⟨us,bs,b7,am,rfl⟩:=a7;simp only[aa6]at ak |-;apply RG;simp only[go_sem,iv,pt,ewr];refine aa (k+1,T.plc (ms++us) (gN (on&&&16777215) (off&&&16777215) (k+1))) _ _ dt ?_ (by simp only[go_sem,aa6,rg,iv]) ⟨I4,qs,ms++us,rfl,ak,abV ag ac,a2,bs,by simp only[aa9];omega,?_,rfl⟩
     ·simp only[gN,b1,b2,ZT,aa5,Z2];exact(by simp only[go_sem,aa6,rg,iv,pt])
     ·simp only[gN,b1,b2,ZT,aa5,Z2];exact am
   ·apply RG;simp only[go_sem,an,ge0,hs1,a6,a5,a4,bd,bc,b1,iv,pt];have c1:=tT (mb:=mb) (I:=I3) (i:=23-k) (lo:=.lf false) (hi:=gN (on&&&16777215) (off&&&16777215) k) al ab trivial aq trivial a1 ab;obtain⟨mA,mS,mR,mM,rfl,b4,b3,b0⟩:=al;refine DY a3 [0,1,2] rfl qk rfl (F:=[]) rfl c1 fun v1 I4 qs ak ac a7=>?_;obtain⟨us,bs,b7,am,rfl⟩:=a7;simp only[aa6]at ak |-;apply RG;simp only[go_sem,iv,pt,ewr];refine aa (k+1,T.plc (ms++us) (gN (on&&&16777215) (off&&&16777215) (k+1))) _ _ dt ?_ (by simp only[go_sem,aa6,rg,iv]) ⟨I4,qs,ms++us,rfl,ak,abV ag ac,a2,bs,by simp only[aa9];omega,?_,rfl⟩
    ·simp only[gN,b1,ZT,aa5,Z2];exact(by simp only[go_sem,aa6,rg,iv,pt])
    ·simp only[gN,b1,ZT,aa5,Z2];exact am
  ·have ba:k=24:=by omega
   subst ba;have bx:decide (23-((24:Nat):Int)>=0)=false:=by decide
   have aq:=sm (on&&&16777215) (off&&&16777215) 24 (ZR _);have bb:jx on off=gN (on&&&16777215) (off&&&16777215) 24:=by unfold jx;rw[ZV (by simpa using hz)]
   rw[show 23-((24:Nat):Int)=-1 by decide]at bx |-;apply RG;simp only[go_sem,bx,iv,pt];obtain⟨mA,mS,mR,mM,rfl,b4,b3,b0⟩:=id al;refine DY a3 [0,1,2] rfl BX rfl (F:=[]) rfl (Fx (mb:=mb) al a1 aq ab) fun v2 I4 qs ak ac hq=>?_;obtain⟨rfl,hr⟩:=hq;rw[<-bb]at hr;obtain⟨xr,cr,rfl⟩:=hr.shape;simp only[aa6]at ak |-;apply RG;simp only[go_sem,iv];exact af rfl ak (r:=[.agg #[.slice xr (T.subs (jx on off)).length cr,iv (T.plc (T.subs (jx on off)) (jx on off))]]) (by simp only[Tryz.results69,go_sem,iv]) (abV ag ac) ⟨rfl,hr⟩
 ·have bC:((((on&&&16777215)&&&(off&&&16777215):Nat):Int) != 0)=true:=by
   simp only[bne_iff_ne,ne_eq];omega
  have bb:jx on off=.lf false:=by unfold jx;rw[aaq (by simpa using hz)]
  apply RG;simp only[go_sem,e1,e2,e3,bC];exact af rfl hd (r:=[.agg #[.slice none 0 0,iv 0]]) (by simp only[Tryz.results69,go_sem,iv]) (abW _) ⟨rfl,by rw[bb];exact mN I false⟩
end Go.Proofs.YtfaclfkpnmcmlaaGreatDoor
