import Derived.Test.YtfaclfkpnmcmlaaGreatDoorH04
import Derived.Test.YtfaclfkpnmcmlaaGreatDoorH09
set_option maxHeartbeats 8000000
set_option linter.all false
namespace Go.Proofs.YtfaclfkpnmcmlaaGreatDoor
open Go Go.Sx Dg
def BY:aO Tryz.prog 124:=⟨_,Tryz.func124,rfl,rfl⟩
def BX:aO Tryz.prog 126:=⟨_,Tryz.func126,rfl,rfl⟩
variable{ts:List T}
def mh.lst{A J:PH}{sv:Value}(h:mh A 181 3 sv ts.length (EN ts))(aa:A.le J):uo J sv ts:=by
 obtain⟨a,c,e⟩:=h.slice;rcases abn ts.length with hz|hp
 ·subst e;exact⟨a,c,rfl,.inl (List.length_eq_zero_iff.1 hz)⟩
 ·obtain⟨g,cap,e2,hc⟩:=h.1.cells hp;exact⟨_,cap,e2,.inr ⟨g,rfl,hc.le aa⟩⟩
def PI {ms : List T} (y u : Value) : VP ms [] y u ↔ (y = iv 1 ∧ u = iv 1) ∨ (y ≠ iv 1 ∧ ((y = iv 0 ∧ u = iv 0) ∨ (y ≠ iv 0 ∧ False))) := by
  have aa : iv 0 ≠ iv 1 := fun e => absurd (F8 e) ab
  constructor
  · rintro ⟨t, h1, h2, rfl, rfl⟩
    cases t with
    | lf b => cases b
              · exact .inr ⟨aa, .inl ⟨rfl, rfl⟩⟩
              · exact .inl ⟨rfl, rfl⟩
    | nd v l h => exact absurd h2 (by simp [T.isIn])
  · rintro (⟨rfl, rfl⟩ | ⟨_, ⟨rfl, rfl⟩ | ⟨_, h⟩⟩)
    · exact ⟨.lf true, trivial, trivial, rfl, rfl⟩
    · exact ⟨.lf false, trivial, trivial, rfl, rfl⟩
    · exact h.elim
variable{t:T}
def Fx{mb:Nat}{ms:List T}{I:PH}{ps:List PH}(h:Bt mb ms ps)(ht:T.isIn ms t)(a3:t.ok 0)(a7:ms.length<2^29):
  aK Tryz.prog 126 #[pt mb,iv (T.plc ms t)] I ps fun v I2 qs=>qs=[]/\cX I2 v t:=by
 intro hd;obtain⟨A,sv,r,M,rfl,hA,hM,sq⟩:=h;refine cC Tryz.func126 rfl (by simp[Tryz.ntmps126]) fun w0=>?_;simp only[Tryz.ntmps126,pt,iv];refine ae (c:=.st _) hd fun I1 b1 le1 leA=>?_;refine ae (c:=.st _) b1 fun I2 b0 le2 leB=>?_;refine ae (c:=.st _) b0 fun I3 bx le3 leC=>?_;refine aT ?_;refine pM 3 bx rfl rfl fun q M1 bs b4=>?_;refine aT ?_;refine nZ (by exact K3) (by exact zR) (key:=iv 0) (v:=iv 0) bs rfl (.inr rfl) rfl rfl rfl b4 (by exact PK ab) fun M2 bd b3=>?_;refine aT ?_;refine nZ (by exact K3) (by exact zR) (key:=iv 1) (v:=iv 1) bd rfl (.inr rfl) rfl rfl rfl b3 (by exact PK ab) fun M3 bc b2=>?_;apply bL 9;simp only[go_sem];refine fV 6 bc rfl fun pb bb=>?_;refine ae bb fun I4 ba le4 lpb=>?_;refine fV 2 ba rfl fun tb a9=>?_;refine ae a9 fun I5 a1 le5 ltb=>?_;refine fV 5 a1 rfl fun ob a0=>?_;refine aR a0 fun aS=>?_;refine fV 7 aS rfl fun vb aq=>?_;apply RG;simp only[go_sem,mF,List.map];refine bw aq rfl rfl rfl rfl rfl (by exact RY) (by simp) fun ao=>?_;refine ae ao fun I6 ac le6 lvb=>?_;have a2:MK I6 pb tb vb ob mb q ms:=by
  refine⟨le6 _ _ (le5 _ _ (lpb _ _ (dL _ _))),le6 _ _ (ltb _ _ (dL _ _)),lvb _ _ (dL _ _),⟨sv,.map (some r),?_,?_⟩,sq,ab⟩
  ·exact le6 _ _ (le5 _ _ (le4 _ _ (le3 _ _ (leB _ _ (dL _ _)))))
  ·exact mh.lst hA (abV leA (abV le2 (abV le3 (abV le4 (abV le5 le6)))))
 refine aT ?_;refine XN (l:=[_]) rfl (cellsU ac (.head _) (az a2.hv (by simp) rfl)) (.inr ⟨Gq,rfl⟩) ?_;apply RG;simp only[go_sem,Gy];have a5:S3 ob q ms [] [PH.no,sg ob (.cells #[.slice none 0 0] 48 (0,0)),M3]:=⟨PH.no,_,M3,rfl,mh.nil _ _,b2.congr PI,T.Seq.nil⟩;refine DY ac [0,1,2] rfl Aw rfl (F:=[]) rfl (N4 t a3 ab ht a2 a5 bg) fun v1 I7 qs aa aj a6=>?_;obtain⟨⟨A2,sv2,M4,rfl,a4,b6,sq2⟩,rfl⟩:=a6;simp only[aa6]at aa |-;obtain⟨sa,sc,rfl⟩:=a4.slice;apply RG;simp only[go_sem,iv];refine XN (l:=[_]) rfl (cellsU aa (.tail _ (.tail _ (.head _))) (ay (by simp) rfl)) (.inr ⟨DR,rfl⟩) ?_;apply RG;simp only[go_sem,iv];refine ae aa fun I8 an le8 lA2=>?_;refine ae an fun I9 am le9 _=>?_;refine ae am fun b5 ak le10 _=>?_;have lall:I.le b5:=abV le1 (abV le2 (abV le3 (abV le4 (abV le5 (abV le6 (abV aj (abV le8 (abV le9 le10))))))));refine af (r:=[.agg #[.slice sa (t.vis []).length sc,iv (T.plc (t.vis []) t)]]) rfl ak (by simp only[Tryz.results126,go_sem,iv]) lall ⟨rfl,a3,_,rfl,?_⟩;exact mh.lst a4 (abV lA2 (abV le9 le10))
def NP(a b:Nat):((a:Int) == (b:Int))=decide (a=b):=by
 by_cases h:a=b
 ·subst h;simp
 ·have:¬(a:Int)=b:=by omega
  simp[h,this]
def tZ(a:Nat):((a:Int) == 0)=decide (a=0):=NP a 0
def un(a:Nat):((a:Int) == 1)=decide (a=1):=NP a 1
def L7:T.plc ts t=0<->t=.lf false:=by
 cases t with
 |lf b=>cases b<;>simp[T.plc]
 |nd v l h=>simp[T.plc]
def KK:T.plc ts t=1<->t=.lf true:=by
 cases t with
 |lf b=>cases b<;>simp[T.plc]
 |nd v l h=>simp[T.plc]
variable{v:Value}
def gO{I H:PH}(h:cX I v t):bO Tryz.prog 50 #[v] H fun v H2=>v=.bool (decide (t=.lf false))/\H2=H:=by
 obtain⟨aa,sl,rfl,hL⟩:=h;obtain⟨a,c,rfl,_⟩:=hL;refine cC Tryz.func50 rfl (by simp[Tryz.ntmps50]) fun w0=>?_;simp only[Tryz.ntmps50,iv];apply RG;simp only[go_sem,tZ];exact aJ (r:=[_]) rfl ⟨by simp[gv,L7],rfl⟩
def MV{I H:PH}(h:cX I v t):bO Tryz.prog 68 #[v] H fun v H2=>v=.bool (decide (t=.lf true))/\H2=H:=by
 obtain⟨aa,sl,rfl,hL⟩:=h;obtain⟨a,c,rfl,_⟩:=hL;refine cC Tryz.func68 rfl (by simp[Tryz.ntmps68]) fun w0=>?_;simp only[Tryz.ntmps68,iv];apply RG;simp only[go_sem,un];exact aJ (r:=[_]) rfl ⟨by simp[gv,KK],rfl⟩
def mN(I:PH)(b:Bool):cX I (.agg #[.slice none 0 0,iv (if b then 1 else 0)]) (.lf b):=⟨trivial,_,rfl,none,0,rfl,.inl rfl⟩
def Fp(H:PH):bO Tryz.prog 27 #[] H fun v H2=>v=.agg #[.slice none 0 0,iv 1]/\H2=H:=by
 refine cC Tryz.func27 rfl (by simp[Tryz.ntmps27]) fun w0=>?_;simp only[Tryz.ntmps27];refine aT ?_;exact aJ (r:=[.agg #[.slice none 0 0,iv 1]]) (by simp only[Tryz.results27,go_sem,iv,abo]) ⟨rfl,rfl⟩
def sU(H:PH):bO Tryz.prog 80 #[] H fun v H2=>v=.agg #[.slice none 0 0,iv 0]/\H2=H:=by
 refine cC Tryz.func80 rfl (by simp[Tryz.ntmps80]) fun w0=>?_;simp only[Tryz.ntmps80];refine aT ?_;exact aJ (r:=[.agg #[.slice none 0 0,iv 0]]) (by simp only[Tryz.results80,go_sem,iv,abo]) ⟨rfl,rfl⟩
def AQ(x y:Nat):Option Bool:=if x=0\/y=0 then some false else if x=1/\y=1 then some true else none
def O3(x y:Nat):Option Bool:=if x=1\/y=1 then some true else if x=0/\y=0 then some false else none
def bn(b:Bool):Nat:=if b then 1 else 0
def Wv(f:FuncId)(S:Nat->Nat->Option Bool):Prop:=∀(x y:Nat) (H:PH),bO Tryz.prog f #[iv x,iv y] H fun v H2=>H2=H/\∃r,v=.tuple #[iv r,.bool (S x y).isSome]/\∀b,S x y=some b->r=bn b
def Ny:Wv 97 O3:=by
 intro x y H;refine cC Tryz.func97 rfl (by simp[Tryz.ntmps97]) fun w0=>?_;simp only[Tryz.ntmps97,iv];have e1:((x:Int) == 1)=decide (x=1):=un x;cases h1:decide (x=1)
 ·cases h2:decide (y=1)
  ·cases h3:decide (x=0)
   ·apply RG;simp only[go_sem,un,tZ,h1,h2,h3];refine aJ (r:=[_,_]) rfl ⟨rfl,0,?_,?_⟩<;>simp_all[gv,O3,iv]
   ·apply RG;simp only[go_sem,un,tZ,h1,h2,h3];refine aJ (r:=[_,_]) rfl ⟨rfl,0,?_,?_⟩
    ·by_cases hy:y=0<;>simp_all[gv,O3,iv,bn]
    ·intro b hb;simp_all[O3,bn]
  ·apply RG;simp only[go_sem,un,tZ,h1,h2];refine aJ (r:=[_,_]) rfl ⟨rfl,1,?_,?_⟩<;>simp_all[gv,O3,iv,bn]
 ·apply RG;simp only[go_sem,un,tZ,h1];refine aJ (r:=[_,_]) rfl ⟨rfl,1,?_,?_⟩<;>simp_all[gv,O3,iv,bn]
def RU(x y:Nat):Eu (.int .i64 x) (.int .i64 y)=some (.int .i64 ((min x y:Nat):Int)):=by
 simp only[Eu,ZW,Value.int.injEq,acT];split<;>omega
def VT(x:Nat):Eu (.int .i64 x) (.int .i64 1)=some (.int .i64 ((min x 1:Nat):Int)):=RU x 1
def Sj:Wv 163 AQ:=by
 intro x y H;refine cC Tryz.func163 rfl (by simp[Tryz.ntmps163]) fun w0=>?_;simp only[Tryz.ntmps163,iv];apply RG;simp only[go_sem,un,tZ];refine vZ (iv (min (min x y) 1)) rfl rfl (fun w _=>?_) ?_
 ·simp only[execOp,resolve,bN,ev,oY,invoke,builtin,Builtin.min_,ZY];simp[Result.andThen,List.foldlM,resolve,bN,ev,oY,invoke,builtin,Builtin.min_,-Nat.min_assoc];rw[xl (RU x y)];simp only[];rw[xl (VT _)];simp[iv,Nat.min_assoc]
 cases h1:decide (x=0)
 ·cases h2:decide (y=0)
  ·cases h3:decide (x=1)
   ·apply RG;simp only[go_sem,un,tZ,h1,h2,h3];refine aJ (r:=[_,_]) rfl ⟨rfl,min (min x y) 1,?_,?_⟩<;>simp_all[gv,AQ,iv]
   ·apply RG;simp only[go_sem,un,tZ,h1,h2,h3];refine aJ (r:=[_,_]) rfl ⟨rfl,min (min x y) 1,?_,?_⟩
    ·by_cases hy:y=1<;>simp_all[gv,AQ,iv,bn]
    ·intro b hb;simp_all[AQ,bn]
  ·apply RG;simp only[go_sem,un,tZ,h1,h2];apply RG;simp only[go_sem,un,tZ,h1,h2];refine aJ (r:=[_,_]) rfl ⟨rfl,min (min x y) 1,?_,?_⟩<;>simp_all[gv,AQ,iv,bn]
 ·apply RG;simp only[go_sem,un,tZ,h1];apply RG;simp only[go_sem,un,tZ,h1];refine aJ (r:=[_,_]) rfl ⟨rfl,min (min x y) 1,?_,?_⟩<;>simp_all[gv,AQ,iv,bn]
end Go.Proofs.YtfaclfkpnmcmlaaGreatDoor
namespace Dg.T
open Dg
def opT(f:Bool->Bool->Bool)(s t:T):T:=op f 24 s t
variable{s t:T}{f:Bool->Bool->Bool}
theorem opT_ok{k:Nat}(hs:s.ok k)(ht:t.ok k)(hk:k<=24):(opT f s t).ok k:=(ql f 24 k s t ab hk hs ht).1
def BE(hs:s.ok 0)(ht:t.ok 0)(c:bP):(opT f s t).at' c=f (s.at' c) (t.at' c):=(ql f 24 0 s t ab ab hs ht).2 c
theorem opT_rec{i:Nat}(hs:s.ok 0)(ht:t.ok 0)(hi:i=min s.var t.var)(aa:i<24):opT f s t=mk i (opT f (lo i s) (lo i t)) (opT f (T.hi i s) (T.hi i t)):=by
 have l1:=lo_ok hs (show i<=s.var by omega);have l2:=lo_ok ht (show i<=t.var by omega);have r1:=hi_ok hs (show i<=s.var by omega);have r2:=hi_ok ht (show i<=t.var by omega);refine ext (opT_ok hs ht ab) (mk_ok (k:=0) (aaL i) aa (opT_ok l1 l2 ab) (opT_ok r1 r2 ab)) fun c=>?_;rw[BE hs ht,mk_at,BE (l1.mono (aaL _)) (l2.mono (aaL _)),BE (r1.mono (aaL _)) (r2.mono (aaL _)),tg i s c,tg i t c];split<;>rfl
theorem opT_lf{b:Bool}(hs:s.ok 0)(ht:t.ok 0)(h:∀c,f (s.at' c) (t.at' c)=b):opT f s t=lf b:=
 ext (opT_ok hs ht ab) (show (lf b).ok 0 from trivial) fun c=>by rw[BE hs ht,h];rfl
theorem and_eq(s t:T):and s t=opT (· && ·) s t:=rfl
theorem or_eq(s t:T):or s t=opT (· || ·) s t:=rfl
theorem dec_var(ts:List T)(t:T):(dec ts t).1=t.var:=by cases t<;>rfl
theorem dec_lo (ts : List T) (t : T) {i : Nat} (hi : i ≤ t.var) (aa : i < 24) : (if (dec ts t).1 = i then (dec ts t).2.1 else plc ts t) = plc ts (lo i t) := by
  cases t with
  | lf b => have e : ¬ (24 = i) := by omega
            simp [dec, lo, e]
  | nd v l h => by_cases e : v = i <;> simp [dec, lo, e]
theorem dec_hi (ts : List T) (t : T) {i : Nat} (hi : i ≤ t.var) (aa : i < 24) : (if (dec ts t).1 = i then (dec ts t).2.2 else plc ts t) = plc ts (T.hi i t) := by
  cases t with
  | lf b => have e : ¬ (24 = i) := by omega
            simp [dec, T.hi, e]
  | nd v l h => by_cases e : v = i <;> simp [dec, T.hi, e]
variable{ts: List T}
theorem isIn_lo  (s : Seq ts) {t : T} (h : isIn ts t) (i : Nat) : isIn ts (lo i t) := by
  cases t with
  | lf b => trivial
  | nd v l r => simp only [lo]; split
                · exact (s.kids h).1
                · exact h
theorem isIn_hi  (s : Seq ts) {t : T} (h : isIn ts t) (i : Nat) : isIn ts (T.hi i t) := by
  cases t with
  | lf b => trivial
  | nd v l r => simp only [T.hi]; split
                · exact (s.kids h).2
                · exact h
end Dg.T
namespace Go.Proofs.YtfaclfkpnmcmlaaGreatDoor
open Go Go.Sx Dg
theorem Rv:Tryz.prog.underlying 335=some (.array 2 3):=by kernel_rfl
theorem UN:Tryz.prog.keyTypeAt 3 335=true:=by kernel_rfl
theorem Vz:Tryz.prog.tiled 3 335=true:=by kernel_rfl
def JS:Maps.Keyed Tryz.prog 335:=by
 refine Maps.Keyed.of_law (deep_law (m:=3) ab UN Vz ?_);rw[Rv]
theorem Qm:Tryz.prog.keyType 335=true:=by kernel_rfl
theorem Mz:Tryz.prog.cellsOf 335=2:=by kernel_rfl
def kV(x y:Nat):Value:=.agg #[iv x,iv y]
def Vs{P:Program}{k t:TypeId}{a b:Nat}(hk:P.underlying k=some (.array 2 t))(h1:P.keyType k=true)(h2:P.cellsOf k=2)(h3:P.cellsOf t=1)(h4:P.underlying t=some (.int .i64))(h5:1<P.types.size)
  (ha:a<2^62) (hb:b<2^62):kN P k (kV a b):=by
 obtain⟨n,hn⟩:∃n,P.types.size=n+1:=⟨P.types.size-1,ab⟩;unfold kN keyOf;rw[h1];simp[hk,Value.formed,kV,hn,Program.keyLits,h2,h3,h4,Value.cells,HJ ha,HJ hb,iv,List.range,List.range.loop]
def T0{a b:Nat}(ha:a<2^62)(hb:b<2^62):kN Tryz.prog 335 (kV a b):=Vs Rv Qm Mz EI S5 LB ha hb
def LP{a b c d:Nat}(h:kV a b=kV c d):a=c/\b=d:=by
 simp[kV,iv]at h;exact⟨Int.ofNat.inj h.1,Int.ofNat.inj h.2⟩
def Uo(f:Bool->Bool->Bool)(ta tb ms:List T)(L:List (T×T))(y u:Value):Prop:=∃s t,(s,t)∈L/\y=kV (T.plc ta s) (T.plc tb t)/\u=iv (T.plc ms (T.opT f s t))
def NN(f:Bool->Bool->Bool)(ta tb ms:List T)(L:List (T×T)):Prop:=∀s t,(s,t)∈L->T.isIn ta s/\T.isIn tb t/\T.isIn ms (T.opT f s t)
variable{L:List (T×T)}{ta tb ms:List T}{f:Bool->Bool->Bool}
def NN.app{us:List T}(h:NN f ta tb ms L):NN f ta tb (ms++us) L:=fun s t hm=>⟨(h s t hm).1,(h s t hm).2.1,(h s t hm).2.2.app⟩
def BA{us:List T}(h:NN f ta tb ms L)(y u:Value):Uo f ta tb (ms++us) L y u<->Uo f ta tb ms L y u:=by
 constructor
 ·rintro⟨s,t,hm,a,b⟩;exact⟨s,t,hm,a,by rw[b,T.plc_app (h s t hm).2.2]⟩
 ·rintro⟨s,t,hm,a,b⟩;exact⟨s,t,hm,a,by rw[b,T.plc_app (h s t hm).2.2]⟩
def Kt(h:NN f ta tb ms L){s t:T}(hs:T.isIn ta s)(ht:T.isIn tb t){u:Value}:Uo f ta tb ms L (kV (T.plc ta s) (T.plc tb t)) u<->(s,t)∈L/\u=iv (T.plc ms (T.opT f s t)):=by
 constructor
 ·rintro⟨s',t',hm,a,b⟩;obtain⟨e1,e2⟩:=LP a;have h1:=T.plc_inj hs (h s' t' hm).1 e1;have h2:=T.plc_inj ht (h s' t' hm).2.1 e2;subst h1;subst h2;exact⟨hm,b⟩
 ·rintro⟨a,b⟩;exact⟨s,t,a,rfl,b⟩
def x7(h:NN f ta tb ms L){s t:T}(hs:T.isIn ta s)(ht:T.isIn tb t)(y u:Value):
  Uo f ta tb ms ((s,t)::L) y u<->(y=kV (T.plc ta s) (T.plc tb t)/\u=iv (T.plc ms (T.opT f s t)))\/(y≠kV (T.plc ta s) (T.plc tb t)/\Uo f ta tb ms L y u):=by
 constructor
 ·rintro⟨s',t',hm,rfl,rfl⟩;rcases List.mem_cons.1 hm with e|aa
  ·cases e;exact .inl ⟨rfl,rfl⟩
  ·by_cases e:kV (T.plc ta s') (T.plc tb t')=kV (T.plc ta s) (T.plc tb t)
   ·obtain⟨e1,e2⟩:=LP e;have h1:=T.plc_inj (h s' t' aa).1 hs e1;have h2:=T.plc_inj (h s' t' aa).2.1 ht e2;subst h1;subst h2;exact .inl ⟨rfl,rfl⟩
   ·exact .inr ⟨e,s',t',aa,rfl,rfl⟩
 ·rintro(⟨rfl,rfl⟩|⟨_,s',t',hm,rfl,rfl⟩)
  ·exact⟨s,t,.head _,rfl,rfl⟩
  ·exact⟨s',t',.tail _ hm,rfl,rfl⟩
structure Du(I:PH)(pb mb q:Nat)(sla ra slb rb:Value)(ta tb:List T):Prop where
 hp:I pb=some (.cells #[pt mb,sla,ra,slb,rb,.map (some q)] 262 (0,0))
 ha:uo I sla ta
 hb:uo I slb tb
 sa:T.Seq ta
 sb:T.Seq tb
 la:ta.length<2^30
 lb:tb.length<2^30
def Du.le{I J:PH}{pb mb q:Nat}{sla ra slb rb:Value}(h:Du I pb mb q sla ra slb rb ta tb)(aa:I.le J):Du J pb mb q sla ra slb rb ta tb:=
 ⟨aa _ _ h.hp,h.ha.le aa,h.hb.le aa,h.sa,h.sb,h.la,h.lb⟩
def Rn(f:Bool->Bool->Bool)(mb q:Nat)(ta tb ms:List T)(L:List (T×T))(qs:List PH):Prop:=∃mk N,qs=mk++[N]/\Bt mb ms mk/\lO Tryz.prog N q 335 (Uo f ta tb ms L)/\NN f ta tb ms L
structure Hg(S:Nat->Nat->Option Bool)(f:Bool->Bool->Bool):Prop where
 yes:∀{ta tb:List T} {s t:T} {b:Bool},S (T.plc ta s) (T.plc tb t)=some b->∀c,f (s.at' c) (t.at' c)=b
 no:∀{x y:Nat},S x y=none->¬(x<2/\y<2)
def HG:Hg AQ (· && ·):=by
 refine⟨fun{ta tb s t b} h c=>?_,fun{x y} h=>?_⟩
 ·unfold AQ at h;split at h
  ·rename_i h0;cases h
   rcases h0 with h0|h0
   ·rw[L7.1 h0];rfl
   ·rw[L7.1 h0];simp[T.at']
  ·split at h
   ·rename_i h1;cases h;rw[KK.1 h1.1,KK.1 h1.2];rfl
   ·cases h
 ·unfold AQ at h;split at h
  ·cases h
  ·split at h
   ·cases h
   ·omega
def Mk:Hg O3 (· || ·):=by
 refine⟨fun{ta tb s t b} h c=>?_,fun{x y} h=>?_⟩
 ·unfold O3 at h;split at h
  ·rename_i h0;cases h
   rcases h0 with h0|h0
   ·rw[KK.1 h0];rfl
   ·rw[KK.1 h0];simp[T.at']
  ·split at h
   ·rename_i h1;cases h;rw[L7.1 h1.1,L7.1 h1.2];rfl
   ·cases h
 ·unfold O3 at h;split at h
  ·cases h
  ·split at h
   ·cases h
   ·omega
def oh:aO Tryz.prog 168:=⟨_,Tryz.func168,rfl,rfl⟩
def Hn:aO Tryz.prog 236:=⟨_,Tryz.func236,rfl,rfl⟩
variable{fid:FuncId}{S:Nat->Nat->Option Bool}
def Tg(c7:Wv fid S)(dc:aO Tryz.prog fid)(hS:Hg S f){pb mb q:Nat}{sla ra slb rb:Value}:
  ∀(n:Nat) {k:Nat} {s t:T} {ms:List T} {L:List (T×T)} {I:PH} {ps:List PH},24<=n+k->k<=24->s.ok k->t.ok k->T.isIn ta s->T.isIn tb t->Du I pb mb q sla ra slb rb ta tb->Rn f mb q ta tb ms L ps->ms.length+2^n<=2^28->
  aK Tryz.prog 168 #[pt pb,iv (T.plc ta s),iv (T.plc tb t),.func (.func fid) #[] #[]] I ps fun v I2 qs=>∃us L2,Rn f mb q ta tb (ms++us) L2 qs/\us.length+1<=2^n/\T.isIn (ms++us) (T.opT f s t)/\v=iv (T.plc (ms++us) (T.opT f s t)):=by
 intro n
 induction n with
 |zero=>
  intro k s t ms L I ps hn b5 hs ht a2 a0 hI hP c6 hd;have hk:k=24:=by omega
  subst hk;obtain⟨x,rfl⟩:=T.is_lf hs;obtain⟨y,rfl⟩:=T.is_lf ht;refine cC Tryz.func168 rfl (by simp[Tryz.ntmps168]) fun w0=>?_;simp only[Tryz.ntmps168,pt,iv];refine aT ?_;refine WZ rfl dc (c7 _ _ _) fun v H2 hv=>?_;obtain⟨rfl,r,rfl,hr⟩:=hv;have bx:(S (T.plc ta (.lf x)) (T.plc tb (.lf y))).isSome=true:=by
   cases h:S (T.plc ta (.lf x)) (T.plc tb (.lf y))with
   |none=>exact absurd ⟨by simp only[T.plc];split<;>omega,by simp only[T.plc];split<;>omega⟩ (hS.no h)
   |some b=>rfl
  obtain⟨b,hb⟩:=Option.isSome_iff_exists.1 bx;have c5:=hr b hb;have cf:T.opT f (.lf x) (.lf y)=.lf b:=T.opT_lf trivial trivial (hS.yes hb);apply RG;simp only[go_sem,bx];refine af rfl hd (r:=[_]) rfl (abW _) ⟨[],L,by rw[aa6];exact hP,by simp,?_,?_⟩
  ·rw[cf];trivial
  ·rw[cf,c5];rfl
 |succ n ih=>
  intro k s t ms L I ps hn b5 hs ht a2 a0 hI hP c6 hd;have cb:=hs.mono (aaL k);have b6:=ht.mono (aaL k);refine cC Tryz.func168 rfl (by simp[Tryz.ntmps168]) fun w0=>?_;simp only[Tryz.ntmps168,pt,iv];refine aT ?_;refine WZ rfl dc (c7 _ _ _) fun v H2 hv=>?_;obtain⟨rfl,r,rfl,hr⟩:=hv;cases ca:S (T.plc ta s) (T.plc tb t)with
  |some b=>
   have c5:=hr b ca;have cf:T.opT f s t=.lf b:=T.opT_lf cb b6 (hS.yes ca);apply RG;simp only[go_sem,ca,Option.isSome_some];refine af rfl hd (r:=[_]) rfl (abW _) ⟨[],L,by rw[aa6];exact hP,by simp[Nat.one_le_two_pow],?_,?_⟩
   ·rw[cf];trivial
   ·rw[cf,c5];rfl
  |none=>
   have dv:=hS.no ca;have aj:=T.plc_lt a2;have dw:=T.plc_lt a0;have dy:=hI.la;have dx:=hI.lb;obtain⟨mk,N,rfl,hM,hN,b2⟩:=hP;obtain⟨A,sv,r',M,rfl,hA,c4,sq⟩:=hM;apply RG;simp only[go_sem,ca,Option.isSome_none];refine dN mixed [0,1,2,3,4,5,6,7,8,9,10] [3,5] [] rfl rfl ?_;refine gw ?_;refine W7 (l:=[_]) rfl (cellsU hd (.head _) (az hI.hp (by simp) rfl)) (.inr ⟨Dh,rfl⟩) ?_;refine gw ?_;have a6:kN Tryz.prog 335 (kV (T.plc ta s) (T.plc tb t)):=T0 ab ab;by_cases b4:(s,t)∈L
   ·refine qv (by exact JS) (by exact Ec) (by exact NL) (key:=kV (T.plc ta s) (T.plc tb t)) rfl rfl rfl rfl rfl (hN.atU hd (by simp)) (by exact a6) (iv (T.plc ms (T.opT f s t))) true (.inl ⟨rfl,(Kt b2 a2 a0).2 ⟨b4,rfl⟩⟩) ?_;refine gw ?_;refine aw ?_;refine aT ?_;refine af rfl hd (r:=[_]) rfl (abW _) ⟨[],L,?_,by simp[Nat.one_le_two_pow],?_,?_⟩
    ·rw[aa6];exact⟨_,N,rfl,⟨A,sv,r',M,rfl,hA,c4,sq⟩,hN,b2⟩
    ·rw[aa6];exact(b2 s t b4).2.2
    ·rw[aa6];rfl
   ·refine qv (by exact JS) (by exact Ec) (by exact NL) (key:=kV (T.plc ta s) (T.plc tb t)) rfl rfl rfl rfl rfl (hN.atU hd (by simp)) (by exact a6) (iv 0) false (.inr ⟨rfl,rfl,fun u hu=>b4 ((Kt b2 a2 a0).1 hu).1⟩) ?_;refine gw ?_;refine aw ?_;refine aT ?_;refine dN mixed [12,13,0,1,2,3,4,6,7,8,9,10,5,11,14,15] [3,9] [5] rfl rfl ?_;refine gw ?_;refine W7 (l:=[sla,ra]) (v:=.agg #[sla,ra]) rfl (cellsU hd (.head _) (az hI.hp (by simp) rfl)) (.inl ⟨r9,rfl⟩) ?_;refine gw ?_;refine W7 (l:=[slb,rb]) (v:=.agg #[slb,rb]) rfl (cellsU hd (.head _) (az hI.hp (by simp) rfl)) (.inl ⟨r9,rfl⟩) ?_;refine gw ?_;refine tH rfl rfl rfl rfl Hn (Vc (hI.ha.le (cP hd)) hI.sa a2 ab) fun v1 H3 ds=>?_;obtain⟨rfl,rfl⟩:=ds;refine⟨l9.le (abW _),?_⟩;refine gw ?_;refine tH rfl rfl rfl rfl Hn (Vc (hI.hb.le (cP hd)) hI.sb a0 ab) fun v2 H3 dk=>?_;obtain⟨rfl,rfl⟩:=dk;refine⟨l9.le (abW _),?_⟩;apply au;simp only[go_sem,gV,iv,T.dec_var];refine aw ?_;obtain⟨i,hi⟩:∃i,i=min s.var t.var:=⟨_,rfl⟩;have b3:(if ((t.var:Nat):Int)<((s.var:Nat):Int)then ((t.var:Nat):Int)else ((s.var:Nat):Int))=((i:Nat):Int):=by split<;>omega
    have ac:i<24:=by
     rcases aaf i 24 with h|h
     ·exact h
     ·exfalso;have h1:=T.var_le cb;have h2:=T.var_le b6;have h3:s.ok 24:=by cases s with
       |lf b=>trivial
       |nd v l r=>exact absurd hs.2.1 (by simp only[T.var]at *;omega)
      have h4:t.ok 24:=by cases t with
       |lf b=>trivial
       |nd v l r=>exact absurd ht.2.1 (by simp only[T.var]at *;omega)
      obtain⟨x,rfl⟩:=T.is_lf h3;obtain⟨y,rfl⟩:=T.is_lf h4;exact dv ⟨by simp only[T.plc];split<;>omega,by simp only[T.plc];split<;>omega⟩
    have a1:i<=s.var:=by omega
    have aS:i<=t.var:=by omega
    have dA:k<=i:=by have:=T.var_ge hs b5;have:=T.var_ge ht b5;omega
    have pn:2^(n+1)=2^n+2^n:=by rw[abd];omega
    have pnn:0<2^n:=Nat.two_pow_pos n;have dls:=T.dec_lo ta s a1 ac;have dhs:=T.dec_hi ta s a1 ac;have x5:=T.dec_lo tb t aS ac;have dht:=T.dec_hi tb t aS ac;rw[T.dec_var]at dls dhs x5 dht;cases bs:decide (s.var=i)<;>cases a4:decide (t.var=i)
    ·simp only[abp]at bs a4;omega
    ·have els:T.plc ta (T.lo i s)=T.plc ta s:=by rw[<-dls,ZV (by simpa using bs)]
     have ehs:T.plc ta (T.hi i s)=T.plc ta s:=by rw[<-dhs,ZV (by simpa using bs)]
     have elt:T.plc tb (T.lo i t)=(T.dec tb t).2.1:=by rw[<-x5,aaq (by simpa using a4)]
     have eht:T.plc tb (T.hi i t)=(T.dec tb t).2.2:=by rw[<-dht,aaq (by simpa using a4)]
     apply RG;simp only[go_sem,gV,iv,T.dec_var,b3,NP,bs,a4];refine cK mixed [0,1,2,3,4,5,6,7] [] [] [3] [5] [14,15] rfl rfl ?_;refine gw ?_;refine aw ?_;apply RG;simp only[go_sem,NP,a4];have c1:=ih (k:=i+1) (I:=I) (ms:=ms) (L:=L) ab ab (T.lo_ok hs ab) (T.lo_ok ht ab) (T.isIn_lo hI.sa a2 i) (T.isIn_lo hI.sb a0 i) hI ⟨_,N,rfl,⟨A,sv,r',M,rfl,hA,c4,sq⟩,hN,b2⟩ ab;rw[els,elt]at c1;refine DY hd [0,1,2,3] rfl oh rfl (F:=[]) rfl c1 fun v1 I2 qs ba aq aj=>?_;obtain⟨us1,L1,b1,da,a3,rfl⟩:=aj;have bd:=hI.le aq;simp only[aa6]at ba |-;apply RG;simp only[go_sem,iv];refine iZ mixed [0,1,2,3,4,5,6,7,8,9,10,11,12,13,14] [] [] [3] [12] I2 rfl rfl ?_;apply au;simp only[go_sem,iv];refine je (l:=[_]) rfl (cP ba) rfl rfl rfl (az bd.hp (by simp) rfl) (.inr ⟨zj,rfl⟩) ?_;apply au;simp only[go_sem,iv];have c2:=ih (k:=i+1) (I:=I2) (ms:=ms++us1) (L:=L1) ab ab (T.hi_ok hs ab) (T.hi_ok ht ab) (T.isIn_hi hI.sa a2 i) (T.isIn_hi hI.sb a0 i) bd b1 (by simp only[aa9];omega);rw[ehs,eht]at c2;obtain⟨mk1,N1,rfl,cx,dd,cc⟩:=b1;obtain⟨A1,sv1,r1',M1,rfl,dj,cr,sq1⟩:=cx;refine DX ba [0,1,2,3] rfl (fun _=>abW _) rfl oh rfl (F:=[]) rfl c2 fun v2 I3 qs b0 ao aj=>?_;obtain⟨us2,L2,cm,c9,a7,rfl⟩:=aj;have cA:=bd.le ao;obtain⟨mk2,N2,rfl,ct,cp,am⟩:=cm;obtain⟨A2,sv2,r2',M2,rfl,c0,bc,sq2⟩:=ct;simp only[aa6,aaz,aaA]at b0 |-;apply au;simp only[go_sem,iv];have c3:=tT (mb:=mb) (I:=I3) (i:=i) ⟨A2,sv2,r2',M2,rfl,c0,bc,sq2⟩ ac (T.opT_ok (f:=f) (T.lo_ok hs a1) (T.lo_ok ht aS) ab) (T.opT_ok (f:=f) (T.hi_ok hs a1) (T.hi_ok ht aS) ab) a3.app a7 (by simp only[aa9];omega);rw[T.plc_app a3]at c3
     refine DX b0 [0,1,2,3] rfl (fun h=>by cases h) rfl qk rfl (F:=[N2]) rfl c3 fun v3 I4 qs a9 an aj=>?_;obtain⟨us3,cs,c8,aa,rfl⟩:=aj;have cy:=cA.le an;obtain⟨A3,sv3,r3',M3,rfl,cB,bb,sq3⟩:=cs;simp only[aaz,aaA]at a9 |-;apply au;simp only[go_sem,iv];refine aw ?_;apply RG;simp only[go_sem,iv];refine dN mixed [0,1,2,3,4,5,6] [3] [] rfl rfl ?_;apply au;simp only[go_sem,iv];refine W7 (l:=[_]) rfl (cellsU a9 (.head _) (az cy.hp (by simp) rfl)) (.inr ⟨Dh,rfl⟩) ?_;apply au;simp only[go_sem,iv];have a5:T.mk i (T.opT f (T.lo i s) (T.lo i t)) (T.opT f (T.hi i s) (T.hi i t))=T.opT f s t:=(T.opT_rec cb b6 hi ac).symm;rw[a5]at aa |-;refine nI a9 [3,0,1,2] fun cl=>?_;refine nT (by exact JS) (by exact Ec) (key:=kV (T.plc ta s) (T.plc tb t)) (v:=iv (T.plc (ms++us1++us2++us3) (T.opT f s t))) cl rfl rfl rfl (.inl rfl) rfl rfl rfl cp (by exact a6) fun N3 cj cn=>?_;refine aw ?_;apply RG;simp only[go_sem,iv];refine bf cj [1,2,3,0] fun ci=>?_;have ak:NN f ta tb (ms++us1++us2++us3) L2:=am.app;refine af rfl ci (r:=[_]) rfl (abV aq (abV ao an)) ⟨us1++us2++us3,(s,t)::L2,?_,?_,?_,?_⟩
     ·refine⟨_,N3,rfl,⟨A3,sv3,r3',M3,rfl,?_,?_,?_⟩,?_,?_⟩
      ·simpa[aaT]using cB
      ·simpa[aaT]using bb
      ·simpa[aaT]using sq3
      ·refine cn.congr fun y u=>?_;have e1:=x7 ak a2 a0 y u;rw[BA am]at e1;simpa[aaT]using e1
      ·intro s' t' hm;rcases List.mem_cons.1 hm with e|hm
       ·cases e;exact⟨a2,a0,by simpa[aaT]using aa⟩
       ·simpa[aaT]using ak s' t' hm
     ·simp only[aa9];omega
     ·simpa[aaT]using aa
     ·simp[gv,iv,aaT]
    ·have els:T.plc ta (T.lo i s)=(T.dec ta s).2.1:=by rw[<-dls,aaq (by simpa using bs)]
     have ehs:T.plc ta (T.hi i s)=(T.dec ta s).2.2:=by rw[<-dhs,aaq (by simpa using bs)]
     have elt:T.plc tb (T.lo i t)=T.plc tb t:=by rw[<-x5,ZV (by simpa using a4)]
     have eht:T.plc tb (T.hi i t)=T.plc tb t:=by rw[<-dht,ZV (by simpa using a4)]
     apply RG;simp only[go_sem,gV,iv,T.dec_var,b3,NP,bs,a4];refine cK mixed [0,1,2,3,4,5,6,7] [] [] [3] [5] [14,15] rfl rfl ?_;refine gw ?_;refine aw ?_;apply RG;simp only[go_sem,NP,a4];have c1:=ih (k:=i+1) (I:=I) (ms:=ms) (L:=L) ab ab (T.lo_ok hs ab) (T.lo_ok ht ab) (T.isIn_lo hI.sa a2 i) (T.isIn_lo hI.sb a0 i) hI ⟨_,N,rfl,⟨A,sv,r',M,rfl,hA,c4,sq⟩,hN,b2⟩ ab;rw[els,elt]at c1;refine DY hd [0,1,2,3] rfl oh rfl (F:=[]) rfl c1 fun v1 I2 qs ba aq aj=>?_;obtain⟨us1,L1,b1,da,a3,rfl⟩:=aj;have bd:=hI.le aq;simp only[aa6]at ba |-;apply RG;simp only[go_sem,iv];refine iZ mixed [0,1,2,3,4,5,6,7,8,9,10,11,12,13,14] [] [] [3] [12] I2 rfl rfl ?_;apply au;simp only[go_sem,iv];refine je (l:=[_]) rfl (cP ba) rfl rfl rfl (az bd.hp (by simp) rfl) (.inr ⟨zj,rfl⟩) ?_;apply au;simp only[go_sem,iv];have c2:=ih (k:=i+1) (I:=I2) (ms:=ms++us1) (L:=L1) ab ab (T.hi_ok hs ab) (T.hi_ok ht ab) (T.isIn_hi hI.sa a2 i) (T.isIn_hi hI.sb a0 i) bd b1 (by simp only[aa9];omega);rw[ehs,eht]at c2;obtain⟨mk1,N1,rfl,cx,dd,cc⟩:=b1;obtain⟨A1,sv1,r1',M1,rfl,dj,cr,sq1⟩:=cx;refine DX ba [0,1,2,3] rfl (fun _=>abW _) rfl oh rfl (F:=[]) rfl c2 fun v2 I3 qs b0 ao aj=>?_;obtain⟨us2,L2,cm,c9,a7,rfl⟩:=aj;have cA:=bd.le ao;obtain⟨mk2,N2,rfl,ct,cp,am⟩:=cm;obtain⟨A2,sv2,r2',M2,rfl,c0,bc,sq2⟩:=ct;simp only[aa6,aaz,aaA]at b0 |-;apply au;simp only[go_sem,iv];have c3:=tT (mb:=mb) (I:=I3) (i:=i) ⟨A2,sv2,r2',M2,rfl,c0,bc,sq2⟩ ac (T.opT_ok (f:=f) (T.lo_ok hs a1) (T.lo_ok ht aS) ab) (T.opT_ok (f:=f) (T.hi_ok hs a1) (T.hi_ok ht aS) ab) a3.app a7 (by simp only[aa9];omega);rw[T.plc_app a3]at c3
     refine DX b0 [0,1,2,3] rfl (fun h=>by cases h) rfl qk rfl (F:=[N2]) rfl c3 fun v3 I4 qs a9 an aj=>?_;obtain⟨us3,cs,c8,aa,rfl⟩:=aj;have cy:=cA.le an;obtain⟨A3,sv3,r3',M3,rfl,cB,bb,sq3⟩:=cs;simp only[aaz,aaA]at a9 |-;apply au;simp only[go_sem,iv];refine aw ?_;apply RG;simp only[go_sem,iv];refine dN mixed [0,1,2,3,4,5,6] [3] [] rfl rfl ?_;apply au;simp only[go_sem,iv];refine W7 (l:=[_]) rfl (cellsU a9 (.head _) (az cy.hp (by simp) rfl)) (.inr ⟨Dh,rfl⟩) ?_;apply au;simp only[go_sem,iv];have a5:T.mk i (T.opT f (T.lo i s) (T.lo i t)) (T.opT f (T.hi i s) (T.hi i t))=T.opT f s t:=(T.opT_rec cb b6 hi ac).symm;rw[a5]at aa |-;refine nI a9 [3,0,1,2] fun cl=>?_;refine nT (by exact JS) (by exact Ec) (key:=kV (T.plc ta s) (T.plc tb t)) (v:=iv (T.plc (ms++us1++us2++us3) (T.opT f s t))) cl rfl rfl rfl (.inl rfl) rfl rfl rfl cp (by exact a6) fun N3 cj cn=>?_;refine aw ?_;apply RG;simp only[go_sem,iv];refine bf cj [1,2,3,0] fun ci=>?_;have ak:NN f ta tb (ms++us1++us2++us3) L2:=am.app;refine af rfl ci (r:=[_]) rfl (abV aq (abV ao an)) ⟨us1++us2++us3,(s,t)::L2,?_,?_,?_,?_⟩
     ·refine⟨_,N3,rfl,⟨A3,sv3,r3',M3,rfl,?_,?_,?_⟩,?_,?_⟩
      ·simpa[aaT]using cB
      ·simpa[aaT]using bb
      ·simpa[aaT]using sq3
      ·refine cn.congr fun y u=>?_;have e1:=x7 ak a2 a0 y u;rw[BA am]at e1;simpa[aaT]using e1
      ·intro s' t' hm;rcases List.mem_cons.1 hm with e|hm
       ·cases e;exact⟨a2,a0,by simpa[aaT]using aa⟩
       ·simpa[aaT]using ak s' t' hm
     ·simp only[aa9];omega
     ·simpa[aaT]using aa
     ·simp[gv,iv,aaT]
    ·have els:T.plc ta (T.lo i s)=(T.dec ta s).2.1:=by rw[<-dls,aaq (by simpa using bs)]
     have ehs:T.plc ta (T.hi i s)=(T.dec ta s).2.2:=by rw[<-dhs,aaq (by simpa using bs)]
     have elt:T.plc tb (T.lo i t)=(T.dec tb t).2.1:=by rw[<-x5,aaq (by simpa using a4)]
     have eht:T.plc tb (T.hi i t)=(T.dec tb t).2.2:=by rw[<-dht,aaq (by simpa using a4)]
     apply RG;simp only[go_sem,gV,iv,T.dec_var,b3,NP,bs,a4];refine cK mixed [0,1,2,3,4,5,6,7] [] [] [3] [5] [14,15] rfl rfl ?_;refine gw ?_;refine aw ?_;apply RG;simp only[go_sem,NP,a4];refine cK mixed [0,1,2,3,4,5,6,7] [] [] [3] [5] [14,15] rfl rfl ?_;refine gw ?_;refine aw ?_;apply RG;simp only[go_sem,NP,a4];have c1:=ih (k:=i+1) (I:=I) (ms:=ms) (L:=L) ab ab (T.lo_ok hs ab) (T.lo_ok ht ab) (T.isIn_lo hI.sa a2 i) (T.isIn_lo hI.sb a0 i) hI ⟨_,N,rfl,⟨A,sv,r',M,rfl,hA,c4,sq⟩,hN,b2⟩ ab;rw[els,elt]at c1;refine DY hd [0,1,2,3] rfl oh rfl (F:=[]) rfl c1 fun v1 I2 qs ba aq aj=>?_;obtain⟨us1,L1,b1,da,a3,rfl⟩:=aj;have bd:=hI.le aq;simp only[aa6]at ba |-;apply RG;simp only[go_sem,iv];refine iZ mixed [0,1,2,3,4,5,6,7,8,9,10,11,12,13,14] [] [] [3] [12] I2 rfl rfl ?_;apply au;simp only[go_sem,iv];refine je (l:=[_]) rfl (cP ba) rfl rfl rfl (az bd.hp (by simp) rfl) (.inr ⟨zj,rfl⟩) ?_;apply au;simp only[go_sem,iv];have c2:=ih (k:=i+1) (I:=I2) (ms:=ms++us1) (L:=L1) ab ab (T.hi_ok hs ab) (T.hi_ok ht ab) (T.isIn_hi hI.sa a2 i) (T.isIn_hi hI.sb a0 i) bd b1 (by simp only[aa9];omega);rw[ehs,eht]at c2;obtain⟨mk1,N1,rfl,cx,dd,cc⟩:=b1;obtain⟨A1,sv1,r1',M1,rfl,dj,cr,sq1⟩:=cx;refine DX ba [0,1,2,3] rfl (fun _=>abW _) rfl oh rfl (F:=[]) rfl c2 fun v2 I3 qs b0 ao aj=>?_;obtain⟨us2,L2,cm,c9,a7,rfl⟩:=aj;have cA:=bd.le ao;obtain⟨mk2,N2,rfl,ct,cp,am⟩:=cm;obtain⟨A2,sv2,r2',M2,rfl,c0,bc,sq2⟩:=ct;simp only[aa6,aaz,aaA]at b0 |-;apply au;simp only[go_sem,iv]
     have c3:=tT (mb:=mb) (I:=I3) (i:=i) ⟨A2,sv2,r2',M2,rfl,c0,bc,sq2⟩ ac (T.opT_ok (f:=f) (T.lo_ok hs a1) (T.lo_ok ht aS) ab) (T.opT_ok (f:=f) (T.hi_ok hs a1) (T.hi_ok ht aS) ab) a3.app a7 (by simp only[aa9];omega);rw[T.plc_app a3]at c3;refine DX b0 [0,1,2,3] rfl (fun h=>by cases h) rfl qk rfl (F:=[N2]) rfl c3 fun v3 I4 qs a9 an aj=>?_;obtain⟨us3,cs,c8,aa,rfl⟩:=aj;have cy:=cA.le an;obtain⟨A3,sv3,r3',M3,rfl,cB,bb,sq3⟩:=cs;simp only[aaz,aaA]at a9 |-;apply au;simp only[go_sem,iv];refine aw ?_;apply RG;simp only[go_sem,iv];refine dN mixed [0,1,2,3,4,5,6] [3] [] rfl rfl ?_;apply au;simp only[go_sem,iv];refine W7 (l:=[_]) rfl (cellsU a9 (.head _) (az cy.hp (by simp) rfl)) (.inr ⟨Dh,rfl⟩) ?_;apply au;simp only[go_sem,iv];have a5:T.mk i (T.opT f (T.lo i s) (T.lo i t)) (T.opT f (T.hi i s) (T.hi i t))=T.opT f s t:=(T.opT_rec cb b6 hi ac).symm;rw[a5]at aa |-;refine nI a9 [3,0,1,2] fun cl=>?_;refine nT (by exact JS) (by exact Ec) (key:=kV (T.plc ta s) (T.plc tb t)) (v:=iv (T.plc (ms++us1++us2++us3) (T.opT f s t))) cl rfl rfl rfl (.inl rfl) rfl rfl rfl cp (by exact a6) fun N3 cj cn=>?_;refine aw ?_;apply RG;simp only[go_sem,iv];refine bf cj [1,2,3,0] fun ci=>?_;have ak:NN f ta tb (ms++us1++us2++us3) L2:=am.app;refine af rfl ci (r:=[_]) rfl (abV aq (abV ao an)) ⟨us1++us2++us3,(s,t)::L2,?_,?_,?_,?_⟩
     ·refine⟨_,N3,rfl,⟨A3,sv3,r3',M3,rfl,?_,?_,?_⟩,?_,?_⟩
      ·simpa[aaT]using cB
      ·simpa[aaT]using bb
      ·simpa[aaT]using sq3
      ·refine cn.congr fun y u=>?_;have e1:=x7 ak a2 a0 y u;rw[BA am]at e1;simpa[aaT]using e1
      ·intro s' t' hm;rcases List.mem_cons.1 hm with e|hm
       ·cases e;exact⟨a2,a0,by simpa[aaT]using aa⟩
       ·simpa[aaT]using ak s' t' hm
     ·simp only[aa9];omega
     ·simpa[aaT]using aa
     ·simp[gv,iv,aaT]
def KI(a4:Wv fid S)(a7:aO Tryz.prog fid)(hS:Hg S f){I:PH}{va vb:Value}{a b:T}(ha:cX I va a)(hb:cX I vb b):
  aK Tryz.prog 96 #[va,vb,.func (.func fid) #[] #[]] I [] fun v I2 qs=>qs=[]/\cX I2 v (T.opT f a b):=by
 intro hd;obtain⟨oka,sla,rfl,a6⟩:=ha;obtain⟨okb,slb,rfl,a5⟩:=hb;refine cC Tryz.func96 rfl (by simp[Tryz.ntmps96]) fun w0=>?_;simp only[Tryz.ntmps96,pt,iv];apply RG;simp only[go_sem,iv];refine dN mixed [1,2,0,3,4,5,6] [] [] rfl rfl ?_;apply au;simp only[go_sem,iv];refine DX hd [] rfl (fun h=>by cases h) rfl BY rfl (F:=[]) rfl (rS I) fun v I2 qs a2 ac hq=>?_;obtain⟨mb,rfl,A,sv,r,M,rfl,hA,hM,sq⟩:=hq;simp only[aa6]at a2 |-;apply au;simp only[go_sem,iv,pt];refine Cn 335 a2 rfl rfl fun q N bc hN=>?_;apply au;simp only[go_sem,iv,pt];refine aw ?_;apply RG;simp only[go_sem,iv,pt];refine fV 13 bc rfl fun pb bb=>?_;refine ae bb fun I3 a1 aa a3=>?_;have hI:Du I3 pb mb q sla (iv (T.plc (T.subs a) a)) slb (iv (T.plc (T.subs b) b)) (T.subs a) (T.subs b):=
  ⟨a3 _ _ (dL _ _),(a6.le ac).le aa,(a5.le ac).le aa,T.subs_seq oka,T.subs_seq okb,by have:=T.subs_len oka;omega,by have:=T.subs_len okb;omega⟩
 apply RG;simp only[go_sem,iv,pt];refine iZ mixed [0,1,2,3,4,5,6,7,8,9,10,11,12] [] [] [3] [10] I3 rfl rfl ?_;apply au;simp only[go_sem,iv,pt];refine je (l:=[_]) rfl (cP a1) rfl rfl rfl (az hI.hp (by simp) rfl) (.inr ⟨zj,rfl⟩) ?_;apply au;simp only[go_sem,iv,pt];refine nI a1 [1,2,3,0] fun ba=>?_;have c1:=Tg a4 a7 hS (pb:=pb) (mb:=mb) (q:=q) 24 (k:=0) (s:=a) (t:=b) (ms:=[]) (L:=[]) (I:=I3) ab ab oka okb (T.subs_in oka) (T.subs_in okb) hI ⟨_,N,rfl,⟨A,sv,r,M,rfl,hA,hM,sq⟩,hN.congr fun y u=>⟨fun⟨_,_,h,_⟩=>absurd h aaB,fun h=>h.elim⟩,fun s t h=>absurd h aaB⟩ (by simp);refine DX ba [0,1,2,3] rfl (fun _=>abW _) rfl oh rfl (F:=[]) rfl c1 fun v1 I4 qs a0 an ak=>?_;obtain⟨us,L2,hP,hn,aq,rfl⟩:=ak;obtain⟨mk,N2,rfl,bd,bx,_⟩:=hP;obtain⟨A2,sv2,r2,M2,rfl,bs,ao,sq2⟩:=bd;simp only[aa6,aaA,aaz]at a0 aq |-;apply au;simp only[go_sem,iv,pt];have c2:=Fx (mb:=mb) (I:=I4) ⟨A2,sv2,r2,M2,rfl,bs,ao,sq2⟩ aq (T.opT_ok oka okb ab) (by simp only[aaA];omega);refine DX a0 [0,1,2,3] rfl (fun h=>by cases h) rfl BX rfl (F:=[N2]) rfl c2 fun v2 I5 qs aS am ak=>?_;obtain⟨rfl,hr⟩:=ak;simp only[aaA]at aS |-;obtain⟨okr,slr,rfl,⟨za,zc,rfl,hz⟩⟩:=hr;apply au;simp only[go_sem,iv,pt];refine aw ?_;apply RG;simp only[go_sem,iv,pt];refine ae (c:=.st _) aS fun I6 a9 aj _=>?_;refine af rfl a9 (r:=[.agg #[.slice za (T.subs (T.opT f a b)).length zc,iv (T.plc (T.subs (T.opT f a b)) (T.opT f a b))]]) (by simp only[Tryz.results96,go_sem,iv]) (abV ac (abV aa (abV an (abV am aj)))) ⟨rfl,okr,_,rfl,uo.le ⟨za,zc,rfl,hz⟩ aj⟩
def Qj:aO Tryz.prog 127:=⟨_,Tryz.func127,rfl,rfl⟩
end Go.Proofs.YtfaclfkpnmcmlaaGreatDoor
namespace Go.Sx
def aP.get{H:PH}{b off:Nat}{l:List Value}(h:aP H b off l){i:Nat}{x:Value}(hx:l[i]?=some x):aP H b (off+i) [x]:=by
 have hi:i<l.length:=by
  rcases aaf i l.length with h|h
  ·exact h
  ·rw[aan h]at hx;cases hx
 have:=h.sub i 1 ab;have e:(l.drop i).take 1=[x]:=by
  rw[aaK hi];rw[aak hi]at hx;simp[aaZ hx]
 rw[e]at this;exact this
end Go.Sx
namespace Go.Proofs.YtfaclfkpnmcmlaaGreatDoor
open Go Go.Sx Dg
variable{t:T}{ts:List T}
def OC(h:T.isIn ts t):(T.lf false::T.lf true::ts)[T.plc ts t]?=some t:=by
 cases t with
 |lf b=>cases b<;>rfl
 |nd v l r=>
  have hm:T.nd v l r∈ts:=h;simp only[T.plc,abi];rw[aak (abb hm)];simp
def Js(ms ts:List T):List Value:=(T.lf false::T.lf true::ts).map fun t=>iv (T.plc ms t.not)
def xS{ms:List T}(h:T.isIn ts t):(Js ms ts)[T.plc ts t]?=some (iv (T.plc ms t.not)):=by
 unfold Js;rw[aai,OC h];rfl
def Ei{j:Nat}(h:T.isIn (ts.take j) t):T.plc ts t=T.plc (ts.take j) t:=by
 have:=T.plc_app (us:=ts.drop j) h
 rwa [abq]at this
def MM{ms us:List T}(h:∀t,T.isIn us t->T.isIn ms t.not){v:Nat}{l r:T}(hn:T.isIn ms (T.nd v l r).not)(t:T)(ht:T.isIn (us++[.nd v l r]) t):T.isIn ms t.not:=by
 rcases qH.1 ht with h1|rfl
 ·exact h t h1
 ·exact hn
def Ae(mb:Nat)(sl rv:Value)(n:Nat)(a:Nat×Value):St:=
 ⟨sp 0 45 [(3,.v (.func (.func 125) #[pt mb] #[])),(4,.p 4 0),(9,.v a.2),(16,.v sl),(17,.v (.int .i64 n)),(18,.v (.int .i64 a.1))],[⟨4,50,[sl,rv]⟩]⟩
def Vx(mb:Nat)(ts:List T)(I0:PH)(a:Nat×Value)(H:PH):Prop:=
 ∃I A mk ms,H=U (I::A::mk)/\Dj (I::A::mk)/\I0.le I/\a.1<=ts.length/\mh A 3 1 a.2 (a.1+2) (Js ms (ts.take a.1))/\Bt mb ms mk/\ms.length<=a.1/\∀t,T.isIn (ts.take a.1) t->T.isIn ms t.not
variable{I:PH}
def TJ{mb:Nat}{ps:List PH}{sl:Value}(bb:t.ok 0)(hL:uo I sl (T.subs t))(hM:Bt mb [] ps):
  aK Tryz.prog 127 #[.agg #[sl,iv (T.plc (T.subs t) t)],.int .i64 1,.int .i64 0,.func (.func 125) #[pt mb] #[]] I ps fun v I2 qs=>∃ms,Bt mb ms qs/\T.isIn ms t.not/\v=iv (T.plc ms t.not)/\ms.length<2^24:=by
 intro hd;obtain⟨za,zc,rfl,hz⟩:=hL;have cx:=T.subs_len bb;have ba:=T.subs_seq bb;have b1:=T.subs_in bb;refine cC Tryz.func127 rfl (by simp[Tryz.ntmps127]) fun w0=>?_;simp only[Tryz.ntmps127,pt,iv];refine aT ?_;refine fx hd tz rfl rfl rfl rfl rfl bg fun b A c2 hA=>?_;refine aT ?_;refine aA (fun a=>(T.subs t).length-a.1) (Ae mb (.slice za (T.subs t).length zc) (iv (T.plc (T.subs t) t)) (T.subs t).length) (Vx mb (T.subs t) I) (0,.slice (some ⟨b,0,none⟩) 2 2) (by simp only[go_sem,aa6,Ae,iv,pt]) (by simp only[go_sem,aa6,Ae,iv]) ?_ ?_
 ·exact⟨I,A,ps,[],rfl,c2,abW _,aaL _,hA,hM,by simp,fun t ht=>by cases t<;>simp_all[T.isIn,T.not]⟩
 rintro⟨j,sv⟩ H ⟨I1,A1,mk,ms,rfl,an,aj,hj,ao,b2,cs,aa⟩ am;simp only at hj ao cs aa;simp only[Ae];rcases aaf j (T.subs t).length with ak|da
 ·have b3:decide ((j:Int)<((T.subs t).length:Int))=true:=by simp;omega
  rcases hz with h0|⟨lb,rfl,hc⟩
  ·rw[h0]at ak;simp at ak
  obtain⟨u,hu⟩:∃u,(T.subs t)[j]?=some u:=⟨_,aak ak⟩;obtain⟨v,l,r,rfl,aq,a9,a0⟩:=ba.2 j u hu;apply RG;simp only[go_sem,b3,iv,pt];refine⟨⟨ab,ab⟩,?_⟩;have ac:=hc.sub (j*3) 3 (by have:=qp (T.subs t);omega);rw[qw hu,ZZ]at ac;refine XN (l:=nt (T.dec (T.subs t) (.nd v l r))) (v:=gV (T.dec (T.subs t) (.nd v l r))) rfl (cellsU an (.head _) (ac.le aj)) (.inl ⟨uK,rfl⟩) ?_;obtain⟨g,cap,rfl,hg⟩:=ao.cellsU an (.tail _ (.head _)) ab;apply RG;simp only[go_sem,gV,iv,pt,T.dec];refine dN mixed [0,1,2,3,4,5,6,7,8,9,10,11,12,13,14,15,16,17] [8,13] [] rfl rfl ?_;apply au;simp only[go_sem,iv,pt];have pl:=T.plc_lt a9;have pr:=T.plc_lt a0;have tl:((T.subs t).take j).length=j:=by simp;omega
  rw[tl]at pl pr;have el:=Ei a9;have er:=Ei a0;have cl:=hg.get (xS a9);have cr:=hg.get (xS a0);rw[ZZ,<-el]at cl;rw[ZZ,<-er]at cr;refine⟨⟨ab,ab⟩,?_⟩;refine W7 (l:=[iv (T.plc ms l.not)]) rfl (by simpa using cl) (.inr ⟨jq,rfl⟩) ?_;apply au;simp only[go_sem,iv,pt];refine⟨⟨ab,ab⟩,?_⟩;refine W7 (l:=[iv (T.plc ms r.not)]) rfl (by simpa using cr) (.inr ⟨jq,rfl⟩) ?_;apply au;simp only[go_sem,iv,pt];have c1:=tT (mb:=mb) (I:=I1) (i:=v) b2 aq.2.1 (T.not_ok aq.2.2.2.1) (T.not_ok aq.2.2.2.2) (aa l a9) (aa r a0) ab;obtain⟨mA,mS,mR,mM,rfl,c9,c8,c7⟩:=b2;refine DX an [1,2,3,0] rfl (fun h=>by cases h) rfl qk rfl (F:=[A1]) rfl c1 fun v1 I2 qs cb bx ci=>?_;obtain⟨us,c3,c6,b0,rfl⟩:=ci;obtain⟨nA,nS,nR,nM,rfl,cp,cn,cm⟩:=c3;simp only[aaz,aaA]at cb |-;apply au;simp only[go_sem,iv,pt];refine bj cb tz rfl rfl rfl rfl rfl bg fun nb I3 c0 bs cj=>?_;apply au;simp only[go_sem,iv,pt];refine nI c0 [3,0,1,2] fun ca=>?_;have c5:mh A1 3 1 (.slice (some ⟨g,0,none⟩) (j+2) cap) (j+2) (Js (ms++us) ((T.subs t).take j)):=ao.xs rfl (by
   unfold Js;refine aat fun x hx=>?_;have:T.isIn ms x.not:=by
    rcases List.mem_cons.1 hx with rfl|hx
    ·trivial
    ·rcases List.mem_cons.1 hx with rfl|hx
     ·trivial
     ·exact aa x (DH ⟨(ba.1.sublist (List.take_sublist j _)),fun i u aS=>by
       rw[Z0]at aS;split at aS
       ·obtain⟨a1,a2,a3,a4,a5,a6,a7⟩:=ba.2 i u aS;rename_i b6;exact⟨a1,a2,a3,a4,a5,by rw[aa4,aaN (aar b6)];exact a6,by rw[aa4,aaN (aar b6)];exact a7⟩
       ·cases aS⟩ hx)
   rw[T.plc_app this])
  refine j3 (m:=1) ca tz c5 rfl rfl rfl rfl rfl rfl (cellsU ca (.head _) (az (l:=[iv (T.plc (ms++us) (T.mk v l.not r.not))]) cj (by simp[aD,Value.cells]) (by simp[aD,Value.cells,iv]))) rfl rfl ab (by unfold maxLen;omega) fun v' I4 A4 cB bd cc=>?_;obtain⟨a4,c4,rfl⟩:=cc.slice;apply au;simp only[go_sem,iv,pt];refine aw ?_;have hw:=wrap64 (n:=j+1) ab;have cf:IntKind.i64.wrap ((j:Int)+1)=((j+1:Nat):Int):=by rw[<-hw];congr 1
  apply RG;simp only[go_sem,iv,pt,cf];have b5:T.mk v l.not r.not=(T.nd v l r).not:=by
   simp only[T.mk,T.not];rw[ZV];intro e;apply aq.2.2.1;rw[<-T.not_not l,e,T.not_not]
  have b4:(T.subs t).take (j+1)=(T.subs t).take j++[T.nd v l r]:=by
   rw[aaM ak];congr 1;rw[aak ak]at hu;rw[aaZ hu]
  refine am (j+1,.slice a4 (j+2+1) c4) _ _ dt (by simp only[go_sem,aa6,Ae,iv,pt]) (by simp only[go_sem,aa6,Ae,iv]) ⟨I4,A4,_,ms++us,rfl,cB,abV aj (abV bx (abV bs bd)),ak,cc.xs ab ?_,⟨nA,nS,nR,nM,rfl,cp,cn,cm⟩,by simp only[aa9];omega,?_⟩
  ·simp only;rw[b4];simp[Js,b5]
  ·simp only;rw[b4];exact MM (fun x hx=>(aa x hx).app) (by rw[<-b5];exact b0)
 ·have b3:decide ((j:Int)<((T.subs t).length:Int))=false:=by simp;omega
  obtain⟨g,cap,rfl,hg⟩:=ao.cellsU an (.tail _ (.head _)) ab;have cy:j=(T.subs t).length:=by omega
  subst cy;rw[aaS]at hg aa ao;have pt':=T.plc_lt b1;have ct:=hg.get (xS b1);rw[ZZ]at ct;apply RG;simp only[go_sem,b3,iv];refine⟨⟨ab,ab⟩,?_⟩;refine XN (l:=[iv (T.plc ms t.not)]) rfl (by simpa using ct) (.inr ⟨jq,rfl⟩) ?_;apply RG;simp only[go_sem,iv];refine ae (c:=.st _) (A:=A1) an fun I5 cA bc _=>?_;exact af rfl cA (r:=[_]) rfl (abV aj bc) ⟨ms,b2,aa t b1,rfl,ab⟩
def LS:aO Tryz.prog 96:=⟨_,Tryz.func96,rfl,rfl⟩
def Qi:aO Tryz.prog 163:=⟨_,Tryz.func163,rfl,rfl⟩
def S0:aO Tryz.prog 97:=⟨_,Tryz.func97,rfl,rfl⟩
def kK:aO Tryz.prog 94:=⟨_,Tryz.func94,rfl,rfl⟩
def yj:aO Tryz.prog 39:=⟨_,Tryz.func39,rfl,rfl⟩
def oT:aO Tryz.prog 71:=⟨_,Tryz.func71,rfl,rfl⟩
def jt:aO Tryz.prog 50:=⟨_,Tryz.func50,rfl,rfl⟩
def Kb:aO Tryz.prog 68:=⟨_,Tryz.func68,rfl,rfl⟩
def FR:aO Tryz.prog 27:=⟨_,Tryz.func27,rfl,rfl⟩
def yl:aO Tryz.prog 80:=⟨_,Tryz.func80,rfl,rfl⟩
def cX.shape{v:Value}(h:cX I v t):∃a c,v=.agg #[.slice a (T.subs t).length c,iv (T.plc (T.subs t) t)]:=by
 obtain⟨_,sl,rfl,a,c,rfl,_⟩:=h;exact⟨a,c,rfl⟩
variable{va:Value}
def oQ{vb:Value}{a b:T}(ha:cX I va a)(hb:cX I vb b):aK Tryz.prog 94 #[va,vb] I [] fun v I2 qs=>qs=[]/\cX I2 v (a.and b):=by
 intro hd;obtain⟨xa,ca,rfl⟩:=ha.shape;obtain⟨xb,cb,rfl⟩:=hb.shape;refine cC Tryz.func94 rfl (by simp[Tryz.ntmps94]) fun w0=>?_;simp only[Tryz.ntmps94,iv];apply RG;simp only[go_sem,iv];refine DY hd [] rfl LS rfl (F:=[]) rfl (KI Sj Qi HG ha hb) fun v I2 qs ac aa hq=>?_;obtain⟨rfl,hr⟩:=hq;obtain⟨xr,cr,rfl⟩:=hr.shape;simp only[aa6]at ac |-;apply RG;simp only[go_sem,iv];exact af rfl ac (r:=[.agg #[.slice xr (T.subs (a.and b)).length cr,iv (T.plc (T.subs (a.and b)) (a.and b))]]) (by simp only[Tryz.results94,go_sem,iv,T.and_eq]) aa ⟨rfl,hr⟩
def KP{vb:Value}{a b:T}(ha:cX I va a)(hb:cX I vb b):aK Tryz.prog 39 #[va,vb] I [] fun v I2 qs=>qs=[]/\cX I2 v (a.or b):=by
 intro hd;obtain⟨xa,ca,rfl⟩:=ha.shape;obtain⟨xb,cb,rfl⟩:=hb.shape;refine cC Tryz.func39 rfl (by simp[Tryz.ntmps39]) fun w0=>?_;simp only[Tryz.ntmps39,iv];apply RG;simp only[go_sem,iv];refine DY hd [] rfl LS rfl (F:=[]) rfl (KI Ny S0 Mk ha hb) fun v I2 qs ac aa hq=>?_;obtain⟨rfl,hr⟩:=hq;obtain⟨xr,cr,rfl⟩:=hr.shape;simp only[aa6]at ac |-;apply RG;simp only[go_sem,iv];exact af rfl ac (r:=[.agg #[.slice xr (T.subs (a.or b)).length cr,iv (T.plc (T.subs (a.or b)) (a.or b))]]) (by simp only[Tryz.results39,go_sem,iv,T.or_eq]) aa ⟨rfl,hr⟩
def uX{a:T}(ha:cX I va a):aK Tryz.prog 71 #[va] I [] fun v I2 qs=>qs=[]/\cX I2 v a.not:=by
 intro hd;obtain⟨oka,sla,rfl,ak⟩:=ha;obtain⟨xa,ca,rfl,hz⟩:=id ak;refine cC Tryz.func71 rfl (by simp[Tryz.ntmps71]) fun w0=>?_;simp only[Tryz.ntmps71,iv];apply RG;simp only[go_sem,iv];refine DY hd [] rfl BY rfl (F:=[]) rfl (rS I) fun v I2 qs ao aa hq=>?_;obtain⟨mb,rfl,hM⟩:=hq;obtain⟨A,sv,r,M,rfl,hA,a2,sq⟩:=id hM;simp only[aa6]at ao |-;apply RG;simp only[go_sem,iv,pt];refine DY ao [0,1,2] rfl Qj rfl (F:=[]) rfl (TJ (mb:=mb) oka (ak.le aa) hM) fun v1 I3 qs an aj hq=>?_;obtain⟨ms,aq,a0,rfl,aS⟩:=hq;obtain⟨A2,sv2,r2,M2,rfl,a3,a1,sq2⟩:=id aq;simp only[aa6]at an |-;apply RG;simp only[go_sem,iv,pt];refine DY an [0,1,2] rfl BX rfl (F:=[]) rfl (Fx (mb:=mb) aq a0 (T.not_ok oka) ab) fun v2 I4 qs am ac hq=>?_;obtain⟨rfl,hr⟩:=hq;obtain⟨xr,cr,rfl⟩:=hr.shape;simp only[aa6]at am |-;apply RG;simp only[go_sem,iv];exact af rfl am (r:=[.agg #[.slice xr (T.subs a.not).length cr,iv (T.plc (T.subs a.not) a.not)]]) (by simp only[Tryz.results71,go_sem,iv]) (abV aa (abV aj ac)) ⟨rfl,hr⟩
def mf{a b:Nat}(ha:a<2^32)(hb:b<2^32):tN .u32 (a:Int) (b:Int)=((a&&&b:Nat):Int):=by
 have ea:BitVec.ofInt 32 (a:Int)=BitVec.ofNat _ a:=by rw[BitVec.ofInt_natCast]
 have eb:BitVec.ofInt 32 (b:Int)=BitVec.ofNat _ b:=by rw[BitVec.ofInt_natCast]
 have hc:a&&&b<2^32:=abr Nat.and_le_left ha;have:tN .u32 (a:Int) (b:Int)=IntKind.u32.wrap ((BitVec.ofInt 32 (a:Int)&&&BitVec.ofInt 32 (b:Int)).toNat:Int):=rfl;rw[this,ea,eb,BitVec.toNat_and,BitVec.toNat_ofNat,BitVec.toNat_ofNat,Nat.mod_eq_of_lt ha,Nat.mod_eq_of_lt hb];simp only[IntKind.wrap,show IntKind.bits .u32=32 from rfl,show IntKind.signed .u32=false from rfl];have:((a&&&b:Nat):Int) % (2^32:Int)=((a&&&b:Nat):Int):=abm ab (by exact_mod_cast hc);simpa using this
def Gj{a i:Nat}(hi:i<=32):ut .u32 (a:Int) (i:Int)=((a >>> i:Nat):Int):=by
 have:ut .u32 (a:Int) (i:Int)=Int.fdiv (a:Int) (2^(min i 32)):=rfl;have e:min i 32=i:=by omega
 rw[this,e,abs];have:(2^i:Int)=((2^i:Nat):Int):=by simp
 rw[this,Int.fdiv_eq_ediv_of_nonneg _ (abt _)];rfl
def AL{a i:Nat}(ha:a<2^32):a >>> i<2^32:=by rw[abs];exact abr (Nat.div_le_self _ _) ha
def Me(a i:Nat):((((a >>> i)&&&1:Nat):Int) == 1)=a.testBit i:=by
 have:(a >>> i)&&&1=(a.testBit i).toNat:=by
  rw[Nat.and_one_is_mod,Nat.testBit_eq_decide_div_mod_eq,abs];have:=Nat.mod_two_eq_zero_or_one (a / 2^i);rcases this with h|h<;>simp[h]
 rw[this];cases a.testBit i<;>rfl
def gN(on off:Nat):Nat->T
 |0=>.lf true
 |k+1=>if on.testBit (23-k)then T.mk (23-k) (.lf false) (gN on off k)else if off.testBit (23-k)then T.mk (23-k) (gN on off k) (.lf false)else gN on off k
def sm(on off:Nat):∀k,k<=24->(gN on off k).ok (24-k)
 |0,_=>trivial
 |k+1,hk=>by
  have ih:=sm on off k ab;have e:24-k=23-k+1:=by omega
  have e2:24-(k+1)=23-k:=by omega
  rw[e]at ih;unfold gN;rw[e2];split
  ·exact T.mk_ok (ZR _) ab trivial ih
  ·split
   ·exact T.mk_ok (ZR _) ab ih trivial
   ·exact ih.mono ab
def DV(on off:Nat)(c:bP):∀k,k<=24->((gN on off k).at' c=true<->∀i,24-k<=i->i<24->(on.testBit i=true->c i=true)/\(on.testBit i=false->off.testBit i=true->c i=false))
 |0,_=>⟨fun _ i h1 h2=>by omega,fun _=>rfl⟩
 |k+1,hk=>by
  have ih:=DV on off c k ab;have step:(∀i,24-(k+1)<=i->i<24->(on.testBit i=true->c i=true)/\(on.testBit i=false->off.testBit i=true->c i=false))<->
    ((on.testBit (23-k)=true->c (23-k)=true)/\(on.testBit (23-k)=false->off.testBit (23-k)=true->c (23-k)=false))/\(∀i,24-k<=i->i<24->(on.testBit i=true->c i=true)/\(on.testBit i=false->off.testBit i=true->c i=false)):=by
   constructor
   ·exact fun h=>⟨h _ ab ab,fun i h1 h2=>h i ab h2⟩
   ·rintro⟨h1,h2⟩ i h3 h4;by_cases e:i=23-k
    ·subst e;exact h1
    ·exact h2 i ab h4
  rw[step,<-ih];have e:gN on off (k+1)=if on.testBit (23-k)then T.mk (23-k) (.lf false) (gN on off k)else if off.testBit (23-k)then T.mk (23-k) (gN on off k) (.lf false)else gN on off k:=rfl
  rw[e];generalize gN on off k=r;cases h1:on.testBit (23-k)<;>cases h2:off.testBit (23-k)<;>cases hc:c (23-k)<;>simp[T.mk_at,T.at',hc]
def jx(on off:Nat):T:=if (on&&&16777215)&&&(off&&&16777215)≠0 then .lf false else gN (on&&&16777215) (off&&&16777215) 24
def wQ(on off:Nat):(jx on off).ok 0:=by
 unfold jx;split
 ·trivial
 ·exact sm _ _ 24 (ZR _)
def rg(on off mb:Nat)(a:Nat×Nat):St:=
 ⟨sp 0 45 [(0,.v (.int .u32 on)),(1,.v (.int .u32 off)),(4,.p 4 0),(5,.v (pt mb)),(6,.v (iv a.2)),(7,.v (.int .i64 (23-(a.1:Int))))],[⟨4,50,[.slice none 0 0,.int .i64 0]⟩]⟩
def UZ(on off mb:Nat)(I0:PH)(a:Nat×Nat)(H:PH):Prop:=
 ∃I mk ms,H=U (I::mk)/\Dj (I::mk)/\I0.le I/\a.1<=24/\Bt mb ms mk/\ms.length<=a.1/\T.isIn ms (gN on off a.1)/\a.2=T.plc ms (gN on off a.1)
def FD{on off:Nat}(b5:on<2^32)(a1:off<2^32):aK Tryz.prog 69 #[.int .u32 on,.int .u32 off] I [] fun v I2 qs=>qs=[]/\cX I2 v (jx on off):=by
 intro hd;refine cC Tryz.func69 rfl (by simp[Tryz.ntmps69]) fun w0=>?_;simp only[Tryz.ntmps69,iv];have cf:(16777215:Nat)<2^32:=by decide
 have aS:on&&&16777215<2^32:=abr Nat.and_le_left b5;have ak:off&&&16777215<2^32:=abr Nat.and_le_left a1;have e1:=mf b5 cf;have e2:=mf a1 cf;have e3:=mf aS ak;simp only[abo]at e1 e2;by_cases hz:(on&&&16777215)&&&(off&&&16777215)=0
 ·have b4:((((on&&&16777215)&&&(off&&&16777215):Nat):Int) != 0)=false:=by rw[hz];rfl
  apply RG;simp only[go_sem,e1,e2,e3,b4];refine DY hd [] rfl BY rfl (F:=[]) rfl (rS I) fun v I2 qs cc bb hq=>?_;obtain⟨mb,rfl,hM⟩:=hq;simp only[aa6]at cc |-;apply RG;simp only[go_sem,iv,pt];refine aA (fun a=>24-a.1) (rg (on&&&16777215) (off&&&16777215) mb) (UZ (on&&&16777215) (off&&&16777215) mb I) (0,1) (by simp only[go_sem,aa6,rg,iv,pt,Int.sub_zero]) (by simp only[go_sem,aa6,rg,iv]) ?_ ?_
  ·exact⟨I2,qs,[],rfl,cc,bb,aaL _,hM,by simp,trivial,rfl⟩
  rintro⟨k,r⟩ H ⟨I3,mk,ms,rfl,a4,aj,hk,an,cj,a2,hr⟩ aa;simp only at hk an cj a2 hr;subst hr;simp only[rg];rcases aaf k 24 with a3|cl
  ·have b3:decide (23-(k:Int)>=0)=true:=by simp;omega
   have ei:(23-(k:Int))=((23-k:Nat):Int):=by omega
   have ewr:IntKind.i64.wrap (((23-k:Nat):Int)-1)=23-((k+1:Nat):Int):=by
    have h1:(((23-k:Nat):Int)-1)=22-(k:Int):=by omega
    rw[h1];have:∀k:Nat,k<24->IntKind.i64.wrap (22-(k:Int))=23-((k+1:Nat):Int):=by decide
    exact this k a3
   have a9:=Gj (a:=on&&&16777215) (i:=23-k) ab;have a7:=Gj (a:=off&&&16777215) (i:=23-k) ab;have a6:=mf (AL (i:=23-k) aS) (show (1:Nat)<2^32 by decide);have a5:=mf (AL (i:=23-k) ak) (show (1:Nat)<2^32 by decide);simp only[abo]at a6 a5;have bx:=Me (on&&&16777215) (23-k);have bs:=Me (off&&&16777215) (23-k);have aq:decide (((23-k:Nat):Int)>=0)=true:=by simp
   have ge0:(0:Int)<=((23-k:Nat):Int):=by omega
   have a0:=sm (on&&&16777215) (off&&&16777215) k hk;rw[show 24-k=23-k+1 by omega]at a0;rw[ei];cases b1:(on&&&16777215).testBit (23-k)
   ·cases b2:(off&&&16777215).testBit (23-k)
    ·apply RG;simp only[go_sem,aq,ge0,a9,a7,a6,a5,bx,bs,b1,b2,iv,pt,ewr];refine aa (k+1,T.plc ms (gN (on&&&16777215) (off&&&16777215) k)) _ _ dt (by simp only[go_sem,aa6,rg,iv,pt]) (by simp only[go_sem,aa6,rg,iv]) ⟨I3,mk,ms,rfl,a4,aj,a3,an,ab,?_,?_⟩
     ·simp only[gN,b1,b2,aa5,Z2];exact a2
     ·simp only[gN,b1,b2,aa5,Z2]
    ·apply RG;simp only[go_sem,aq,ge0,a9,a7,a6,a5,bx,bs,b1,b2,iv,pt];have c1:=tT (mb:=mb) (I:=I3) (i:=23-k) (lo:=gN (on&&&16777215) (off&&&16777215) k) (hi:=.lf false) an ab a0 trivial a2 trivial ab;obtain⟨mA,mS,mR,mM,rfl,cb,ca,b6⟩:=an;refine DY a4 [0,1,2] rfl qk rfl (F:=[]) rfl c1 fun v1 I4 qs am ac ba=>?_;obtain⟨us,b0,ci,ao,rfl⟩:=ba;simp only[aa6]at am |-;apply RG;simp only[go_sem,iv,pt,ewr];refine aa (k+1,T.plc (ms++us) (gN (on&&&16777215) (off&&&16777215) (k+1))) _ _ dt ?_ (by simp only[go_sem,aa6,rg,iv]) ⟨I4,qs,ms++us,rfl,am,abV aj ac,a3,b0,by simp only[aa9];omega,?_,rfl⟩
     ·simp only[gN,b1,b2,ZT,aa5,Z2];exact(by simp only[go_sem,aa6,rg,iv,pt])
     ·simp only[gN,b1,b2,ZT,aa5,Z2];exact ao
   ·apply RG;simp only[go_sem,aq,ge0,a9,a7,a6,a5,bx,bs,b1,iv,pt];have c1:=tT (mb:=mb) (I:=I3) (i:=23-k) (lo:=.lf false) (hi:=gN (on&&&16777215) (off&&&16777215) k) an ab trivial a0 trivial a2 ab;obtain⟨mA,mS,mR,mM,rfl,cb,ca,b6⟩:=an;refine DY a4 [0,1,2] rfl qk rfl (F:=[]) rfl c1 fun v1 I4 qs am ac ba=>?_;obtain⟨us,b0,ci,ao,rfl⟩:=ba;simp only[aa6]at am |-;apply RG;simp only[go_sem,iv,pt,ewr];refine aa (k+1,T.plc (ms++us) (gN (on&&&16777215) (off&&&16777215) (k+1))) _ _ dt ?_ (by simp only[go_sem,aa6,rg,iv]) ⟨I4,qs,ms++us,rfl,am,abV aj ac,a3,b0,by simp only[aa9];omega,?_,rfl⟩
    ·simp only[gN,b1,ZT,aa5,Z2];exact(by simp only[go_sem,aa6,rg,iv,pt])
    ·simp only[gN,b1,ZT,aa5,Z2];exact ao
  ·have bc:k=24:=by omega
   subst bc;have b3:decide (23-((24:Nat):Int)>=0)=false:=by decide
   have a0:=sm (on&&&16777215) (off&&&16777215) 24 (ZR _);have bd:jx on off=gN (on&&&16777215) (off&&&16777215) 24:=by unfold jx;rw[ZV (by simpa using hz)]
   rw[show 23-((24:Nat):Int)=-1 by decide]at b3 |-;apply RG;simp only[go_sem,b3,iv,pt];obtain⟨mA,mS,mR,mM,rfl,cb,ca,b6⟩:=id an;refine DY a4 [0,1,2] rfl BX rfl (F:=[]) rfl (Fx (mb:=mb) an a2 a0 ab) fun v2 I4 qs am ac hq=>?_;obtain⟨rfl,hr⟩:=hq;rw[<-bd]at hr;obtain⟨xr,cr,rfl⟩:=hr.shape;simp only[aa6]at am |-;apply RG;simp only[go_sem,iv];exact af rfl am (r:=[.agg #[.slice xr (T.subs (jx on off)).length cr,iv (T.plc (T.subs (jx on off)) (jx on off))]]) (by simp only[Tryz.results69,go_sem,iv]) (abV aj ac) ⟨rfl,hr⟩
 ·have b4:((((on&&&16777215)&&&(off&&&16777215):Nat):Int) != 0)=true:=by
   simp only[bne_iff_ne,ne_eq];omega
  have bd:jx on off=.lf false:=by unfold jx;rw[aaq (by simpa using hz)]
  apply RG;simp only[go_sem,e1,e2,e3,b4];exact af rfl hd (r:=[.agg #[.slice none 0 0,iv 0]]) (by simp only[Tryz.results69,go_sem,iv]) (abW _) ⟨rfl,by rw[bd];exact mN I false⟩
def ch(c:Nat):bP:=fun i=>c.testBit i
def mE(l:List (Nat×Nat)):T:=l.foldl (fun d x=>d.or (jx x.1 x.2)) (.lf false)
def Jk(c:Nat)(x:Nat×Nat):Bool:=decide ((c&&&x.1)&&&16777215=x.1&&&16777215) && decide ((c&&&x.2)&&&16777215=0)
def Ek(l:List (Nat×Nat))(c:Nat):Bool:=l.any (Jk c)
def uJ(i:Nat):(16777215:Nat).testBit i=decide (i<24):=by
 rw[show (16777215:Nat)=2^24-1 from rfl,Nat.testBit_two_pow_sub_one]
def vV(c:Nat)(x:Nat×Nat):Jk c x=true<->∀i,i<24->(x.1.testBit i=true->c.testBit i=true)/\(x.2.testBit i=true->c.testBit i=false):=by
 unfold Jk;rw[aao,aaC,aaC];constructor
 ·rintro⟨h1,h2⟩ i hi;have e1:=congrArg (fun n=>n.testBit i) h1;have e2:=congrArg (fun n=>n.testBit i) h2;simp only[abu,uJ,hi,decide_true,abv,Nat.zero_testBit]at e1 e2;refine⟨fun h=>?_,fun h=>?_⟩
  ·rw[h]at e1;simpa using e1
  ·rw[h]at e2;simpa using e2
 ·intro h;constructor
  ·apply Nat.eq_of_testBit_eq;intro i;simp only[abu,uJ];by_cases hi:i<24
   ·have:=(h i hi).1;cases h1:x.1.testBit i
    ·simp
    ·simp[this h1]
   ·simp[hi]
  ·apply Nat.eq_of_testBit_eq;intro i;simp only[abu,uJ,Nat.zero_testBit];by_cases hi:i<24
   ·have:=(h i hi).2;cases h1:x.2.testBit i
    ·simp
    ·simp[this h1]
   ·simp[hi]
def Cp(c:Nat)(x:Nat×Nat):(jx x.1 x.2).at' (ch c)=Jk c x:=by
 rw[Bool.eq_iff_iff,vV];unfold jx;split
 ·rename_i h;constructor
  ·intro h;cases h
  ·intro k;refine absurd ?_ h;apply Nat.eq_of_testBit_eq;intro i;simp only[abu,uJ,Nat.zero_testBit];by_cases hi:i<24
   ·have h1:=(k i hi).1;have h2:=(k i hi).2;cases e1:x.1.testBit i<;>cases e2:x.2.testBit i<;>simp_all
   ·simp[hi]
 ·rename_i h;have h0:∀i,i<24->x.1.testBit i=true->x.2.testBit i=true->False:=by
   intro i hi e1 e2;apply h;intro e;have:=congrArg (fun n=>n.testBit i) e;simp[abu,uJ,hi,e1,e2]at this
  rw[DV _ _ _ 24 (ZR _)];constructor
  ·intro k i hi;have:=k i ab hi;simp only[abu,uJ,hi,decide_true,abv]at this;refine⟨this.1,fun e=>?_⟩;cases e1:x.1.testBit i
   ·exact this.2 e1 e
   ·exact(h0 i hi e1 e).elim
  ·intro k i _ hi;have:=k i hi;simp only[abu,uJ,hi,decide_true,abv];exact⟨this.1,fun _ e=>this.2 e⟩
def pT(c:Nat):∀(l:List (Nat×Nat)) (z:T),z.ok 0->(l.foldl (fun d x=>d.or (jx x.1 x.2)) z).ok 0/\(l.foldl (fun d x=>d.or (jx x.1 x.2)) z).at' (ch c)=(z.at' (ch c) || Ek l c)
 | [],z,hz=>⟨hz,by simp[Ek]⟩
 |x::l,z,hz=>by
  have hx:=wQ x.1 x.2;obtain⟨h1,h2⟩:=pT c l (z.or (jx x.1 x.2)) (T.or_ok hz hx);refine⟨h1,?_⟩;rw[fu,h2,T.or_at hz hx,Cp];simp[Ek,Bool.or_assoc]
def Ju(l:List (Nat×Nat)):(mE l).ok 0:=(pT 0 l (.lf false) trivial).1
def JC(l:List (Nat×Nat))(c:Nat):(mE l).at' (ch c)=Ek l c:=by
 have:=(pT c l (.lf false) trivial).2;rw[show (T.lf false).at' (ch c)=false from rfl,abw]at this;exact this
def zu(c:Nat):(jx c (4294967295 ^^^ c)).at' (ch c)=true:=by
 have:=Cp c (c,4294967295 ^^^ c);rw[this,vV];intro i hi;refine⟨fun h=>h,fun h=>?_⟩;simp only[Nat.testBit_xor]at h;rw[show (4294967295:Nat)=2^32-1 from rfl,Nat.testBit_two_pow_sub_one]at h;have aa:i<32:=by omega
 simp[aa]at h;exact h
end Go.Proofs.YtfaclfkpnmcmlaaGreatDoor
