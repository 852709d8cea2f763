import Derived.Test.YtfaclfkpnmcmlaaGreatDoorS00
import Derived.Maps.AppendAt
import Derived.Deep.AppendSrc
import Derived.Maps.Keyed
set_option maxHeartbeats 8000000
set_option linter.all false
namespace Go.Sx
open Go
theorem co.mono'{P:Program}{s:Sem Next}{H:PH}{Ψ Ψ':SV->PH->Prop}(h:co P s H Ψ)(k:∀sv H2,(∀d,iG d sv=sv)->Ψ sv H2->Ψ' sv H2):co P s H Ψ':=by
 intro w hw;have hr:=h w hw;unfold y9 at hr |-;split at hr
 ·obtain⟨H2,a,b⟩:=hr;exact⟨H2,a,k _ _ (fun _=>rfl) b⟩
 ·obtain⟨H2,a,b⟩:=hr;exact⟨H2,a,k _ _ (fun _=>rfl) b⟩
 ·refine hr.mono fun e w3 he=>?_;cases e with
  |returned v=>obtain⟨H2,a,b⟩:=he;exact⟨H2,a,k _ _ (fun _=>rfl) b⟩
  |outgrown=>exact he
  |panicked c=>exact he
 ·exact hr
def XV(P:Program)(ol:List Oper)(fr:uK)(σ:St)(H:PH)(o:Oper)(sv:SV):Prop:=
 (aG ol σ o=some false/\sv=.v undef)\/(aG ol σ o=some true/\nr o.op=.val/\Gg P fr σ H o sv)
theorem fm{σ σ':St}{op:Op}(h:∀x∈op.operands,qy (ev σ x)=qy (ev σ' x)):aR σ op=aR σ' op:=by
 have h1:∀x∈op.operands.toList,qy (ev σ x)=qy (ev σ' x):=fun x hx=>h x (by simpa using hx);have h2:op.operands.toList.all (fun x=>qy (ev σ x))=op.operands.toList.all (fun x=>qy (ev σ' x)):=by
  rw[Bool.eq_iff_iff];simp only[SH];exact⟨fun a x hx=>by rw[<-h1 x hx];exact a x hx,fun a x hx=>by rw[h1 x hx];exact a x hx⟩
 simp only[aR,h2]
theorem ij{σ σ':St}{o:Oper}(hs:eL o.op=true)(h:∀x∈o.op.operands,bp σ x=bp σ' x):execOp (bp σ) o=execOp (bp σ') o:=
 execOp_congr o (fun cs b e=>by rw[e]at hs;simp[eL]at hs) h
section
variable {P:Program} {ol:List Oper}
theorem eU{σ:St}{d:Option Nat}{sv:SV}{o:Oper}(h:∀e,d=some e->e∉looks ol o):∀x∈o.op.operands,ev (σ.put d sv) x=ev σ x:=
 fun x hx=>LN fun e he=>yH (h e he) x hx
theorem gU{σ:St}{d:Nat}{T:TypeId}{cs:List Value}{o:Oper}(h:d∉looks ol o):∀x∈o.op.operands,ev (σ.newBox d T cs) x=iG d (ev σ x):=
 fun x hx=>CN (yH h x hx)
theorem GA(σ:St)(d:Option Nat)(sv:SV):(σ.put d sv).bx=σ.bx:=by cases d<;>rfl
theorem mT{op:Op}(h:nr op=.val):eL op=true:=by cases op<;>first|rfl|cases h
theorem pR{fr:uK}{σ:St}{H:PH}{o:Oper}{sv sv':SV}{d:Option Nat}(h:∀e,d=some e->e∉looks ol o):XV P ol fr (σ.put d sv') H o sv<->XV P ol fr σ H o sv:=by
 have hk:aR (σ.put d sv') o.op=aR σ o.op:=fm fun x hx=>by rw[eU h x hx]
 have he:eL o.op=true->execOp (bp (σ.put d sv')) o=execOp (bp σ) o:=fun hn=>ij hn fun x hx=>by simp only[bp,eU h x hx]
 unfold XV Gg;rw[ew h,GA,yK (eU h),hk];constructor
 ·rintro(h1|⟨h1,h2,h3⟩)
  ·exact .inl h1
  ·rw[he (mT h2)]at h3;exact .inr ⟨h1,h2,h3⟩
 ·rintro(h1|⟨h1,h2,h3⟩)
  ·exact .inl h1
  ·refine .inr ⟨h1,h2,?_⟩;rw[he (mT h2)];exact h3
theorem Hm{fr:uK}{σ:St}{H H2:PH}{o:Oper}{sv:SV}(h:XV P ol fr σ H o sv)(aa:fr.h=true->H.le H2)(hj:fr.j=true->fr.J.le H->fr.J.le H2):XV P ol fr σ H2 o sv:=by
 rcases h with h|⟨h1,h2,h3⟩
 ·exact .inl h
 ·refine .inr ⟨h1,h2,h3.imp id ?_⟩;rintro(⟨a,v,b,c,e⟩|⟨a,l,x⟩)
  ·exact .inl ⟨a,v,b,c,fun w hw=>e w (hw.of_le (aa a))⟩
  ·exact .inr ⟨a,hj a l,x⟩
theorem D1{fr:uK}{σ:St}{H:PH}{o:Oper}{sv:SV}{d:Nat}{T:TypeId}{cs:List Value}(hd:d∉looks ol o)(h:XV P ol fr (σ.newBox d T cs) H o sv):
  ∃sv',XV P ol fr σ H o sv'/\sv=iG d sv':=by
 rcases h with ⟨h1,rfl⟩|⟨h1,h2,h3⟩
 ·exact⟨.v undef,.inl ⟨(dN hd).1 h1,rfl⟩,rfl⟩
 ·have aa:=(dN hd).1 h1;rcases h3 with ⟨φ,hp,hφ⟩|⟨a,v,rfl,c,e⟩|⟨a,aj,v,rfl,c,e⟩
  ·rw[yK (ρ':=fun x=>iG d (ev σ x)) (gU hd)]at hp;obtain⟨sv',h4,h5⟩:=K5 hp;exact⟨sv',.inr ⟨aa,h2,.inl ⟨φ,h4,hφ⟩⟩,h5⟩
  ·have hv:∀x∈o.op.operands,ev σ x=ev (σ.newBox d T cs) x:=by
    intro x hx;have hc:=c;simp only[aR,SG,SH]at hc;have:=hc.2 x (by simpa using hx);rw[gU hd x hx]at this |-;cases hs:ev σ x with
    |v y=>rfl
    |u=>rw[hs]at this;cases this
    |p k off=>rw[hs]at this;simp only[iG]at this;split at this<;>cases this
   have hk:aR σ o.op=aR (σ.newBox d T cs) o.op:=fm fun x hx=>by rw[hv x hx]
   have he:execOp (bp σ) o=execOp (bp (σ.newBox d T cs)) o:=ij (mT h2) fun x hx=>by simp only[bp,hv x hx]
   exact⟨.v v,.inr ⟨aa,h2,.inr (.inl ⟨a,v,rfl,hk.trans c,by rw[he];exact e⟩)⟩,rfl⟩
  ·have hv:∀x∈o.op.operands,ev σ x=ev (σ.newBox d T cs) x:=by
    intro x hx;have hc:=c;simp only[aR,SG,SH]at hc;have:=hc.2 x (by simpa using hx);rw[gU hd x hx]at this |-;cases hs:ev σ x with
    |v y=>rfl
    |u=>rw[hs]at this;cases this
    |p k off=>rw[hs]at this;simp only[iG]at this;split at this<;>cases this
   have hk:aR σ o.op=aR (σ.newBox d T cs) o.op:=fm fun x hx=>by rw[hv x hx]
   have he:execOp (bp σ) o=execOp (bp (σ.newBox d T cs)) o:=ij (mT h2) fun x hx=>by simp only[bp,hv x hx]
   exact⟨.v v,.inr ⟨aa,h2,.inr (.inr ⟨a,aj,v,rfl,hk.trans c,by rw[he];exact e⟩)⟩,rfl⟩
theorem oK{σ:St}{d:Option Nat}{sv:SV}{o:Oper}(h:∀e,d=some e->e∉looks ol o):m8 P (ev (σ.put d sv)) o.op=m8 P (ev σ) o.op:=by
 have:=eU (σ:=σ) (sv:=sv) h;cases ho:o.op<;>simp only[m8]
 rename_i T x;rw[this x (by simp[ho,Op.operands])]
theorem qH{σ:St}{d:Nat}{T:TypeId}{cs:List Value}{o:Oper}{r:TypeId×List Value}(h:d∉looks ol o):m8 P (ev (σ.newBox d T cs)) o.op=some r<->m8 P (ev σ) o.op=some r:=by
 have:=gU (σ:=σ) (T:=T) (cs:=cs) h;cases ho:o.op<;>simp only[m8]
 rename_i T' x;rw[this x (by simp[ho,Op.operands])];cases hs:ev σ x with
 |v y=>rfl
 |u=>rfl
 |p k off=>by_cases e:k=d<;>simp[iG,e]
def AP(ol:List Oper)(fr:uK)(strx str:Eu)(x y:Oper):Bool:=
 oq ol x y && match nr x.op,nr y.op with
  | .alc,.alc | .alc,.val | .val,.val=>true
  | .alc,.gen=>true
  | .val,.gen=>(!fr.h || str.h) && (!fr.j || str.j)
  | .val,.st=>(str.k && (FL x.op || fr.k)) || (FL x.op && !fr.h && !fr.j)
  | .val,.nw | .alc,.nw=>true
  | .gen,.nw=>!strx.j && y.guard.isNone
  |_,_=>false
theorem jz{σ:St}{op:Op}(h:aR σ op=true):eL op=true:=by
 simp only[aR,SG]at h;exact h.1
theorem kX{fr:uK}{str:Eu}{o:Oper}{K:St->PH->Prop}{σ:St}{H:PH}(h:fJ P ol fr str o K σ H):
  (∃sv,XV P ol fr σ H o sv/\K (σ.put o.dst sv) H)\/
  (aG ol σ o=some true/\nr o.op=.alc/\∃d T cs,o.dst=some d/\m8 P (ev σ) o.op=some (T,cs)/\K (σ.newBox d T cs) H)\/
  (aG ol σ o=some true/\nr o.op=.gen/\aR σ o.op=true/\co P (execOp (bp σ) o) H fun sv H2=>((str.h=true->H.le H2)/\(str.j=true->fr.J.le H->fr.J.le H2))/\K (σ.put o.dst sv) H2)\/
  (aG ol σ o=some true/\nr o.op=.st/\((∃k off cs,qW P σ.bx (ev σ) o.op=some (k,off,cs)/\(str.k=true->iR fr.kp k=false)/\K ((σ.store k off cs).put o.dst .u) H)\/(str.k=false/\aR σ o.op=true/\co P (execOp (bp σ) o) H fun sv H2=>K (σ.put o.dst sv) H2)))\/
  (aG ol σ o=some true/\nr o.op=.nw/\∀b,H b=none->K (σ.put o.dst (.v (.map (some b)))) (H.put b (.map #[] 0))):=by
 rcases h with ⟨hw,h⟩|⟨hw,h⟩
 ·exact .inl ⟨.v undef,.inl ⟨hw,rfl⟩,h⟩
 ·cases hc:nr o.op<;>rw[hc]at h<;>simp only at h
  ·obtain⟨sv,hv,hk⟩:=h;exact .inl ⟨sv,.inr ⟨hw,hc,hv⟩,hk⟩
  ·exact .inr (.inl ⟨hw,rfl,h⟩)
  ·exact .inr (.inr (.inr (.inl ⟨hw,rfl,h⟩)))
  ·exact .inr (.inr (.inl ⟨hw,rfl,h⟩))
  ·exact .inr (.inr (.inr (.inr ⟨hw,rfl,h⟩)))
theorem pG{fr:uK}{str:Eu}{o:Oper}{K:St->PH->Prop}{σ:St}{H:PH}(hw:aG ol σ o=some true)(hc:nr o.op=.nw)
  (h:∀b,H b=none->K (σ.put o.dst (.v (.map (some b)))) (H.put b (.map #[] 0))):fJ P ol fr str o K σ H:=.inr ⟨hw,by rw[hc];exact h⟩
theorem gM{fr:uK}{str:Eu}{o:Oper}{K:St->PH->Prop}{σ:St}{H:PH}{sv:SV}(h:XV P ol fr σ H o sv)(hk:K (σ.put o.dst sv) H):fJ P ol fr str o K σ H:=by
 rcases h with ⟨hw,rfl⟩|⟨hw,hc,hv⟩
 ·exact .inl ⟨hw,hk⟩
 ·exact .inr ⟨hw,by rw[hc];exact⟨sv,hv,hk⟩⟩
theorem ib{fr:uK}{str:Eu}{o:Oper}{K:St->PH->Prop}{σ:St}{H:PH}{d:Nat}{T:TypeId}{cs:List Value}(hw:aG ol σ o=some true)(hc:nr o.op=.alc)(hd:o.dst=some d)
  (ha:m8 P (ev σ) o.op=some (T,cs)) (hk:K (σ.newBox d T cs) H):fJ P ol fr str o K σ H:=.inr ⟨hw,by rw[hc];exact⟨d,T,cs,hd,ha,hk⟩⟩
theorem Al{bx:List gF}{ρ ρ':Operand->SV}{op:Op}(h:∀x∈op.operands,ρ x=ρ' x):qW P bx ρ op=qW P bx ρ' op:=by
 cases op<;>simp only[qW]<;>simp only[Op.operands]at h
 simp_all
theorem E9{fr:uK}{σ:St}{H:PH}{o:Oper}{sv:SV}{k off:Nat}{cs:List Value}(hn:FL o.op=true\/fr.k=true)(hm:iR fr.kp k=false)(h:XV P ol fr σ H o sv):XV P ol fr (σ.store k off cs) H o sv:=by
 rcases h with h|⟨h1,h2,h3⟩
 ·exact .inl h
 ·refine .inr ⟨h1,h2,?_⟩;rcases h3 with ⟨φ,a,b⟩|h3
  ·refine .inl ⟨φ,?_,b⟩;rcases hn with hn|hn
   ·rw[Bu (bx':=kb fr.k fr.kp σ.bx) hn];exact a
   ·rw[hn]at a |-;show pv P (jZ fr.kp (nv σ.bx k off cs)) _ _=_;rw[sJ hm];exact a
  ·exact .inr h3
theorem Ep{fr:uK}{σ:St}{H:PH}{o:Oper}{sv:SV}{k off:Nat}{cs:List Value}(hn:FL o.op=true)(h:XV P ol fr σ H o sv):XV P ol fr (σ.store k off cs) H o sv:=by
 rcases h with h|⟨h1,h2,h3⟩
 ·exact .inl h
 ·refine .inr ⟨h1,h2,?_⟩;rcases h3 with ⟨φ,a,b⟩|h3
  ·refine .inl ⟨φ,?_,b⟩;rw[Bu (bx':=kb fr.k fr.kp σ.bx) hn];exact a
  ·exact .inr h3
theorem mh{l:List Nat}{d:Nat}(h:(!l.contains d)=true):d∉l:=by simpa using h
theorem swap{frx fry:uK}{strx stry:Eu}(hJ:frx.J=fry.J)(hK:frx.kp=fry.kp){x y:Oper}{K:St->PH->Prop}{σ:St}{H:PH}(hs:m6 σ.bx)(ok:AP ol frx strx stry x y=true)
  (h:fJ P ol frx strx x (fJ P ol fry stry y K) σ H):fJ P ol fry stry y (fJ P ol frx strx x K) σ H:=by
 simp only[AP,SG]at ok;obtain⟨a3,aa⟩:=ok;simp only[oq,SG]at a3;obtain⟨a4,a7⟩:=a3;have dx:∀e,x.dst=some e->e∉looks ol y:=fun e he=>by rw[he]at a4;simp only[SG]at a4;exact mh a4.1
 have dxy:∀e,x.dst=some e->y.dst≠some e:=fun e he h2=>by rw[he]at a4;simp[h2]at a4
 have dy:∀e,y.dst=some e->e∉looks ol x:=fun e he=>by rw[he]at a7;simp only[SG]at a7;exact mh a7.1
 have dyx:∀e,y.dst=some e->x.dst≠some e:=fun e he h2=>dxy e h2 he;rcases kX h with ⟨svx,hx,h⟩|⟨am,ak,d,T,cs,hd,ap,h⟩|⟨am,ak,a1,a5⟩|⟨am,ak,_⟩|⟨am,ak,_⟩
 ·
  rcases kX h with ⟨svy,hy,h⟩|⟨aj,ac,e,T,cs,he,ap,h⟩|⟨aj,ac,an,ao⟩|⟨aj,ac,b0⟩|⟨aj,ac,a6⟩
  ·exact gM ((pR dx).1 hy) (gM ((pR dy).2 hx) (by rw[<-kD _ _ _ _ _ dxy];exact h))
  ·rcases hx with ⟨am,rfl⟩|⟨am,ak,_⟩
   ·rw[ew dx]at aj;rw[oK dx]at ap;refine ib aj ac he ap (gM (sv:=.v undef) (.inl ⟨(dN (dy e he)).2 am,rfl⟩) ?_);rw[lx _ _ _ _ _ _ (dyx e he)]at h;exact h
   ·rw[ak,ac]at aa;cases aa
  ·rw[ew dx]at aj;have hk:aR (σ.put x.dst svx) y.op=aR σ y.op:=fm fun z hz=>by rw[eU dx z hz]
   have he:execOp (bp (σ.put x.dst svx)) y=execOp (bp σ) y:=ij (jz an) fun z hz=>by simp only[bp,eU dx z hz]
   rw[hk]at an;rw[he]at ao;refine .inr ⟨aj,by
    rw[ac];refine⟨an,ao.mono' fun sv H2 _ hΨ=>⟨hΨ.1,?_⟩⟩;have a0:XV P ol frx σ H2 x svx:=by
     rcases hx with hx|⟨am,ak,hv⟩
     ·exact .inl hx
     ·rw[ak,ac]at aa;simp only[SG,SQ,SR]at aa;refine Hm (.inr ⟨am,ak,hv⟩) (fun hf=>hΨ.1.1 ?_) fun hf=>?_
      ·rcases aa.1 with h1|h1
       ·rw[hf]at h1;cases h1
       ·exact h1
      ·rw[hJ];refine hΨ.1.2 ?_;rcases aa.2 with h1|h1
       ·rw[hf]at h1;cases h1
       ·exact h1
    exact gM ((pR dy).2 a0) (by rw[<-kD _ _ _ _ _ dxy];exact hΨ.2)⟩
  ·rw[ac]at aa;cases hc:nr x.op<;>rw[hc]at aa<;>first|(exact Bool.noConfusion aa)|skip
   simp only[SG,SQ,SR]at aa;rw[ew dx]at aj;rcases b0 with ⟨k,off,cs,ha,hm,hk⟩|⟨b1,an,ao⟩
   ·rw[GA,Al (eU dx)]at ha;have a0:XV P ol frx (σ.store k off cs) H x svx:=by
     rcases aa with ⟨h1,h2⟩|⟨⟨h1,_⟩,_⟩
     ·exact E9 h2 (by rw[hK];exact hm h1) hx
     ·exact Ep h1 hx
    refine .inr ⟨aj,by
     rw[ac];refine .inl ⟨k,off,cs,ha,hm,gM ((pR dy).2 a0) ?_⟩;rw[<-kD _ _ _ _ _ dxy];have:(σ.store k off cs).put x.dst svx=(σ.put x.dst svx).store k off cs:=by cases x.dst<;>rfl
     rw[this];exact hk⟩
   ·have hn:frx.h=false/\frx.j=false:=by
     rcases aa with ⟨h1,_⟩|⟨⟨_,h1⟩,h2⟩
     ·rw[b1]at h1;cases h1
     ·exact⟨h1,h2⟩
    have hk:aR (σ.put x.dst svx) y.op=aR σ y.op:=fm fun z hz=>by rw[eU dx z hz]
    have he:execOp (bp (σ.put x.dst svx)) y=execOp (bp σ) y:=ij (jz an) fun z hz=>by simp only[bp,eU dx z hz]
    rw[hk]at an;rw[he]at ao;refine .inr ⟨aj,by
     rw[ac];refine .inr ⟨b1,an,ao.mono' fun sv H2 _ hΨ=>?_⟩;have a0:XV P ol frx σ H2 x svx:=Hm hx (fun hf=>by rw[hn.1]at hf;cases hf) fun hf=>by rw[hn.2]at hf;cases hf
     exact gM ((pR dy).2 a0) (by rw[<-kD _ _ _ _ _ dxy];exact hΨ)⟩
  ·rw[ew dx]at aj;refine pG aj ac fun b hb=>?_;have b2:=PH.le_put (o:=.map #[] 0) hb;exact gM ((pR dy).2 (Hm hx (fun _=>b2) fun _ hj=>Ui hj b2)) (by rw[<-kD _ _ _ _ _ dxy];exact a6 b hb)
 ·
  have aS:=dx d hd;rcases kX h with ⟨svy,hy,h⟩|⟨aj,ac,e,T',cs',he,ba,h⟩|⟨aj,ac,an,ao⟩|⟨aj,ac,b0⟩|⟨aj,ac,a6⟩
  ·obtain⟨sv',b3,rfl⟩:=D1 aS hy;refine gM b3 (ib (by rw[ew dy];exact am) ak hd (by rw[oK dy];exact ap) ?_);rw[lx _ _ _ _ _ _ (dxy d hd)];exact h
  ·have b4:d≠e:=fun x2=>dxy d hd (by rw[x2];exact he);refine ib ((dN aS).1 aj) ac he ((qH aS).1 ba) (ib ((dN (dy e he)).2 am) ak hd ((qH (dy e he)).2 ap) ?_);rw[<-yy _ _ _ _ _ _ _ b4 hs];exact h
  ·have hv:∀z∈y.op.operands,ev (σ.newBox d T cs) z=ev σ z:=by
    intro z hz;have hc:=an;simp only[aR,SG,SH]at hc;have:=hc.2 z (by simpa using hz);rw[gU aS z hz]at this |-;cases bd:ev σ z with
    |v y=>rfl
    |u=>rw[bd]at this;cases this
    |p k off=>rw[bd]at this;simp only[iG]at this;split at this<;>cases this
   have hk:aR (σ.newBox d T cs) y.op=aR σ y.op:=fm fun z hz=>by rw[hv z hz]
   have he:execOp (bp (σ.newBox d T cs)) y=execOp (bp σ) y:=ij (jz an) fun z hz=>by simp only[bp,hv z hz]
   rw[hk]at an;rw[he]at ao;refine .inr ⟨(dN aS).1 aj,by
    rw[ac];refine⟨an,ao.mono' fun sv H2 a9 hΨ=>⟨hΨ.1,?_⟩⟩;refine ib (by rw[ew dy];exact am) ak hd (by rw[oK dy];exact ap) ?_;rw[lx _ _ _ _ _ _ (dxy d hd),a9];exact hΨ.2⟩
  ·rw[ak,ac]at aa;cases aa
  ·refine pG ((dN aS).1 aj) ac fun b hb=>?_;refine ib (by rw[ew dy];exact am) ak hd (by rw[oK dy];exact ap) ?_;rw[lx _ _ _ _ _ _ (dxy d hd)];exact a6 b hb
 ·
  rw[ak]at aa;cases ac:nr y.op<;>rw[ac]at aa<;>first|(exact Bool.noConfusion aa)|skip
  simp only[SG,SR,Option.isNone_iff_eq_none]at aa;have bc:∀σ',aG ol σ' y=some true:=fun σ'=>by simp[aG,aa.2]
  refine pG (bc _) ac fun b hb=>?_;have hk:aR (σ.put y.dst (.v (.map (some b)))) x.op=aR σ x.op:=fm fun z hz=>by rw[eU dy z hz]
  have he:execOp (bp (σ.put y.dst (.v (.map (some b))))) x=execOp (bp σ) x:=ij (jz a1) fun z hz=>by simp only[bp,eU dy z hz]
  refine .inr ⟨by rw[ew dy];exact am,by
   rw[ak];refine⟨by rw[hk];exact a1,?_⟩;rw[he];refine(a5.beside (o:=.map #[] 0) hb).mono fun sv H2' hh=>?_;obtain⟨H2,rfl,h2b,a2,hy⟩:=hh;refine⟨⟨fun hf=>?_,fun hf=>?_⟩,?_⟩
   ·have:=a2.1 hf;intro c o hc;by_cases e:c=b
    ·subst e;simp only[PH.put,R9]at hc |-;exact hc
    ·simp only[PH.put,Sb e]at hc |-;exact this c o hc
   ·rw[aa.1]at hf;cases hf
   ·rcases hy with ⟨bb,_⟩|⟨_,hy⟩
    ·rw[bc]at bb;cases bb
    ·rw[ac]at hy;have:=hy b h2b;rw[kD _ _ _ _ _ dyx];exact this⟩
 ·rw[ak]at aa;cases hc:nr y.op<;>rw[hc]at aa<;>cases aa
 ·rw[ak]at aa;cases hc:nr y.op<;>rw[hc]at aa<;>cases aa
end
open Go
def iF(o:Oper):List Nat:=(o.after.toList.filter (Region.binds .any)).map (·.on)
def gJ(ol:List Oper):List (List Nat):=
 ol.foldl (fun acc o=>acc++[(iF o++(iF o).flatMap (fun d=>acc.getD d [])).eraseDups]) []
def CT(ol:List Oper)(cl:List (List Nat)):Bool:=
 (List.range ol.length).all fun y=>match ol[y]? with
  | some o=>(iF o).all (fun z=>decide (z<y)) && (cl.getD y []).all fun x=>(iF o).contains x || (iF o).any fun z=>(cl.getD z []).contains x
  |none=>true
def bU(ol:List Oper)(cl:List (List Nat))(fr:gW)(str:gR):List Nat->Bool
 | []=>true
 | x::l=>decide (x<ol.length) && !l.contains x && l.all (fun y=>(cl.getD y []).contains x || match ol[x]?,ol[y]? with
   |some ox,some oy=>AP ol (fr.at' x) (str.at' x) (str.at' y) ox oy
   |_,_=>false) && bU ol cl fr str l
def KA(ol:List Oper)(κ:List Nat)(fr:gW)(str:gR):Bool:=
 CT ol (gJ ol) && (List.range ol.length).all (κ.contains ·) && bU ol (gJ ol) fr str κ
section
variable {P:Program} {ol:List Oper} {fr:gW} {str:gR} {K:St->PH->Prop}
theorem it{f:uK}{s:Eu}{o:Oper}{K K':St->PH->Prop}{σ:St}{H:PH}(k:∀σ' H',m6 σ'.bx->K σ' H'->K' σ' H')(hs:m6 σ.bx)(h:fJ P ol f s o K σ H):fJ P ol f s o K' σ H:=by
 rcases h with ⟨hw,h⟩|⟨hw,h⟩
 ·exact .inl ⟨hw,k _ _ (hs.put _ _) h⟩
 ·refine .inr ⟨hw,?_⟩;cases hc:nr o.op<;>rw[hc]at h<;>simp only at h |-
  ·obtain⟨sv,hv,hk⟩:=h;exact⟨sv,hv,k _ _ (hs.put _ _) hk⟩
  ·obtain⟨d,T,cs,hd,ha,hk⟩:=h;exact⟨d,T,cs,hd,ha,k _ _ (hs.newBox _ _ _) hk⟩
  ·rcases h with ⟨x,off,cs,ha,hm,hk⟩|⟨hn,hk,aa⟩
   ·exact .inl ⟨x,off,cs,ha,hm,k _ _ ((hs.store _ _ _).put _ _) hk⟩
   ·exact .inr ⟨hn,hk,aa.mono fun sv H2 hh=>k _ _ (hs.put _ _) hh⟩
  ·exact⟨h.1,h.2.mono fun sv H2 hh=>⟨hh.1,k _ _ (hs.put _ _) hh.2⟩⟩
  ·exact fun b hb=>k _ _ (hs.put _ _) (h b hb)
theorem rp{K K':St->PH->Prop}(k:∀σ' H',m6 σ'.bx->K σ' H'->K' σ' H'):∀(l:List Nat) {σ:St} {H:PH},m6 σ.bx->VD P ol fr str K l σ H->VD P ol fr str K' l σ H
 | [],σ,H,hs,h=>k _ _ hs h
 |i::l,σ,H,hs,h=>by
  simp only[VD]at h |-;cases ho:ol[i]? with
  |none=>rw[ho]at h;exact rp k l hs h
  |some o=>rw[ho]at h;exact it (fun σ' H' aa h'=>rp k l aa h') hs h
theorem xx{i:Nat}{oi:Oper}(hi:ol[i]?=some oi):∀(l1 l2:List Nat) {σ:St} {H:PH},m6 σ.bx->(∀x∈l1,∃ox,ol[x]?=some ox/\AP ol (fr.at' x) (str.at' x) (str.at' i) ox oi=true)->
  VD P ol fr str K (l1++i::l2) σ H->VD P ol fr str K (i::(l1++l2)) σ H
 | [],l2,σ,H,hs,_,h=>h
 |x::l1,l2,σ,H,hs,aa,h=>by
  obtain⟨ox,hx,aj⟩:=aa x (.head _);simp only[SS,VD,hx,hi]at h |-;refine swap (frx:=fr.at' x) (fry:=fr.at' i) rfl rfl hs aj ?_;refine it (fun σ' H' ac h'=>?_) hs h;have:=xx hi l1 l2 ac (fun y hy=>aa y (.tail _ hy)) h';simpa only[VD,hi]using this
theorem lX{cl:List (List Nat)}:∀{l1 l2:List Nat} {i:Nat},bU ol cl fr str (l1++i::l2)=true->
  (∀x∈l1,x∈cl.getD i []\/∃ox oy,ol[x]?=some ox/\ol[i]?=some oy/\AP ol (fr.at' x) (str.at' x) (str.at' i) ox oy=true)/\bU ol cl fr str (l1++l2)=true/\i∉l1++l2
 | [],l2,i,h=>by
  simp only[SU,bU,SG]at h;exact⟨fun x hx=>(SW hx).elim,h.2,by simpa using h.1.1.2⟩
 |x::l1,l2,i,h=>by
  simp only[SS,bU,SG]at h;obtain⟨⟨⟨h1,h2⟩,h3⟩,h4⟩:=h;obtain⟨a,b,c⟩:=lX h4;have aa:=List.all_eq_true.1 h3;have ac:x∉l1++i::l2:=by simpa using h2
  refine⟨fun y hy=>?_,?_,?_⟩
  ·rcases List.mem_cons.1 hy with rfl|hy
   ·have:=aa i (SN _ (.head _));simp only[SQ]at this;rcases this with h|h
    ·exact .inl (by simpa using h)
    ·right
     split at h
     ·rename_i ox oy e1 e2;exact⟨ox,oy,e1,e2,h⟩
     ·cases h
   ·exact a y hy
  ·simp only[SS,bU,SG];refine⟨⟨⟨h1,?_⟩,?_⟩,b⟩
   ·have:x∉l1++l2:=fun hm=>ac (by
     rcases List.mem_append.1 hm with h|h
     ·exact SM _ h
     ·exact SN _ (.tail _ h))
    simpa using this
   ·refine List.all_eq_true.2 fun y hy=>aa y ?_;rcases List.mem_append.1 hy with h|h
    ·exact SM _ h
    ·exact SN _ (.tail _ h)
  ·intro hm;rcases List.mem_cons.1 hm with rfl|hm
   ·exact ac (SN _ (.head _))
   ·exact c hm
theorem nz{cl:List (List Nat)}(ac:CT ol cl=true){L:Nat->Prop}(closed:∀y o,ol[y]?=some o->L y->∀z∈iF o,L z):
  ∀(n y:Nat),y<n->∀o,ol[y]?=some o->(∀z∈iF o,L z)->∀x∈cl.getD y [],L x
 |0,y,h=>by omega
 |n+1,y,h=>by
  intro o ho hd x hx;have hy:y<ol.length:=by
   rcases Sw y ol.length with h|h
   ·exact h
   ·rw[SF h]at ho;cases ho
  have h1:=List.all_eq_true.1 ac y (List.mem_range.2 hy);simp only[ho,SG]at h1;have h2:=List.all_eq_true.1 h1.2 x hx;simp only[SQ]at h2;rcases h2 with h2|h2
  ·exact hd x (by simpa using h2)
  ·obtain⟨z,hz,am⟩:=List.any_eq_true.1 h2;have aj:=List.all_eq_true.1 h1.1 z hz;simp only[SX]at aj;have ak:z<ol.length:=by omega
   have aa:ol[z]?=some ol[z]:=SC ak;exact nz ac closed n z Vi _ aa (closed z _ aa (hd z hz)) x (by simpa using am)
theorem uT{n0:Nat}{H0:PH}{w0:World}(hn:n0=w0.heap.size){ops:Array Oper}(a2:ops.toList=ol){cl:List (List Nat)}(ap:CT ol cl=true):
  ∀(fR:Nat) (κ:List Nat) (listed:Array Bool) {σ:St} {H:PH} {a:Act} {w:World},κ.length<=fR->listed.size=ops.size->bU ol cl fr str κ=true->
   (∀i,i∈κ<->i<ops.size/\listed.getD i true=false)->
   (∀y o,ol[y]?=some o->listed.getD y false=true->∀z∈iF o,listed.getD z false=true)->
   m6 σ.bx->VD P ol fr str K κ σ H->cS H0 w0 H w->G n0 σ H a w->wpAny P .any ops (QK n0 H0 w0 K) fR listed a w:=by
 subst a2;have readyIff:∀(listed:Array Bool) (i:Nat),i∈Region.ready .any ops listed<->i<ops.size/\listed.getD i true=false/\∃o,ops[i]?=some o/\∀z∈iF o,listed.getD z false=true:=by
  intro listed i;simp only[Region.ready,SY,List.mem_range,SG,SR];constructor
  ·rintro⟨h1,h2,h3⟩;refine⟨h1,h2,?_⟩;cases ho:ops[i]? with
   |none=>rw[ho]at h3;cases h3
   |some o=>
    rw[ho]at h3;simp only[So,SE]at h3;refine⟨o,rfl,fun z hz=>?_⟩;simp only[iF,SZ,SY]at hz;obtain⟨e,⟨he,hb⟩,rfl⟩:=hz;have:=Array.all_eq_true'.1 h3 e (by simpa using he);simpa[hb]using this
  ·rintro⟨h1,h2,o,ho,h3⟩;refine⟨h1,h2,?_⟩;rw[ho];simp only[So,SE];refine Array.all_eq_true'.2 fun e he=>?_;cases hb:Region.binds .any e with
   |false=>rfl
   |true=>
    have:=h3 e.on (by simp only[iF,SZ,SY];exact⟨e,⟨by simpa using he,hb⟩,rfl⟩);simpa using this
 have sizeol:ops.size=ops.toList.length:=(Sk).symm;have getol:∀i:Nat,ops[i]?=ops.toList[i]?:=fun i=>by simp
 have noneLeft:∀(κ:List Nat) (listed:Array Bool),(∀i,i∈κ<->i<ops.size/\listed.getD i true=false)->listed.size=ops.size->Region.ready .any ops listed=[]->κ=[]:=by
  intro κ listed hm an hr;have key:∀n i,i<n->i<ops.size->listed.getD i true=true:=by
   intro n
   induction n with
   |zero=>intro i h;omega
   |succ n ih=>
    intro i hi ao;cases hl:listed.getD i true with
    |true=>rfl
    |false=>
     exfalso;have ak:ops[i]?=some ops[i]:=Sr ao;have:i∈Region.ready .any ops listed:=(readyIff listed i).2 ⟨ao,hl,ops[i],ak,fun z hz=>by
      have h1:=List.all_eq_true.1 ap i (List.mem_range.2 Vi);rw[<-getol i,ak]at h1;simp only[SG]at h1;have aS:=List.all_eq_true.1 h1.1 z hz;simp only[SX]at aS;have:=ih z Vi Vi;rw[Sa]at this |-;rw[Sr Vi]at this |-;simpa using this⟩
     rw[hr]at this;cases this
  cases κ with
  |nil=>rfl
  |cons i l=>
   exfalso;have:=(hm i).1 (.head _);rw[key (i+1) i Vi this.1]at this;exact Bool.noConfusion this.2
 intro fR
 induction fR with
 |zero=>
  intro κ listed σ H a w am an hp hm hc hs h st g;have:κ=[]:=List.length_eq_zero_iff.1 Vi;subst this;refine⟨?_,σ,H,h,st,g⟩;cases hr:Region.ready .any ops listed with
  |nil=>rfl
  |cons i l=>
   have hi:=(readyIff listed i).1 (by rw[hr];exact .head _);exact absurd ((hm i).2 ⟨hi.1,hi.2.1⟩) SW
 |succ fR ih=>
  intro κ listed σ H a w am an hp hm hc hs h st g;refine⟨fun hr=>?_,fun i hi=>?_⟩
  ·have:=noneLeft κ listed hm an hr;subst this;exact⟨σ,H,h,st,g⟩
  ·obtain⟨h1,h2,oi,ak,ac⟩:=(readyIff listed i).1 hi;have a5:i∈κ:=(hm i).2 ⟨h1,h2⟩;obtain⟨l1,l2,rfl⟩:=List.append_of_mem a5;obtain⟨pa,pb,pc⟩:=lX hp;have aa:ops.toList[i]?=some oi:=by rw[<-getol];exact ak
   have hb:=xx (K:=K) (P:=P) aa l1 l2 hs (fun x hx=>by
    rcases pa x hx with a0|⟨ox,oy,e1,e2,e3⟩
    ·exfalso;have:=nz ap (L:=fun x=>listed.getD x false=true) hc (i+1) i Vi oi aa ac x a0;have aj:=((hm x).1 (SM _ hx)).2;rw[Sa]at this aj;cases hg:listed[x]? with
     |none=>rw[hg]at this;cases this
     |some b=>rw[hg]at this aj;simp only[SE]at this aj;rw[this]at aj;cases aj
    ·rw[aa]at e2;cases e2;exact⟨ox,e1,e3⟩) h
   simp only[VD,aa]at hb;have hv:=(it (K':=fun σ' H'=>m6 σ'.bx/\VD P ops.toList fr str K (l1++l2) σ' H') (fun σ' H' a1 h'=>⟨a1,h'⟩) hs hb).toV;refine jC ak hn (fun σ' H' a' w' hk st' g'=>?_) hv st g;have getset:∀(j:Nat) (d:Bool),(listed.setIfInBounds i true).getD j d=if i=j then (if i<listed.size then true else d)else listed.getD j d:=by
    intro j d;rw[Sa,S0];by_cases e:i=j
    ·subst e;by_cases hl:i<listed.size<;>simp[hl]
    ·simp[e,Sa]
   refine ih (l1++l2) _ (by simp at am |-;omega) (by simp[an]) pb (fun j=>?_) (fun y o ho hl z hz=>?_) hk.1 hk.2 st' g'
   ·rw[getset];by_cases e:i=j
    ·subst e;simp only[R9,SI (show i<listed.size by omega)];exact⟨fun a3=>absurd a3 pc,fun hh=>by cases hh.2⟩
    ·simp only[Sb e];rw[<-hm j];constructor
     ·intro hj;rcases List.mem_append.1 hj with hj|hj
      ·exact SM _ hj
      ·exact SN _ (.tail _ hj)
     ·intro hj;rcases List.mem_append.1 hj with hj|hj
      ·exact SM _ hj
      ·rcases List.mem_cons.1 hj with rfl|hj
       ·exact absurd rfl e
       ·exact SN _ hj
   ·rw[getset]at hl |-;have a4:i<listed.size:=by omega
    by_cases ez:i=z
    ·subst ez;simp[a4]
    ·simp only[Sb ez];by_cases ey:i=y
     ·subst ey;rw[aa]at ho;cases ho;exact ac z hz
     ·simp only[Sb ey]at hl;exact hc y o ho hl z hz
theorem oT:∀(n:Nat) (l:List Nat),l.Nodup->(∀i∈l,i<n)->l.length<=n
 |0,l,_,h=>by cases l with|nil=>simp|cons x l=>exact absurd (h x (.head _)) Vi
 |n+1,l,hn,h=>by
  have h1:=oT n (l.erase n) (hn.erase n) fun i hi=>by
   have:=(hn.mem_erase_iff).1 hi;have:=h i this.2;omega
  by_cases hm:n∈l
  ·rw[List.length_erase_of_mem hm]at h1;omega
  ·rw[List.erase_of_not_mem hm]at h1;omega
theorem zL{n0:Nat}{H0:PH}{w0:World}(hn:n0=w0.heap.size)(hm:P.follows .mixedOrders=true){id:Nat}{ops:Array Oper}{κ:List Nat}(ac:KA ops.toList κ fr str=true){σ:St}{H:PH}{a:Act}{w:World}
  (hs:m6 σ.bx) (h:VD P ops.toList fr str K κ σ H) (st:cS H0 w0 H w) (g:G n0 σ H a w):(Code.region id ops true).wp P (QK n0 H0 w0 K) a w:=by
 simp only[KA,SG]at ac;obtain⟨⟨h1,h2⟩,h3⟩:=ac;have mem:∀(l:List Nat),bU ops.toList (gJ ops.toList) fr str l=true->∀i∈l,i<ops.size:=by
  intro l
  induction l with
  |nil=>intro _ i hi;cases hi
  |cons x l ih=>
   intro hp i hi;simp only[bU,SG,SX]at hp;rcases List.mem_cons.1 hi with rfl|hi
   ·simpa using hp.1.1.1
   ·exact ih hp.2 i hi
 have len:∀(l:List Nat),bU ops.toList (gJ ops.toList) fr str l=true->l.Nodup:=by
  intro l
  induction l with
  |nil=>intro _;exact List.nodup_nil
  |cons x l ih=>
   intro hp;simp only[bU,SG]at hp;exact List.nodup_cons.2 ⟨by simpa using hp.1.1.2,ih hp.2⟩
 have aa:κ.length<=ops.size:=by
  exact oT _ _ (len κ h3) (mem κ h3)
 refine wp_region_any hm (uT hn rfl h1 ops.size κ _ aa (by simp) h3 (fun i=>?_) (fun y o ho hl=>?_) hs h (w:={ w with drawn:=w.drawn+1 }) ?_ ?_)
 ·constructor
  ·intro hi;have:=mem κ h3 i hi;exact⟨this,by simp[Sa,this]⟩
  ·rintro⟨hi,_⟩;have:=List.all_eq_true.1 h2 i (List.mem_range.2 (by simpa using hi));simpa using this
 ·exfalso;rw[Sa,Array.getElem?_replicate]at hl;split at hl<;>cases hl
 ·exact⟨st.sub,st.size,st.priv,st.dom,st.os,st.tape,st.out⟩
 ·obtain⟨β,g⟩:=g;exact⟨β,g.defers,g.size,g.tm,g.bx,g.inj,g.lo,g.keys⟩
end
open Go
structure Cx where
 P:Program
 f:FuncId
 fn:Func
 hf:P.funcs[f]?=some fn
 H0:PH
 w0:World
 post:Value->PH->Prop
def Kk(C:Cx)(e:Ending)(w:World):Prop:=
 match e with
 | .returned v=>∃H2,cS C.H0 C.w0 H2 w/\C.post v H2
 |_=>False
def lO(f:FuncId):Frame:={ (default:Frame)with fn:=f,kind:=.normal }
def R(C:Cx)(k:List Item)(σ:St)(H:PH):Prop:=
 ∀w a cs,cS C.H0 C.w0 H w->G C.w0.heap.size σ H a w->
  ∃e w' fr,Kk C e w'/\Comes C.P (lone ((lO C.f).at a k) cs w) (lone fr cs w') e/\fr.fn=C.f/\fr.leaving C.P w' e
section
variable {C:Cx} {k:List Item} {σ:St} {H:PH}
theorem kQ{k':List Item}(h:R C k' σ H)(st:∀a cs w,G C.w0.heap.size σ H a w->step C.P (lone ((lO C.f).at a k) cs w)=.next (lone ((lO C.f).at a k') cs w)):R C k σ H:=by
 intro w a cs s g;obtain⟨e,w',fr,h1,h2,h3,h4⟩:=h w a cs s g;exact⟨e,w',fr,h1,.of_steps (.one (st a cs w g)) h2,h3,h4⟩
theorem Mx(h:R C k σ H):R C (.code .skip::k) σ H:=kQ h fun _ _ _ _=>step_skip
theorem IU{l:Nat}(h:R C k σ H):R C (.code (.label l)::k) σ H:=kQ h fun _ _ _ _=>step_label
theorem CZ{id:Nat}(h:R C k σ H):R C (.inBlock id::k) σ H:=kQ h fun _ _ _ _=>step_inBlock
theorem NA{x y:Code}(h:R C (.code x::.code y::k) σ H):R C (.code (.seq x y)::k) σ H:=kQ h fun _ _ _ _=>step_seq
theorem HV{id:Nat}{c:Code}(h:R C (.code c::.inBlock id::k) σ H):R C (.code (.block id c)::k) σ H:=kQ h fun _ _ _ _=>step_block
theorem Lb{id:Nat}{k':List Item}(he:exitTo id k=some k')(h:R C k' σ H):R C (.code (.exit id)::k) σ H:=kQ h fun _ _ _ _=>step_exit he
theorem GJ{c:Operand}{x y:Code}{t:Bool}(hc:ev σ c=.v (.bool t))(h:R C (.code (if t then x else y)::k) σ H):R C (.code (.cond c x y)::k) σ H:=
 kQ h fun _ _ _ g=>step_cond (by obtain⟨β,g⟩:=g;exact cC g hc)
theorem FM{c:Code}(h:R C (.code c::.inLoop c::k) σ H):R C (.inLoop c::k) σ H:=kQ h fun _ _ _ _=>step_inLoop
theorem Ie{c:Code}(h:R C (.code c::.inLoop c::k) σ H):R C (.code (.loop c)::k) σ H:=kQ h fun _ _ _ _=>step_loop
theorem LH{c:Code}(J:Nat->St->PH->Prop)(n:Nat)(h0:J n σ H)
  (h:∀n σ H,J n σ H->(∀m,m<n->∀σ' H',J m σ' H'->R C (.inLoop c::k) σ' H')->R C (.code c::.inLoop c::k) σ H):R C (.code (.loop c)::k) σ H:=by
 refine Ie ?_;have key:∀n σ H,J n σ H->R C (.code c::.inLoop c::k) σ H:=by
  intro n
  induction n using Nat.strongRecOn with
  |_ n ih=>exact fun σ H hJ=>h n σ H hJ fun m hm σ' H' aa=>FM (ih m hm σ' H' aa)
 exact key n σ H h0
theorem ro{c:Code}(h:∀a w,cS C.H0 C.w0 H w->G C.w0.heap.size σ H a w->c.wp C.P (QK C.w0.heap.size C.H0 C.w0 (R C k)) a w):R C (.code c::k) σ H:=by
 intro w a cs s g;obtain⟨e,a',w',hq,aa⟩:=h a w s g (lO C.f) k cs;cases e with
 |normal=>
  obtain⟨σ',H',hr,s',g'⟩:=hq;obtain⟨e,w2,fr,h1,h2,h3,h4⟩:=hr w' a' cs s' g';exact⟨e,w2,fr,h1,.of_steps aa h2,h3,h4⟩
 |_=>exact hq.elim
def V2(P:Program)(ol:List Oper)(K:St->PH->Prop):List Oper->St->PH->Prop
 | [],σ,H=>K σ H
 |o::l,σ,H=>yJ P ol o (V2 P ol K l) σ H
theorem Qu{P:Program}{K:St->PH->Prop}(pre:List Oper):∀(rem:List Oper) {σ:St} {H:PH},V2 P (pre++rem) K rem σ H->V P (pre++rem) K (List.range' pre.length rem.length) σ H:=by
 intro rem
 suffices h:∀(ol pre rem:List Oper) (σ:St) (H:PH),ol=pre++rem->V2 P ol K rem σ H->V P ol K (List.range' pre.length rem.length) σ H from fun{σ H} hv=>h _ _ _ σ H rfl hv
 intro ol pre rem
 induction rem generalizing pre with
 |nil=>intro σ H _ h;exact h
 |cons o rem ih=>
  intro σ H he h;simp only[SB,List.range'_succ,V];have ho:ol[pre.length]?=some o:=by rw[he];simp
  rw[ho];simp only[V2]at h;have aa:∀σ' H',V2 P ol K rem σ' H'->V P ol K (List.range' (pre.length+1) rem.length) σ' H':=fun σ' H' h'=>by
   have:=ih (pre++[o]) σ' H' (by rw[he];simp) h';simpa using this
  rcases h with ⟨a,b⟩|⟨a,b⟩
  ·exact .inl ⟨a,aa _ _ b⟩
  ·refine .inr ⟨a,?_⟩;rcases b with ⟨sv,b,c⟩|⟨d,T,cs,b,c,e⟩|⟨x,off,cs,b,c⟩|⟨b,c⟩
   ·exact .inl ⟨sv,b,aa _ _ c⟩
   ·exact .inr (.inl ⟨d,T,cs,b,c,aa _ _ e⟩)
   ·exact .inr (.inr (.inl ⟨x,off,cs,b,aa _ _ c⟩))
   ·exact .inr (.inr (.inr ⟨b,c.mono fun sv H2 hh=>aa _ _ hh⟩))
inductive Cf where
 |st (k:List Item)
 |op (ol rem:List Oper) (k:List Item)
def RC(C:Cx)(c:Cf)(σ:St)(H:PH):Prop:=
 match c with
 | .st k=>R C k σ H
 | .op ol rem k=>V2 C.P ol (R C k) rem σ H
theorem EH{id:Nat}{ops:Array Oper}(h:V2 C.P ops.toList (R C k) ops.toList σ H):R C (.code (.region id ops false)::k) σ H:=by
 refine ro fun a w s g=>wp_region ?_;have:=Qu [] ops.toList h;rw[SU]at this;have h2:List.range ops.size=List.range' 0 ops.toList.length:=by rw[List.range_eq_range'];simp
 rw[h2];exact xP rfl _ this s g
theorem Ma{id:Nat}{ops:Array Oper}(hm:C.P.follows .mixedOrders=true)(κ:List Nat)(fr:gW)(str:gR)(aa:KA ops.toList κ fr str=true)(hs:m6 σ.bx)
  (h:VD C.P ops.toList fr str (R C k) κ σ H):R C (.code (.region id ops true)::k) σ H:=
 ro fun _ _ s g=>zL rfl hm aa hs h s g
def ED(P:Program)(ol:List Oper)(o:Oper)(σ:St):Option (Prop×St):=
 match aG ol σ o with
 |some false=>some (True,σ.put o.dst (.v undef))
 |some true=>match pv P σ.bx (ev σ) o.op with
  |some (φ,sv)=>some (φ,σ.put o.dst sv)
  |none=>match o.dst,m8 P (ev σ) o.op with
   |some d,some (T,cs)=>some (True,σ.newBox d T cs)
   |_,_=>match qW P σ.bx (ev σ) o.op with
    |some (x,off,cs)=>some (True,(σ.store x off cs).put o.dst .u)
    |none=>none
 |none=>none
theorem Ax{P:Program}{ol:List Oper}{o:Oper}{σ':St}{φ:Prop}{K:St->PH->Prop}(h:ED P ol o σ=some (φ,σ'))(hφ:φ)(hk:K σ' H):yJ P ol o K σ H:=by
 unfold ED at h;split at h
 ·rename_i hw;cases h;exact .inl ⟨hw,hk⟩
 ·rename_i hw;refine .inr ⟨hw,?_⟩;split at h
  ·rename_i φ' sv hp;cases h;exact .inl ⟨sv,.inl ⟨φ,hp,hφ⟩,hk⟩
  ·split at h
   ·rename_i d T cs hd ha;cases h;exact .inr (.inl ⟨d,T,cs,hd,ha,hk⟩)
   ·split at h
    ·rename_i x off cs hs;cases h;exact .inr (.inr (.inl ⟨x,off,cs,hs,hk⟩))
    ·cases h
 ·cases h
def un(P:Program):Nat->Cf->St->List Prop->List Prop×Cf×St
 |0,c,σ,ps=>(ps,c,σ)
 |n+1,c,σ,ps=>
  match c with
  | .op _ [] k=>un P n (.st k) σ ps
  | .op ol (o::rem) k=>match ED P ol o σ with
   |some (φ,σ')=>un P n (.op ol rem k) σ' (φ::ps)
   |none=>(ps,.op ol (o::rem) k,σ)
  | .st (.code (.region _ ops false)::k)=>un P n (.op ops.toList ops.toList k) σ ps
  | .st (.code (.seq a b)::k)=>un P n (.st (.code a::.code b::k)) σ ps
  | .st (.code .skip::k)=>un P n (.st k) σ ps
  | .st (.code (.label _)::k)=>un P n (.st k) σ ps
  | .st (.inBlock _::k)=>un P n (.st k) σ ps
  | .st (.code (.block id b)::k)=>un P n (.st (.code b::.inBlock id::k)) σ ps
  | .st (.code (.exit id)::k)=>match exitTo id k with
   |some k'=>un P n (.st k') σ ps
   |none=>(ps,.st (.code (.exit id)::k),σ)
  | .st (.code (.cond c t e)::k)=>match ev σ c with
   | .v (.bool true)=>un P n (.st (.code t::k)) σ ps
   | .v (.bool false)=>un P n (.st (.code e::k)) σ ps
   |_=>(ps,.st (.code (.cond c t e)::k),σ)
  |c=>(ps,c,σ)
def m7:List Prop->Prop
 | []=>True
 |p::l=>m7 l/\p
theorem d8:∀(n:Nat) (c:Cf) (σ:St) (ps:List Prop),m7 (un C.P n c σ ps).1->RC C (un C.P n c σ ps).2.1 (un C.P n c σ ps).2.2 H->m7 ps/\RC C c σ H
 |0,c,σ,ps,hp,h=>⟨hp,h⟩
 |n+1,c,σ,ps,hp,h=>by
  unfold un at hp h;split at hp<;>simp only at h
  ·obtain⟨a,b⟩:=d8 n _ _ _ hp h;exact⟨a,b⟩
  ·rename_i ol o rem k;cases ha:ED C.P ol o σ with
   |none=>rw[ha]at hp h;exact⟨hp,h⟩
   |some x=>
    obtain⟨φ,σ'⟩:=x;rw[ha]at hp h;obtain⟨⟨a,b⟩,c⟩:=d8 n _ _ _ hp h;exact⟨a,Ax ha b c⟩
  ·obtain⟨a,b⟩:=d8 n _ _ _ hp h;exact⟨a,EH b⟩
  ·obtain⟨a,b⟩:=d8 n _ _ _ hp h;exact⟨a,NA b⟩
  ·obtain⟨a,b⟩:=d8 n _ _ _ hp h;exact⟨a,Mx b⟩
  ·obtain⟨a,b⟩:=d8 n _ _ _ hp h;exact⟨a,IU b⟩
  ·obtain⟨a,b⟩:=d8 n _ _ _ hp h;exact⟨a,CZ b⟩
  ·obtain⟨a,b⟩:=d8 n _ _ _ hp h;exact⟨a,HV b⟩
  ·rename_i id k;cases he:exitTo id k with
   |none=>rw[he]at hp h;exact⟨hp,h⟩
   |some k'=>
    rw[he]at hp h;obtain⟨a,b⟩:=d8 n _ _ _ hp h;exact⟨a,Lb he b⟩
  ·rename_i cc t e k;split at hp
   ·rename_i hc;rw[hc]at h;obtain⟨a,b⟩:=d8 n _ _ _ hp h;exact⟨a,GJ hc b⟩
   ·rename_i hc;rw[hc]at h;obtain⟨a,b⟩:=d8 n _ _ _ hp h;exact⟨a,GJ hc b⟩
   ·rename_i h1 h2;have:∀{α:Type} (x y z:α),(match ev σ cc with | .v (.bool true)=>x | .v (.bool false)=>y|_=>z)=z:=by
     intro α x y z;split
     ·rename_i hc;exact absurd hc (by simpa using h1)
     ·rename_i hc;exact absurd hc (by simpa using h2)
     ·rfl
    refine⟨hp,?_⟩;split at h
    ·rename_i hc;exact absurd hc (by simpa using h1)
    ·rename_i hc;exact absurd hc (by simpa using h2)
    ·exact h
  ·exact⟨hp,h⟩
theorem EA(n:Nat){c:Cf}(h:m7 (un C.P n c σ []).1/\RC C (un C.P n c σ []).2.1 (un C.P n c σ []).2.2 H):RC C c σ H:=(d8 n c σ [] h.1 h.2).2
def bE(C:Cx)(H:PH)(r:List Prop×Cf×St):Prop:=m7 r.1/\RC C r.2.1 r.2.2 H
theorem LA(C:Cx)(H:PH)(ps:List Prop)(c:Cf)(σ:St):bE C H (ps,c,σ)=(m7 ps/\RC C c σ H):=rfl
theorem bq(n:Nat){c:Cf}(h:bE C H (un C.P n c σ [])):RC C c σ H:=EA n h
theorem RG{c:Cf}(h:bE C H (un C.P 500 c σ [])):RC C c σ H:=EA 500 h
theorem f9{ol rem:List Oper}{o:Oper}(hw:aG ol σ o=some true)(hk:aR σ o.op=true)
  (h:co C.P (execOp (bp σ) o) H fun sv H2=>RC C (.op ol rem k) (σ.put o.dst sv) H2):RC C (.op ol (o::rem) k) σ H:=
 .inr ⟨hw,.inr (.inr (.inr ⟨hk,h⟩))⟩
theorem rI{ol rem:List Oper}{o:Oper}(v:Value)(hw:aG ol σ o=some true)(hk:aR σ o.op=true)
  (hv:∀w,Sub H w->(execOp (bp σ) o).run C.P w=.ok (.value v) w) (h:RC C (.op ol rem k) (σ.put o.dst (.v v)) H):RC C (.op ol (o::rem) k) σ H:=
 .inr ⟨hw,.inl ⟨_,.inr ⟨v,rfl,hk,hv⟩,h⟩⟩
end
open Go
def qB(args:List Value)(n:Nat):List SV:=args.map .v++List.replicate (n-args.length) (.v undef)
theorem bK{P:Program}{f:FuncId}{fn:Func}{c:Code}{args:Array Value}{H:PH}{Φ:Value->PH->Prop}(hf:P.funcs[f]?=some fn)(hb:fn.body=some c)(aj:args.toList.length<=fn.ntmps)
  (h:∀w0,RC ⟨P,f,fn,hf,H,w0,Φ⟩ (.st [.code c]) ⟨qB args.toList fn.ntmps,[]⟩ H):bv P f args H Φ:=by
 intro w s cs;have hg:G w.heap.size ⟨qB args.toList fn.ntmps,[]⟩ H { tmps:=args++Array.replicate (fn.ntmps-args.size) undef,defers:=[] } w:=by
  refine⟨fun _=>0,rfl,?_,?_,fun _ h=>(SW h).elim,fun _ h=>(SW h).elim,fun _ h=>(SW h).elim,List.Pairwise.nil⟩
  ·simp[qB]
  ·intro t sv ht;simp only[qB]at ht;rw[Sa];by_cases ac:t<args.size
   ·rw[S1 (by simpa using ac)]at ht;simp[ac]at ht;subst ht;simp[Array.getElem?_append,ac,b9]
   ·rw[S2 (by simpa using ac),List.getElem?_replicate]at ht;split at ht
    ·rename_i hr;cases ht
     simp only[b9,Array.getElem?_append,Sb ac,Array.getElem?_replicate];split<;>rfl
    ·cases ht
 obtain⟨e,w',fr,h1,h2,h3,h4⟩:=h w w _ cs (cS.refl s) hg;have aa:Frame.enter P f args .normal=(lO f).at { tmps:=args++Array.replicate (fn.ntmps-args.size) undef,defers:=[] } [.code c]:=by
  simp[Frame.enter,Frame.at,hf,hb,lO]
 refine⟨e,w',fr,?_,by rw[aa];exact h2,h3,h4⟩;unfold Kk at h1;cases e with
 |returned v=>exact h1
 |_=>exact h1.elim
def tW(P:Program)(σ:St):List ResultVar->Option (List Value)
 | []=>some []
 | .tmp t::l=>match lV σ.tm t,tW P σ l with
  | .v x,some r=>some (x::r)
  |_,_=>none
 | .cell t T::l=>match lV σ.tm t,tW P σ l with
  | .p k off,some r=>match dq σ.bx k with
   |some B=>match eD P T B.cs off with
    |some x=>some (x::r)
    |none=>none
   |none=>none
  |_,_=>none
def eN:List Value->Value
 | [v]=>v
 |l=>.tuple l.toArray
def MN(tmps:Array Value):ResultVar->Sem Value
 | .tmp t=>pure (tmps.getD t undef)
 | .cell a t=>do loadVar t (<-asAddr (tmps.getD a undef))
theorem nQ{P:Program}{n0:Nat}{β:Nat->Nat}{σ:St}{H:PH}{a:Act}{w:World}(g:GB n0 β σ H a w):∀(l:List ResultVar) (r:List Value),tW P σ l=some r->
  (l.mapM (MN a.tmps)).run P w=.ok r w
 | [],r,h=>by cases h;simp
 | .tmp t::l,r,h=>by
  simp only[tW]at h;split at h
  ·rename_i x r' hx hr;cases h
   have h1:=g.ev (.tmp t);simp only[ev,hx,b9,Act.eval]at h1;have h2:(MN a.tmps (.tmp t)).run P w=.ok x w:=by simp only[MN,h1];simp
   simp only[List.mapM_cons,Se,h2,Result.andThen,nQ g l _ hr];simp
  ·cases h
 | .cell t T::l,r,h=>by
  simp only[tW]at h;split at h
  ·rename_i k off r' hx hr;split at h
   ·rename_i B hB;split at h
    ·rename_i x hv;cases h
     obtain⟨hm,rfl⟩:=mP hB;have h1:=g.ev (.tmp t);simp only[ev,hx,b9,Act.eval]at h1;have:=lR (P:=P) (w:=w) (off:=off) (g.bx B hm).1 hv;have h2:(MN a.tmps (.cell t T)).run P w=.ok x w:=by simp only[MN,h1,Se];simp[Result.andThen,asAddr,this]
     simp only[List.mapM_cons,Se,h2,Result.andThen,nQ g l _ hr];simp
    ·cases h
   ·cases h
  ·cases h
theorem np{P:Program}{n0:Nat}{β:Nat->Nat}{σ:St}{H:PH}{a:Act}{w:World}(g:GB n0 β σ H a w){fn:Func}{r:List Value}(h:tW P σ fn.results.toList=some r):
  (results fn a.tmps).run P w=.ok (eN r) w:=by
 have h1:=nQ g _ _ h;show (do let vs <-fn.results.mapM (MN a.tmps);pure (if h:vs.size=1 then vs[0]else .tuple vs):Sem Value).run P w=_;rw[Array.mapM_eq_mapM_toList];simp only[Se,Sem.run_map];rw[h1];simp only[Result.andThen]
 match r with
 | []=>simp[eN]
 | [v]=>simp[eN]
 |a::b::l=>simp[eN]
section
variable {C:Cx} {k:List Item} {σ:St} {H:PH}
theorem aK{r:List Value}(h:tW C.P σ C.fn.results.toList=some r)(hp:C.post (eN r) H):R C (.code .ret::k) σ H:=by
 rintro w a cs s ⟨β,g⟩;exact⟨.returned (eN r),w,{ (lO C.f).at a (.code .ret::k)with mode:=.returning },⟨H,s,hp⟩,Steps.one step_ret,rfl,rfl,g.defers,rfl,C.fn,C.hf,np g h⟩
theorem NM{r:List Value}(h:tW C.P σ C.fn.results.toList=some r)(hp:C.post (eN r) H):R C [] σ H:=by
 rintro w a cs s ⟨β,g⟩;exact⟨.returned (eN r),w,{ (lO C.f).at a []with mode:=.returning },⟨H,s,hp⟩,Steps.one step_end,rfl,rfl,g.defers,rfl,C.fn,C.hf,np g h⟩
def sp:Nat->Nat->List (Nat×SV)->List SV
 |_,0,_=>[]
 |i,n+1,[]=>.u::sp (i+1) n []
 |i,n+1,(j,x)::l=>if j=i then x::sp (i+1) n l else .u::sp (i+1) n ((j,x)::l)
def nh:List SV->List SV->Prop
 | [],[]=>True
 | .u::l,_::m=>nh l m
 |x::l,y::m=>x=y/\nh l m
 |_,_=>False
def od:List gF->List gF->Prop
 | [],_=>True
 |_::_,[]=>False
 |b::l,c::m=>if b.key=c.key then b=c/\od l m else od (b::l) m
theorem om:∀{l m:List SV},nh l m->l.length=m.length/\∀(t:Nat) (sv:SV),l[t]?=some sv->sv=.u\/m[t]?=some sv
 | [],[],_=>⟨rfl,fun t sv h=>by simp at h⟩
 | .u::l,y::m,h=>by
  obtain⟨a,b⟩:=om (l:=l) (m:=m) h;refine⟨by simp[a],fun t sv ht=>?_⟩;cases t with
  |zero=>simp at ht;exact .inl ht.symm
  |succ t=>simpa using b t sv (by simpa using ht)
 | .v x::l,y::m,h=>by
  obtain⟨e,h⟩:=h;obtain⟨a,b⟩:=om (l:=l) (m:=m) h;refine⟨by simp[a],fun t sv ht=>?_⟩;cases t with
  |zero=>right;simp at ht |-;rw[<-e];exact ht
  |succ t=>simpa using b t sv (by simpa using ht)
 | .p x z::l,y::m,h=>by
  obtain⟨e,h⟩:=h;obtain⟨a,b⟩:=om (l:=l) (m:=m) h;refine⟨by simp[a],fun t sv ht=>?_⟩;cases t with
  |zero=>right;simp at ht |-;rw[<-e];exact ht
  |succ t=>simpa using b t sv (by simpa using ht)
 | [],_::_,h=>h.elim
 | .u::_,[],h=>h.elim
 | .v _::_,[],h=>h.elim
 | .p _ _::_,[],h=>h.elim
theorem th:∀{l m:List gF},od l m->l.Sublist m
 | [],m,_=>List.nil_sublist m
 |b::l,[],h=>h.elim
 |b::l,c::m,h=>by
  simp only[od]at h;split at h
  ·obtain⟨rfl,h⟩:=h;exact(th h).cons_cons _
  ·exact(th h).cons _
theorem BS{σ':St}(ht:nh σ'.tm σ.tm)(hb:od σ'.bx σ.bx)(h:R C k σ' H):R C k σ H:=by
 rintro w a cs s ⟨β,g⟩;obtain⟨h1,h2⟩:=om ht;have h3:=th hb;refine h w a cs s ⟨β,g.defers,by rw[g.size,h1],fun t sv aa=>?_,fun B hB=>g.bx B (h3.subset hB),fun B hB B' ac=>g.inj B (h3.subset hB) B' (h3.subset ac),fun B hB=>g.lo B (h3.subset hB),g.keys.sublist h3⟩;rcases h2 t sv aa with rfl|h
 ·trivial
 ·exact g.tm t sv h
def kE(key b:Nat):SV->SV
 | .p x off=>if x=key then .v (.pointer (some ⟨b,off,none⟩))else .p x off
 |y=>y
theorem NC(key:Nat){B:gF}(hB:dq σ.bx key=some B)(h:∀b,H b=none->R C k ⟨σ.tm.map (kE key b),cU σ.bx key⟩ (H.put b (.cells B.cs.toArray B.ty (0,0)))):R C k σ H:=by
 rintro w a cs s ⟨β,g⟩;obtain⟨hm,hk⟩:=mP hB;obtain⟨hb,hn⟩:=g.bx B hm;rw[hk]at hb hn;have ac:=g.lo B hm;rw[hk]at ac;refine h (β key) hn w a cs ⟨fun c o hc=>?_,s.size,fun c hc aa=>s.priv c hc aa,fun c hc aa=>?_,s.os,s.tape,s.out⟩ ⟨β,g.defers,by simp[g.size],fun t sv ht=>?_,fun B' aj=>?_,fun B1 h1 B2 h2=>?_,fun B1 h1=>g.lo B1 (fY h1).1,l6 g.keys⟩
 ·by_cases e:c=β key
  ·subst e;simp only[PH.put,R9]at hc;cases hc;exact hb
  ·simp only[PH.put,Sb e]at hc;exact s.sub c o hc
 ·have:c≠β key:=by omega
  simp only[PH.put,Sb this];exact s.dom c hc aa
 ·simp only[SA,Sn]at ht;obtain⟨x,hx,rfl⟩:=ht;have:=g.tm t x hx;cases x with
  |v y=>exact this
  |u=>trivial
  |p y off=>
   simp only[kE];split
   ·rename_i e;subst e;exact this
   ·exact this
 ·obtain⟨h1,h2⟩:=fY aj;obtain⟨h3,h4⟩:=g.bx B' h1;refine⟨h3,?_⟩;have:β B'.key≠β key:=fun e=>h2 (by rw[<-hk];exact g.inj B' h1 B hm (by rw[hk];exact e));simp only[PH.put,Sb this];exact h4
 ·exact g.inj B1 (fY h1).1 B2 (fY h2).1
end
open Go
def DW:List Oper->Nat->Oper
 | [],_=>default
 |o::_,0=>o
 |_::l,n+1=>DW l n
def pick(ol:List Oper)(κ:List Nat):List (Nat×Oper):=κ.map fun i=>(i,DW ol i)
def MP(P:Program)(ol:List Oper)(fr:gW)(str:gR)(K:St->PH->Prop):List (Nat×Oper)->St->PH->Prop
 | [],σ,H=>K σ H
 |(i,o)::l,σ,H=>fJ P ol (fr.at' i) (str.at' i) o (MP P ol fr str K l) σ H
def RD(C:Cx)(ol:List Oper)(fr:gW)(str:gR)(l:List (Nat×Oper))(k:List Item)(σ:St)(H:PH):Prop:=MP C.P ol fr str (R C k) l σ H
theorem Iy{ol:List Oper}{i:Nat}(h:i<ol.length):ol[i]?=some (DW ol i):=by
 induction ol generalizing i with
 |nil=>simp at h
 |cons o l ih=>cases i with
  |zero=>simp[DW]
  |succ i=>simpa[DW]using ih (by simpa using h)
def wR:List gF->Bool
 | []=>true
 |b::l=>l.all (fun c=>decide (b.key<c.key)) && wR l
theorem Aa{l:List gF}(h:wR l=true):m6 l:=by
 induction l with
 |nil=>exact List.Pairwise.nil
 |cons b l ih=>
  simp only[wR,SG]at h;exact List.pairwise_cons.2 ⟨fun y hy=>by simpa using List.all_eq_true.1 h.1 y hy,ih h.2⟩
theorem rS{P:Program}{ol:List Oper}{f:uK}{s:Eu}{o:Oper}{K K':St->PH->Prop}{σ:St}{H:PH}(k:∀σ' H',K σ' H'->K' σ' H')(h:fJ P ol f s o K σ H):fJ P ol f s o K' σ H:=by
 rcases h with ⟨hw,h⟩|⟨hw,h⟩
 ·exact .inl ⟨hw,k _ _ h⟩
 ·refine .inr ⟨hw,?_⟩;cases hc:nr o.op<;>rw[hc]at h<;>simp only at h |-
  ·obtain⟨sv,hv,hk⟩:=h;exact⟨sv,hv,k _ _ hk⟩
  ·obtain⟨d,T,cs,hd,ha,hk⟩:=h;exact⟨d,T,cs,hd,ha,k _ _ hk⟩
  ·rcases h with ⟨x,off,cs,ha,hm,hk⟩|⟨hn,hk,aa⟩
   ·exact .inl ⟨x,off,cs,ha,hm,k _ _ hk⟩
   ·exact .inr ⟨hn,hk,aa.mono fun sv H2 hh=>k _ _ hh⟩
  ·exact⟨h.1,h.2.mono fun sv H2 hh=>⟨hh.1,k _ _ hh.2⟩⟩
  ·exact fun b hb=>k _ _ (h b hb)
theorem qF{P:Program}{ol:List Oper}{fr:gW}{str:gR}{K:St->PH->Prop}:∀(κ:List Nat) {σ:St} {H:PH},(∀i∈κ,i<ol.length)->MP P ol fr str K (pick ol κ) σ H->VD P ol fr str K κ σ H
 | [],σ,H,_,h=>h
 |i::κ,σ,H,hl,h=>by
  simp only[VD,Iy (hl i (.head _))];exact rS (fun σ' H' h'=>qF κ (fun j hj=>hl j (.tail _ hj)) h') h
section
variable {C:Cx} {k:List Item} {σ:St} {H:PH}
theorem tM{id:Nat}{ops:Array Oper}(hm:C.P.follows .mixedOrders=true)(κ:List Nat)(fr:gW)(str:gR)(aa:KA ops.toList κ fr str=true)(hs:wR σ.bx=true)
  (h:RD C ops.toList fr str (pick ops.toList κ) k σ H):RC C (.st (.code (.region id ops true)::k)) σ H:=by
 refine Ma hm κ fr str aa (Aa hs) (qF κ ?_ h);simp only[KA,SG]at aa;have h3:=aa.2;intro i hi
 suffices hh:∀(l:List Nat),bU ops.toList (gJ ops.toList) fr str l=true->∀i∈l,i<ops.toList.length from hh κ h3 i hi
 intro l
 induction l with
 |nil=>intro _ i hi;cases hi
 |cons x l ih=>
  intro hp i hi;simp only[bU,SG,SX]at hp;rcases List.mem_cons.1 hi with rfl|hi
  ·exact hp.1.1.1
  ·exact ih hp.2 i hi
theorem ax{id:Nat}{ops:Array Oper}(hm:C.P.follows .mixedOrders=true)(κ fr str:List Nat)(aa:KA ops.toList κ ⟨fr,[],PH.emp,[],[]⟩ ⟨str,[],[]⟩=true)(hs:wR σ.bx=true)
  (h:RD C ops.toList ⟨fr,[],PH.emp,[],[]⟩ ⟨str,[],[]⟩ (pick ops.toList κ) k σ H):RC C (.st (.code (.region id ops true)::k)) σ H:=tM hm κ _ _ aa hs h
theorem go{id:Nat}{ops:Array Oper}(hm:C.P.follows .mixedOrders=true)(κ fr str fj sj:List Nat)(J:PH)(aa:KA ops.toList κ ⟨fr,fj,J,[],[]⟩ ⟨str,sj,[]⟩=true)(hs:wR σ.bx=true)
  (h:RD C ops.toList ⟨fr,fj,J,[],[]⟩ ⟨str,sj,[]⟩ (pick ops.toList κ) k σ H):RC C (.st (.code (.region id ops true)::k)) σ H:=tM hm κ _ _ aa hs h
theorem mf{id:Nat}{ops:Array Oper}(hm:C.P.follows .mixedOrders=true)(κ fr str fk sk kp:List Nat)(aa:KA ops.toList κ ⟨fr,[],PH.emp,fk,kp⟩ ⟨str,[],sk⟩=true)(hs:wR σ.bx=true)
  (h:RD C ops.toList ⟨fr,[],PH.emp,fk,kp⟩ ⟨str,[],sk⟩ (pick ops.toList κ) k σ H):RC C (.st (.code (.region id ops true)::k)) σ H:=tM hm κ _ _ aa hs h
def jB(fr:gW)(str:gR)(i:Nat)(H H2:PH):Prop:=(str.h.contains i=true->H.le H2)/\(str.j.contains i=true->fr.J.le H->fr.J.le H2)
theorem jB.le{fr:gW}{str:gR}{i:Nat}{H H2:PH}(h:H.le H2):jB fr str i H H2:=⟨fun _=>h,fun _ hj=>Ui hj h⟩
theorem jB.non{fr:gW}{str:gR}{i:Nat}{H H2:PH}(h:str.h.contains i=false)(h2:str.j.contains i=false):jB fr str i H H2:=⟨fun e=>Bool.noConfusion (h.symm.trans e),fun e=>Bool.noConfusion (h2.symm.trans e)⟩
theorem Mg{P:Program}{bx:List gF}{ρ:Operand->SV}{op:Op}{x:Prop×SV}(h:pv P bx ρ op=some x):nr op=.val:=by
 cases op<;>first|rfl|cases h|skip
 rename_i c;obtain⟨callee,args,types⟩:=c;cases callee with
 |builtin b=>cases b<;>first|rfl|(simp[pv,lu]at h)
 |value f=>simp[pv,lu]at h
 |invoke r m=>simp[pv,lu]at h
theorem EP{P:Program}{ρ:Operand->SV}{op:Op}{x:TypeId×List Value}(h:m8 P ρ op=some x):nr op=.alc:=by
 cases op<;>first|rfl|cases h
theorem EI{P:Program}{bx:List gF}{ρ:Operand->SV}{op:Op}{x:Nat×Nat×List Value}(h:qW P bx ρ op=some x):nr op=.st:=by
 cases op<;>first|rfl|cases h
def vI(P:Program)(ol:List Oper)(fk sk:Bool)(kp:List Nat)(o:Oper)(σ:St):Option (Prop×St):=
 match aG ol σ o with
 |some false=>some (True,σ.put o.dst (.v undef))
 |some true=>match pv P (kb fk kp σ.bx) (ev σ) o.op with
  |some (φ,sv)=>some (φ,σ.put o.dst sv)
  |none=>match o.dst,m8 P (ev σ) o.op with
   |some d,some (T,cs)=>some (True,σ.newBox d T cs)
   |_,_=>match qW P σ.bx (ev σ) o.op with
    |some (x,off,cs)=>if sk && iR kp x then none else some (True,(σ.store x off cs).put o.dst .u)
    |none=>none
 |none=>none
theorem qu{P:Program}{ol:List Oper}{o:Oper}{σ':St}{φ:Prop}{K:St->PH->Prop}{f:uK}{s:Eu}(h:vI P ol f.k s.k f.kp o σ=some (φ,σ'))(hφ:φ)(hk:K σ' H):fJ P ol f s o K σ H:=by
 unfold vI at h;split at h
 ·rename_i hw;cases h;exact .inl ⟨hw,hk⟩
 ·rename_i hw;refine .inr ⟨hw,?_⟩;split at h
  ·rename_i φ' sv hp;cases h;rw[Mg hp];exact⟨sv,.inl ⟨φ,hp,hφ⟩,hk⟩
  ·split at h
   ·rename_i d T cs hd ha;cases h;rw[EP ha];exact⟨d,T,cs,hd,ha,hk⟩
   ·split at h
    ·rename_i x off cs hs;split at h
     ·cases h
     ·rename_i hc;cases h;rw[EI hs]
      refine .inl ⟨x,off,cs,hs,fun e=>?_,hk⟩;rw[e]at hc;simpa using hc
    ·cases h
 ·cases h
def oh(P:Program)(ol:List Oper)(fk sk kp:List Nat):List (Nat×Oper)->St->List Prop->List Prop×List (Nat×Oper)×St
 | [],σ,ps=>(ps,[],σ)
 |(i,o)::l,σ,ps=>match vI P ol (iR fk i) (iR sk i) kp o σ with
  |some (φ,σ')=>oh P ol fk sk kp l σ' (φ::ps)
  |none=>(ps,(i,o)::l,σ)
theorem tE{ol:List Oper}{fr:gW}{str:gR}:∀(l:List (Nat×Oper)) (σ:St) (ps:List Prop),m7 (oh C.P ol fr.k str.k fr.kp l σ ps).1->RD C ol fr str (oh C.P ol fr.k str.k fr.kp l σ ps).2.1 k (oh C.P ol fr.k str.k fr.kp l σ ps).2.2 H->m7 ps/\RD C ol fr str l k σ H
 | [],σ,ps,hp,h=>⟨hp,h⟩
 |(i,o)::l,σ,ps,hp,h=>by
  unfold oh at hp h;cases ha:vI C.P ol (iR fr.k i) (iR str.k i) fr.kp o σ with
  |none=>rw[ha]at hp h;exact⟨hp,h⟩
  |some x=>
   obtain⟨φ,σ'⟩:=x;rw[ha]at hp h;obtain⟨⟨a,b⟩,c⟩:=tE l _ _ hp h;exact⟨a,qu (f:=fr.at' i) (s:=str.at' i) ha b c⟩
theorem Ld{ol:List Oper}{fr:gW}{str:gR}{l:List (Nat×Oper)}(h:m7 (oh C.P ol fr.k str.k fr.kp l σ []).1/\RD C ol fr str (oh C.P ol fr.k str.k fr.kp l σ []).2.1 k (oh C.P ol fr.k str.k fr.kp l σ []).2.2 H):RD C ol fr str l k σ H:=(tE l σ [] h.1 h.2).2
def O3(C:Cx)(ol:List Oper)(fr:gW)(str:gR)(k:List Item)(H:PH)(r:List Prop×List (Nat×Oper)×St):Prop:=m7 r.1/\RD C ol fr str r.2.1 k r.2.2 H
theorem Ip(C:Cx)(ol:List Oper)(fr:gW)(str:gR)(k:List Item)(H:PH)(ps:List Prop)(l:List (Nat×Oper))(σ:St):O3 C ol fr str k H (ps,l,σ)=(m7 ps/\RD C ol fr str l k σ H):=rfl
theorem af{ol:List Oper}{fr:gW}{str:gR}{l:List (Nat×Oper)}(h:O3 C ol fr str k H (oh C.P ol fr.k str.k fr.kp l σ [])):RD C ol fr str l k σ H:=Ld h
theorem aw{ol:List Oper}{fr:gW}{str:gR}(h:RC C (.st k) σ H):RD C ol fr str [] k σ H:=h
theorem pX{ol:List Oper}{fr:gW}{str:gR}{i:Nat}{o:Oper}{l:List (Nat×Oper)}(hw:aG ol σ o=some true)(hk:aR σ o.op=true)(hc:nr o.op=.gen)
  (h:co C.P (execOp (bp σ) o) H fun sv H2=>jB fr str i H H2/\RD C ol fr str l k (σ.put o.dst sv) H2):RD C ol fr str ((i,o)::l) k σ H:=
 .inr ⟨hw,by rw[hc];exact⟨hk,h⟩⟩
theorem FC{ol:List Oper}{fr:gW}{str:gR}{i:Nat}{o:Oper}{l:List (Nat×Oper)}(hs:iR str.k i=false)(hw:aG ol σ o=some true)(hk:aR σ o.op=true)(hc:nr o.op=.st)
  (h:co C.P (execOp (bp σ) o) H fun sv H2=>RD C ol fr str l k (σ.put o.dst sv) H2):RD C ol fr str ((i,o)::l) k σ H:=
 .inr ⟨hw,by rw[hc];exact .inr ⟨hs,hk,h⟩⟩
theorem rE{ol:List Oper}{fr:gW}{str:gR}{i:Nat}{o:Oper}{l:List (Nat×Oper)}(v:Value)(hf:fr.h.contains i=true)(hw:aG ol σ o=some true)(hk:aR σ o.op=true)(hc:nr o.op=.val)
  (hv:∀w,Sub H w->(execOp (bp σ) o).run C.P w=.ok (.value v) w) (h:RD C ol fr str l k (σ.put o.dst (.v v)) H):RD C ol fr str ((i,o)::l) k σ H:=
 .inr ⟨hw,by rw[hc];exact⟨_,.inr (.inl ⟨hf,v,rfl,hk,hv⟩),h⟩⟩
theorem Hb{ol:List Oper}{fr:gW}{str:gR}{i:Nat}{o:Oper}{l:List (Nat×Oper)}(v:Value)(hf:fr.j.contains i=true)(hJ:fr.J.le H)(hw:aG ol σ o=some true)(hk:aR σ o.op=true)(hc:nr o.op=.val)
  (hv:∀w,Sub fr.J w->(execOp (bp σ) o).run C.P w=.ok (.value v) w) (h:RD C ol fr str l k (σ.put o.dst (.v v)) H):RD C ol fr str ((i,o)::l) k σ H:=
 .inr ⟨hw,by rw[hc];exact⟨_,.inr (.inr ⟨hf,hJ,v,rfl,hk,hv⟩),h⟩⟩
theorem xI {P:Program} {f:FuncId} {fn:Func} (hf:P.funcs[f]?=some fn) (hb:fn.body.isNone=false) (hn:(fn.name == "runtime.NumGoroutine")=false) (args:Array Value) (w:World) :
  (callFunc f args).run P w=.ok (.enter f args) w:=by
 simp only[callFunc,Se,program,Sem.run,Result.andThen,hf,hn,hb];simp
def aP (P:Program) (f:FuncId):Prop:=∃fn,P.funcs[f]?=some fn/\fn.body.isNone=false/\(fn.name == "runtime.NumGoroutine")=false
theorem uH{P:Program}{o:Oper}{x:Operand}{aq:Array Operand}{ts:Array TypeId}{f:FuncId}{vs:List Value}{first cap:Array Value}{Φ:Value->PH->Prop}(ak:o.op=.call ⟨.value x,aq,ts⟩)
  (hx:ev σ x=.v (.func (.func f) first cap)) (ha:ji (ev σ) aq.toList=some vs) (hg:aP P f) (h:bv P f (first++vs.toArray++cap) H Φ) :
  aR σ o.op=true/\co P (execOp (bp σ) o) H fun sv H2=>∃v,sv=.v v/\Φ v H2:=by
 have aj:∀(l:List Operand) (r:List Value),ji (ev σ) l=some r->l.map (bp σ)=r/\∀y∈l,qy (ev σ y)=true:=by
  intro l
  induction l with
  |nil=>intro r h;cases h;exact⟨rfl,fun y hy=>(SW hy).elim⟩
  |cons y l ih=>
   intro r h;simp only[ji]at h;split at h
   ·rename_i v r' hv hr;cases h
    obtain⟨h1,h2⟩:=ih _ hr;refine⟨by simp[bp,hv,h1],fun z hz=>?_⟩;rcases List.mem_cons.1 hz with rfl|hz
    ·rw[hv];rfl
    ·exact h2 z hz
   ·cases h
 obtain⟨h1,h2⟩:=aj _ _ ha;obtain⟨fn,hf,hb,hn⟩:=hg;constructor
 ·simp only[aR,ak,eL,Op.operands,Call.operands,Bool.true_and,SH];intro y hy;simp at hy;rcases hy with rfl|hy
  ·rw[hx];rfl
  ·exact h2 y (by simpa using hy)
 ·intro w hw;have aa:aq.map (bp σ)=vs.toArray:=by rw[<-Sq];simpa using h1
  have am:bp σ x=.func (.func f) first cap:=by simp[bp,hx]
  have ac:(execOp (bp σ) o).run P w=.ok (.enter f (first++vs.toArray++cap)) w:=by
   simp only[execOp,ak,resolve,aa,am,Deferred.ofValue,Se];simp[Result.andThen,invoke,xI hf hb hn]
  rw[ac];exact(h w hw).mono fun e w2 he=>by
   cases e with
   |returned v=>obtain⟨H2,a,b⟩:=he;exact⟨H2,a,v,rfl,b⟩
   |outgrown=>exact he
   |panicked c=>exact he
theorem aD{ol rem:List Oper}{o:Oper}{x:Operand}{aq:Array Operand}{ts:Array TypeId}{f:FuncId}{vs:List Value}{first cap:Array Value}{Φ:Value->PH->Prop}(hw:aG ol σ o=some true)(aa:o.op=.call ⟨.value x,aq,ts⟩)
  (hx:ev σ x=.v (.func (.func f) first cap)) (ha:ji (ev σ) aq.toList=some vs) (hg:aP C.P f) (h:bv C.P f (first++vs.toArray++cap) H Φ)
  (hk:∀v H2,Φ v H2->RC C (.op ol rem k) (σ.put o.dst (.v v)) H2):RC C (.op ol (o::rem) k) σ H:=by
 obtain⟨h1,h2⟩:=uH aa hx ha hg h;exact f9 hw h1 (h2.mono fun sv H2 ⟨v,e,p⟩=>by subst e;exact hk v H2 p)
theorem Pf{ol rem:List Oper}{o:Oper}{x:Operand}{aq:Array Operand}{ts:Array TypeId}{f:FuncId}{vs:List Value}{first cap:Array Value}{Φ:Value->PH->Prop}(hq:(aG ol σ o,o.op,ev σ x,ji (ev σ) aq.toList)=(some true,Op.call ⟨.value x,aq,ts⟩,SV.v (.func (.func f) first cap),some vs))(hg:aP C.P f)(h:bv C.P f (first++vs.toArray++cap) H Φ)
  (hk:∀v H2,Φ v H2->RC C (.op ol rem k) (σ.put o.dst (.v v)) H2):RC C (.op ol (o::rem) k) σ H:=by
 simp only[S3]at hq;exact aD hq.1 hq.2.1 hq.2.2.1 hq.2.2.2 hg h hk
theorem pi{ol:List Oper}{fr:gW}{str:gR}{i:Nat}{l:List (Nat×Oper)}{o:Oper}{x:Operand}{aq:Array Operand}{ts:Array TypeId}{f:FuncId}{vs:List Value}{first cap:Array Value}{Φ:Value->PH->Prop}(hw:aG ol σ o=some true)(aa:o.op=.call ⟨.value x,aq,ts⟩)
  (hx:ev σ x=.v (.func (.func f) first cap)) (ha:ji (ev σ) aq.toList=some vs) (hg:aP C.P f) (h:bv C.P f (first++vs.toArray++cap) H Φ)
  (hk:∀v H2,Φ v H2->jB fr str i H H2/\RD C ol fr str l k (σ.put o.dst (.v v)) H2):RD C ol fr str ((i,o)::l) k σ H:=by
 obtain⟨h1,h2⟩:=uH aa hx ha hg h;exact pX hw h1 (by rw[aa];rfl) (h2.mono fun sv H2 ⟨v,e,p⟩=>by subst e;exact hk v H2 p)
def aQ(H:PH)(b off:Nat)(l:List Value):Prop:=∃cs ty fz,H b=some (.cells cs ty fz)/\off+l.length<=cs.size/\(cs.toList.drop off).take l.length=l
theorem aQ.le{H H2:PH}{b off:Nat}{l:List Value}(h:aQ H b off l)(k:H.le H2):aQ H2 b off l:=by
 obtain⟨cs,ty,fz,a,b,c⟩:=h;exact⟨cs,ty,fz,k _ _ a,b,c⟩
theorem FX{P:Program}{T:TypeId}{b off:Nat}{l:List Value}{v:Value}(h:aQ H b off l)(hT:aV P T=some (some l.length)/\v=.agg l.toArray\/aV P T=some none/\l=[v])(w:World)(hw:Sub H w):
  (loadVar T ⟨b,off,none⟩).run P w=.ok v w:=by
 obtain⟨cs,ty,fz,h1,h2,h3⟩:=h;have hb:=hw b _ h1;have:cs=cs.toList.toArray:=by simp
 rw[this]at hb;refine lR hb ?_;unfold eD;rcases hT with ⟨ht,rfl⟩|⟨ht,rfl⟩
 ·rw[ht];simp only[Sk];rw[SI h2,h3]
 ·rw[ht];simp only[S4]at h2 h3;simp only;have aa:off<cs.toList.length:=by simp;omega
  have:cs.toList.drop off=cs.toList[off]::cs.toList.drop (off+1):=S5 aa;rw[this]at h3;simp at h3;rw[SC aa];simp[h3]
theorem mW{P:Program}{o:Oper}{T:TypeId}{x:Operand}{b off:Nat}{l:List Value}{v:Value}(aa:o.op=.load T x)(hx:ev σ x=.v (.pointer (some ⟨b,off,none⟩)))(h:aQ H b off l)
  (hT:aV P T=some (some l.length)/\v=.agg l.toArray\/aV P T=some none/\l=[v]):aR σ o.op=true/\∀w,Sub H w->(execOp (bp σ) o).run P w=.ok (.value v) w:=by
 constructor
 ·simp[aR,aa,eL,Op.operands,hx,qy]
 ·intro w hw;have:=FX h hT w hw;simp[execOp,aa,bp,hx,Instr.loadAt,Instr.sureAddr,this,Result.andThen]
theorem au{ol rem:List Oper}{o:Oper}{T:TypeId}{x:Operand}{b off:Nat}{l:List Value}{v:Value}(hw:aG ol σ o=some true)(aa:o.op=.load T x)(hx:ev σ x=.v (.pointer (some ⟨b,off,none⟩)))(h:aQ H b off l)
  (hT:aV C.P T=some (some l.length)/\v=.agg l.toArray\/aV C.P T=some none/\l=[v]) (hk:RC C (.op ol rem k) (σ.put o.dst (.v v)) H):RC C (.op ol (o::rem) k) σ H:=by
 obtain⟨h1,h2⟩:=mW (P:=C.P) aa hx h hT;exact rI v hw h1 h2 hk
theorem Qz{ol rem:List Oper}{o:Oper}{T:TypeId}{x:Operand}{b off:Nat}{l:List Value}{v:Value}(hq:(aG ol σ o,o.op,ev σ x)=(some true,Op.load T x,SV.v (.pointer (some ⟨b,off,none⟩))))(h:aQ H b off l)
  (hT:aV C.P T=some (some l.length)/\v=.agg l.toArray\/aV C.P T=some none/\l=[v]) (hk:RC C (.op ol rem k) (σ.put o.dst (.v v)) H):RC C (.op ol (o::rem) k) σ H:=by
 simp only[S3]at hq;exact au hq.1 hq.2.1 hq.2.2 h hT hk
theorem aq{ol:List Oper}{fr:gW}{str:gR}{i:Nat}{l':List (Nat×Oper)}{o:Oper}{T:TypeId}{x:Operand}{b off:Nat}{l:List Value}{v:Value}(hf:fr.h.contains i=true)(hw:aG ol σ o=some true)(aa:o.op=.load T x)(hx:ev σ x=.v (.pointer (some ⟨b,off,none⟩)))(h:aQ H b off l)
  (hT:aV C.P T=some (some l.length)/\v=.agg l.toArray\/aV C.P T=some none/\l=[v]) (hk:RD C ol fr str l' k (σ.put o.dst (.v v)) H):RD C ol fr str ((i,o)::l') k σ H:=by
 obtain⟨h1,h2⟩:=mW (P:=C.P) aa hx h hT;exact rE v hf hw h1 (by rw[aa];rfl) h2 hk
theorem P7{ol:List Oper}{fr:gW}{str:gR}{i:Nat}{l':List (Nat×Oper)}{o:Oper}{T:TypeId}{x:Operand}{b off:Nat}{l:List Value}{v:Value}(hq:(fr.h.contains i,aG ol σ o,o.op,ev σ x)=(true,some true,Op.load T x,SV.v (.pointer (some ⟨b,off,none⟩))))(h:aQ H b off l)
  (hT:aV C.P T=some (some l.length)/\v=.agg l.toArray\/aV C.P T=some none/\l=[v]) (hk:RD C ol fr str l' k (σ.put o.dst (.v v)) H):RD C ol fr str ((i,o)::l') k σ H:=by
 simp only[S3]at hq;exact aq hq.1 hq.2.1 hq.2.2.1 hq.2.2.2 h hT hk
theorem gm{ol:List Oper}{fr:gW}{str:gR}{i:Nat}{l':List (Nat×Oper)}{o:Oper}{T:TypeId}{x:Operand}{b off:Nat}{l:List Value}{v:Value}(hf:fr.j.contains i=true)(hJ:fr.J.le H)(hw:aG ol σ o=some true)(aa:o.op=.load T x)(hx:ev σ x=.v (.pointer (some ⟨b,off,none⟩)))(h:aQ fr.J b off l)
  (hT:aV C.P T=some (some l.length)/\v=.agg l.toArray\/aV C.P T=some none/\l=[v]) (hk:RD C ol fr str l' k (σ.put o.dst (.v v)) H):RD C ol fr str ((i,o)::l') k σ H:=by
 obtain⟨h1,h2⟩:=mW (P:=C.P) aa hx h hT;exact Hb v hf hJ hw h1 (by rw[aa];rfl) h2 hk
end
open Go
def iw(P:Program)(t e:TypeId)(size bytes:Nat):Prop:=
 ∃i z,P.underlying t=some (.slice e)/\P.info? e=some i/\i.zero=some z/\i.size=size/\i.bytes=bytes/\z.cells.size=size/\0<size
theorem iw.of{P:Program}{t e:TypeId}{size bytes:Nat}(h1:P.underlying t=some (.slice e))(h2:(P.info? e).map (fun i=>(i.zero.map (·.cells.size),i.size,i.bytes))=some (some size,size,bytes))(h3:0<size):iw P t e size bytes:=by
 cases hi:P.info? e with
 |none=>rw[hi]at h2;cases h2
 |some i=>
  rw[hi]at h2;simp only[So,Sc,S3]at h2;obtain⟨a,b,c⟩:=h2;cases hz:i.zero with
  |none=>rw[hz]at a;cases a
  |some z=>
   rw[hz]at a;simp only[So,Sc]at a;exact⟨i,z,h1,hi,hz,b,c,a,h3⟩
def f4 (H : PH) (e : TypeId) (size : Nat) (v : Value) (n : Nat) (xs : List Value) : Prop :=
  xs.length = n * size ∧
  ((v = .slice none 0 0 ∧ n = 0) ∨
   ∃ g cap cur, v = .slice (some ⟨g, 0, none⟩) n cap ∧ H g = some (.cells cur e (0, 0)) ∧ n ≤ cap ∧ cap ≤ maxLen ∧ cur.size = cap * size ∧ cur.toList.take (n * size) = xs)
theorem f4.nil(H:PH)(e:TypeId)(size:Nat):f4 H e size (.slice none 0 0) 0 []:=⟨by simp,.inl ⟨rfl,rfl⟩⟩
theorem f4.toRow{H:PH}{e:TypeId}{size:Nat}{v:Value}{n:Nat}{xs:List Value}(h:f4 H e size v n xs){w:World}(s:Sub H w):w.ownsRow 0 e size v n xs:=by
 obtain⟨h1,h2⟩:=h;refine⟨h1,?_⟩;rcases h2 with h2|⟨g,cap,cur,a,b,c,d,f,k⟩
 ·exact .inl h2
 ·exact .inr ⟨g,cap,cur,a,S6 _,s _ _ b,c,d,f,k⟩
def Ko(Nm:Option Nat)(H H2:PH):Prop:=∀b o,some b≠Nm->H b=some o->H2 b=some o
theorem Ko.refl(Nm:Option Nat)(H:PH):Ko Nm H H:=fun _ _ _ h=>h
theorem ql{P:Program}{t ty e:TypeId}{size bytes:Nat}(ht:iw P t e size bytes){H:PH}{v:Value}{n:Nat}{xs:List Value}(an:f4 H e size v n xs)
  {xb xo m c:Nat} {news:List Value} (hx:aQ H xb xo news) (hl:news.length=m*size) (h1:∀u∈news,one u=true) (hb:(n+m)*bytes<=140737488355328) (bc:n+m<=maxLen) (w:World) (s:Sub H w) :
  ∃v' w' H2,(Builtin.append_ #[t,t] ty #[v,.slice (some ⟨xb,xo,none⟩) m c]).run P w=.ok v' w'/\cS H w H2 w'/\f4 H2 e size v' (n+m) (xs++news)/\Ko v.ownBlock H H2/\
   (v'.ownBlock=v.ownBlock\/∀g,v'.ownBlock=some g->H g=none):=by
 obtain⟨i,z,a1,a2,a3,a4,a5,a6,a7⟩:=ht;obtain⟨cs,cty,cfz,c1,c2,c3⟩:=hx;have ap:∀j u,news[j]?=some u->w.cell? ((⟨xb,xo,none⟩:Addr).add j)=some u:=by
  intro j u hj;have a9:=s _ _ c1;rw[show cs=cs.toList.toArray from by simp]at a9;rw[eT,oW a9];rw[<-c3]at hj;rw[Sg]at hj;split at hj
  ·rw[Sh]at hj;exact hj
  ·cases hj
 obtain⟨v',w',ak,am,aa,_,aj⟩:=run_append_own_at w 0 t ty e i z size bytes a1 a2 a3 a4 a5 a6 a7 v n xs (an.toRow s) ⟨xb,xo,none⟩ m c news hl ap
  (fun u hu=>by have:=h1 u hu;cases u<;>first|rfl|cases this) bc hb (S6 _)
 have ownH:∀b,v.ownBlock=some b->H b≠none:=by
  intro b hb;rcases an.2 with ⟨rfl,_⟩|⟨g,cap,cur,rfl,hg,_⟩
  ·cases hb
  ·simp only[Value.ownBlock,Sc]at hb;subst hb;rw[hg];exact fun e=>by cases e
 have keep:∀b o,some b≠v.ownBlock->H b=some o->w'.heap[b]?=some o:=fun b o hb ho=>by
  rw[aa.block b (dt (s b o ho)) hb];exact s b o ho
 have ac:∀b,b<w.heap.size->H b=none->w'.heap[b]?=w.heap[b]?:=fun b hb hn=>aa.block b hb fun e=>ownH b e.symm hn;obtain⟨ao,aS⟩:=am;rcases aS with ⟨rfl,ba⟩|⟨g,cap,cur,rfl,_,hg,q1,q2,q3,q4⟩
 ·refine⟨_,w',fun b=>if some b=v.ownBlock then none else H b,ak,⟨fun b o h=>?_,aa.size,ac,fun b _ hn=>by simp[hn],aa.os,aa.tape,aa.output⟩,⟨ao,.inl ⟨rfl,ba⟩⟩,fun b o hb ho=>by simp[hb,ho],.inr fun g h=>by cases h⟩;split at h
  ·cases h
  ·exact keep b o (by assumption) h
 ·have bb:v.ownBlock=some g\/H g=none:=by
   rcases aj with h|h
   ·left;rw[<-h];rfl
   ·right
    simp only[Value.ownBlock,Sc]at h;subst h;cases hH:H w.heap.size with
    |none=>rfl
    |some o=>exact absurd (dt (s _ _ hH)) Vi
  refine⟨_,w',fun b=>if b=g then some (.cells cur e (0,0))else if some b=v.ownBlock then none else H b,ak,⟨fun b o h=>?_,aa.size,ac,fun b hb hn=>?_,aa.os,aa.tape,aa.output⟩,
   ⟨ao,.inr ⟨g,cap,cur,rfl,by simp,q1,q2,q3,q4⟩⟩,fun b o hb ho=>?_,?_⟩
  ·split at h
   ·rename_i e1;subst e1;cases h;exact hg
   ·split at h
    ·cases h
    ·exact keep b o (by assumption) h
  ·have:b≠g:=by
    rintro rfl;rcases aj with h|h
    ·exact ownH b (by rw[<-h];rfl) hn
    ·simp only[Value.ownBlock,Sc]at h;omega
   simp[this,hn]
  ·have:b≠g:=by
    rintro rfl;rcases bb with h|h
    ·exact hb h.symm
    ·rw[h]at ho;cases ho
   simp[this,hb,ho]
  ·rcases aj with h|h
   ·exact .inl h
   ·right
    intro g' a0;rw[h]at a0;simp only[Sc]at a0;subst a0;cases hH:H w.heap.size with
    |none=>rfl
    |some o=>exact absurd (dt (s _ _ hH)) Vi
def gA(size:Nat):Nat->List (Nat×Value)->Bool
 |_,[]=>true
 |j,(i,v)::l=>decide (i=j) && decide (v.cells.toList.length=size) && gA size (j+1) l
def aE:List (Nat×Value)->List Value
 | []=>[]
 |(_,v)::l=>v.cells.toList++aE l
theorem dR(l cs:List Value)(off:Nat)(h:off+cs.length<=l.length):be l off cs=l.take off++cs++l.drop (off+cs.length):=by
 induction cs generalizing l off with
 |nil=>simp[be]
 |cons c cs ih=>
  simp only[SB]at h;have aa:off<l.length:=by omega
  rw[be,ih _ _ (by simp;omega)];rw[List.take_set,List.drop_set];have h1:(l.take (off+1)).set off c=l.take off++[c]:=by
   rw[S7 aa,List.set_append];simp[S8 (SJ aa)]
  rw[h1,SI Vi];simp[Nat.add_assoc,Nat.add_comm 1]
theorem sx(size:Nat):∀(parts:List (Nat×Value)) (j:Nat) (cells:List Value),gA size j parts=true->cells.length=(j+parts.length)*size->
  nj (fun i=>some (i*size,size)) cells parts=some (cells.take (j*size)++aE parts)
 | [],j,cells,_,hl=>by
  simp only[S9,Sd]at hl;simp[nj,aE,<-hl]
 |(i,v)::l,j,cells,h,hl=>by
  simp only[gA,SG,SX]at h;obtain⟨⟨rfl,h2⟩,h3⟩:=h;simp only[SB]at hl;have aa:i*size+size<=cells.length:=by
   rw[hl];have:i*size+size=(i+1)*size:=by rw[Ta];simp
   rw[this];exact Tb _ Vi
  simp only[nj,h2,SP,SI aa];rw[sx size l (i+1) _ h3 (by rw[aJ,hl];congr 1;omega)];rw[dR _ _ _ (by rw[h2];exact aa)];simp only[aE];congr 1;rw[h2];have e1:(i+1)*size=i*size+size:=by rw[Ta];simp
  have e2:(cells.take (i*size)++v.cells.toList).length=(i+1)*size:=by simp[h2,e1];omega
  rw[Tc Vi,<-e2,Td,Te]
theorem sf{P:Program}{t e:TypeId}{size bytes:Nat}(ht:iw P t e size bytes){len:Nat}{parts:List (Nat×Value)}(hp:gA size 0 parts=true)(aa:parts.length=len)(ak:len*size<=16777216)(w:World):
  (Instr.buildSlice t len parts.toArray).run P w=.ok (.slice (some ⟨w.heap.size,0,none⟩) len len) { w with heap:=w.heap.push (.cells (aE parts).toArray e (0,0)) }:=by
 obtain⟨i,z,a1,a2,a3,a4,a5,a6,a7⟩:=ht;have und:(underlying t).run P w=.ok (.slice e) w:=bf a1;have sz:(sizeOf e).run P w=.ok size w:=by simp[sizeOf,typeInfo,program,Sem.run,a2,a4]
 have zv:(zeroValue e).run P w=.ok z w:=by simp[zeroValue,typeInfo,program,Sem.run,a2,a3]
 have key:∀(zero:Array Value),Instr.fill (fun i=>some (i*size,size)) ((Array.range (len*size)).map (zero[· % zero.size]!)) parts=some (aE parts).toArray:=by
  intro zero;refine wF (fun i x h=>h) ?_;have:=sx size parts 0 ((Array.range (len*size)).map (zero[· % zero.size]!)).toList hp (by simp[aa]);simpa using this
 by_cases h0:len*size=0
 ·simp only[Instr.buildSlice,Se,und,Result.andThen,sz,Sb (show ¬len*size>2^24 by omega),SI h0];have aj:len=0:=by
   rcases Nat.mul_eq_zero.1 h0 with h|h
   ·exact h
   ·omega
  subst aj;have ac:parts=[]:=List.length_eq_zero_iff.1 aa;subst ac;simp[Instr.fill,aE,newRow,newObj,Sem.run,Result.andThen];rw[show Array.range 0=#[] from Array.eq_empty_of_size_eq_zero (by simp)];simp
 ·simp only[Instr.buildSlice,Se,und,Result.andThen,sz,Sb (show ¬len*size>2^24 by omega),Sb h0,zv];simp[key,newRow,newObj,Sem.run,Result.andThen]
theorem qG{σ:St}:∀{l:List (Nat×Operand)} {r:List (Nat×Value)},kY (ev σ) l=some r->l.map (fun x=>(x.1,bp σ x.2))=r/\∀y∈l,qy (ev σ y.2)=true
 | [],r,h=>by cases h;exact⟨rfl,fun y hy=>(SW hy).elim⟩
 |(i,y)::l,r,h=>by
  simp only[kY]at h;split at h
  ·rename_i v r' hv hr;cases h
   obtain⟨h1,h2⟩:=qG hr;have hc:bp σ y=v:=by simp[bp,hv]
   refine⟨by rw[Tf,h1,hc],fun z hz=>?_⟩;rcases List.mem_cons.1 hz with rfl|hz
   ·rw[hv];rfl
   ·exact h2 z hz
  ·cases h
section
variable {C:Cx} {P:Program} {k:List Item} {σ:St} {H:PH}
theorem lH{o:Oper}{t e:TypeId}{len size bytes:Nat}{parts:Array (Nat×Operand)}{ps:List (Nat×Value)}(am:o.op=.buildSlice t len parts)(ha:kY (ev σ) parts.toList=some ps)(ht:iw P t e size bytes)
  (hp:gA size 0 ps=true) (aj:ps.length=len) (ak:len*size<=16777216) :
  aR σ o.op=true/\co P (execOp (bp σ) o) H fun sv H2=>∃b,H b=none/\sv=.v (.slice (some ⟨b,0,none⟩) len len)/\H2=H.put b (.cells (aE ps).toArray e (0,0)):=by
 obtain⟨h1,h2⟩:=qG ha;constructor
 ·simp only[aR,am,eL,Op.operands,Bool.true_and,SH];intro y hy;simp at hy;obtain⟨i,hi⟩:=hy;exact h2 (i,y) (by simpa using hi)
 ·intro w hw;have aa:(parts.map fun(i,x)=>(i,bp σ x))=ps.toArray:=by rw[<-Sq];simpa using h1
  have:=sf ht hp aj ak w;obtain⟨n1,n2⟩:=cS.new hw (.cells (aE ps).toArray e (0,0));have ac:(execOp (bp σ) o).run P w=.ok (.value (.slice (some ⟨w.heap.size,0,none⟩) len len)) { w with heap:=w.heap.push (.cells (aE ps).toArray e (0,0)) }:=by
   simp only[execOp,am,aa,Se,this];simp[Result.andThen]
  rw[ac];exact⟨_,n2,w.heap.size,n1,rfl,rfl⟩
theorem ns{ol rem:List Oper}{o:Oper}{t e:TypeId}{len size bytes:Nat}{parts:Array (Nat×Operand)}{ps:List (Nat×Value)}(ht:iw C.P t e size bytes)(hw:aG ol σ o=some true)(aj:o.op=.buildSlice t len parts)(ha:kY (ev σ) parts.toList=some ps)
  (hp:gA size 0 ps=true) (aa:ps.length=len) (ac:len*size<=16777216)
  (hk:∀b,H b=none->RC C (.op ol rem k) (σ.put o.dst (.v (.slice (some ⟨b,0,none⟩) len len))) (H.put b (.cells (aE ps).toArray e (0,0)))):RC C (.op ol (o::rem) k) σ H:=by
 obtain⟨h1,h2⟩:=lH (H:=H) aj ha ht hp aa ac;exact f9 hw h1 (h2.mono fun sv H2 ⟨b,a,c,d⟩=>by subst c;subst d;exact hk b a)
theorem uA{ol:List Oper}{fr:gW}{str:gR}{i:Nat}{l:List (Nat×Oper)}{o:Oper}{t e:TypeId}{len size bytes:Nat}{parts:Array (Nat×Operand)}{ps:List (Nat×Value)}(ht:iw C.P t e size bytes)(hw:aG ol σ o=some true)(aj:o.op=.buildSlice t len parts)(ha:kY (ev σ) parts.toList=some ps)
  (hp:gA size 0 ps=true) (aa:ps.length=len) (ac:len*size<=16777216)
  (hk:∀b,H b=none->RD C ol fr str l k (σ.put o.dst (.v (.slice (some ⟨b,0,none⟩) len len))) (H.put b (.cells (aE ps).toArray e (0,0)))):RD C ol fr str ((i,o)::l) k σ H:=by
 obtain⟨h1,h2⟩:=lH (H:=H) aj ha ht hp aa ac;exact pX hw h1 (by rw[aj];rfl) (h2.mono fun sv H2 ⟨b,a,c,d⟩=>by subst c;subst d;exact⟨jB.le (PH.le_put a),hk b a⟩)
theorem qE{o:Oper}{t e:TypeId}{size bytes:Nat}{x y:Operand}{v:Value}{n xb xo m c:Nat}{xs news:List Value}(ht:iw P t e size bytes)(ak:o.op=.call ⟨.builtin .append,#[x,y],#[t,t]⟩)(hx:ev σ x=.v v)(hy:ev σ y=.v (.slice (some ⟨xb,xo,none⟩) m c))
  (aj:f4 H e size v n xs) (hn:aQ H xb xo news) (hl:news.length=m*size) (h1:news.all one=true) (hb:(n+m)*bytes<=140737488355328) (ao:n+m<=maxLen) :
  aR σ o.op=true/\co P (execOp (bp σ) o) H fun sv H2=>∃v',sv=.v v'/\f4 H2 e size v' (n+m) (xs++news)/\Ko v.ownBlock H H2/\(v'.ownBlock=v.ownBlock\/∀g,v'.ownBlock=some g->H g=none):=by
 constructor
 ·simp[aR,ak,eL,Op.operands,Call.operands,hx,hy,qy]
 ·intro w hw;obtain⟨v',w',H2,ac,st,aa,an,am⟩:=ql (ty:=o.type) (c:=c) ht aj hn hl (fun u hu=>List.all_eq_true.1 h1 u hu) hb ao w hw;have:(execOp (bp σ) o).run P w=.ok (.value v') w':=by
   simp[execOp,ak,resolve,bp,hx,hy,invoke,builtin,Result.andThen,ac]
  rw[this];exact⟨H2,st,v',rfl,aa,an,am⟩
theorem El{ol rem:List Oper}{o:Oper}{t e:TypeId}{size bytes:Nat}{x y:Operand}{v:Value}{n xb xo m c:Nat}{xs news:List Value}(ht:iw C.P t e size bytes)(aa:f4 H e size v n xs)(hw:aG ol σ o=some true)(ac:o.op=.call ⟨.builtin .append,#[x,y],#[t,t]⟩)(hx:ev σ x=.v v)(hy:ev σ y=.v (.slice (some ⟨xb,xo,none⟩) m c))
  (hn:aQ H xb xo news) (hl:news.length=m*size) (h1:news.all one=true) (hb:(n+m)*bytes<=140737488355328) (aj:n+m<=maxLen)
  (hk:∀v' H2,f4 H2 e size v' (n+m) (xs++news)->Ko v.ownBlock H H2->(v'.ownBlock=v.ownBlock\/∀g,v'.ownBlock=some g->H g=none)->RC C (.op ol rem k) (σ.put o.dst (.v v')) H2):RC C (.op ol (o::rem) k) σ H:=by
 obtain⟨a,b⟩:=qE (σ:=σ) ht ac hx hy aa hn hl h1 hb aj;exact f9 hw a (b.mono fun sv H2 ⟨v',e1,e2,e3,e4⟩=>by subst e1;exact hk v' H2 e2 e3 e4)
theorem CS{ol:List Oper}{fr:gW}{str:gR}{i:Nat}{l:List (Nat×Oper)}{o:Oper}{t e:TypeId}{size bytes:Nat}{x y:Operand}{v:Value}{n xb xo m c:Nat}{xs news:List Value}(ht:iw C.P t e size bytes)(aa:f4 H e size v n xs)(hs:str.h.contains i=false)(aj:str.j.contains i=false)(hw:aG ol σ o=some true)(ac:o.op=.call ⟨.builtin .append,#[x,y],#[t,t]⟩)(hx:ev σ x=.v v)(hy:ev σ y=.v (.slice (some ⟨xb,xo,none⟩) m c))
  (hn:aQ H xb xo news) (hl:news.length=m*size) (h1:news.all one=true) (hb:(n+m)*bytes<=140737488355328) (ak:n+m<=maxLen)
  (hk:∀v' H2,f4 H2 e size v' (n+m) (xs++news)->Ko v.ownBlock H H2->(v'.ownBlock=v.ownBlock\/∀g,v'.ownBlock=some g->H g=none)->RD C ol fr str l k (σ.put o.dst (.v v')) H2):RD C ol fr str ((i,o)::l) k σ H:=by
 obtain⟨a,b⟩:=qE (σ:=σ) ht ac hx hy aa hn hl h1 hb ak;exact pX hw a (by rw[ac];rfl) (b.mono fun sv H2 ⟨v',e1,e2,e3,e4⟩=>by subst e1;exact⟨jB.non hs aj,hk v' H2 e2 e3 e4⟩)
theorem tF{o:Oper}{T ty:TypeId}{x y:Operand}{b off:Nat}{v:Value}{cells:Array Value}{cs:List Value}(ak:o.op=.store T x y)(hx:ev σ x=.v (.pointer (some ⟨b,off,none⟩)))(hy:ev σ y=.v v)
  (hH:H b=some (.cells cells ty (0,0))) (hc:iB v=some cs) (hs:bB P T=some cs.length) (am:off+cs.length<=cells.size) :
  aR σ o.op=true/\co P (execOp (bp σ) o) H fun sv H2=>sv=.u/\H2=H.put b (.cells (be cells.toList off cs).toArray ty (0,0)):=by
 constructor
 ·simp[aR,ak,eL,Op.operands,hx,hy,qy]
 ·intro w hw;obtain⟨aa,aj⟩:=oD hc;have hb:=hw _ _ hH;rw[show cells=cells.toList.toArray from by simp]at hb;obtain⟨w2,h1,h2,h3,h4,h5,h6,h7⟩:=fM (P:=P) b ty cs 0 off cells.toList w hb (by simpa using am) aj;have sz:(sizeOf T).run P w=.ok cs.length w:=by
   unfold bB at hs;simp only[Sn]at hs;obtain⟨i,hi,h⟩:=hs;simp[sizeOf,typeInfo,program,Sem.run,hi,h]
  have an:v.cells.size=cs.length:=by rw[<-aa];simp
  have ac:(execOp (bp σ) o).run P w=.ok .skip w2:=by
   simp only[execOp,ak,bp,hx,hy,Instr.storeAt,Instr.sureAddr,storeVar,Se];simp[Result.andThen,sz,an,aa,h1]
  rw[ac];refine⟨_,⟨fun c o' h=>?_,Vi,fun c ao hn=>h3 c (fun e=>by subst e;rw[hH]at hn;cases hn),fun c ao hn=>?_,h5,h6,h7⟩,rfl,rfl⟩
  ·by_cases e:c=b
   ·subst e;simp only[PH.put,R9]at h;cases h;simpa using h2
   ·simp only[PH.put,Sb e]at h;rw[h3 c e];exact hw _ _ h
  ·have:c≠b:=fun e=>by subst e;rw[hH]at hn;cases hn
   simp[PH.put,this,hn]
theorem Hh{ol rem:List Oper}{o:Oper}{T ty:TypeId}{x y:Operand}{b off:Nat}{v:Value}{cells:Array Value}{cs:List Value}(hH:H b=some (.cells cells ty (0,0)))(hw:aG ol σ o=some true)(aa:o.op=.store T x y)(hx:ev σ x=.v (.pointer (some ⟨b,off,none⟩)))(hy:ev σ y=.v v)
  (hc:iB v=some cs) (hs:bB C.P T=some cs.length) (ac:off+cs.length<=cells.size)
  (hk:RC C (.op ol rem k) (σ.put o.dst .u) (H.put b (.cells (be cells.toList off cs).toArray ty (0,0)))):RC C (.op ol (o::rem) k) σ H:=by
 obtain⟨h1,h2⟩:=tF (σ:=σ) aa hx hy hH hc hs ac;exact f9 hw h1 (h2.mono fun sv H2 ⟨a,b⟩=>by subst a;subst b;exact hk)
theorem Eb{ol:List Oper}{fr:gW}{str:gR}{i:Nat}{l:List (Nat×Oper)}{o:Oper}{T ty:TypeId}{x y:Operand}{b off:Nat}{v:Value}{cells:Array Value}{cs:List Value}(hH:H b=some (.cells cells ty (0,0)))(ac:iR str.k i=false)(hw:aG ol σ o=some true)(aa:o.op=.store T x y)(hx:ev σ x=.v (.pointer (some ⟨b,off,none⟩)))(hy:ev σ y=.v v)
  (hc:iB v=some cs) (hs:bB C.P T=some cs.length) (aj:off+cs.length<=cells.size)
  (hk:RD C ol fr str l k (σ.put o.dst .u) (H.put b (.cells (be cells.toList off cs).toArray ty (0,0)))):RD C ol fr str ((i,o)::l) k σ H:=by
 obtain⟨h1,h2⟩:=tF (σ:=σ) aa hx hy hH hc hs aj;exact FC ac hw h1 (by rw[aa];rfl) (h2.mono fun sv H2 ⟨a,b⟩=>by subst a;subst b;exact hk)
end
open Go
section
variable {C:Cx} {P:Program} {k:List Item} {σ:St} {H:PH}
def iD(P:Program)(kt:TypeId)(v:Value):Prop:=∃l,keyOf P kt v=some l
def eM(P:Program)(H:PH)(r:Nat)(kt:TypeId)(S:Value->Value->Prop):Prop:=
 ∃es clock,H r=some (.map es clock)/\(∀e∈es.toList,iD P kt e.key)/\es.toList.Pairwise (fun x y=>x.key≠y.key)/\∀y u,S y u<->∃e∈es.toList,e.key=y/\e.val=u
theorem eM.le{H H2:PH}{r:Nat}{kt:TypeId}{S:Value->Value->Prop}(h:eM P H r kt S)(aa:H.le H2):eM P H2 r kt S:=by
 obtain⟨es,clock,a,b⟩:=h;exact⟨es,clock,aa _ _ a,b⟩
theorem eM.of_eq{H H2:PH}{r:Nat}{kt:TypeId}{S:Value->Value->Prop}(h:eM P H r kt S)(he:H2 r=H r):eM P H2 r kt S:=by
 obtain⟨es,clock,a,b⟩:=h;exact⟨es,clock,he.trans a,b⟩
theorem eM.congr{r:Nat}{kt:TypeId}{S S':Value->Value->Prop}(h:eM P H r kt S)(hs:∀y u,S' y u<->S y u):eM P H r kt S':=by
 obtain⟨es,clock,a,b,c,d⟩:=h;exact⟨es,clock,a,b,c,fun y u=>(hs y u).trans (d y u)⟩
theorem zY{mt kt et:TypeId}(K:Maps.Keyed P kt)(hm:P.underlying mt=some (.map kt et)){r:Nat}{S:Value->Value->Prop}(h:eM P H r kt S){x v:Value}(hx:iD P kt x)(hs:S x v)(w:World)(hw:Sub H w):
  (Instr.lookup mt (.map (some r)) x true).run P w=.ok (.tuple #[v,.bool true]) w:=by
 obtain⟨es,clock,a,b,c,d⟩:=h;obtain⟨l,hl⟩:=hx;have aa:(getObj r).run P w=.ok (.map es clock) w:=by simp[getObj,Sem.run,hw _ _ a]
 obtain⟨e0,ak,aj,am⟩:=(d x v).1 hs;rcases K.find w hl es.toList b with ⟨h1,h2⟩|⟨j,e,h1,h2,h3⟩
 ·exact absurd aj (h2 e0 ak)
 ·have:e=e0:=by
   have ac:e∈es.toList:=Tg h2;by_cases he:e=e0
   ·exact he
   ·exfalso;rcases List.mem_iff_getElem.1 ac with ⟨i1,l1,rfl⟩
    rcases List.mem_iff_getElem.1 ak with ⟨i2,l2,rfl⟩
    rcases SD i1 i2 with h|h|h
    ·exact List.pairwise_iff_getElem.1 c i1 i2 l1 l2 h (h3.trans aj.symm)
    ·subst h;exact he rfl
    ·exact List.pairwise_iff_getElem.1 c i2 i1 l2 l1 h (aj.trans h3.symm)
  subst this;subst am;have hc:=K.check w es.isEmpty hl;simp[Instr.lookup,bf hm,Result.andThen,aa,hc,h1]
theorem DH{mt kt et:TypeId}(K:Maps.Keyed P kt)(hm:P.underlying mt=some (.map kt et)){z:Value}(hz:aI P et=some z){r:Nat}{S:Value->Value->Prop}(h:eM P H r kt S){x:Value}(hx:iD P kt x)(hs:∀v,¬S x v)(w:World)(hw:Sub H w):
  (Instr.lookup mt (.map (some r)) x true).run P w=.ok (.tuple #[z,.bool false]) w:=by
 obtain⟨es,clock,a,b,c,d⟩:=h;obtain⟨l,hl⟩:=hx;have aa:(getObj r).run P w=.ok (.map es clock) w:=by simp[getObj,Sem.run,hw _ _ a]
 have zv:(zeroValue et).run P w=.ok z w:=by
  unfold aI at hz;cases hi:P.info? et with
  |none=>rw[hi]at hz;cases hz
  |some i=>rw[hi]at hz;simp only[Sm]at hz;simp[zeroValue,typeInfo,program,Sem.run,hi,hz]
 rcases K.find w hl es.toList b with ⟨h1,h2⟩|⟨j,e,h1,h2,h3⟩
 ·have hc:=K.check w es.isEmpty hl;simp[Instr.lookup,bf hm,Result.andThen,aa,hc,h1,zv]
 ·exact absurd ((d x e.val).2 ⟨e,Tg h2,h3,rfl⟩) (hs _)
theorem Ai{mt kt et:TypeId}(K:Maps.Keyed P kt)(hm:P.underlying mt=some (.map kt et)){r:Nat}{S:Value->Value->Prop}(h:eM P H r kt S){x v:Value}(hx:iD P kt x)(w:World)(hw:Sub H w):
  ∃w2 H2 o,(Instr.mapUpdate mt (.map (some r)) x v).run P w=.ok () w2/\H2=H.put r o/\cS H w H2 w2/\eM P H2 r kt (fun y u=>(y=x/\u=v)\/(y≠x/\S y u)):=by
 obtain⟨es,clock,a,b,c,d⟩:=h;obtain⟨l,hl⟩:=hx;have ha:=hw _ _ a;have aj:(getObj r).run P w=.ok (.map es clock) w:=by simp[getObj,Sem.run,ha]
 have setO:∀(o:Obj),(setObj r o).run P w=.ok () { w with heap:=w.heap.setIfInBounds r o }:=by
  intro o;simp[setObj,Sem.run,ha]
 have step:∀(o:Obj),cS H w (H.put r o) { w with heap:=w.heap.setIfInBounds r o }:=by
  intro o;have am:=dt ha;refine⟨fun b' x' h=>?_,by simp,fun b' hb hn=>?_,fun b' hb hn=>?_,rfl,rfl,rfl⟩
  ·by_cases e:b'=r
   ·subst e;simp only[PH.put,R9]at h;cases h;simp[S0,am]
   ·simp only[PH.put,Sb e]at h;simp only[S0,Sb (Ne.symm e)];exact hw _ _ h
  ·have:b'≠r:=fun e=>by subst e;rw[a]at hn;cases hn
   simp only[S0,Sb (Ne.symm this)]
  ·have:b'≠r:=fun e=>by subst e;rw[a]at hn;cases hn
   simp[PH.put,this,hn]
 rcases K.find w hl es.toList b with ⟨h1,h2⟩|⟨j,e,h1,h2,h3⟩
 ·refine⟨{ w with heap:=w.heap.setIfInBounds r (.map (es.push { key:=x,val:=v,born:=clock }) (clock+1)) },_,.map (es.push { key:=x,val:=v,born:=clock }) (clock+1),?_,rfl,step (.map (es.push { key:=x,val:=v,born:=clock }) (clock+1)),?_⟩
  ·have hc:=K.check w false hl;simp[Instr.mapUpdate,bf hm,Result.andThen,aj,hc,h1];exact setO _
  ·refine⟨_,_,SI rfl,?_,?_,?_⟩
   ·intro e he;simp at he;rcases he with he|rfl
    ·exact b e (by simpa using he)
    ·exact⟨l,hl⟩
   ·simp only[Array.toList_push,List.pairwise_append,Th,SP];exact⟨c,fun y hy z hz=>by simp at hz;subst hz;exact h2 y hy⟩
   ·intro y u;simp only[Array.toList_push,Ti,List.mem_singleton];constructor
    ·rintro(⟨rfl,rfl⟩|⟨aa,hs⟩)
     ·exact⟨_,.inr rfl,rfl,rfl⟩
     ·obtain⟨e,he,h5,h6⟩:=(d y u).1 hs;exact⟨e,.inl he,h5,h6⟩
    ·rintro⟨e,he|rfl,rfl,rfl⟩
     ·exact .inr ⟨h2 e he,(d _ _).2 ⟨e,he,rfl,rfl⟩⟩
     ·exact .inl ⟨rfl,rfl⟩
 ·have hj:es[j]?=some e:=by simpa using h2
  have ac:j<es.size:=by
   rcases Sw j es.size with h|h
   ·exact h
   ·rw[Sy h]at hj;cases hj
  have an:((es[j]?).map (·.key)).getD x=x:=by rw[hj];simpa using h3
  have ak:(es.modify j fun e=>{ e with key:=x,val:=v }).toList=es.toList.set j { e with key:=x,val:=v }:=by
   apply List.ext_getElem?;intro i;simp only[Array.getElem?_toList,Array.getElem?_modify,Tj,Sk];by_cases hi:j=i
   ·subst hi;have aS:es[j]=e:=by rw[Sr ac]at hj;exact Tk hj
    simp[hj,ac,aS]
   ·simp[hi]
  refine⟨{ w with heap:=w.heap.setIfInBounds r (.map (es.modify j fun e=>{ e with key:=x,val:=v }) clock) },_,.map (es.modify j fun e=>{ e with key:=x,val:=v }) clock,?_,rfl,step (.map (es.modify j fun e=>{ e with key:=x,val:=v }) clock),?_⟩
  ·have ap:(Instr.keyThatStays (((es[j]?).map (·.key)).getD x) x).run P w=.ok x w:=by rw[an];exact K.stays w hl
   have hc:=K.check w false hl;simp[Instr.mapUpdate,bf hm,Result.andThen,aj,hc,h1,ap];exact setO _
  ·have cM:∀i e',es.toList[i]?=some e'->i≠j->e'.key≠x:=by
    intro i e' hi aa hk;have ao:i<es.toList.length:=by
     rcases Sw i es.toList.length with h|h
     ·exact h
     ·rw[SF h]at hi;cases hi
    have e1:es.toList[i]=e':=by rw[SC ao]at hi;exact Tk hi
    have e2:es.toList[j]'(by simpa using ac)=e:=by rw[SC (by simpa using ac)]at h2;exact Tk h2
    rcases Sw i j with h|h
    ·exact List.pairwise_iff_getElem.1 c i j ao (by simpa using ac) h (by rw[e1,e2,hk,h3])
    ·exact List.pairwise_iff_getElem.1 c j i (by simpa using ac) ao Vi (by rw[e1,e2,hk,h3])
   have mem:∀f,f∈es.toList.set j { e with key:=x,val:=v }<->f={ e with key:=x,val:=v }\/∃i,i≠j/\es.toList[i]?=some f:=by
    intro f;rw[List.mem_iff_getElem?];constructor
    ·rintro⟨i,hi⟩;rw[Tj]at hi;split at hi
     ·split at hi
      ·cases hi;exact .inl rfl
      ·cases hi
     ·rename_i aa;exact .inr ⟨i,Ne.symm aa,hi⟩
    ·rintro(rfl|⟨i,aa,hi⟩)
     ·exact⟨j,by rw[Tj];simp[ac]⟩
     ·exact⟨i,by rw[Tj,Sb (Ne.symm aa)];exact hi⟩
   refine⟨_,_,SI rfl,?_,?_,?_⟩
   ·rw[ak];intro f hf;rcases(mem f).1 hf with rfl|⟨i,_,hi⟩
    ·exact⟨l,hl⟩
    ·exact b f (Tg hi)
   ·rw[ak,List.pairwise_iff_getElem];intro i1 i2 l1 l2 am;simp only[Tl]at l1 l2;rw[List.getElem_set,List.getElem_set];by_cases e1:j=i1<;>by_cases e2:j=i2
    ·omega
    ·subst e1;rw[SI rfl,Sb e2];exact fun hk=>cM i2 _ (SC l2) (Ne.symm e2) hk.symm
    ·subst e2;rw[SI rfl,Sb e1];exact fun hk=>cM i1 _ (SC l1) (Ne.symm e1) hk
    ·rw[Sb e1,Sb e2];exact List.pairwise_iff_getElem.1 c i1 i2 l1 l2 am
   ·intro y u;rw[ak];constructor
    ·rintro(⟨rfl,rfl⟩|⟨aa,hs⟩)
     ·exact⟨_,(mem _).2 (.inl rfl),rfl,rfl⟩
     ·obtain⟨f,hf,h5,h6⟩:=(d y u).1 hs;obtain⟨i,hi⟩:=List.mem_iff_getElem?.1 hf;refine⟨f,(mem f).2 (.inr ⟨i,fun ei=>?_,hi⟩),h5,h6⟩;subst ei;rw[h2]at hi;cases hi;exact aa (h5.symm.trans h3)
    ·rintro⟨f,hf,rfl,rfl⟩;rcases(mem f).1 hf with rfl|⟨i,aa,hi⟩
     ·exact .inl ⟨rfl,rfl⟩
     ·exact .inr ⟨cM i f hi aa,(d _ _).2 ⟨f,Tg hi,rfl,rfl⟩⟩
end
open Go
section
variable {C:Cx} {P:Program} {k:List Item} {σ:St} {H:PH}
theorem qL{o:Oper}{mt kt et:TypeId}(K:Maps.Keyed P kt)(hm:P.underlying mt=some (.map kt et)){z:Value}(hz:aI P et=some z){x y:Operand}{r:Nat}{S:Value->Value->Prop}{key:Value}(ac:o.op=.lookup mt x y true)
  (hx:ev σ x=.v (.map (some r))) (hy:ev σ y=.v key) (h:eM P H r kt S) (hk:iD P kt key) {v:Value} {is:Bool} (hs:is=true/\S key v\/is=false/\v=z/\∀u,¬S key u) :
  aR σ o.op=true/\∀w,Sub H w->(execOp (bp σ) o).run P w=.ok (.value (.tuple #[v,.bool is])) w:=by
 constructor
 ·simp[aR,ac,eL,Op.operands,hx,hy,qy]
 ·intro w hw;have aa:(Instr.lookup mt (.map (some r)) key true).run P w=.ok (.tuple #[v,.bool is]) w:=by
   rcases hs with ⟨rfl,hs⟩|⟨rfl,rfl,hs⟩
   ·exact zY K hm h hk hs w hw
   ·exact DH K hm hz h hk hs w hw
  simp[execOp,ac,bp,hx,hy,aa,Result.andThen]
theorem kh{ol rem:List Oper}{o:Oper}{mt kt et:TypeId}(K:Maps.Keyed C.P kt)(hm:C.P.underlying mt=some (.map kt et)){z:Value}(hz:aI C.P et=some z){x y:Operand}{r:Nat}{S:Value->Value->Prop}{key:Value}(hw:aG ol σ o=some true)(aa:o.op=.lookup mt x y true)
  (hx:ev σ x=.v (.map (some r))) (hy:ev σ y=.v key) (h:eM C.P H r kt S) (hk:iD C.P kt key) (v:Value) (is:Bool) (hs:is=true/\S key v\/is=false/\v=z/\∀u,¬S key u)
  (hg:RC C (.op ol rem k) (σ.put o.dst (.v (.tuple #[v,.bool is]))) H):RC C (.op ol (o::rem) k) σ H:=by
 obtain⟨h1,h2⟩:=qL K hm hz aa hx hy h hk hs;exact rI _ hw h1 h2 hg
theorem mY{ol:List Oper}{fr:gW}{str:gR}{i:Nat}{l:List (Nat×Oper)}{o:Oper}{mt kt et:TypeId}(K:Maps.Keyed C.P kt)(hm:C.P.underlying mt=some (.map kt et)){z:Value}(hz:aI C.P et=some z){x y:Operand}{r:Nat}{S:Value->Value->Prop}{key:Value}(hf:fr.h.contains i=true)(hw:aG ol σ o=some true)(aa:o.op=.lookup mt x y true)
  (hx:ev σ x=.v (.map (some r))) (hy:ev σ y=.v key) (h:eM C.P H r kt S) (hk:iD C.P kt key) (v:Value) (is:Bool) (hs:is=true/\S key v\/is=false/\v=z/\∀u,¬S key u)
  (hg:RD C ol fr str l k (σ.put o.dst (.v (.tuple #[v,.bool is]))) H):RD C ol fr str ((i,o)::l) k σ H:=by
 obtain⟨h1,h2⟩:=qL K hm hz aa hx hy h hk hs;exact rE _ hf hw h1 (by rw[aa];rfl) h2 hg
theorem qq{o:Oper}{mt kt et:TypeId}(K:Maps.Keyed P kt)(hm:P.underlying mt=some (.map kt et)){x y z:Operand}{r:Nat}{S:Value->Value->Prop}{key v:Value}(aa:o.op=.mapUpdate mt x y z\/o.op=.insert mt x y z)
  (hx:ev σ x=.v (.map (some r))) (hy:ev σ y=.v key) (hz:ev σ z=.v v) (h:eM P H r kt S) (hk:iD P kt key) :
  aR σ o.op=true/\co P (execOp (bp σ) o) H fun sv H2=>sv=.u/\∃ob,H2=H.put r ob/\eM P H2 r kt (fun y u=>(y=key/\u=v)\/(y≠key/\S y u)):=by
 constructor
 ·rcases aa with aa|aa<;>simp[aR,aa,eL,Op.operands,hx,hy,hz,qy]
 ·intro w hw;obtain⟨w2,H2,ob,ac,e,st,aj⟩:=Ai (v:=v) K hm h hk w hw;have:(execOp (bp σ) o).run P w=.ok .skip w2:=by
   rcases aa with aa|aa<;>simp[execOp,aa,bp,hx,hy,hz,ac,Result.andThen]
  rw[this];exact⟨H2,st,rfl,ob,e,aj⟩
theorem Ef{ol rem:List Oper}{o:Oper}{mt kt et:TypeId}(K:Maps.Keyed C.P kt)(hm:C.P.underlying mt=some (.map kt et)){x y z:Operand}{r:Nat}{S:Value->Value->Prop}{key v:Value}(hw:aG ol σ o=some true)(aa:o.op=.mapUpdate mt x y z\/o.op=.insert mt x y z)
  (hx:ev σ x=.v (.map (some r))) (hy:ev σ y=.v key) (hz:ev σ z=.v v) (h:eM C.P H r kt S) (hk:iD C.P kt key)
  (hg:∀ob,eM C.P (H.put r ob) r kt (fun y u=>(y=key/\u=v)\/(y≠key/\S y u))->RC C (.op ol rem k) (σ.put o.dst .u) (H.put r ob)):RC C (.op ol (o::rem) k) σ H:=by
 obtain⟨h1,h2⟩:=qq K hm aa hx hy hz h hk;exact f9 hw h1 (h2.mono fun sv H2 ⟨a,ob,b,c⟩=>by subst a;subst b;exact hg ob c)
theorem DI{ol:List Oper}{fr:gW}{str:gR}{i:Nat}{l:List (Nat×Oper)}{o:Oper}{mt kt et:TypeId}(K:Maps.Keyed C.P kt)(hm:C.P.underlying mt=some (.map kt et)){x y z:Operand}{r:Nat}{S:Value->Value->Prop}{key v:Value}(hs:str.h.contains i=false)(ac:str.j.contains i=false)(hw:aG ol σ o=some true)(aa:o.op=.mapUpdate mt x y z\/o.op=.insert mt x y z)
  (hx:ev σ x=.v (.map (some r))) (hy:ev σ y=.v key) (hz:ev σ z=.v v) (h:eM C.P H r kt S) (hk:iD C.P kt key)
  (hg:∀ob,eM C.P (H.put r ob) r kt (fun y u=>(y=key/\u=v)\/(y≠key/\S y u))->RD C ol fr str l k (σ.put o.dst .u) (H.put r ob)):RD C ol fr str ((i,o)::l) k σ H:=by
 obtain⟨h1,h2⟩:=qq K hm aa hx hy hz h hk;exact pX hw h1 (by rcases aa with aa|aa<;>rw[aa]<;>rfl) (h2.mono fun sv H2 ⟨a,ob,b,c⟩=>by subst a;subst b;exact⟨jB.non hs ac,hg ob c⟩)
theorem wr{o:Oper}{mt:TypeId}(ac:o.op=.makeMap mt none):
  aR σ o.op=true/\co P (execOp (bp σ) o) H fun sv H2=>∃r,H r=none/\sv=.v (.map (some r))/\H2=H.put r (.map #[] 0):=by
 constructor
 ·simp[aR,ac,eL,Op.operands]
 ·intro w hw;obtain⟨n1,n2⟩:=cS.new hw (.map #[] 0);have aa:(execOp (bp σ) o).run P w=.ok (.value (.map (some w.heap.size))) { w with heap:=w.heap.push (.map #[] 0) }:=by
   simp[execOp,ac,Instr.makeMap,newObj,Sem.run,Result.andThen]
  rw[aa];exact⟨_,n2,w.heap.size,n1,rfl,rfl⟩
theorem eM.empty{kt:TypeId}{r:Nat}(h:H r=some (.map #[] 0)):eM P H r kt (fun _ _=>False):=
 ⟨#[],0,h,fun e he=>by simp at he,by simp,fun y u=>by simp⟩
theorem Ag{ol rem:List Oper}{o:Oper}{mt:TypeId}(hw:aG ol σ o=some true)(aa:o.op=.makeMap mt none)
  (hg:∀r,H r=none->RC C (.op ol rem k) (σ.put o.dst (.v (.map (some r)))) (H.put r (.map #[] 0))):RC C (.op ol (o::rem) k) σ H:=by
 obtain⟨h1,h2⟩:=wr (σ:=σ) (H:=H) (P:=C.P) aa;exact f9 hw h1 (h2.mono fun sv H2 ⟨r,a,b,c⟩=>by subst b;subst c;exact hg r a)
theorem zK{ol:List Oper}{fr:gW}{str:gR}{i:Nat}{l:List (Nat×Oper)}{o:Oper}{mt:TypeId}(hw:aG ol σ o=some true)(aa:o.op=.makeMap mt none)
  (hg:∀r,H r=none->RD C ol fr str l k (σ.put o.dst (.v (.map (some r)))) (H.put r (.map #[] 0))):RD C ol fr str ((i,o)::l) k σ H:=
 .inr ⟨hw,by rw[aa];exact hg⟩
theorem f4.cells{e:TypeId}{size:Nat}{v:Value}{n:Nat}{xs:List Value}(h:f4 H e size v n xs)(hn:0<n):∃g cap,v=.slice (some ⟨g,0,none⟩) n cap/\aQ H g 0 xs:=by
 obtain⟨hl,⟨_,e0⟩|⟨g,cap,cur,a,b,c,d,f,k'⟩⟩:=h
 ·omega
 ·refine⟨g,cap,a,cur,e,(0,0),b,?_,?_⟩
  ·rw[hl,f,Sf];exact Tb _ c
  ·rw[Tm,hl];exact k'
theorem aQ.sub{b off:Nat}{l:List Value}(h:aQ H b off l)(i n:Nat)(hi:i+n<=l.length):aQ H b (off+i) ((l.drop i).take n):=by
 obtain⟨cs,ty,fz,a,b',c⟩:=h;have aa:((l.drop i).take n).length=n:=by simp;omega
 refine⟨cs,ty,fz,a,by rw[aa];omega,?_⟩;rw[aa];have:l=(cs.toList.drop off).take l.length:=c.symm
 conv=>rhs;rw[this]
 rw[List.drop_take,Tn,To,S8 Vi]
end
end Go.Sx
