import Derived.Test.YtfaclfkpnmcmlaaGreatDoorH01
import Derived.Maps.AppendAt
import Derived.Deep.AppendSrc
import Derived.Maps.Keyed
set_option maxHeartbeats 8000000
set_option linter.all false
namespace Go.Sx
open Go
def uC(args:List Value)(n:Nat):List SV:=args.map .v++List.replicate (n-args.length) (.v undef)
variable{fn:Func}
def cC{P:Program}{f:FuncId}{c:Code}{args:Array Value}{H:PH}{Φ:Value->PH->Prop}(hf:P.funcs[f]?=some fn)(hb:fn.body=some c)(aj:args.toList.length<=fn.ntmps)
  (h:∀w0,RC ⟨P,f,fn,hf,H,w0,Φ⟩ (.st [.code c]) ⟨uC args.toList fn.ntmps,[]⟩ H):bO P f args H Φ:=by
 intro w s cs;have hg:G w.heap.size ⟨uC args.toList fn.ntmps,[]⟩ H { tmps:=args++Array.replicate (fn.ntmps-args.size) undef,defers:=[] } w:=by
  refine⟨fun _=>0,rfl,?_,?_,fun _ h=>(aaB h).elim,fun _ h=>(aaB h).elim,fun _ h=>(aaB h).elim,List.Pairwise.nil⟩
  ·simp[uC]
  ·intro t sv ht;simp only[uC]at ht;rw[ZU];by_cases ac:t<args.size
   ·rw[aaG (by simpa using ac)]at ht;simp[ac]at ht;subst ht;simp[Array.getElem?_append,ac,cV]
   ·rw[aaH (by simpa using ac),List.getElem?_replicate]at ht;split at ht
    ·rename_i hr;cases ht
     simp only[cV,Array.getElem?_append,ZV ac,Array.getElem?_replicate];split<;>rfl
    ·cases ht
 obtain⟨e,w',fr,h1,h2,h3,h4⟩:=h w w _ cs (dM.refl s) hg;have aa:Frame.enter P f args .normal=(qg f).at { tmps:=args++Array.replicate (fn.ntmps-args.size) undef,defers:=[] } [.code c]:=by
  simp[Frame.enter,Frame.at,hf,hb,qg]
 refine⟨e,w',fr,?_,by rw[aa];exact h2,h3,h4⟩;unfold Rm at h1;cases e with
 |returned v=>exact h1
 |_=>exact h1.elim
def xx(P:Program)(σ:St):List ResultVar->Option (List Value)
 | []=>some []
 | .tmp t::l=>match oY σ.tm t,xx P σ l with
  | .v x,some r=>some (x::r)
  |_,_=>none
 | .cell t T::l=>match oY σ.tm t,xx P σ l with
  | .p k off,some r=>match eJ σ.bx k with
   |some B=>match iR P T B.cs off with
    |some x=>some (x::r)
    |none=>none
   |none=>none
  |_,_=>none
def gv:List Value->Value
 | [v]=>v
 |l=>.tuple l.toArray
def Uh(tmps:Array Value):ResultVar->Sem Value
 | .tmp t=>pure (tmps.getD t undef)
 | .cell a t=>do loadVar t (<-asAddr (tmps.getD a undef))
def rO{P:Program}{n0:Nat}{β:Nat->Nat}{σ:St}{H:PH}{a:Act}{w:World}(g:GB n0 β σ H a w):∀(l:List ResultVar) (r:List Value),xx P σ l=some r->
  (l.mapM (Uh a.tmps)).run P w=.ok r w
 | [],r,h=>by cases h;simp
 | .tmp t::l,r,h=>by
  simp only[xx]at h;split at h
  ·rename_i x r' hx hr;cases h
   have h1:=g.ev (.tmp t);simp only[ev,hx,cV,Act.eval]at h1;have h2:(Uh a.tmps (.tmp t)).run P w=.ok x w:=by simp only[Uh,h1];simp
   simp only[List.mapM_cons,ZY,h2,Result.andThen,rO g l _ hr];simp
  ·cases h
 | .cell t T::l,r,h=>by
  simp only[xx]at h;split at h
  ·rename_i k off r' hx hr;split at h
   ·rename_i B hB;split at h
    ·rename_i x hv;cases h
     obtain⟨hm,rfl⟩:=qB hB;have h1:=g.ev (.tmp t);simp only[ev,hx,cV,Act.eval]at h1;have:=pK (P:=P) (w:=w) (off:=off) (g.bx B hm).1 hv;have h2:(Uh a.tmps (.cell t T)).run P w=.ok x w:=by simp only[Uh,h1,ZY];simp[Result.andThen,asAddr,this]
     simp only[List.mapM_cons,ZY,h2,Result.andThen,rO g l _ hr];simp
    ·cases h
   ·cases h
  ·cases h
def rx{P:Program}{n0:Nat}{β:Nat->Nat}{σ:St}{H:PH}{a:Act}{w:World}(g:GB n0 β σ H a w){r:List Value}(h:xx P σ fn.results.toList=some r):
  (results fn a.tmps).run P w=.ok (gv r) w:=by
 have h1:=rO g _ _ h;show (do let vs <-fn.results.mapM (Uh a.tmps);pure (if h:vs.size=1 then vs[0]else .tuple vs):Sem Value).run P w=_;rw[Array.mapM_eq_mapM_toList];simp only[ZY,Sem.run_map];rw[h1];simp only[Result.andThen]
 match r with
 | []=>simp[gv]
 | [v]=>simp[gv]
 |a::b::l=>simp[gv]
section
variable {C:Cx} {k:List Item} {σ:St} {H:PH}
variable{r:List Value}
def aJ(h:xx C.P σ C.fn.results.toList=some r)(hp:C.post (gv r) H):R C (.code .ret::k) σ H:=by
 rintro w a cs s ⟨β,g⟩;exact⟨.returned (gv r),w,{ (qg C.f).at a (.code .ret::k)with mode:=.returning },⟨H,s,hp⟩,Steps.one step_ret,rfl,rfl,g.defers,rfl,C.fn,C.hf,rx g h⟩
def VA(h:xx C.P σ C.fn.results.toList=some r)(hp:C.post (gv r) H):R C [] σ H:=by
 rintro w a cs s ⟨β,g⟩;exact⟨.returned (gv r),w,{ (qg C.f).at a []with mode:=.returning },⟨H,s,hp⟩,Steps.one step_end,rfl,rfl,g.defers,rfl,C.fn,C.hf,rx g h⟩
def sp:Nat->Nat->List (Nat×SV)->List SV
 |_,0,_=>[]
 |i,n+1,[]=>.u::sp (i+1) n []
 |i,n+1,(j,x)::l=>if j=i then x::sp (i+1) n l else .u::sp (i+1) n ((j,x)::l)
def nm:List SV->List SV->Prop
 | [],[]=>True
 | .u::l,_::m=>nm l m
 |x::l,y::m=>x=y/\nm l m
 |_,_=>False
def rN:List js->List js->Prop
 | [],_=>True
 |_::_,[]=>False
 |b::l,c::m=>if b.key=c.key then b=c/\rN l m else rN (b::l) m
def tJ:∀{l m:List SV},nm l m->l.length=m.length/\∀(t:Nat) (sv:SV),l[t]?=some sv->sv=.u\/m[t]?=some sv
 | [],[],_=>⟨rfl,fun t sv h=>by simp at h⟩
 | .u::l,y::m,h=>by
  obtain⟨a,b⟩:=tJ (l:=l) (m:=m) h;refine⟨by simp[a],fun t sv ht=>?_⟩;cases t with
  |zero=>simp at ht;exact .inl ht.symm
  |succ t=>simpa using b t sv (by simpa using ht)
 | .v x::l,y::m,h=>by
  obtain⟨e,h⟩:=h;obtain⟨a,b⟩:=tJ (l:=l) (m:=m) h;refine⟨by simp[a],fun t sv ht=>?_⟩;cases t with
  |zero=>right;simp at ht |-;rw[<-e];exact ht
  |succ t=>simpa using b t sv (by simpa using ht)
 | .p x z::l,y::m,h=>by
  obtain⟨e,h⟩:=h;obtain⟨a,b⟩:=tJ (l:=l) (m:=m) h;refine⟨by simp[a],fun t sv ht=>?_⟩;cases t with
  |zero=>right;simp at ht |-;rw[<-e];exact ht
  |succ t=>simpa using b t sv (by simpa using ht)
 | [],_::_,h=>h.elim
 | .u::_,[],h=>h.elim
 | .v _::_,[],h=>h.elim
 | .p _ _::_,[],h=>h.elim
def xw:∀{l m:List js},rN l m->l.Sublist m
 | [],m,_=>List.nil_sublist m
 |b::l,[],h=>h.elim
 |b::l,c::m,h=>by
  simp only[rN]at h;split at h
  ·obtain⟨rfl,h⟩:=h;exact(xw h).cons_cons _
  ·exact(xw h).cons _
def Gc{σ':St}(ht:nm σ'.tm σ.tm)(hb:rN σ'.bx σ.bx)(h:R C k σ' H):R C k σ H:=by
 rintro w a cs s ⟨β,g⟩;obtain⟨h1,h2⟩:=tJ ht;have h3:=xw hb;refine h w a cs s ⟨β,g.defers,by rw[g.size,h1],fun t sv aa=>?_,fun B hB=>g.bx B (h3.subset hB),fun B hB B' ac=>g.inj B (h3.subset hB) B' (h3.subset ac),fun B hB=>g.lo B (h3.subset hB),g.keys.sublist h3⟩;rcases h2 t sv aa with rfl|h
 ·trivial
 ·exact g.tm t sv h
def mF(key b:Nat):SV->SV
 | .p x off=>if x=key then .v (.pointer (some ⟨b,off,none⟩))else .p x off
 |y=>y
def Wg(key:Nat){B:js}(hB:eJ σ.bx key=some B)(h:∀b,H b=none->R C k ⟨σ.tm.map (mF key b),dR σ.bx key⟩ (H.put b (.cells B.cs.toArray B.ty (0,0)))):R C k σ H:=by
 rintro w a cs s ⟨β,g⟩;obtain⟨hm,hk⟩:=qB hB;obtain⟨hb,hn⟩:=g.bx B hm;rw[hk]at hb hn;have ac:=g.lo B hm;rw[hk]at ac;refine h (β key) hn w a cs ⟨fun c o hc=>?_,s.size,fun c hc aa=>s.priv c hc aa,fun c hc aa=>?_,s.os,s.tape,s.out⟩ ⟨β,g.defers,by simp[g.size],fun t sv ht=>?_,fun B' aj=>?_,fun B1 h1 B2 h2=>?_,fun B1 h1=>g.lo B1 (iO h1).1,pO g.keys⟩
 ·by_cases e:c=β key
  ·subst e;simp only[PH.put,ZT]at hc;cases hc;exact hb
  ·simp only[PH.put,ZV e]at hc;exact s.sub c o hc
 ·have:c≠β key:=by omega
  simp only[PH.put,ZV this];exact s.dom c hc aa
 ·simp only[aai,Z8]at ht;obtain⟨x,hx,rfl⟩:=ht;have:=g.tm t x hx;cases x with
  |v y=>exact this
  |u=>trivial
  |p y off=>
   simp only[mF];split
   ·rename_i e;subst e;exact this
   ·exact this
 ·obtain⟨h1,h2⟩:=iO aj;obtain⟨h3,h4⟩:=g.bx B' h1;refine⟨h3,?_⟩;have:β B'.key≠β key:=fun e=>h2 (by rw[<-hk];exact g.inj B' h1 B hm (by rw[hk];exact e));simp only[PH.put,ZV this];exact h4
 ·exact g.inj B1 (iO h1).1 B2 (iO h2).1
end
open Go
def Jr:List Oper->Nat->Oper
 | [],_=>default
 |o::_,0=>o
 |_::l,n+1=>Jr l n
def pick(ol:List Oper)(κ:List Nat):List (Nat×Oper):=κ.map fun i=>(i,Jr ol i)
def Ut(P:Program)(ol:List Oper)(fr:iK)(str:ip)(K:St->PH->Prop):List (Nat×Oper)->St->PH->Prop
 | [],σ,H=>K σ H
 |(i,o)::l,σ,H=>it P ol (fr.at' i) (str.at' i) o (Ut P ol fr str K l) σ H
def RD(C:Cx)(ol:List Oper)(fr:iK)(str:ip)(l:List (Nat×Oper))(k:List Item)(σ:St)(H:PH):Prop:=Ut C.P ol fr str (R C k) l σ H
variable{ol:List Oper}
def OM{i:Nat}(h:i<ol.length):ol[i]?=some (Jr ol i):=by
 induction ol generalizing i with
 |nil=>simp at h
 |cons o l ih=>cases i with
  |zero=>simp[Jr]
  |succ i=>simpa[Jr]using ih (by simpa using h)
def yS:List js->Bool
 | []=>true
 |b::l=>l.all (fun c=>decide (b.key<c.key)) && yS l
def FK{l:List js}(h:yS l=true):qN l:=by
 induction l with
 |nil=>exact List.Pairwise.nil
 |cons b l ih=>
  simp only[yS,aao]at h;exact List.pairwise_cons.2 ⟨fun y hy=>by simpa using List.all_eq_true.1 h.1 y hy,ih h.2⟩
def xK{P:Program}{f:zP}{s:JG}{o:Oper}{K K':St->PH->Prop}{σ:St}{H:PH}(k:∀σ' H',K σ' H'->K' σ' H')(h:it P ol f s o K σ H):it P ol f s o K' σ H:=by
 rcases h with ⟨hw,h⟩|⟨hw,h⟩
 ·exact .inl ⟨hw,k _ _ h⟩
 ·refine .inr ⟨hw,?_⟩;cases hc:rp o.op<;>rw[hc]at h<;>simp only at h |-
  ·obtain⟨sv,hv,hk⟩:=h;exact⟨sv,hv,k _ _ hk⟩
  ·obtain⟨d,T,cs,hd,ha,hk⟩:=h;exact⟨d,T,cs,hd,ha,k _ _ hk⟩
  ·rcases h with ⟨x,off,cs,ha,hm,hk⟩|⟨hn,hk,aa⟩
   ·exact .inl ⟨x,off,cs,ha,hm,k _ _ hk⟩
   ·exact .inr ⟨hn,hk,aa.mono fun sv H2 hh=>k _ _ hh⟩
  ·exact⟨h.1,h.2.mono fun sv H2 hh=>⟨hh.1,k _ _ hh.2⟩⟩
  ·exact fun b hb=>k _ _ (h b hb)
def uF{P:Program}{ol:List Oper}{fr:iK}{str:ip}{K:St->PH->Prop}:∀(κ:List Nat) {σ:St} {H:PH},(∀i∈κ,i<ol.length)->Ut P ol fr str K (pick ol κ) σ H->VD P ol fr str K κ σ H
 | [],σ,H,_,h=>h
 |i::κ,σ,H,hl,h=>by
  simp only[VD,OM (hl i (.head _))];exact xK (fun σ' H' h'=>uF κ (fun j hj=>hl j (.tail _ hj)) h') h
section
variable {C:Cx} {k:List Item} {σ:St} {H:PH}
variable{ops:Array Oper}{id:Nat}
def wM(hm:C.P.follows .mixedOrders=true)(κ:List Nat)(fr:iK)(str:ip)(aa:OD ops.toList κ fr str=true)(hs:yS σ.bx=true)
  (h:RD C ops.toList fr str (pick ops.toList κ) k σ H):RC C (.st (.code (.region id ops true)::k)) σ H:=by
 refine Tn hm κ fr str aa (FK hs) (uF κ ?_ h);simp only[OD,aao]at aa;have h3:=aa.2;intro i hi
 suffices hh:∀(l:List Nat),cN ops.toList (jr ops.toList) fr str l=true->∀i∈l,i<ops.toList.length from hh κ h3 i hi
 intro l
 induction l with
 |nil=>intro _ i hi;cases hi
 |cons x l ih=>
  intro hp i hi;simp only[cN,aao,aaC]at hp;rcases List.mem_cons.1 hi with rfl|hi
  ·exact hp.1.1.1
  ·exact ih hp.2 i hi
def dN(hm:C.P.follows .mixedOrders=true)(κ fr str:List Nat)(aa:OD ops.toList κ ⟨fr,[],PH.emp,[],[]⟩ ⟨str,[],[]⟩=true)(hs:yS σ.bx=true)
  (h:RD C ops.toList ⟨fr,[],PH.emp,[],[]⟩ ⟨str,[],[]⟩ (pick ops.toList κ) k σ H):RC C (.st (.code (.region id ops true)::k)) σ H:=wM hm κ _ _ aa hs h
def iZ(hm:C.P.follows .mixedOrders=true)(κ fr str fj sj:List Nat)(J:PH)(aa:OD ops.toList κ ⟨fr,fj,J,[],[]⟩ ⟨str,sj,[]⟩=true)(hs:yS σ.bx=true)
  (h:RD C ops.toList ⟨fr,fj,J,[],[]⟩ ⟨str,sj,[]⟩ (pick ops.toList κ) k σ H):RC C (.st (.code (.region id ops true)::k)) σ H:=wM hm κ _ _ aa hs h
def cK(hm:C.P.follows .mixedOrders=true)(κ fr str fk sk kp:List Nat)(aa:OD ops.toList κ ⟨fr,[],PH.emp,fk,kp⟩ ⟨str,[],sk⟩=true)(hs:yS σ.bx=true)
  (h:RD C ops.toList ⟨fr,[],PH.emp,fk,kp⟩ ⟨str,[],sk⟩ (pick ops.toList κ) k σ H):RC C (.st (.code (.region id ops true)::k)) σ H:=wM hm κ _ _ aa hs h
def l9(fr:iK)(str:ip)(i:Nat)(H H2:PH):Prop:=(str.h.contains i=true->H.le H2)/\(str.j.contains i=true->fr.J.le H->fr.J.le H2)
variable{H2:PH}{i:Nat}{str:ip}{fr:iK}
def l9.le{H:PH}(h:H.le H2):l9 fr str i H H2:=⟨fun _=>h,fun _ hj=>abV hj h⟩
def l9.non{H:PH}(h:str.h.contains i=false)(h2:str.j.contains i=false):l9 fr str i H H2:=⟨fun e=>Bool.noConfusion (h.symm.trans e),fun e=>Bool.noConfusion (h2.symm.trans e)⟩
variable{ρ:Operand->SV}{bx:List js}
def T4{P:Program}{op:Op}{x:Prop×SV}(h:pv P bx ρ op=some x):rp op=.val:=by
 cases op<;>first|rfl|cases h|skip
 rename_i c;obtain⟨callee,args,types⟩:=c;cases callee with
 |builtin b=>cases b<;>first|rfl|(simp[pv,nV]at h)
 |value f=>simp[pv,nV]at h
 |invoke r m=>simp[pv,nV]at h
def Kr{P:Program}{op:Op}{x:TypeId×List Value}(h:qM P ρ op=some x):rp op=.alc:=by
 cases op<;>first|rfl|cases h
def K4{P:Program}{op:Op}{x:Nat×Nat×List Value}(h:vD P bx ρ op=some x):rp op=.st:=by
 cases op<;>first|rfl|cases h
def Ac(P:Program)(ol:List Oper)(fk sk:Bool)(kp:List Nat)(o:Oper)(σ:St):Option (Prop×St):=
 match aH ol σ o with
 |some false=>some (True,σ.put o.dst (.v undef))
 |some true=>match pv P (kb fk kp σ.bx) (ev σ) o.op with
  |some (φ,sv)=>some (φ,σ.put o.dst sv)
  |none=>match o.dst,qM P (ev σ) o.op with
   |some d,some (T,cs)=>some (True,σ.newBox d T cs)
   |_,_=>match vD P σ.bx (ev σ) o.op with
    |some (x,off,cs)=>if sk && lx kp x then none else some (True,(σ.store x off cs).put o.dst .u)
    |none=>none
 |none=>none
variable{o:Oper}{ol:List Oper}
def uD{P:Program}{σ':St}{φ:Prop}{K:St->PH->Prop}{f:zP}{s:JG}(h:Ac P ol f.k s.k f.kp o σ=some (φ,σ'))(hφ:φ)(hk:K σ' H):it P ol f s o K σ H:=by
 unfold Ac at h;split at h
 ·rename_i hw;cases h;exact .inl ⟨hw,hk⟩
 ·rename_i hw;refine .inr ⟨hw,?_⟩;split at h
  ·rename_i φ' sv hp;cases h;rw[T4 hp];exact⟨sv,.inl ⟨φ,hp,hφ⟩,hk⟩
  ·split at h
   ·rename_i d T cs hd ha;cases h;rw[Kr ha];exact⟨d,T,cs,hd,ha,hk⟩
   ·split at h
    ·rename_i x off cs hs;split at h
     ·cases h
     ·rename_i hc;cases h;rw[K4 hs]
      refine .inl ⟨x,off,cs,hs,fun e=>?_,hk⟩;rw[e]at hc;simpa using hc
    ·cases h
 ·cases h
def my(P:Program)(ol:List Oper)(fk sk kp:List Nat):List (Nat×Oper)->St->List Prop->List Prop×List (Nat×Oper)×St
 | [],σ,ps=>(ps,[],σ)
 |(i,o)::l,σ,ps=>match Ac P ol (lx fk i) (lx sk i) kp o σ with
  |some (φ,σ')=>my P ol fk sk kp l σ' (φ::ps)
  |none=>(ps,(i,o)::l,σ)
def wY{ol:List Oper}{fr:iK}{str:ip}:∀(l:List (Nat×Oper)) (σ:St) (ps:List Prop),qS (my C.P ol fr.k str.k fr.kp l σ ps).1->RD C ol fr str (my C.P ol fr.k str.k fr.kp l σ ps).2.1 k (my C.P ol fr.k str.k fr.kp l σ ps).2.2 H->qS ps/\RD C ol fr str l k σ H
 | [],σ,ps,hp,h=>⟨hp,h⟩
 |(i,o)::l,σ,ps,hp,h=>by
  unfold my at hp h;cases ha:Ac C.P ol (lx fr.k i) (lx str.k i) fr.kp o σ with
  |none=>rw[ha]at hp h;exact⟨hp,h⟩
  |some x=>
   obtain⟨φ,σ'⟩:=x;rw[ha]at hp h;obtain⟨⟨a,b⟩,c⟩:=wY l _ _ hp h;exact⟨a,uD (f:=fr.at' i) (s:=str.at' i) ha b c⟩
variable{l:List (Nat×Oper)}
def SX(h:qS (my C.P ol fr.k str.k fr.kp l σ []).1/\RD C ol fr str (my C.P ol fr.k str.k fr.kp l σ []).2.1 k (my C.P ol fr.k str.k fr.kp l σ []).2.2 H):RD C ol fr str l k σ H:=(wY l σ [] h.1 h.2).2
def CI(C:Cx)(ol:List Oper)(fr:iK)(str:ip)(k:List Item)(H:PH)(r:List Prop×List (Nat×Oper)×St):Prop:=qS r.1/\RD C ol fr str r.2.1 k r.2.2 H
theorem NW(C:Cx)(ol:List Oper)(fr:iK)(str:ip)(k:List Item)(H:PH)(ps:List Prop)(l:List (Nat×Oper))(σ:St):CI C ol fr str k H (ps,l,σ)=(qS ps/\RD C ol fr str l k σ H):=rfl
def au(h:CI C ol fr str k H (my C.P ol fr.k str.k fr.kp l σ [])):RD C ol fr str l k σ H:=SX h
def aw(h:RC C (.st k) σ H):RD C ol fr str [] k σ H:=h
def uB(hw:aH ol σ o=some true)(hk:bh σ o.op=true)(hc:rp o.op=.gen)
  (h:de C.P (execOp (bN σ) o) H fun sv H2=>l9 fr str i H H2/\RD C ol fr str l k (σ.put o.dst sv) H2):RD C ol fr str ((i,o)::l) k σ H:=
 .inr ⟨hw,by rw[hc];exact⟨hk,h⟩⟩
def Mp(hs:lx str.k i=false)(hw:aH ol σ o=some true)(hk:bh σ o.op=true)(hc:rp o.op=.st)
  (h:de C.P (execOp (bN σ) o) H fun sv H2=>RD C ol fr str l k (σ.put o.dst sv) H2):RD C ol fr str ((i,o)::l) k σ H:=
 .inr ⟨hw,by rw[hc];exact .inr ⟨hs,hk,h⟩⟩
def wB(v:Value)(hf:fr.h.contains i=true)(hw:aH ol σ o=some true)(hk:bh σ o.op=true)(hc:rp o.op=.val)
  (hv:∀w,Sub H w->(execOp (bN σ) o).run C.P w=.ok (.value v) w) (h:RD C ol fr str l k (σ.put o.dst (.v v)) H):RD C ol fr str ((i,o)::l) k σ H:=
 .inr ⟨hw,by rw[hc];exact⟨_,.inr (.inl ⟨hf,v,rfl,hk,hv⟩),h⟩⟩
def Mr(v:Value)(hf:fr.j.contains i=true)(hJ:fr.J.le H)(hw:aH ol σ o=some true)(hk:bh σ o.op=true)(hc:rp o.op=.val)
  (hv:∀w,Sub fr.J w->(execOp (bN σ) o).run C.P w=.ok (.value v) w) (h:RD C ol fr str l k (σ.put o.dst (.v v)) H):RD C ol fr str ((i,o)::l) k σ H:=
 .inr ⟨hw,by rw[hc];exact⟨_,.inr (.inr ⟨hf,hJ,v,rfl,hk,hv⟩),h⟩⟩
variable{f:FuncId}
def AW {P:Program}  {fn:Func} (hf:P.funcs[f]?=some fn) (hb:fn.body.isNone=false) (hn:(fn.name == "runtime.NumGoroutine")=false) (args:Array Value) (w:World) :
  (callFunc f args).run P w=.ok (.enter f args) w:=by
 simp only[callFunc,ZY,program,Sem.run,Result.andThen,hf,hn,hb];simp
def aO (P:Program) (f:FuncId):Prop:=∃fn,P.funcs[f]?=some fn/\fn.body.isNone=false/\(fn.name == "runtime.NumGoroutine")=false
variable{Φ:Value->PH->Prop}{first cap:Array Value}{vs:List Value}{ts:Array TypeId}{aq:Array Operand}{x:Operand}
def Aa{P:Program}(ak:o.op=.call ⟨.value x,aq,ts⟩)
  (hx:ev σ x=.v (.func (.func f) first cap)) (ha:j8 (ev σ) aq.toList=some vs) (hg:aO P f) (h:bO P f (first++vs.toArray++cap) H Φ) :
  bh σ o.op=true/\de P (execOp (bN σ) o) H fun sv H2=>∃v,sv=.v v/\Φ v H2:=by
 have aj:∀(l:List Operand) (r:List Value),j8 (ev σ) l=some r->l.map (bN σ)=r/\∀y∈l,ul (ev σ y)=true:=by
  intro l
  induction l with
  |nil=>intro r h;cases h;exact⟨rfl,fun y hy=>(aaB hy).elim⟩
  |cons y l ih=>
   intro r h;simp only[j8]at h;split at h
   ·rename_i v r' hv hr;cases h
    obtain⟨h1,h2⟩:=ih _ hr;refine⟨by simp[bN,hv,h1],fun z hz=>?_⟩;rcases List.mem_cons.1 hz with rfl|hz
    ·rw[hv];rfl
    ·exact h2 z hz
   ·cases h
 obtain⟨h1,h2⟩:=aj _ _ ha;obtain⟨fn,hf,hb,hn⟩:=hg;constructor
 ·simp only[bh,ak,fT,Op.operands,Call.operands,Bool.true_and,aap];intro y hy;simp at hy;rcases hy with rfl|hy
  ·rw[hx];rfl
  ·exact h2 y (by simpa using hy)
 ·intro w hw;have aa:aq.map (bN σ)=vs.toArray:=by rw[<-aaa];simpa using h1
  have am:bN σ x=.func (.func f) first cap:=by simp[bN,hx]
  have ac:(execOp (bN σ) o).run P w=.ok (.enter f (first++vs.toArray++cap)) w:=by
   simp only[execOp,ak,resolve,aa,am,Deferred.ofValue,ZY];simp[Result.andThen,invoke,AW hf hb hn]
  rw[ac];exact(h w hw).mono fun e w2 he=>by
   cases e with
   |returned v=>obtain⟨H2,a,b⟩:=he;exact⟨H2,a,v,rfl,b⟩
   |outgrown=>exact he
   |panicked c=>exact he
variable{rem:List Oper}
def aF(hw:aH ol σ o=some true)(aa:o.op=.call ⟨.value x,aq,ts⟩)
  (hx:ev σ x=.v (.func (.func f) first cap)) (ha:j8 (ev σ) aq.toList=some vs) (hg:aO C.P f) (h:bO C.P f (first++vs.toArray++cap) H Φ)
  (hk:∀v H2,Φ v H2->RC C (.op ol rem k) (σ.put o.dst (.v v)) H2):RC C (.op ol (o::rem) k) σ H:=by
 obtain⟨h1,h2⟩:=Aa aa hx ha hg h;exact iU hw h1 (h2.mono fun sv H2 ⟨v,e,p⟩=>by subst e;exact hk v H2 p)
def WZ(hq:(aH ol σ o,o.op,ev σ x,j8 (ev σ) aq.toList)=(some true,Op.call ⟨.value x,aq,ts⟩,SV.v (.func (.func f) first cap),some vs))(hg:aO C.P f)(h:bO C.P f (first++vs.toArray++cap) H Φ)
  (hk:∀v H2,Φ v H2->RC C (.op ol rem k) (σ.put o.dst (.v v)) H2):RC C (.op ol (o::rem) k) σ H:=by
 simp only[aaI]at hq;exact aF hq.1 hq.2.1 hq.2.2.1 hq.2.2.2 hg h hk
def tH(hw:aH ol σ o=some true)(aa:o.op=.call ⟨.value x,aq,ts⟩)
  (hx:ev σ x=.v (.func (.func f) first cap)) (ha:j8 (ev σ) aq.toList=some vs) (hg:aO C.P f) (h:bO C.P f (first++vs.toArray++cap) H Φ)
  (hk:∀v H2,Φ v H2->l9 fr str i H H2/\RD C ol fr str l k (σ.put o.dst (.v v)) H2):RD C ol fr str ((i,o)::l) k σ H:=by
 obtain⟨h1,h2⟩:=Aa aa hx ha hg h;exact uB hw h1 (by rw[aa];rfl) (h2.mono fun sv H2 ⟨v,e,p⟩=>by subst e;exact hk v H2 p)
def aP(H:PH)(b off:Nat)(l:List Value):Prop:=∃cs ty fz,H b=some (.cells cs ty fz)/\off+l.length<=cs.size/\(cs.toList.drop off).take l.length=l
variable{b off:Nat}
def aP.le{H:PH}{l:List Value}(h:aP H b off l)(k:H.le H2):aP H2 b off l:=by
 obtain⟨cs,ty,fz,a,b,c⟩:=h;exact⟨cs,ty,fz,k _ _ a,b,c⟩
variable{v:Value}
def LF{P:Program}{T:TypeId}{l:List Value}(h:aP H b off l)(hT:bk P T=some (some l.length)/\v=.agg l.toArray\/bk P T=some none/\l=[v])(w:World)(hw:Sub H w):
  (loadVar T ⟨b,off,none⟩).run P w=.ok v w:=by
 obtain⟨cs,ty,fz,h1,h2,h3⟩:=h;have hb:=hw b _ h1;have:cs=cs.toList.toArray:=by simp
 rw[this]at hb;refine pK hb ?_;unfold iR;rcases hT with ⟨ht,rfl⟩|⟨ht,rfl⟩
 ·rw[ht];simp only[hZ];rw[aaq h2,h3]
 ·rw[ht];simp only[aaJ]at h2 h3;simp only;have aa:off<cs.toList.length:=by simp;omega
  have:cs.toList.drop off=cs.toList[off]::cs.toList.drop (off+1):=aaK aa;rw[this]at h3;simp at h3;rw[aak aa];simp[h3]
def qu{P:Program}{T:TypeId}{l:List Value}(aa:o.op=.load T x)(hx:ev σ x=.v (.pointer (some ⟨b,off,none⟩)))(h:aP H b off l)
  (hT:bk P T=some (some l.length)/\v=.agg l.toArray\/bk P T=some none/\l=[v]):bh σ o.op=true/\∀w,Sub H w->(execOp (bN σ) o).run P w=.ok (.value v) w:=by
 constructor
 ·simp[bh,aa,fT,Op.operands,hx,ul]
 ·intro w hw;have:=LF h hT w hw;simp[execOp,aa,bN,hx,Instr.loadAt,Instr.sureAddr,this,Result.andThen]
def av{T:TypeId}{l:List Value}(hw:aH ol σ o=some true)(aa:o.op=.load T x)(hx:ev σ x=.v (.pointer (some ⟨b,off,none⟩)))(h:aP H b off l)
  (hT:bk C.P T=some (some l.length)/\v=.agg l.toArray\/bk C.P T=some none/\l=[v]) (hk:RC C (.op ol rem k) (σ.put o.dst (.v v)) H):RC C (.op ol (o::rem) k) σ H:=by
 obtain⟨h1,h2⟩:=qu (P:=C.P) aa hx h hT;exact vZ v hw h1 h2 hk
def XN{T:TypeId}{l:List Value}(hq:(aH ol σ o,o.op,ev σ x)=(some true,Op.load T x,SV.v (.pointer (some ⟨b,off,none⟩))))(h:aP H b off l)
  (hT:bk C.P T=some (some l.length)/\v=.agg l.toArray\/bk C.P T=some none/\l=[v]) (hk:RC C (.op ol rem k) (σ.put o.dst (.v v)) H):RC C (.op ol (o::rem) k) σ H:=by
 simp only[aaI]at hq;exact av hq.1 hq.2.1 hq.2.2 h hT hk
variable{l':List (Nat×Oper)}
def ai{T:TypeId}{l:List Value}(hf:fr.h.contains i=true)(hw:aH ol σ o=some true)(aa:o.op=.load T x)(hx:ev σ x=.v (.pointer (some ⟨b,off,none⟩)))(h:aP H b off l)
  (hT:bk C.P T=some (some l.length)/\v=.agg l.toArray\/bk C.P T=some none/\l=[v]) (hk:RD C ol fr str l' k (σ.put o.dst (.v v)) H):RD C ol fr str ((i,o)::l') k σ H:=by
 obtain⟨h1,h2⟩:=qu (P:=C.P) aa hx h hT;exact wB v hf hw h1 (by rw[aa];rfl) h2 hk
def W7{T:TypeId}{l:List Value}(hq:(fr.h.contains i,aH ol σ o,o.op,ev σ x)=(true,some true,Op.load T x,SV.v (.pointer (some ⟨b,off,none⟩))))(h:aP H b off l)
  (hT:bk C.P T=some (some l.length)/\v=.agg l.toArray\/bk C.P T=some none/\l=[v]) (hk:RD C ol fr str l' k (σ.put o.dst (.v v)) H):RD C ol fr str ((i,o)::l') k σ H:=by
 simp only[aaI]at hq;exact ai hq.1 hq.2.1 hq.2.2.1 hq.2.2.2 h hT hk
def je{T:TypeId}{l:List Value}(hf:fr.j.contains i=true)(hJ:fr.J.le H)(hw:aH ol σ o=some true)(aa:o.op=.load T x)(hx:ev σ x=.v (.pointer (some ⟨b,off,none⟩)))(h:aP fr.J b off l)
  (hT:bk C.P T=some (some l.length)/\v=.agg l.toArray\/bk C.P T=some none/\l=[v]) (hk:RD C ol fr str l' k (σ.put o.dst (.v v)) H):RD C ol fr str ((i,o)::l') k σ H:=by
 obtain⟨h1,h2⟩:=qu (P:=C.P) aa hx h hT;exact Mr v hf hJ hw h1 (by rw[aa];rfl) h2 hk
end
open Go
def jv(P:Program)(t e:TypeId)(size bytes:Nat):Prop:=
 ∃i z,P.underlying t=some (.slice e)/\P.info? e=some i/\i.zero=some z/\i.size=size/\i.bytes=bytes/\z.cells.size=size/\0<size
variable{size bytes:Nat}{e:TypeId}
def jv.of{P:Program}{t:TypeId}(h1:P.underlying t=some (.slice e))(h2:(P.info? e).map (fun i=>(i.zero.map (·.cells.size),i.size,i.bytes))=some (some size,size,bytes))(h3:0<size):jv P t e size bytes:=by
 cases hi:P.info? e with
 |none=>rw[hi]at h2;cases h2
 |some i=>
  rw[hi]at h2;simp only[Z9,ZW,aaI]at h2;obtain⟨a,b,c⟩:=h2;cases hz:i.zero with
  |none=>rw[hz]at a;cases a
  |some z=>
   rw[hz]at a;simp only[Z9,ZW]at a;exact⟨i,z,h1,hi,hz,b,c,a,h3⟩
def iT (H : PH) (e : TypeId) (size : Nat) (v : Value) (n : Nat) (xs : List Value) : Prop :=
  xs.length = n * size ∧
  ((v = .slice none 0 0 ∧ n = 0) ∨
   ∃ g cap cur, v = .slice (some ⟨g, 0, none⟩) n cap ∧ H g = some (.cells cur e (0, 0)) ∧ n ≤ cap ∧ cap ≤ maxLen ∧ cur.size = cap * size ∧ cur.toList.take (n * size) = xs)
def iT.nil(H:PH)(e:TypeId)(size:Nat):iT H e size (.slice none 0 0) 0 []:=⟨by simp,.inl ⟨rfl,rfl⟩⟩
variable{xs:List Value}{v:Value}
def iT.toRow{H:PH}{n:Nat}(h:iT H e size v n xs){w:World}(s:Sub H w):w.ownsRow 0 e size v n xs:=by
 obtain⟨h1,h2⟩:=h;refine⟨h1,?_⟩;rcases h2 with h2|⟨g,cap,cur,a,b,c,d,f,k⟩
 ·exact .inl h2
 ·exact .inr ⟨g,cap,cur,a,aaL _,s _ _ b,c,d,f,k⟩
def RH(U6:Option Nat)(H H2:PH):Prop:=∀b o,some b≠U6->H b=some o->H2 b=some o
def RH.refl(U6:Option Nat)(H:PH):RH U6 H H:=fun _ _ _ h=>h
def uS{P:Program}{t ty:TypeId}(ht:jv P t e size bytes){H:PH}{n:Nat}(an:iT H e size v n xs)
  {xb xo m c:Nat} {news:List Value} (hx:aP H xb xo news) (hl:news.length=m*size) (h1:∀u∈news,one u=true) (hb:(n+m)*bytes<=140737488355328) (bc:n+m<=maxLen) (w:World) (s:Sub H w) :
  ∃v' w' H2,(Builtin.append_ #[t,t] ty #[v,.slice (some ⟨xb,xo,none⟩) m c]).run P w=.ok v' w'/\dM H w H2 w'/\iT H2 e size v' (n+m) (xs++news)/\RH v.ownBlock H H2/\
   (v'.ownBlock=v.ownBlock\/∀g,v'.ownBlock=some g->H g=none):=by
 obtain⟨i,z,a1,a2,a3,a4,a5,a6,a7⟩:=ht;obtain⟨cs,cty,cfz,c1,c2,c3⟩:=hx;have aq:∀j u,news[j]?=some u->w.cell? ((⟨xb,xo,none⟩:Addr).add j)=some u:=by
  intro j u hj;have a9:=s _ _ c1;rw[show cs=cs.toList.toArray from by simp]at a9;rw[gG,sQ a9];rw[<-c3]at hj;rw[Z0]at hj;split at hj
  ·rw[Z1]at hj;exact hj
  ·cases hj
 obtain⟨v',w',ak,am,aa,_,aj⟩:=run_append_own_at w 0 t ty e i z size bytes a1 a2 a3 a4 a5 a6 a7 v n xs (an.toRow s) ⟨xb,xo,none⟩ m c news hl aq
  (fun u hu=>by have:=h1 u hu;cases u<;>first|rfl|cases this) bc hb (aaL _)
 have ownH:∀b,v.ownBlock=some b->H b≠none:=by
  intro b hb;rcases an.2 with ⟨rfl,_⟩|⟨g,cap,cur,rfl,hg,_⟩
  ·cases hb
  ·simp only[Value.ownBlock,ZW]at hb;subst hb;rw[hg];exact fun e=>by cases e
 have keep:∀b o,some b≠v.ownBlock->H b=some o->w'.heap[b]?=some o:=fun b o hb ho=>by
  rw[aa.block b (eO (s b o ho)) hb];exact s b o ho
 have ac:∀b,b<w.heap.size->H b=none->w'.heap[b]?=w.heap[b]?:=fun b hb hn=>aa.block b hb fun e=>ownH b e.symm hn;obtain⟨ao,aS⟩:=am;rcases aS with ⟨rfl,ba⟩|⟨g,cap,cur,rfl,_,hg,q1,q2,q3,q4⟩
 ·refine⟨_,w',fun b=>if some b=v.ownBlock then none else H b,ak,⟨fun b o h=>?_,aa.size,ac,fun b _ hn=>by simp[hn],aa.os,aa.tape,aa.output⟩,⟨ao,.inl ⟨rfl,ba⟩⟩,fun b o hb ho=>by simp[hb,ho],.inr fun g h=>by cases h⟩;split at h
  ·cases h
  ·exact keep b o (by assumption) h
 ·have bb:v.ownBlock=some g\/H g=none:=by
   rcases aj with h|h
   ·left;rw[<-h];rfl
   ·right
    simp only[Value.ownBlock,ZW]at h;subst h;cases hH:H w.heap.size with
    |none=>rfl
    |some o=>exact absurd (eO (s _ _ hH)) ab
  refine⟨_,w',fun b=>if b=g then some (.cells cur e (0,0))else if some b=v.ownBlock then none else H b,ak,⟨fun b o h=>?_,aa.size,ac,fun b hb hn=>?_,aa.os,aa.tape,aa.output⟩,
   ⟨ao,.inr ⟨g,cap,cur,rfl,by simp,q1,q2,q3,q4⟩⟩,fun b o hb ho=>?_,?_⟩
  ·split at h
   ·rename_i e1;subst e1;cases h;exact hg
   ·split at h
    ·cases h
    ·exact keep b o (by assumption) h
  ·have:b≠g:=by
    rintro rfl;rcases aj with h|h
    ·exact ownH b (by rw[<-h];rfl) hn
    ·simp only[Value.ownBlock,ZW]at h;omega
   simp[this,hn]
  ·have:b≠g:=by
    rintro rfl;rcases bb with h|h
    ·exact hb h.symm
    ·rw[h]at ho;cases ho
   simp[this,hb,ho]
  ·rcases aj with h|h
   ·exact .inl h
   ·right
    intro g' a0;rw[h]at a0;simp only[ZW]at a0;subst a0;cases hH:H w.heap.size with
    |none=>rfl
    |some o=>exact absurd (eO (s _ _ hH)) ab
def iF(size:Nat):Nat->List (Nat×Value)->Bool
 |_,[]=>true
 |j,(i,v)::l=>decide (i=j) && decide (v.cells.toList.length=size) && iF size (j+1) l
def aD:List (Nat×Value)->List Value
 | []=>[]
 |(_,v)::l=>v.cells.toList++aD l
def fE(l cs:List Value)(off:Nat)(h:off+cs.length<=l.length):br l off cs=l.take off++cs++l.drop (off+cs.length):=by
 induction cs generalizing l off with
 |nil=>simp[br]
 |cons c cs ih=>
  simp only[aaj]at h;have aa:off<l.length:=by omega
  rw[br,ih _ _ (by simp;omega)];rw[List.take_set,List.drop_set];have h1:(l.take (off+1)).set off c=l.take off++[c]:=by
   rw[aaM aa,List.set_append];simp[aaN (aar aa)]
  rw[h1,aaq ab];simp[Nat.add_assoc,Nat.add_comm 1]
def xH(size:Nat):∀(parts:List (Nat×Value)) (j:Nat) (cells:List Value),iF size j parts=true->cells.length=(j+parts.length)*size->
  ru (fun i=>some (i*size,size)) cells parts=some (cells.take (j*size)++aD parts)
 | [],j,cells,_,hl=>by
  simp only[aaO,acS]at hl;simp[ru,aD,<-hl]
 |(i,v)::l,j,cells,h,hl=>by
  simp only[iF,aao,aaC]at h;obtain⟨⟨rfl,h2⟩,h3⟩:=h;simp only[aaj]at hl;have aa:i*size+size<=cells.length:=by
   rw[hl];have:i*size+size=(i+1)*size:=by rw[aaP];simp
   rw[this];exact aaQ _ ab
  simp only[ru,h2,acT,aaq aa];rw[xH size l (i+1) _ h3 (by rw[aX,hl];congr 1;omega)];rw[fE _ _ _ (by rw[h2];exact aa)];simp only[aD];congr 1;rw[h2];have e1:(i+1)*size=i*size+size:=by rw[aaP];simp
  have e2:(cells.take (i*size)++v.cells.toList).length=(i+1)*size:=by simp[h2,e1];omega
  rw[aaR ab,<-e2,aaS,aaT]
def xG{P:Program}{t:TypeId}(ht:jv P t e size bytes){len:Nat}{parts:List (Nat×Value)}(hp:iF size 0 parts=true)(aa:parts.length=len)(ak:len*size<=16777216)(w:World):
  (Instr.buildSlice t len parts.toArray).run P w=.ok (.slice (some ⟨w.heap.size,0,none⟩) len len) { w with heap:=w.heap.push (.cells (aD parts).toArray e (0,0)) }:=by
 obtain⟨i,z,a1,a2,a3,a4,a5,a6,a7⟩:=ht;have und:(underlying t).run P w=.ok (.slice e) w:=bt a1;have sz:(sizeOf e).run P w=.ok size w:=by simp[sizeOf,typeInfo,program,Sem.run,a2,a4]
 have zv:(zeroValue e).run P w=.ok z w:=by simp[zeroValue,typeInfo,program,Sem.run,a2,a3]
 have key:∀(zero:Array Value),Instr.fill (fun i=>some (i*size,size)) ((Array.range (len*size)).map (zero[· % zero.size]!)) parts=some (aD parts).toArray:=by
  intro zero;refine BK (fun i x h=>h) ?_;have:=xH size parts 0 ((Array.range (len*size)).map (zero[· % zero.size]!)).toList hp (by simp[aa]);simpa using this
 by_cases h0:len*size=0
 ·simp only[Instr.buildSlice,ZY,und,Result.andThen,sz,ZV (show ¬len*size>2^24 by omega),aaq h0];have aj:len=0:=by
   rcases Nat.mul_eq_zero.1 h0 with h|h
   ·exact h
   ·omega
  subst aj;have ac:parts=[]:=List.length_eq_zero_iff.1 aa;subst ac;simp[Instr.fill,aD,newRow,newObj,Sem.run,Result.andThen];rw[show Array.range 0=#[] from Array.eq_empty_of_size_eq_zero (by simp)];simp
 ·simp only[Instr.buildSlice,ZY,und,Result.andThen,sz,ZV (show ¬len*size>2^24 by omega),ZV h0,zv];simp[key,newRow,newObj,Sem.run,Result.andThen]
def uT{σ:St}:∀{l:List (Nat×Operand)} {r:List (Nat×Value)},mH (ev σ) l=some r->l.map (fun x=>(x.1,bN σ x.2))=r/\∀y∈l,ul (ev σ y.2)=true
 | [],r,h=>by cases h;exact⟨rfl,fun y hy=>(aaB hy).elim⟩
 |(i,y)::l,r,h=>by
  simp only[mH]at h;split at h
  ·rename_i v r' hv hr;cases h
   obtain⟨h1,h2⟩:=uT hr;have hc:bN σ y=v:=by simp[bN,hv]
   refine⟨by rw[aaU,h1,hc],fun z hz=>?_⟩;rcases List.mem_cons.1 hz with rfl|hz
   ·rw[hv];rfl
   ·exact h2 z hz
  ·cases h
section
variable {C:Cx} {P:Program} {k:List Item} {σ:St} {H:PH}
variable{ps:List (Nat×Value)}{parts:Array (Nat×Operand)}{size bytes:Nat}{t e:TypeId}{o:Oper}
def oP{len:Nat}(am:o.op=.buildSlice t len parts)(ha:mH (ev σ) parts.toList=some ps)(ht:jv P t e size bytes)
  (hp:iF size 0 ps=true) (aj:ps.length=len) (ak:len*size<=16777216) :
  bh σ o.op=true/\de P (execOp (bN σ) o) H fun sv H2=>∃b,H b=none/\sv=.v (.slice (some ⟨b,0,none⟩) len len)/\H2=H.put b (.cells (aD ps).toArray e (0,0)):=by
 obtain⟨h1,h2⟩:=uT ha;constructor
 ·simp only[bh,am,fT,Op.operands,Bool.true_and,aap];intro y hy;simp at hy;obtain⟨i,hi⟩:=hy;exact h2 (i,y) (by simpa using hi)
 ·intro w hw;have aa:(parts.map fun(i,x)=>(i,bN σ x))=ps.toArray:=by rw[<-aaa];simpa using h1
  have:=xG ht hp aj ak w;obtain⟨n1,n2⟩:=dM.new hw (.cells (aD ps).toArray e (0,0));have ac:(execOp (bN σ) o).run P w=.ok (.value (.slice (some ⟨w.heap.size,0,none⟩) len len)) { w with heap:=w.heap.push (.cells (aD ps).toArray e (0,0)) }:=by
   simp only[execOp,am,aa,ZY,this];simp[Result.andThen]
  rw[ac];exact⟨_,n2,w.heap.size,n1,rfl,rfl⟩
variable{ol rem:List Oper}
def qW{len:Nat}(ht:jv C.P t e size bytes)(hw:aH ol σ o=some true)(aj:o.op=.buildSlice t len parts)(ha:mH (ev σ) parts.toList=some ps)
  (hp:iF size 0 ps=true) (aa:ps.length=len) (ac:len*size<=16777216)
  (hk:∀b,H b=none->RC C (.op ol rem k) (σ.put o.dst (.v (.slice (some ⟨b,0,none⟩) len len))) (H.put b (.cells (aD ps).toArray e (0,0)))):RC C (.op ol (o::rem) k) σ H:=by
 obtain⟨h1,h2⟩:=oP (H:=H) aj ha ht hp aa ac;exact iU hw h1 (h2.mono fun sv H2 ⟨b,a,c,d⟩=>by subst c;subst d;exact hk b a)
variable{l:List (Nat×Oper)}{i:Nat}{str:ip}{fr:iK}
def yW{len:Nat}(ht:jv C.P t e size bytes)(hw:aH ol σ o=some true)(aj:o.op=.buildSlice t len parts)(ha:mH (ev σ) parts.toList=some ps)
  (hp:iF size 0 ps=true) (aa:ps.length=len) (ac:len*size<=16777216)
  (hk:∀b,H b=none->RD C ol fr str l k (σ.put o.dst (.v (.slice (some ⟨b,0,none⟩) len len))) (H.put b (.cells (aD ps).toArray e (0,0)))):RD C ol fr str ((i,o)::l) k σ H:=by
 obtain⟨h1,h2⟩:=oP (H:=H) aj ha ht hp aa ac;exact uB hw h1 (by rw[aj];rfl) (h2.mono fun sv H2 ⟨b,a,c,d⟩=>by subst c;subst d;exact⟨l9.le (PH.le_put a),hk b a⟩)
variable{xs news:List Value}{v:Value}{x y:Operand}
def uW{n xb xo m c:Nat}(ht:jv P t e size bytes)(ak:o.op=.call ⟨.builtin .append,#[x,y],#[t,t]⟩)(hx:ev σ x=.v v)(hy:ev σ y=.v (.slice (some ⟨xb,xo,none⟩) m c))
  (aj:iT H e size v n xs) (hn:aP H xb xo news) (hl:news.length=m*size) (h1:news.all one=true) (hb:(n+m)*bytes<=140737488355328) (ao:n+m<=maxLen) :
  bh σ o.op=true/\de P (execOp (bN σ) o) H fun sv H2=>∃v',sv=.v v'/\iT H2 e size v' (n+m) (xs++news)/\RH v.ownBlock H H2/\(v'.ownBlock=v.ownBlock\/∀g,v'.ownBlock=some g->H g=none):=by
 constructor
 ·simp[bh,ak,fT,Op.operands,Call.operands,hx,hy,ul]
 ·intro w hw;obtain⟨v',w',H2,ac,st,aa,an,am⟩:=uS (ty:=o.type) (c:=c) ht aj hn hl (fun u hu=>List.all_eq_true.1 h1 u hu) hb ao w hw;have:(execOp (bN σ) o).run P w=.ok (.value v') w':=by
   simp[execOp,ak,resolve,bN,hx,hy,invoke,builtin,Result.andThen,ac]
  rw[this];exact⟨H2,st,v',rfl,aa,an,am⟩
def IR{n xb xo m c:Nat}(ht:jv C.P t e size bytes)(aa:iT H e size v n xs)(hw:aH ol σ o=some true)(ac:o.op=.call ⟨.builtin .append,#[x,y],#[t,t]⟩)(hx:ev σ x=.v v)(hy:ev σ y=.v (.slice (some ⟨xb,xo,none⟩) m c))
  (hn:aP H xb xo news) (hl:news.length=m*size) (h1:news.all one=true) (hb:(n+m)*bytes<=140737488355328) (aj:n+m<=maxLen)
  (hk:∀v' H2,iT H2 e size v' (n+m) (xs++news)->RH v.ownBlock H H2->(v'.ownBlock=v.ownBlock\/∀g,v'.ownBlock=some g->H g=none)->RC C (.op ol rem k) (σ.put o.dst (.v v')) H2):RC C (.op ol (o::rem) k) σ H:=by
 obtain⟨a,b⟩:=uW (σ:=σ) ht ac hx hy aa hn hl h1 hb aj;exact iU hw a (b.mono fun sv H2 ⟨v',e1,e2,e3,e4⟩=>by subst e1;exact hk v' H2 e2 e3 e4)
def IV{n xb xo m c:Nat}(ht:jv C.P t e size bytes)(aa:iT H e size v n xs)(hs:str.h.contains i=false)(aj:str.j.contains i=false)(hw:aH ol σ o=some true)(ac:o.op=.call ⟨.builtin .append,#[x,y],#[t,t]⟩)(hx:ev σ x=.v v)(hy:ev σ y=.v (.slice (some ⟨xb,xo,none⟩) m c))
  (hn:aP H xb xo news) (hl:news.length=m*size) (h1:news.all one=true) (hb:(n+m)*bytes<=140737488355328) (ak:n+m<=maxLen)
  (hk:∀v' H2,iT H2 e size v' (n+m) (xs++news)->RH v.ownBlock H H2->(v'.ownBlock=v.ownBlock\/∀g,v'.ownBlock=some g->H g=none)->RD C ol fr str l k (σ.put o.dst (.v v')) H2):RD C ol fr str ((i,o)::l) k σ H:=by
 obtain⟨a,b⟩:=uW (σ:=σ) ht ac hx hy aa hn hl h1 hb ak;exact uB hw a (by rw[ac];rfl) (b.mono fun sv H2 ⟨v',e1,e2,e3,e4⟩=>by subst e1;exact⟨l9.non hs aj,hk v' H2 e2 e3 e4⟩)
variable{cs:List Value}{off:Nat}{ty:TypeId}
def xf{T:TypeId}{b:Nat}{cells:Array Value}(ak:o.op=.store T x y)(hx:ev σ x=.v (.pointer (some ⟨b,off,none⟩)))(hy:ev σ y=.v v)
  (hH:H b=some (.cells cells ty (0,0))) (hc:kI v=some cs) (hs:bY P T=some cs.length) (am:off+cs.length<=cells.size) :
  bh σ o.op=true/\de P (execOp (bN σ) o) H fun sv H2=>sv=.u/\H2=H.put b (.cells (br cells.toList off cs).toArray ty (0,0)):=by
 constructor
 ·simp[bh,ak,fT,Op.operands,hx,hy,ul]
 ·intro w hw;obtain⟨aa,aj⟩:=sw hc;have hb:=hw _ _ hH;rw[show cells=cells.toList.toArray from by simp]at hb;obtain⟨w2,h1,h2,h3,h4,h5,h6,h7⟩:=iu (P:=P) b ty cs 0 off cells.toList w hb (by simpa using am) aj;have sz:(sizeOf T).run P w=.ok cs.length w:=by
   unfold bY at hs;simp only[Z8]at hs;obtain⟨i,hi,h⟩:=hs;simp[sizeOf,typeInfo,program,Sem.run,hi,h]
  have an:v.cells.size=cs.length:=by rw[<-aa];simp
  have ac:(execOp (bN σ) o).run P w=.ok .skip w2:=by
   simp only[execOp,ak,bN,hx,hy,Instr.storeAt,Instr.sureAddr,storeVar,ZY];simp[Result.andThen,sz,an,aa,h1]
  rw[ac];refine⟨_,⟨fun c o' h=>?_,ab,fun c ao hn=>h3 c (fun e=>by subst e;rw[hH]at hn;cases hn),fun c ao hn=>?_,h5,h6,h7⟩,rfl,rfl⟩
  ·by_cases e:c=b
   ·subst e;simp only[PH.put,ZT]at h;cases h;simpa using h2
   ·simp only[PH.put,ZV e]at h;rw[h3 c e];exact hw _ _ h
  ·have:c≠b:=fun e=>by subst e;rw[hH]at hn;cases hn
   simp[PH.put,this,hn]
def L0{T:TypeId}{b:Nat}{cells:Array Value}(hH:H b=some (.cells cells ty (0,0)))(hw:aH ol σ o=some true)(aa:o.op=.store T x y)(hx:ev σ x=.v (.pointer (some ⟨b,off,none⟩)))(hy:ev σ y=.v v)
  (hc:kI v=some cs) (hs:bY C.P T=some cs.length) (ac:off+cs.length<=cells.size)
  (hk:RC C (.op ol rem k) (σ.put o.dst .u) (H.put b (.cells (br cells.toList off cs).toArray ty (0,0)))):RC C (.op ol (o::rem) k) σ H:=by
 obtain⟨h1,h2⟩:=xf (σ:=σ) aa hx hy hH hc hs ac;exact iU hw h1 (h2.mono fun sv H2 ⟨a,b⟩=>by subst a;subst b;exact hk)
def HM{T:TypeId}{b:Nat}{cells:Array Value}(hH:H b=some (.cells cells ty (0,0)))(ac:lx str.k i=false)(hw:aH ol σ o=some true)(aa:o.op=.store T x y)(hx:ev σ x=.v (.pointer (some ⟨b,off,none⟩)))(hy:ev σ y=.v v)
  (hc:kI v=some cs) (hs:bY C.P T=some cs.length) (aj:off+cs.length<=cells.size)
  (hk:RD C ol fr str l k (σ.put o.dst .u) (H.put b (.cells (br cells.toList off cs).toArray ty (0,0)))):RD C ol fr str ((i,o)::l) k σ H:=by
 obtain⟨h1,h2⟩:=xf (σ:=σ) aa hx hy hH hc hs aj;exact Mp ac hw h1 (by rw[aa];rfl) (h2.mono fun sv H2 ⟨a,b⟩=>by subst a;subst b;exact hk)
end
open Go
section
variable {C:Cx} {P:Program} {k:List Item} {σ:St} {H:PH}
def kN(P:Program)(kt:TypeId)(v:Value):Prop:=∃l,keyOf P kt v=some l
def gp(P:Program)(H:PH)(r:Nat)(kt:TypeId)(S:Value->Value->Prop):Prop:=
 ∃es clock,H r=some (.map es clock)/\(∀e∈es.toList,kN P kt e.key)/\es.toList.Pairwise (fun x y=>x.key≠y.key)/\∀y u,S y u<->∃e∈es.toList,e.key=y/\e.val=u
variable{S:Value->Value->Prop}{kt:TypeId}{r:Nat}
def gp.le{H H2:PH}(h:gp P H r kt S)(aa:H.le H2):gp P H2 r kt S:=by
 obtain⟨es,clock,a,b⟩:=h;exact⟨es,clock,aa _ _ a,b⟩
def gp.of_eq{H H2:PH}(h:gp P H r kt S)(he:H2 r=H r):gp P H2 r kt S:=by
 obtain⟨es,clock,a,b⟩:=h;exact⟨es,clock,he.trans a,b⟩
def gp.congr{S':Value->Value->Prop}(h:gp P H r kt S)(hs:∀y u,S' y u<->S y u):gp P H r kt S':=by
 obtain⟨es,clock,a,b,c,d⟩:=h;exact⟨es,clock,a,b,c,fun y u=>(hs y u).trans (d y u)⟩
variable{x:Value}
def F9{mt et:TypeId}(K:Maps.Keyed P kt)(hm:P.underlying mt=some (.map kt et))(h:gp P H r kt S){v:Value}(hx:kN P kt x)(hs:S x v)(w:World)(hw:Sub H w):
  (Instr.lookup mt (.map (some r)) x true).run P w=.ok (.tuple #[v,.bool true]) w:=by
 obtain⟨es,clock,a,b,c,d⟩:=h;obtain⟨l,hl⟩:=hx;have aa:(getObj r).run P w=.ok (.map es clock) w:=by simp[getObj,Sem.run,hw _ _ a]
 obtain⟨e0,ak,aj,am⟩:=(d x v).1 hs;rcases K.find w hl es.toList b with ⟨h1,h2⟩|⟨j,e,h1,h2,h3⟩
 ·exact absurd aj (h2 e0 ak)
 ·have:e=e0:=by
   have ac:e∈es.toList:=aaV h2;by_cases he:e=e0
   ·exact he
   ·exfalso;rcases List.mem_iff_getElem.1 ac with ⟨i1,l1,rfl⟩
    rcases List.mem_iff_getElem.1 ak with ⟨i2,l2,rfl⟩
    rcases aal i1 i2 with h|h|h
    ·exact List.pairwise_iff_getElem.1 c i1 i2 l1 l2 h (h3.trans aj.symm)
    ·subst h;exact he rfl
    ·exact List.pairwise_iff_getElem.1 c i2 i1 l2 l1 h (aj.trans h3.symm)
  subst this;subst am;have hc:=K.check w es.isEmpty hl;simp[Instr.lookup,bt hm,Result.andThen,aa,hc,h1]
def Jc{mt et:TypeId}(K:Maps.Keyed P kt)(hm:P.underlying mt=some (.map kt et)){z:Value}(hz:aV P et=some z)(h:gp P H r kt S)(hx:kN P kt x)(hs:∀v,¬S x v)(w:World)(hw:Sub H w):
  (Instr.lookup mt (.map (some r)) x true).run P w=.ok (.tuple #[z,.bool false]) w:=by
 obtain⟨es,clock,a,b,c,d⟩:=h;obtain⟨l,hl⟩:=hx;have aa:(getObj r).run P w=.ok (.map es clock) w:=by simp[getObj,Sem.run,hw _ _ a]
 have zv:(zeroValue et).run P w=.ok z w:=by
  unfold aV at hz;cases hi:P.info? et with
  |none=>rw[hi]at hz;cases hz
  |some i=>rw[hi]at hz;simp only[jO]at hz;simp[zeroValue,typeInfo,program,Sem.run,hi,hz]
 rcases K.find w hl es.toList b with ⟨h1,h2⟩|⟨j,e,h1,h2,h3⟩
 ·have hc:=K.check w es.isEmpty hl;simp[Instr.lookup,bt hm,Result.andThen,aa,hc,h1,zv]
 ·exact absurd ((d x e.val).2 ⟨e,aaV h2,h3,rfl⟩) (hs _)
def Ga{mt et:TypeId}(K:Maps.Keyed P kt)(hm:P.underlying mt=some (.map kt et))(h:gp P H r kt S){v:Value}(hx:kN P kt x)(w:World)(hw:Sub H w):
  ∃w2 H2 o,(Instr.mapUpdate mt (.map (some r)) x v).run P w=.ok () w2/\H2=H.put r o/\dM H w H2 w2/\gp P H2 r kt (fun y u=>(y=x/\u=v)\/(y≠x/\S y u)):=by
 obtain⟨es,clock,a,b,c,d⟩:=h;obtain⟨l,hl⟩:=hx;have ha:=hw _ _ a;have aj:(getObj r).run P w=.ok (.map es clock) w:=by simp[getObj,Sem.run,ha]
 have setO:∀(o:Obj),(setObj r o).run P w=.ok () { w with heap:=w.heap.setIfInBounds r o }:=by
  intro o;simp[setObj,Sem.run,ha]
 have step:∀(o:Obj),dM H w (H.put r o) { w with heap:=w.heap.setIfInBounds r o }:=by
  intro o;have am:=eO ha;refine⟨fun b' x' h=>?_,by simp,fun b' hb hn=>?_,fun b' hb hn=>?_,rfl,rfl,rfl⟩
  ·by_cases e:b'=r
   ·subst e;simp only[PH.put,ZT]at h;cases h;simp[aaF,am]
   ·simp only[PH.put,ZV e]at h;simp only[aaF,ZV (Ne.symm e)];exact hw _ _ h
  ·have:b'≠r:=fun e=>by subst e;rw[a]at hn;cases hn
   simp only[aaF,ZV (Ne.symm this)]
  ·have:b'≠r:=fun e=>by subst e;rw[a]at hn;cases hn
   simp[PH.put,this,hn]
 rcases K.find w hl es.toList b with ⟨h1,h2⟩|⟨j,e,h1,h2,h3⟩
 ·refine⟨{ w with heap:=w.heap.setIfInBounds r (.map (es.push { key:=x,val:=v,born:=clock }) (clock+1)) },_,.map (es.push { key:=x,val:=v,born:=clock }) (clock+1),?_,rfl,step (.map (es.push { key:=x,val:=v,born:=clock }) (clock+1)),?_⟩
  ·have hc:=K.check w false hl;simp[Instr.mapUpdate,bt hm,Result.andThen,aj,hc,h1];exact setO _
  ·refine⟨_,_,aaq rfl,?_,?_,?_⟩
   ·intro e he;simp at he;rcases he with he|rfl
    ·exact b e (by simpa using he)
    ·exact⟨l,hl⟩
   ·simp only[Array.toList_push,List.pairwise_append,aaW,acT];exact⟨c,fun y hy z hz=>by simp at hz;subst hz;exact h2 y hy⟩
   ·intro y u;simp only[Array.toList_push,aaX,List.mem_singleton];constructor
    ·rintro(⟨rfl,rfl⟩|⟨aa,hs⟩)
     ·exact⟨_,.inr rfl,rfl,rfl⟩
     ·obtain⟨e,he,h5,h6⟩:=(d y u).1 hs;exact⟨e,.inl he,h5,h6⟩
    ·rintro⟨e,he|rfl,rfl,rfl⟩
     ·exact .inr ⟨h2 e he,(d _ _).2 ⟨e,he,rfl,rfl⟩⟩
     ·exact .inl ⟨rfl,rfl⟩
 ·have hj:es[j]?=some e:=by simpa using h2
  have ac:j<es.size:=by
   rcases aaf j es.size with h|h
   ·exact h
   ·rw[aag h]at hj;cases hj
  have an:((es[j]?).map (·.key)).getD x=x:=by rw[hj];simpa using h3
  have ak:(es.modify j fun e=>{ e with key:=x,val:=v }).toList=es.toList.set j { e with key:=x,val:=v }:=by
   apply List.ext_getElem?;intro i;simp only[Array.getElem?_toList,Array.getElem?_modify,aaY,hZ];by_cases hi:j=i
   ·subst hi;have aS:es[j]=e:=by rw[aab ac]at hj;exact aaZ hj
    simp[hj,ac,aS]
   ·simp[hi]
  refine⟨{ w with heap:=w.heap.setIfInBounds r (.map (es.modify j fun e=>{ e with key:=x,val:=v }) clock) },_,.map (es.modify j fun e=>{ e with key:=x,val:=v }) clock,?_,rfl,step (.map (es.modify j fun e=>{ e with key:=x,val:=v }) clock),?_⟩
  ·have aq:(Instr.keyThatStays (((es[j]?).map (·.key)).getD x) x).run P w=.ok x w:=by rw[an];exact K.stays w hl
   have hc:=K.check w false hl;simp[Instr.mapUpdate,bt hm,Result.andThen,aj,hc,h1,aq];exact setO _
  ·have dH:∀i e',es.toList[i]?=some e'->i≠j->e'.key≠x:=by
    intro i e' hi aa hk;have ao:i<es.toList.length:=by
     rcases aaf i es.toList.length with h|h
     ·exact h
     ·rw[aan h]at hi;cases hi
    have e1:es.toList[i]=e':=by rw[aak ao]at hi;exact aaZ hi
    have e2:es.toList[j]'(by simpa using ac)=e:=by rw[aak (by simpa using ac)]at h2;exact aaZ h2
    rcases aaf i j with h|h
    ·exact List.pairwise_iff_getElem.1 c i j ao (by simpa using ac) h (by rw[e1,e2,hk,h3])
    ·exact List.pairwise_iff_getElem.1 c j i (by simpa using ac) ao ab (by rw[e1,e2,hk,h3])
   have mem:∀f,f∈es.toList.set j { e with key:=x,val:=v }<->f={ e with key:=x,val:=v }\/∃i,i≠j/\es.toList[i]?=some f:=by
    intro f;rw[List.mem_iff_getElem?];constructor
    ·rintro⟨i,hi⟩;rw[aaY]at hi;split at hi
     ·split at hi
      ·cases hi;exact .inl rfl
      ·cases hi
     ·rename_i aa;exact .inr ⟨i,Ne.symm aa,hi⟩
    ·rintro(rfl|⟨i,aa,hi⟩)
     ·exact⟨j,by rw[aaY];simp[ac]⟩
     ·exact⟨i,by rw[aaY,ZV (Ne.symm aa)];exact hi⟩
   refine⟨_,_,aaq rfl,?_,?_,?_⟩
   ·rw[ak];intro f hf;rcases(mem f).1 hf with rfl|⟨i,_,hi⟩
    ·exact⟨l,hl⟩
    ·exact b f (aaV hi)
   ·rw[ak,List.pairwise_iff_getElem];intro i1 i2 l1 l2 am;simp only[aa0]at l1 l2;rw[List.getElem_set,List.getElem_set];by_cases e1:j=i1<;>by_cases e2:j=i2
    ·omega
    ·subst e1;rw[aaq rfl,ZV e2];exact fun hk=>dH i2 _ (aak l2) (Ne.symm e2) hk.symm
    ·subst e2;rw[aaq rfl,ZV e1];exact fun hk=>dH i1 _ (aak l1) (Ne.symm e1) hk
    ·rw[ZV e1,ZV e2];exact List.pairwise_iff_getElem.1 c i1 i2 l1 l2 am
   ·intro y u;rw[ak];constructor
    ·rintro(⟨rfl,rfl⟩|⟨aa,hs⟩)
     ·exact⟨_,(mem _).2 (.inl rfl),rfl,rfl⟩
     ·obtain⟨f,hf,h5,h6⟩:=(d y u).1 hs;obtain⟨i,hi⟩:=List.mem_iff_getElem?.1 hf;refine⟨f,(mem f).2 (.inr ⟨i,fun ei=>?_,hi⟩),h5,h6⟩;subst ei;rw[h2]at hi;cases hi;exact aa (h5.symm.trans h3)
    ·rintro⟨f,hf,rfl,rfl⟩;rcases(mem f).1 hf with rfl|⟨i,aa,hi⟩
     ·exact .inl ⟨rfl,rfl⟩
     ·exact .inr ⟨dH i f hi aa,(d _ _).2 ⟨f,aaV hi,rfl,rfl⟩⟩
end
open Go
section
variable {C:Cx} {P:Program} {k:List Item} {σ:St} {H:PH}
variable{v key z:Value}{S:Value->Value->Prop}{r:Nat}{x y:Operand}{mt kt et:TypeId}{o:Oper}
def uR(K:Maps.Keyed P kt)(hm:P.underlying mt=some (.map kt et))(hz:aV P et=some z)(ac:o.op=.lookup mt x y true)
  (hx:ev σ x=.v (.map (some r))) (hy:ev σ y=.v key) (h:gp P H r kt S) (hk:kN P kt key)  {is:Bool} (hs:is=true/\S key v\/is=false/\v=z/\∀u,¬S key u) :
  bh σ o.op=true/\∀w,Sub H w->(execOp (bN σ) o).run P w=.ok (.value (.tuple #[v,.bool is])) w:=by
 constructor
 ·simp[bh,ac,fT,Op.operands,hx,hy,ul]
 ·intro w hw;have aa:(Instr.lookup mt (.map (some r)) key true).run P w=.ok (.tuple #[v,.bool is]) w:=by
   rcases hs with ⟨rfl,hs⟩|⟨rfl,rfl,hs⟩
   ·exact F9 K hm h hk hs w hw
   ·exact Jc K hm hz h hk hs w hw
  simp[execOp,ac,bN,hx,hy,aa,Result.andThen]
variable{ol rem:List Oper}
def nB(K:Maps.Keyed C.P kt)(hm:C.P.underlying mt=some (.map kt et))(hz:aV C.P et=some z)(hw:aH ol σ o=some true)(aa:o.op=.lookup mt x y true)
  (hx:ev σ x=.v (.map (some r))) (hy:ev σ y=.v key) (h:gp C.P H r kt S) (hk:kN C.P kt key) (v:Value) (is:Bool) (hs:is=true/\S key v\/is=false/\v=z/\∀u,¬S key u)
  (hg:RC C (.op ol rem k) (σ.put o.dst (.v (.tuple #[v,.bool is]))) H):RC C (.op ol (o::rem) k) σ H:=by
 obtain⟨h1,h2⟩:=uR K hm hz aa hx hy h hk hs;exact vZ _ hw h1 h2 hg
variable{l:List (Nat×Oper)}{i:Nat}{str:ip}{fr:iK}
def qv(K:Maps.Keyed C.P kt)(hm:C.P.underlying mt=some (.map kt et))(hz:aV C.P et=some z)(hf:fr.h.contains i=true)(hw:aH ol σ o=some true)(aa:o.op=.lookup mt x y true)
  (hx:ev σ x=.v (.map (some r))) (hy:ev σ y=.v key) (h:gp C.P H r kt S) (hk:kN C.P kt key) (v:Value) (is:Bool) (hs:is=true/\S key v\/is=false/\v=z/\∀u,¬S key u)
  (hg:RD C ol fr str l k (σ.put o.dst (.v (.tuple #[v,.bool is]))) H):RD C ol fr str ((i,o)::l) k σ H:=by
 obtain⟨h1,h2⟩:=uR K hm hz aa hx hy h hk hs;exact wB _ hf hw h1 (by rw[aa];rfl) h2 hg
def vA(K:Maps.Keyed P kt)(hm:P.underlying mt=some (.map kt et)){z:Operand}(aa:o.op=.mapUpdate mt x y z\/o.op=.insert mt x y z)
  (hx:ev σ x=.v (.map (some r))) (hy:ev σ y=.v key) (hz:ev σ z=.v v) (h:gp P H r kt S) (hk:kN P kt key) :
  bh σ o.op=true/\de P (execOp (bN σ) o) H fun sv H2=>sv=.u/\∃ob,H2=H.put r ob/\gp P H2 r kt (fun y u=>(y=key/\u=v)\/(y≠key/\S y u)):=by
 constructor
 ·rcases aa with aa|aa<;>simp[bh,aa,fT,Op.operands,hx,hy,hz,ul]
 ·intro w hw;obtain⟨w2,H2,ob,ac,e,st,aj⟩:=Ga (v:=v) K hm h hk w hw;have:(execOp (bN σ) o).run P w=.ok .skip w2:=by
   rcases aa with aa|aa<;>simp[execOp,aa,bN,hx,hy,hz,ac,Result.andThen]
  rw[this];exact⟨H2,st,rfl,ob,e,aj⟩
def Jt(K:Maps.Keyed C.P kt)(hm:C.P.underlying mt=some (.map kt et)){z:Operand}(hw:aH ol σ o=some true)(aa:o.op=.mapUpdate mt x y z\/o.op=.insert mt x y z)
  (hx:ev σ x=.v (.map (some r))) (hy:ev σ y=.v key) (hz:ev σ z=.v v) (h:gp C.P H r kt S) (hk:kN C.P kt key)
  (hg:∀ob,gp C.P (H.put r ob) r kt (fun y u=>(y=key/\u=v)\/(y≠key/\S y u))->RC C (.op ol rem k) (σ.put o.dst .u) (H.put r ob)):RC C (.op ol (o::rem) k) σ H:=by
 obtain⟨h1,h2⟩:=vA K hm aa hx hy hz h hk;exact iU hw h1 (h2.mono fun sv H2 ⟨a,ob,b,c⟩=>by subst a;subst b;exact hg ob c)
def Jn(K:Maps.Keyed C.P kt)(hm:C.P.underlying mt=some (.map kt et)){z:Operand}(hs:str.h.contains i=false)(ac:str.j.contains i=false)(hw:aH ol σ o=some true)(aa:o.op=.mapUpdate mt x y z\/o.op=.insert mt x y z)
  (hx:ev σ x=.v (.map (some r))) (hy:ev σ y=.v key) (hz:ev σ z=.v v) (h:gp C.P H r kt S) (hk:kN C.P kt key)
  (hg:∀ob,gp C.P (H.put r ob) r kt (fun y u=>(y=key/\u=v)\/(y≠key/\S y u))->RD C ol fr str l k (σ.put o.dst .u) (H.put r ob)):RD C ol fr str ((i,o)::l) k σ H:=by
 obtain⟨h1,h2⟩:=vA K hm aa hx hy hz h hk;exact uB hw h1 (by rcases aa with aa|aa<;>rw[aa]<;>rfl) (h2.mono fun sv H2 ⟨a,ob,b,c⟩=>by subst a;subst b;exact⟨l9.non hs ac,hg ob c⟩)
def As(ac:o.op=.makeMap mt none):
  bh σ o.op=true/\de P (execOp (bN σ) o) H fun sv H2=>∃r,H r=none/\sv=.v (.map (some r))/\H2=H.put r (.map #[] 0):=by
 constructor
 ·simp[bh,ac,fT,Op.operands]
 ·intro w hw;obtain⟨n1,n2⟩:=dM.new hw (.map #[] 0);have aa:(execOp (bN σ) o).run P w=.ok (.value (.map (some w.heap.size))) { w with heap:=w.heap.push (.map #[] 0) }:=by
   simp[execOp,ac,Instr.makeMap,newObj,Sem.run,Result.andThen]
  rw[aa];exact⟨_,n2,w.heap.size,n1,rfl,rfl⟩
def gp.empty(h:H r=some (.map #[] 0)):gp P H r kt (fun _ _=>False):=
 ⟨#[],0,h,fun e he=>by simp at he,by simp,fun y u=>by simp⟩
def Ey(hw:aH ol σ o=some true)(aa:o.op=.makeMap mt none)
  (hg:∀r,H r=none->RC C (.op ol rem k) (σ.put o.dst (.v (.map (some r)))) (H.put r (.map #[] 0))):RC C (.op ol (o::rem) k) σ H:=by
 obtain⟨h1,h2⟩:=As (σ:=σ) (H:=H) (P:=C.P) aa;exact iU hw h1 (h2.mono fun sv H2 ⟨r,a,b,c⟩=>by subst b;subst c;exact hg r a)
def ER(hw:aH ol σ o=some true)(aa:o.op=.makeMap mt none)
  (hg:∀r,H r=none->RD C ol fr str l k (σ.put o.dst (.v (.map (some r)))) (H.put r (.map #[] 0))):RD C ol fr str ((i,o)::l) k σ H:=
 .inr ⟨hw,by rw[aa];exact hg⟩
theorem iT.cells{e:TypeId}{size:Nat}{n:Nat}{xs:List Value}(h:iT H e size v n xs)(hn:0<n):∃g cap,v=.slice (some ⟨g,0,none⟩) n cap/\aP H g 0 xs:=by
 obtain⟨hl,⟨_,e0⟩|⟨g,cap,cur,a,b,c,d,f,k'⟩⟩:=h
 ·omega
 ·refine⟨g,cap,a,cur,e,(0,0),b,?_,?_⟩
  ·rw[hl,f,ZZ];exact aaQ _ c
  ·rw[aa1,hl];exact k'
def aP.sub{b off:Nat}{l:List Value}(h:aP H b off l)(i n:Nat)(hi:i+n<=l.length):aP H b (off+i) ((l.drop i).take n):=by
 obtain⟨cs,ty,fz,a,b',c⟩:=h;have aa:((l.drop i).take n).length=n:=by simp;omega
 refine⟨cs,ty,fz,a,by rw[aa];omega,?_⟩;rw[aa];have:l=(cs.toList.drop off).take l.length:=c.symm
 conv=>rhs;rw[this]
 rw[List.drop_take,aa3,aa4,aaN ab]
end
end Go.Sx
