import Derived.Test.YtfaclfkpnmcmlaaGreatDoorJ01
import Derived.Maps.AppendAt
import Derived.Deep.AppendSrc
import Derived.Maps.Keyed
set_option maxHeartbeats 8000000
set_option linter.all false
namespace Go.Sx
open Go
def rI(args:List Value)(n:Nat):List SV:=args.map .v++List.replicate (n-args.length) (.v undef)
variable{fn:Func}
def eX{P:Program}{f:FuncId}{c:Code}{args:Array Value}{H:PH}{Φ:Value->PH->Prop}(hf:P.funcs[f]?=some fn)(hb:fn.body=some c)(g:args.toList.length<=fn.ntmps)
  (h:∀w0,RC ⟨P,f,fn,hf,H,w0,Φ⟩ (.st [.code c]) ⟨rI args.toList fn.ntmps,[]⟩ H):br P f args H Φ:=by
 intro w s cs;have i:G w.heap.size ⟨rI args.toList fn.ntmps,[]⟩ H { tmps:=args++Array.replicate (fn.ntmps-args.size) undef,defers:=[] } w:=by
  refine⟨fun _=>0,rfl,?_,?_,fun _ h=>(dH h).elim,fun _ h=>(dH h).elim,fun _ h=>(dH h).elim,List.Pairwise.nil⟩
  .simp[rI]
  .intro t sv ht;simp only[rI]at ht;rw[jr];by_cases a:t<args.size
   .rw[vV (by simpa using a)]at ht;simp[a]at ht;subst ht;simp[Array.getElem?_append,a,fR]
   .rw[yP (by simpa using a),List.getElem?_replicate]at ht;split at ht
    .rename_i hr;cases ht
     simp only[fR,Array.getElem?_append,ab a,Array.getElem?_replicate];split<;>rfl
    .cases ht
 obtain⟨e,d,fr,h1,h2,h3,h4⟩:=h w w _ cs (cM.refl s) i;have b:Frame.enter P f args .normal=(jy f).at { tmps:=args++Array.replicate (fn.ntmps-args.size) undef,defers:=[] } [.code c]:=by simp[Frame.enter,Frame.at,hf,hb,jy]
 refine⟨e,d,fr,?_,by rw[b];exact h2,h3,h4⟩;unfold FU at h1;cases e with
 |returned v=>exact h1
 |_=>exact h1.elim
def nN(P:Program)(σ:St):List ResultVar->Option (List Value)
 | []=>some []
 | .tmp t::l=>match jA σ.tm t,nN P σ l with
  | .v x,some r=>some (x::r)
  |_,_=>none
 | .cell t T::l=>match jA σ.tm t,nN P σ l with
  | .p k off,some r=>match eJ σ.bx k with
   |some B=>match l6 P T B.cs off with
    |some x=>some (x::r)
    |none=>none
   |none=>none
  |_,_=>none
def dS:List Value->Value
 | [v]=>v
 |l=>.tuple l.toArray
def vv(tmps:Array Value):ResultVar->Sem Value
 | .tmp t=>pure (tmps.getD t undef)
 | .cell a t=>do loadVar t (<-asAddr (tmps.getD a undef))
def EQ{P:Program}{n0:Nat}{β:Nat->Nat}{σ:St}{H:PH}{a:Act}{w:World}(g:GB n0 β σ H a w):∀(l:List ResultVar) (r:List Value),nN P σ l=some r->
  (l.mapM (vv a.tmps)).run P w=.ok r w
 | [],r,h=>by cases h;simp
 | .tmp t::l,r,h=>by
  simp only[nN]at h;split at h
  .rename_i x c b hr;cases h
   have h1:=g.ev (.tmp t);simp only[ev,b,fR,Act.eval]at h1;have h2:(vv a.tmps (.tmp t)).run P w=.ok x w:=by simp only[vv,h1];simp
   simp only[List.mapM_cons,eI,h2,Result.andThen,EQ g l _ hr];simp
  .cases h
 | .cell t T::l,r,h=>by
  simp only[nN]at h;split at h
  .rename_i k off c b hr;split at h
   .rename_i B d;split at h
    .rename_i x hv;cases h
     obtain⟨hm,rfl⟩:=zU d;have h1:=g.ev (.tmp t);simp only[ev,b,fR,Act.eval]at h1;have:=ET (P:=P) (w:=w) (off:=off) (g.bx B hm).1 hv;have h2:(vv a.tmps (.cell t T)).run P w=.ok x w:=by simp only[vv,h1,eI];simp[Result.andThen,asAddr,this]
     simp only[List.mapM_cons,eI,h2,Result.andThen,EQ g l _ hr];simp
    .cases h
   .cases h
  .cases h
def J6{P:Program}{n0:Nat}{β:Nat->Nat}{σ:St}{H:PH}{a:Act}{w:World}(g:GB n0 β σ H a w){r:List Value}(h:nN P σ fn.results.toList=some r):
  (results fn a.tmps).run P w=.ok (dS r) w:=by
 have h1:=EQ g _ _ h;show (do let c <-fn.results.mapM (vv a.tmps);pure (if h:c.size=1 then c[0]else .tuple c):Sem Value).run P w=_;rw[Array.mapM_eq_mapM_toList];simp only[eI,Sem.run_map];rw[h1];simp only[Result.andThen]
 match r with
 | []=>simp[dS]
 | [v]=>simp[dS]
 |a::b::l=>simp[dS]
section
variable {C:Cx} {k:List Item} {σ:St} {H:PH}
variable{r:List Value}
def aU(h:nN C.P σ C.fn.results.toList=some r)(hp:C.post (dS r) H):R C (.code .ret::k) σ H:=by rintro w a cs s ⟨β,g⟩;exact⟨.returned (dS r),w,{ (jy C.f).at a (.code .ret::k)with mode:=.returning },⟨H,s,hp⟩,Steps.one step_ret,rfl,rfl,g.defers,rfl,C.fn,C.hf,J6 g h⟩
def Mt(h:nN C.P σ C.fn.results.toList=some r)(hp:C.post (dS r) H):R C [] σ H:=by rintro w a cs s ⟨β,g⟩;exact⟨.returned (dS r),w,{ (jy C.f).at a []with mode:=.returning },⟨H,s,hp⟩,Steps.one step_end,rfl,rfl,g.defers,rfl,C.fn,C.hf,J6 g h⟩
def sp:Nat->Nat->List (Nat×SV)->List SV
 |_,0,_=>[]
 |i,n+1,[]=>.u::sp (i+1) n []
 |i,n+1,(j,x)::l=>if j=i then x::sp (i+1) n l else .u::sp (i+1) n ((j,x)::l)
def iO:List SV->List SV->Prop
 | [],[]=>True
 | .u::l,_::m=>iO l m
 |x::l,y::m=>x=y/\iO l m
 |_,_=>False
def kC:List cK->List cK->Prop
 | [],_=>True
 |_::_,[]=>False
 |b::l,c::m=>if b.key=c.key then b=c/\kC l m else kC (b::l) m
def BB:∀{l m:List SV},iO l m->l.length=m.length/\∀(t:Nat) (sv:SV),l[t]?=some sv->sv=.u\/m[t]?=some sv
 | [],[],_=>⟨rfl,fun t sv h=>by simp at h⟩
 | .u::l,y::m,h=>by
  obtain⟨a,b⟩:=BB (l:=l) (m:=m) h;refine⟨by simp[a],fun t sv ht=>?_⟩;cases t with
  |zero=>simp at ht;exact .inl ht.symm
  |succ t=>simpa using b t sv (by simpa using ht)
 | .v x::l,y::m,h=>by
  obtain⟨e,h⟩:=h;obtain⟨a,b⟩:=BB (l:=l) (m:=m) h;refine⟨by simp[a],fun t sv ht=>?_⟩;cases t with
  |zero=>right;simp at ht |-;rw[<-e];exact ht
  |succ t=>simpa using b t sv (by simpa using ht)
 | .p x z::l,y::m,h=>by
  obtain⟨e,h⟩:=h;obtain⟨a,b⟩:=BB (l:=l) (m:=m) h;refine⟨by simp[a],fun t sv ht=>?_⟩;cases t with
  |zero=>right;simp at ht |-;rw[<-e];exact ht
  |succ t=>simpa using b t sv (by simpa using ht)
 | [],_::_,h=>h.elim
 | .u::_,[],h=>h.elim
 | .v _::_,[],h=>h.elim
 | .p _ _::_,[],h=>h.elim
def Fb:∀{l m:List cK},kC l m->l.Sublist m
 | [],m,_=>List.nil_sublist m
 |b::l,[],h=>h.elim
 |b::l,c::m,h=>by
  simp only[kC]at h;split at h
  .obtain⟨rfl,h⟩:=h;exact(Fb h).cons_cons _
  .exact(Fb h).cons _
def zh{σ':St}(ht:iO σ'.tm σ.tm)(hb:kC σ'.bx σ.bx)(h:R C k σ' H):R C k σ H:=by
 rintro w a cs s ⟨β,g⟩;obtain⟨h1,h2⟩:=BB ht;have h3:=Fb hb;refine h w a cs s ⟨β,g.defers,by rw[g.size,h1],fun t sv c=>?_,fun B b=>g.bx B (h3.subset b),fun B b B' d=>g.inj B (h3.subset b) B' (h3.subset d),fun B b=>g.lo B (h3.subset b),g.keys.sublist h3⟩;rcases h2 t sv c with rfl|h
 .trivial
 .exact g.tm t sv h
def iN(key b:Nat):SV->SV
 | .p x off=>if x=key then .v (.pointer (some ⟨b,off,none⟩))else .p x off
 |y=>y
def MA(key:Nat){B:cK}(r:eJ σ.bx key=some B)(h:∀b,H b=none->R C k ⟨σ.tm.map (iN key b),d8 σ.bx key⟩ (H.put b (.cells B.cs.toArray B.ty (0,0)))):R C k σ H:=by
 rintro w a cs s ⟨β,g⟩;obtain⟨hm,i⟩:=zU r;obtain⟨hb,n⟩:=g.bx B hm;rw[i]at hb n;have j:=g.lo B hm;rw[i]at j;refine h (β key) n w a cs ⟨fun c o d=>?_,s.size,fun c d f=>s.priv c d f,fun c d f=>?_,s.os,s.tape,s.out⟩ ⟨β,g.defers,by simp[g.size],fun t sv ht=>?_,fun B' l=>?_,fun m h1 z h2=>?_,fun m h1=>g.lo m (qe h1).1,Hg g.keys⟩
 .by_cases e:c=β key
  .subst e;simp only[PH.put,co]at d;cases d;exact hb
  .simp only[PH.put,ab e]at d;exact s.sub c o d
 .have:c≠β key:=by omega
  simp only[PH.put,ab this];exact s.dom c d f
 .simp only[jG,yV]at ht;obtain⟨x,q,rfl⟩:=ht;have:=g.tm t x q;cases x with
  |v y=>exact this
  |u=>trivial
  |p y off=>
   simp only[iN];split
   .rename_i e;subst e;exact this
   .exact this
 .obtain⟨h1,h2⟩:=qe l;obtain⟨h3,h4⟩:=g.bx B' h1;refine⟨h3,?_⟩;have:β B'.key≠β key:=fun e=>h2 (by rw[<-i];exact g.inj B' h1 B hm (by rw[i];exact e));simp only[PH.put,ab this];exact h4
 .exact g.inj m (qe h1).1 z (qe h2).1
end
open Go
def uF:List Oper->Nat->Oper
 | [],_=>default
 |o::_,0=>o
 |_::l,n+1=>uF l n
def pick(ol:List Oper)(κ:List Nat):List (Nat×Oper):=κ.map fun i=>(i,uF ol i)
def ui(P:Program)(ol:List Oper)(fr:cu)(str:cw)(K:St->PH->Prop):List (Nat×Oper)->St->PH->Prop
 | [],σ,H=>K σ H
 |(i,o)::l,σ,H=>jx P ol (fr.at' i) (str.at' i) o (ui P ol fr str K l) σ H
def RD(C:Cx)(ol:List Oper)(fr:cu)(str:cw)(l:List (Nat×Oper))(k:List Item)(σ:St)(H:PH):Prop:=ui C.P ol fr str (R C k) l σ H
variable{ol:List Oper}
def Pf{i:Nat}(h:i<ol.length):ol[i]?=some (uF ol i):=by
 induction ol generalizing i with
 |nil=>simp at h
 |cons o l a=>cases i with
  |zero=>simp[uF]
  |succ i=>simpa[uF]using a (by simpa using h)
def o3:List cK->Bool
 | []=>true
 |b::l=>l.all (fun c=>decide (b.key<c.key)) && o3 l
def E8{l:List cK}(h:o3 l=true):eR l:=by
 induction l with
 |nil=>exact List.Pairwise.nil
 |cons b l a=>simp only[o3,cX]at h;exact List.pairwise_cons.2 ⟨fun y c=>by simpa using List.all_eq_true.1 h.1 y c,a h.2⟩
def KV{P:Program}{f:ix}{s:mo}{o:Oper}{K K':St->PH->Prop}{σ:St}{H:PH}(k:∀σ' H',K σ' H'->K' σ' H')(h:jx P ol f s o K σ H):jx P ol f s o K' σ H:=by
 rcases h with ⟨e,h⟩|⟨e,h⟩
 .exact .inl ⟨e,k _ _ h⟩
 .refine .inr ⟨e,?_⟩;cases j:eZ o.op<;>rw[j]at h<;>simp only at h |-
  .obtain⟨sv,hv,a⟩:=h;exact⟨sv,hv,k _ _ a⟩
  .obtain⟨d,T,cs,hd,ha,a⟩:=h;exact⟨d,T,cs,hd,ha,k _ _ a⟩
  .rcases h with ⟨x,off,cs,ha,hm,a⟩|⟨i,a,g⟩
   .exact .inl ⟨x,off,cs,ha,hm,k _ _ a⟩
   .exact .inr ⟨i,a,g.mono fun sv H2 c=>k _ _ c⟩
  .exact⟨h.1,h.2.mono fun sv H2 c=>⟨c.1,k _ _ c.2⟩⟩
  .exact fun b hb=>k _ _ (h b hb)
def rd{P:Program}{ol:List Oper}{fr:cu}{str:cw}{K:St->PH->Prop}:∀(κ:List Nat) {σ:St} {H:PH},(∀i∈κ,i<ol.length)->ui P ol fr str K (pick ol κ) σ H->VD P ol fr str K κ σ H
 | [],σ,H,_,h=>h
 |i::κ,σ,H,a,h=>by simp only[VD,Pf (a i (.head _))];exact KV (fun σ' H' c=>rd κ (fun j b=>a j (.tail _ b)) c) h
section
variable {C:Cx} {k:List Item} {σ:St} {H:PH}
variable{ops:Array Oper}{id:Nat}
def Cv(hm:C.P.follows .mixedOrders=true)(κ:List Nat)(fr:cu)(str:cw)(a:qh ops.toList κ fr str=true)(hs:o3 σ.bx=true)
  (h:RD C ops.toList fr str (pick ops.toList κ) k σ H):RC C (.st (.code (.region id ops true)::k)) σ H:=by
 refine Ms hm κ fr str a (E8 hs) (rd κ ?_ h);simp only[qh,cX]at a;have h3:=a.2;intro i hi
 suffices c:∀(l:List Nat),fM ops.toList (j8 ops.toList) fr str l=true->∀i∈l,i<ops.toList.length from c κ h3 i hi
 intro l
 induction l with
 |nil=>intro _ i hi;cases hi
 |cons x l b=>
  intro hp i hi;simp only[fM,cX,dA]at hp;rcases List.mem_cons.1 hi with rfl|hi
  .exact hp.1.1.1
  .exact b hp.2 i hi
def iA(hm:C.P.follows .mixedOrders=true)(κ fr str:List Nat)(a:qh ops.toList κ ⟨fr,[],PH.emp,[],[]⟩ ⟨str,[],[]⟩=true)(hs:o3 σ.bx=true)
  (h:RD C ops.toList ⟨fr,[],PH.emp,[],[]⟩ ⟨str,[],[]⟩ (pick ops.toList κ) k σ H):RC C (.st (.code (.region id ops true)::k)) σ H:=Cv hm κ _ _ a hs h
def q8(hm:C.P.follows .mixedOrders=true)(κ fr str c b:List Nat)(J:PH)(a:qh ops.toList κ ⟨fr,c,J,[],[]⟩ ⟨str,b,[]⟩=true)(hs:o3 σ.bx=true)
  (h:RD C ops.toList ⟨fr,c,J,[],[]⟩ ⟨str,b,[]⟩ (pick ops.toList κ) k σ H):RC C (.st (.code (.region id ops true)::k)) σ H:=Cv hm κ _ _ a hs h
def Cw(hm:C.P.follows .mixedOrders=true)(κ fr str c b kp:List Nat)(a:qh ops.toList κ ⟨fr,[],PH.emp,c,kp⟩ ⟨str,[],b⟩=true)(hs:o3 σ.bx=true)
  (h:RD C ops.toList ⟨fr,[],PH.emp,c,kp⟩ ⟨str,[],b⟩ (pick ops.toList κ) k σ H):RC C (.st (.code (.region id ops true)::k)) σ H:=Cv hm κ _ _ a hs h
def kI(fr:cu)(str:cw)(i:Nat)(H H2:PH):Prop:=(str.h.contains i=true->H.le H2)/\(str.j.contains i=true->fr.J.le H->fr.J.le H2)
variable{H2:PH}{i:Nat}{str:cw}{fr:cu}
def kI.le{H:PH}(h:H.le H2):kI fr str i H H2:=⟨fun _=>h,fun _ a=>D a h⟩
def kI.non{H:PH}(h:str.h.contains i=false)(h2:str.j.contains i=false):kI fr str i H H2:=⟨fun e=>Bool.noConfusion (h.symm.trans e),fun e=>Bool.noConfusion (h2.symm.trans e)⟩
variable{ρ:Operand->SV}{bx:List cK}
def U6{P:Program}{op:Op}{x:Prop×SV}(h:pv P bx ρ op=some x):eZ op=.val:=by
 cases op<;>first|rfl|cases h|skip
 rename_i c;obtain⟨callee,args,types⟩:=c;cases callee with
 |builtin b=>cases b<;>first|rfl|(simp[pv,qw]at h)
 |value f=>simp[pv,qw]at h
 |invoke r m=>simp[pv,qw]at h
def MS{P:Program}{op:Op}{x:TypeId×List Value}(h:jP P ρ op=some x):eZ op=.alc:=by cases op<;>first|rfl|cases h
def Wf{P:Program}{op:Op}{x:Nat×Nat×List Value}(h:mW P bx ρ op=some x):eZ op=.st:=by cases op<;>first|rfl|cases h
def un(P:Program)(ol:List Oper)(b a:Bool)(kp:List Nat)(o:Oper)(σ:St):Option (Prop×St):=
 match bH ol σ o with
 |some false=>some (True,σ.put o.dst (.v undef))
 |some true=>match pv P (kb b kp σ.bx) (ev σ) o.op with
  |some (φ,sv)=>some (φ,σ.put o.dst sv)
  |none=>match o.dst,jP P (ev σ) o.op with
   |some d,some (T,cs)=>some (True,σ.newBox d T cs)
   |_,_=>match mW P σ.bx (ev σ) o.op with
    |some (x,off,cs)=>if a && gE kp x then none else some (True,(σ.store x off cs).put o.dst .u)
    |none=>none
 |none=>none
variable{o:Oper}{ol:List Oper}
def Gi{P:Program}{σ':St}{φ:Prop}{K:St->PH->Prop}{f:ix}{s:mo}(h:un P ol f.k s.k f.kp o σ=some (φ,σ'))(g:φ)(a:K σ' H):jx P ol f s o K σ H:=by
 unfold un at h;split at h
 .rename_i b;cases h;exact .inl ⟨b,a⟩
 .rename_i b;refine .inr ⟨b,?_⟩;split at h
  .rename_i i sv hp;cases h;rw[U6 hp];exact⟨sv,.inl ⟨φ,hp,g⟩,a⟩
  .split at h
   .rename_i d T cs hd ha;cases h;rw[MS ha];exact⟨d,T,cs,hd,ha,a⟩
   .split at h
    .rename_i x off cs hs;split at h
     .cases h
     .rename_i c;cases h;rw[Wf hs]
      refine .inl ⟨x,off,cs,hs,fun e=>?_,a⟩;rw[e]at c;simpa using c
    .cases h
 .cases h
def g7(P:Program)(ol:List Oper)(b a kp:List Nat):List (Nat×Oper)->St->List Prop->List Prop×List (Nat×Oper)×St
 | [],σ,ps=>(ps,[],σ)
 |(i,o)::l,σ,ps=>match un P ol (gE b i) (gE a i) kp o σ with
  |some (φ,σ')=>g7 P ol b a kp l σ' (φ::ps)
  |none=>(ps,(i,o)::l,σ)
def Gk{ol:List Oper}{fr:cu}{str:cw}:∀(l:List (Nat×Oper)) (σ:St) (ps:List Prop),jI (g7 C.P ol fr.k str.k fr.kp l σ ps).1->RD C ol fr str (g7 C.P ol fr.k str.k fr.kp l σ ps).2.1 k (g7 C.P ol fr.k str.k fr.kp l σ ps).2.2 H->jI ps/\RD C ol fr str l k σ H
 | [],σ,ps,hp,h=>⟨hp,h⟩
 |(i,o)::l,σ,ps,hp,h=>by
  unfold g7 at hp h;cases ha:un C.P ol (gE fr.k i) (gE str.k i) fr.kp o σ with
  |none=>rw[ha]at hp h;exact⟨hp,h⟩
  |some x=>obtain⟨φ,σ'⟩:=x;rw[ha]at hp h;obtain⟨⟨a,b⟩,c⟩:=Gk l _ _ hp h;exact⟨a,Gi (f:=fr.at' i) (s:=str.at' i) ha b c⟩
variable{l:List (Nat×Oper)}
def Mf(h:jI (g7 C.P ol fr.k str.k fr.kp l σ []).1/\RD C ol fr str (g7 C.P ol fr.k str.k fr.kp l σ []).2.1 k (g7 C.P ol fr.k str.k fr.kp l σ []).2.2 H):RD C ol fr str l k σ H:=(Gk l σ [] h.1 h.2).2
def pw(C:Cx)(ol:List Oper)(fr:cu)(str:cw)(k:List Item)(H:PH)(r:List Prop×List (Nat×Oper)×St):Prop:=jI r.1/\RD C ol fr str r.2.1 k r.2.2 H
theorem MG(C:Cx)(ol:List Oper)(fr:cu)(str:cw)(k:List Item)(H:PH)(ps:List Prop)(l:List (Nat×Oper))(σ:St):pw C ol fr str k H (ps,l,σ)=(jI ps/\RD C ol fr str l k σ H):=rfl
def bd(h:pw C ol fr str k H (g7 C.P ol fr.k str.k fr.kp l σ [])):RD C ol fr str l k σ H:=Mf h
def aL(h:RC C (.st k) σ H):RD C ol fr str [] k σ H:=h
def t8(a:bH ol σ o=some true)(b:bQ σ o.op=true)(c:eZ o.op=.gen)
  (h:eD C.P (execOp (bf σ) o) H fun sv H2=>kI fr str i H H2/\RD C ol fr str l k (σ.put o.dst sv) H2):RD C ol fr str ((i,o)::l) k σ H:=
 .inr ⟨a,by rw[c];exact⟨b,h⟩⟩
def Mp(hs:gE str.k i=false)(a:bH ol σ o=some true)(b:bQ σ o.op=true)(c:eZ o.op=.st)
  (h:eD C.P (execOp (bf σ) o) H fun sv H2=>RD C ol fr str l k (σ.put o.dst sv) H2):RD C ol fr str ((i,o)::l) k σ H:=
 .inr ⟨a,by rw[c];exact .inr ⟨hs,b,h⟩⟩
def zf(v:Value)(hf:fr.h.contains i=true)(a:bH ol σ o=some true)(b:bQ σ o.op=true)(c:eZ o.op=.val)
  (hv:∀w,Sub H w->(execOp (bf σ) o).run C.P w=.ok (.value v) w) (h:RD C ol fr str l k (σ.put o.dst (.v v)) H):RD C ol fr str ((i,o)::l) k σ H:=
 .inr ⟨a,by rw[c];exact⟨_,.inr (.inl ⟨hf,v,rfl,b,hv⟩),h⟩⟩
def Mo(v:Value)(hf:fr.j.contains i=true)(d:fr.J.le H)(a:bH ol σ o=some true)(b:bQ σ o.op=true)(c:eZ o.op=.val)
  (hv:∀w,Sub fr.J w->(execOp (bf σ) o).run C.P w=.ok (.value v) w) (h:RD C ol fr str l k (σ.put o.dst (.v v)) H):RD C ol fr str ((i,o)::l) k σ H:=
 .inr ⟨a,by rw[c];exact⟨_,.inr (.inr ⟨hf,d,v,rfl,b,hv⟩),h⟩⟩
variable{f:FuncId}
def NG {P:Program}  {fn:Func} (hf:P.funcs[f]?=some fn) (hb:fn.body.isNone=false) (a:(fn.name == "runtime.NumGoroutine")=false) (args:Array Value) (w:World) :
  (callFunc f args).run P w=.ok (.enter f args) w:=by
 simp only[callFunc,eI,program,Sem.run,Result.andThen,hf,a,hb];simp
def ax (P:Program) (f:FuncId):Prop:=∃fn,P.funcs[f]?=some fn/\fn.body.isNone=false/\(fn.name == "runtime.NumGoroutine")=false
variable{Φ:Value->PH->Prop}{first cap:Array Value}{vs:List Value}{Z:Array TypeId}{aq:Array Operand}{x:Operand}
def KG{P:Program}(aa:o.op=.call ⟨.value x,aq,Z⟩)
  (q:ev σ x=.v (.func (.func f) first cap)) (ha:fU (ev σ) aq.toList=some vs) (A:ax P f) (h:br P f (first++vs.toArray++cap) H Φ) :
  bQ σ o.op=true/\eD P (execOp (bf σ) o) H fun sv H2=>∃v,sv=.v v/\Φ v H2:=by
 have j:∀(l:List Operand) (r:List Value),fU (ev σ) l=some r->l.map (bf σ)=r/\∀y∈l,fO (ev σ y)=true:=by
  intro l
  induction l with
  |nil=>intro r h;cases h;exact⟨rfl,fun y g=>(dH g).elim⟩
  |cons y l s=>
   intro r h;simp only[fU]at h;split at h
   .rename_i v B hv hr;cases h
    obtain⟨h1,h2⟩:=s _ hr;refine⟨by simp[bf,hv,h1],fun z m=>?_⟩;rcases List.mem_cons.1 m with rfl|m
    .rw[hv];rfl
    .exact h2 z m
   .cases h
 obtain⟨h1,h2⟩:=j _ _ ha;obtain⟨fn,hf,hb,u⟩:=A;constructor
 .simp only[bQ,aa,fB,Op.operands,Call.operands,Bool.true_and,ss];intro y g;simp at g;rcases g with rfl|g
  .rw[q];rfl
  .exact h2 y (by simpa using g)
 .intro w t;have d:aq.map (bf σ)=vs.toArray:=by rw[<-mY];simpa using h1
  have p:bf σ x=.func (.func f) first cap:=by simp[bf,q]
  have i:(execOp (bf σ) o).run P w=.ok (.enter f (first++vs.toArray++cap)) w:=by simp only[execOp,aa,resolve,d,p,Deferred.ofValue,eI];simp[Result.andThen,invoke,NG hf hb u]
  rw[i];exact(h w t).mono fun e w2 n=>by
   cases e with
   |returned v=>obtain⟨H2,a,b⟩:=n;exact⟨H2,a,v,rfl,b⟩
   |outgrown=>exact n
   |panicked c=>exact n
variable{rem:List Oper}
def bC(b:bH ol σ o=some true)(aa:o.op=.call ⟨.value x,aq,Z⟩)
  (a:ev σ x=.v (.func (.func f) first cap)) (ha:fU (ev σ) aq.toList=some vs) (d:ax C.P f) (h:br C.P f (first++vs.toArray++cap) H Φ)
  (c:∀v H2,Φ v H2->RC C (.op ol rem k) (σ.put o.dst (.v v)) H2):RC C (.op ol (o::rem) k) σ H:=by
 obtain⟨h1,h2⟩:=KG aa a ha d h;exact jw b h1 (h2.mono fun sv H2 ⟨v,e,p⟩=>by subst e;exact c v H2 p)
def X4(a:(bH ol σ o,o.op,ev σ x,fU (ev σ) aq.toList)=(some true,Op.call ⟨.value x,aq,Z⟩,SV.v (.func (.func f) first cap),some vs))(c:ax C.P f)(h:br C.P f (first++vs.toArray++cap) H Φ)
  (b:∀v H2,Φ v H2->RC C (.op ol rem k) (σ.put o.dst (.v v)) H2):RC C (.op ol (o::rem) k) σ H:=by
 simp only[ij]at a;exact bC a.1 a.2.1 a.2.2.1 a.2.2.2 c h b
def wy(b:bH ol σ o=some true)(aa:o.op=.call ⟨.value x,aq,Z⟩)
  (a:ev σ x=.v (.func (.func f) first cap)) (ha:fU (ev σ) aq.toList=some vs) (d:ax C.P f) (h:br C.P f (first++vs.toArray++cap) H Φ)
  (c:∀v H2,Φ v H2->kI fr str i H H2/\RD C ol fr str l k (σ.put o.dst (.v v)) H2):RD C ol fr str ((i,o)::l) k σ H:=by
 obtain⟨h1,h2⟩:=KG aa a ha d h;exact t8 b h1 (by rw[aa];rfl) (h2.mono fun sv H2 ⟨v,e,p⟩=>by subst e;exact c v H2 p)
def aX(H:PH)(b off:Nat)(l:List Value):Prop:=∃cs ty a,H b=some (.cells cs ty a)/\off+l.length<=cs.size/\(cs.toList.drop off).take l.length=l
variable{b off:Nat}
def aX.le{H:PH}{l:List Value}(h:aX H b off l)(k:H.le H2):aX H2 b off l:=by obtain⟨cs,ty,d,a,b,c⟩:=h;exact⟨cs,ty,d,k _ _ a,b,c⟩
variable{v:Value}
def TA{P:Program}{T:TypeId}{l:List Value}(h:aX H b off l)(d:bp P T=some (some l.length)/\v=.agg l.toArray\/bp P T=some none/\l=[v])(w:World)(c:Sub H w):
  (loadVar T ⟨b,off,none⟩).run P w=.ok v w:=by
 obtain⟨cs,ty,e,h1,h2,h3⟩:=h;have hb:=c b _ h1;have:cs=cs.toList.toArray:=by simp
 rw[this]at hb;refine ET hb ?_;unfold l6;rcases d with ⟨ht,rfl⟩|⟨ht,rfl⟩
 .rw[ht];simp only[n8];rw[ag h2,h3]
 .rw[ht];simp only[gy]at h2 h3;simp only;have a:off<cs.toList.length:=by simp;omega
  have:cs.toList.drop off=cs.toList[off]::cs.toList.drop (off+1):=js a;rw[this]at h3;simp at h3;rw[aZ a];simp[h3]
def Ay{P:Program}{T:TypeId}{l:List Value}(aa:o.op=.load T x)(a:ev σ x=.v (.pointer (some ⟨b,off,none⟩)))(h:aX H b off l)
  (d:bp P T=some (some l.length)/\v=.agg l.toArray\/bp P T=some none/\l=[v]):bQ σ o.op=true/\∀w,Sub H w->(execOp (bf σ) o).run P w=.ok (.value v) w:=by
 constructor
 .simp[bQ,aa,fB,Op.operands,a,fO]
 .intro w c;have:=TA h d w c;simp[execOp,aa,bf,a,Instr.loadAt,Instr.sureAddr,this,Result.andThen]
def aV{T:TypeId}{l:List Value}(c:bH ol σ o=some true)(aa:o.op=.load T x)(a:ev σ x=.v (.pointer (some ⟨b,off,none⟩)))(h:aX H b off l)
  (e:bp C.P T=some (some l.length)/\v=.agg l.toArray\/bp C.P T=some none/\l=[v]) (d:RC C (.op ol rem k) (σ.put o.dst (.v v)) H):RC C (.op ol (o::rem) k) σ H:=by
 obtain⟨h1,h2⟩:=Ay (P:=C.P) aa a h e;exact tX v c h1 h2 d
def X5{T:TypeId}{l:List Value}(a:(bH ol σ o,o.op,ev σ x)=(some true,Op.load T x,SV.v (.pointer (some ⟨b,off,none⟩))))(h:aX H b off l)
  (d:bp C.P T=some (some l.length)/\v=.agg l.toArray\/bp C.P T=some none/\l=[v]) (c:RC C (.op ol rem k) (σ.put o.dst (.v v)) H):RC C (.op ol (o::rem) k) σ H:=by
 simp only[ij]at a;exact aV a.1 a.2.1 a.2.2 h d c
variable{l':List (Nat×Oper)}
def aJ{T:TypeId}{l:List Value}(hf:fr.h.contains i=true)(c:bH ol σ o=some true)(aa:o.op=.load T x)(a:ev σ x=.v (.pointer (some ⟨b,off,none⟩)))(h:aX H b off l)
  (e:bp C.P T=some (some l.length)/\v=.agg l.toArray\/bp C.P T=some none/\l=[v]) (d:RD C ol fr str l' k (σ.put o.dst (.v v)) H):RD C ol fr str ((i,o)::l') k σ H:=by
 obtain⟨h1,h2⟩:=Ay (P:=C.P) aa a h e;exact zf v hf c h1 (by rw[aa];rfl) h2 d
def X6{T:TypeId}{l:List Value}(a:(fr.h.contains i,bH ol σ o,o.op,ev σ x)=(true,some true,Op.load T x,SV.v (.pointer (some ⟨b,off,none⟩))))(h:aX H b off l)
  (d:bp C.P T=some (some l.length)/\v=.agg l.toArray\/bp C.P T=some none/\l=[v]) (c:RD C ol fr str l' k (σ.put o.dst (.v v)) H):RD C ol fr str ((i,o)::l') k σ H:=by
 simp only[ij]at a;exact aJ a.1 a.2.1 a.2.2.1 a.2.2.2 h d c
def qY{T:TypeId}{l:List Value}(hf:fr.j.contains i=true)(f:fr.J.le H)(c:bH ol σ o=some true)(aa:o.op=.load T x)(a:ev σ x=.v (.pointer (some ⟨b,off,none⟩)))(h:aX fr.J b off l)
  (e:bp C.P T=some (some l.length)/\v=.agg l.toArray\/bp C.P T=some none/\l=[v]) (d:RD C ol fr str l' k (σ.put o.dst (.v v)) H):RD C ol fr str ((i,o)::l') k σ H:=by
 obtain⟨h1,h2⟩:=Ay (P:=C.P) aa a h e;exact Mo v hf f c h1 (by rw[aa];rfl) h2 d
end
open Go
def cL(P:Program)(t e:TypeId)(size bytes:Nat):Prop:=
 ∃i z,P.underlying t=some (.slice e)/\P.info? e=some i/\i.zero=some z/\i.size=size/\i.bytes=bytes/\z.cells.size=size/\0<size
variable{size bytes:Nat}{e:TypeId}
def cL.of{P:Program}{t:TypeId}(h1:P.underlying t=some (.slice e))(h2:(P.info? e).map (fun i=>(i.zero.map (·.cells.size),i.size,i.bytes))=some (some size,size,bytes))(h3:0<size):cL P t e size bytes:=by
 cases hi:P.info? e with
 |none=>rw[hi]at h2;cases h2
 |some i=>
  rw[hi]at h2;simp only[cZ,a8,ij]at h2;obtain⟨a,b,c⟩:=h2;cases d:i.zero with
  |none=>rw[d]at a;cases a
  |some z=>rw[d]at a;simp only[cZ,a8]at a;exact⟨i,z,h1,hi,d,b,c,a,h3⟩
def gX (H : PH) (e : TypeId) (size : Nat) (v : Value) (n : Nat) (xs : List Value) : Prop :=
  xs.length = n * size ∧
  ((v = .slice none 0 0 ∧ n = 0) ∨
   ∃ g cap cur, v = .slice (some ⟨g, 0, none⟩) n cap ∧ H g = some (.cells cur e (0, 0)) ∧ n ≤ cap ∧ cap ≤ maxLen ∧ cur.size = cap * size ∧ cur.toList.take (n * size) = xs)
def gX.nil(H:PH)(e:TypeId)(size:Nat):gX H e size (.slice none 0 0) 0 []:=⟨by simp,.inl ⟨rfl,rfl⟩⟩
variable{xs:List Value}{v:Value}
def gX.toRow{H:PH}{n:Nat}(h:gX H e size v n xs){w:World}(s:Sub H w):w.ownsRow 0 e size v n xs:=by
 obtain⟨h1,h2⟩:=h;refine⟨h1,?_⟩;rcases h2 with h2|⟨g,cap,cur,a,b,c,d,f,k⟩
 .exact .inl h2
 .exact .inr ⟨g,cap,cur,a,aF _,s _ _ b,c,d,f,k⟩
def qM(xN:Option Nat)(H H2:PH):Prop:=∀b o,some b≠xN->H b=some o->H2 b=some o
def qM.refl(xN:Option Nat)(H:PH):qM xN H H:=fun _ _ _ h=>h
def GC{P:Program}{t ty:TypeId}(ht:cL P t e size bytes){H:PH}{n:Nat}(q:gX H e size v n xs)
  {N L m c:Nat} {d:List Value} (hx:aX H N L d) (hl:d.length=m*size) (h1:∀u∈d,one u=true) (hb:(n+m)*bytes<=140737488355328) (U:n+m<=maxLen) (w:World) (s:Sub H w) :
  ∃J y H2,(Builtin.append_ #[t,t] ty #[v,.slice (some ⟨N,L,none⟩) m c]).run P w=.ok J y/\cM H w H2 y/\gX H2 e size J (n+m) (xs++d)/\qM v.ownBlock H H2/\
   (J.ownBlock=v.ownBlock\/∀g,J.ownBlock=some g->H g=none):=by
 obtain⟨i,z,a1,a2,a3,a4,a5,a6,a7⟩:=ht;obtain⟨cs,cty,cfz,c1,c2,c3⟩:=hx;have C:∀j u,d[j]?=some u->w.cell? ((⟨N,L,none⟩:Addr).add j)=some u:=by
  intro j u I;have K:=s _ _ c1;rw[show cs=cs.toList.toArray from by simp]at K;rw[nq,wP K];rw[<-c3]at I;rw[Cc]at I;split at I
  .rw[yR]at I;exact I
  .cases I
 obtain⟨J,y,p,A,a,_,k⟩:=run_append_own_at w 0 t ty e i z size bytes a1 a2 a3 a4 a5 a6 a7 v n xs (q.toRow s) ⟨N,L,none⟩ m c d hl C
  (fun u hu=>by have:=h1 u hu;cases u<;>first|rfl|cases this) U hb (aF _)
 have l:∀b,v.ownBlock=some b->H b≠none:=by
  intro b hb;rcases q.2 with ⟨rfl,_⟩|⟨g,cap,cur,rfl,S,_⟩
  .cases hb
  .simp only[Value.ownBlock,a8]at hb;subst hb;rw[S];exact fun e=>by cases e
 have keep:∀b o,some b≠v.ownBlock->H b=some o->y.heap[b]?=some o:=fun b o hb r=>by rw[a.block b (mI (s b o r)) hb];exact s b o r
 have f:∀b,b<w.heap.size->H b=none->y.heap[b]?=w.heap[b]?:=fun b hb G=>a.block b hb fun e=>l b e.symm G;obtain⟨x,F⟩:=A;rcases F with ⟨rfl,Q⟩|⟨g,cap,cur,rfl,_,S,Z,X,W,V⟩
 .refine⟨_,y,fun b=>if some b=v.ownBlock then none else H b,p,⟨fun b o h=>?_,a.size,f,fun b _ G=>by simp[G],a.os,a.tape,a.output⟩,⟨x,.inl ⟨rfl,Q⟩⟩,fun b o hb r=>by simp[hb,r],.inr fun g h=>by cases h⟩;split at h
  .cases h
  .exact keep b o (by assumption) h
 .have R:v.ownBlock=some g\/H g=none:=by
   rcases k with h|h
   .left;rw[<-h];rfl
   .right
    simp only[Value.ownBlock,a8]at h;subst h;cases T:H w.heap.size with
    |none=>rfl
    |some o=>exact absurd (mI (s _ _ T)) O
  refine⟨_,y,fun b=>if b=g then some (.cells cur e (0,0))else if some b=v.ownBlock then none else H b,p,⟨fun b o h=>?_,a.size,f,fun b hb G=>?_,a.os,a.tape,a.output⟩,
   ⟨x,.inr ⟨g,cap,cur,rfl,by simp,Z,X,W,V⟩⟩,fun b o hb r=>?_,?_⟩
  .split at h
   .rename_i e1;subst e1;cases h;exact S
   .split at h
    .cases h
    .exact keep b o (by assumption) h
  .have:b≠g:=by
    rintro rfl;rcases k with h|h
    .exact l b (by rw[<-h];rfl) G
    .simp only[Value.ownBlock,a8]at h;omega
   simp[this,G]
  .have:b≠g:=by
    rintro rfl;rcases R with h|h
    .exact hb h.symm
    .rw[h]at r;cases r
   simp[this,hb,r]
  .rcases k with h|h
   .exact .inl h
   .right
    intro g' B;rw[h]at B;simp only[a8]at B;subst B;cases T:H w.heap.size with
    |none=>rfl
    |some o=>exact absurd (mI (s _ _ T)) O
def mP(size:Nat):Nat->List (Nat×Value)->Bool
 |_,[]=>true
 |j,(i,v)::l=>decide (i=j) && decide (v.cells.toList.length=size) && mP size (j+1) l
def av:List (Nat×Value)->List Value
 | []=>[]
 |(_,v)::l=>v.cells.toList++av l
def nQ(l cs:List Value)(off:Nat)(h:off+cs.length<=l.length):bL l off cs=l.take off++cs++l.drop (off+cs.length):=by
 induction cs generalizing l off with
 |nil=>simp[bL]
 |cons c cs b=>
  simp only[bm]at h;have a:off<l.length:=by omega
  rw[bL,b _ _ (by simp;omega)];rw[List.take_set,List.drop_set];have h1:(l.take (off+1)).set off c=l.take off++[c]:=by rw[pj a,List.set_append];simp[ju (lC a)]
  rw[h1,ag O];simp[Nat.add_assoc,Nat.add_comm 1]
def Hl(size:Nat):∀(parts:List (Nat×Value)) (j:Nat) (cells:List Value),mP size j parts=true->cells.length=(j+parts.length)*size->
  ou (fun i=>some (i*size,size)) cells parts=some (cells.take (j*size)++av parts)
 | [],j,cells,_,a=>by simp only[bo,sw]at a;simp[ou,av,<-a]
 |(i,v)::l,j,cells,h,a=>by
  simp only[mP,cX,dA]at h;obtain⟨⟨rfl,h2⟩,h3⟩:=h;simp only[bm]at a;have b:i*size+size<=cells.length:=by
   rw[a];have:i*size+size=(i+1)*size:=by rw[ig];simp
   rw[this];exact ch _ O
  simp only[ou,h2,eW,ag b];rw[Hl size l (i+1) _ h3 (by rw[eC,a];congr 1;omega)];rw[nQ _ _ _ (by rw[h2];exact b)];simp only[av];congr 1;rw[h2];have e1:(i+1)*size=i*size+size:=by rw[ig];simp
  have e2:(cells.take (i*size)++v.cells.toList).length=(i+1)*size:=by simp[h2,e1];omega
  rw[Cd O,<-e2,dO,cq]
def ND{P:Program}{t:TypeId}(ht:cL P t e size bytes){len:Nat}{parts:List (Nat×Value)}(hp:mP size 0 parts=true)(a:parts.length=len)(f:len*size<=16777216)(w:World):
  (Instr.buildSlice t len parts.toArray).run P w=.ok (.slice (some ⟨w.heap.size,0,none⟩) len len) { w with heap:=w.heap.push (.cells (av parts).toArray e (0,0)) }:=by
 obtain⟨i,z,j,a2,a3,a4,a5,l,k⟩:=ht;have b:(underlying t).run P w=.ok (.slice e) w:=eV j;have sz:(sizeOf e).run P w=.ok size w:=by simp[sizeOf,typeInfo,program,Sem.run,a2,a4]
 have g:(zeroValue e).run P w=.ok z w:=by simp[zeroValue,typeInfo,program,Sem.run,a2,a3]
 have key:∀(zero:Array Value),Instr.fill (fun i=>some (i*size,size)) ((Array.range (len*size)).map (zero[· % zero.size]!)) parts=some (av parts).toArray:=by intro zero;refine Ds (fun i x h=>h) ?_;have:=Hl size parts 0 ((Array.range (len*size)).map (zero[· % zero.size]!)).toList hp (by simp[a]);simpa using this
 by_cases h0:len*size=0
 .simp only[Instr.buildSlice,eI,b,Result.andThen,sz,ab (show ¬len*size>2^24 by omega),ag h0];have d:len=0:=by
   rcases Nat.mul_eq_zero.1 h0 with h|h
   .exact h
   .omega
  subst d;have c:parts=[]:=List.length_eq_zero_iff.1 a;subst c;simp[Instr.fill,av,newRow,newObj,Sem.run,Result.andThen];rw[show Array.range 0=#[] from Array.eq_empty_of_size_eq_zero (by simp)];simp
 .simp only[Instr.buildSlice,eI,b,Result.andThen,sz,ab (show ¬len*size>2^24 by omega),ab h0,g];simp[key,newRow,newObj,Sem.run,Result.andThen]
def Iu{σ:St}:∀{l:List (Nat×Operand)} {r:List (Nat×Value)},iZ (ev σ) l=some r->l.map (fun x=>(x.1,bf σ x.2))=r/\∀y∈l,fO (ev σ y.2)=true
 | [],r,h=>by cases h;exact⟨rfl,fun y b=>(dH b).elim⟩
 |(i,y)::l,r,h=>by
  simp only[iZ]at h;split at h
  .rename_i v d hv hr;cases h
   obtain⟨h1,h2⟩:=Iu hr;have c:bf σ y=v:=by simp[bf,hv]
   refine⟨by rw[ib,h1,c],fun z a=>?_⟩;rcases List.mem_cons.1 a with rfl|a
   .rw[hv];rfl
   .exact h2 z a
  .cases h
section
variable {C:Cx} {P:Program} {k:List Item} {σ:St} {H:PH}
variable{ps:List (Nat×Value)}{parts:Array (Nat×Operand)}{size bytes:Nat}{t e:TypeId}{o:Oper}
def KF{len:Nat}(aa:o.op=.buildSlice t len parts)(ha:iZ (ev σ) parts.toList=some ps)(ht:cL P t e size bytes)
  (hp:mP size 0 ps=true) (d:ps.length=len) (f:len*size<=16777216) :
  bQ σ o.op=true/\eD P (execOp (bf σ) o) H fun sv H2=>∃b,H b=none/\sv=.v (.slice (some ⟨b,0,none⟩) len len)/\H2=H.put b (.cells (av ps).toArray e (0,0)):=by
 obtain⟨h1,h2⟩:=Iu ha;constructor
 .simp only[bQ,aa,fB,Op.operands,Bool.true_and,ss];intro y g;simp at g;obtain⟨i,hi⟩:=g;exact h2 (i,y) (by simpa using hi)
 .intro w l;have a:(parts.map fun(i,x)=>(i,bf σ x))=ps.toArray:=by rw[<-mY];simpa using h1
  have:=ND ht hp d f w;obtain⟨j,h⟩:=cM.new l (.cells (av ps).toArray e (0,0));have c:(execOp (bf σ) o).run P w=.ok (.value (.slice (some ⟨w.heap.size,0,none⟩) len len)) { w with heap:=w.heap.push (.cells (av ps).toArray e (0,0)) }:=by simp only[execOp,aa,a,eI,this];simp[Result.andThen]
  rw[c];exact⟨_,h,w.heap.size,j,rfl,rfl⟩
variable{ol rem:List Oper}
def F1{len:Nat}(ht:cL C.P t e size bytes)(h:bH ol σ o=some true)(aa:o.op=.buildSlice t len parts)(ha:iZ (ev σ) parts.toList=some ps)
  (hp:mP size 0 ps=true) (f:ps.length=len) (g:len*size<=16777216)
  (i:∀b,H b=none->RC C (.op ol rem k) (σ.put o.dst (.v (.slice (some ⟨b,0,none⟩) len len))) (H.put b (.cells (av ps).toArray e (0,0)))):RC C (.op ol (o::rem) k) σ H:=by
 obtain⟨h1,h2⟩:=KF (H:=H) aa ha ht hp f g;exact jw h h1 (h2.mono fun sv H2 ⟨b,a,c,d⟩=>by subst c;subst d;exact i b a)
variable{l:List (Nat×Oper)}{i:Nat}{str:cw}{fr:cu}
def Mh{len:Nat}(ht:cL C.P t e size bytes)(h:bH ol σ o=some true)(aa:o.op=.buildSlice t len parts)(ha:iZ (ev σ) parts.toList=some ps)
  (hp:mP size 0 ps=true) (f:ps.length=len) (g:len*size<=16777216)
  (j:∀b,H b=none->RD C ol fr str l k (σ.put o.dst (.v (.slice (some ⟨b,0,none⟩) len len))) (H.put b (.cells (av ps).toArray e (0,0)))):RD C ol fr str ((i,o)::l) k σ H:=by
 obtain⟨h1,h2⟩:=KF (H:=H) aa ha ht hp f g;exact t8 h h1 (by rw[aa];rfl) (h2.mono fun sv H2 ⟨b,a,c,d⟩=>by subst c;subst d;exact⟨kI.le (PH.le_put a),j b a⟩)
variable{xs news:List Value}{v:Value}{x y:Operand}
def KD{n xb xo m c:Nat}(ht:cL P t e size bytes)(aa:o.op=.call ⟨.builtin .append,#[x,y],#[t,t]⟩)(p:ev σ x=.v v)(l:ev σ y=.v (.slice (some ⟨xb,xo,none⟩) m c))
  (f:gX H e size v n xs) (z:aX H xb xo news) (A:news.length=m*size) (h1:news.all one=true) (hb:(n+m)*bytes<=140737488355328) (j:n+m<=maxLen) :
  bQ σ o.op=true/\eD P (execOp (bf σ) o) H fun sv H2=>∃a,sv=.v a/\gX H2 e size a (n+m) (xs++news)/\qM v.ownBlock H H2/\(a.ownBlock=v.ownBlock\/∀g,a.ownBlock=some g->H g=none):=by
 constructor
 .simp[bQ,aa,fB,Op.operands,Call.operands,p,l,fO]
 .intro w r;obtain⟨a,q,H2,d,st,b,i,h⟩:=GC (ty:=o.type) (c:=c) ht f z A (fun u s=>List.all_eq_true.1 h1 u s) hb j w r;have:(execOp (bf σ) o).run P w=.ok (.value a) q:=by simp[execOp,aa,resolve,bf,p,l,invoke,builtin,Result.andThen,d]
  rw[this];exact⟨H2,st,a,rfl,b,i,h⟩
def LX{n xb xo m c:Nat}(ht:cL C.P t e size bytes)(f:gX H e size v n xs)(l:bH ol σ o=some true)(aa:o.op=.call ⟨.builtin .append,#[x,y],#[t,t]⟩)(j:ev σ x=.v v)(i:ev σ y=.v (.slice (some ⟨xb,xo,none⟩) m c))
  (p:aX H xb xo news) (q:news.length=m*size) (h1:news.all one=true) (hb:(n+m)*bytes<=140737488355328) (h:n+m<=maxLen)
  (r:∀d H2,gX H2 e size d (n+m) (xs++news)->qM v.ownBlock H H2->(d.ownBlock=v.ownBlock\/∀g,d.ownBlock=some g->H g=none)->RC C (.op ol rem k) (σ.put o.dst (.v d)) H2):RC C (.op ol (o::rem) k) σ H:=by
 obtain⟨a,b⟩:=KD (σ:=σ) ht aa j i f p q h1 hb h;exact jw l a (b.mono fun sv H2 ⟨d,e1,e2,u,s⟩=>by subst e1;exact r d H2 e2 u s)
def Mg{n xb xo m c:Nat}(ht:cL C.P t e size bytes)(f:gX H e size v n xs)(hs:str.h.contains i=false)(p:str.j.contains i=false)(u:bH ol σ o=some true)(aa:o.op=.call ⟨.builtin .append,#[x,y],#[t,t]⟩)(s:ev σ x=.v v)(r:ev σ y=.v (.slice (some ⟨xb,xo,none⟩) m c))
  (w:aX H xb xo news) (z:news.length=m*size) (h1:news.all one=true) (hb:(n+m)*bytes<=140737488355328) (q:n+m<=maxLen)
  (A:∀d H2,gX H2 e size d (n+m) (xs++news)->qM v.ownBlock H H2->(d.ownBlock=v.ownBlock\/∀g,d.ownBlock=some g->H g=none)->RD C ol fr str l k (σ.put o.dst (.v d)) H2):RD C ol fr str ((i,o)::l) k σ H:=by
 obtain⟨a,b⟩:=KD (σ:=σ) ht aa s r f w z h1 hb q;exact t8 u a (by rw[aa];rfl) (b.mono fun sv H2 ⟨d,e1,e2,F,B⟩=>by subst e1;exact⟨kI.non hs p,A d H2 e2 F B⟩)
variable{cs:List Value}{off:Nat}{ty:TypeId}
def KI{T:TypeId}{b:Nat}{cells:Array Value}(aa:o.op=.store T x y)(q:ev σ x=.v (.pointer (some ⟨b,off,none⟩)))(p:ev σ y=.v v)
  (n:H b=some (.cells cells ty (0,0))) (s:mB v=some cs) (hs:bD P T=some cs.length) (j:off+cs.length<=cells.size) :
  bQ σ o.op=true/\eD P (execOp (bf σ) o) H fun sv H2=>sv=.u/\H2=H.put b (.cells (bL cells.toList off cs).toArray ty (0,0)):=by
 constructor
 .simp[bQ,aa,fB,Op.operands,q,p,fO]
 .intro w r;obtain⟨a,g⟩:=GT s;have hb:=r _ _ n;rw[show cells=cells.toList.toArray from by simp]at hb;obtain⟨w2,h1,h2,h3,h4,h5,h6,t⟩:=x9 (P:=P) b ty cs 0 off cells.toList w hb (by simpa using j) g;have sz:(sizeOf T).run P w=.ok cs.length w:=by unfold bD at hs;simp only[yV]at hs;obtain⟨i,hi,h⟩:=hs;simp[sizeOf,typeInfo,program,Sem.run,hi,h]
  have l:v.cells.size=cs.length:=by rw[<-a];simp
  have f:(execOp (bf σ) o).run P w=.ok .skip w2:=by simp only[execOp,aa,bf,q,p,Instr.storeAt,Instr.sureAddr,storeVar,eI];simp[Result.andThen,sz,l,a,h1]
  rw[f];refine⟨_,⟨fun c o' h=>?_,O,fun c m d=>h3 c (fun e=>by subst e;rw[n]at d;cases d),fun c m d=>?_,h5,h6,t⟩,rfl,rfl⟩
  .by_cases e:c=b
   .subst e;simp only[PH.put,co]at h;cases h;simpa using h2
   .simp only[PH.put,ab e]at h;rw[h3 c e];exact r _ _ h
  .have:c≠b:=fun e=>by subst e;rw[n]at d;cases d
   simp[PH.put,this,d]
def Ma{T:TypeId}{b:Nat}{cells:Array Value}(i:H b=some (.cells cells ty (0,0)))(f:bH ol σ o=some true)(aa:o.op=.store T x y)(e:ev σ x=.v (.pointer (some ⟨b,off,none⟩)))(d:ev σ y=.v v)
  (h:mB v=some cs) (hs:bD C.P T=some cs.length) (c:off+cs.length<=cells.size)
  (g:RC C (.op ol rem k) (σ.put o.dst .u) (H.put b (.cells (bL cells.toList off cs).toArray ty (0,0)))):RC C (.op ol (o::rem) k) σ H:=by
 obtain⟨h1,h2⟩:=KI (σ:=σ) aa e d i h hs c;exact jw f h1 (h2.mono fun sv H2 ⟨a,b⟩=>by subst a;subst b;exact g)
def Mn{T:TypeId}{b:Nat}{cells:Array Value}(m:H b=some (.cells cells ty (0,0)))(c:gE str.k i=false)(g:bH ol σ o=some true)(aa:o.op=.store T x y)(f:ev σ x=.v (.pointer (some ⟨b,off,none⟩)))(e:ev σ y=.v v)
  (j:mB v=some cs) (hs:bD C.P T=some cs.length) (d:off+cs.length<=cells.size)
  (h:RD C ol fr str l k (σ.put o.dst .u) (H.put b (.cells (bL cells.toList off cs).toArray ty (0,0)))):RD C ol fr str ((i,o)::l) k σ H:=by
 obtain⟨h1,h2⟩:=KI (σ:=σ) aa f e m j hs d;exact Mp c g h1 (by rw[aa];rfl) (h2.mono fun sv H2 ⟨a,b⟩=>by subst a;subst b;exact h)
end
open Go
section
variable {C:Cx} {P:Program} {k:List Item} {σ:St} {H:PH}
def fg(P:Program)(a:TypeId)(v:Value):Prop:=∃l,keyOf P a v=some l
def eQ(P:Program)(H:PH)(r:Nat)(c:TypeId)(S:Value->Value->Prop):Prop:=
 ∃b a,H r=some (.map b a)/\(∀e∈b.toList,fg P c e.key)/\b.toList.Pairwise (fun x y=>x.key≠y.key)/\∀y u,S y u<->∃e∈b.toList,e.key=y/\e.val=u
variable{S:Value->Value->Prop}{kt:TypeId}{r:Nat}
def eQ.le{H H2:PH}(h:eQ P H r kt S)(d:H.le H2):eQ P H2 r kt S:=by obtain⟨e,c,a,b⟩:=h;exact⟨e,c,d _ _ a,b⟩
def eQ.of_eq{H H2:PH}(h:eQ P H r kt S)(d:H2 r=H r):eQ P H2 r kt S:=by obtain⟨e,c,a,b⟩:=h;exact⟨e,c,d.trans a,b⟩
def eQ.congr{S':Value->Value->Prop}(h:eQ P H r kt S)(hs:∀y u,S' y u<->S y u):eQ P H r kt S':=by obtain⟨f,e,a,b,c,d⟩:=h;exact⟨f,e,a,b,c,fun y u=>(hs y u).trans (d y u)⟩
variable{x:Value}
def TE{mt et:TypeId}(K:Maps.Keyed P kt)(hm:P.underlying mt=some (.map kt et))(h:eQ P H r kt S){v:Value}(A:fg P kt x)(hs:S x v)(w:World)(B:Sub H w):
  (Instr.lookup mt (.map (some r)) x true).run P w=.ok (.tuple #[v,.bool true]) w:=by
 obtain⟨o,g,a,b,c,d⟩:=h;obtain⟨l,y⟩:=A;have i:(getObj r).run P w=.ok (.map o g) w:=by simp[getObj,Sem.run,B _ _ a]
 obtain⟨s,n,f,q⟩:=(d x v).1 hs;rcases K.find w y o.toList b with ⟨h1,h2⟩|⟨j,e,h1,h2,h3⟩
 .exact absurd f (h2 s n)
 .have:e=s:=by
   have m:e∈o.toList:=cY h2;by_cases z:e=s
   .exact z
   .exfalso;rcases List.mem_iff_getElem.1 m with ⟨p,u,rfl⟩
    rcases List.mem_iff_getElem.1 n with ⟨i2,t,rfl⟩
    rcases sx p i2 with h|h|h
    .exact List.pairwise_iff_getElem.1 c p i2 u t h (h3.trans f.symm)
    .subst h;exact z rfl
    .exact List.pairwise_iff_getElem.1 c i2 p t u h (f.trans h3.symm)
  subst this;subst q;have F:=K.check w o.isEmpty y;simp[Instr.lookup,eV hm,Result.andThen,i,F,h1]
def TD{mt et:TypeId}(K:Maps.Keyed P kt)(hm:P.underlying mt=some (.map kt et)){z:Value}(g:bk P et=some z)(h:eQ P H r kt S)(q:fg P kt x)(hs:∀v,¬S x v)(w:World)(s:Sub H w):
  (Instr.lookup mt (.map (some r)) x true).run P w=.ok (.tuple #[z,.bool false]) w:=by
 obtain⟨n,f,a,b,c,d⟩:=h;obtain⟨l,o⟩:=q;have m:(getObj r).run P w=.ok (.map n f) w:=by simp[getObj,Sem.run,s _ _ a]
 have p:(zeroValue et).run P w=.ok z w:=by
  unfold bk at g;cases hi:P.info? et with
  |none=>rw[hi]at g;cases g
  |some i=>rw[hi]at g;simp only[dz]at g;simp[zeroValue,typeInfo,program,Sem.run,hi,g]
 rcases K.find w o n.toList b with ⟨h1,h2⟩|⟨j,e,h1,h2,h3⟩
 .have t:=K.check w n.isEmpty o;simp[Instr.lookup,eV hm,Result.andThen,m,t,h1,p]
 .exact absurd ((d x e.val).2 ⟨e,cY h2,h3,rfl⟩) (hs _)
def Xt{mt et:TypeId}(K:Maps.Keyed P kt)(hm:P.underlying mt=some (.map kt et))(h:eQ P H r kt S){v:Value}(hx:fg P kt x)(w:World)(hw:Sub H w):
  ∃w2 H2 o,(Instr.mapUpdate mt (.map (some r)) x v).run P w=.ok () w2/\H2=H.put r o/\cM H w H2 w2/\eQ P H2 r kt (fun y u=>(y=x/\u=v)\/(y≠x/\S y u)):=by
 obtain⟨m,g,a,b,c,d⟩:=h;obtain⟨l,I⟩:=hx;have ha:=hw _ _ a;have t:(getObj r).run P w=.ok (.map m g) w:=by simp[getObj,Sem.run,ha]
 have s:∀(o:Obj),(setObj r o).run P w=.ok () { w with heap:=w.heap.setIfInBounds r o }:=by intro o;simp[setObj,Sem.run,ha]
 have step:∀(o:Obj),cM H w (H.put r o) { w with heap:=w.heap.setIfInBounds r o }:=by
  intro o;have B:=mI ha;refine⟨fun b' x' h=>?_,by simp,fun b' hb G=>?_,fun b' hb G=>?_,rfl,rfl,rfl⟩
  .by_cases e:b'=r
   .subst e;simp only[PH.put,co]at h;cases h;simp[Cb,B]
   .simp only[PH.put,ab e]at h;simp only[Cb,ab (Ne.symm e)];exact hw _ _ h
  .have:b'≠r:=fun e=>by subst e;rw[a]at G;cases G
   simp only[Cb,ab (Ne.symm this)]
  .have:b'≠r:=fun e=>by subst e;rw[a]at G;cases G
   simp[PH.put,this,G]
 rcases K.find w I m.toList b with ⟨h1,h2⟩|⟨j,e,h1,h2,h3⟩
 .refine⟨{ w with heap:=w.heap.setIfInBounds r (.map (m.push { key:=x,val:=v,born:=g }) (g+1)) },_,.map (m.push { key:=x,val:=v,born:=g }) (g+1),?_,rfl,step (.map (m.push { key:=x,val:=v,born:=g }) (g+1)),?_⟩
  .have X:=K.check w false I;simp[Instr.mapUpdate,eV hm,Result.andThen,t,X,h1];exact s _
  .refine⟨_,_,ag rfl,?_,?_,?_⟩
   .intro e q;simp at q;rcases q with q|rfl
    .exact b e (by simpa using q)
    .exact⟨l,I⟩
   .simp only[Array.toList_push,List.pairwise_append,su,eW];exact⟨c,fun y hy z Z=>by simp at Z;subst Z;exact h2 y hy⟩
   .intro y u;simp only[Array.toList_push,lx,List.mem_singleton];constructor
    .rintro(⟨rfl,rfl⟩|⟨n,hs⟩)
     .exact⟨_,.inr rfl,rfl,rfl⟩
     .obtain⟨e,q,h5,h6⟩:=(d y u).1 hs;exact⟨e,.inl q,h5,h6⟩
    .rintro⟨e,q|rfl,rfl,rfl⟩
     .exact .inr ⟨h2 e q,(d _ _).2 ⟨e,q,rfl,rfl⟩⟩
     .exact .inl ⟨rfl,rfl⟩
 .have L:m[j]?=some e:=by simpa using h2
  have p:j<m.size:=by
   rcases aI j m.size with h|h
   .exact h
   .rw[Ca h]at L;cases L
  have N:((m[j]?).map (·.key)).getD x=x:=by rw[L];simpa using h3
  have A:(m.modify j fun e=>{ e with key:=x,val:=v }).toList=m.toList.set j { e with key:=x,val:=v }:=by
   apply List.ext_getElem?;intro i;simp only[Array.getElem?_toList,Array.getElem?_modify,vX,n8];by_cases hi:j=i
   .subst hi;have W:m[j]=e:=by rw[sj p]at L;exact cW L
    simp[L,p,W]
   .simp[hi]
  refine⟨{ w with heap:=w.heap.setIfInBounds r (.map (m.modify j fun e=>{ e with key:=x,val:=v }) g) },_,.map (m.modify j fun e=>{ e with key:=x,val:=v }) g,?_,rfl,step (.map (m.modify j fun e=>{ e with key:=x,val:=v }) g),?_⟩
  .have V:(Instr.keyThatStays (((m[j]?).map (·.key)).getD x) x).run P w=.ok x w:=by rw[N];exact K.stays w I
   have X:=K.check w false I;simp[Instr.mapUpdate,eV hm,Result.andThen,t,X,h1,V];exact s _
  .have fK:∀i Q,m.toList[i]?=some Q->i≠j->Q.key≠x:=by
    intro i Q hi n J;have F:i<m.toList.length:=by
     rcases aI i m.toList.length with h|h
     .exact h
     .rw[fe h]at hi;cases hi
    have e1:m.toList[i]=Q:=by rw[aZ F]at hi;exact cW hi
    have e2:m.toList[j]'(by simpa using p)=e:=by rw[aZ (by simpa using p)]at h2;exact cW h2
    rcases aI i j with h|h
    .exact List.pairwise_iff_getElem.1 c i j F (by simpa using p) h (by rw[e1,e2,J,h3])
    .exact List.pairwise_iff_getElem.1 c j i (by simpa using p) F O (by rw[e1,e2,J,h3])
   have mem:∀f,f∈m.toList.set j { e with key:=x,val:=v }<->f={ e with key:=x,val:=v }\/∃i,i≠j/\m.toList[i]?=some f:=by
    intro f;rw[List.mem_iff_getElem?];constructor
    .rintro⟨i,hi⟩;rw[vX]at hi;split at hi
     .split at hi
      .cases hi;exact .inl rfl
      .cases hi
     .rename_i n;exact .inr ⟨i,Ne.symm n,hi⟩
    .rintro(rfl|⟨i,n,hi⟩)
     .exact⟨j,by rw[vX];simp[p]⟩
     .exact⟨i,by rw[vX,ab (Ne.symm n)];exact hi⟩
   refine⟨_,_,ag rfl,?_,?_,?_⟩
   .rw[A];intro f hf;rcases(mem f).1 hf with rfl|⟨i,_,hi⟩
    .exact⟨l,I⟩
    .exact b f (cY hi)
   .rw[A,List.pairwise_iff_getElem];intro U i2 T R B;simp only[lu]at T R;rw[List.getElem_set,List.getElem_set];by_cases e1:j=U<;>by_cases e2:j=i2
    .omega
    .subst e1;rw[ag rfl,ab e2];exact fun J=>fK i2 _ (aZ R) (Ne.symm e2) J.symm
    .subst e2;rw[ag rfl,ab e1];exact fun J=>fK U _ (aZ T) (Ne.symm e1) J
    .rw[ab e1,ab e2];exact List.pairwise_iff_getElem.1 c U i2 T R B
   .intro y u;rw[A];constructor
    .rintro(⟨rfl,rfl⟩|⟨n,hs⟩)
     .exact⟨_,(mem _).2 (.inl rfl),rfl,rfl⟩
     .obtain⟨f,hf,h5,h6⟩:=(d y u).1 hs;obtain⟨i,hi⟩:=List.mem_iff_getElem?.1 hf;refine⟨f,(mem f).2 (.inr ⟨i,fun ei=>?_,hi⟩),h5,h6⟩;subst ei;rw[h2]at hi;cases hi;exact n (h5.symm.trans h3)
    .rintro⟨f,hf,rfl,rfl⟩;rcases(mem f).1 hf with rfl|⟨i,n,hi⟩
     .exact .inl ⟨rfl,rfl⟩
     .exact .inr ⟨fK i f hi n,(d _ _).2 ⟨f,cY hi,rfl,rfl⟩⟩
end
open Go
section
variable {C:Cx} {P:Program} {k:List Item} {σ:St} {H:PH}
variable{v key z:Value}{S:Value->Value->Prop}{r:Nat}{x y:Operand}{mt kt et:TypeId}{o:Oper}
def Jh(K:Maps.Keyed P kt)(hm:P.underlying mt=some (.map kt et))(f:bk P et=some z)(aa:o.op=.lookup mt x y true)
  (c:ev σ x=.v (.map (some r))) (b:ev σ y=.v key) (h:eQ P H r kt S) (e:fg P kt key)  {is:Bool} (hs:is=true/\S key v\/is=false/\v=z/\∀u,¬S key u) :
  bQ σ o.op=true/\∀w,Sub H w->(execOp (bf σ) o).run P w=.ok (.value (.tuple #[v,.bool is])) w:=by
 constructor
 .simp[bQ,aa,fB,Op.operands,c,b,fO]
 .intro w d;have a:(Instr.lookup mt (.map (some r)) key true).run P w=.ok (.tuple #[v,.bool is]) w:=by
   rcases hs with ⟨rfl,hs⟩|⟨rfl,rfl,hs⟩
   .exact TE K hm h e hs w d
   .exact TD K hm f h e hs w d
  simp[execOp,aa,bf,c,b,a,Result.andThen]
variable{ol rem:List Oper}
def wv(K:Maps.Keyed C.P kt)(hm:C.P.underlying mt=some (.map kt et))(a:bk C.P et=some z)(d:bH ol σ o=some true)(aa:o.op=.lookup mt x y true)
  (c:ev σ x=.v (.map (some r))) (b:ev σ y=.v key) (h:eQ C.P H r kt S) (e:fg C.P kt key) (v:Value) (is:Bool) (hs:is=true/\S key v\/is=false/\v=z/\∀u,¬S key u)
  (f:RC C (.op ol rem k) (σ.put o.dst (.v (.tuple #[v,.bool is]))) H):RC C (.op ol (o::rem) k) σ H:=by
 obtain⟨h1,h2⟩:=Jh K hm a aa c b h e hs;exact tX _ d h1 h2 f
variable{l:List (Nat×Oper)}{i:Nat}{str:cw}{fr:cu}
def ze(K:Maps.Keyed C.P kt)(hm:C.P.underlying mt=some (.map kt et))(a:bk C.P et=some z)(hf:fr.h.contains i=true)(d:bH ol σ o=some true)(aa:o.op=.lookup mt x y true)
  (c:ev σ x=.v (.map (some r))) (b:ev σ y=.v key) (h:eQ C.P H r kt S) (e:fg C.P kt key) (v:Value) (is:Bool) (hs:is=true/\S key v\/is=false/\v=z/\∀u,¬S key u)
  (f:RD C ol fr str l k (σ.put o.dst (.v (.tuple #[v,.bool is]))) H):RD C ol fr str ((i,o)::l) k σ H:=by
 obtain⟨h1,h2⟩:=Jh K hm a aa c b h e hs;exact zf _ hf d h1 (by rw[aa];rfl) h2 f
def KJ(K:Maps.Keyed P kt)(hm:P.underlying mt=some (.map kt et)){z:Operand}(aa:o.op=.mapUpdate mt x y z\/o.op=.insert mt x y z)
  (f:ev σ x=.v (.map (some r))) (d:ev σ y=.v key) (c:ev σ z=.v v) (h:eQ P H r kt S) (i:fg P kt key) :
  bQ σ o.op=true/\eD P (execOp (bf σ) o) H fun sv H2=>sv=.u/\∃ob,H2=H.put r ob/\eQ P H2 r kt (fun y u=>(y=key/\u=v)\/(y≠key/\S y u)):=by
 constructor
 .rcases aa with aa|aa<;>simp[bQ,aa,fB,Op.operands,f,d,c,fO]
 .intro w g;obtain⟨w2,H2,ob,a,e,st,b⟩:=Xt (v:=v) K hm h i w g;have:(execOp (bf σ) o).run P w=.ok .skip w2:=by rcases aa with aa|aa<;>simp[execOp,aa,bf,f,d,c,a,Result.andThen]
  rw[this];exact⟨H2,st,rfl,ob,e,b⟩
def Me(K:Maps.Keyed C.P kt)(hm:C.P.underlying mt=some (.map kt et)){z:Operand}(g:bH ol σ o=some true)(aa:o.op=.mapUpdate mt x y z\/o.op=.insert mt x y z)
  (f:ev σ x=.v (.map (some r))) (e:ev σ y=.v key) (d:ev σ z=.v v) (h:eQ C.P H r kt S) (i:fg C.P kt key)
  (j:∀ob,eQ C.P (H.put r ob) r kt (fun y u=>(y=key/\u=v)\/(y≠key/\S y u))->RC C (.op ol rem k) (σ.put o.dst .u) (H.put r ob)):RC C (.op ol (o::rem) k) σ H:=by
 obtain⟨h1,h2⟩:=KJ K hm aa f e d h i;exact jw g h1 (h2.mono fun sv H2 ⟨a,ob,b,c⟩=>by subst a;subst b;exact j ob c)
def Mq(K:Maps.Keyed C.P kt)(hm:C.P.underlying mt=some (.map kt et)){z:Operand}(hs:str.h.contains i=false)(d:str.j.contains i=false)(m:bH ol σ o=some true)(aa:o.op=.mapUpdate mt x y z\/o.op=.insert mt x y z)
  (g:ev σ x=.v (.map (some r))) (f:ev σ y=.v key) (e:ev σ z=.v v) (h:eQ C.P H r kt S) (n:fg C.P kt key)
  (p:∀ob,eQ C.P (H.put r ob) r kt (fun y u=>(y=key/\u=v)\/(y≠key/\S y u))->RD C ol fr str l k (σ.put o.dst .u) (H.put r ob)):RD C ol fr str ((i,o)::l) k σ H:=by
 obtain⟨h1,h2⟩:=KJ K hm aa g f e h n;exact t8 m h1 (by rcases aa with aa|aa<;>rw[aa]<;>rfl) (h2.mono fun sv H2 ⟨a,ob,b,c⟩=>by subst a;subst b;exact⟨kI.non hs d,p ob c⟩)
def V9(aa:o.op=.makeMap mt none):
  bQ σ o.op=true/\eD P (execOp (bf σ) o) H fun sv H2=>∃r,H r=none/\sv=.v (.map (some r))/\H2=H.put r (.map #[] 0):=by
 constructor
 .simp[bQ,aa,fB,Op.operands]
 .intro w d;obtain⟨c,b⟩:=cM.new d (.map #[] 0);have a:(execOp (bf σ) o).run P w=.ok (.value (.map (some w.heap.size))) { w with heap:=w.heap.push (.map #[] 0) }:=by simp[execOp,aa,Instr.makeMap,newObj,Sem.run,Result.andThen]
  rw[a];exact⟨_,b,w.heap.size,c,rfl,rfl⟩
def eQ.empty(h:H r=some (.map #[] 0)):eQ P H r kt (fun _ _=>False):=
 ⟨#[],0,h,fun e a=>by simp at a,by simp,fun y u=>by simp⟩
def L6(d:bH ol σ o=some true)(aa:o.op=.makeMap mt none)
  (e:∀r,H r=none->RC C (.op ol rem k) (σ.put o.dst (.v (.map (some r)))) (H.put r (.map #[] 0))):RC C (.op ol (o::rem) k) σ H:=by
 obtain⟨h1,h2⟩:=V9 (σ:=σ) (H:=H) (P:=C.P) aa;exact jw d h1 (h2.mono fun sv H2 ⟨r,a,b,c⟩=>by subst b;subst c;exact e r a)
def Mj(a:bH ol σ o=some true)(aa:o.op=.makeMap mt none)
  (b:∀r,H r=none->RD C ol fr str l k (σ.put o.dst (.v (.map (some r)))) (H.put r (.map #[] 0))):RD C ol fr str ((i,o)::l) k σ H:=
 .inr ⟨a,by rw[aa];exact b⟩
theorem gX.cells{e:TypeId}{size:Nat}{n:Nat}{xs:List Value}(h:gX H e size v n xs)(j:0<n):∃g cap,v=.slice (some ⟨g,0,none⟩) n cap/\aX H g 0 xs:=by
 obtain⟨i,⟨_,l⟩|⟨g,cap,cur,a,b,c,d,f,k'⟩⟩:=h
 .omega
 .refine⟨g,cap,a,cur,e,(0,0),b,?_,?_⟩
  .rw[i,f,ii];exact ch _ c
  .rw[gV,i];exact k'
def aX.sub{b off:Nat}{l:List Value}(h:aX H b off l)(i n:Nat)(hi:i+n<=l.length):aX H b (off+i) ((l.drop i).take n):=by
 obtain⟨cs,ty,e,a,b',c⟩:=h;have d:((l.drop i).take n).length=n:=by simp;omega
 refine⟨cs,ty,e,a,by rw[d];omega,?_⟩;rw[d];have:l=(cs.toList.drop off).take l.length:=c.symm
 conv=>rhs;rw[this]
 rw[List.drop_take,lr,n9,ju O]
end
end Go.Sx
