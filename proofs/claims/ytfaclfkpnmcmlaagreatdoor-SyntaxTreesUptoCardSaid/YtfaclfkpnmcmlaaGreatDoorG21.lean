import Derived.Test.YtfaclfkpnmcmlaaGreatDoorG04
import Derived.Test.YtfaclfkpnmcmlaaGreatDoorG14
import Derived.Test.YtfaclfkpnmcmlaaGreatDoorG18
import Derived.Test.YtfaclfkpnmcmlaaGreatDoorG20
import Derived.RangeFuncSeq
set_option maxHeartbeats 8000000
set_option linter.all false
open Go.Proofs.Tryz hiding d8
namespace Go.Sx
open Go
def nq(P:Program)(l:Nat)(args:Array Value)(H:PH)(Φ:Value->PH->Prop):Prop:=
 ∀w,Sub H w->YieldAt Fence.wide 0 P l args w fun e w2=>match e with
  | .returned v=>∃H2,bN H w H2 w2/\Φ v H2
  |_=>False
variable{Φ:Value->PH->Prop}{args:Array Value}{l:Nat}{P:Program}
def nq.imp{H:PH}{Ψ:Value->PH->Prop}(h:nq P l args H Φ)(k:∀v H2,Φ v H2->Ψ v H2):nq P l args H Ψ:=fun w s=>by
 obtain⟨fn,tm,a,b,h1,h2⟩:=h w s;refine⟨fn,tm,a,b,h1,h2.mono fun e w2 d=>?_⟩;cases e with
 |returned v=>obtain⟨H2,x,y⟩:=d;exact⟨H2,x,k _ _ y⟩
 |panicked c=>exact d
 |outgrown=>exact d
def nq.frame{A F:PH}(hd:A.disj F)(h:nq P l args A Φ):nq P l args (A.uni F) fun v H2=>∃d,H2=d.uni F/\d.disj F/\Φ v d:=fun w s=>by
 obtain⟨fn,tm,a,b,h1,h2⟩:=h w (s.of_le (PH.le_uni A F));refine⟨fn,tm,a,b,h1,h2.mono fun e w2 j=>?_⟩;cases e with
 |outgrown=>exact j
 |panicked c=>exact j
 |returned v=>
  obtain⟨d,st,hp⟩:=j;have f:∀b o,F b=some o->w.heap[b]?=some o/\A b=none:=fun b o hb=>⟨s _ _ ((PH.uni_some hd).2 (.inr hb)),hd.symm.left hb⟩;have g:d.disj F:=fun b=>by
   cases m:F b with
   |none=>exact .inr rfl
   |some o=>obtain⟨h1,h2⟩:=f b o m;exact .inl (st.dom b (gj h1) h2)
  refine⟨d.uni F,⟨fun b o hb=>?_,st.size,fun b hb i=>st.priv b hb (PH.uni_none.1 i).1,fun b hb i=>PH.uni_none.2 ⟨st.dom b hb (PH.uni_none.1 i).1,(PH.uni_none.1 i).2⟩,st.os,st.tape,st.out⟩,d,rfl,g,hp⟩;rcases(PH.uni_some g).1 hb with e|e
  .exact st.sub _ _ e
  .obtain⟨h1,h2⟩:=f b o e;rw[st.priv b (gj h1) h2];exact h1
def iS(P:Program)(l:Nat)(args:Array Value)(I:PH)(ps:List PH)(Ψ:Value->PH->List PH->Prop):Prop:=
 Dj (I::ps)->nq P l args (U (I::ps)) fun v H2=>∃I2 qs,H2=U (I2::qs)/\Dj (I2::qs)/\I.le I2/\Ψ v I2 qs
def iS.frame{I:PH}{ps F:List PH}{Ψ:Value->PH->List PH->Prop}(h:iS P l args I ps Ψ)(hd:Dj (I::ps++F)):
  nq P l args (U (I::ps++F)) fun v H2=>∃I2 qs,H2=U (I2::qs++F)/\Dj (I2::qs++F)/\I.le I2/\Ψ v I2 qs:=by
 obtain⟨d1,d2,d3⟩:=lR.1 hd;rw[oM];refine((h d1).frame d3).imp fun v H2 ⟨f,e,dd,I2,qs,a,b,c,d⟩=>?_;subst a;exact⟨I2,qs,by rw[e,oM],lR.2 ⟨b,d2,dd⟩,c,d⟩
def U7{σ:St}{H:PH}{o:Oper}{x:Operand}{aq:Array Operand}{ts:Array TypeId}{vs:List Value}(aa:o.op=.call ⟨.value x,aq,ts⟩)
  (p:ev σ x=.v (.func (.yield l) #[] #[])) (ha:d8 (ev σ) aq.toList=some vs) (h:nq P l vs.toArray H Φ) :
  bt σ o.op=true/\dg P (execOp (aQ σ) o) H fun sv H2=>∃v,sv=.v v/\Φ v H2:=by
 have i:∀(l:List Operand) (r:List Value),d8 (ev σ) l=some r->l.map (aQ σ)=r/\∀y∈l,eX (ev σ y)=true:=by
  intro l
  induction l with
  |nil=>intro r h;cases h;exact⟨rfl,fun y d=>(dH d).elim⟩
  |cons y l q=>
   intro r h;simp only[d8]at h;split at h
   .rename_i v t hv hr;cases h
    obtain⟨h1,h2⟩:=q _ hr;refine⟨by simp[aQ,hv,h1],fun z j=>?_⟩;rcases List.mem_cons.1 j with rfl|j
    .rw[hv];rfl
    .exact h2 z j
   .cases h
 obtain⟨h1,h2⟩:=i _ _ ha;constructor
 .simp only[bt,aa,dU,Op.operands,Call.operands,Bool.true_and,lm];intro y d;simp at d;rcases d with rfl|d
  .rw[p];rfl
  .exact h2 y (by simpa using d)
 .intro w hw;have f:aq.map (aQ σ)=vs.toArray:=by rw[<-jb];simpa using h1
  have n:aQ σ x=.func (.yield l) #[] #[]:=by simp[aQ,p]
  obtain⟨fn,tmps,assign,body,d,s⟩:=h w hw;have g:(execOp (aQ σ) o).run P w=.ok (.round l fn tmps assign body) w:=by simp only[execOp,aa,resolve,f,n,Deferred.ofValue,bY];simp[Result.andThen,invoke,d]
  rw[g];exact s.mono fun e w2 m=>by
   cases e with
   |returned v=>obtain⟨H2,a,b⟩:=m;exact⟨H2,a,v,rfl,b⟩
   |outgrown=>exact m
   |panicked c=>exact m
section
variable {C:Cx} {k:List Item} {σ:St} {H:PH}
variable{l:List PH}{I:PH}{y:Nat}
def KT{ol rem:List Oper}{o:Oper}{x:Operand}{aq:Array Operand}{ts:Array TypeId}{vs:List Value}{ps F:List PH}{Ψ:Value->PH->List PH->Prop}(hd:Dj (I::l))(is:List Nat)(hw:be ol σ o=some true)(aa:o.op=.call ⟨.value x,aq,ts⟩)
  (f:ev σ x=.v (.func (.yield y) #[] #[])) (ha:d8 (ev σ) aq.toList=some vs) (hi:is.isPerm (List.range l.length)=true) (g:gG l is=ps++F) (h:iS C.P y vs.toArray I ps Ψ)
  (i:∀v I2 qs,Dj (I2::qs++F)->I.le I2->Ψ v I2 qs->RC C (.op ol rem k) (σ.put o.dst (.v v)) (U (I2::qs++F))):RC C (.op ol (o::rem) k) σ (U (I::l)):=by
 obtain⟨e,d⟩:=kM ((tv hi).cons I) hd;rw[g]at e d;rw[e];obtain⟨h1,h2⟩:=U7 aa f ha (h.frame d);exact j1 hw h1 (h2.mono fun sv H2 ⟨v,e,I2,qs,a,b,c,d⟩=>by subst e;subst a;exact i v I2 qs b c d)
def IL{o:Obj}{w:World}(o':Obj)(hd:Dj (I::sg y o::l))(s:Sub (U (I::sg y o::l)) w):Dj (I::sg y o'::l)/\bN (U (I::sg y o::l)) w (U (I::sg y o'::l)) (w.putObj y o'):=by
 have j:∀b,sg y o b=none->sg y o' b=none:=fun b h=>by
  unfold sg at h |-;split at h
  .cases h
  .rename_i hb;rw[ad hb]
 have c:Dj (I::sg y o'::l):=by
  obtain⟨h1,h2⟩:=List.pairwise_cons.1 hd;obtain⟨h3,m⟩:=List.pairwise_cons.1 h2;refine List.pairwise_cons.2 ⟨fun A d=>?_,List.pairwise_cons.2 ⟨fun A d b=>(h3 A d b).imp (j b) id,m⟩⟩;rcases List.mem_cons.1 d with rfl|d
  .exact fun b=>(h1 _ (.head _) b).imp id (j b)
  .exact h1 A (.tail _ d)
 have a:∀b,b≠y->U (I::sg y o::l) b=U (I::sg y o'::l) b:=fun b hb=>by simp[U,PH.uni,sg,hb]
 have g:U (I::sg y o::l) y=some o:=(j3 hd).2 ⟨_,.tail _ (.head _),dV y o⟩;have f:U (I::sg y o'::l) y=some o':=(j3 c).2 ⟨_,.tail _ (.head _),dV y o'⟩;have i:=gj (s y o g);refine⟨c,fun b x hb=>?_,by simp,fun b _ hb=>?_,fun b _ hb=>?_,rfl,rfl,rfl⟩
 .by_cases e:b=y
  .subst e;rw[f]at hb;cases hb;exact World.putObj_heap_same i
  .rw[World.putObj_heap_other e];exact s b x (by rw[a b e];exact hb)
 .exact World.putObj_heap_other fun e=>by subst e;rw[g]at hb;cases hb
 .rw[<-a b fun e=>by subst e;rw[g]at hb;cases hb];exact hb
def dL(f:FuncId)(T:Array Value)(ps:Array Tmp)(a bo:Code)(D:Nat)(st:LoopState)(j:Option Code):Loop:=⟨st,j,f,T,ps,a,bo,D⟩
def uP:Option Code->LoopState
 |none=>.ready
 |some _=>.done
variable{D:Nat}{asn bo:Code}{ps:Array Tmp}{f:FuncId}{Q:Option Code->PH->Prop}
def Ld{T:Array Value}(d:C.rd=some (y,Q))(hd:Dj (I::sg y (.loop (dL f T ps asn bo D .ready none))::l))
  (h:Dj (I::sg y (.loop (dL f T ps asn bo D .busy none))::l)->R C k σ (U (I::sg y (.loop (dL f T ps asn bo D .busy none))::l))):R C (.beginRound::k) σ (U (I::sg y (.loop (dL f T ps asn bo D .ready none))::l)):=by
 rintro w a cs s ⟨β,g⟩;have c:=s.sub y _ ((j3 hd).2 ⟨_,.tail _ (.head _),dV y _⟩);obtain⟨b,t⟩:=IL (Obj.loop (dL f T ps asn bo D .busy none)) hd s.sub;exact kI.steps (.one (stepR_beginRound (by simp[Cx.fr,d]) (run_beginRound c rfl))) (h b _ a cs (s.trans t) ⟨β,g.step t⟩)
def KC{T:Array Value}(a:C.rd=some (y,Q))(hd:Dj (I::sg y (.loop (dL f T ps asn bo D .ready none))::l))
  (h:Dj (I::sg y (.loop (dL f T ps asn bo D .busy none))::l)->RC C (.st k) σ (U (I::sg y (.loop (dL f T ps asn bo D .busy none))::l))):RC C (.st (.beginRound::k)) σ (U (I::sg y (.loop (dL f T ps asn bo D .ready none))::l)):=Ld a hd h
def EM(j:Option Code)(c:C.rd=some (y,Q))(b:EC j k)(h:Q j H):RC C (.st k) σ H:=by intro w a cs s _;unfold kI;rw[c];exact⟨j,a,k,w,H,Steps.refl _ _,b,s,h⟩
def setPs:List (Nat×Value)->List SV->List SV
 | [],tm=>tm
 |(p,v)::l,tm=>setPs l (fB tm p (.v v))
def iq(tm:List SV)(T:Array Value):Prop:=T.size=tm.length/\∀t sv,tm[t]?=some sv->ef (fun _=>0) sv (T.getD t undef)
variable{tm:List SV}
def iq.set{T:Array Value}(h:iq tm T)(p:Nat)(v:Value):iq (fB tm p (.v v)) (T.setIfInBounds p v):=by
 refine⟨by simp[wv,h.1],fun t sv a=>?_⟩;have b:=h.1;rw[n3]at a;by_cases e:p=t
 .subst e;simp only[cY]at a;split at a
  .cases a
   simp only[en];rw[Array.getElem?_setIfInBounds_self_of_lt O];simp[ef]
  .cases a
 .simp only[ad e]at a;have:=h.2 t sv a;simpa[en,Array.getElem?_setIfInBounds_ne e]using this
theorem iq.setPs:∀(l:List (Nat×Value)) {tm:List SV} {T:Array Value},iq tm T->iq (Sx.setPs l tm) (l.foldl (fun t (p,v)=>t.setIfInBounds p v) T)
 | [],_,_,h=>h
 |(p,v)::l,_,_,h=>iq.setPs l (h.set p v)
def Lq(y:Nat)(L:LoopState->Option Code->Loop)(I:PH)(Ψ:Value->PH->List PH->Prop)(j:Option Code)(a:PH):Prop:=
 ∃I2 qs,a=U (I2::sg y (.loop (L .busy none))::qs)/\Dj (I2::sg y (.loop (L .busy none))::qs)/\I.le I2/\Ψ (.bool j.isNone) I2 (sg y (.loop (L (uP j) j))::qs)
def LG{P:Program}{fn:Func}(hf:P.funcs[f]?=some fn){T:Array Value}{args:Array Value}(i:args.size=ps.size){Ψ:Value->PH->List PH->Prop}(g:iq tm T)
  (h:∀w0,Dj (I::sg y (.loop (dL f T ps asn bo D .ready none))::l)->RC ⟨P,f,fn,hf,U (I::sg y (.loop (dL f T ps asn bo D .ready none))::l),w0,fun _ _=>False,some (y,Lq y (dL f T ps asn bo D) I Ψ)⟩
   (.st [.code asn,.beginRound,.code bo]) ⟨setPs (ps.toList.zip args.toList) tm,[]⟩ (U (I::sg y (.loop (dL f T ps asn bo D .ready none))::l))):iS P y args I (sg y (.loop (dL f T ps asn bo D .ready none))::l) Ψ:=by
 intro hd w s;have A:=s y _ ((j3 hd).2 ⟨_,.tail _ (.head _),dV y _⟩);have e:=run_yield (P:=P) (args:=args) A i;refine⟨_,_,_,_,e,trivial,fun c cs _=>?_⟩;have o:=iq.setPs (ps.toList.zip args.toList) g;have x:(ps.zip args).foldl (fun tmps (t,a)=>tmps.setIfInBounds t a) T=(ps.toList.zip args.toList).foldl (fun t (p,v)=>t.setIfInBounds p v) T:=by rw[<-Array.foldl_toList,Array.toList_zip]
 simp only[dL]at x |-;rw[x];generalize N:(ps.toList.zip args.toList).foldl (fun t (p,v)=>t.setIfInBounds p v) T=T2 at o |-;have J:G w.heap.size ⟨setPs (ps.toList.zip args.toList) tm,[]⟩ (U (I::sg y (.loop (dL f T ps asn bo D .ready none))::l)) { tmps:=T2,defers:=[] } w:=
  ⟨fun _=>0,mX.nil,o.1,o.2,fun _ h=>(dH h).elim,fun _ h=>(dH h).elim,fun _ h=>(dH h).elim,List.Pairwise.nil⟩
 have r:=h w hd w _ (c::cs) (bN.refl s) J;unfold kI at r;obtain⟨j,a,k,L,Q,F,u,st,I2,qs,rfl,d,m,z⟩:=r;have h1:=st.sub y _ ((j3 d).2 ⟨_,.tail _ (.head _),dV y _⟩);obtain⟨q,t⟩:=IL (Obj.loop (dL f T ps asn bo D (uP j) j)) d st.sub;have b:=run_endRound (P:=P) j h1;have K:({ dL f T ps asn bo D .busy none with state:=if j.isNone then .ready else .done,pending:=j }:Loop)=dL f T ps asn bo D (uP j) j:=by cases j<;>rfl
 rw[K]at b;refine⟨.returned (.bool j.isNone),_,⟨_,st.trans t,I2,_,rfl,q,m,z⟩,stepsIn_wide.2 ?_⟩;refine Steps.trans F (.one ?_);cases j with
 |none=>have n:k=[]:=u;subst n;exact stepR_round_end rfl rfl b
 |some c0=>
  obtain⟨M,rfl,rfl|⟨id,rfl,B⟩⟩:=u
  .exact stepR_round_ret rfl rfl b
  .exact stepR_round_exit rfl rfl B b
def tG:SV->SV | .v x=>.v x|_=>.u
variable{Ψ:Option Code->PH->List PH->Prop}{g:Operand}{lb:Array Value}{gf:FuncId}
def Ll{S0 Fr:List PH}(hC:C.rd=none)(hg:ev σ g=.v (.func (.func gf) #[] lb))(bs:ay C.P gf)(hd:Dj (I::S0++Fr))
  (ac:∀(y D:Nat) (T:Array Value),iq (σ.tm.map tG) T->aI C.P gf (#[.func (.yield y) #[] #[]]++lb) I (sg y (.loop (dL C.f T ps asn bo D .ready none))::S0) fun _ I2 qs=>∃st j J,st≠LoopState.busy/\qs=sg y (.loop (dL C.f T ps asn bo D st j))::J/\Ψ j I2 J)
  (hk:∀j I2 J,Dj (I2::J++Fr)->I.le I2->Ψ j I2 J->R C ((j.map Item.code).toList++k) σ (U (I2::J++Fr))):R C (.code (.rangeFunc g ps asn bo)::k) σ (U (I::S0++Fr)):=by
 rintro w a cs s ⟨β,K⟩;have ba:C.fr.roundOf=none:=by simp[Cx.fr,hC]
 have b0:a.eval g=.func (.func gf) #[] lb:=dC K hg;obtain⟨D,hD⟩:∃D,w.heap.size=D:=⟨_,rfl⟩;obtain⟨y,hy⟩:∃y,w.heap.size+1=y:=⟨_,rfl⟩;obtain⟨L,hL⟩:∃L,L=dL C.f a.tmps ps asn bo D:=⟨_,rfl⟩;obtain⟨l,q⟩:∃l,(w.alloc (.deferred (some []))).alloc (.loop (L .ready none))=l:=⟨_,rfl⟩;have a4:l.heap[y]?=some (.loop (L .ready none)):=by rw[<-q,<-hy];have:=World.alloc_heap_new (w.alloc (.deferred (some []))) (.loop (L .ready none));rwa [World.size_alloc]at this
 have n:∀b,b<w.heap.size->l.heap[b]?=w.heap[b]?:=fun b hb=>by rw[<-q];exact(RowKit.Below.heap_alloc _ _ b (by simp;omega)).trans (RowKit.Below.heap_alloc _ _ b hb)
 have b4:l.heap[D]?=some (.deferred (some [])):=by rw[<-q,<-hD];exact(RowKit.Below.heap_alloc _ _ _ ai).trans (World.alloc_heap_new w _)
 have a7:l.heap.size=w.heap.size+2:=by rw[<-q];simp
 have G:l.os=w.os/\l.tape=w.tape/\l.output=w.output:=by rw[<-q];exact⟨rfl,rfl,rfl⟩
 have W:∀b,w.heap.size<=b->U (I::S0++Fr) b=none:=fun b hb=>by
  cases h:U (I::S0++Fr) b with
  |none=>rfl
  |some o=>exact absurd (gj (s.sub b o h)) O
 have V:=IP hd (b:=y) (o:=.loop (L .ready none)) (W y O);obtain⟨eU,b3⟩:=kM (m:=I::(sg y (.loop (L .ready none))::S0)++Fr) (List.Perm.swap _ _ _) V.2;have a3:∀b,U (I::(sg y (.loop (L .ready none))::S0)++Fr) b=if b=y then some (.loop (L .ready none))else U (I::S0++Fr) b:=fun b=>(congrFun (V.1.trans eU) b).symm
 have s1:Sub (U (I::(sg y (.loop (L .ready none))::S0)++Fr)) l:=fun b o hb=>by
  rw[a3]at hb;split at hb
  .rename_i e;cases hb;rw[e];exact a4
  .have:=s.sub b o hb;rw[n b (gj this)];exact this
 have bd:iq (σ.tm.map tG) a.tmps:=by
  refine⟨by simp[K.size],fun t sv ht=>?_⟩;simp only[fX,hH]at ht;obtain⟨x,hx,rfl⟩:=ht;have:=K.tm t x hx;cases x with
  |v z=>exact this
  |p _ _=>trivial
  |u=>trivial
 have he:(Instr.enterLoop C.fr.fn a.tmps ps asn bo C.fr.roundOf).run C.P w=.ok (y,[kY D]) l:=by rw[ba,run_enterLoop_outer,<-q,hL,<-hy,<-hD];rfl
 subst hL;have hc:=(ac y D a.tmps bd).frame (F:=Fr) b3 l s1;obtain⟨fn,f1,f2,f3⟩:=bs;have ag:(resolve a.eval (rangeCall g y) 0).run C.P l=.ok { target:=.fn (.func gf) lb,args:=#[.func (.yield y) #[] #[]] } l:=by simp only[resolve,b0];simp[Deferred.ofValue];rfl
 have am:(invoke (.fn (.func gf) lb) #[.func (.yield y) #[] #[]]).run C.P l=.ok (.enter gf (#[.func (.yield y) #[] #[]]++lb)) l:=by simp[invoke,Fw f1 f2 f3]
 have step1:=stepR_rangeFunc (P:=C.P) (b:=C.fr) (a:=a) (k:=k) (cs:=cs) (w:=w) he ag am;obtain⟨e,S,fr,hR,N,_,Q⟩:=hc (C.fr.atR { a with defers:=[kY D]++a.defers } (.inRangeFunc y::k)::cs);cases e with
 |outgrown=>exact hR.elim
 |panicked c=>exact hR.elim
 |returned v=>
  obtain⟨H2,st,I2,qs,rfl,a1,bc,rs,j,J,a9,rfl,hΨ⟩:=hR;obtain⟨eU2,aq⟩:=kM (m:=sg y (.loop (dL C.f a.tmps ps asn bo D rs j))::(I2::J++Fr)) (List.Perm.swap _ _ _) a1;have h3y:S.heap[y]?=some (.loop (dL C.f a.tmps ps asn bo D rs j)):=st.sub y _ ((j3 a1).2 ⟨_,.tail _ (.head _),dV y _⟩);have X:=run_endLoop (P:=C.P) h3y a9;obtain⟨M,r⟩:∃M,S.putObj y (.loop { dL C.f a.tmps ps asn bo D rs j with state:=.exhausted })=M:=⟨_,rfl⟩;rw[r]at X;have step2:step C.P (lone fr (C.fr.atR { a with defers:=[kY D]++a.defers } (.inRangeFunc y::k)::cs) S)=.next (lone (C.fr.atR { a with defers:=[kY D]++a.defers } (.endRangeFunc y::k)) cs S):=by rw[<-finish_atR_inRangeFunc y v];exact step_leave_returned Q
  have Z:=stepR_endRangeFunc (b:=C.fr) (a:={ a with defers:=[kY D]++a.defers }) (k:=k) (cs:=cs) X;have i:∀b,b<l.heap.size->b≠y->U (I::S0++Fr) b=none->M.heap[b]?=l.heap[b]?/\U (I2::J++Fr) b=none:=fun b hb a2 hn=>by
   have a0:U (I::(sg y (.loop (dL C.f a.tmps ps asn bo D .ready none))::S0)++Fr) b=none:=by rw[a3,ad a2];exact hn
   refine⟨by rw[<-r,World.putObj_heap_other a2];exact st.priv b hb a0,?_⟩;have:=(congrFun eU2 b).symm.trans (st.dom b hb a0);exact(PH.uni_none.1 this).2
  have aa:∀b o,U (I2::J++Fr) b=some o->M.heap[b]?=some o:=fun b o hb=>by
   have bb:b≠y:=fun e=>by
    subst e;rcases aq.head b with h|h
    .rw[dV]at h;cases h
    .rw[h]at hb;cases hb
   rw[<-r,World.putObj_heap_other bb];exact st.sub b o ((congrFun eU2 b).trans (PH.le_uni_r aq.head b o hb))
  have a6:=st.size;have a5:M.heap.size=S.heap.size:=by rw[<-r];simp
  have A:M.os=S.os/\M.tape=S.tape/\M.output=S.output:=by rw[<-r];exact⟨rfl,rfl,rfl⟩
  have b5:=s.size;refine kI.steps (.head step1 (Steps.trans N (.head step2 (.one Z)))) (hk j I2 J aq.tail bc hΨ M _ cs ⟨aa,O,fun b hb hn=>?_,fun b hb hn=>?_,by rw[A.1,st.os,G.1,s.os],by rw[A.2.1,st.tape,G.2.1,s.tape],by rw[A.2.2,st.out,G.2.2,s.out]⟩ ⟨β,?_,K.size,K.tm,fun B hB=>?_,K.inj,K.lo,K.keys⟩)
  .rw[(i b O O (s.dom b hb hn)).1,n b O];exact s.priv b hb hn
  .exact(i b O O (s.dom b hb hn)).2
  .obtain⟨ds,e1,e2,e3⟩:=K.defers;refine⟨D::ds,by simp[e1],List.nodup_cons.2 ⟨fun hm=>?_,e2⟩,fun d ap=>?_⟩
   .have:=gj (e3 D hm).2.2;omega
   .rcases List.mem_cons.1 ap with rfl|ap
    .obtain⟨p1,p2⟩:=i d O O (W d O);exact⟨O,p2,by rw[p1];exact b4⟩
    .obtain⟨q1,q2,q3⟩:=e3 d ap;have al:=gj q3;obtain⟨p1,p2⟩:=i d O O q2;exact⟨q1,p2,by rw[p1,n d al];exact q3⟩
  .obtain⟨b1,b2⟩:=K.bx B hB;have al:=gj b1;obtain⟨p1,p2⟩:=i _ O O b2;exact⟨by rw[p1,n _ al];exact b1,p2⟩
def KM{S0 Fr:List PH}(hd:Dj (I::l))(is:List Nat)(n:C.rd=none)(m:ev σ g=.v (.func (.func gf) #[] lb))(c:ay C.P gf)(hi:is.isPerm (List.range l.length)=true)(h:gG l is=S0++Fr)
  (a:∀(y D:Nat) (T:Array Value),iq (σ.tm.map tG) T->aI C.P gf (#[.func (.yield y) #[] #[]]++lb) I (sg y (.loop (dL C.f T ps asn bo D .ready none))::S0) fun _ I2 qs=>∃st j b,st≠LoopState.busy/\qs=sg y (.loop (dL C.f T ps asn bo D st j))::b/\Ψ j I2 b)
  (i:∀j I2 b,Dj (I2::b++Fr)->I.le I2->Ψ j I2 b->RC C (.st ((j.map Item.code).toList++k)) σ (U (I2::b++Fr))):RC C (.st (.code (.rangeFunc g ps asn bo)::k)) σ (U (I::l)):=by
 obtain⟨e,d⟩:=kM ((tv hi).cons I) hd;rw[h]at e d;rw[e];exact Ll n m c d a i
end
open Go
variable{ps:List PH}{I:PH}
def qG:U (I::ps)=U (I::[U ps]):=by show I.uni (U ps)=I.uni ((U ps).uni PH.no);rw[PH.uni_no]
def pu:Dj (I::ps)<->Dj (I::[U ps])/\Dj ps:=by
 constructor
 .exact fun h=>⟨List.pairwise_cons.2 ⟨fun A a=>by rw[List.mem_singleton.1 a];exact h.head,kE _ _⟩,h.tail⟩
 .exact fun h=>h.2.cons ((List.pairwise_cons.1 h.1).1 _ (.head _))
variable{Ψ:Value->PH->List PH->Prop}{args:Array Value}{P:Program}
def aI.split{f:FuncId}{Ψ':Value->PH->List PH->Prop}(h:aI P f args I [U ps] Ψ)(k:∀v I2 qs,I.le I2->Ψ v I2 qs->∃a,qs=[U a]/\Dj a/\Ψ' v I2 a):aI P f args I ps Ψ':=fun hd=>by
 have h1:=h (pu.1 hd).1;rw[<-qG]at h1;exact h1.mono fun v H2 ⟨I2,qs,e,d,l,p⟩=>by obtain⟨a,rfl,c,b⟩:=k v I2 qs l p;exact⟨I2,a,by rw[e,<-qG],pu.2 ⟨d,c⟩,l,b⟩
variable{y:Nat}
def iS.join(b:Dj ps)(h:iS P y args I ps Ψ):iS P y args I [U ps] fun v I2 qs=>∃a,qs=[U a]/\Ψ v I2 a:=fun hd=>by have h1:=h (pu.2 ⟨hd,b⟩);rw[qG]at h1;exact h1.imp fun v H2 ⟨I2,a,e,d,l,p⟩=>⟨I2,[U a],by rw[e,qG],(pu.1 d).1,l,a,rfl,p⟩
def iS.join1{A:PH}{Ψ:Value->PH->PH->List PH->Prop}(f:Dj ps)(h:iS P y args I (A::ps) fun v I2 qs=>∃c a,qs=c::a/\Ψ v I2 c a):iS P y args I [A,U ps] fun v I2 qs=>∃c a,qs=[c,U a]/\Ψ v I2 c a:=fun hd=>by
 have e0:∀{I A:PH} {ps:List PH},U (I::A::ps)=U (I::[A,U ps]):=fun{I A ps}=>by show I.uni (A.uni (U ps))=I.uni (A.uni ((U ps).uni PH.no));rw[PH.uni_no]
 have g:Dj (I::A::ps):=by
  obtain⟨h1,h2⟩:=List.pairwise_cons.1 hd;refine(pu.2 ⟨h2,f⟩).cons fun b=>?_;rcases h1 A (.head _) b with e|e
  .exact .inl e
  .rcases h1 _ (.tail _ (.head _)) b with e2|e2
   .exact .inl e2
   .exact .inr (PH.uni_none.2 ⟨e,e2⟩)
 have h1:=h g;rw[e0]at h1;refine h1.imp fun v H2 ⟨I2,qs,e,d,l,c,a,e2,p⟩=>?_;subst e2;refine⟨I2,[c,U a],by rw[e,e0],?_,l,c,a,rfl,p⟩;refine(pu.1 d.tail).1.cons fun b=>?_;rcases d.head b with i|i
 .exact .inl i
 .exact .inr (by rw[show U [c,U a]=U (c::a) from qG.symm];exact i)
def iq.sub{tm tm':List SV}{T:Array Value}(h:fj tm' tm)(k:iq tm T):iq tm' T:=by
 obtain⟨h1,h2⟩:=wC h;refine⟨by rw[k.1,h1],fun t sv a=>?_⟩;rcases h2 t sv a with rfl|h
 .trivial
 .exact k.2 t sv h
def V8(n:Nat)(L:List (Nat×SV)):(dn n L).map tG=dn n (L.map fun p=>(p.1,tG p.2)):=C6 _ rfl _ _
def DV{o:Obj}{S:PH}(h:S y=none):Dj [sg y o,S]:=List.pairwise_cons.2 ⟨fun A a=>by
 rw[List.mem_singleton.1 a];intro b;by_cases e:b=y
 .subst e;exact .inr h
 .exact .inl (by unfold sg;rw[ad e]),kE _ _⟩
def UD{o:Obj}{S:PH}{l:List PH}(hd:Dj (I::sg y o::S::l)):S y=none:=by
 have h:=(List.pairwise_cons.1 hd.tail).1 S (.head _) y;rcases h with h|h
 .rw[dV]at h;cases h
 .exact h
end Go.Sx
namespace Go.Proofs.YtfaclfkpnmcmlaaGreatDoor
open Go Go.Sx Dg Syn
def iW(y:Nt):aN:=⟨y.code,y.tok,fE y.inn⟩
def fk(x:Sm):Syn.Tr:=⟨dM x.kids,x.notes.map iW⟩
variable{c:List Value}{I:PH}{u:Nat}
def bB.ones{W:PH->Value->T->Prop}(b:qn W u){n:aN}(h:bB W I c n):c.all Sx.one=true:=by obtain⟨w,rfl,hw⟩:=h;obtain⟨a,d,c',rfl⟩:=b.sh hw;rfl
variable{J:PH}
def bB.le(a:u<2^32)(hp:bM u 32<=8){n:aN}(h:bB (dZ u) I c n)(k:I.le J):bB (dZ u) J c n:=by obtain⟨w,e,h⟩:=h;exact⟨w,e,(tD a hp).le h k⟩
abbrev tT(u:Nat)(I A:PH)(v:Value)(l:List aN):Prop:=Ow (bB (dZ u)) 102 3 I A v l
variable{v:Value}
def tT.le(b:u<2^32)(hp:bM u 32<=8){A:PH}{l:List aN}(h:tT u I A v l)(k:I.le J):tT u J A v l:=Ow.le (R:=bB (dZ u)) (fun{I J c a} h k=>bB.le b hp h k) h k
def zV(b a d kb c vb:Value)(u i:Nat):St:=⟨dn 60 [(1,.v (.int .u32 u)),(2,.p 2 0),(4,.p 4 0),(5,.p 5 0),(6,.p 6 0),(7,.p 7 0),(8,.v (E i))],[⟨2,94,[b,a]⟩,⟨4,36,[.slice none 0 0,.slice none 0 0]⟩,⟨5,41,[.slice none 0 0,.slice none 0 0]⟩,⟨6,36,[d,c]⟩,⟨7,41,[kb,vb]⟩]⟩
def Vh(u:Nat)(l:List Nt)(a:PH)(x:Nat×Value×Value)(H:PH):Prop:=∃I A B,H=U [I,A,B]/\Dj [I,A,B]/\a.le I/\x.1<=l.length/\bL I A x.2.1 ((l.take x.1).map iW)/\tT u I B x.2.2 ((l.take x.1).map iW)
def VM{d:Nat}(hu:u<2^24)(hp:bM u 32<=8){vk vn:Value}{x:Sm}(hk:lZ d I vk x.kids)(hn:qh I vn x.notes)(a2:qi u x):
  aI prog 41 #[.agg #[vk,vn],.int .u32 u] I [] fun r I2 qs=>qs=[]/\∃va vb,r=.tuple #[va,vb]/\gh I2 va (fk x)/\kL (dZ u) I2 vb (fk x):=by
 have e:u<2^32:=O;obtain⟨o1,o2,o3,o4⟩:=a2;obtain⟨ka,kc,rfl,_⟩:=id hk;obtain⟨na,nc,rfl,_⟩:=id hn;intro hd;refine aG 60 func41 fun w0=>?_;refine av ?_;refine dq hd rfl GI (Qk hu hp (cW x.kids+1) d O hk O o3) ?_;rintro v I1 qs a6 t⟨rfl,xa,xb,rfl,P,a1,N⟩;obtain⟨pa,pc,rfl,_⟩:=id P;obtain⟨qa,qc,rfl,_⟩:=id N;refine av ?_;refine dR a6 fun a5=>?_;refine dR a5 fun a4=>?_;refine bz (fun y=>x.notes.length-y.1) (fun y:Nat×Value×Value=>zV (.slice ka x.kids.length kc) (.slice na x.notes.length nc) (.slice pa (dM x.kids).length pc) (.slice qa (dM x.kids).length qc) y.2.1 y.2.2 u y.1) (Vh u x.notes I1) (0,.slice none 0 0,.slice none 0 0) ae (by simp only[go_sem,ab,zV]) ?_ ?_
 .exact⟨I1,_,_,rfl,a4,ax _,bg _,Ow.nil _ _ _ _,Ow.nil _ _ _ _⟩
 rintro⟨i,va,vb⟩ H ⟨I2,A2,B2,rfl,F,o,hi,L,hB⟩ B;simp only at hi L hB;simp only[zV];obtain⟨aa,ac,rfl⟩:=L.shape;obtain⟨ba,bc,rfl⟩:=hB.shape;have V:((x.notes.take i).map iW).length=i:=by rw[dW,eE];omega
 have b0:=Ad x.kids;rcases aB i x.notes.length with U|b1
 .have K:=Z5 i x.notes.length;have e1:=Z7 i;obtain⟨z,hz⟩:∃z,x.notes[i]?=some z:=⟨_,aL U⟩;obtain⟨b,off,cs,rfl,⟨vi,rfl,hc⟩,G⟩:=Sl.load (R:=j0) (fun{I} c a h=>j0.len (I:=I) c a h) (qh.le hn (Y t o)) hz;obtain⟨ca,cc,rfl,_⟩:=id hc;obtain⟨z1,z2⟩:=o4 z (cH hz);have S:(x.notes.take (i+1)).map iW=(x.notes.take i).map iW++[iW z]:=by rw[cw hz,jV];rfl
  refine aj K ?_
  try refine⟨O,?_⟩
  refine Xb (l:=[.int .u8 z.code,.int .i64 z.tok,.slice ca z.inn.length cc]) (v:=.agg #[.int .u8 z.code,.int .i64 z.tok,.slice ca z.inn.length cc]) rfl (cellsU F (.head _) (by simpa using G)) (.inl ⟨Fb,rfl⟩) ?_;refine av ?_;refine aV [0,1,2,3,4,5,6,7,8,9,10,11,12,13] [] [] ?_;refine aC ?_;refine cv F [0,1] [] [A2,B2] rfl Cz rfl (DU hc O) ?_;rintro v1 I5 qs j g⟨rfl,hr⟩;simp only[Z3]at j |-;obtain⟨za,zk,rfl⟩:=hr.shape2;refine bV ?_;refine lV j (by exact lh) rfl rfl rfl rfl rfl aR fun kb I6 p f X=>?_;have M:=Y g f;have bb:Sl aY I6 (.slice (some ⟨kb,0,none⟩) 1 1) [iW z]:=⟨_,_,rfl,.inr ⟨kb,0,_,rfl,(bD X (by simp[aD,Value.cells]) (by simp[aD,Value.cells,E,sD,rD]):aX I6 kb 0 [.int .u8 z.code,.int .i64 z.tok,sD za zk (fE z.inn),rD (fE z.inn)]),.one ⟨za,zk,rfl,hr.le f⟩⟩⟩;refine bV ?_;refine oD (R:=aY) p (by exact lh) (bL.le L M) bb (fun{I J c a} h k=>aY.le h k) (fun{I} c a h=>aY.len (I:=I) c a h) (fun{I} c a h=>aY.ones (I:=I) h) rfl rfl rfl rfl rfl rfl (by simp only[bf,bA];omega) (by simp only[bf,bA];unfold maxLen;omega) fun ua uc I7 A7 a3 W bo=>?_;refine bV ?_;apply an;have w:=Y M W;have a7:=gd.le hc w;refine av ?_;refine aV [0,1,2,3,4,5,6,7,8,9,10,11,12,13,14] [] [] ?_;refine aC ?_;refine cv a3 [0,1] [] [A7,B2] rfl CA rfl (Ek a7 O e hp) ?_;rintro v2 I8 qs aq s⟨rfl,Q⟩;simp only[Z3]at aq |-;obtain⟨ta,tc,rfl,_⟩:=id Q;refine aC ?_;refine lV aq (by exact mE) rfl rfl rfl rfl rfl aR fun gb I9 D m Z=>?_;have a0:=Y w (Y s m)
  have a9:Sl (bB (dZ u)) I9 (.slice (some ⟨gb,0,none⟩) 1 1) [iW z]:=⟨_,_,rfl,.inr ⟨gb,0,_,rfl,(bD Z (by simp[aD,Value.cells]) (by simp[aD,Value.cells,E]):aX I9 gb 0 [.int .u8 z.code,.int .i64 z.tok,.slice ta (mL z.inn u).length tc]),.one ⟨_,rfl,JT (Q.le m) (D7 z1)⟩⟩⟩;refine aC ?_;refine gw D [1,0] fun D=>?_;refine oD (R:=bB (dZ u)) D (by exact mE) (tT.le e hp hB a0) a9 (fun{I J c a} h k=>bB.le e hp h k) (fun{I} c a h=>bB.len (I:=I) c a h) (fun{I} c a h=>bB.ones (I:=I) (tD e hp) h) rfl rfl rfl rfl rfl rfl (by simp only[bf,bA];omega) (by simp only[bf,bA];unfold maxLen;omega) fun wa wc bx B10 al C ap=>?_;refine aC ?_;refine gw al [1,0] fun ag=>?_;apply an;refine aj e1 ?_;have q:=Y s (Y m C);exact B (i+1,.slice ua ((x.notes.take i).map iW++[iW z]).length uc,.slice wa ((x.notes.take i).map iW++[iW z]).length wc) _ _ bC ae (by simp only[go_sem,ab,zV]) ⟨bx,A7,B10,rfl,ag,Y o (Y w q),U,by simp only;rw[S];exact bL.le bo q,by simp only;rw[S];exact ap⟩
 .have:i=x.notes.length:=by omega
  subst this;rw[cB]at L hB V |-;have K:decide ((x.notes.length:Int)<(x.notes.length:Int))=false:=ai;have am:=L.capN aY.len;refine bq F [0,1] fun j=>?_;refine bH (c:=.st _) j fun I5 j g bs=>?_;refine bq j [0] fun p=>?_;refine bH (c:=.st _) p fun I6 p f bd=>?_;have A:=Y o (Y g f);refine aj K ?_;refine AZ mixed [0,1,2,3] [] [] [0,1] [2,3] [6,7] rfl rfl ?_;refine aC ?_;apply an;refine av ?_;refine ao rfl p (r:=[.agg #[.slice pa (dM x.kids).length pc,.slice aa (x.notes.map iW).length ac],.agg #[.slice qa (dM x.kids).length qc,.slice ba (x.notes.map iW).length bc]]) (by simp only[results41,go_sem,E]) (Y t A) ⟨rfl,_,_,rfl,⟨_,_,rfl,de.le P A,a1,SlE.le (fZ (R:=aY) (fun{I J c a} h k=>aY.le h k) L g bs) f,am⟩,⟨_,_,d,rfl,lw.le e hp N A,fZ (R:=bB (dZ u)) (fun{I J c a} h k=>bB.le e hp h k) hB (Y g f) bd⟩⟩
def xS(a vb:Value)(i:Nat):St:=⟨dn 26 [(0,.v a),(1,.v vb),(5,.v (E i))],[]⟩
def NE{a b:List T}(ha:T.Seq a)(hb:T.Seq b)(h:a.map (T.dec a)=b.map (T.dec b)):a=b:=by
 have n:a.length=b.length:=by have:=congrArg List.length h;simpa using this
 have key:∀i,i<=a.length->a.take i=b.take i:=by
  intro i
  induction i with
  |zero=>intro _;simp
  |succ i m=>
   intro hi;have ht:=m O;obtain⟨x,e⟩:∃x,a[i]?=some x:=⟨_,aL O⟩;obtain⟨y,d⟩:∃y,b[i]?=some y:=⟨_,aL O⟩;obtain⟨v,l,r,rfl,_,h1,h2⟩:=ha.2 i x e;obtain⟨o,l',p,rfl,_,h3,f⟩:=hb.2 i y d;have j:=congrArg (fun z:List (Nat×Nat×Nat)=>z[i]?) h;simp only[fX,e,d,fO,bv,T.dec,eL]at j;obtain⟨rfl,k,e2⟩:=j;have g:∀{z:T},T.isIn (a.take i) z->T.plc a z=T.plc (a.take i) z:=fun{z} c=>by
    have:=T.plc_app (us:=a.drop i) c
    rwa [fl]at this
   have pb:∀{z:T},T.isIn (b.take i) z->T.plc b z=T.plc (b.take i) z:=fun{z} c=>by
    have:=T.plc_app (us:=b.drop i) c
    rwa [fl]at this
   rw[g h1,pb h3,<-ht]at k;rw[g h2,pb f,<-ht]at e2;rw[<-ht]at h3 f;have:=T.plc_inj h1 h3 k;have:=T.plc_inj h2 f e2
   subst_vars
   rw[cw e,cw d,ht]
 have h1:=key a.length (aW _);rw[cB,n,cB]at h1;exact h1
def Vn{s t:T}(a:s.ok 0)(ht:t.ok 0)(h:T.subs s=T.subs t)(hp:T.plc (T.subs s) s=T.plc (T.subs t) t):s=t:=by have h1:=T.subs_in a;rw[h]at h1 hp;exact T.plc_inj h1 (T.subs_in ht) hp
def ED(P:Program)(T:TypeId)(cs ds:Array Value)(b:Bool):Prop:=P.eqGuardType P.depth T=false/\∀w,(Op.equalIn 10000 T (.agg cs) (.agg ds)).run P w=.ok b w
def K0{C:Cx}{ol:List Oper}{fr:bI}{str:bJ}{k:List Item}{σ:St}{H:PH}{i:Nat}{o:Oper}{l:List (Nat×Oper)}{T T2:TypeId}{x y:Operand}{cs ds:Array Value}{b:Bool}(hf:fr.h.contains i=true)(hw:be ol σ o=some true)(aa:o.op=.binOp .neq T x y T2)(c:ev σ x=.v (.agg cs))(a:ev σ y=.v (.agg ds))(d:ED C.P T cs ds b)(h:RD C ol fr str l k (σ.put o.dst (.v (.bool (!b)))) H):RD C ol fr str ((i,o)::l) k σ H:=by
 refine oF (.bool (!b)) hf hw ?_ (by rw[aa];rfl) ?_ h
 .simp[bt,aa,dU,Op.operands,c,a,eX]
 .intro w _;simp[execOp,aa,aQ,c,a,bY,run_eqGuard_agg w .neq T x y cs ds d.1,run_neq_struct,d.2 w,Result.andThen]
def N0(a b c d b' c':Int):ED prog 181 #[.int .i64 a,.int .i64 b,.int .i64 c] #[.int .i64 d,.int .i64 b',.int .i64 c'] (decide ((a,b,c)=(d,b',c'))):=by
 refine⟨by kernel_rfl,fun w=>?_⟩;have h:prog.underlying 181=some (.struct (prog.fieldsOf 181)):=ah;have hp:prog.stoodInHeld 181=false:=ah;have hf:(prog.fieldsOf 181).toList=[⟨ "Var",3,0,false,"","",0⟩,⟨ "Low",3,1,false,"","",8⟩,⟨ "High",3,2,false,"","",16⟩]:=by unfold Program.fieldsOf;rw[Ar]
 have g:∀a b c:Int,(part 3 #[.int .i64 a,.int .i64 b,.int .i64 c] 0).run prog w=.ok (.int .i64 a) w:=fun _ _ _=>nY (by unfold gp;rw[dI];rfl);have f:∀a b c:Int,(part 3 #[.int .i64 a,.int .i64 b,.int .i64 c] 1).run prog w=.ok (.int .i64 b) w:=fun _ _ _=>nY (by unfold gp;rw[dI];rfl);have e:∀a b c:Int,(part 3 #[.int .i64 a,.int .i64 b,.int .i64 c] 2).run prog w=.ok (.int .i64 c) w:=fun _ _ _=>nY (by unfold gp;rw[dI];rfl);rw[show (10000:Nat)=9998+1+1 from rfl,run_equalIn_agg w (9998+1) 181 _ _ h hp,hf];by_cases h1:a=d<;>by_cases h2:b=b'<;>by_cases h3:c=c'<;>
 simp[Op.eqFields,bY,g,f,e,Result.andThen,run_equalIn_int w 9998 3 .i64 .i64 _ _ lM,h1,h2,h3]
def N5(a b:List T)(H0:PH)(i:Nat)(H:PH):Prop:=H=H0/\i<=a.length/\(a.map (T.dec a)).take i=(b.map (T.dec b)).take i
variable{v1 v2:Value}
def N6{H:PH}{ta tb:List T}(h1:jc H v1 ta)(h2:jc H v2 tb)(G:ta.length<2^40):aJ prog 107 #[v1,v2] H fun r H2=>(∃b:Bool,r=.bool b/\(b=true->ta.map (T.dec ta)=tb.map (T.dec tb)))/\H2=H:=by
 obtain⟨a1,B,rfl,g1⟩:=h1;obtain⟨a2,c2,rfl,g2⟩:=h2;refine aG 26 func107 fun w0=>?_;cases j:((ta.length:Int) != (tb.length:Int))
 rotate_left
 .apply RG;simp only[go_sem,j];exact au (r:=[_]) rfl ⟨⟨false,rfl,fun h=>by cases h⟩,rfl⟩
 have A:ta.length=tb.length:=by have:=bne_eq_false_iff_eq.1 j;omega
 apply RG;simp only[go_sem,j];refine bz (fun x=>ta.length-x) (o5 (.slice a1 ta.length B) (.slice a2 tb.length c2) ta.length) (N5 ta tb H) 0 ae (by simp only[go_sem,ab,o5]) ⟨rfl,bg _,by simp⟩ ?_;rintro i H2 ⟨rfl,hi,d⟩ c;simp only[o5];rcases aB i ta.length with g|y
 .have f:=Z5 i ta.length;have q:=Z7 i;have k:∀{a:Option Addr} {ts:List T} {t:T},ts[i]?=some t->(ts=[]\/∃b,a=some ⟨b,0,none⟩/\aX H2 b 0 (iM ts))->∃b,a=some ⟨b,0,none⟩/\aX H2 b (i*3) (gi (T.dec ts t)):=by
   rintro a ts t ht (h|⟨b,e,h⟩)
   .rw[h]at ht;cases ht
   .have o:(iM ts).length=ts.length*3:=rp _;have:=(List.getElem?_eq_some_iff.1 ht).1;have p:=h.sub (i*3) 3 O;rw[rn ht,eR]at p;exact⟨b,e,p⟩
  obtain⟨s,m⟩:∃s,ta[i]?=some s:=⟨_,aL g⟩;obtain⟨t,ht⟩:∃t,tb[i]?=some t:=⟨_,aL O⟩;obtain⟨b1,rfl,w⟩:=k m g1;obtain⟨b2,rfl,u⟩:=k ht g2;refine aj f ?_;refine aV [0,1,2,3,4,5,6,7,8] [3,7,8] [] ?_;refine aC ?_
  try refine⟨O,?_⟩
  refine Xc (l:=gi (T.dec ta s)) (v:=cT (T.dec ta s)) rfl (by simpa using w) (.inl ⟨l7,rfl⟩) ?_;apply bp;simp only[go_sem,E,cT]
  try refine⟨O,?_⟩
  refine Xc (l:=gi (T.dec tb t)) (v:=cT (T.dec tb t)) rfl (by simpa using u) (.inl ⟨l7,rfl⟩) ?_;apply bp;simp only[go_sem,E,cT];refine K0 rfl rfl rfl rfl rfl (N0 (T.dec ta s).1 (T.dec ta s).2.1 (T.dec ta s).2.2 (T.dec tb t).1 (T.dec tb t).2.1 (T.dec tb t).2.2) ?_;cases hd:decide ((((T.dec ta s).1:Int),((T.dec ta s).2.1:Int),((T.dec ta s).2.2:Int))=(((T.dec tb t).1:Int),((T.dec tb t).2.1:Int),((T.dec tb t).2.2:Int)))
  .apply bp;simp only[go_sem,E,cF];apply an;refine aj q ?_;exact au (r:=[_]) rfl ⟨⟨false,rfl,fun h=>by cases h⟩,rfl⟩
  .apply bp;simp only[go_sem,E,bX];apply an;refine aj q ?_;refine c (i+1) _ _ O ae (by simp only[go_sem,ab,o5]) ⟨rfl,g,?_⟩;have:=eF hd;simp only[eL]at this;obtain⟨F,D,C⟩:=this;have z:T.dec ta s=T.dec tb t:=by refine Prod.ext O (Prod.ext O O)
   rw[cw (l:=ta.map (T.dec ta)) (n:=T.dec ta s) (by rw[fX,m];rfl),cw (l:=tb.map (T.dec tb)) (n:=T.dec tb t) (by rw[fX,ht];rfl),d,z]
 .have:i=ta.length:=by omega
  subst this;have f:decide ((ta.length:Int)<(ta.length:Int))=false:=ai;rw[tM ai,tM (by rw[dW];omega)]at d;refine aj f ?_;exact au (r:=[_]) rfl ⟨⟨true,rfl,fun _=>d⟩,rfl⟩
def Jf{H:PH}{s t:T}(h1:bO H v1 s)(h2:bO H v2 t):aJ prog 53 #[v1,v2] H fun r H2=>(∃b:Bool,r=.bool b/\(b=true->s=t))/\H2=H:=by
 have g:=D9 h1.1;obtain⟨a,f,rfl,g1⟩:=h1;obtain⟨qM,d,rfl,g2⟩:=h2;obtain⟨a1,i,rfl,_⟩:=id g1;obtain⟨a2,c2,rfl,_⟩:=id g2;refine aG 17 func53 fun w0=>?_
 try simp only[E]
 cases c:((T.plc (T.subs s) s:Int) == (T.plc (T.subs t) t:Int))
 .apply RG;simp only[go_sem,c];exact au (r:=[_]) rfl ⟨⟨false,rfl,fun h=>by cases h⟩,rfl⟩
 .apply RG;simp only[go_sem,c];refine Xa rfl GK (N6 g1 g2 O) ?_;rintro v H2⟨⟨b,rfl,hb⟩,rfl⟩;apply RG;simp only[go_sem,c];refine au (r:=[_]) rfl ⟨⟨b,rfl,fun h=>?_⟩,rfl⟩;have e:=eq_of_beq c;exact Vn a qM (NE (T.subs_seq a) (T.subs_seq qM) (hb h)) O
def Uz{H:PH}{s t:T}(h1:bO H v1 s)(h2:bO H v2 t):aJ prog 53 #[v1,v2] H fun r H2=>(∃b:Bool,r=.bool b/\(b=true<->s=t))/\H2=H:=by
 by_cases e:s=t
 .subst e;exact(Jh h1 h2).mono fun v H2 ⟨a,b⟩=>⟨⟨true,a,fun _=>rfl,fun _=>rfl⟩,b⟩
 .refine(Jf h1 h2).mono fun v H2 ⟨⟨b,h,k⟩,e2⟩=>⟨⟨b,h,k,fun h=>absurd h e⟩,e2⟩
def aJ.keepE{P:Program}{f:FuncId}{args:Array Value}{Q:Value->Prop}(h:aJ P f args I fun v H2=>Q v/\H2=I):aI P f args I [] fun v I2 qs=>qs=[]/\Q v:=
 aJ.toI (h.mono fun v H2 ⟨a,b⟩=>by subst b;exact⟨ax _,a⟩)
def OP:ay prog 103:=⟨_,func103,rfl,rfl⟩
def GJ:ay prog 101:=⟨_,func101,rfl,rfl⟩
def G8:ay prog 44:=⟨_,func44,rfl,rfl⟩
def J6:prog.underlying 81=some (.slice 3):=ah
abbrev gV(I:PH)(v:Value)(l:List Nat):Prop:=Sl fP I v l
def gV.le{l:List Nat}(h:gV I v l)(k:I.le J):gV J v l:=Sl.le (R:=fP) (fun{I J c a} h k=>h) h k
def fP.len(c:List Value)(x:Nat)(h:fP I c x):c.length=1:=by rw[show c=_ from h];rfl
def fP.ones{x:Nat}(h:fP I c x):c.all Sx.one=true:=by rw[show c=_ from h];rfl
def Nf{vf:Value}{f:List Nat}(hf:gV I vf f)(p:f.length<2^42):aI prog 103 #[vf] I [] fun v I2 qs=>∃A,qs=[A]/\oz I2 A v f:=by
 intro hd;obtain⟨o,q,rfl,j⟩:=id hf;refine aG 8 func103 fun w0=>?_;cases o with
 |none=>
  have l:f=[]:=by
   rcases j with h|⟨b,off,xs,e,_⟩
   .exact h
   .cases e
  subst l;refine af ?_;refine rM rfl rfl (by exact J6) rfl rfl ?_;apply RG;simp only[go_sem,Option.isNone];refine dR hd fun d=>?_;exact ao rfl d (r:=[_]) rfl (ax _) ⟨_,rfl,Ow.nil _ _ _ _⟩
 |some a=>refine af ?_;refine rM rfl rfl (by exact J6) rfl rfl ?_;apply RG;simp only[go_sem,Option.isNone];refine tV hd (by exact jp) rfl rfl rfl rfl rfl aR fun b A d g=>?_;refine af ?_;refine dX d (by exact jp) (xs:=([]:List Nat)) (R:=fP) ⟨[],g,rfl⟩ hf (fun{I J c a} h k=>h) (fun{I} c a h=>fP.len (I:=I) c a h) (fun{I} c a h=>fP.ones (I:=I) h) rfl rfl rfl rfl (by simp only[bA];omega) (by simp only[bA];unfold maxLen;omega) fun a2 c2 I2 s m i n=>?_;apply RG;simp only[go_sem,gk];exact ao rfl m (r:=[_]) rfl i ⟨_,rfl,n⟩
mutual
def rt(p:List Nat):Nd->List (List Nat×Nd)
 |⟨k,s,t,o,ks,d⟩=>(p,⟨k,s,t,o,ks,d⟩)::cq p 0 ks
def cq (p:List Nat) (i:Nat):List Nd->List (List Nat×Nd)
 | []=>[]
 |n::l=>rt (p++[i]) n++cq p (i+1) l
end
def Kn(p:List Nat)(n:Nd):rt p n=(p,n)::cq p 0 n.kids:=by cases n;rw[rt]
def Ev(p:List Nat):∀(a b:List Nd) (i:Nat),cq p i (a++b)=cq p i a++cq p (i+a.length) b
 | [],b,i=>by rw[gk,cq];rfl
 |n::a,b,i=>by rw[gR,cq,cq,Ev p a b,bf,eD,show i+1+a.length=i+(a.length+1) by omega]
variable{l:List Nd}
def Km(p:List Nat){i:Nat}{n:Nd}(h:l[i]?=some n):cq p 0 (l.take (i+1))=cq p 0 (l.take i)++(p++[i],n)::cq (p++[i]) 0 n.kids:=by have a:=(List.getElem?_eq_some_iff.1 h).1;rw[cw h,Ev,cq,cq,ab,Kn,eE,eR,kF O]
mutual
theorem WL(p:List Nat):∀n:Nd,(rt p n).length=tB n
 |⟨k,s,t,o,ks,d⟩=>by rw[rt,tB,bf,mN p 0 ks]
theorem mN (p:List Nat) (i:Nat):∀l:List Nd,(cq p i l).length=aw l
 | []=>by rw[cq];rfl
 |n::l=>by rw[cq,aw,dG,WL _ n,mN p (i+1) l]
end
def eH(u:Nat)(I:PH)(c:List Value)(x:List Nat×Nd):Prop:=∃a b d,c=a::b/\gV I a x.1/\aU (dZ u) d I b x.2
variable{x:List Nat×Nd}
def eH.le(b:u<2^32)(hp:bM u 32<=8)(h:eH u I c x)(k:I.le J):eH u J c x:=by obtain⟨a,f,d,e,h1,h2⟩:=h;exact⟨a,f,d,e,h1.le k,sU b hp h2 k⟩
def eH.len(c:List Value)(x:List Nat×Nd)(h:eH u I c x):c.length=7:=by obtain⟨a,b,d,e,_,h2⟩:=h;rw[e,bf,aU.len _ _ h2]
def eH.ones(b:u<2^32)(hp:bM u 32<=8)(h:eH u I c x):c.all Sx.one=true:=by obtain⟨e,f,d,rfl,⟨a,c',rfl,_⟩,h2⟩:=h;rw[List.all_cons,aU.ones (tD b hp) h2];rfl
abbrev qf(u:Nat)(I A:PH)(v:Value)(l:List (List Nat×Nd)):Prop:=Ow (eH u) 111 7 I A v l
def qf.le(b:u<2^32)(hp:bM u 32<=8){A:PH}{l:List (List Nat×Nd)}(h:qf u I A v l)(k:I.le J):qf u J A v l:=Ow.le (R:=eH u) (fun{I J c a} h k=>eH.le b hp h k) h k
def AD(c a b:Value)(i:Nat):St:=⟨dn 39 [(0,.v c),(1,.v a),(2,.v b),(7,.v (E i))],[]⟩
def WN(u:Nat)(p:List Nat)(l:List Nd)(out:List (List Nat×Nd))(a:PH)(x:Nat×Value)(H:PH):Prop:=∃I A,H=U [I,A]/\Dj [I,A]/\a.le I/\x.1<=l.length/\qf u I A x.2 (out++cq p 0 (l.take x.1))
def Wv(y:u<2^32)(hp:bM u 32<=8):∀(m d:Nat) {I A:PH} {vl vp vo:Value} {l:List Nd} {p:List Nat} {out:List (List Nat×Nd)},aw l<m->lw u d I vl l->gV I vp p->qf u I A vo out->out.length+aw l<2^36->p.length+aw l<2^36->
  aI prog 101 #[vl,vp,vo] I [A] fun r I2 qs=>∃B,qs=[B]/\qf u I2 B r (out++cq p 0 l):=by
 intro m
 induction m with
 |zero=>intro d I A vl vp vo l p out h;omega
 |succ m ih=>
 intro d I A vl vp vo l p out hm hS hP hA ho bb hd;obtain⟨la,lc,rfl,_⟩:=id hS;obtain⟨pa,pc,rfl,_⟩:=id hP;obtain⟨oa,oc,rfl⟩:=hA.shape;have bc:=fJ l;refine aG 39 func101 fun w0=>?_;refine af ?_;refine bz (fun x=>l.length-x.1) (fun x:Nat×Value=>AD (.slice la l.length lc) (.slice pa p.length pc) x.2 x.1) (WN u p l out I) (0,.slice oa out.length oc) ae (by simp only[go_sem,ab,AD]) ⟨I,A,rfl,hd,ax _,bg _,by simpa[cq]using hA⟩ ?_;rintro⟨i,vx⟩ H ⟨I1,A1,rfl,T,g,hi,o⟩ z;simp only at hi o;simp only[AD];obtain⟨xa,xc,rfl⟩:=o.shape;have a9:=mN p 0 (l.take i);have ba:aw (l.take i)<=aw l:=by
  conv=>rhs;rw[<-fl i l]
  rw[jr];omega
 rcases aB i l.length with K|bd
 .have F:=Z5 i l.length;have e1:=Z7 i;obtain⟨n,hn⟩:∃n,l[i]?=some n:=⟨_,aL K⟩;obtain⟨b,off,cs,rfl,C,f⟩:=Sl.load (R:=aU (dZ u) d) (fun{I} c a h=>aU.len (I:=I) c a h) (lw.le y hp hS g) hn;have U:=C;cases d with
  |zero=>exact C.elim
  |succ d=>
  obtain⟨vk,w,rfl,hw,hk⟩:=C;obtain⟨Z,X,rfl,_⟩:=id hk;obtain⟨wa,wn,wc,rfl⟩:=(tD y hp).sh hw;have ag:=Km p hn;have aa:=iK (cH hn);have ac:aw (l.take i)+(aw n.kids+1)<=aw l:=by
   have h1:aw (l.take (i+1))<=aw l:=by
    conv=>rhs;rw[<-fl (i+1) l]
    rw[jr];omega
   rw[cw hn,jr,eK,lL]at h1;omega
  refine aj F ?_;refine dR T fun a2=>?_;refine dX (R:=fP) (xs:=([]:List Nat)) (ys:=p) a2 (by exact jp) (Ow.nil _ _ _ _) (gV.le hP g) (fun{I J c a} h k=>h) (fun{I} c a h=>fP.len (I:=I) c a h) (fun{I} c a h=>fP.ones (I:=I) h) rfl rfl rfl rfl (by simp only[bA];omega) (by simp only[bA];unfold maxLen;omega) fun ya yc I2 B2 a1 N W=>?_;rw[gk]at W;apply RG;simp only[go_sem,E,gk];refine cd a1 (by exact jp) rfl rfl rfl rfl rfl aR fun nb I3 a0 t am=>?_;have a4:gV I3 (.slice (some ⟨nb,0,none⟩) 1 1) [i]:=⟨_,_,rfl,.inr ⟨nb,0,_,rfl,bD am (by simp[aD,Value.cells]) (by simp[aD,Value.cells,E]),.one rfl⟩⟩;refine av ?_;refine dX (R:=fP) (xs:=p) (ys:=[i]) a0 (by exact jp) (oz.le W t) a4 (fun{I J c a} h k=>h) (fun{I} c a h=>fP.len (I:=I) c a h) (fun{I} c a h=>fP.ones (I:=I) h) rfl rfl rfl rfl (by simp only[bf,bA];omega) (by simp only[bf,bA];unfold maxLen;omega) fun za zc I4 B4 aq M a6=>?_;refine bH aq fun I5 S s a5=>?_;have V:gV I5 (.slice za (p++[i]).length zc) (p++[i]):=fZ (R:=fP) (fun{I J c a} h k=>h) a6 s a5;have q:=Y N (Y t (Y M s));have f:=f.le q;have c4:=f.get (i:=4) rfl;refine av ?_
  try refine⟨O,?_⟩
  refine Xb (l:=[.int .u8 n.kind,.string ⟨⟨n.text⟩⟩,.int .i64 n.tok,.int .i64 n.slot,.slice Z n.kids.length X,.slice wa wn wc]) (v:=.agg #[.int .u8 n.kind,.string ⟨⟨n.text⟩⟩,.int .i64 n.tok,.int .i64 n.slot,.slice Z n.kids.length X,.slice wa wn wc]) rfl (cellsU S (.head _) (by simpa using f)) (.inl ⟨jK,rfl⟩) ?_;refine av ?_;refine cd S (by exact Jq) rfl rfl rfl rfl rfl aR fun sb I6 ap e al=>?_;have a3:Sl (eH u) I6 (.slice (some ⟨sb,0,none⟩) 1 1) [(p++[i],n)]:=⟨_,_,rfl,.inr ⟨sb,0,_,rfl,(bD al (by simp[aD,Value.cells]) (by simp[aD,Value.cells,E]):aX I6 sb 0 [.slice za (p++[i]).length zc,.int .u8 n.kind,.string ⟨⟨n.text⟩⟩,.int .i64 n.tok,.int .i64 n.slot,.slice Z n.kids.length X,.slice wa wn wc]),.one ⟨_,_,d+1,rfl,gV.le V e,sU y hp U (Y q e)⟩⟩⟩;refine av ?_;refine dX (R:=eH u) ap (by exact Jq) (qf.le y hp o (Y q e)) a3 (fun{I J c a} h k=>eH.le y hp h k) (fun{I} c a h=>eH.len (I:=I) c a h) (fun{I} c a h=>eH.ones (I:=I) y hp h) rfl rfl rfl rfl (by simp only[bf,bA,dG];omega) (by simp only[bf,bA,dG];unfold maxLen;omega) fun ta tc I7 A7 Q j a7=>?_;have G:=Y q (Y e j);have c4:=c4.le (Y e j);refine av ?_
  try refine⟨O,?_⟩
  refine Xb (l:=[.slice Z n.kids.length X]) rfl (cellsU Q (.head _) (by simpa using c4)) (.inr ⟨rZ,rfl⟩) ?_;refine av ?_;refine ce Q [0] [A7] [] rfl GJ rfl (ih d (p:=p++[i]) O (lw.le y hp hk G) (gV.le V (Y e j)) a7 (by simp only[dG,bf,bA];omega) (by simp only[dG,bf,bA];omega)) ?_;rintro v I8 qs P L⟨B8,rfl,D⟩;simp only[Z3]at P |-;obtain⟨ga,gc,rfl⟩:=D.shape;have e8:(out++cq p 0 (l.take i))++[(p++[i],n)]++cq (p++[i]) 0 n.kids=out++cq p 0 (l.take (i+1)):=by rw[ag,eD,eD];rfl
  rw[e8]at D |-;refine aj e1 ?_;exact z (i+1,.slice ga (out++cq p 0 (l.take (i+1))).length gc) _ _ bC ae (by simp only[go_sem,ab,AD]) ⟨I8,B8,rfl,P,Y g (Y G L),K,D⟩
 .have:i=l.length:=by omega
  subst this;rw[cB]at o |-;have F:decide ((l.length:Int)<(l.length:Int))=false:=ai;refine aj F ?_;exact ao rfl T (r:=[_]) rfl g ⟨_,rfl,o⟩
def Kg(n:u<2^32)(hp:bM u 32<=8){t:Syn.Tr}(s:kL (dZ u) I v t)(z:aw t.kids<2^30):aI prog 44 #[v] I [] fun r I2 qs=>qs=[]/\Sl (eH u) I2 r (cq [] 0 t.kids):=by obtain⟨w,vd,d,rfl,o,i⟩:=s;obtain⟨y,x,rfl,_⟩:=id o;obtain⟨D,C,rfl,_⟩:=id i;intro hd;refine aG 6 func44 fun w0=>?_;refine af ?_;refine dR hd fun l=>?_;refine ce l [0] [_] [] rfl GJ rfl (Wv n hp (aw t.kids+1) d (p:=[]) (out:=[]) O o ⟨none,0,rfl,.inl rfl⟩ (Ow.nil _ _ _ _) (by simp only[bA];omega) (by simp only[bA];omega)) ?_;rintro v I2 qs g f⟨G,rfl,e⟩;simp only[Z3]at g |-;rw[gk]at e;obtain⟨B,A,rfl⟩:=e.shape;refine af ?_;refine bH (c:=.st _) g fun F j b m=>?_;exact ao rfl j (r:=[_]) rfl (Y f b) ⟨rfl,fZ (R:=eH u) (fun{I J c a} h k=>eH.le n hp h k) e b m⟩
open Go Go.Sx Dg Syn
def DA(f:List Nd->List Int->Option Nd)(o:Option Nd)(l:List Nd):List Int->Option Nd
 | []=>o
 |z::ps=>f l (z::ps)
def nu:List Nd->List Int->Option Nd
 |_,[]=>none
 |l,z::ps=>if 0<=z/\z<l.length then match l[z.toNat]? with
   |none=>none
   |some n=>match ps with
    | []=>some n
    |y::qs=>nu n.kids (y::qs)
  else none
def Md(l:List Nd)(z:Int)(ps:List Int):nu l (z::ps)=if 0<=z/\z<l.length then (match l[z.toNat]? with|none=>none|some n=>DA nu (some n) n.kids ps)else none:=by cases ps<;>rw[nu]<;>rfl
def Me{z:Int}{n:Nd}{ps:List Int}(h1:¬z<0)(h2:¬z>=l.length)(a:l[z.toNat]?=some n):nu l (z::ps)=DA nu (some n) n.kids ps:=by rw[Md,ak O,a]
def P9:ay prog 81:=⟨_,func81,rfl,rfl⟩
def OW:ay prog 141:=⟨_,func141,rfl,rfl⟩
def GO:ay prog 142:=⟨_,func142,rfl,rfl⟩
def Bh(y:Nat)(S:Nat->PH)(a:Nat)(W:List (List Nat×Nd))(d:PH):Prop:=
 ∀{J:PH} {k:Nat} {p:List Nat} {n:Nd} {b:Value} {c:List Value},d.le J->k<=a->W[k]?=some (p,n)->gV J b p->az J c n->iS prog y #[b,.agg c.toArray] J [S k] fun r _ qs=>r=.bool (decide (k≠a))/\qs=[S (k+1)]
def AF(b a y:Value)(n i:Nat):St:=⟨dn 36 [(1,.v a),(2,.v y),(6,.v (.bool false)),(10,.v b),(11,.v (E n)),(12,.v (E i))],[]⟩
def WS(S:Nat->PH)(l:List Nd)(k a:Nat)(b:PH)(i:Nat)(H:PH):Prop:=∃I,H=U [I,S (k+aw (l.take i))]/\Dj [I,S (k+aw (l.take i))]/\b.le I/\i<=l.length/\k+aw (l.take i)<=a
variable{stop:Nat}{S:Nat->PH}
def Ww{y:Nat}{W:List (List Nat×Nd)}{I0:PH}(hY:Bh y S stop W I0):∀(m:Nat) {I:PH} {v vp:Value} {l:List Nd} {p:List Nat} {k:Nat},aw l<m->I0.le I->de I v l->jB v->gV I vp p->(∀j,j<aw l->W[k+j]?=(cq p 0 l)[j]?)->k<=stop->aw l<2^40->p.length+aw l<2^40->
  aI prog 142 #[v,vp,.func (.yield y) #[] #[]] I [S k] fun r _ qs=>(stop<k+aw l->r=.bool false/\qs=[S (stop+1)])/\(k+aw l<=stop->r=.bool true/\qs=[S (k+aw l)]):=by
 intro m
 induction m with
 |zero=>intro I v vp l p k hm;omega
 |succ m ih=>
 intro I v vp l p k hm ac hS hC hP hW A hz hp hd;obtain⟨va,vc,rfl,_⟩:=id hS;obtain⟨qa,qc,rfl,_⟩:=id hP;refine aG 36 func142 fun w0=>?_
 try simp only[E]
 refine af ?_;refine bz (fun i=>l.length-i) (AF (.slice va l.length vc) (.slice qa p.length qc) (.func (.yield y) #[] #[]) l.length) (WS S l k stop I) 0 ae (by simp only[go_sem,ab,AF]) ?_ ?_
 .exact⟨I,by simp[lL],by simpa[lL]using hd,ax _,bg _,by simpa[lL]using A⟩
 rintro i H ⟨I1,rfl,q,d,hi,T⟩ w;simp only[AF];rcases aB i l.length with z|bc
 .have D:decide ((i:Int)<(l.length:Int))=true:=by simp;omega
  have a6:=mO hC z;obtain⟨x,hx⟩:∃x,l[i]?=some x:=⟨_,aL z⟩;obtain⟨b,off,cs,rfl,X,C⟩:=Sl.load az.len (de.le hS d) hx;have V:=X;obtain⟨vk,na,nk,rfl,ap,g,Z⟩:=X.shape;obtain⟨ka,kc,rfl,_⟩:=id g;have a7:=iK (cH hx);have a9:aw (l.take (i+1))=aw (l.take i)+(aw x.kids+1):=by rw[iL hx,jr,eK,lL]
  have ba:aw (l.take (i+1))<=aw l:=by
   conv=>rhs;rw[<-fl (i+1) l]
   rw[jr];omega
  have M:cq p 0 l=cq p 0 (l.take i)++(p++[i],x)::(cq (p++[i]) 0 x.kids++cq p (i+1) (l.drop (i+1))):=by
   conv=>lhs;rw[<-fl (i+1) l]
   rw[Ev,Km p hx,eD,gR,eE,eR,kF O]
  have L:(cq p 0 (l.take i)).length=aw (l.take i):=mN _ _ _;have am:W[k+aw (l.take i)]?=some (p++[i],x):=by rw[hW _ O,M,pW O,L,Nat.sub_self];rfl
  have al:∀j,j<aw x.kids->W[k+aw (l.take i)+1+j]?=(cq (p++[i]) 0 x.kids)[j]?:=fun j hj=>by have h1:=hW (aw (l.take i)+1+j) O;rw[M,pW O,L,show aw (l.take i)+1+j-aw (l.take i)=j+1 by omega,pX,mU (by rw[mN];exact hj)]at h1;rw[<-h1];congr 1;omega
  refine dr D ?_;refine⟨O,?_⟩;refine Xb (l:=[.int .u8 x.kind,.string ⟨⟨x.text⟩⟩,.int .i64 x.tok,.int .i64 x.slot,.slice ka x.kids.length kc,sD na nk x.cond,rD x.cond]) (v:=.agg #[.int .u8 x.kind,.string ⟨⟨x.text⟩⟩,.int .i64 x.tok,.int .i64 x.slot,.slice ka x.kids.length kc,sD na nk x.cond,rD x.cond]) rfl (cellsU q (.head _) C) (.inl ⟨bK,rfl⟩) ?_;refine cz ?_;refine ce q [0] [] [_] rfl OP rfl (Nf (gV.le hP d) O) ?_;rintro v I2 qs U Q⟨A2,rfl,ag⟩;simp only[Z3]at U |-;obtain⟨ua,uc,rfl⟩:=ag.shape;refine cz ?_;refine cd U (by exact jp) rfl rfl rfl rfl rfl aR fun nb I3 a2 t aq=>?_;have a3:gV I3 (.slice (some ⟨nb,0,none⟩) 1 1) [i]:=⟨_,_,rfl,.inr ⟨nb,0,_,rfl,bD aq (by simp[aD,Value.cells]) (by simp[aD,Value.cells,E]),.one rfl⟩⟩;refine cz ?_;refine dX (R:=fP) (xs:=p) (ys:=[i]) a2 (by exact jp) (oz.le ag t) a3 (fun{I J c a} h k=>h) (fun{I} c a h=>fP.len (I:=I) c a h) (fun{I} c a h=>fP.ones (I:=I) h) rfl rfl rfl rfl (by simp only[bf,bA];omega) (by simp only[bf,bA];unfold maxLen;omega) fun xa xc I4 A4 a1 P a5=>?_;refine bH a1 fun I5 a0 s a4=>?_;have aa:gV I5 (.slice xa (p++[i]).length xc) (p++[i]):=fZ (R:=fP) (fun{I J c a} h k=>h) a5 s a4;have bb:(p++[i]).length=p.length+1:=ai;have f:=Y Q (Y t (Y P s));refine cz ?_;refine KT a0 [0] rfl rfl rfl rfl (by rfl) (ps:=[S _]) (F:=[]) rfl (hY (Y ac (Y d f)) T am aa (V.le f)) ?_;rintro v I6 qs o e⟨rfl,rfl⟩;simp only[Z3]at o |-;rcases aB (k+aw (l.take i)) stop with A|A
  rotate_left
  .have he:k+aw (l.take i)=stop:=by omega
   have B:decide (k+aw (l.take i)≠stop)=false:=by simp[he]
   rw[B];rw[he]at o |-;refine cz ?_;exact ao rfl o (r:=[_]) rfl (Y d (Y f e)) ⟨fun _=>⟨rfl,rfl⟩,fun h=>by omega⟩
  have B:decide (k+aw (l.take i)≠stop)=true:=ar O;rw[B];refine cz ?_;refine ce o [0] [S _] [] rfl GO rfl (ih (l:=x.kids) (p:=p++[i]) O (Y ac (Y d (Y f e))) (de.le g (Y f e)) Z (gV.le aa e) al O O O) fun v I7 qs n N G=>?_;have K:=Y f (Y e N);rcases aB stop (k+aw (l.take i)+1+aw x.kids)with u|u
  .obtain⟨rfl,rfl⟩:=G.1 u;simp only[Z3]at n |-;refine cz ?_;exact ao rfl n (r:=[_]) rfl (Y d K) ⟨fun _=>⟨rfl,rfl⟩,fun h=>by omega⟩
  .obtain⟨rfl,rfl⟩:=G.2 u;have eN:k+aw (l.take i)+1+aw x.kids=k+aw (l.take (i+1)):=O;rw[eN]at n |-;simp only[Z3]at n |-;refine dr a6 ?_;exact w (i+1) _ _ O wt (by simp only[go_sem,ab,AF,E,sD,rD]) ⟨I7,rfl,n,Y d K,z,O⟩
 .have:i=l.length:=by omega
  subst this;have D:decide (((l.length:Nat):Int)<(l.length:Int))=false:=ai;rw[cB]at q T |-;refine dr D ?_;exact ao rfl q (r:=[_]) rfl d ⟨fun h=>by omega,fun _=>⟨rfl,rfl⟩⟩
def qA(a N:Nat):Nat:=if a<N then a+1 else N
def LQ{y:Nat}{I0:PH}{cb:Nat}{vk vd:Value}(m:Bh y S stop (cq [] 0 l) I0)(e:I0.le I)(hb:aX I cb 0 [vk,vd])(f:de I vk l)(n:jB vk)(o:aw l<2^36):
  aI prog 141 #[.func (.yield y) #[] #[],pt cb] I [S 0] fun _ _ qs=>qs=[S (qA stop (aw l))]:=by
 obtain⟨h,g,rfl,_⟩:=id f;have hp:gV I (.slice none 0 0) []:=⟨none,0,rfl,.inl rfl⟩;intro hd;refine aG 7 func141 fun w0=>?_
 try simp only[pt]
 refine af ?_;refine Xb (l:=[.slice h l.length g]) rfl (cellsU hd (.head _) (by simpa using hb.get (i:=0) rfl)) (.inr ⟨xx,rfl⟩) ?_;refine af ?_;refine ce hd [0] [S 0] [] rfl GO rfl (Ww m (aw l+1) (k:=0) O e f n hp (fun j p=>by rw[eR]) (bg _) O (by simp only[bA];omega)) fun v I2 qs a b d=>?_;rw[eR]at d;rcases aB stop (aw l)with c|c
 .obtain⟨rfl,rfl⟩:=d.1 c;simp only[Z3]at a |-;refine af ?_;exact iu rfl a (r:=[]) rfl b (by unfold qA;rw[ak c])
 .obtain⟨rfl,rfl⟩:=d.2 c;simp only[Z3]at a |-;refine af ?_;exact iu rfl a (r:=[]) rfl b (by unfold qA;rw[ad O])
def LU{ka da:Option Addr}{kn kc dn' dc:Nat}:aI prog 81 #[.agg #[.slice ka kn kc,.slice da dn' dc]] I [] fun r I2 qs=>qs=[]/\∃a,r=.func (.func 141) #[] #[pt a]/\aX I2 a 0 [.slice ka kn kc,.slice da dn' dc]:=by intro hd;refine aG 4 func81 fun w0=>?_;apply bU 6;simp only[go_sem];refine jE 1 hd rfl fun a e=>?_;refine bH (c:=.st _) e fun I2 d b f=>?_;have hb:aX I2 a 0 [.slice ka kn kc,.slice da dn' dc]:=(gX ai rfl:aX (sg a (.cells [.slice ka kn kc,.slice da dn' dc].toArray 36 (0,0))) a 0 [.slice ka kn kc,.slice da dn' dc]).le f;apply RG;simp only[go_sem,iH,List.map,pt];exact ao rfl d (r:=[_]) rfl b ⟨rfl,a,rfl,hb⟩
end Go.Proofs.YtfaclfkpnmcmlaaGreatDoor
