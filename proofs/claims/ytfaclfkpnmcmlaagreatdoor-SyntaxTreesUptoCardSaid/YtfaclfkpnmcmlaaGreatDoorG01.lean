import Derived.Test.YtfaclfkpnmcmlaaGreatDoorG00
set_option maxHeartbeats 8000000
set_option linter.all false
namespace Go.Sx
open Go
variable{cs:List Value}{k n0:Nat}{o:Oper}{w:World}{a:Act}{H:PH}{σ:St}{β:Nat->Nat}
def Va{P:Program}{H0:PH}{w0:World}(hn:n0=w0.heap.size)(s:bN H0 w0 H w)(g:GB n0 β σ H a w){off:Nat}
  (h:ky P σ.bx (ev σ) o.op=some (k,off,cs)) :
  ∃w2,(execOp a.eval o).run P w=.ok .skip w2/\bN H0 w0 H w2/\GB n0 β (σ.store k off cs) H a w2:=by
 obtain⟨dst,op,type,U,after,guard⟩:=o;simp only at h;cases op<;>simp only[ky]at h<;>try (cases h;done)
 rename_i T x y;split at h
 case h_2=>cases h
 rename_i k' Q v W V;split at h
 case h_2=>cases h
 rename_i cs' n B D q hB;split at h
 case isFalse=>cases h
 rename_i hc;cases h
 obtain⟨G,aa⟩:=hc;obtain⟨hm,rfl⟩:=x6 hB;obtain⟨f,A⟩:=FJ D;have ha:=g.ev x;rw[W]at ha;simp only[ef]at ha;have hv:=dC g V;have sz:(sizeOf T).run P w=.ok n w:=by unfold bk at q;simp only[hH]at q;obtain⟨i,hi,rfl⟩:=q;simp[sizeOf,typeInfo,program,Sem.run,hi]
 obtain⟨hb,l⟩:=g.bx B hm;obtain⟨w2,h1,h2,h3,h4,h5,h6,h7⟩:=wq (P:=P) (β B.key) B.ty cs 0 off B.cs w hb O A;have Z:=g.lo B hm;have X:=s.size;refine⟨w2,?_,?_,?_⟩
 .have F:v.cells.size=n:=by rw[<-G,<-f];simp
  simp only[execOp,Instr.storeAt,ha,hv,Instr.sureAddr,storeVar,bY];simp[Result.andThen,sz,F,f,h1]
 .refine⟨fun b x p=>?_,O,fun b I C=>?_,s.dom,by rw[h5];exact s.os,by rw[h6];exact s.tape,by rw[h7];exact s.out⟩
  .rw[h3 b (fun e=>by subst e;rw[l]at p;cases p)];exact s.sub b x p
  .rw[h3 b O];exact s.priv b I C
 .have c:∀B'∈jt σ.bx B.key off cs,∃z∈σ.bx,z.key=B'.key:=by intro B' t;have:B'.key∈(jt σ.bx B.key off cs).map (·.key):=List.mem_map.2 ⟨B',t,rfl⟩;rw[Ep]at this;obtain⟨z,h1,h2⟩:=List.mem_map.1 this;exact⟨z,h1,h2⟩
  refine⟨g.defers.keep fun d _ u m=>⟨u,by rw[h3 d (fun e=>by rw[e,hb]at m;cases m)];exact m⟩,g.size,g.tm,?_,?_,?_,?_⟩
  .intro B' t;rcases Wb g.keys t with ⟨u,m⟩|⟨z,u,m,rfl⟩
   .refine⟨?_,(g.bx B' u).2⟩;rw[h3 _ (fun e=>m (g.inj B' u B hm e))];exact(g.bx B' u).1
   .have:z=B:=by
     by_cases e:z=B
     .exact e
     .exfalso;have:=g.keys;rcases List.mem_iff_getElem.1 u with ⟨i,hi,rfl⟩
      rcases List.mem_iff_getElem.1 hm with ⟨j,R,rfl⟩
      rcases oe i j with h|h|h
      .exact(List.pairwise_iff_getElem.1 this i j hi R h) m
      .subst h;exact e rfl
      .exact(List.pairwise_iff_getElem.1 this j i R hi h) m.symm
    subst this;exact⟨by simpa using h2,l⟩
  .intro N r B2 J S;obtain⟨M,L,K⟩:=c N r;obtain⟨C2,c2,e2⟩:=c B2 J;rw[<-K,<-e2]at S |-;exact g.inj M L C2 c2 S
  .intro N r;obtain⟨M,L,K⟩:=c N r;rw[<-K];exact g.lo M L
  .have:((jt σ.bx B.key off cs).map (·.key)).Pairwise (·≠·):=by rw[Ep];exact List.pairwise_map.2 g.keys
   exact List.pairwise_map.1 this
def be(ol:List Oper)(σ:St)(o:Oper):Option Bool:=
 match o.guard with
 |none=>some true
 |some (j,a)=>match ol[j]? with
  |some o'=>match o'.dst with
   |some t=>match eW σ.tm t with
    | .v (.bool b)=>some (b == a)
    | .v (.tuple _)=>some false
    |_=>none
   |none=>none
  |none=>none
variable{ops:Array Oper}
def Kh(g:GB n0 β σ H a w){r:Bool}(h:be ops.toList σ o=some r):
  Region.wanted o (yielded ops a.tmps)=r:=by
 unfold be at h;unfold Region.wanted;split at h
 .rename_i k;simp only[k];cases h;rfl
 .rename_i j f k;simp only[k];split at h
  .rename_i o' l;split at h
   .rename_i t ht;split at h
    .rename_i b hb;cases h
     have e:ops[j]?=some o':=by simpa using l
     have i:yielded ops a.tmps j=some b:=by
      unfold yielded;simp only[e,jz,ht];rw[lB]at hb;cases c:σ.tm[t]? with
      |none=>rw[c]at hb;cases hb
      |some sv=>
       rw[c]at hb;simp only[lp]at hb;subst hb;have h1:=g.tm t _ c;simp only[ef]at h1;have d:t<a.tmps.size:=by
        rw[g.size];rcases aB t σ.tm.length with h|h
        .exact h
        .rw[fW h]at c;cases c
       rw[en,ll d]at h1;simp only[lp]at h1;simp[d,h1]
     rw[i];cases b<;>cases f<;>rfl
    .rename_i m hb;cases h
     have e:ops[j]?=some o':=by simpa using l
     have i:yielded ops a.tmps j=none:=by
      unfold yielded;simp only[e,jz,ht];rw[lB]at hb;cases c:σ.tm[t]? with
      |none=>rw[c]at hb;cases hb
      |some sv=>
       rw[c]at hb;simp only[lp]at hb;subst hb;have h1:=g.tm t _ c;simp only[ef]at h1;have d:t<a.tmps.size:=by
        rw[g.size];rcases aB t σ.tm.length with h|h
        .exact h
        .rw[fW h]at c;cases c
       rw[en,ll d]at h1;simp only[lp]at h1;simp[d,h1]
     rw[i];rfl
    .cases h
   .cases h
  .cases h
def aQ(σ:St)(x:Operand):Value:=match ev σ x with | .v y=>y|_=>undef
def eX:SV->Bool | .v _=>true|_=>false
def dU:Op->Bool | .select ..=>false | .defer ..=>false|_=>true
def bt(σ:St)(op:Op):Bool:=dU op && op.operands.toList.all fun x=>eX (ev σ x)
def HA(g:GB n0 β σ H a w)(h:bt σ o.op=true):execOp (aQ σ) o=execOp a.eval o:=by
 simp only[bt,bu,lm]at h;refine execOp_congr o (fun cs b e=>by rw[e]at h;exact absurd h.1 (by simp[dU])) fun x d=>?_;have h1:=h.2 x (by simpa using d);unfold aQ;cases c:ev σ x with
 |v y=>exact(dC g c).symm
 |p k off=>rw[c]at h1;cases h1
 |u=>rw[c]at h1;cases h1
def tS(P:Program)(w:World)(H:PH)(Ψ:SV->PH->Prop):Result Next->Prop
 | .ok (.value v) w2=>∃H2,bN H w H2 w2/\Ψ (.v v) H2
 | .ok .skip w2=>∃H2,bN H w H2 w2/\Ψ .u H2
 | .ok (.enter f args) w2=>Calls P f args w2 fun e a=>match e with
  | .returned v=>∃H2,bN H w H2 a/\Ψ (.v v) H2
  |_=>False
 | .ok (.round l fn tmps assign body) w2=>RoundIn Fence.wide 0 P l fn tmps assign body w2 fun e a=>match e with
  | .returned v=>∃H2,bN H w H2 a/\Ψ (.v v) H2
  |_=>False
 |_=>False
def dg(P:Program)(s:Sem Next)(H:PH)(Ψ:SV->PH->Prop):Prop:=∀w,Sub H w->tS P w H Ψ (s.run P w)
variable{Ψ:SV->PH->Prop}{s:Sem Next}
def dg.mono{P:Program}{Ψ':SV->PH->Prop}(h:dg P s H Ψ)(k:∀sv H2,Ψ sv H2->Ψ' sv H2):dg P s H Ψ':=by
 intro w hw;have hr:=h w hw;unfold tS at hr |-;split at hr
 .obtain⟨H2,a,b⟩:=hr;exact⟨H2,a,k _ _ b⟩
 .obtain⟨H2,a,b⟩:=hr;exact⟨H2,a,k _ _ b⟩
 .refine hr.mono fun e f d=>?_;cases e with
  |returned v=>obtain⟨H2,a,b⟩:=d;exact⟨H2,a,k _ _ b⟩
  |outgrown=>exact d
  |panicked c=>exact d
 .refine hr.mono fun e f d=>?_;cases e with
  |returned v=>obtain⟨H2,a,b⟩:=d;exact⟨H2,a,k _ _ b⟩
  |outgrown=>exact d
  |panicked c=>exact d
 .exact hr
def ql(P:Program)(σ:St)(H:PH)(o:Oper)(sv:SV):Prop:=
 (∃φ,pv P σ.bx (ev σ) o.op=some (φ,sv)/\φ)\/
 (∃v,sv=.v v/\bt σ o.op=true/\∀w,Sub H w->(execOp (aQ σ) o).run P w=.ok (.value v) w)
def np (P : Program) (ol : List Oper) (o : Oper) (K : St → PH → Prop) (σ : St) (H : PH) : Prop :=
  (be ol σ o = some false ∧ K (σ.put o.dst (.v undef)) H) ∨
  (be ol σ o = some true ∧
    ((∃ sv, ql P σ H o sv ∧ K (σ.put o.dst sv) H) ∨
     (∃ d T cs, o.dst = some d ∧ ix P (ev σ) o.op = some (T, cs) ∧ K (σ.newBox d T cs) H) ∨
     (∃ k off cs, ky P σ.bx (ev σ) o.op = some (k, off, cs) ∧ K ((σ.store k off cs).put o.dst .u) H) ∨
     (bt σ o.op = true ∧ dg P (execOp (aQ σ) o) H fun sv H2 => K (σ.put o.dst sv) H2)))
def V(P:Program)(ol:List Oper)(K:St->PH->Prop):List Nat->St->PH->Prop
 | [],σ,H=>K σ H
 |i::l,σ,H=>match ol[i]? with
  |none=>V P ol K l σ H
  |some o=>np P ol o (V P ol K l) σ H
def QK(n0:Nat)(H0:PH)(w0:World)(K:St->PH->Prop):Exit->Act->World->Prop
 | .normal,a,w=>∃σ H,K σ H/\bN H0 w0 H w/\G n0 σ H a w
 |_,_,_=>False
theorem GB.step{H2:PH}{w2:World}(g:GB n0 β σ H a w)(t:bN H w H2 w2):GB n0 β σ H2 a w2:=
 ⟨g.defers.keep fun d _ h1 h2=>⟨t.dom _ (gj h2) h1,by rw[t.priv _ (gj h2) h1];exact h2⟩,g.size,g.tm,fun B c=>by obtain⟨h1,h2⟩:=g.bx B c;have b:=gj h1;exact⟨by rw[t.priv _ b h2];exact h1,t.dom _ b h2⟩,g.inj,g.lo,g.keys⟩
def FR(r:Option Nat):Fence:={ Fence.wide with round:=r }
variable{f:FuncId}{r:Option Nat}
def MB{P:Program}{args:Array Value}{R:Ending->World->Prop}(h:Calls P f args w R):CallsIn (FR r) 0 P f args w R:=
 (callsIn_wide (n:=0)).2 h
def Uj{P:Program}{l:Nat}{tmps:Array Value}{assign body:Code}{R:Ending->World->Prop}(h:RoundIn Fence.wide 0 P l f tmps assign body w R):RoundIn (FR r) 0 P l f tmps assign body w R:=h
def F2(h:(FR r).depth.isSome=true):1<=0:=absurd h (by simp[FR,Fence.wide])
variable{K:St->PH->Prop}
def qm{P:Program}{i:Nat}(hi:ops[i]?=some o){K':Act->World->Prop}{H0:PH}{w0:World}(B:n0=w0.heap.size){KQ:St->PH->Prop}
  (n:∀σ H a w,K σ H->bN H0 w0 H w->G n0 σ H a w->K' a w)     (h:np P ops.toList o K σ H) (s:bN H0 w0 H w) (g:G n0 σ H a w) :
  wpOpIn (FR r) 0 P ops (QK n0 H0 w0 KQ) i K' a w:=by
 obtain⟨β,g⟩:=g;unfold wpOpIn;simp only[hi];rcases h with ⟨hw,j⟩|⟨hw,h⟩
 .rw[Kh g hw];exact⟨fun _ _=>trivial,n _ _ _ _ j s ⟨β,g.put o.dst rfl⟩⟩
 .rw[Kh g hw,ak rfl];refine⟨fun _ _=>trivial,?_⟩;rcases h with ⟨sv,hv,j⟩|⟨d,T,cs,hd,u,j⟩|⟨k,off,cs,p,j⟩|⟨m,z⟩
  .rcases hv with ⟨φ,hp,D⟩|⟨v,rfl,m,x⟩
   .obtain⟨y,F,hm⟩:=T5 (P:=P) g hp D;rw[Oper.semAt_eq _ _ _ fun c e=>by rw[e]at hp;simp[pv]at hp,F,Oper.uponIn_value];exact n _ _ _ _ j s ⟨β,g.put o.dst hm⟩
   .have:=x w s.sub;rw[HA g m]at this;rw[Oper.semAt_eq _ _ _ fun c e=>by simp[bt,dU,e]at m,this,Oper.uponIn_value];exact n _ _ _ _ j s ⟨β,g.put o.dst rfl⟩
  .rw[Oper.semAt_eq _ _ _ fun c e=>by rw[e]at u;simp[ix]at u,LJ g u,Oper.uponIn_value,hd];exact n _ _ _ _ j (s.alloc _) ⟨_,g.newBox B s d T cs⟩
  .obtain⟨w2,h1,h2,h3⟩:=Va B s g p;rw[Oper.semAt_eq _ _ _ fun c e=>by rw[e]at p;simp[ky]at p,h1];exact n _ _ _ _ j h2 ⟨β,h3.put o.dst HZ⟩
  .have A:=HA g m;have b:=z w s.sub;rw[A]at b;rw[Oper.semAt_eq _ _ _ fun c e=>by simp[bt,dU,e]at m];unfold tS at b;split at b
   .rename_i v w2 hr;obtain⟨H2,t,j⟩:=b;rw[hr,Oper.uponIn_value];exact n _ _ _ _ j (s.trans t) ⟨β,(g.step t).put o.dst rfl⟩
   .rename_i w2 hr;obtain⟨H2,t,j⟩:=b;rw[hr,Oper.uponIn_skip];exact n _ _ _ _ j (s.trans t) ⟨β,(g.step t).put o.dst HZ⟩
   .rename_i f args w2 hr;rw[hr,Oper.uponIn_enter];refine⟨F2,MB (b.mono fun e C q=>?_)⟩;cases e with
    |returned v=>obtain⟨H2,t,j⟩:=q;exact n _ _ _ _ j (s.trans t) ⟨β,(g.step t).put o.dst rfl⟩
    |outgrown=>exact q.elim
    |panicked c=>exact q.elim
   .rename_i l f tm as bo w2 hr;rw[hr,Oper.uponIn_round];refine⟨F2,Uj (b.mono fun e C q=>?_)⟩;cases e with
    |returned v=>obtain⟨H2,t,j⟩:=q;exact n _ _ _ _ j (s.trans t) ⟨β,(g.step t).put o.dst rfl⟩
    |outgrown=>exact q.elim
    |panicked c=>exact q.elim
   .exact b.elim
def Be{r:Option Nat}{P:Program}{ops:Array Oper}{K:St->PH->Prop}{n0:Nat}{H0:PH}{w0:World}(c:n0=w0.heap.size):∀(l:List Nat) {σ:St} {H:PH} {a:Act} {w:World},
  V P ops.toList K l σ H->bN H0 w0 H w->G n0 σ H a w->wpOpsIn (FR r) 0 P ops (QK n0 H0 w0 K) l a w
 | [],σ,H,a,w,h,s,g=>⟨σ,H,h,s,g⟩
 |i::l,σ,H,a,w,h,s,g=>by
  simp only[V]at h;rw[wpOpsIn_cons];cases b:ops[i]? with
  |none=>
   have:ops.toList[i]?=none:=by simpa using b
   rw[this]at h;simp only[wpOpIn,b];exact Be c l h s g
  |some o=>
   have:ops.toList[i]?=some o:=by simpa using b
   rw[this]at h;exact qm b c (fun σ' H' j f d s' e=>Be c l d s' e) h s g
def PH.put(H:PH)(b:Nat)(o:Obj):PH:=fun c=>if c=b then some o else H c
variable{b:Nat}
def PH.le_put{o:Obj}(h:H b=none):H.le (H.put b o):=fun c x a=>by
 by_cases e:c=b
 .subst e;rw[h]at a;cases a
 .simp[PH.put,e,a]
def bN.new(s:Sub H w)(o:Obj):H w.heap.size=none/\bN H w (H.put w.heap.size o) { w with heap:=w.heap.push o }:=by
 have c:H w.heap.size=none:=by
  cases d:H w.heap.size with
  |none=>rfl
  |some o=>exact absurd (gj (s _ _ d)) O
 refine⟨c,fun b x h=>?_,by simp,fun b hb _=>?_,fun b hb a=>?_,rfl,rfl,rfl⟩
 .by_cases e:b=w.heap.size
  .subst e;simp only[PH.put,cY]at h;cases h;simp
  .simp only[PH.put,ad e]at h;rw[show ({ w with heap:=w.heap.push o }:World).heap=w.heap.push o from rfl,sL (gj (s _ _ h))];exact s _ _ h
 .rw[show ({ w with heap:=w.heap.push o }:World).heap=w.heap.push o from rfl,sL hb]
 .simp[PH.put,Nat.ne_of_lt hb,a]
def bN.beside{H2:PH}{w2:World}{o:Obj}(hb:H b=none)(s:Sub (H.put b o) w)(t:bN H w H2 w2):H2 b=none/\bN (H.put b o) w (H2.put b o) w2:=by
 have f:w.heap[b]?=some o:=s b o (by simp[PH.put]);have g:=gj f;have h:=t.dom b g hb;refine⟨h,fun c x a=>?_,t.size,fun c a d=>?_,fun c a d=>?_,t.os,t.tape,t.out⟩
 .by_cases e:c=b
  .subst e;simp only[PH.put,cY]at a;cases a;rw[t.priv _ g hb];exact f
  .simp only[PH.put,ad e]at a;exact t.sub c x a
 .by_cases e:c=b
  .subst e;simp[PH.put]at d
  .simp only[PH.put,ad e]at d;exact t.priv c a d
 .by_cases e:c=b
  .subst e;simp[PH.put]at d
  .simp only[PH.put,ad e]at d |-;exact t.dom c a d
def Sub.unput{o:Obj}(hb:H b=none)(s:Sub (H.put b o) w):Sub H w:=s.of_le (PH.le_put hb)
def dg.beside{P:Program}{o:Obj}(hb:H b=none)(h:dg P s H Ψ):dg P s (H.put b o) fun sv f=>∃H2,f=H2.put b o/\H2 b=none/\Ψ sv H2:=by
 intro w hw;have hr:=h w (hw.unput hb);unfold tS at hr |-;split at hr
 .obtain⟨H2,t,p⟩:=hr;obtain⟨n,a⟩:=t.beside hb hw;exact⟨_,a,H2,rfl,n,p⟩
 .obtain⟨H2,t,p⟩:=hr;obtain⟨n,a⟩:=t.beside hb hw;exact⟨_,a,H2,rfl,n,p⟩
 .refine hr.mono fun e g d=>?_;cases e with
  |returned v=>obtain⟨H2,t,p⟩:=d;obtain⟨n,a⟩:=t.beside hb hw;exact⟨_,a,H2,rfl,n,p⟩
  |outgrown=>exact d
  |panicked c=>exact d
 .refine hr.mono fun e g d=>?_;cases e with
  |returned v=>obtain⟨H2,t,p⟩:=d;obtain⟨n,a⟩:=t.beside hb hw;exact⟨_,a,H2,rfl,n,p⟩
  |outgrown=>exact d
  |panicked c=>exact d
 .exact hr
def AP(P:Program)(s:Sem Next)(f:Nat->Value)(ob:Obj):Prop:=∀w,s.run P w=.ok (.value (f w.heap.size)) { w with heap:=w.heap.push ob }
theorem AP.op{P:Program}{f:Nat->Value}{ob:Obj}(h:AP P s f ob)(H:PH):dg P s H fun sv H2=>∃b,H b=none/\sv=.v (f b)/\H2=H.put b ob:=by intro w hw;rw[h w];obtain⟨c,a⟩:=bN.new hw ob;exact⟨_,a,_,c,rfl,rfl⟩
inductive Cl where
 |val|alc|st|gen|nw
 deriving DecidableEq
def eb:Op->Cl
 | .alloc _ | .box ..=>.alc
 | .store ..=>.st
 | .move _ | .assign _ | .pick .. | .load .. | .binOp .. | .unOp .. | .convert .. | .fieldAddr .. | .field .. | .indexAddr .. | .index .. | .extract ..
 | .build .. | .nilCheck _ | .makeFunc .. | .lookup .. | .slice ..=>.val
 | .call { callee:=.builtin .len,.. } | .call { callee:=.builtin .cap,.. } | .call { callee:=.builtin .min,.. } | .call { callee:=.builtin .max,.. }=>.val
 | .makeMap _ none=>.nw
 |_=>.gen
def fU:List Nat->Nat->Bool
 | [],_=>false
 |a::l,k=>if a=k then true else fU l k
def kl(kp:List Nat):List b9->List b9
 | []=>[]
 |b::l=>if fU kp b.key then b::kl kp l else kl kp l
def kb(f:Bool)(kp:List Nat)(l:List b9):List b9:=if f then kl kp l else l
structure gK where
 h:Bool
 j:Bool
 J:PH
 k:Bool
 kp:List Nat
structure kJ where
 h:Bool
 j:Bool
 k:Bool
structure bI where
 h:List Nat
 j:List Nat
 J:PH
 k:List Nat
 kp:List Nat
structure bJ where
 h:List Nat
 j:List Nat
 k:List Nat
def bI.at'(d:bI)(i:Nat):gK:=⟨d.h.contains i,d.j.contains i,d.J,fU d.k i,d.kp⟩
def bJ.at'(d:bJ)(i:Nat):kJ:=⟨d.h.contains i,d.j.contains i,fU d.k i⟩
variable{l:List b9}{kp:List Nat}
def Od{B:b9}(h:dJ (kl kp l) k=some B):dJ l k=some B/\fU kp k=true:=by
 induction l with
 |nil=>cases h
 |cons b l d=>
  simp only[kl]at h;split at h
  .simp only[dJ]at h |-;split at h
   .rename_i hm e;subst e;rw[ak rfl];exact⟨h,hm⟩
   .rename_i hm e;rw[ad e];exact d h
  .rename_i hm;obtain⟨a,c⟩:=d h;simp only[dJ];rw[ad (fun e=>hm (by rw[e];exact c))];exact⟨a,c⟩
def Hx{kp:List Nat}{k off:Nat}{cs:List Value}(a:fU kp k=false):∀(l:List b9),kl kp (jt l k off cs)=kl kp l
 | []=>rfl
 |b::l=>by
  simp only[jt];split
  .rename_i e;simp[kl,e,a]
  .simp only[kl,Hx a l]
variable{ρ:Operand->SV}{bx:List b9}
def T0{P:Program}{bx':List b9}{op:Op}{r:Prop×SV}(hb:∀k B,dJ bx k=some B->dJ bx' k=some B)(h:pv P bx ρ op=some r):pv P bx' ρ op=some r:=by
 cases op<;>first|exact h|(rename_i mx;cases mx<;>exact h)|skip
 rename_i T x;simp only[pv,vW]at h |-;split at h
 .rename_i k off b;split at h
  .rename_i B a;rw[hb k B a];exact h
  .cases h
 .cases h
def T4{P:Program}{f:Bool}{op:Op}{r:Prop×SV}(h:pv P (kb f kp bx) ρ op=some r):pv P bx ρ op=some r:=by
 unfold kb at h;split at h
 .exact T0 (fun k B a=>(Od a).1) h
 .exact h
def vH:Op->Bool
 | .load ..=>false
 |_=>true
def IR{P:Program}{bx':List b9}{op:Op}(h:vH op=true):pv P bx ρ op=pv P bx' ρ op:=by cases op<;>first|rfl|(rename_i mx;cases mx<;>rfl)|cases h
def uj(P:Program)(fr:gK)(σ:St)(H:PH)(o:Oper)(sv:SV):Prop:=
 (∃φ,pv P (kb fr.k fr.kp σ.bx) (ev σ) o.op=some (φ,sv)/\φ)\/
 (fr.h=true/\∃v,sv=.v v/\bt σ o.op=true/\∀w,Sub H w->(execOp (aQ σ) o).run P w=.ok (.value v) w)\/
 (fr.j=true/\fr.J.le H/\∃v,sv=.v v/\bt σ o.op=true/\∀w,Sub fr.J w->(execOp (aQ σ) o).run P w=.ok (.value v) w)
variable{sv:SV}
def uj.val{P:Program}{fr:gK}(h:uj P fr σ H o sv):ql P σ H o sv:=by
 rcases h with ⟨φ,h,k⟩|h|⟨_,d,v,a,b,c⟩
 .exact .inl ⟨φ,T4 h,k⟩
 .exact .inr h.2
 .exact .inr ⟨v,a,b,fun w hw=>c w (hw.of_le d)⟩
def iw(P:Program)(ol:List Oper)(fr:gK)(str:kJ)(o:Oper)(K:St->PH->Prop)(σ:St)(H:PH):Prop:=
 (be ol σ o=some false/\K (σ.put o.dst (.v undef)) H)\/
 (be ol σ o=some true/\match eb o.op with
  | .val=>∃sv,uj P fr σ H o sv/\K (σ.put o.dst sv) H
  | .alc=>∃d T cs,o.dst=some d/\ix P (ev σ) o.op=some (T,cs)/\K (σ.newBox d T cs) H
  | .st=>(∃k off cs,ky P σ.bx (ev σ) o.op=some (k,off,cs)/\(str.k=true->fU fr.kp k=false)/\K ((σ.store k off cs).put o.dst .u) H)\/(str.k=false/\bt σ o.op=true/\dg P (execOp (aQ σ) o) H fun sv H2=>K (σ.put o.dst sv) H2)
  | .gen=>bt σ o.op=true/\dg P (execOp (aQ σ) o) H fun sv H2=>((str.h=true->H.le H2)/\(str.j=true->fr.J.le H->fr.J.le H2))/\K (σ.put o.dst sv) H2
  | .nw=>∀b,H b=none->K (σ.put o.dst (.v (.map (some b)))) (H.put b (.map #[] 0)))
def VD(P:Program)(ol:List Oper)(fr:bI)(str:bJ)(K:St->PH->Prop):List Nat->St->PH->Prop
 | [],σ,H=>K σ H
 |i::l,σ,H=>match ol[i]? with
  |none=>VD P ol fr str K l σ H
  |some o=>iw P ol (fr.at' i) (str.at' i) o (VD P ol fr str K l) σ H
def Tg{P:Program}(h:eb o.op=.nw):bt σ o.op=true/\AP P (execOp (aQ σ) o) (fun b=>.map (some b)) (.map #[] 0):=by
 obtain⟨dst,op,type,a,after,guard⟩:=o;simp only at h |-;cases op<;>try (simp[eb]at h;done)
 case makeMap mt n=>
  cases n with
  |some x=>simp[eb]at h
  |none=>exact⟨by simp[bt,dU,Op.operands],fun w=>by simp[execOp,Instr.makeMap,newObj,Sem.run,Result.andThen]⟩
 case call c=>
  obtain⟨callee,args,types⟩:=c;cases callee with
  |builtin b=>cases b<;>simp[eb]at h
  |value f=>simp[eb]at h
  |invoke r m=>simp[eb]at h
theorem iw.toV{P:Program}{ol:List Oper}{fr:gK}{str:kJ}(h:iw P ol fr str o K σ H):np P ol o K σ H:=by
 rcases h with h|⟨hw,h⟩
 .exact .inl h
 .refine .inr ⟨hw,?_⟩;split at h
  .obtain⟨sv,hv,c⟩:=h;exact .inl ⟨sv,hv.val,c⟩
  .exact .inr (.inl h)
  .rcases h with ⟨k,off,cs,a,_,b⟩|⟨_,a,b⟩
   .exact .inr (.inr (.inl ⟨k,off,cs,a,b⟩))
   .exact .inr (.inr (.inr ⟨a,b⟩))
  .exact .inr (.inr (.inr ⟨h.1,h.2.mono fun _ _ x=>x.2⟩))
  .rename_i d;obtain⟨a,b⟩:=Tg (P:=P) (σ:=σ) d;exact .inr (.inr (.inr ⟨a,(b.op H).mono fun sv H2 ⟨x,y,z,u⟩=>by subst z;subst u;exact h x y⟩))
def dy(l:List b9):Prop:=l.Pairwise (fun x y=>x.key<y.key)
def BS(h:dy l):dy (dt l k):=by
 unfold dy at *
 induction l with
 |nil=>simp[dt]
 |cons b l a=>
  rw[rC]at h;simp only[dt];split
  .exact a h.2
  .exact List.pairwise_cons.2 ⟨fun y c=>h.1 y (nK c).1,a h.2⟩
variable{x:b9}
def QP(h:dy l)(d:∀B∈l,B.key≠x.key):dy (di x l):=by
 unfold dy at *
 induction l with
 |nil=>simp[di]
 |cons b l e=>
  have i:=h;rw[rC]at h;simp only[di];split
  .rename_i c;refine List.pairwise_cons.2 ⟨fun y a=>?_,e h.2 fun B g=>d B (.tail _ g)⟩;rcases sS.1 a with rfl|a
   .exact c
   .exact h.1 y a
  .rename_i f;have hb:=d b (.head _);refine List.pairwise_cons.2 ⟨fun y a=>?_,i⟩;rcases List.mem_cons.1 a with rfl|a
   .omega
   .have:=h.1 y a;omega
theorem dy.newBox(h:dy σ.bx)(d:Nat)(T:TypeId)(cs:List Value):dy (σ.newBox d T cs).bx:=
 QP (BS h) fun _ a=>(nK a).2
theorem dy.put(h:dy σ.bx)(d:Option Nat)(sv:SV):dy (σ.put d sv).bx:=by cases d<;>exact h
theorem dy.store(h:dy σ.bx)(k off:Nat)(cs:List Value):dy (σ.store k off cs).bx:=by
 have:((jt σ.bx k off cs).map (·.key)).Pairwise (· < ·):=by rw[Ep];exact List.pairwise_map.2 h
 exact List.pairwise_map.1 this
def QN(h:∀B∈l,¬B.key<x.key):di x l=x::l:=by
 cases l with
 |nil=>rfl
 |cons b l=>simp[di,h b (.head _)]
def F6(a:dy l)(f:x.key≠k):dt (di x l) k=di x (dt l k):=by
 unfold dy at a
 induction l with
 |nil=>simp[di,dt,f]
 |cons b l e=>
  rw[rC]at a;simp only[di];split
  .rename_i c;simp only[dt];split
   .exact e a.2
   .simp[di,c,e a.2]
  .rename_i d;have h1:dt (x::b::l) k=x::dt (b::l) k:=by rw[dt];simp[f]
   rw[h1];refine(QN fun B g=>?_).symm;have:=(nK g).1;rcases List.mem_cons.1 this with rfl|h
   .exact d
   .have:=a.1 B h;omega
def QM{y:b9}(h:x.key≠y.key):di x (di y l)=di y (di x l):=by
 induction l with
 |nil=>
  simp only[di];rcases oe x.key y.key with h1|h1|h1
  .simp[h1,Nat.not_lt.2 (fo h1)]
  .exact absurd h1 h
  .simp[h1,Nat.not_lt.2 (fo h1)]
 |cons b l d=>
  by_cases c:b.key<x.key<;>by_cases a:b.key<y.key
  .simp[di,c,a,d]
  .have:y.key<x.key:=by omega
   simp[di,c,a,this]
  .have:x.key<y.key:=by omega
   simp[di,c,a,this]
  .rcases oe x.key y.key with h1|h1|h1
   .simp[di,c,a,h1,Nat.not_lt.2 (fo h1)]
   .exact absurd h1 h
   .simp[di,c,a,h1,Nat.not_lt.2 (fo h1)]
def NS(l:List b9)(a b:Nat):dt (dt l a) b=dt (dt l b) a:=by
 induction l with
 |nil=>rfl
 |cons x l c=>by_cases h1:x.key=a<;>by_cases h2:x.key=b<;>simp[dt,h1,h2,c]<;>simp_all[dt]
def DS(l:List SV)(a b:Nat)(x y:SV)(h:a≠b):fB (fB l a x) b y=fB (fB l b y) a x:=by
 induction l generalizing a b with
 |nil=>rfl
 |cons z l c=>cases a<;>cases b<;>simp only[fB]<;>first|omega|(congr 1;exact c _ _ O)
def DT(f:SV->SV)(l:List SV)(a:Nat)(x:SV):(fB l a x).map f=fB (l.map f) a (f x):=by
 induction l generalizing a with
 |nil=>rfl
 |cons z l b=>cases a<;>simp[fB,b]
def td(σ:St)(a b:Option Nat)(x y:SV)(h:∀d,a=some d->b≠some d):(σ.put a x).put b y=(σ.put b y).put a x:=by
 cases a<;>cases b<;>simp only[St.put]
 rename_i c d;rw[DS _ _ _ _ _ (fun e=>h c rfl (by rw[e]))]
def y7(σ:St)(d:Nat)(T:TypeId)(cs:List Value)(e:Option Nat)(sv:SV)(h:e≠some d):(σ.put e sv).newBox d T cs=(σ.newBox d T cs).put e (cE d sv):=by
 cases e with
 |none=>rfl
 |some e=>have:e≠d:=fun x=>h (by rw[x]);simp only[St.put,St.newBox,DT];rw[DS _ _ _ _ _ this]
def Ni(l:List SV)(a b:Nat):(l.map (cE a)).map (cE b)=(l.map (cE b)).map (cE a):=by
 simp only[List.map_map];apply n8;intro x _;cases x with
 |v x=>rfl
 |u=>rfl
 |p k off=>
  by_cases h1:k=a<;>by_cases h2:k=b<;>simp only[Function.comp,cE,h1,h2,cY,gT]
  all_goals (by_cases h3:a=b<;>simp_all[cE])
def S9(σ:St)(d e:Nat)(T T':TypeId)(cs cs':List Value)(h:d≠e)(a:dy σ.bx):(σ.newBox d T cs).newBox e T' cs'=(σ.newBox e T' cs').newBox d T cs:=by
 have h1:¬d=e:=h;have h2:¬e=d:=fun x=>h x.symm;have t:(fB (((fB (σ.tm.map (cE d)) d (.p d 0))).map (cE e)) e (.p e 0))=(fB (((fB (σ.tm.map (cE e)) e (.p e 0))).map (cE d)) d (.p d 0)):=by rw[DT,DT,DS _ _ _ _ _ h,Ni];simp[cE,h1,h2]
 have b:di ⟨e,T',cs'⟩ (dt (di ⟨d,T,cs⟩ (dt σ.bx d)) e)=di ⟨d,T,cs⟩ (dt (di ⟨e,T',cs'⟩ (dt σ.bx e)) d):=by rw[F6 (BS a) h,F6 (BS a) (Ne.symm h),QM (Ne.symm h),NS]
 simp only[St.newBox,t,b]
def looks (ol : List Oper) (o : Oper) : List Nat :=
  (o.op.operands.toList.filterMap fun | .tmp t => some t | _ => none) ++
  (match o.guard with
   | some (j, _) => match ol[j]? with | some o' => o'.dst.toList | none => []
   | none => [])
def nH(ol:List Oper)(x y:Oper):Bool:=
 (match x.dst with|some d=>!(looks ol y).contains d && y.dst != some d|none=>true) &&
 (match y.dst with|some d=>!(looks ol x).contains d && x.dst != some d|none=>true)
variable{d:Nat}
def HL{ol:List Oper}(h:d∉looks ol o):∀x∈o.op.operands,x≠.tmp d:=by intro x a e;subst e;exact h (dk _ (List.mem_filterMap.2 ⟨.tmp d,by simpa using a,rfl⟩))
def N9{d:Option Nat}{x:Operand}(h:∀e,d=some e->x≠.tmp e):ev (σ.put d sv) x=ev σ x:=by
 cases d with
 |none=>rfl
 |some d=>
  cases x with
  |tmp t=>have:d≠t:=fun e=>h d rfl (by rw[e]);simp[ev,St.put,lB,n3,this]
  |_=>rfl
def N8{T:TypeId}{x:Operand}(h:x≠.tmp d):ev (σ.newBox d T cs) x=cE d (ev σ x):=by
 cases x with
 |tmp t=>have:d≠t:=fun e=>h (by rw[e]);simp only[ev,St.newBox,lB,n3,ad this,fX];cases σ.tm[t]?<;>rfl
 |_=>rfl
def n7{ol:List Oper}{d:Option Nat}(h:∀e,d=some e->e∉looks ol o):be ol (σ.put d sv) o=be ol σ o:=by
 unfold be;cases f:o.guard with
 |none=>rfl
 |some g=>
  obtain⟨j,b⟩:=g;simp only;cases c:ol[j]? with
  |none=>rfl
  |some o'=>
   simp only;cases ht:o'.dst with
   |none=>rfl
   |some t=>
    have a:∀e,d=some e->e≠t:=fun e i h2=>h e i (by subst h2;exact eo _ (by simp[f,c,ht]))
    have:eW (σ.put d sv).tm t=eW σ.tm t:=by
     cases d with
     |none=>rfl
     |some d=>simp[St.put,lB,n3,a d rfl]
    simp only[this]
def rq{ol:List Oper}{T:TypeId}{r:Bool}(h:d∉looks ol o):be ol (σ.newBox d T cs) o=some r<->be ol σ o=some r:=by
 unfold be;cases f:o.guard with
 |none=>rfl
 |some g=>
  obtain⟨j,b⟩:=g;simp only;cases c:ol[j]? with
  |none=>rfl
  |some o'=>
   simp only;cases ht:o'.dst with
   |none=>rfl
   |some t=>
    have a:d≠t:=fun h2=>h (by subst h2;exact eo _ (by simp[f,c,ht]))
    have:eW (σ.newBox d T cs).tm t=cE d (eW σ.tm t):=by simp only[St.newBox,lB,n3,ad a,fX];cases σ.tm[t]?<;>rfl
    simp only[this];cases eW σ.tm t with
    |v x=>rfl
    |u=>rfl
    |p k off=>by_cases e:k=d<;>simp[cE,e]
def Bq{ρ ρ':Operand->SV}:∀{l:List Operand},(∀x∈l,ρ x=ρ' x)->d8 ρ l=d8 ρ' l
 | [],_=>rfl
 |x::l,h=>by simp only[d8,h x (.head _),Bq (fun y a=>h y (.tail _ a))]
def Fl{ρ ρ':Operand->SV}:∀{l:List (Nat×Operand)},(∀x∈l,ρ x.2=ρ' x.2)->gm ρ l=gm ρ' l
 | [],_=>rfl
 |(i,x)::l,h=>by simp only[gm,h (i,x) (.head _),Fl (fun y a=>h y (.tail _ a))]
def IQ{P:Program}{ρ':Operand->SV}{op:Op}(h:∀x∈op.operands,ρ x=ρ' x):pv P bx ρ op=pv P bx ρ' op:=by
 cases op<;>simp only[pv]<;>simp only[Op.operands]at h
 case build T ps=>
  rw[Fl (l:=ps.toList) fun x a=>h x.2 (by simpa using ⟨x.1,by simpa using a⟩)]
 case slice T x lo hi mx=>
  have a:=h x ai;have d:lo.map ρ=lo.map ρ':=by
   cases lo with
   |none=>rfl
   |some z=>simp only[fO];rw[h z ai]
  have e:hi.map ρ=hi.map ρ':=by
   cases hi with
   |none=>rfl
   |some z=>simp only[fO];rw[h z ai]
  cases mx with
  |some m=>rfl
  |none=>simp only;rw[a,d,e]
 case makeFunc fn f c=>
  rw[Bq (l:=f.toList) fun x a=>h x (by simp at a |-;exact .inl a),Bq (l:=c.toList) fun x a=>h x (by simp at a |-;exact .inr a)]
 case call c=>
  obtain⟨callee,args,types⟩:=c;have ha:∀x∈args.toList,ρ x=ρ' x:=fun x a=>h x (by simp[Call.operands]at a |-;exact .inr a);simp only[jn];split
  .rename_i x t b e2;rw[ha x (by rw[b];exact .head _)]
  .rename_i x t b e2;rw[ha x (by rw[b];exact .head _)]
  .rename_i x y b;rw[ha x (by rw[b];exact .head _),ha y (by rw[b];exact .tail _ (.head _))]
  .rename_i x y b;rw[ha x (by rw[b];exact .head _),ha y (by rw[b];exact .tail _ (.head _))]
  .rfl
 all_goals simp_all
def fR{s:SV}{x:Value}:cE d s=.v x<->s=.v x:=by
 cases s with
 |v y=>rfl
 |u=>simp[cE]
 |p k off=>simp only[cE];split<;>simp
def xU{off:Nat}{s:SV}(h:cE d s=.p k off):s=.p k off/\k≠d:=by
 cases s with
 |v y=>cases h
 |u=>cases h
 |p b a=>
  simp only[cE]at h;split at h
  .cases h
  .cases h;exact⟨rfl,by assumption⟩
def Bp{ρ:Operand->SV}{d:Nat}:∀{l:List Operand} {r:List Value},d8 (fun x=>cE d (ρ x)) l=some r->d8 ρ l=some r
 | [],_,h=>h
 |x::l,r,h=>by
  simp only[d8]at h |-;split at h
  .rename_i a b ha hr;rw[fR.1 ha,Bp hr];exact h
  .cases h
def Fk{ρ:Operand->SV}{d:Nat}:∀{l:List (Nat×Operand)} {r:List (Nat×Value)},gm (fun x=>cE d (ρ x)) l=some r->gm ρ l=some r
 | [],_,h=>h
 |(i,x)::l,r,h=>by
  simp only[gm]at h |-;split at h
  .rename_i a b ha hr;rw[fR.1 ha,Fk hr];exact h
  .cases h
def sf{n:Nat}{o:Option Operand}{i:Int}(h:ig n (o.map fun x=>cE d (ρ x))=some i):ig n (o.map ρ)=some i:=by
 cases o with
 |none=>exact h
 |some z=>obtain⟨k,b⟩:=oV h;simp only[fO]at h |-;have a:cE d (ρ z)=.v (.int k i):=b;rw[fR.1 a];rw[a]at h;exact h
def TZ{k:Kd}{e:qb}{x:SV}{lo hi:Option Operand}{φ:Prop}(h:ku k e (cE d x) (lo.map fun x=>cE d (ρ x)) (hi.map fun x=>cE d (ρ x))=some (φ,sv)):
  ku k e x (lo.map ρ) (hi.map ρ)=some (φ,sv)/\sv=cE d sv:=by
 unfold ku at h;split at h
 .rename_i size a len cap f;rw[fR.1 f];unfold ku;split at h
  .rename_i l i j c b g;cases h
   simp only[sf c,sf b];cases hi with
   |none=>cases g
   |some z=>exact⟨rfl,rfl⟩
  .rename_i l i c b g;cases h
   simp only[sf c,sf b];cases hi with
   |none=>exact⟨rfl,rfl⟩
   |some z=>cases g
  .cases h
 .rename_i s f;rw[fR.1 f];unfold ku;split at h
  .rename_i l i c b;cases h
   simp only[sf c,sf b];exact⟨trivial,rfl⟩
  .cases h
 .cases h
def Oe{T:TypeId}(h:k≠d):dJ (di ⟨d,T,cs⟩ (dt bx d)) k=dJ bx k:=by
 have h1:∀l:List b9,dJ (di ⟨d,T,cs⟩ l) k=dJ l k:=by
  intro l
  induction l with
  |nil=>simp[di,dJ,Ne.symm h]
  |cons b l a=>
   simp only[di];split
   .simp only[dJ,a]
   .simp[dJ,Ne.symm h]
 rw[h1]
 induction bx with
 |nil=>rfl
 |cons b l a=>
  simp only[dt];split
  .rename_i e;rw[a];have:¬b.key=k:=fun x=>h (x.symm.trans e);simp[dJ,this]
  .simp only[dJ,a]
def Gm(f:Bool)(kp:List Nat)(l:List b9)(k:Nat):dJ (kb f kp l) k=if f=true/\fU kp k=false then none else dJ l k:=by
 unfold kb;cases f
 .simp
 .simp only[cY,dP]
  induction l with
  |nil=>simp[kl,dJ]
  |cons b l a=>
   simp only[kl];by_cases e:b.key=k
   .cases hm:fU kp b.key
    .rw[ad ai,a,<-e,hm];simp
    .rw[ak rfl];subst e;simp[dJ,hm]
   .cases hm:fU kp b.key
    .rw[ad ai,a];simp[dJ,e]
    .rw[ak rfl];simp only[dJ,ad e];exact a
def Oc{f:Bool}{T:TypeId}(h:k≠d):dJ (kb f kp (di ⟨d,T,cs⟩ (dt bx d))) k=dJ (kb f kp bx) k:=by rw[Gm,Gm,Oe h]
def T1 {P : Program} {bx : List b9} {ρ : Operand → SV} {d : Nat} {T : TypeId} {cs : List Value} {op : Op} {φ : Prop} {sv : SV} {f : Bool} {kp : List Nat}
    (h : pv P (kb f kp (di ⟨d, T, cs⟩ (dt bx d))) (fun x => cE d (ρ x)) op = some (φ, sv)) : ∃ sv', pv P (kb f kp bx) ρ op = some (φ, sv') ∧ sv = cE d sv' := by
  have mv : ∀ x : Operand, (match cE d (ρ x) with | .u => (none : Option (Prop × SV)) | sv => some (True, sv)) = some (φ, sv) → ∃ sv', (match ρ x with | .u => (none : Option (Prop × SV)) | sv => some (True, sv)) = some (φ, sv') ∧ sv = cE d sv' := by
    intro x hx
    cases hr : ρ x with
    | v y => rw [hr] at hx; cases hx; exact ⟨.v y, rfl, rfl⟩
    | u => rw [hr] at hx; cases hx
    | p k off =>
      rw [hr] at hx
      simp only [cE] at hx
      split at hx
      · rename_i e; split at e <;> first | cases hx | cases e
      · rename_i aa
        by_cases e : k = d
        · simp [e] at aa
        · simp only [ad e] at hx
          cases hx; exact ⟨.p k off, rfl, by simp [cE, e]⟩
  cases op <;> simp only [pv] at h ⊢ <;> try (cases h; done)
  case move x => exact mv x h
  case assign x => exact mv x h
  case pick c x y =>
    split at h
    · rename_i b hb
      cases h
      rw [fR.1 hb]
      exact ⟨_, rfl, by split <;> rfl⟩
    · cases h
  case load T' x =>
    unfold vW at h ⊢
    split at h
    · rename_i k off hx
      obtain ⟨hx, hk⟩ := xU hx
      rw [hx]
      simp only
      rw [Oc hk] at h
      split at h
      · split at h
        · cases h; exact ⟨_, rfl, rfl⟩
        · cases h
      · cases h
    · cases h
  case fieldAddr T' x f =>
    split at h
    · unfold vU at h
      split at h
      · rename_i k off hx
        cases h
        obtain ⟨hx, hk⟩ := xU hx
        exact ⟨_, by rw [hx]; rfl, by simp [cE, hk]⟩
      · rename_i b off hx
        cases h
        exact ⟨_, by rw [fR.1 hx]; rfl, rfl⟩
      · cases h
    · cases h
  case nilCheck x =>
    unfold vX at h
    split at h
    · rename_i k off hx
      cases h
      obtain ⟨hx, hk⟩ := xU hx
      exact ⟨_, by rw [hx]; rfl, by simp [cE, hk]⟩
    · rename_i a hx
      cases h
      exact ⟨_, by rw [fR.1 hx]; rfl, rfl⟩
    · cases h
  case indexAddr T' x i =>
    unfold qN at h
    split at h
    · rename_i len size k off kk n he hx hi
      cases h
      obtain ⟨hx, hk⟩ := xU hx
      exact ⟨_, by rw [hx, fR.1 hi, he]; rfl, by simp [cE, hk]⟩
    · rename_i len size b off kk n he hx hi
      cases h
      exact ⟨_, by rw [fR.1 hx, fR.1 hi, he]; rfl, rfl⟩
    · rename_i size b off len cap kk n he hx hi
      cases h
      exact ⟨_, by rw [fR.1 hx, fR.1 hi, he]; rfl, rfl⟩
    · cases h
  case index T' x i =>
    unfold vV at h
    split at h
    · rename_i s kk n he hx hi
      cases h
      exact ⟨_, by rw [fR.1 hx, fR.1 hi, he]; rfl, rfl⟩
    · cases h
  case field T' x f =>
    split at h
    · rename_i n ty cs' hf hx
      obtain ⟨v, hv, rfl⟩ := ij h
      refine ⟨.v v, ?_, rfl⟩
      rw [hf, fR.1 hx]; exact h
    · cases h
  case extract x n =>
    split at h
    · rename_i vs hx
      obtain ⟨v, hv, rfl⟩ := ij h
      refine ⟨.v v, ?_, rfl⟩
      rw [fR.1 hx]; exact h
    · cases h
  case build T' ps =>
    split at h
    · rename_i l hl
      obtain ⟨v, hv, rfl⟩ := ij h
      refine ⟨.v v, ?_, rfl⟩
      rw [Fk hl]; exact h
    · cases h
  case binOp op T' x y T2 =>
    split at h
    · rename_i a b hx hy
      obtain ⟨v, hv, rfl⟩ := ij h
      refine ⟨.v v, ?_, rfl⟩
      rw [fR.1 hx, fR.1 hy]; exact h
    · cases h
  case unOp op T' x =>
    split at h
    · rename_i a hx
      obtain ⟨v, hv, rfl⟩ := ij h
      refine ⟨.v v, ?_, rfl⟩
      rw [fR.1 hx]; exact h
    · cases h
  case convert s dd x =>
    split at h
    · rename_i a hs hx
      obtain ⟨v, hv, rfl⟩ := ij h
      refine ⟨.v v, ?_, rfl⟩
      rw [fR.1 hx, hs]; exact h
    · cases h
  case slice T' x lo hi mx =>
    cases mx with
    | some m => cases h
    | none =>
      obtain ⟨h1, h2⟩ := TZ (ρ := ρ) h
      exact ⟨sv, h1, h2⟩
  case makeFunc fn f c =>
    split at h
    · rename_i l m hl hm
      cases h
      refine ⟨_, by rw [Bp hl, Bp hm], rfl⟩
    · cases h
  case call c =>
    unfold jn at h ⊢
    split at h
    all_goals first
      | (split at h
         · first
           | (rename_i a b hx hy
              obtain ⟨v, hv, rfl⟩ := ij h
              exact ⟨.v v, by rw [fR.1 hx, fR.1 hy]; exact h, rfl⟩)
           | (rename_i a hx
              obtain ⟨v, hv, rfl⟩ := ij h
              exact ⟨.v v, by rw [fR.1 hx]; exact h, rfl⟩)
         · cases h)
      | cases h
def dg.mono'{P:Program}{Ψ':SV->PH->Prop}(h:dg P s H Ψ)(k:∀sv H2,(∀d,cE d sv=sv)->Ψ sv H2->Ψ' sv H2):dg P s H Ψ':=by
 intro w hw;have hr:=h w hw;unfold tS at hr |-;split at hr
 .obtain⟨H2,a,b⟩:=hr;exact⟨H2,a,k _ _ (fun _=>rfl) b⟩
 .obtain⟨H2,a,b⟩:=hr;exact⟨H2,a,k _ _ (fun _=>rfl) b⟩
 .refine hr.mono fun e g f=>?_;cases e with
  |returned v=>obtain⟨H2,a,b⟩:=f;exact⟨H2,a,k _ _ (fun _=>rfl) b⟩
  |outgrown=>exact f
  |panicked c=>exact f
 .refine hr.mono fun e g f=>?_;cases e with
  |returned v=>obtain⟨H2,a,b⟩:=f;exact⟨H2,a,k _ _ (fun _=>rfl) b⟩
  |outgrown=>exact f
  |panicked c=>exact f
 .exact hr
def XV(P:Program)(ol:List Oper)(fr:gK)(σ:St)(H:PH)(o:Oper)(sv:SV):Prop:=
 (be ol σ o=some false/\sv=.v undef)\/(be ol σ o=some true/\eb o.op=.val/\uj P fr σ H o sv)
def qH{σ':St}{op:Op}(h:∀x∈op.operands,eX (ev σ x)=eX (ev σ' x)):bt σ op=bt σ' op:=by
 have h1:∀x∈op.operands.toList,eX (ev σ x)=eX (ev σ' x):=fun x b=>h x (by simpa using b);have h2:op.operands.toList.all (fun x=>eX (ev σ x))=op.operands.toList.all (fun x=>eX (ev σ' x)):=by rw[Bool.eq_iff_iff];simp only[lm];exact⟨fun a x b=>by rw[<-h1 x b];exact a x b,fun a x b=>by rw[h1 x b];exact a x b⟩
 simp only[bt,h2]
def qy{σ':St}(a:dU o.op=true)(h:∀x∈o.op.operands,aQ σ x=aQ σ' x):execOp (aQ σ) o=execOp (aQ σ') o:=
 execOp_congr o (fun cs b e=>by rw[e]at a;simp[dU]at a) h
section
variable {P:Program} {ol:List Oper}
variable{o:Oper}{sv:SV}{d:Option Nat}{σ:St}
def lz(h:∀e,d=some e->e∉looks ol o):∀x∈o.op.operands,ev (σ.put d sv) x=ev σ x:=
 fun x a=>N9 fun e b=>HL (h e b) x a
variable{cs:List Value}
def uR{d:Nat}{T:TypeId}(h:d∉looks ol o):∀x∈o.op.operands,ev (σ.newBox d T cs) x=cE d (ev σ x):=
 fun x a=>N8 (HL h x a)
def Fv(σ:St)(d:Option Nat)(sv:SV):(σ.put d sv).bx=σ.bx:=by cases d<;>rfl
def ze{op:Op}(h:eb op=.val):dU op=true:=by cases op<;>first|rfl|cases h
variable{H:PH}{fr:gK}
def rX{sv':SV}(h:∀e,d=some e->e∉looks ol o):XV P ol fr (σ.put d sv') H o sv<->XV P ol fr σ H o sv:=by
 have f:bt (σ.put d sv') o.op=bt σ o.op:=qH fun x a=>by rw[lz h x a]
 have b:dU o.op=true->execOp (aQ (σ.put d sv')) o=execOp (aQ σ) o:=fun c=>qy c fun x a=>by simp only[aQ,lz h x a]
 unfold XV uj;rw[n7 h,Fv,IQ (lz h),f];constructor
 .rintro(h1|⟨h1,h2,h3⟩)
  .exact .inl h1
  .rw[b (ze h2)]at h3;exact .inr ⟨h1,h2,h3⟩
 .rintro(h1|⟨h1,h2,h3⟩)
  .exact .inl h1
  .refine .inr ⟨h1,h2,?_⟩;rw[b (ze h2)];exact h3
def Bg{H2:PH}(h:XV P ol fr σ H o sv)(d:fr.h=true->H.le H2)(f:fr.j=true->fr.J.le H->fr.J.le H2):XV P ol fr σ H2 o sv:=by
 rcases h with h|⟨h1,h2,h3⟩
 .exact .inl h
 .refine .inr ⟨h1,h2,h3.imp id ?_⟩;rintro(⟨a,v,b,c,e⟩|⟨a,l,x⟩)
  .exact .inl ⟨a,v,b,c,fun w hw=>e w (hw.of_le (d a))⟩
  .exact .inr ⟨a,f a l,x⟩
def LC{d:Nat}{T:TypeId}(hd:d∉looks ol o)(h:XV P ol fr (σ.newBox d T cs) H o sv):
  ∃f,XV P ol fr σ H o f/\sv=cE d f:=by
 rcases h with ⟨h1,rfl⟩|⟨h1,h2,h3⟩
 .exact⟨.v undef,.inl ⟨(rq hd).1 h1,rfl⟩,rfl⟩
 .have g:=(rq hd).1 h1;rcases h3 with ⟨φ,hp,n⟩|⟨a,v,rfl,c,e⟩|⟨a,s,v,rfl,c,e⟩
  .rw[IQ (ρ':=fun x=>cE d (ev σ x)) (uR hd)]at hp;obtain⟨f,r,q⟩:=T1 hp;exact⟨f,.inr ⟨g,h2,.inl ⟨φ,r,n⟩⟩,q⟩
  .have hv:∀x∈o.op.operands,ev σ x=ev (σ.newBox d T cs) x:=by
    intro x b;have j:=c;simp only[bt,bu,lm]at j;have:=j.2 x (by simpa using b);rw[uR hd x b]at this |-;cases i:ev σ x with
    |v y=>rfl
    |u=>rw[i]at this;cases this
    |p k off=>rw[i]at this;simp only[cE]at this;split at this<;>cases this
   have l:bt σ o.op=bt (σ.newBox d T cs) o.op:=qH fun x b=>by rw[hv x b]
   have m:execOp (aQ σ) o=execOp (aQ (σ.newBox d T cs)) o:=qy (ze h2) fun x b=>by simp only[aQ,hv x b]
   exact⟨.v v,.inr ⟨g,h2,.inr (.inl ⟨a,v,rfl,l.trans c,by rw[m];exact e⟩)⟩,rfl⟩
  .have hv:∀x∈o.op.operands,ev σ x=ev (σ.newBox d T cs) x:=by
    intro x b;have j:=c;simp only[bt,bu,lm]at j;have:=j.2 x (by simpa using b);rw[uR hd x b]at this |-;cases i:ev σ x with
    |v y=>rfl
    |u=>rw[i]at this;cases this
    |p k off=>rw[i]at this;simp only[cE]at this;split at this<;>cases this
   have l:bt σ o.op=bt (σ.newBox d T cs) o.op:=qH fun x b=>by rw[hv x b]
   have m:execOp (aQ σ) o=execOp (aQ (σ.newBox d T cs)) o:=qy (ze h2) fun x b=>by simp only[aQ,hv x b]
   exact⟨.v v,.inr ⟨g,h2,.inr (.inr ⟨a,s,v,rfl,l.trans c,by rw[m];exact e⟩)⟩,rfl⟩
def xt(h:∀e,d=some e->e∉looks ol o):ix P (ev (σ.put d sv)) o.op=ix P (ev σ) o.op:=by
 have:=lz (σ:=σ) (sv:=sv) h;cases a:o.op<;>simp only[ix]
 rename_i T x;rw[this x (by simp[a,Op.operands])]
def E6{d:Nat}{T:TypeId}{r:TypeId×List Value}(h:d∉looks ol o):ix P (ev (σ.newBox d T cs)) o.op=some r<->ix P (ev σ) o.op=some r:=by
 have:=uR (σ:=σ) (T:=T) (cs:=cs) h;cases a:o.op<;>simp only[ix]
 rename_i T' x;rw[this x (by simp[a,Op.operands])];cases b:ev σ x with
 |v y=>rfl
 |u=>rfl
 |p k off=>by_cases e:k=d<;>simp[cE,e]
def pR(ol:List Oper)(fr:gK)(a str:kJ)(x y:Oper):Bool:=
 nH ol x y && match eb x.op,eb y.op with
  | .alc,.alc | .alc,.val | .val,.val=>true
  | .alc,.gen=>true
  | .val,.gen=>(!fr.h || str.h) && (!fr.j || str.j)
  | .val,.st=>(str.k && (vH x.op || fr.k)) || (vH x.op && !fr.h && !fr.j)
  | .val,.nw | .alc,.nw=>true
  | .gen,.nw=>!a.j && y.guard.isNone
  |_,_=>false
def zd{op:Op}(h:bt σ op=true):dU op=true:=by simp only[bt,bu]at h;exact h.1
variable{K:St->PH->Prop}{str:kJ}
def Bc(h:iw P ol fr str o K σ H):
  (∃sv,XV P ol fr σ H o sv/\K (σ.put o.dst sv) H)\/
  (be ol σ o=some true/\eb o.op=.alc/\∃d T cs,o.dst=some d/\ix P (ev σ) o.op=some (T,cs)/\K (σ.newBox d T cs) H)\/
  (be ol σ o=some true/\eb o.op=.gen/\bt σ o.op=true/\dg P (execOp (aQ σ) o) H fun sv H2=>((str.h=true->H.le H2)/\(str.j=true->fr.J.le H->fr.J.le H2))/\K (σ.put o.dst sv) H2)\/
  (be ol σ o=some true/\eb o.op=.st/\((∃k off cs,ky P σ.bx (ev σ) o.op=some (k,off,cs)/\(str.k=true->fU fr.kp k=false)/\K ((σ.store k off cs).put o.dst .u) H)\/(str.k=false/\bt σ o.op=true/\dg P (execOp (aQ σ) o) H fun sv H2=>K (σ.put o.dst sv) H2)))\/
  (be ol σ o=some true/\eb o.op=.nw/\∀b,H b=none->K (σ.put o.dst (.v (.map (some b)))) (H.put b (.map #[] 0))):=by
 rcases h with ⟨hw,h⟩|⟨hw,h⟩
 .exact .inl ⟨.v undef,.inl ⟨hw,rfl⟩,h⟩
 .cases a:eb o.op<;>rw[a]at h<;>simp only at h
  .obtain⟨sv,hv,c⟩:=h;exact .inl ⟨sv,.inr ⟨hw,a,hv⟩,c⟩
  .exact .inr (.inl ⟨hw,rfl,h⟩)
  .exact .inr (.inr (.inr (.inl ⟨hw,rfl,h⟩)))
  .exact .inr (.inr (.inl ⟨hw,rfl,h⟩))
  .exact .inr (.inr (.inr (.inr ⟨hw,rfl,h⟩)))
def Bd(hw:be ol σ o=some true)(a:eb o.op=.nw)
  (h:∀b,H b=none->K (σ.put o.dst (.v (.map (some b)))) (H.put b (.map #[] 0))):iw P ol fr str o K σ H:=.inr ⟨hw,by rw[a];exact h⟩
def oO(h:XV P ol fr σ H o sv)(a:K (σ.put o.dst sv) H):iw P ol fr str o K σ H:=by
 rcases h with ⟨hw,rfl⟩|⟨hw,b,hv⟩
 .exact .inl ⟨hw,a⟩
 .exact .inr ⟨hw,by rw[b];exact⟨sv,hv,a⟩⟩
def rW{d:Nat}{T:TypeId}(hw:be ol σ o=some true)(b:eb o.op=.alc)(hd:o.dst=some d)
  (ha:ix P (ev σ) o.op=some (T,cs)) (a:K (σ.newBox d T cs) H):iw P ol fr str o K σ H:=.inr ⟨hw,by rw[b];exact⟨d,T,cs,hd,ha,a⟩⟩
def U9{bx:List b9}{ρ ρ':Operand->SV}{op:Op}(h:∀x∈op.operands,ρ x=ρ' x):ky P bx ρ op=ky P bx ρ' op:=by
 cases op<;>simp only[ky]<;>simp only[Op.operands]at h
 simp_all
def LD{k off:Nat}(c:vH o.op=true\/fr.k=true)(hm:fU fr.kp k=false)(h:XV P ol fr σ H o sv):XV P ol fr (σ.store k off cs) H o sv:=by
 rcases h with h|⟨h1,h2,h3⟩
 .exact .inl h
 .refine .inr ⟨h1,h2,?_⟩;rcases h3 with ⟨φ,a,b⟩|h3
  .refine .inl ⟨φ,?_,b⟩;rcases c with c|c
   .rw[IR (bx':=kb fr.k fr.kp σ.bx) c];exact a
   .rw[c]at a |-;show pv P (kl fr.kp (jt σ.bx k off cs)) _ _=_;rw[Hx hm];exact a
  .exact .inr h3
def LF{k off:Nat}(c:vH o.op=true)(h:XV P ol fr σ H o sv):XV P ol fr (σ.store k off cs) H o sv:=by
 rcases h with h|⟨h1,h2,h3⟩
 .exact .inl h
 .refine .inr ⟨h1,h2,?_⟩;rcases h3 with ⟨φ,a,b⟩|h3
  .refine .inl ⟨φ,?_,b⟩;rw[IR (bx':=kb fr.k fr.kp σ.bx) c];exact a
  .exact .inr h3
def FU{l:List Nat}{d:Nat}(h:(!l.contains d)=true):d∉l:=by simpa using h
theorem swap{frx fry:gK}{strx stry:kJ}(hJ:frx.J=fry.J)(hK:frx.kp=fry.kp){x y:Oper}(hs:dy σ.bx)(ok:pR ol frx strx stry x y=true)
  (h:iw P ol frx strx x (iw P ol fry stry y K) σ H):iw P ol fry stry y (iw P ol frx strx x K) σ H:=by
 simp only[pR,bu]at ok;obtain⟨R,a⟩:=ok;simp only[nH,bu]at R;obtain⟨G,V⟩:=R;have D:∀e,x.dst=some e->e∉looks ol y:=fun e n=>by rw[n]at G;simp only[bu]at G;exact FU G.1
 have q:∀e,x.dst=some e->y.dst≠some e:=fun e n h2=>by rw[n]at G;simp[h2]at G
 have w:∀e,y.dst=some e->e∉looks ol x:=fun e n=>by rw[n]at V;simp only[bu]at V;exact FU V.1
 have dyx:∀e,y.dst=some e->x.dst≠some e:=fun e n h2=>q e h2 n;rcases Bc h with ⟨r,L,h⟩|⟨l,i,d,T,cs,hd,A,h⟩|⟨l,i,Q,aa⟩|⟨l,i,_⟩|⟨l,i,_⟩
 ·
  rcases Bc h with ⟨svy,N,h⟩|⟨g,f,e,T,cs,n,A,h⟩|⟨g,f,m,t⟩|⟨g,f,al⟩|⟨g,f,S⟩
  .exact oO ((rX D).1 N) (oO ((rX w).2 L) (by rw[<-td _ _ _ _ _ q];exact h))
  .rcases L with ⟨l,rfl⟩|⟨l,i,_⟩
   .rw[n7 D]at g;rw[xt D]at A;refine rW g f n A (oO (sv:=.v undef) (.inl ⟨(rq (w e n)).2 l,rfl⟩) ?_);rw[y7 _ _ _ _ _ _ (dyx e n)]at h;exact h
   .rw[i,f]at a;cases a
  .rw[n7 D]at g;have M:bt (σ.put x.dst r) y.op=bt σ y.op:=qH fun z s=>by rw[lz D z s]
   have n:execOp (aQ (σ.put x.dst r)) y=execOp (aQ σ) y:=qy (zd m) fun z s=>by simp only[aQ,lz D z s]
   rw[M]at m;rw[n]at t;refine .inr ⟨g,by
    rw[f];refine⟨m,t.mono' fun sv H2 _ I=>⟨I.1,?_⟩⟩;have F:XV P ol frx σ H2 x r:=by
     rcases L with L|⟨l,i,hv⟩
     .exact .inl L
     .rw[i,f]at a;simp only[bu,im,g8]at a;refine Bg (.inr ⟨l,i,hv⟩) (fun hf=>I.1.1 ?_) fun hf=>?_
      .rcases a.1 with h1|h1
       .rw[hf]at h1;cases h1
       .exact h1
      .rw[hJ];refine I.1.2 ?_;rcases a.2 with h1|h1
       .rw[hf]at h1;cases h1
       .exact h1
    exact oO ((rX w).2 F) (by rw[<-td _ _ _ _ _ q];exact I.2)⟩
  .rw[f]at a;cases C:eb x.op<;>rw[C]at a<;>first|(exact Bool.noConfusion a)|skip
   simp only[bu,im,g8]at a;rw[n7 D]at g;rcases al with ⟨k,off,cs,ha,hm,M⟩|⟨am,m,t⟩
   .rw[Fv,U9 (lz D)]at ha;have F:XV P ol frx (σ.store k off cs) H x r:=by
     rcases a with ⟨h1,h2⟩|⟨⟨h1,_⟩,_⟩
     .exact LD h2 (by rw[hK];exact hm h1) L
     .exact LF h1 L
    refine .inr ⟨g,by
     rw[f];refine .inl ⟨k,off,cs,ha,hm,oO ((rX w).2 F) ?_⟩;rw[<-td _ _ _ _ _ q];have:(σ.store k off cs).put x.dst r=(σ.put x.dst r).store k off cs:=by cases x.dst<;>rfl
     rw[this];exact M⟩
   .have hn:frx.h=false/\frx.j=false:=by
     rcases a with ⟨h1,_⟩|⟨⟨_,h1⟩,h2⟩
     .rw[am]at h1;cases h1
     .exact⟨h1,h2⟩
    have M:bt (σ.put x.dst r) y.op=bt σ y.op:=qH fun z s=>by rw[lz D z s]
    have n:execOp (aQ (σ.put x.dst r)) y=execOp (aQ σ) y:=qy (zd m) fun z s=>by simp only[aQ,lz D z s]
    rw[M]at m;rw[n]at t;refine .inr ⟨g,by
     rw[f];refine .inr ⟨am,m,t.mono' fun sv H2 _ I=>?_⟩;have F:XV P ol frx σ H2 x r:=Bg L (fun hf=>by rw[hn.1]at hf;cases hf) fun hf=>by rw[hn.2]at hf;cases hf
     exact oO ((rX w).2 F) (by rw[<-td _ _ _ _ _ q];exact I)⟩
  .rw[n7 D]at g;refine Bd g f fun b hb=>?_;have ap:=PH.le_put (o:=.map #[] 0) hb;exact oO ((rX w).2 (Bg L (fun _=>ap) fun _ hj=>Y hj ap)) (by rw[<-td _ _ _ _ _ q];exact S b hb)
 ·
  have B:=D d hd;rcases Bc h with ⟨svy,N,h⟩|⟨g,f,e,T',cs',n,ag,h⟩|⟨g,f,m,t⟩|⟨g,f,al⟩|⟨g,f,S⟩
  .obtain⟨sv',aq,rfl⟩:=LC B N;refine oO aq (rW (by rw[n7 w];exact l) i hd (by rw[xt w];exact A) ?_);rw[y7 _ _ _ _ _ _ (q d hd)];exact h
  .have a0:d≠e:=fun x2=>q d hd (by rw[x2];exact n);refine rW ((rq B).1 g) f n ((E6 B).1 ag) (rW ((rq (w e n)).2 l) i hd ((E6 (w e n)).2 A) ?_);rw[<-S9 _ _ _ _ _ _ _ a0 hs];exact h
  .have hv:∀z∈y.op.operands,ev (σ.newBox d T cs) z=ev σ z:=by
    intro z s;have C:=m;simp only[bt,bu,lm]at C;have:=C.2 z (by simpa using s);rw[uR B z s]at this |-;cases Z:ev σ z with
    |v y=>rfl
    |u=>rw[Z]at this;cases this
    |p k off=>rw[Z]at this;simp only[cE]at this;split at this<;>cases this
   have M:bt (σ.newBox d T cs) y.op=bt σ y.op:=qH fun z s=>by rw[hv z s]
   have n:execOp (aQ (σ.newBox d T cs)) y=execOp (aQ σ) y:=qy (zd m) fun z s=>by simp only[aQ,hv z s]
   rw[M]at m;rw[n]at t;refine .inr ⟨(rq B).1 g,by rw[f];refine⟨m,t.mono' fun sv H2 ac I=>⟨I.1,?_⟩⟩;refine rW (by rw[n7 w];exact l) i hd (by rw[xt w];exact A) ?_;rw[y7 _ _ _ _ _ _ (q d hd),ac];exact I.2⟩
  .rw[i,f]at a;cases a
  .refine Bd ((rq B).1 g) f fun b hb=>?_;refine rW (by rw[n7 w];exact l) i hd (by rw[xt w];exact A) ?_;rw[y7 _ _ _ _ _ _ (q d hd)];exact S b hb
 ·
  rw[i]at a;cases f:eb y.op<;>rw[f]at a<;>first|(exact Bool.noConfusion a)|skip
  simp only[bu,g8,Option.isNone_iff_eq_none]at a;have X:∀σ',be ol σ' y=some true:=fun σ'=>by simp[be,a.2]
  refine Bd (X _) f fun b hb=>?_;have M:bt (σ.put y.dst (.v (.map (some b)))) x.op=bt σ x.op:=qH fun z s=>by rw[lz w z s]
  have n:execOp (aQ (σ.put y.dst (.v (.map (some b))))) x=execOp (aQ σ) x:=qy (zd Q) fun z s=>by simp only[aQ,lz w z s]
  refine .inr ⟨by rw[n7 w];exact l,by
   rw[i];refine⟨by rw[M];exact Q,?_⟩;rw[n];refine(aa.beside (o:=.map #[] 0) hb).mono ?_;rintro sv H2'⟨H2,rfl,h2b,U,N⟩;refine⟨⟨fun hf=>?_,fun hf=>?_⟩,?_⟩
   .have:=U.1 hf;intro c o C;by_cases e:c=b
    .subst e;simp only[PH.put,cY]at C |-;exact C
    .simp only[PH.put,ad e]at C |-;exact this c o C
   .rw[a.1]at hf;cases hf
   .rcases N with ⟨W,_⟩|⟨_,N⟩
    .rw[X]at W;cases W
    .rw[f]at N;have:=N b h2b;rw[td _ _ _ _ _ dyx];exact this⟩
 .rw[i]at a;cases C:eb y.op<;>rw[C]at a<;>cases a
 .rw[i]at a;cases C:eb y.op<;>rw[C]at a<;>cases a
end
end Go.Sx
