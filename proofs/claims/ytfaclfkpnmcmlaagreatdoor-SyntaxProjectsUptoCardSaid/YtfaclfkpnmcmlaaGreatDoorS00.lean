/- The ground of a proof of one law of motleylaw07 (SyntaxProjects, SyntaxFirst or SyntaxWithin; the last file names it): for all inputs of bulk at most 1048576 in all the law answers true and leaves its arguments as they were. Condition: the six package variables that the row lists hold what they hold when the program starts. -/
import Derived.Calls
import Derived.Orders
import Derived.RowKit
import Derived.Tactics
abbrev R7:=@Nat.le_refl
abbrev R8:=@Nat.le_trans
abbrev R9:=@if_true
abbrev Sa:=@Array.getD_eq_getD_getElem?
abbrev Sb:=@if_neg
abbrev Sc:=@Option.some.injEq
abbrev Sd:=@Nat.add_zero
abbrev Se:=@Go.Sem.run_bind
abbrev Sf:=@Nat.zero_add
abbrev Sg:=@List.getElem?_take
abbrev Sh:=@List.getElem?_drop
abbrev Si:=@if_false
abbrev Sj:=@List.foldl_cons
abbrev Sk:=@Array.length_toList
abbrev Sm:=@Option.bind_some
abbrev Sn:=@Option.map_eq_some_iff
abbrev So:=@Option.map_some
abbrev Sq:=@Array.toList_inj
abbrev Sr:=@Array.getElem?_eq_getElem
abbrev Ss:=@Option.map_none
abbrev Su:=@List.mem_cons
abbrev Sv:=@List.pairwise_cons
abbrev Sw:=@Nat.lt_or_ge
abbrev Sy:=@Array.getElem?_eq_none
abbrev Sz:=@List.length_map
abbrev SA:=@List.getElem?_map
abbrev SB:=@List.length_cons
abbrev SC:=@List.getElem?_eq_getElem
abbrev SD:=@Nat.lt_trichotomy
abbrev SE:=@Option.getD_some
abbrev SF:=@List.getElem?_eq_none
abbrev SG:=@Bool.and_eq_true
abbrev SH:=@List.all_eq_true
abbrev SI:=@if_pos
abbrev SJ:=@Nat.le_of_lt
abbrev SK:=@List.map_map
abbrev SL:=@List.map_congr_left
abbrev SM:=@List.mem_append_left
abbrev SN:=@List.mem_append_right
abbrev SP:=@true_and
abbrev SQ:=@Bool.or_eq_true
abbrev SR:=@Bool.not_eq_true'
abbrev SS:=@List.cons_append
abbrev SU:=@List.nil_append
abbrev SW:=@List.not_mem_nil
abbrev SX:=@decide_eq_true_eq
abbrev SY:=@List.mem_filter
abbrev SZ:=@List.mem_map
abbrev S0:=@Array.getElem?_setIfInBounds
abbrev S1:=@List.getElem?_append_left
abbrev S2:=@List.getElem?_append_right
abbrev S3:=@Prod.mk.injEq
abbrev S4:=@List.length_singleton
abbrev S5:=@List.drop_eq_getElem_cons
abbrev S6:=@Nat.zero_le
abbrev S7:=@List.take_succ_eq_append_getElem
abbrev S8:=@Nat.min_eq_left
abbrev S9:=@List.length_nil
abbrev Ta:=@Nat.add_mul
abbrev Tb:=@Nat.mul_le_mul_right
abbrev Tc:=@List.take_append_of_le_length
abbrev Td:=@List.take_length
abbrev Te:=@List.append_assoc
abbrev Tf:=@List.map_cons
abbrev Tg:=@List.mem_of_getElem?
abbrev Th:=@List.pairwise_singleton
abbrev Ti:=@List.mem_append
abbrev Tj:=@List.getElem?_set
abbrev Tk:=@Option.some.inj
abbrev Tl:=@List.length_set
abbrev Tm:=@List.drop_zero
abbrev Tn:=@List.drop_drop
abbrev To:=@List.take_take
abbrev Tp:=@Bool.false_eq_true
abbrev Tq:=@List.append_nil
abbrev Ts:=@List.getD_cons_zero
abbrev Tt:=@List.getD_cons_succ
abbrev Tu:=@List.length_append
abbrev Tv:=@Nat.lt_succ_self
abbrev Tw:=@List.idxOf_lt_length_of_mem
abbrev Tx:=@Nat.add_sub_cancel
abbrev Ty:=@Nat.pow_succ
abbrev Tz:=@Nat.pow_le_pow_right
abbrev TA:=@List.mem_of_mem_take
abbrev TB:=@List.flatMap_cons
abbrev TC:=@List.getElem?_cons_zero
abbrev TD:=@List.getElem?_cons_succ
abbrev TE:=@Nat.one_mul
abbrev TF:=@List.flatMap_append
abbrev TG:=@of_decide_eq_true
abbrev TH:=@Int.emod_eq_of_lt
abbrev TI:=@Nat.eq_zero_or_pos
abbrev TJ:=@Int.cast_ofNat_Int
abbrev TK:=@decide_eq_false_iff_not
abbrev TL:=@List.take_append_drop
abbrev TM:=@Nat.lt_of_le_of_lt
abbrev TN:=@Nat.and_le_left
abbrev TO:=@Nat.shiftRight_eq_div_pow
abbrev TP:=@Int.natCast_nonneg
abbrev TQ:=@Nat.testBit_and
abbrev TR:=@Bool.and_true
abbrev TS:=@Bool.false_or
abbrev TT:=@List.drop_succ_cons
abbrev TU:=@List.filter_cons
abbrev TV:=@List.take_zero
abbrev TW:=@List.take_succ_cons
abbrev TX:=@List.cons.injEq
abbrev TY:=@and_true
abbrev TZ:=@List.length_drop
abbrev T0:=@Nat.sub_mul
abbrev T1:=@List.length_take
abbrev T3:=@List.take_of_length_le
abbrev T4:=@List.drop_length
abbrev T5:=@Option.bind_eq_bind
abbrev T6:=@Option.bind_eq_some_iff
abbrev T7:=@Bool.not_false
abbrev T8:=@List.tail_cons
abbrev T9:=@List.foldl_append
abbrev Ua:=@of_decide_eq_false
abbrev Ub:=@List.length_range
abbrev Uc:=@List.map_append
abbrev Ud:=@Bool.not_true
abbrev Ue:=@List.set_cons_zero
abbrev Uf:=@beq_eq_false_iff_ne
abbrev Ug:=@decide_eq_false
abbrev Uh:=@decide_eq_true
theorem Z5{a b:Nat}(h:a<b):decide ((a:Int)<(b:Int))=true:=decide_eq_true (by omega)
theorem Z6(a:Nat):decide ((a:Int)<(a:Int))=false:=by simp
set_option maxHeartbeats 8000000
set_option linter.all false
theorem Vi{P:Prop}(h:P:=by omega):P:=h
theorem Vm{P:Prop}(h:P:=by decide):P:=h
theorem V9{P:Prop}(h:P:=by simp only;omega):P:=h
namespace Go.Sx
open Go
abbrev PH:=Nat->Option Obj
def Sub(H:PH)(w:World):Prop:=∀b o,H b=some o->w.heap[b]?=some o
def PH.le(H H2:PH):Prop:=∀b o,H b=some o->H2 b=some o
def PH.emp:PH:=fun _=>none
theorem PH.le_refl(H:PH):H.le H:=fun _ _ h=>h
abbrev Uj:=@PH.le_refl
theorem PH.le_trans{A B C:PH}(h:A.le B)(k:B.le C):A.le C:=fun b o x=>k b o (h b o x)
abbrev Ui:=@PH.le_trans
theorem Sub.of_le{H H2:PH}{w:World}(s:Sub H2 w)(h:H.le H2):Sub H w:=fun b o x=>s b o (h b o x)
structure cS(H:PH)(w:World)(H2:PH)(w2:World):Prop where
 sub:Sub H2 w2
 size:w.heap.size<=w2.heap.size
 priv:∀b,b<w.heap.size->H b=none->w2.heap[b]?=w.heap[b]?
 dom:∀b,b<w.heap.size->H b=none->H2 b=none
 os:w2.os=w.os
 tape:w2.tape=w.tape
 out:w2.output=w.output
theorem cS.refl{H:PH}{w:World}(s:Sub H w):cS H w H w:=⟨s,R7 _,fun _ _ _=>rfl,fun _ _ h=>h,rfl,rfl,rfl⟩
theorem cS.trans{H H2 H3:PH}{w w2 w3:World}(a:cS H w H2 w2)(b:cS H2 w2 H3 w3):cS H w H3 w3 where
 sub:=b.sub
 size:=R8 a.size b.size
 priv:=fun k hk hn=>by rw[b.priv k (Nat.lt_of_lt_of_le hk a.size) (a.dom k hk hn),a.priv k hk hn]
 dom:=fun k hk hn=>b.dom k (Nat.lt_of_lt_of_le hk a.size) (a.dom k hk hn)
 os:=b.os.trans a.os
 tape:=b.tape.trans a.tape
 out:=b.out.trans a.out
def bv(P:Program)(f:FuncId)(args:Array Value)(H:PH)(Φ:Value->PH->Prop):Prop:=
 ∀w,Sub H w->Calls P f args w fun e w2=>match e with
  | .returned v=>∃H2,cS H w H2 w2/\Φ v H2
  |_=>False
theorem bv.mono{P:Program}{f:FuncId}{args:Array Value}{H:PH}{Φ Ψ:Value->PH->Prop}(h:bv P f args H Φ)(k:∀v H2,Φ v H2->Ψ v H2):bv P f args H Ψ:=
 fun w s=>(h w s).mono fun e w2 he=>by
  cases e with
  |returned v=>obtain⟨H2,a,b⟩:=he;exact⟨H2,a,k _ _ b⟩
  |outgrown=>exact he
  |panicked c=>exact he
inductive SV where
 |v (x:Value)
 |p (key off:Nat)
 |u
 deriving Inhabited
structure gF where
 key:Nat
 ty:TypeId
 cs:List Value
structure St where
 tm:List SV
 bx:List gF
def lV:List SV->Nat->SV
 | [],_=>.u
 |x::_,0=>x
 |_::l,n+1=>lV l n
def jm:List SV->Nat->SV->List SV
 | [],_,_=>[]
 |_::l,0,y=>y::l
 |x::l,n+1,y=>x::jm l n y
theorem dF(l:List SV)(n:Nat):lV l n=(l[n]?).getD .u:=by
 induction l generalizing n with
 |nil=>simp[lV]
 |cons x l ih=>cases n<;>simp[lV,ih]
theorem qt(l:List SV)(n:Nat)(y:SV):(jm l n y).length=l.length:=by
 induction l generalizing n with
 |nil=>rfl
 |cons x l ih=>cases n<;>simp[jm,ih]
theorem eI(l:List SV)(n m:Nat)(y:SV):(jm l n y)[m]?=if n=m then (if n<l.length then some y else none)else l[m]?:=by
 induction l generalizing n m with
 |nil=>simp[jm]
 |cons x l ih=>
  cases n with
  |zero=>cases m<;>simp[jm]
  |succ n=>cases m<;>simp[jm,ih]
def dq:List gF->Nat->Option gF
 | [],_=>none
 |b::l,k=>if b.key=k then some b else dq l k
def cU:List gF->Nat->List gF
 | [],_=>[]
 |b::l,k=>if b.key=k then cU l k else b::cU l k
def ft(x:gF):List gF->List gF
 | []=>[x]
 |b::l=>if b.key<x.key then b::ft x l else x::b::l
def iG(k:Nat):SV->SV
 | .p k' off=>if k'=k then .u else .p k' off
 |x=>x
def St.put(σ:St)(d:Option Nat)(y:SV):St:=
 match d with
 |some d=>{ σ with tm:=jm σ.tm d y }
 |none=>σ
def St.newBox(σ:St)(d:Nat)(T:TypeId)(cs:List Value):St:=
 { tm:=jm (σ.tm.map (iG d)) d (.p d 0),bx:=ft ⟨d,T,cs⟩ (cU σ.bx d) }
def be:List Value->Nat->List Value->List Value
 |l,_,[]=>l
 |l,n,c::cs=>be (l.set n c) (n+1) cs
def nv:List gF->Nat->Nat->List Value->List gF
 | [],_,_,_=>[]
 |b::l,k,off,cs=>if b.key=k then { b with cs:=be b.cs off cs }::l else b::nv l k off cs
def St.store(σ:St)(k off:Nat)(cs:List Value):St:={ σ with bx:=nv σ.bx k off cs }
def ev(σ:St):Operand->SV
 | .tmp t=>lV σ.tm t
 | .const v=>.v v
 | .global g=>.v (.pointer (some ⟨g,0,none⟩))
 | .func f=>.v (.func (.func f) #[] #[])
def b9(β:Nat->Nat):SV->Value->Prop
 | .v x,y=>y=x
 | .p k off,y=>y=.pointer (some ⟨β k,off,none⟩)
 | .u,_=>True
structure GB(n0:Nat)(β:Nat->Nat)(σ:St)(H:PH)(a:Act)(w:World):Prop where
 defers:a.defers=[]
 size:a.tmps.size=σ.tm.length
 tm:∀t sv,σ.tm[t]?=some sv->b9 β sv (a.tmps.getD t undef)
 bx:∀B∈σ.bx,w.heap[β B.key]?=some (.cells B.cs.toArray B.ty (0,0))/\H (β B.key)=none
 inj:∀B∈σ.bx,∀B'∈σ.bx,β B.key=β B'.key->B.key=B'.key
 lo:∀B∈σ.bx,n0<=β B.key
 keys:σ.bx.Pairwise (fun x y=>x.key≠y.key)
def G(n0:Nat)(σ:St)(H:PH)(a:Act)(w:World):Prop:=∃β,GB n0 β σ H a w
theorem GB.ev{n0:Nat}{β:Nat->Nat}{σ:St}{H:PH}{a:Act}{w:World}(g:GB n0 β σ H a w)(x:Operand):b9 β (Sx.ev σ x) (a.eval x):=by
 cases x with
 |tmp t=>
  simp only[Sx.ev,Act.eval,dF];cases h:σ.tm[t]? with
  |none=>simp[b9]
  |some sv=>simpa using g.tm t sv h
 |const v=>rfl
 |global n=>rfl
 |func n=>rfl
theorem mP{l:List gF}{k:Nat}{B:gF}(h:dq l k=some B):B∈l/\B.key=k:=by
 induction l with
 |nil=>simp[dq]at h
 |cons b l ih=>
  simp only[dq]at h;split at h
  ·cases h;exact⟨.head _,by assumption⟩
  ·obtain⟨h1,h2⟩:=ih h;exact⟨.tail _ h1,h2⟩
theorem GB.put{n0:Nat}{β:Nat->Nat}{σ:St}{H:PH}{a:Act}{w:World}(g:GB n0 β σ H a w)(d:Option Nat){sv:SV}{y:Value}(h:b9 β sv y):GB n0 β (σ.put d sv) H (a.put d y) w:=by
 cases d with
 |none=>exact g
 |some d=>
  refine⟨g.defers,?_,?_,g.bx,g.inj,g.lo,g.keys⟩
  ·simp[Act.put,St.put,qt,g.size]
  ·intro t x hx;simp only[St.put,eI]at hx;have aa:=g.size;by_cases e:d=t
   ·subst e;simp only[R9]at hx;split at hx
    ·cases hx
     rename_i hl;simp only[Act.put,Sa];rw[Array.getElem?_setIfInBounds_self_of_lt Vi];simpa using h
    ·cases hx
   ·simp only[Sb e]at hx;have:=g.tm t x hx;simpa[Act.put,Sa,Array.getElem?_setIfInBounds_ne e]using this
theorem uO{β:Nat->Nat}{y:Value}:b9 β .u y:=trivial
def aV(P:Program)(T:TypeId):Option (Option Nat):=
 match P.underlying T,P.info? T with
 |some (.struct _),some i=>some (some i.size)
 |some (.array _ _),some i=>some (some i.size)
 |some _,some i=>if i.size=1 then some none else none
 |_,_=>none
def aI(P:Program)(T:TypeId):Option Value:=(P.info? T).bind (·.zero)
def aA(P:Program)(T:TypeId)(f:Nat):Option (Nat×TypeId):=
 match P.underlying T with
 |some (.struct fs)=>match fs[f]? with
  |some g=>match P.info? g.type with
   |some i=>if i.size=0 then none else some (g.offset,g.type)
   |none=>none
  |none=>none
 |_=>none
inductive EB where
 |arr (len size:Nat)
 |sl (size:Nat)
 |none
def bF(P:Program)(T:TypeId):EB:=
 match P.underlying T with
 |some (.array n e)=>match P.info? e with|some i=>.arr n i.size|Option.none=>.none
 |some (.slice e)=>match P.info? e with|some i=>.sl i.size|Option.none=>.none
 |_=>.none
def one:Value->Bool
 | .agg _=>false
 | .tuple _=>false
 |_=>true
def iB:Value->Option (List Value)
 | .agg cs=>if cs.toList.all one then some cs.toList else none
 | .tuple _=>none
 |v=>some [v]
theorem oD{v:Value}{l:List Value}(h:iB v=some l):v.cells.toList=l/\∀c∈l,one c=true:=by
 cases v
 case agg cs=>
  simp only[iB]at h;split at h
  ·cases h;rename_i hh;exact⟨rfl,fun c hc=>List.all_eq_true.1 hh c hc⟩
  ·cases h
 case tuple cs=>cases h
 all_goals (simp only[iB,Sc]at h;subst h;simp[one,Value.cells])
def eD(P:Program)(T:TypeId)(cs:List Value)(off:Nat):Option Value:=
 match aV P T with
 |some (some n)=>if off+n<=cs.length then some (.agg ((cs.drop off).take n).toArray)else none
 |some none=>cs[off]?
 |none=>none
theorem run_loadCellsFrom{P:Program}{w:World}(a:Addr)(n i:Nat)(acc:Array Value)(xs:List Value)(hx:xs.length=n)
  (h:∀j v,xs[j]?=some v->w.cell? (a.add (i+j))=some v) :
  (loadCellsFrom a i n acc).run P w=.ok (acc++xs.toArray) w:=by
 induction n generalizing i acc xs with
 |zero=>cases xs with
  |nil=>simp[loadCellsFrom]
  |cons=>simp at hx
 |succ n ih=>
  cases xs with
  |nil=>simp at hx
  |cons x xs=>
   have h0:=h 0 x (by simp);rw[Sd]at h0;simp only[loadCellsFrom,load,bind,Sem.bind,Sem.run,h0];have:=ih (i+1) (acc.push x) xs (by simpa using hx) (fun j v hj=>by
    have:=h (j+1) v (by simpa using hj)
    rwa [show i+1+j=i+(j+1) from by omega])
   rw[this];simp
theorem uZ{P:Program}{w:World}{T:TypeId}{d:TypeDesc}(h:P.underlying T=some d):
  (isAgg T).run P w=.ok (match d with | .struct _ | .array _ _=>true|_=>false) w:=by
 simp only[isAgg,underlying,program,bind,Sem.bind,Sem.run,h,pure];cases d<;>simp[Sem.run]
theorem eT(b off n:Nat):(Addr.mk b off none).add n=⟨b,off+n,none⟩:=by
 unfold Addr.add;split<;>simp_all
theorem oW{w:World}{b:Nat}{cs:List Value}{T:TypeId}{fz:Nat×Nat}(h:w.heap[b]?=some (.cells cs.toArray T fz))(i:Nat):w.cell? ⟨b,i,none⟩=cs[i]?:=by
 simp[World.cell?,h]
theorem lR {P : Program} {w : World} {T : TypeId} {b off : Nat} {cs : List Value} {ty : TypeId} {v : Value} {fz : Nat × Nat}
    (hb : w.heap[b]? = some (.cells cs.toArray ty fz)) (h : eD P T cs off = some v) :
    (loadVar T ⟨b, off, none⟩).run P w = .ok v w := by
  unfold eD aV at h
  have aggCase : ∀ (n : Nat) (i : TypeInfo), P.info? T = some i → i.size = n → (isAgg T).run P w = .ok true w → off + n ≤ cs.length →
      (loadVar T ⟨b, off, none⟩).run P w = .ok (.agg ((cs.drop off).take n).toArray) w := by
    intro n i hi hn aa ac
    simp only [loadVar, Se, aa, Result.andThen, R9, sizeOf, typeInfo, program, loadCells, Sem.run, hi]
    simp only [pure, Sem.run, hn]
    have := run_loadCellsFrom (P := P) (w := w) ⟨b, off, none⟩ n 0 #[] ((cs.drop off).take n) (by simp; omega) (fun j v hj => by
      rw [eT, oW hb, Sf]
      rw [Sg] at hj
      split at hj
      · rw [Sh] at hj; exact hj
      · cases hj)
    rw [this]; simp
  cases hu : P.underlying T with
  | none => rw [hu] at h; simp at h
  | some d =>
    rw [hu] at h
    cases hi : P.info? T with
    | none => rw [hi] at h; cases d <;> simp at h
    | some i =>
      rw [hi] at h
      have aa := uZ (P := P) (w := w) hu
      have one : (isAgg T).run P w = .ok false w → cs[off]? = some v → (loadVar T ⟨b, off, none⟩).run P w = .ok v w := by
        intro h1 h2
        simp only [loadVar, Se, h1, Result.andThen, load]
        simp [Sem.run, oW hb, h2]
      cases d <;> simp only at h aa <;>
        first
        | (split at h
           · rename_i ac; cases h; exact aggCase i.size i hi rfl aa ac
           · cases h)
        | (by_cases h1 : i.size = 1
           · simp only [h1, R9] at h; exact one aa h
           · simp only [h1, Si] at h; cases h)
def qN(k:IntKind)(a b:Int):Int:=k.wrap (BitVec.ofInt k.bits a&&&BitVec.ofInt k.bits b).toNat
def Py(k:IntKind)(a b:Int):Int:=k.wrap (BitVec.ofInt k.bits a|||BitVec.ofInt k.bits b).toNat
def xH(k:IntKind)(a b:Int):Int:=k.wrap (BitVec.ofInt k.bits a ^^^ BitVec.ofInt k.bits b).toNat
def zU(k:IntKind)(a b:Int):Int:=k.wrap (a*2^(min b.toNat k.bits))
def qj(k:IntKind)(a b:Int):Int:=a.fdiv (2^(min b.toNat k.bits))
def HD(op:BinOp)(x y:Value):Option Value:=
 match x,y with
 | .int k a,.int k' b=>
  match op with
  | .shl=>if 0<=b then some (.int k (zU k a b))else none
  | .shr=>if 0<=b then some (.int k (qj k a b))else none
  | .add=>if k=k' then some (.int k (k.wrap (a+b)))else none
  | .sub=>if k=k' then some (.int k (k.wrap (a-b)))else none
  | .mul=>if k=k' then some (.int k (k.wrap (a*b)))else none
  | .quo=>if k=k' then (if b=0 then none else some (.int k (k.wrap (a.tdiv b))))else none
  | .rem=>if k=k' then (if b=0 then none else some (.int k (a.tmod b)))else none
  | .and=>if k=k' then some (.int k (qN k a b))else none
  | .or=>if k=k' then some (.int k (Py k a b))else none
  | .xor=>if k=k' then some (.int k (xH k a b))else none
  | .eql=>if k=k' then some (.bool (a == b))else none
  | .neq=>if k=k' then some (.bool (a != b))else none
  | .lss=>if k=k' then some (.bool (a<b))else none
  | .leq=>if k=k' then some (.bool (a<=b))else none
  | .gtr=>if k=k' then some (.bool (a>b))else none
  | .geq=>if k=k' then some (.bool (a>=b))else none
  |_=>none
 | .string a,.string b=>
  match op with
  | .eql=>some (.bool (a.toList == b.toList))
  | .neq=>some (.bool (!(a.toList == b.toList)))
  | .lss=>some (.bool (Op.bytesLess a.toList b.toList))
  | .leq=>some (.bool (Op.bytesLess a.toList b.toList || a.toList == b.toList))
  | .gtr=>some (.bool (!(Op.bytesLess a.toList b.toList || a.toList == b.toList)))
  | .geq=>some (.bool (!(Op.bytesLess a.toList b.toList)))
  |_=>none
 |_,_=>none
theorem EE {P : Program} {w : World} {op : BinOp} {T : TypeId} {x y v : Value} {ox oy : Operand} (h : HD op x y = some v) :
    (do eqGuard op T ox oy x y; binOp op T x y : Sem Value).run P w = .ok v w := by
  unfold HD at h
  split at h
  · rename_i k a k' b
    cases op <;> simp only at h <;> first
      | (cases h; done)
      | (split at h
         · rename_i hk
           first
             | (split at h
                · cases h
                · rename_i hb
                  cases h
                  subst hk
                  simp [eqGuard, binOp, Op.intDiv, Sem.run, pure, hb])
             | cases h
           try first
             | (subst hk; simp [eqGuard, binOp, Op.intArith, Op.intBits, Op.intCmp, Sem.run, pure, qN, Py, xH])
             | (simp [eqGuard, binOp, Op.shift, Sem.run, pure, Int.not_lt.2 hk, zU, qj])
         · cases h)
  · cases op <;> simp only [Sc] at h <;> first
      | (cases h; done)
      | (subst h; simp [eqGuard, binOp, Op.stringOp, Sem.run, pure])
  · cases h
def BG(k:IntKind):Int:=if k.signed then -1 else k.max
def Po(op:UnOp)(x:Value):Option Value:=
 match op,x with
 | .not,.bool b=>some (.bool !b)
 | .neg,.int k n=>some (.int k (k.wrap (0-n)))
 | .xor,.int k n=>some (.int k (xH k (BG k) n))
 |_,_=>none
theorem Jd{P:Program}{w:World}{op:UnOp}{x v:Value}(h:Po op x=some v):(Op.unary op x).run P w=.ok v w:=by
 unfold Po at h;split at h<;>cases h<;>simp[Op.unary,Op.intArith,Op.intBits,xH,BG,pure]
def bB(P:Program)(T:TypeId):Option Nat:=(P.info? T).map (·.size)
def xi(P:Program)(T:TypeId)(i:Nat):Option (Nat×Nat):=
 match aA P T i with
 |some (off,ty)=>(bB P ty).map fun s=>(off,s)
 |none=>none
def nj(place:Nat->Option (Nat×Nat))(cells:List Value):List (Nat×Value)->Option (List Value)
 | []=>some cells
 |(i,v)::rest=>
  match place i with
  |none=>none
  |some (off,size)=>if v.cells.toList.length=size/\off+size<=cells.length then nj place (be cells off v.cells.toList) rest else none
theorem aJ(l:List Value)(off:Nat)(cs:List Value):(be l off cs).length=l.length:=by
 induction cs generalizing l off with
 |nil=>rfl
 |cons c cs ih=>simp[be,ih]
theorem Dv(cells:Array Value)(off j:Nat)(cs:List Value):
  ((cs.zipIdx j).foldl (fun(a:Array Value) (x:Value×Nat)=>a.setIfInBounds (off+x.2) x.1) cells).toList=be cells.toList (off+j) cs:=by
 induction cs generalizing cells j with
 |nil=>rfl
 |cons c cs ih=>
  simp only[List.zipIdx_cons,Sj,be];rw[ih];simp[Nat.add_assoc]
theorem wF{place pl':Nat->Option (Nat×Nat)}{cells:Array Value}{parts:List (Nat×Value)}{r:List Value}
  (hp:∀i x,place i=some x->pl' i=some x) (h:nj place cells.toList parts=some r) :
  Instr.fill pl' cells parts=some r.toArray:=by
 induction parts generalizing cells with
 |nil=>simp only[nj,Sc]at h;subst h;simp[Instr.fill]
 |cons x rest ih=>
  obtain⟨i,v⟩:=x;simp only[nj]at h;split at h
  ·cases h
  ·rename_i off size aa;split at h
   ·rename_i hc;obtain⟨h1,h2⟩:=hc;simp only[Sk]at h1 h2;simp only[Instr.fill,hp _ _ aa];rw[Sb (by simp[h1];omega)];apply ih;rw[<-h,<-Array.foldl_toList];congr 1;have:=Dv cells off 0 v.cells.toList;simpa using this
   ·cases h
theorem ut{P:Program}{w:World}{α β:Type}(f:α->Sem β)(g:α->β)(l:List α)(h:∀x∈l,(f x).run P w=.ok (g x) w):
  (l.mapM f).run P w=.ok (l.map g) w:=by
 induction l with
 |nil=>simp
 |cons x l ih=>
  simp only[List.mapM_cons,Se,h x (.head _),Result.andThen,ih fun y hy=>h y (.tail _ hy)];simp
def gD(P:Program)(T:TypeId):Bool:=
 match P.underlying T with
 |some (.struct fs)=>fs.toList.all fun f=>(P.info? f.type).isSome
 |_=>false
def we(P:Program)(T:TypeId)(parts:List (Nat×Value)):Option Value:=
 match aI P T with
 |none=>none
 |some z=>
  match bF P T with
  | .arr _ size=>(nj (fun i=>some (i*size,size)) z.cells.toList parts).map fun l=>.agg l.toArray
  |_=>if gD P T then (nj (xi P T) z.cells.toList parts).map fun l=>.agg l.toArray else none
theorem run_build{P:Program}{w:World}{T:TypeId}{parts:Array (Nat×Value)}{v:Value}(h:we P T parts.toList=some v):
  (Instr.build T parts).run P w=.ok v w:=by
 unfold we at h;cases hz:aI P T with
 |none=>rw[hz]at h;cases h
 |some z=>
  rw[hz]at h;simp only at h;unfold aI at hz;cases hi:P.info? T with
  |none=>rw[hi]at hz;cases hz
  |some i=>
   rw[hi]at hz;simp only[Sm]at hz;have zv:(zeroValue T).run P w=.ok z w:=by simp[zeroValue,typeInfo,program,Sem.run,hi,hz]
   unfold bF at h;cases hu:P.underlying T with
   |none=>rw[hu]at h;simp[gD,hu]at h
   |some d=>
    rw[hu]at h;have und:(underlying T).run P w=.ok d w:=by simp[underlying,program,Sem.run,hu]
    cases d<;>simp only at h<;>try (simp[gD,hu]at h;done)
    case slice e=>cases he:P.info? e<;>simp[he,gD,hu]at h
    case array n e=>
     cases he:P.info? e with
     |none=>rw[he]at h;simp[gD,hu]at h
     |some ie=>
      rw[he]at h;simp only[Sn]at h;obtain⟨l,hl,rfl⟩:=h;have sz:(sizeOf e).run P w=.ok ie.size w:=by simp[sizeOf,typeInfo,program,Sem.run,he]
      have hf:=wF (pl':=fun i=>some (i*ie.size,ie.size)) (cells:=z.cells) (fun i x hx=>hx) hl;simp only[Instr.build,Se,zv,Result.andThen,und,sz,hf];simp
    case struct fs=>
     split at h
     case isFalse=>cases h
     rename_i aj;simp only[Sn]at h;obtain⟨l,hl,rfl⟩:=h;simp only[gD,hu]at aj;have ac:∀f∈fs.toList,(P.info? f.type).isSome=true:=List.all_eq_true.1 aj;have hm:(fs.mapM fun f=>(do pure (f.offset,<-sizeOf f.type):Sem (Nat×Nat))).run P w=.ok (fs.map fun f=>(f.offset,((P.info? f.type).map (·.size)).getD 0)) w:=by
      rw[Array.mapM_eq_mapM_toList];simp only[Sem.run_map];rw[ut _ (fun f=>(f.offset,((P.info? f.type).map (·.size)).getD 0))]
      ·simp[Result.andThen,<-Array.toList_map]
      ·intro f hf;obtain⟨j,hj⟩:=Option.isSome_iff_exists.1 (ac f hf);simp[sizeOf,typeInfo,program,Sem.run,hj]
     have hf:=wF (pl':=fun i=>(fs.map fun f=>(f.offset,((P.info? f.type).map (·.size)).getD 0))[i]?) (cells:=z.cells) (fun i x hx=>by
      unfold xi at hx;split at hx
      case h_2=>cases hx
      rename_i off ty aa;unfold aA at aa;rw[hu]at aa;simp only at aa;cases ak:fs[i]? with
      |none=>rw[ak]at aa;cases aa
      |some g=>
       rw[ak]at aa;simp only at aa;cases hg:P.info? g.type with
       |none=>rw[hg]at aa;cases aa
       |some j=>
        rw[hg]at aa;simp only at aa;split at aa
        ·cases aa
        ·cases aa
         simp only[bB,hg,So,Sc]at hx;subst hx;simp[ak,hg]) hl
     simp only[Instr.build,Se,zv,Result.andThen,und,hm,hf];simp
def ji(ρ:Operand->SV):List Operand->Option (List Value)
 | []=>some []
 |x::l=>match ρ x,ji ρ l with
  | .v a,some r=>some (a::r)
  |_,_=>none
def kY(ρ:Operand->SV):List (Nat×Operand)->Option (List (Nat×Value))
 | []=>some []
 |(i,x)::l=>match ρ x,kY ρ l with
  | .v a,some r=>some ((i,a)::r)
  |_,_=>none
inductive Kd where
 |int (k:IntKind)
 |str
 |sl
 |other
def aL(P:Program)(T:TypeId):Kd:=
 match P.underlying T with
 |some (.int k)=>.int k
 |some .string=>.str
 |some (.slice _)=>.sl
 |_=>.other
def Ji(P:Program)(T:TypeId)(x:Value):Option Value:=
 match aL P T,x with
 | .sl,.slice _ n _=>some (.int .i64 n)
 | .str,.string s=>some (.int .i64 s.size)
 |_,_=>none
def HC(P:Program)(T:TypeId)(x:Value):Option Value:=
 match aL P T,x with
 | .sl,.slice _ _ n=>some (.int .i64 n)
 |_,_=>none
def Af(x y:Value):Option Value:=
 match x,y with
 | .int k a,.int _ b=>some (.int k (if b<a then b else a))
 |_,_=>none
def Ii(x y:Value):Option Value:=
 match x,y with
 | .int k a,.int _ b=>some (.int k (if a<b then b else a))
 |_,_=>none
def Cq(P:Program)(T:TypeId)(x:Value):Option Value:=
 match aL P T,x with
 | .int k,.int _ n=>some (.int k (k.wrap n))
 |_,_=>none
def bO(P:Program)(T:TypeId):Bool:=(P.underlying T).isSome
def t8(P:Program)(bx:List gF)(T:TypeId):SV->Option (Prop×SV)
 | .p k off=>match dq bx k with
  |some B=>match eD P T B.cs off with
   |some v=>some (True,.v v)
   |none=>none
  |none=>none
 |_=>none
def IQ(n:Nat):SV->Option (Prop×SV)
 | .p k off=>some (True,.p k (off+n))
 | .v (.pointer (some ⟨b,off,none⟩))=>some (True,.v (.pointer (some ⟨b,off+n,none⟩)))
 |_=>none
def Cg:SV->Option (Prop×SV)
 | .p k off=>some (True,.p k off)
 | .v (.pointer (some a))=>some (True,.v (.pointer (some a)))
 |_=>none
def G7(e:EB)(x i:SV):Option (Prop×SV):=
 match e,x,i with
 | .arr len size,.p k off,.v (.int _ n)=>some (0<=n/\n<len,.p k (off+n.toNat*size))
 | .arr len size,.v (.pointer (some ⟨b,off,none⟩)),.v (.int _ n)=>some (0<=n/\n<len,.v (.pointer (some ⟨b,off+n.toNat*size,none⟩)))
 | .sl size,.v (.slice (some ⟨b,off,none⟩) len _),.v (.int _ n)=>some (0<=n/\n<len,.v (.pointer (some ⟨b,off+n.toNat*size,none⟩)))
 |_,_,_=>none
def wC(s:ByteArray)(n:Nat):Nat:=(s.data.toList.getD n 0).toNat
def rQ(k:Kd)(x i:SV):Option (Prop×SV):=
 match k,x,i with
 | .str,.v (.string s),.v (.int _ n)=>some (0<=n/\n<s.size,.v (.int .u8 (wC s n.toNat)))
 |_,_,_=>none
def Et(x:Option Value):Option (Prop×SV):=
 match x with
 |some v=>some (True,.v v)
 |none=>none
def lu(P:Program)(ρ:Operand->SV)(c:Call):Option (Prop×SV):=
 match c.callee,c.args.toList,c.argTypes.toList with
 | .builtin .len,[x],[t]=>match ρ x with | .v a=>Et (Ji P t a)|_=>none
 | .builtin .cap,[x],[t]=>match ρ x with | .v a=>Et (HC P t a)|_=>none
 | .builtin .min,[x,y],_=>match ρ x,ρ y with | .v a,.v b=>Et (Af a b)|_,_=>none
 | .builtin .max,[x,y],_=>match ρ x,ρ y with | .v a,.v b=>Et (Ii a b)|_,_=>none
 |_,_,_=>none
def oz(a:Option Addr)(size l cap:Nat):Option Addr:=if cap=l then a else a.map (·.add (l*size))
def mq(n:Nat):Option SV->Option Int
 |none=>some n
 |some (.v (.int _ i))=>some i
 |_=>none
def jG(k:Kd)(e:EB)(x:SV)(lo hi:Option SV):Option (Prop×SV):=
 match k,e,x with
 | .sl,.sl size,.v (.slice a len cap)=>match mq 0 lo,mq len hi,hi with
  |some l,some h,some _=>some ((0<=l/\l<=h)/\h<=cap,.v (.slice (oz a size l.toNat cap) (h.toNat-l.toNat) (cap-l.toNat)))
  |some l,some h,none=>some (0<=l/\l<=h,.v (.slice (oz a size l.toNat cap) (h.toNat-l.toNat) (cap-l.toNat)))
  |_,_,_=>none
 | .str,_,.v (.string s)=>match mq 0 lo,mq s.size hi with
  |some l,some h=>some ((0<=l/\l<=h)/\h<=s.size,.v (.string (s.extract l.toNat h.toNat)))
  |_,_=>none
 |_,_,_=>none
def pv(P:Program)(bx:List gF)(ρ:Operand->SV)(op:Op):Option (Prop×SV):=
 match op with
 | .move x | .assign x=>match ρ x with | .u=>none|sv=>some (True,sv)
 | .pick c x y=>match ρ c with | .v (.bool b)=>some (True,if b then ρ x else ρ y)|_=>none
 | .load T x=>t8 P bx T (ρ x)
 | .fieldAddr T x f=>match aA P T f with|some (n,_)=>IQ n (ρ x)|none=>none
 | .nilCheck x=>Cg (ρ x)
 | .indexAddr T x i=>G7 (bF P T) (ρ x) (ρ i)
 | .index T x i=>rQ (aL P T) (ρ x) (ρ i)
 | .field T x f=>match aA P T f,ρ x with|some (n,ty),.v (.agg cs)=>Et (eD P ty cs.toList n)|_,_=>none
 | .extract x n=>match ρ x with | .v (.tuple vs)=>Et vs.toList[n]?|_=>none
 | .build T ps=>match kY ρ ps.toList with|some l=>Et (we P T l)|none=>none
 | .binOp op _ x y _=>match ρ x,ρ y with | .v a,.v b=>Et (HD op a b)|_,_=>none
 | .unOp op _ x=>match ρ x with | .v a=>Et (Po op a)|_=>none
 | .convert s d x=>match bO P s,ρ x with|true,.v a=>Et (Cq P d a)|_,_=>none
 | .makeFunc fn f c=>match ji ρ f.toList,ji ρ c.toList with|some l,some m=>some (True,.v (.func fn l.toArray m.toArray))|_,_=>none
 | .call c=>lu P ρ c
 | .slice T x lo hi none=>jG (aL P T) (bF P T) (ρ x) (lo.map ρ) (hi.map ρ)
 |_=>none
theorem cW{x:Option Value}{φ:Prop}{sv:SV}(h:Et x=some (φ,sv)):∃v,x=some v/\sv=.v v:=by
 cases x with
 |none=>cases h
 |some v=>cases h;exact⟨v,rfl,rfl⟩
theorem nW{n0:Nat}{β:Nat->Nat}{σ:St}{H:PH}{a:Act}{w:World}(g:GB n0 β σ H a w):∀(l:List Operand) (r:List Value),ji (ev σ) l=some r->l.map a.eval=r
 | [],r,h=>by cases h;rfl
 |x::l,r,h=>by
  simp only[ji]at h;split at h
  ·rename_i y r' hx hr;cases h
   have:=g.ev x;rw[hx]at this;simp only[b9]at this;simp[this,nW g l _ hr]
  ·cases h
theorem rT{n0:Nat}{β:Nat->Nat}{σ:St}{H:PH}{a:Act}{w:World}(g:GB n0 β σ H a w):∀(l:List (Nat×Operand)) (r:List (Nat×Value)),kY (ev σ) l=some r->l.map (fun x=>(x.1,a.eval x.2))=r
 | [],r,h=>by cases h;rfl
 |(i,x)::l,r,h=>by
  simp only[kY]at h;split at h
  ·rename_i y r' hx hr;cases h
   have:=g.ev x;rw[hx]at this;simp only[b9]at this;simp[this,rT g l _ hr]
  ·cases h
theorem qo{P:Program}{w:World}{T:TypeId}{f n:Nat}{ty:TypeId}(h:aA P T f=some (n,ty))(b off:Nat):
  (Instr.fieldAt T (.pointer (some ⟨b,off,none⟩)) f).run P w=.ok (.pointer (some ⟨b,off+n,none⟩)) w:=by
 unfold aA at h;split at h
 ·rename_i fs hu;split at h
  ·rename_i g hg;split at h
   ·rename_i i hi;split at h
    ·cases h
    ·rename_i hz;cases h
     have und:(underlying T).run P w=.ok (.struct fs) w:=by simp[underlying,program,Sem.run,hu]
     have sz:(sizeOf g.type).run P w=.ok i.size w:=by simp[sizeOf,typeInfo,program,Sem.run,hi]
     simp only[Instr.fieldAt,Se,und,Result.andThen,hg,Instr.sureAddr];simp[fieldPlace,Se,sz,Result.andThen,hz,eT]
   ·cases h
  ·cases h
 ·cases h
theorem gS {P : Program} {w : World} {T : TypeId} {cs : Array Value} {n : Nat} {v : Value} (h : eD P T cs.toList n = some v) : (part T cs n).run P w = .ok v w := by
  unfold eD aV at h
  cases hu : P.underlying T with
  | none => rw [hu] at h; simp at h
  | some d =>
    rw [hu] at h
    cases hi : P.info? T with
    | none => rw [hi] at h; cases d <;> simp at h
    | some i =>
      rw [hi] at h
      have aa := uZ (P := P) (w := w) hu
      have one : (isAgg T).run P w = .ok false w → cs[n]? = some v → (part T cs n).run P w = .ok v w := by
        intro h1 h2
        simp only [part, Se, h1, Result.andThen, h2]
        simp
      have agg : (isAgg T).run P w = .ok true w → (part T cs n).run P w = .ok (.agg ((cs.toList.drop n).take i.size).toArray) w := by
        intro h1
        have sz : (sizeOf T).run P w = .ok i.size w := by simp [sizeOf, typeInfo, program, Sem.run, hi]
        simp [part, h1, Result.andThen, sz]
        rw [← Sq]
        simp [List.extract_eq_take_drop]
      cases d <;> simp only at h aa <;>
        first
        | (split at h
           · cases h; exact agg aa
           · cases h)
        | (by_cases h1 : i.size = 1
           · simp only [h1, R9] at h; exact one aa (by simpa using h)
           · simp only [h1, Si] at h; cases h)
theorem bf{P:Program}{w:World}{T:TypeId}{d:TypeDesc}(h:P.underlying T=some d):(underlying T).run P w=.ok d w:=by
 simp[underlying,program,Sem.run,h]
theorem Li{P:Program}{w:World}{T:TypeId}{e:EB}(he:bF P T=e){β:Nat->Nat}{x i sv:SV}{φ:Prop}{vx vi:Value}
  (h:G7 e x i=some (φ,sv)) (hφ:φ) (hx:b9 β x vx) (hi:b9 β i vi) :
  ∃y,(Instr.indexAt T vx vi).run P w=.ok y w/\b9 β sv y:=by
 unfold bF at he;unfold G7 at h;split at h
 ·rename_i len size k off kk n;cases h
  simp only[b9]at hx hi;subst hx;subst hi;split at he
  ·rename_i n' e' hu;split at he
   ·rename_i ie aa;cases he
    have sz:(sizeOf e').run P w=.ok ie.size w:=by simp[sizeOf,typeInfo,program,Sem.run,aa]
    refine⟨_,?_,rfl⟩;simp only[Instr.indexAt,Se,asIntOf,bf hu];simp[Result.andThen,Instr.sureAddr,bf hu,hφ,sz,eT]
   ·cases he
  ·split at he<;>cases he
  ·cases he
 ·rename_i len size b off kk n;cases h
  simp only[b9]at hx hi;subst hx;subst hi;split at he
  ·rename_i n' e' hu;split at he
   ·rename_i ie aa;cases he
    have sz:(sizeOf e').run P w=.ok ie.size w:=by simp[sizeOf,typeInfo,program,Sem.run,aa]
    refine⟨_,?_,rfl⟩;simp only[Instr.indexAt,Se,asIntOf,bf hu];simp[Result.andThen,Instr.sureAddr,bf hu,hφ,sz,eT]
   ·cases he
  ·split at he<;>cases he
  ·cases he
 ·rename_i size b off len cap kk n;cases h
  simp only[b9]at hx hi;subst hx;subst hi;split at he
  ·split at he<;>cases he
  ·rename_i e' hu;split at he
   ·rename_i ie aa;cases he
    have sz:(sizeOf e').run P w=.ok ie.size w:=by simp[sizeOf,typeInfo,program,Sem.run,aa]
    refine⟨_,?_,rfl⟩;simp only[Instr.indexAt,Se,asIntOf,bf hu];simp[Result.andThen,bf hu,hφ,sz,eT]
   ·cases he
  ·cases he
 ·cases h
theorem io{n:Nat}{s:SV}{i:Int}(h:mq n (some s)=some i):∃k,s=.v (.int k i):=by
 cases s with
 |v x=>cases x<;>simp only[mq]at h<;>first|(cases h;done)|(cases h;exact⟨_,rfl⟩)
 |p k off=>simp[mq]at h
 |u=>simp[mq]at h
theorem fu{P:Program}{w:World}{k:IntKind}{i:Int}{y:Nat}{code:BoundsCode}(h0:0<=i)(hy:i<=y):(Instr.sliceBound (.int k i) y code).run P w=.ok i.toNat w:=by
 simp[Instr.sliceBound,asIntOf,Result.andThen,h0,hy]
theorem cC{n0:Nat}{β:Nat->Nat}{σ:St}{H:PH}{a:Act}{w:World}(g:GB n0 β σ H a w){x:Operand}{v:Value}(h:ev σ x=.v v):a.eval x=v:=by
 have:=g.ev x;rw[h]at this;exact this
theorem l8{ρ:Operand->Value}{xs:Array Operand}{l:List Value}(h:xs.toList.map ρ=l):xs.map ρ=l.toArray:=by
 rw[<-Sq];simpa using h
theorem Ft{P:Program}{w:World}{T τ:TypeId}{x v:Value}(h:Ji P T x=some v):(Builtin.len_ #[T] τ #[x]).run P w=.ok v w:=by
 unfold Ji at h;split at h
 ·rename_i hk;cases h
  unfold aL at hk;split at hk<;>cases hk;rename_i hu;simp[Builtin.len_,bf hu,Result.andThen,goInt]
 ·rename_i hk;cases h
  unfold aL at hk;split at hk<;>cases hk;rename_i hu;simp[Builtin.len_,bf hu,Result.andThen,goInt]
 ·cases h
theorem Fx{P:Program}{w:World}{T τ:TypeId}{x v:Value}(h:HC P T x=some v):(Builtin.cap_ #[T] τ #[x]).run P w=.ok v w:=by
 unfold HC at h;split at h
 ·rename_i hk;cases h
  unfold aL at hk;split at hk<;>cases hk;rename_i hu;simp[Builtin.cap_,bf hu,Result.andThen,goInt]
 ·cases h
theorem tY{P:Program}{w:World}{x y v:Value}(h:Af x y=some v):(Builtin.min2 x y).run P w=.ok v w:=by
 unfold Af at h;split at h
 ·cases h;simp[Builtin.min2]
 ·cases h
theorem GO{P:Program}{w:World}{x y v:Value}(h:Ii x y=some v):(Builtin.max2 x y).run P w=.ok v w:=by
 unfold Ii at h;split at h
 ·cases h;simp[Builtin.max2]
 ·cases h
theorem DR{P:Program}{w:World}{S T:TypeId}{x v:Value}(hs:∃d,P.underlying S=some d)(h:Cq P T x=some v):(convert S T x).run P w=.ok v w:=by
 obtain⟨ds,hs⟩:=hs;unfold Cq at h;split at h
 ·rename_i hk;cases h
  unfold aL at hk;split at hk<;>cases hk;rename_i hu;simp[convert,bf hu,bf hs,Result.andThen,Conv.intToInt]
 ·cases h
theorem xA{P:Program}{n0:Nat}{β:Nat->Nat}{σ:St}{H:PH}{a:Act}{w:World}(g:GB n0 β σ H a w){o:Oper}{c:Call}{φ:Prop}{sv:SV}(ho:o.op=.call c)
  (h:lu P (ev σ) c=some (φ,sv)):∃y,(execOp a.eval o).run P w=.ok (.value y) w/\b9 β sv y:=by
 obtain⟨callee,args,types⟩:=c;unfold lu at h;simp only at h;split at h
 ·rename_i x t ha ht;obtain rfl:args=#[x]:=by rw[<-Sq];simpa using ha
  obtain rfl:types=#[t]:=by rw[<-Sq];simpa using ht
  split at h
  ·rename_i v hv;obtain⟨r,hr,rfl⟩:=cW h;refine⟨r,?_,rfl⟩;simp[execOp,ho,resolve,cC g hv,invoke,builtin,Result.andThen,Ft hr]
  ·cases h
 ·rename_i x t ha ht;obtain rfl:args=#[x]:=by rw[<-Sq];simpa using ha
  obtain rfl:types=#[t]:=by rw[<-Sq];simpa using ht
  split at h
  ·rename_i v hv;obtain⟨r,hr,rfl⟩:=cW h;refine⟨r,?_,rfl⟩;simp[execOp,ho,resolve,cC g hv,invoke,builtin,Result.andThen,Fx hr]
  ·cases h
 ·rename_i x y ha;obtain rfl:args=#[x,y]:=by rw[<-Sq];simpa using ha
  split at h
  ·rename_i v v' hv aa;obtain⟨r,hr,rfl⟩:=cW h;refine⟨r,?_,rfl⟩;simp[execOp,ho,resolve,cC g hv,cC g aa,invoke,builtin,Builtin.min_,Result.andThen,tY hr]
  ·cases h
 ·rename_i x y ha;obtain rfl:args=#[x,y]:=by rw[<-Sq];simpa using ha
  split at h
  ·rename_i v v' hv aa;obtain⟨r,hr,rfl⟩:=cW h;refine⟨r,?_,rfl⟩;simp[execOp,ho,resolve,cC g hv,cC g aa,invoke,builtin,Builtin.max_,Result.andThen,GO hr]
  ·cases h
 ·cases h
theorem Fp{P:Program}{n0:Nat}{β:Nat->Nat}{σ:St}{H:PH}{a:Act}{w:World}(g:GB n0 β σ H a w){o:Oper}{φ:Prop}{sv:SV}
  (h:pv P σ.bx (ev σ) o.op=some (φ,sv)) (hφ:φ):∃y,(execOp a.eval o).run P w=.ok (.value y) w/\b9 β sv y:=by
 obtain⟨dst,op,type,pos,bh,guard⟩:=o;simp only at h;have mv:∀(x:Operand),(match ev σ x with | .u=>(none:Option (Prop×SV))|sv=>some (True,sv))=some (φ,sv)->b9 β sv (a.eval x):=by
  intro x hx;have:=g.ev x;cases he:ev σ x<;>rw[he]at hx this<;>cases hx<;>exact this
 cases op<;>simp only[pv]at h<;>try (cases h;done)
 case move x=>exact⟨a.eval x,by simp[execOp],mv x h⟩
 case assign x=>exact⟨a.eval x,by simp[execOp],mv x h⟩
 case pick c x y=>
  split at h
  ·rename_i b hb;cases h
   cases b
   ·exact⟨a.eval y,by simp[execOp,cC g hb,asBool],g.ev y⟩
   ·exact⟨a.eval x,by simp[execOp,cC g hb,asBool],g.ev x⟩
  ·cases h
 case load T x=>
  unfold t8 at h;split at h
  ·rename_i k off hx;split at h
   ·rename_i B hB;split at h
    ·rename_i v hv;cases h
     obtain⟨hm,rfl⟩:=mP hB;have ha:=g.ev x;rw[hx]at ha;simp only[b9]at ha;refine⟨v,?_,rfl⟩;have:=lR (P:=P) (w:=w) (off:=off) (g.bx B hm).1 hv;simp[execOp,ha,Instr.loadAt,Instr.sureAddr,this,Result.andThen]
    ·cases h
   ·cases h
  ·cases h
 case fieldAddr T x f=>
  split at h
  ·rename_i n ty hf;unfold IQ at h;split at h
   ·rename_i k off hx;cases h
    have ha:=g.ev x;rw[hx]at ha;simp only[b9]at ha;exact⟨_,by simp[execOp,ha,qo hf,Result.andThen],rfl⟩
   ·rename_i b off hx;cases h
    exact⟨_,by simp[execOp,cC g hx,qo hf,Result.andThen],rfl⟩
   ·cases h
  ·cases h
 case nilCheck x=>
  unfold Cg at h;split at h
  ·rename_i k off hx;cases h
   have ha:=g.ev x;rw[hx]at ha;simp only[b9]at ha;exact⟨_,by simp[execOp,ha],rfl⟩
  ·rename_i p hx;cases h
   exact⟨_,by simp[execOp,cC g hx],rfl⟩
  ·cases h
 case indexAddr T x i=>
  obtain⟨y,hy,hm⟩:=Li (P:=P) (w:=w) (T:=T) rfl h hφ (g.ev x) (g.ev i);exact⟨y,by simp[execOp,hy,Result.andThen],hm⟩
 case index T x i=>
  unfold rQ at h;split at h
  ·rename_i s k n hk hx hi;cases h
   unfold aL at hk;split at hk<;>cases hk;rename_i hu;refine⟨_,?_,rfl⟩;obtain⟨h0,h1⟩:=hφ;obtain⟨m,rfl⟩:=Int.eq_ofNat_of_zero_le h0;have hm:m<s.size:=by omega
   have hg:s[m]?=some s[m]:=by simp[hm]
   have hb:(s.data.toList.getD m 0)=s[m]:=by
    have:m<s.data.size:=hm;simp[Sr this];rfl
   simp only[execOp,Instr.index,Se,asIntOf,cC g hx,cC g hi,bf hu];simp[Result.andThen,hm,wC,hb];rfl
  ·cases h
 case field T x f=>
  split at h
  ·rename_i n ty cs hf hx;obtain⟨r,hr,rfl⟩:=cW h;refine⟨r,?_,rfl⟩;unfold aA at hf;split at hf
   ·rename_i fs hu;split at hf
    ·rename_i g' hg;split at hf
     ·split at hf
      ·cases hf
      ·cases hf
       simp[execOp,Instr.field,bf hu,Result.andThen,hg,cC g hx,asAgg,gS hr]
     ·cases hf
    ·cases hf
   ·cases hf
  ·cases h
 case extract x n=>
  split at h
  ·rename_i vs hx;obtain⟨r,hr,rfl⟩:=cW h;refine⟨r,?_,rfl⟩;have ao:vs[n]?=some r:=by simpa using hr
   simp[execOp,Instr.extract,cC g hx,ao,Result.andThen]
  ·cases h
 case build T ps=>
  split at h
  ·rename_i l hl;obtain⟨r,hr,rfl⟩:=cW h;refine⟨r,?_,rfl⟩;have hp:=rT g _ _ hl;have:(ps.map fun(i,x)=>(i,a.eval x))=l.toArray:=by rw[<-Sq];simpa using hp
   have hb:=run_build (P:=P) (w:=w) (T:=T) (parts:=l.toArray) (by simpa using hr);simp only[execOp,this,Se,hb];simp[Result.andThen]
  ·cases h
 case binOp op T x y T'=>
  split at h
  ·rename_i v v' hx hy;obtain⟨r,hr,rfl⟩:=cW h;refine⟨r,?_,rfl⟩;have:=EE (P:=P) (w:=w) (T:=T) (ox:=x) (oy:=y) hr;simp only[execOp,cC g hx,cC g hy,Se]at this |-;rw[this];simp[Result.andThen]
  ·cases h
 case unOp op T x=>
  split at h
  ·rename_i v hx;obtain⟨r,hr,rfl⟩:=cW h;exact⟨r,by simp[execOp,cC g hx,Jd hr,Result.andThen],rfl⟩
  ·cases h
 case convert s d x=>
  split at h
  ·rename_i v hs hx;obtain⟨r,hr,rfl⟩:=cW h;exact⟨r,by simp[execOp,cC g hx,DR (P:=P) (w:=w) (Option.isSome_iff_exists.1 hs) hr,Result.andThen],rfl⟩
  ·cases h
 case makeFunc fn f c=>
  split at h
  ·rename_i l m hl hm;cases h
   refine⟨_,?_,rfl⟩;simp[execOp,l8 (nW g _ _ hl),l8 (nW g _ _ hm),Instr.makeFunc,Result.andThen]
  ·cases h
 case slice T x lo hi mx=>
  cases mx with
  |some m=>cases h
  |none=>
   simp only at h;unfold jG at h;split at h
   ·rename_i size aa len cap hk he hx;unfold aL at hk;split at hk<;>cases hk;rename_i e hu;have am:(sizeOf e).run P w=.ok size w:=by
     unfold bF at he;rw[hu]at he;simp only at he;split at he
     ·rename_i ie aS;cases he;simp[sizeOf,typeInfo,program,Sem.run,aS]
     ·cases he
    have aj:=cC g hx;cases lo with
    |none=>
     cases hi with
     |none=>
      simp only[Ss,mq]at h;cases h
      exact⟨_,by simp[execOp,Instr.sliceAt,aj,bf hu,Instr.slice,Instr.sliceBounds,Result.andThen,am,oz],rfl⟩
     |some zh=>
      simp only[Ss,So]at h;split at h
      ·rename_i l hh ap hl ac hs;cases hs
       cases h
       obtain⟨k2,hz⟩:=io ac;simp only[mq,Sc]at hl;subst hl;have r1:=fu (P:=P) (w:=w) (k:=k2) (code:=.sliceAcap) (y:=cap) hφ.1.2 hφ.2;exact⟨_,by simp[execOp,Instr.sliceAt,aj,bf hu,Instr.slice,Instr.sliceBounds,Result.andThen,am,oz,cC g hz,r1],rfl⟩
      ·rename_i hs;cases hs
      ·cases h
    |some zl=>
     cases hi with
     |none=>
      simp only[Ss,So]at h;split at h
      ·rename_i hs;cases hs
      ·rename_i l hh hl ac _;cases h
       obtain⟨k2,hz⟩:=io hl;simp only[mq,Sc]at ac;subst ac;have r1:=fu (P:=P) (w:=w) (k:=k2) (code:=.sliceB) (y:=len) hφ.1 hφ.2;exact⟨_,by simp[execOp,Instr.sliceAt,aj,bf hu,Instr.slice,Instr.sliceBounds,Result.andThen,am,oz,cC g hz,r1],rfl⟩
      ·cases h
     |some zh=>
      simp only[So]at h;split at h
      ·rename_i l hh ap hl ac hs;cases hs
       cases h
       obtain⟨k1,ak⟩:=io hl;obtain⟨k2,an⟩:=io ac;have h0:=hφ.1.1;have h1:=hφ.1.2;have r1:=fu (P:=P) (w:=w) (k:=k2) (code:=.sliceAcap) (y:=cap) Vi hφ.2;have r2:=fu (P:=P) (w:=w) (k:=k1) (code:=.sliceB) (y:=hh.toNat) h0 Vi;exact⟨_,by simp[execOp,Instr.sliceAt,aj,bf hu,Instr.slice,Instr.sliceBounds,Result.andThen,am,oz,cC g ak,cC g an,r1,r2],rfl⟩
      ·rename_i hs;cases hs
      ·cases h
   ·rename_i e s hk hx;unfold aL at hk;split at hk<;>cases hk;rename_i hu;have aj:=cC g hx;split at h
    ·rename_i l hh hl ac;cases h
     have h0:=hφ.1.1;have h1:=hφ.1.2;have h2:=hφ.2;cases lo with
     |none=>
      simp only[Ss,mq,Sc]at hl;subst hl;cases hi with
      |none=>
       simp only[Ss,mq,Sc]at ac;subst ac;exact⟨_,by simp[execOp,Instr.sliceAt,aj,bf hu,Instr.slice,Instr.sliceBounds,Result.andThen],rfl⟩
      |some zh=>
       obtain⟨k2,hz⟩:=io ac;have r1:=fu (P:=P) (w:=w) (k:=k2) (code:=.sliceAlen) (y:=s.size) h1 h2;exact⟨_,by simp[execOp,Instr.sliceAt,aj,bf hu,Instr.slice,Instr.sliceBounds,Result.andThen,cC g hz,r1],rfl⟩
     |some zl=>
      obtain⟨k1,ak⟩:=io hl;cases hi with
      |none=>
       simp only[Ss,mq,Sc]at ac;subst ac;have r1:=fu (P:=P) (w:=w) (k:=k1) (code:=.sliceB) (y:=s.size) h0 h1;exact⟨_,by simp[execOp,Instr.sliceAt,aj,bf hu,Instr.slice,Instr.sliceBounds,Result.andThen,cC g ak,r1],rfl⟩
      |some zh=>
       obtain⟨k2,an⟩:=io ac;have r1:=fu (P:=P) (w:=w) (k:=k2) (code:=.sliceAlen) (y:=s.size) Vi h2;have r2:=fu (P:=P) (w:=w) (k:=k1) (code:=.sliceB) (y:=hh.toNat) h0 Vi;exact⟨_,by simp[execOp,Instr.sliceAt,aj,bf hu,Instr.slice,Instr.sliceBounds,Result.andThen,cC g ak,cC g an,r1,r2],rfl⟩
    ·cases h
   ·cases h
 case call c=>exact xA (o:=⟨dst,.call c,type,pos,bh,guard⟩) g rfl h
theorem fY{l:List gF}{k:Nat}{B:gF}(h:B∈cU l k):B∈l/\B.key≠k:=by
 induction l with
 |nil=>simp[cU]at h
 |cons b l ih=>
  simp only[cU]at h;split at h
  ·obtain⟨h1,h2⟩:=ih h;exact⟨.tail _ h1,h2⟩
  ·rcases List.mem_cons.1 h with rfl|h
   ·exact⟨.head _,by assumption⟩
   ·obtain⟨h1,h2⟩:=ih h;exact⟨.tail _ h1,h2⟩
theorem km{l:List gF}{x B:gF}:B∈ft x l<->B=x\/B∈l:=by
 induction l with
 |nil=>simp[ft]
 |cons b l ih=>
  simp only[ft];split
  ·simp only[Su,ih];constructor<;>(intro h;rcases h with h|h|h<;>simp_all)
  ·simp
theorem l6{l:List gF}{k:Nat}(h:l.Pairwise (fun x y=>x.key≠y.key)):(cU l k).Pairwise (fun x y=>x.key≠y.key):=by
 induction l with
 |nil=>simp[cU]
 |cons b l ih=>
  rw[Sv]at h;simp only[cU];split
  ·exact ih h.2
  ·exact List.pairwise_cons.2 ⟨fun y hy=>h.1 y (fY hy).1,ih h.2⟩
theorem uB{l:List gF}{x:gF}(h:l.Pairwise (fun x y=>x.key≠y.key))(hx:∀B∈l,B.key≠x.key):(ft x l).Pairwise (fun x y=>x.key≠y.key):=by
 induction l with
 |nil=>simp[ft]
 |cons b l ih=>
  have h':=h;rw[Sv]at h;simp only[ft];split
  ·refine List.pairwise_cons.2 ⟨fun y hy=>?_,ih h.2 fun B hB=>hx B (.tail _ hB)⟩;rcases km.1 hy with rfl|hy
   ·exact hx b (.head _)
   ·exact h.1 y hy
  ·refine List.pairwise_cons.2 ⟨fun y hy=>(hx y hy).symm,h'⟩
theorem FK{l:List gF}{k off:Nat}{cs:List Value}{B:gF}(hk:l.Pairwise (fun x y=>x.key≠y.key))(h:B∈nv l k off cs):
  (B∈l/\B.key≠k)\/(∃B0∈l,B0.key=k/\B={ B0 with cs:=be B0.cs off cs }):=by
 induction l with
 |nil=>simp[nv]at h
 |cons b l ih=>
  rw[Sv]at hk;simp only[nv]at h;split at h
  ·rename_i e;rcases List.mem_cons.1 h with rfl|h
   ·exact .inr ⟨b,.head _,e,rfl⟩
   ·exact .inl ⟨.tail _ h,fun e'=>hk.1 B h (e.trans e'.symm)⟩
  ·rename_i e;rcases List.mem_cons.1 h with rfl|h
   ·exact .inl ⟨.head _,e⟩
   ·rcases ih hk.2 h with ⟨h1,h2⟩|⟨B0,h1,h2,h3⟩
    ·exact .inl ⟨.tail _ h1,h2⟩
    ·exact .inr ⟨B0,.tail _ h1,h2,h3⟩
theorem pz(l:List gF)(k off:Nat)(cs:List Value):(nv l k off cs).map (·.key)=l.map (·.key):=by
 induction l with
 |nil=>rfl
 |cons b l ih=>simp only[nv];split<;>simp[ih]
def m8(P:Program)(ρ:Operand->SV)(op:Op):Option (TypeId×List Value):=
 match op with
 | .alloc T=>match aI P T with|some z=>some (T,z.cells.toList)|none=>none
 | .box T x=>match ρ x with | .v v=>some (T,v.cells.toList)|_=>none
 |_=>none
theorem kz{w:World}{o:Obj}{b:Nat}(h:b<w.heap.size):(w.heap.push o)[b]?=w.heap[b]?:=by
 rw[Array.getElem?_push,Sb Vi]
theorem cS.alloc{H0:PH}{w0:World}{H:PH}{w:World}(s:cS H0 w0 H w)(o:Obj):cS H0 w0 H { w with heap:=w.heap.push o } where
 sub:=fun b x h=>by
  have:=s.sub b x h;have hb:b<w.heap.size:=by
   rcases Sw b w.heap.size with h|h
   ·exact h
   ·rw[Sy h]at this;cases this
  rw[show ({ w with heap:=w.heap.push o }:World).heap=w.heap.push o from rfl,kz hb];exact this
 size:=by simp;have:=s.size;omega
 priv:=fun b hb hn=>by
  rw[show ({ w with heap:=w.heap.push o }:World).heap=w.heap.push o from rfl,kz (Nat.lt_of_lt_of_le hb s.size)];exact s.priv b hb hn
 dom:=s.dom
 os:=s.os
 tape:=s.tape
 out:=s.out
theorem dt{w:World}{b:Nat}{o:Obj}(h:w.heap[b]?=some o):b<w.heap.size:=by
 rcases Sw b w.heap.size with h1|h1
 ·exact h1
 ·rw[Sy h1]at h;cases h
theorem GB.newBox{n0:Nat}{β:Nat->Nat}{σ:St}{H0 H:PH}{a:Act}{w0 w:World}(hn:n0=w0.heap.size)(s:cS H0 w0 H w)(g:GB n0 β σ H a w)(d:Nat)(T:TypeId)(cs:List Value):
  GB n0 (fun k=>if k=d then w.heap.size else β k) (σ.newBox d T cs) H (a.put (some d) (.pointer (some ⟨w.heap.size,0,none⟩))) { w with heap:=w.heap.push (.cells cs.toArray T (0,0)) }:=by
 have old:∀B∈cU σ.bx d,B∈σ.bx/\B.key≠d:=fun B h=>fY h;have lt:∀B∈σ.bx,β B.key<w.heap.size:=fun B h=>dt (g.bx B h).1;have an:=s.size;constructor
 ·exact g.defers
 ·simp[Act.put,St.newBox,qt,g.size]
 ·intro t x hx;simp only[St.newBox,eI,Sz]at hx;have ak:=g.size;by_cases e:d=t
  ·subst e;simp only[R9]at hx;split at hx
   ·cases hx
    rename_i hl;simp only[Act.put,Sa];rw[Array.getElem?_setIfInBounds_self_of_lt Vi];simp[b9]
   ·cases hx
  ·simp only[Sb e,SA,Sn]at hx;obtain⟨sv,ac,rfl⟩:=hx;have:=g.tm t sv ac;have h2:(a.put (some d) (.pointer (some ⟨w.heap.size,0,none⟩))).tmps.getD t undef=a.tmps.getD t undef:=by
    simp[Act.put,Sa,Array.getElem?_setIfInBounds_ne e]
   rw[h2];cases sv with
   |v x=>exact this
   |u=>trivial
   |p k off=>
    simp only[iG];split
    ·trivial
    ·rename_i hk;simpa[b9,hk]using this
 ·intro B hB;rcases km.1 hB with rfl|hB
  ·refine⟨by simp,?_⟩;simp only[R9];cases hH:H w.heap.size with
   |none=>rfl
   |some o=>exact absurd (dt (s.sub _ _ hH)) Vi
  ·obtain⟨hm,hk⟩:=old B hB;simp only[Sb hk];have:=g.bx B hm;refine⟨?_,this.2⟩;rw[kz (lt B hm)];exact this.1
 ·intro B hB B' aa he;rcases km.1 hB with rfl|hB<;>rcases km.1 aa with rfl|aa
  ·rfl
  ·obtain⟨hm,hk⟩:=old B' aa;simp only[R9,Sb hk]at he;have:=lt B' hm;omega
  ·obtain⟨hm,hk⟩:=old B hB;simp only[R9,Sb hk]at he;have:=lt B hm;omega
  ·obtain⟨hm,hk⟩:=old B hB;obtain⟨aj,am⟩:=old B' aa;simp only[Sb hk,Sb am]at he;exact g.inj B hm B' aj he
 ·intro B hB;rcases km.1 hB with rfl|hB
  ·simp;omega
  ·obtain⟨hm,hk⟩:=old B hB;simp only[Sb hk];exact g.lo B hm
 ·exact uB (l6 g.keys) fun B hB=>(old B hB).2
theorem AB{P:Program}{n0:Nat}{β:Nat->Nat}{σ:St}{H:PH}{a:Act}{w:World}(g:GB n0 β σ H a w){o:Oper}{T:TypeId}{cs:List Value}
  (h:m8 P (ev σ) o.op=some (T,cs)):(execOp a.eval o).run P w=.ok (.value (.pointer (some ⟨w.heap.size,0,none⟩))) { w with heap:=w.heap.push (.cells cs.toArray T (0,0)) }:=by
 obtain⟨dst,op,type,pos,bh,guard⟩:=o;simp only at h;cases op<;>simp only[m8]at h<;>try (cases h;done)
 case alloc T'=>
  unfold aI at h;cases hi:P.info? T' with
  |none=>rw[hi]at h;cases h
  |some i=>
   rw[hi]at h;simp only[Sm]at h;cases hz:i.zero with
   |none=>rw[hz]at h;cases h
   |some z=>
    rw[hz]at h;have zv:(zeroValue T').run P w=.ok z w:=by simp[zeroValue,typeInfo,program,Sem.run,hi,hz]
    cases h
    simp[execOp,Instr.alloc,zv,Result.andThen,newVar,newRow,newObj,Sem.run]
 case box T' x=>
  split at h
  ·rename_i v hv;cases h
   simp[execOp,Instr.box,cC g hv,Result.andThen,newVar,newRow,newObj,Sem.run]
  ·cases h
def qW(P:Program)(bx:List gF)(ρ:Operand->SV)(op:Op):Option (Nat×Nat×List Value):=
 match op with
 | .store T x y=>match ρ x,ρ y with
  | .p k off,.v v=>match iB v,bB P T,dq bx k with
   |some cs,some n,some B=>if cs.length=n/\off+n<=B.cs.length then some (k,off,cs)else none
   |_,_,_=>none
  |_,_=>none
 |_=>none
theorem fM{P:Program}(b:Nat)(ty:TypeId):∀(vs:List Value) (i off:Nat) (cs:List Value) (w:World),w.heap[b]?=some (.cells cs.toArray ty (0,0))->off+i+vs.length<=cs.length->(∀v∈vs,one v=true)->
  ∃w2,(storeCells ⟨b,off,none⟩ vs i).run P w=.ok () w2/\w2.heap[b]?=some (.cells (be cs (off+i) vs).toArray ty (0,0))/\(∀k,k≠b->w2.heap[k]?=w.heap[k]?)/\w2.heap.size=w.heap.size/\w2.os=w.os/\w2.tape=w.tape/\w2.output=w.output
 | [],i,off,cs,w,h,_,_=>⟨w,by simp[storeCells],by simpa[be]using h,fun _ _=>rfl,rfl,rfl,rfl,rfl⟩
 |v::vs,i,off,cs,w,h,hl,ho=>by
  simp only[SB]at hl;have hc:w.cell? ⟨b,off+i,none⟩=cs[off+i]?:=oW h (off+i);have ac:off+i<cs.length:=by omega
  have hf:w.frozen? ⟨b,off+i,none⟩=false:=by simp[World.frozen?,h]
  have aa:=ho v (.head _);have hs:(w.setCell ⟨b,off+i,none⟩ v).heap[b]?=some (.cells (cs.set (off+i) v).toArray ty (0,0)):=by
   simp[World.setCell,Array.getElem?_modify,h]
  obtain⟨w2,h1,h2,h3,h4,h5,h6,h7⟩:=fM (P:=P) b ty vs (i+1) off (cs.set (off+i) v) (w.setCell ⟨b,off+i,none⟩ v) hs (by simp;omega) fun u hu=>ho u (.tail _ hu);have run1:(store ((⟨b,off,none⟩:Addr).add i) v).run P w=.ok () (w.setCell ⟨b,off+i,none⟩ v):=by
   rw[eT];have aj:w.cell? ⟨b,off+i,none⟩=some cs[off+i]:=by rw[hc,SC ac]
   cases v<;>first|(exact absurd aa Bool.false_ne_true)|(simp only[store,Sem.run,aj,hf];rfl)
  refine⟨w2,?_,?_,?_,?_,?_,?_,?_⟩
  ·simp only[storeCells,Se,run1,Result.andThen];exact h1
  ·rw[h2,be];rfl
  ·intro k hk;rw[h3 k hk];simp[World.setCell,Array.getElem?_modify,Ne.symm hk]
  ·rw[h4];simp[World.setCell]
  ·rw[h5];rfl
  ·rw[h6];rfl
  ·rw[h7];rfl
theorem Bk{P:Program}{n0:Nat}{β:Nat->Nat}{σ:St}{H0 H:PH}{a:Act}{w0 w:World}(hn:n0=w0.heap.size)(s:cS H0 w0 H w)(g:GB n0 β σ H a w){o:Oper}{k off:Nat}{cs:List Value}
  (h:qW P σ.bx (ev σ) o.op=some (k,off,cs)) :
  ∃w2,(execOp a.eval o).run P w=.ok .skip w2/\cS H0 w0 H w2/\GB n0 β (σ.store k off cs) H a w2:=by
 obtain⟨dst,op,type,pos,bh,guard⟩:=o;simp only at h;cases op<;>simp only[qW]at h<;>try (cases h;done)
 rename_i T x y;split at h
 case h_2=>cases h
 rename_i k' off' v hx hy;split at h
 case h_2=>cases h
 rename_i cs' n B aS ak hB;split at h
 case isFalse=>cases h
 rename_i hc;cases h
 obtain⟨a1,a6⟩:=hc;obtain⟨hm,rfl⟩:=mP hB;obtain⟨aa,am⟩:=oD aS;have ha:=g.ev x;rw[hx]at ha;simp only[b9]at ha;have hv:=cC g hy;have sz:(sizeOf T).run P w=.ok n w:=by
  unfold bB at ak;simp only[Sn]at ak;obtain⟨i,hi,rfl⟩:=ak;simp[sizeOf,typeInfo,program,Sem.run,hi]
 obtain⟨hb,ac⟩:=g.bx B hm;obtain⟨w2,h1,h2,h3,h4,h5,h6,h7⟩:=fM (P:=P) (β B.key) B.ty cs 0 off B.cs w hb Vi am;have a5:=g.lo B hm;have a4:=s.size;refine⟨w2,?_,?_,?_⟩
 ·have a0:v.cells.size=n:=by rw[<-a1,<-aa];simp
  simp only[execOp,Instr.storeAt,ha,hv,Instr.sureAddr,storeVar,Se];simp[Result.andThen,sz,a0,aa,h1]
 ·refine⟨fun b x aj=>?_,Vi,fun b a2 ap=>?_,s.dom,by rw[h5];exact s.os,by rw[h6];exact s.tape,by rw[h7];exact s.out⟩
  ·rw[h3 b (fun e=>by subst e;rw[ac]at aj;cases aj)];exact s.sub b x aj
  ·rw[h3 b Vi];exact s.priv b a2 ap
 ·have keyIn:∀B'∈nv σ.bx B.key off cs,∃B0∈σ.bx,B0.key=B'.key:=by
   intro B' ao;have:B'.key∈(nv σ.bx B.key off cs).map (·.key):=List.mem_map.2 ⟨B',ao,rfl⟩;rw[pz]at this;obtain⟨B0,h1,h2⟩:=List.mem_map.1 this;exact⟨B0,h1,h2⟩
  refine⟨g.defers,g.size,g.tm,?_,?_,?_,?_⟩
  ·intro B' ao;rcases FK g.keys ao with ⟨h8,h9⟩|⟨B0,h8,h9,rfl⟩
   ·refine⟨?_,(g.bx B' h8).2⟩;rw[h3 _ (fun e=>h9 (g.inj B' h8 B hm e))];exact(g.bx B' h8).1
   ·have:B0=B:=by
     by_cases e:B0=B
     ·exact e
     ·exfalso;have:=g.keys;rcases List.mem_iff_getElem.1 h8 with ⟨i,hi,rfl⟩
      rcases List.mem_iff_getElem.1 hm with ⟨j,hj,rfl⟩
      rcases SD i j with h|h|h
      ·exact(List.pairwise_iff_getElem.1 this i j hi hj h) h9
      ·subst h;exact e rfl
      ·exact(List.pairwise_iff_getElem.1 this j i hj hi h) h9.symm
    subst this;exact⟨by simpa using h2,ac⟩
  ·intro B1 an B2 a3 he;obtain⟨C1,c1,e1⟩:=keyIn B1 an;obtain⟨C2,c2,e2⟩:=keyIn B2 a3;rw[<-e1,<-e2]at he |-;exact g.inj C1 c1 C2 c2 he
  ·intro B1 an;obtain⟨C1,c1,e1⟩:=keyIn B1 an;rw[<-e1];exact g.lo C1 c1
  ·have:((nv σ.bx B.key off cs).map (·.key)).Pairwise (·≠·):=by rw[pz];exact List.pairwise_map.2 g.keys
   exact List.pairwise_map.1 this
def aG(ol:List Oper)(σ:St)(o:Oper):Option Bool:=
 match o.guard with
 |none=>some true
 |some (j,want)=>match ol[j]? with
  |some o'=>match o'.dst with
   |some t=>match lV σ.tm t with
    | .v (.bool b)=>some (b == want)
    | .v (.tuple _)=>some false
    |_=>none
   |none=>none
  |none=>none
theorem nt{ops:Array Oper}{n0:Nat}{β:Nat->Nat}{σ:St}{H:PH}{a:Act}{w:World}(g:GB n0 β σ H a w){o:Oper}{r:Bool}(h:aG ops.toList σ o=some r):
  Region.wanted o (yielded ops a.tmps)=r:=by
 unfold aG at h;unfold Region.wanted;split at h
 ·rename_i hg;simp only[hg];cases h;rfl
 ·rename_i j want hg;simp only[hg];split at h
  ·rename_i o' ho;split at h
   ·rename_i t ht;split at h
    ·rename_i b hb;cases h
     have ac:ops[j]?=some o':=by simpa using ho
     have hy:yielded ops a.tmps j=some b:=by
      unfold yielded;simp only[ac,Sm,ht];rw[dF]at hb;cases hs:σ.tm[t]? with
      |none=>rw[hs]at hb;cases hb
      |some sv=>
       rw[hs]at hb;simp only[SE]at hb;subst hb;have h1:=g.tm t _ hs;simp only[b9]at h1;have aa:t<a.tmps.size:=by
        rw[g.size];rcases Sw t σ.tm.length with h|h
        ·exact h
        ·rw[SF h]at hs;cases hs
       rw[Sa,Sr aa]at h1;simp only[SE]at h1;simp[aa,h1]
     rw[hy];cases b<;>cases want<;>rfl
    ·rename_i vs hb;cases h
     have ac:ops[j]?=some o':=by simpa using ho
     have hy:yielded ops a.tmps j=none:=by
      unfold yielded;simp only[ac,Sm,ht];rw[dF]at hb;cases hs:σ.tm[t]? with
      |none=>rw[hs]at hb;cases hb
      |some sv=>
       rw[hs]at hb;simp only[SE]at hb;subst hb;have h1:=g.tm t _ hs;simp only[b9]at h1;have aa:t<a.tmps.size:=by
        rw[g.size];rcases Sw t σ.tm.length with h|h
        ·exact h
        ·rw[SF h]at hs;cases hs
       rw[Sa,Sr aa]at h1;simp only[SE]at h1;simp[aa,h1]
     rw[hy];rfl
    ·cases h
   ·cases h
  ·cases h
def bp(σ:St)(x:Operand):Value:=match ev σ x with | .v y=>y|_=>undef
def qy:SV->Bool | .v _=>true|_=>false
def eL:Op->Bool | .select ..=>false|_=>true
def aR(σ:St)(op:Op):Bool:=eL op && op.operands.toList.all fun x=>qy (ev σ x)
theorem sm{n0:Nat}{β:Nat->Nat}{σ:St}{H:PH}{a:Act}{w:World}(g:GB n0 β σ H a w){o:Oper}(h:aR σ o.op=true):execOp (bp σ) o=execOp a.eval o:=by
 simp only[aR,SG,SH]at h;refine execOp_congr o (fun cs b e=>by rw[e]at h;exact absurd h.1 (by simp[eL])) fun x hx=>?_;have h1:=h.2 x (by simpa using hx);unfold bp;cases he:ev σ x with
 |v y=>exact(cC g he).symm
 |p k off=>rw[he]at h1;cases h1
 |u=>rw[he]at h1;cases h1
def y9(P:Program)(w:World)(H:PH)(Ψ:SV->PH->Prop):Result Next->Prop
 | .ok (.value v) w2=>∃H2,cS H w H2 w2/\Ψ (.v v) H2
 | .ok .skip w2=>∃H2,cS H w H2 w2/\Ψ .u H2
 | .ok (.enter f args) w2=>Calls P f args w2 fun e w3=>match e with
  | .returned v=>∃H2,cS H w H2 w3/\Ψ (.v v) H2
  |_=>False
 |_=>False
def co(P:Program)(s:Sem Next)(H:PH)(Ψ:SV->PH->Prop):Prop:=∀w,Sub H w->y9 P w H Ψ (s.run P w)
theorem co.mono{P:Program}{s:Sem Next}{H:PH}{Ψ Ψ':SV->PH->Prop}(h:co P s H Ψ)(k:∀sv H2,Ψ sv H2->Ψ' sv H2):co P s H Ψ':=by
 intro w hw;have hr:=h w hw;unfold y9 at hr |-;split at hr
 ·obtain⟨H2,a,b⟩:=hr;exact⟨H2,a,k _ _ b⟩
 ·obtain⟨H2,a,b⟩:=hr;exact⟨H2,a,k _ _ b⟩
 ·refine hr.mono fun e w3 he=>?_;cases e with
  |returned v=>obtain⟨H2,a,b⟩:=he;exact⟨H2,a,k _ _ b⟩
  |outgrown=>exact he
  |panicked c=>exact he
 ·exact hr
def Q6(P:Program)(σ:St)(H:PH)(o:Oper)(sv:SV):Prop:=
 (∃φ,pv P σ.bx (ev σ) o.op=some (φ,sv)/\φ)\/
 (∃v,sv=.v v/\aR σ o.op=true/\∀w,Sub H w->(execOp (bp σ) o).run P w=.ok (.value v) w)
def yJ (P : Program) (ol : List Oper) (o : Oper) (K : St → PH → Prop) (σ : St) (H : PH) : Prop :=
  (aG ol σ o = some false ∧ K (σ.put o.dst (.v undef)) H) ∨
  (aG ol σ o = some true ∧
    ((∃ sv, Q6 P σ H o sv ∧ K (σ.put o.dst sv) H) ∨
     (∃ d T cs, o.dst = some d ∧ m8 P (ev σ) o.op = some (T, cs) ∧ K (σ.newBox d T cs) H) ∨
     (∃ k off cs, qW P σ.bx (ev σ) o.op = some (k, off, cs) ∧ K ((σ.store k off cs).put o.dst .u) H) ∨
     (aR σ o.op = true ∧ co P (execOp (bp σ) o) H fun sv H2 => K (σ.put o.dst sv) H2)))
def V(P:Program)(ol:List Oper)(K:St->PH->Prop):List Nat->St->PH->Prop
 | [],σ,H=>K σ H
 |i::l,σ,H=>match ol[i]? with
  |none=>V P ol K l σ H
  |some o=>yJ P ol o (V P ol K l) σ H
def QK(n0:Nat)(H0:PH)(w0:World)(K:St->PH->Prop):Exit->Act->World->Prop
 | .normal,a,w=>∃σ H,K σ H/\cS H0 w0 H w/\G n0 σ H a w
 |_,_,_=>False
theorem GB.step{n0:Nat}{β:Nat->Nat}{σ:St}{H H2:PH}{a:Act}{w w2:World}(g:GB n0 β σ H a w)(t:cS H w H2 w2):GB n0 β σ H2 a w2:=
 ⟨g.defers,g.size,g.tm,fun B hB=>by
  obtain⟨h1,h2⟩:=g.bx B hB;have aa:=dt h1;exact⟨by rw[t.priv _ aa h2];exact h1,t.dom _ aa h2⟩,g.inj,g.lo,g.keys⟩
theorem jC{P:Program}{ops:Array Oper}{o:Oper}{i:Nat}(hi:ops[i]?=some o){K:St->PH->Prop}{K':Act->World->Prop}{n0:Nat}{H0:PH}{w0:World}(hn:n0=w0.heap.size){KQ:St->PH->Prop}
  (hK:∀σ H a w,K σ H->cS H0 w0 H w->G n0 σ H a w->K' a w) {σ:St} {H:PH} {a:Act} {w:World} (h:yJ P ops.toList o K σ H) (s:cS H0 w0 H w) (g:G n0 σ H a w) :
  wpOp P ops (QK n0 H0 w0 KQ) i K' a w:=by
 obtain⟨β,g⟩:=g;unfold wpOp;simp only[hi];rcases h with ⟨hw,hk⟩|⟨hw,h⟩
 ·rw[nt g hw];exact hK _ _ _ _ hk s ⟨β,g.put o.dst rfl⟩
 ·rw[nt g hw,SI rfl];rcases h with ⟨sv,hv,hk⟩|⟨d,T,cs,hd,ao,hk⟩|⟨k,off,cs,ak,hk⟩|⟨aj,am⟩
  ·left
   rcases hv with ⟨φ,hp,hφ⟩|⟨v,rfl,aj,ac⟩
   ·obtain⟨y,hy,hm⟩:=Fp (P:=P) g hp hφ;simp only[Oper.wp,hy,Oper.upon];exact hK _ _ _ _ hk s ⟨β,g.put o.dst hm⟩
   ·have:=ac w s.sub;rw[sm g aj]at this;simp only[Oper.wp,this,Oper.upon];exact hK _ _ _ _ hk s ⟨β,g.put o.dst rfl⟩
  ·left
   simp only[Oper.wp,AB g ao,Oper.upon,hd];exact hK _ _ _ _ hk (s.alloc _) ⟨_,g.newBox hn s d T cs⟩
  ·left
   obtain⟨w2,h1,h2,h3⟩:=Bk hn s g ak;simp only[Oper.wp,h1,Oper.upon];exact hK _ _ _ _ hk h2 ⟨β,h3.put o.dst uO⟩
  ·have an:=sm g aj;have aa:=am w s.sub
   left
   rw[an]at aa;simp only[Oper.wp];unfold y9 at aa;split at aa
   ·rename_i v w2 hr;obtain⟨H2,t,hk⟩:=aa;simp only[hr,Oper.upon];exact hK _ _ _ _ hk (s.trans t) ⟨β,(g.step t).put o.dst rfl⟩
   ·rename_i w2 hr;obtain⟨H2,t,hk⟩:=aa;simp only[hr,Oper.upon];exact hK _ _ _ _ hk (s.trans t) ⟨β,(g.step t).put o.dst uO⟩
   ·rename_i f args w2 hr;simp only[hr,Oper.upon];refine aa.mono fun e w3 he=>?_;cases e with
    |returned v=>
     obtain⟨H2,t,hk⟩:=he;exact hK _ _ _ _ hk (s.trans t) ⟨β,(g.step t).put o.dst rfl⟩
    |outgrown=>exact he.elim
    |panicked c=>exact he.elim
   ·exact aa.elim
theorem xP{P:Program}{ops:Array Oper}{K:St->PH->Prop}{n0:Nat}{H0:PH}{w0:World}(hn:n0=w0.heap.size):∀(l:List Nat) {σ:St} {H:PH} {a:Act} {w:World},
  V P ops.toList K l σ H->cS H0 w0 H w->G n0 σ H a w->wpOps P ops (QK n0 H0 w0 K) l a w
 | [],σ,H,a,w,h,s,g=>⟨σ,H,h,s,g⟩
 |i::l,σ,H,a,w,h,s,g=>by
  simp only[V]at h;rw[wpOps_cons];cases ho:ops[i]? with
  |none=>
   have:ops.toList[i]?=none:=by simpa using ho
   rw[this]at h;simp only[wpOp,ho];exact xP hn l h s g
  |some o=>
   have:ops.toList[i]?=some o:=by simpa using ho
   rw[this]at h;exact jC ho hn (fun σ' H' a' w' hk s' g'=>xP hn l hk s' g') h s g
def PH.put(H:PH)(b:Nat)(o:Obj):PH:=fun c=>if c=b then some o else H c
theorem PH.le_put{H:PH}{b:Nat}{o:Obj}(h:H b=none):H.le (H.put b o):=fun c x hx=>by
 by_cases e:c=b
 ·subst e;rw[h]at hx;cases hx
 ·simp[PH.put,e,hx]
theorem cS.new{H:PH}{w:World}(s:Sub H w)(o:Obj):H w.heap.size=none/\cS H w (H.put w.heap.size o) { w with heap:=w.heap.push o }:=by
 have hn:H w.heap.size=none:=by
  cases hH:H w.heap.size with
  |none=>rfl
  |some o=>exact absurd (dt (s _ _ hH)) Vi
 refine⟨hn,fun b x h=>?_,by simp,fun b hb _=>?_,fun b hb aa=>?_,rfl,rfl,rfl⟩
 ·by_cases e:b=w.heap.size
  ·subst e;simp only[PH.put,R9]at h;cases h;simp
  ·simp only[PH.put,Sb e]at h;rw[show ({ w with heap:=w.heap.push o }:World).heap=w.heap.push o from rfl,kz (dt (s _ _ h))];exact s _ _ h
 ·rw[show ({ w with heap:=w.heap.push o }:World).heap=w.heap.push o from rfl,kz hb]
 ·simp[PH.put,Nat.ne_of_lt hb,aa]
theorem cS.beside{H H2:PH}{w w2:World}{b:Nat}{o:Obj}(hb:H b=none)(s:Sub (H.put b o) w)(t:cS H w H2 w2):H2 b=none/\cS (H.put b o) w (H2.put b o) w2:=by
 have aa:w.heap[b]?=some o:=s b o (by simp[PH.put]);have ac:=dt aa;have h2b:=t.dom b ac hb;refine⟨h2b,fun c x hc=>?_,t.size,fun c hc hn=>?_,fun c hc hn=>?_,t.os,t.tape,t.out⟩
 ·by_cases e:c=b
  ·subst e;simp only[PH.put,R9]at hc;cases hc;rw[t.priv _ ac hb];exact aa
  ·simp only[PH.put,Sb e]at hc;exact t.sub c x hc
 ·by_cases e:c=b
  ·subst e;simp[PH.put]at hn
  ·simp only[PH.put,Sb e]at hn;exact t.priv c hc hn
 ·by_cases e:c=b
  ·subst e;simp[PH.put]at hn
  ·simp only[PH.put,Sb e]at hn |-;exact t.dom c hc hn
theorem Sub.unput{H:PH}{w:World}{b:Nat}{o:Obj}(hb:H b=none)(s:Sub (H.put b o) w):Sub H w:=s.of_le (PH.le_put hb)
theorem co.beside{P:Program}{s:Sem Next}{H:PH}{Ψ:SV->PH->Prop}{b:Nat}{o:Obj}(hb:H b=none)(h:co P s H Ψ):co P s (H.put b o) fun sv H2'=>∃H2,H2'=H2.put b o/\H2 b=none/\Ψ sv H2:=by
 intro w hw;have hr:=h w (hw.unput hb);unfold y9 at hr |-;split at hr
 ·obtain⟨H2,t,p⟩:=hr;obtain⟨n,t'⟩:=t.beside hb hw;exact⟨_,t',H2,rfl,n,p⟩
 ·obtain⟨H2,t,p⟩:=hr;obtain⟨n,t'⟩:=t.beside hb hw;exact⟨_,t',H2,rfl,n,p⟩
 ·refine hr.mono fun e w3 he=>?_;cases e with
  |returned v=>obtain⟨H2,t,p⟩:=he;obtain⟨n,t'⟩:=t.beside hb hw;exact⟨_,t',H2,rfl,n,p⟩
  |outgrown=>exact he
  |panicked c=>exact he
 ·exact hr
def xE(P:Program)(s:Sem Next)(f:Nat->Value)(ob:Obj):Prop:=∀w,s.run P w=.ok (.value (f w.heap.size)) { w with heap:=w.heap.push ob }
theorem xE.op{P:Program}{s:Sem Next}{f:Nat->Value}{ob:Obj}(h:xE P s f ob)(H:PH):co P s H fun sv H2=>∃b,H b=none/\sv=.v (f b)/\H2=H.put b ob:=by
 intro w hw;rw[h w];obtain⟨n1,n2⟩:=cS.new hw ob;exact⟨_,n2,_,n1,rfl,rfl⟩
inductive Cl where
 |val|alc|st|gen|nw
 deriving DecidableEq
def nr:Op->Cl
 | .alloc _ | .box ..=>.alc
 | .store ..=>.st
 | .move _ | .assign _ | .pick .. | .load .. | .binOp .. | .unOp .. | .convert .. | .fieldAddr .. | .field .. | .indexAddr .. | .index .. | .extract ..
 | .build .. | .nilCheck _ | .makeFunc .. | .lookup .. | .slice ..=>.val
 | .call { callee:=.builtin .len,.. } | .call { callee:=.builtin .cap,.. } | .call { callee:=.builtin .min,.. } | .call { callee:=.builtin .max,.. }=>.val
 | .makeMap _ none=>.nw
 |_=>.gen
def iR:List Nat->Nat->Bool
 | [],_=>false
 |a::l,k=>if a=k then true else iR l k
def jZ(kp:List Nat):List gF->List gF
 | []=>[]
 |b::l=>if iR kp b.key then b::jZ kp l else jZ kp l
def kb(f:Bool)(kp:List Nat)(l:List gF):List gF:=if f then jZ kp l else l
structure uK where
 h:Bool
 j:Bool
 J:PH
 k:Bool
 kp:List Nat
structure Eu where
 h:Bool
 j:Bool
 k:Bool
structure gW where
 h:List Nat
 j:List Nat
 J:PH
 k:List Nat
 kp:List Nat
structure gR where
 h:List Nat
 j:List Nat
 k:List Nat
def gW.at'(d:gW)(i:Nat):uK:=⟨d.h.contains i,d.j.contains i,d.J,iR d.k i,d.kp⟩
def gR.at'(d:gR)(i:Nat):Eu:=⟨d.h.contains i,d.j.contains i,iR d.k i⟩
theorem yE{kp:List Nat}{l:List gF}{k:Nat}{B:gF}(h:dq (jZ kp l) k=some B):dq l k=some B/\iR kp k=true:=by
 induction l with
 |nil=>cases h
 |cons b l ih=>
  simp only[jZ]at h;split at h
  ·simp only[dq]at h |-;split at h
   ·rename_i hm e;subst e;rw[SI rfl];exact⟨h,hm⟩
   ·rename_i hm e;rw[Sb e];exact ih h
  ·rename_i hm;obtain⟨a,c⟩:=ih h;simp only[dq];rw[Sb (fun e=>hm (by rw[e];exact c))];exact⟨a,c⟩
theorem sJ{kp:List Nat}{k off:Nat}{cs:List Value}(hk:iR kp k=false):∀(l:List gF),jZ kp (nv l k off cs)=jZ kp l
 | []=>rfl
 |b::l=>by
  simp only[nv];split
  ·rename_i e;simp[jZ,e,hk]
  ·simp only[jZ,sJ hk l]
theorem EO{P:Program}{bx bx':List gF}{ρ:Operand->SV}{op:Op}{r:Prop×SV}(hb:∀k B,dq bx k=some B->dq bx' k=some B)(h:pv P bx ρ op=some r):pv P bx' ρ op=some r:=by
 cases op<;>first|exact h|(rename_i mx;cases mx<;>exact h)|skip
 rename_i T x;simp only[pv,t8]at h |-;split at h
 ·rename_i k off hx;split at h
  ·rename_i B hB;rw[hb k B hB];exact h
  ·cases h
 ·cases h
theorem On{P:Program}{f:Bool}{kp:List Nat}{bx:List gF}{ρ:Operand->SV}{op:Op}{r:Prop×SV}(h:pv P (kb f kp bx) ρ op=some r):pv P bx ρ op=some r:=by
 unfold kb at h;split at h
 ·exact EO (fun k B hB=>(yE hB).1) h
 ·exact h
def FL:Op->Bool
 | .load ..=>false
 |_=>true
theorem Bu{P:Program}{bx bx':List gF}{ρ:Operand->SV}{op:Op}(h:FL op=true):pv P bx ρ op=pv P bx' ρ op:=by
 cases op<;>first|rfl|(rename_i mx;cases mx<;>rfl)|cases h
def Gg(P:Program)(fr:uK)(σ:St)(H:PH)(o:Oper)(sv:SV):Prop:=
 (∃φ,pv P (kb fr.k fr.kp σ.bx) (ev σ) o.op=some (φ,sv)/\φ)\/
 (fr.h=true/\∃v,sv=.v v/\aR σ o.op=true/\∀w,Sub H w->(execOp (bp σ) o).run P w=.ok (.value v) w)\/
 (fr.j=true/\fr.J.le H/\∃v,sv=.v v/\aR σ o.op=true/\∀w,Sub fr.J w->(execOp (bp σ) o).run P w=.ok (.value v) w)
theorem Gg.val{P:Program}{fr:uK}{σ:St}{H:PH}{o:Oper}{sv:SV}(h:Gg P fr σ H o sv):Q6 P σ H o sv:=by
 rcases h with ⟨φ,h,k⟩|h|⟨_,hl,v,a,b,c⟩
 ·exact .inl ⟨φ,On h,k⟩
 ·exact .inr h.2
 ·exact .inr ⟨v,a,b,fun w hw=>c w (hw.of_le hl)⟩
def fJ(P:Program)(ol:List Oper)(fr:uK)(str:Eu)(o:Oper)(K:St->PH->Prop)(σ:St)(H:PH):Prop:=
 (aG ol σ o=some false/\K (σ.put o.dst (.v undef)) H)\/
 (aG ol σ o=some true/\match nr o.op with
  | .val=>∃sv,Gg P fr σ H o sv/\K (σ.put o.dst sv) H
  | .alc=>∃d T cs,o.dst=some d/\m8 P (ev σ) o.op=some (T,cs)/\K (σ.newBox d T cs) H
  | .st=>(∃k off cs,qW P σ.bx (ev σ) o.op=some (k,off,cs)/\(str.k=true->iR fr.kp k=false)/\K ((σ.store k off cs).put o.dst .u) H)\/(str.k=false/\aR σ o.op=true/\co P (execOp (bp σ) o) H fun sv H2=>K (σ.put o.dst sv) H2)
  | .gen=>aR σ o.op=true/\co P (execOp (bp σ) o) H fun sv H2=>((str.h=true->H.le H2)/\(str.j=true->fr.J.le H->fr.J.le H2))/\K (σ.put o.dst sv) H2
  | .nw=>∀b,H b=none->K (σ.put o.dst (.v (.map (some b)))) (H.put b (.map #[] 0)))
def VD(P:Program)(ol:List Oper)(fr:gW)(str:gR)(K:St->PH->Prop):List Nat->St->PH->Prop
 | [],σ,H=>K σ H
 |i::l,σ,H=>match ol[i]? with
  |none=>VD P ol fr str K l σ H
  |some o=>fJ P ol (fr.at' i) (str.at' i) o (VD P ol fr str K l) σ H
theorem J7{P:Program}{σ:St}{o:Oper}(h:nr o.op=.nw):aR σ o.op=true/\xE P (execOp (bp σ) o) (fun b=>.map (some b)) (.map #[] 0):=by
 obtain⟨dst,op,type,pos,bh,guard⟩:=o;simp only at h |-;cases op<;>try (simp[nr]at h;done)
 case makeMap mt n=>
  cases n with
  |some x=>simp[nr]at h
  |none=>exact⟨by simp[aR,eL,Op.operands],fun w=>by simp[execOp,Instr.makeMap,newObj,Sem.run,Result.andThen]⟩
 case call c=>
  obtain⟨callee,args,types⟩:=c;cases callee with
  |builtin b=>cases b<;>simp[nr]at h
  |value f=>simp[nr]at h
  |invoke r m=>simp[nr]at h
theorem fJ.toV{P:Program}{ol:List Oper}{fr:uK}{str:Eu}{o:Oper}{K:St->PH->Prop}{σ:St}{H:PH}(h:fJ P ol fr str o K σ H):yJ P ol o K σ H:=by
 rcases h with h|⟨hw,h⟩
 ·exact .inl h
 ·refine .inr ⟨hw,?_⟩;split at h
  ·obtain⟨sv,hv,hk⟩:=h;exact .inl ⟨sv,hv.val,hk⟩
  ·exact .inr (.inl h)
  ·rcases h with ⟨k,off,cs,a,_,b⟩|⟨_,a,b⟩
   ·exact .inr (.inr (.inl ⟨k,off,cs,a,b⟩))
   ·exact .inr (.inr (.inr ⟨a,b⟩))
  ·exact .inr (.inr (.inr ⟨h.1,h.2.mono fun _ _ x=>x.2⟩))
  ·rename_i hc;obtain⟨a,b⟩:=J7 (P:=P) (σ:=σ) hc;exact .inr (.inr (.inr ⟨a,(b.op H).mono fun sv H2 ⟨x,y,z,u⟩=>by subst z;subst u;exact h x y⟩))
def m6(l:List gF):Prop:=l.Pairwise (fun x y=>x.key<y.key)
theorem qh{l:List gF}{k:Nat}(h:m6 l):m6 (cU l k):=by
 unfold m6 at *
 induction l with
 |nil=>simp[cU]
 |cons b l ih=>
  rw[Sv]at h;simp only[cU];split
  ·exact ih h.2
  ·exact List.pairwise_cons.2 ⟨fun y hy=>h.1 y (fY hy).1,ih h.2⟩
theorem GS{l:List gF}{x:gF}(h:m6 l)(hx:∀B∈l,B.key≠x.key):m6 (ft x l):=by
 unfold m6 at *
 induction l with
 |nil=>simp[ft]
 |cons b l ih=>
  have h':=h;rw[Sv]at h;simp only[ft];split
  ·rename_i aa;refine List.pairwise_cons.2 ⟨fun y hy=>?_,ih h.2 fun B hB=>hx B (.tail _ hB)⟩;rcases km.1 hy with rfl|hy
   ·exact aa
   ·exact h.1 y hy
  ·rename_i ac;have hb:=hx b (.head _);refine List.pairwise_cons.2 ⟨fun y hy=>?_,h'⟩;rcases List.mem_cons.1 hy with rfl|hy
   ·omega
   ·have:=h.1 y hy;omega
theorem m6.newBox{σ:St}(h:m6 σ.bx)(d:Nat)(T:TypeId)(cs:List Value):m6 (σ.newBox d T cs).bx:=
 GS (qh h) fun _ hB=>(fY hB).2
theorem m6.put{σ:St}(h:m6 σ.bx)(d:Option Nat)(sv:SV):m6 (σ.put d sv).bx:=by cases d<;>exact h
theorem m6.store{σ:St}(h:m6 σ.bx)(k off:Nat)(cs:List Value):m6 (σ.store k off cs).bx:=by
 have:((nv σ.bx k off cs).map (·.key)).Pairwise (· < ·):=by rw[pz];exact List.pairwise_map.2 h
 exact List.pairwise_map.1 this
theorem zZ{l:List gF}{x:gF}(h:∀B∈l,¬B.key<x.key):ft x l=x::l:=by
 cases l with
 |nil=>rfl
 |cons b l=>simp[ft,h b (.head _)]
theorem rR{l:List gF}{x:gF}{k:Nat}(hs:m6 l)(hk:x.key≠k):cU (ft x l) k=ft x (cU l k):=by
 unfold m6 at hs
 induction l with
 |nil=>simp[ft,cU,hk]
 |cons b l ih=>
  rw[Sv]at hs;simp only[ft];split
  ·rename_i aa;simp only[cU];split
   ·exact ih hs.2
   ·simp[ft,aa,ih hs.2]
  ·rename_i ac;have h1:cU (x::b::l) k=x::cU (b::l) k:=by rw[cU];simp[hk]
   rw[h1];refine(zZ fun B hB=>?_).symm;have:=(fY hB).1;rcases List.mem_cons.1 this with rfl|h
   ·exact ac
   ·have:=hs.1 B h;omega
theorem Da{l:List gF}{x y:gF}(h:x.key≠y.key):ft x (ft y l)=ft y (ft x l):=by
 induction l with
 |nil=>
  simp only[ft];rcases SD x.key y.key with h1|h1|h1
  ·simp[h1,Nat.not_lt.2 (SJ h1)]
  ·exact absurd h1 h
  ·simp[h1,Nat.not_lt.2 (SJ h1)]
 |cons b l ih=>
  by_cases hx:b.key<x.key<;>by_cases hy:b.key<y.key
  ·simp[ft,hx,hy,ih]
  ·have:y.key<x.key:=by omega
   simp[ft,hx,hy,this]
  ·have:x.key<y.key:=by omega
   simp[ft,hx,hy,this]
  ·rcases SD x.key y.key with h1|h1|h1
   ·simp[ft,hx,hy,h1,Nat.not_lt.2 (SJ h1)]
   ·exact absurd h1 h
   ·simp[ft,hx,hy,h1,Nat.not_lt.2 (SJ h1)]
theorem AL(l:List gF)(a b:Nat):cU (cU l a) b=cU (cU l b) a:=by
 induction l with
 |nil=>rfl
 |cons x l ih=>
  by_cases h1:x.key=a<;>by_cases h2:x.key=b<;>simp[cU,h1,h2,ih]<;>simp_all[cU]
theorem qe(l:List SV)(a b:Nat)(x y:SV)(h:a≠b):jm (jm l a x) b y=jm (jm l b y) a x:=by
 induction l generalizing a b with
 |nil=>rfl
 |cons z l ih=>
  cases a<;>cases b<;>simp only[jm]<;>first|omega|(congr 1;exact ih _ _ Vi)
theorem tg(f:SV->SV)(l:List SV)(a:Nat)(x:SV):(jm l a x).map f=jm (l.map f) a (f x):=by
 induction l generalizing a with
 |nil=>rfl
 |cons z l ih=>cases a<;>simp[jm,ih]
theorem kD(σ:St)(a b:Option Nat)(x y:SV)(h:∀d,a=some d->b≠some d):(σ.put a x).put b y=(σ.put b y).put a x:=by
 cases a<;>cases b<;>simp only[St.put]
 rename_i c d;rw[qe _ _ _ _ _ (fun e=>h c rfl (by rw[e]))]
theorem lx(σ:St)(d:Nat)(T:TypeId)(cs:List Value)(e:Option Nat)(sv:SV)(h:e≠some d):(σ.put e sv).newBox d T cs=(σ.newBox d T cs).put e (iG d sv):=by
 cases e with
 |none=>rfl
 |some e=>
  have:e≠d:=fun x=>h (by rw[x]);simp only[St.put,St.newBox,tg];rw[qe _ _ _ _ _ this]
theorem Jq(l:List SV)(a b:Nat):(l.map (iG a)).map (iG b)=(l.map (iG b)).map (iG a):=by
 simp only[SK];apply SL;intro x _;cases x with
 |v x=>rfl
 |u=>rfl
 |p k off=>
  by_cases h1:k=a<;>by_cases h2:k=b<;>simp only[Function.comp,iG,h1,h2,R9,Si]
  all_goals (by_cases h3:a=b<;>simp_all[iG])
theorem yy(σ:St)(d e:Nat)(T T':TypeId)(cs cs':List Value)(h:d≠e)(hs:m6 σ.bx):(σ.newBox d T cs).newBox e T' cs'=(σ.newBox e T' cs').newBox d T cs:=by
 have h1:¬d=e:=h;have h2:¬e=d:=fun x=>h x.symm;have t:(jm (((jm (σ.tm.map (iG d)) d (.p d 0))).map (iG e)) e (.p e 0))=(jm (((jm (σ.tm.map (iG e)) e (.p e 0))).map (iG d)) d (.p d 0)):=by
  rw[tg,tg,qe _ _ _ _ _ h,Jq];simp[iG,h1,h2]
 have b:ft ⟨e,T',cs'⟩ (cU (ft ⟨d,T,cs⟩ (cU σ.bx d)) e)=ft ⟨d,T,cs⟩ (cU (ft ⟨e,T',cs'⟩ (cU σ.bx e)) d):=by
  rw[rR (qh hs) h,rR (qh hs) (Ne.symm h),Da (Ne.symm h),AL]
 simp only[St.newBox,t,b]
def looks (ol : List Oper) (o : Oper) : List Nat :=
  (o.op.operands.toList.filterMap fun | .tmp t => some t | _ => none) ++
  (match o.guard with
   | some (j, _) => match ol[j]? with | some o' => o'.dst.toList | none => []
   | none => [])
def oq(ol:List Oper)(x y:Oper):Bool:=
 (match x.dst with|some d=>!(looks ol y).contains d && y.dst != some d|none=>true) &&
 (match y.dst with|some d=>!(looks ol x).contains d && x.dst != some d|none=>true)
theorem yH{ol:List Oper}{o:Oper}{d:Nat}(h:d∉looks ol o):∀x∈o.op.operands,x≠.tmp d:=by
 intro x hx e;subst e;exact h (SM _ (List.mem_filterMap.2 ⟨.tmp d,by simpa using hx,rfl⟩))
theorem LN{σ:St}{d:Option Nat}{sv:SV}{x:Operand}(h:∀e,d=some e->x≠.tmp e):ev (σ.put d sv) x=ev σ x:=by
 cases d with
 |none=>rfl
 |some d=>
  cases x with
  |tmp t=>
   have:d≠t:=fun e=>h d rfl (by rw[e]);simp[ev,St.put,dF,eI,this]
  |_=>rfl
theorem CN{σ:St}{d:Nat}{T:TypeId}{cs:List Value}{x:Operand}(h:x≠.tmp d):ev (σ.newBox d T cs) x=iG d (ev σ x):=by
 cases x with
 |tmp t=>
  have:d≠t:=fun e=>h (by rw[e]);simp only[ev,St.newBox,dF,eI,Sb this,SA];cases σ.tm[t]?<;>rfl
 |_=>rfl
theorem ew{ol:List Oper}{σ:St}{o:Oper}{d:Option Nat}{sv:SV}(h:∀e,d=some e->e∉looks ol o):aG ol (σ.put d sv) o=aG ol σ o:=by
 unfold aG;cases hg:o.guard with
 |none=>rfl
 |some g=>
  obtain⟨j,want⟩:=g;simp only;cases ho:ol[j]? with
  |none=>rfl
  |some o'=>
   simp only;cases ht:o'.dst with
   |none=>rfl
   |some t=>
    have aa:∀e,d=some e->e≠t:=fun e he h2=>h e he (by
     subst h2;exact SN _ (by simp[hg,ho,ht]))
    have:lV (σ.put d sv).tm t=lV σ.tm t:=by
     cases d with
     |none=>rfl
     |some d=>simp[St.put,dF,eI,aa d rfl]
    simp only[this]
theorem dN{ol:List Oper}{σ:St}{o:Oper}{d:Nat}{T:TypeId}{cs:List Value}{r:Bool}(h:d∉looks ol o):aG ol (σ.newBox d T cs) o=some r<->aG ol σ o=some r:=by
 unfold aG;cases hg:o.guard with
 |none=>rfl
 |some g=>
  obtain⟨j,want⟩:=g;simp only;cases ho:ol[j]? with
  |none=>rfl
  |some o'=>
   simp only;cases ht:o'.dst with
   |none=>rfl
   |some t=>
    have aa:d≠t:=fun h2=>h (by
     subst h2;exact SN _ (by simp[hg,ho,ht]))
    have:lV (σ.newBox d T cs).tm t=iG d (lV σ.tm t):=by
     simp only[St.newBox,dF,eI,Sb aa,SA];cases σ.tm[t]?<;>rfl
    simp only[this];cases lV σ.tm t with
    |v x=>rfl
    |u=>rfl
    |p k off=>by_cases e:k=d<;>simp[iG,e]
theorem nY{ρ ρ':Operand->SV}:∀{l:List Operand},(∀x∈l,ρ x=ρ' x)->ji ρ l=ji ρ' l
 | [],_=>rfl
 |x::l,h=>by simp only[ji,h x (.head _),nY (fun y hy=>h y (.tail _ hy))]
theorem tU{ρ ρ':Operand->SV}:∀{l:List (Nat×Operand)},(∀x∈l,ρ x.2=ρ' x.2)->kY ρ l=kY ρ' l
 | [],_=>rfl
 |(i,x)::l,h=>by simp only[kY,h (i,x) (.head _),tU (fun y hy=>h y (.tail _ hy))]
theorem yK{P:Program}{bx:List gF}{ρ ρ':Operand->SV}{op:Op}(h:∀x∈op.operands,ρ x=ρ' x):pv P bx ρ op=pv P bx ρ' op:=by
 cases op<;>simp only[pv]<;>simp only[Op.operands]at h
 case build T ps=>
  rw[tU (l:=ps.toList) fun x hx=>h x.2 (by simpa using ⟨x.1,by simpa using hx⟩)]
 case slice T x lo hi mx=>
  have hx:=h x (by simp);have hl:lo.map ρ=lo.map ρ':=by
   cases lo with
   |none=>rfl
   |some z=>simp only[So];rw[h z (by simp)]
  have hh:hi.map ρ=hi.map ρ':=by
   cases hi with
   |none=>rfl
   |some z=>simp only[So];rw[h z (by simp)]
  cases mx with
  |some m=>rfl
  |none=>simp only;rw[hx,hl,hh]
 case makeFunc fn f c=>
  rw[nY (l:=f.toList) fun x hx=>h x (by simp at hx |-;exact .inl hx),nY (l:=c.toList) fun x hx=>h x (by simp at hx |-;exact .inr hx)]
 case call c=>
  obtain⟨callee,args,types⟩:=c;have ha:∀x∈args.toList,ρ x=ρ' x:=fun x hx=>h x (by simp[Call.operands]at hx |-;exact .inr hx);simp only[lu];split
  ·rename_i x t e1 e2;rw[ha x (by rw[e1];exact .head _)]
  ·rename_i x t e1 e2;rw[ha x (by rw[e1];exact .head _)]
  ·rename_i x y e1;rw[ha x (by rw[e1];exact .head _),ha y (by rw[e1];exact .tail _ (.head _))]
  ·rename_i x y e1;rw[ha x (by rw[e1];exact .head _),ha y (by rw[e1];exact .tail _ (.head _))]
  ·rfl
 all_goals simp_all
theorem fF{d:Nat}{s:SV}{x:Value}:iG d s=.v x<->s=.v x:=by
 cases s with
 |v y=>rfl
 |u=>simp[iG]
 |p k off=>simp only[iG];split<;>simp
theorem Ck{d k off:Nat}{s:SV}(h:iG d s=.p k off):s=.p k off/\k≠d:=by
 cases s with
 |v y=>cases h
 |u=>cases h
 |p k' off'=>
  simp only[iG]at h;split at h
  ·cases h
  ·cases h;exact⟨rfl,by assumption⟩
theorem s9{ρ:Operand->SV}{d:Nat}:∀{l:List Operand} {r:List Value},ji (fun x=>iG d (ρ x)) l=some r->ji ρ l=some r
 | [],_,h=>h
 |x::l,r,h=>by
  simp only[ji]at h |-;split at h
  ·rename_i a r' ha hr;rw[fF.1 ha,s9 hr];exact h
  ·cases h
theorem zb{ρ:Operand->SV}{d:Nat}:∀{l:List (Nat×Operand)} {r:List (Nat×Value)},kY (fun x=>iG d (ρ x)) l=some r->kY ρ l=some r
 | [],_,h=>h
 |(i,x)::l,r,h=>by
  simp only[kY]at h |-;split at h
  ·rename_i a r' ha hr;rw[fF.1 ha,zb hr];exact h
  ·cases h
theorem ku{ρ:Operand->SV}{d n:Nat}{o:Option Operand}{i:Int}(h:mq n (o.map fun x=>iG d (ρ x))=some i):mq n (o.map ρ)=some i:=by
 cases o with
 |none=>exact h
 |some z=>
  obtain⟨k,hk⟩:=io h;simp only[So]at h |-;have aa:iG d (ρ z)=.v (.int k i):=hk;rw[fF.1 aa];rw[aa]at h;exact h
theorem yO{ρ:Operand->SV}{d:Nat}{k:Kd}{e:EB}{x:SV}{lo hi:Option Operand}{φ:Prop}{sv:SV}(h:jG k e (iG d x) (lo.map fun x=>iG d (ρ x)) (hi.map fun x=>iG d (ρ x))=some (φ,sv)):
  jG k e x (lo.map ρ) (hi.map ρ)=some (φ,sv)/\sv=iG d sv:=by
 unfold jG at h;split at h
 ·rename_i size a len cap hx;rw[fF.1 hx];unfold jG;split at h
  ·rename_i l hh ac hl aa hs;cases h
   simp only[ku hl,ku aa];cases hi with
   |none=>cases hs
   |some z=>exact⟨rfl,rfl⟩
  ·rename_i l hh hl aa hs;cases h
   simp only[ku hl,ku aa];cases hi with
   |none=>exact⟨rfl,rfl⟩
   |some z=>cases hs
  ·cases h
 ·rename_i s hx;rw[fF.1 hx];unfold jG;split at h
  ·rename_i l hh hl aa;cases h
   simp only[ku hl,ku aa];exact⟨trivial,rfl⟩
  ·cases h
 ·cases h
theorem wl{bx:List gF}{d k:Nat}{T:TypeId}{cs:List Value}(h:k≠d):dq (ft ⟨d,T,cs⟩ (cU bx d)) k=dq bx k:=by
 have h1:∀l:List gF,dq (ft ⟨d,T,cs⟩ l) k=dq l k:=by
  intro l
  induction l with
  |nil=>simp[ft,dq,Ne.symm h]
  |cons b l ih=>
   simp only[ft];split
   ·simp only[dq,ih]
   ·simp[dq,Ne.symm h]
 rw[h1]
 induction bx with
 |nil=>rfl
 |cons b l ih=>
  simp only[cU];split
  ·rename_i e;rw[ih];have:¬b.key=k:=fun x=>h (x.symm.trans e);simp[dq,this]
  ·simp only[dq,ih]
theorem zo(f:Bool)(kp:List Nat)(l:List gF)(k:Nat):dq (kb f kp l) k=if f=true/\iR kp k=false then none else dq l k:=by
 unfold kb;cases f
 ·simp
 ·simp only[R9,SP]
  induction l with
  |nil=>simp[jZ,dq]
  |cons b l ih=>
   simp only[jZ];by_cases e:b.key=k
   ·cases hm:iR kp b.key
    ·rw[Sb (by simp),ih,<-e,hm];simp
    ·rw[SI rfl];subst e;simp[dq,hm]
   ·cases hm:iR kp b.key
    ·rw[Sb (by simp),ih];simp[dq,e]
    ·rw[SI rfl];simp only[dq,Sb e];exact ih
theorem qO{f:Bool}{kp:List Nat}{bx:List gF}{d k:Nat}{T:TypeId}{cs:List Value}(h:k≠d):dq (kb f kp (ft ⟨d,T,cs⟩ (cU bx d))) k=dq (kb f kp bx) k:=by
 rw[zo,zo,wl h]
theorem K5 {P : Program} {bx : List gF} {ρ : Operand → SV} {d : Nat} {T : TypeId} {cs : List Value} {op : Op} {φ : Prop} {sv : SV} {f : Bool} {kp : List Nat}
    (h : pv P (kb f kp (ft ⟨d, T, cs⟩ (cU bx d))) (fun x => iG d (ρ x)) op = some (φ, sv)) : ∃ sv', pv P (kb f kp bx) ρ op = some (φ, sv') ∧ sv = iG d sv' := by
  have mv : ∀ x : Operand, (match iG d (ρ x) with | .u => (none : Option (Prop × SV)) | sv => some (True, sv)) = some (φ, sv) → ∃ sv', (match ρ x with | .u => (none : Option (Prop × SV)) | sv => some (True, sv)) = some (φ, sv') ∧ sv = iG d sv' := by
    intro x hx
    cases hr : ρ x with
    | v y => rw [hr] at hx; cases hx; exact ⟨.v y, rfl, rfl⟩
    | u => rw [hr] at hx; cases hx
    | p k off =>
      rw [hr] at hx
      simp only [iG] at hx
      split at hx
      · rename_i e; split at e <;> first | cases hx | cases e
      · rename_i aa
        by_cases e : k = d
        · simp [e] at aa
        · simp only [Sb e] at hx
          cases hx; exact ⟨.p k off, rfl, by simp [iG, e]⟩
  cases op <;> simp only [pv] at h ⊢ <;> try (cases h; done)
  case move x => exact mv x h
  case assign x => exact mv x h
  case pick c x y =>
    split at h
    · rename_i b hb
      cases h
      rw [fF.1 hb]
      exact ⟨_, rfl, by split <;> rfl⟩
    · cases h
  case load T' x =>
    unfold t8 at h ⊢
    split at h
    · rename_i k off hx
      obtain ⟨hx, hk⟩ := Ck hx
      rw [hx]
      simp only
      rw [qO hk] at h
      split at h
      · split at h
        · cases h; exact ⟨_, rfl, rfl⟩
        · cases h
      · cases h
    · cases h
  case fieldAddr T' x f =>
    split at h
    · unfold IQ at h
      split at h
      · rename_i k off hx
        cases h
        obtain ⟨hx, hk⟩ := Ck hx
        exact ⟨_, by rw [hx]; rfl, by simp [iG, hk]⟩
      · rename_i b off hx
        cases h
        exact ⟨_, by rw [fF.1 hx]; rfl, rfl⟩
      · cases h
    · cases h
  case nilCheck x =>
    unfold Cg at h
    split at h
    · rename_i k off hx
      cases h
      obtain ⟨hx, hk⟩ := Ck hx
      exact ⟨_, by rw [hx]; rfl, by simp [iG, hk]⟩
    · rename_i a hx
      cases h
      exact ⟨_, by rw [fF.1 hx]; rfl, rfl⟩
    · cases h
  case indexAddr T' x i =>
    unfold G7 at h
    split at h
    · rename_i len size k off kk n he hx hi
      cases h
      obtain ⟨hx, hk⟩ := Ck hx
      exact ⟨_, by rw [hx, fF.1 hi, he]; rfl, by simp [iG, hk]⟩
    · rename_i len size b off kk n he hx hi
      cases h
      exact ⟨_, by rw [fF.1 hx, fF.1 hi, he]; rfl, rfl⟩
    · rename_i size b off len cap kk n he hx hi
      cases h
      exact ⟨_, by rw [fF.1 hx, fF.1 hi, he]; rfl, rfl⟩
    · cases h
  case index T' x i =>
    unfold rQ at h
    split at h
    · rename_i s kk n he hx hi
      cases h
      exact ⟨_, by rw [fF.1 hx, fF.1 hi, he]; rfl, rfl⟩
    · cases h
  case field T' x f =>
    split at h
    · rename_i n ty cs' hf hx
      obtain ⟨v, hv, rfl⟩ := cW h
      refine ⟨.v v, ?_, rfl⟩
      rw [hf, fF.1 hx]; exact h
    · cases h
  case extract x n =>
    split at h
    · rename_i vs hx
      obtain ⟨v, hv, rfl⟩ := cW h
      refine ⟨.v v, ?_, rfl⟩
      rw [fF.1 hx]; exact h
    · cases h
  case build T' ps =>
    split at h
    · rename_i l hl
      obtain ⟨v, hv, rfl⟩ := cW h
      refine ⟨.v v, ?_, rfl⟩
      rw [zb hl]; exact h
    · cases h
  case binOp op T' x y T2 =>
    split at h
    · rename_i a b hx hy
      obtain ⟨v, hv, rfl⟩ := cW h
      refine ⟨.v v, ?_, rfl⟩
      rw [fF.1 hx, fF.1 hy]; exact h
    · cases h
  case unOp op T' x =>
    split at h
    · rename_i a hx
      obtain ⟨v, hv, rfl⟩ := cW h
      refine ⟨.v v, ?_, rfl⟩
      rw [fF.1 hx]; exact h
    · cases h
  case convert s dd x =>
    split at h
    · rename_i a hs hx
      obtain ⟨v, hv, rfl⟩ := cW h
      refine ⟨.v v, ?_, rfl⟩
      rw [fF.1 hx, hs]; exact h
    · cases h
  case slice T' x lo hi mx =>
    cases mx with
    | some m => cases h
    | none =>
      obtain ⟨h1, h2⟩ := yO (ρ := ρ) h
      exact ⟨sv, h1, h2⟩
  case makeFunc fn f c =>
    split at h
    · rename_i l m hl hm
      cases h
      refine ⟨_, by rw [s9 hl, s9 hm], rfl⟩
    · cases h
  case call c =>
    unfold lu at h ⊢
    split at h
    all_goals first
      | (split at h
         · first
           | (rename_i a b hx hy
              obtain ⟨v, hv, rfl⟩ := cW h
              exact ⟨.v v, by rw [fF.1 hx, fF.1 hy]; exact h, rfl⟩)
           | (rename_i a hx
              obtain ⟨v, hv, rfl⟩ := cW h
              exact ⟨.v v, by rw [fF.1 hx]; exact h, rfl⟩)
         · cases h)
      | cases h
end Go.Sx
