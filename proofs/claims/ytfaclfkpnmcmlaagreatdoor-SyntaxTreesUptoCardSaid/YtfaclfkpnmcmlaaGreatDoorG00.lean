import Derived.KernelRfl
import Derived.Calls
import Derived.OrdersIn
import Derived.RowKit
import Derived.Tactics
abbrev ab:=@List.append_nil
abbrev ad:=@if_neg
abbrev ak:=@if_pos
abbrev ar:=@decide_eq_true
abbrev aB:=@Nat.lt_or_ge
abbrev aL:=@List.getElem?_eq_getElem
abbrev aS:=@decide_eq_false
abbrev aW:=@Nat.le_refl
abbrev bf:=@List.length_cons
abbrev bg:=@Nat.zero_le
abbrev bu:=@Bool.and_eq_true
abbrev bv:=@Option.some.injEq
abbrev bA:=@List.length_nil
abbrev bG:=@Int.cast_ofNat_Int
abbrev bS:=@Nat.mul_le_mul_right
abbrev bX:=@Bool.not_true
abbrev bY:=@Go.Sem.run_bind
abbrev cu:=@decide_eq_true_eq
abbrev cB:=@List.take_length
abbrev cF:=@Bool.not_false
abbrev cH:=@List.mem_of_getElem?
abbrev cO:=@Nat.le_trans
abbrev cY:=@if_true
abbrev df:=@Option.some.inj
abbrev dk:=@List.mem_append_left
abbrev dm:=@and_true
abbrev dG:=@List.length_append
abbrev dH:=@List.not_mem_nil
abbrev dP:=@true_and
abbrev dW:=@List.length_map
abbrev en:=@Array.getD_eq_getD_getElem?
abbrev eo:=@List.mem_append_right
abbrev eD:=@List.append_assoc
abbrev eE:=@List.length_take
abbrev eF:=@of_decide_eq_true
abbrev eL:=@Prod.mk.injEq
abbrev eR:=@Nat.zero_add
abbrev fl:=@List.take_append_drop
abbrev fm:=@Nat.add_mul
abbrev fo:=@Nat.le_of_lt
abbrev fC:=@List.mem_cons
abbrev fN:=@Int.natCast_nonneg
abbrev fO:=@Option.map_some
abbrev fW:=@List.getElem?_eq_none
abbrev fX:=@List.getElem?_map
abbrev fY:=@Nat.testBit_and
abbrev gk:=@List.nil_append
abbrev gJ:=@List.filter_cons
abbrev gR:=@List.cons_append
abbrev gS:=@List.mem_append
abbrev gT:=@if_false
abbrev g8:=@Bool.not_eq_true'
abbrev g9:=@Nat.eq_zero_or_pos
abbrev hH:=@Option.map_eq_some_iff
abbrev hU:=@beq_eq_false_iff_ne
abbrev im:=@Bool.or_eq_true
abbrev iN:=@Bool.false_eq_true
abbrev iO:=@Nat.lt_succ_self
abbrev iP:=@Nat.pow_le_pow_right
abbrev jb:=@Array.toList_inj
abbrev ju:=@Bool.false_or
abbrev jv:=@List.drop_eq_getElem_cons
abbrev jw:=@List.drop_length
abbrev jx:=@List.mem_filter
abbrev jy:=@Nat.lt_of_le_of_lt
abbrev jz:=@Option.bind_some
abbrev jU:=@List.drop_zero
abbrev jV:=@List.map_append
abbrev jW:=@List.map_cons
abbrev kA:=@Array.length_toList
abbrev kB:=@List.drop_drop
abbrev kC:=@List.length_drop
abbrev kD:=@List.length_set
abbrev kE:=@List.pairwise_singleton
abbrev kF:=@Nat.min_eq_left
abbrev ll:=@Array.getElem?_eq_getElem
abbrev lm:=@List.all_eq_true
abbrev ln:=@Nat.add_zero
abbrev lp:=@Option.getD_some
abbrev lO:=@Bool.and_true
abbrev lP:=@List.foldl_append
abbrev lQ:=@Nat.one_mul
abbrev mU:=@List.getElem?_append_left
abbrev mV:=@List.getElem?_cons_zero
abbrev mW:=@List.mem_map
abbrev n8:=@List.map_congr_left
abbrev n9:=@List.take_append_of_le_length
abbrev od:=@List.take_zero
abbrev oe:=@Nat.lt_trichotomy
abbrev og:=@Nat.pow_succ
abbrev oh:=@Nat.shiftRight_eq_div_pow
abbrev om:=@Option.map_none
abbrev pU:=@List.flatMap_append
abbrev pV:=@List.flatMap_cons
abbrev pW:=@List.getElem?_append_right
abbrev pX:=@List.getElem?_cons_succ
abbrev pY:=@List.getElem?_set
abbrev pZ:=@decide_eq_false_iff_not
abbrev rz:=@Int.emod_eq_of_lt
abbrev rA:=@List.getElem?_drop
abbrev rB:=@List.idxOf_lt_length_of_mem
abbrev rC:=@List.pairwise_cons
abbrev rE:=@List.take_succ_cons
abbrev rF:=@List.take_take
abbrev rG:=@Nat.add_sub_cancel
abbrev rH:=@of_decide_eq_false
abbrev tL:=@List.cons.injEq
abbrev tM:=@List.take_of_length_le
abbrev wV:=@Array.getElem?_setIfInBounds
abbrev wW:=@List.drop_succ_cons
abbrev AI:=@Array.getElem?_eq_none
abbrev AJ:=@List.getElem?_take
abbrev AK:=@List.length_range
theorem Z5(a b:Nat)(h:a<b:=by omega):decide ((a:Int)<(b:Int))=true:=decide_eq_true (by omega)
theorem Z6(a:Nat):decide ((a:Int)<(a:Int))=false:=by simp
set_option maxHeartbeats 8000000
set_option linter.all false
variable{P:Prop}
theorem ah(h:P:=by kernel_rfl):P:=h
def ai(h:P:=by simp):P:=h
def O(h:P:=by omega):P:=h
def aR(h:P:=by decide):P:=h
def bC(h:P:=by simp only;omega):P:=h
namespace Go.Sx
open Go
abbrev PH:=Nat->Option Obj
def Sub(H:PH)(w:World):Prop:=∀b o,H b=some o->w.heap[b]?=some o
def PH.le(H H2:PH):Prop:=∀b o,H b=some o->H2 b=some o
def PH.emp:PH:=fun _=>none
def PH.le_refl(H:PH):H.le H:=fun _ _ h=>h
abbrev ax:=@PH.le_refl
def PH.le_trans{A B C:PH}(h:A.le B)(k:B.le C):A.le C:=fun b o x=>k b o (h b o x)
abbrev Y:=@PH.le_trans
variable{w:World}{H:PH}
def Sub.of_le{H2:PH}(s:Sub H2 w)(h:H.le H2):Sub H w:=fun b o x=>s b o (h b o x)
structure bN(H:PH)(w:World)(H2:PH)(w2:World):Prop where
 sub:Sub H2 w2
 size:w.heap.size<=w2.heap.size
 priv:∀b,b<w.heap.size->H b=none->w2.heap[b]?=w.heap[b]?
 dom:∀b,b<w.heap.size->H b=none->H2 b=none
 os:w2.os=w.os
 tape:w2.tape=w.tape
 out:w2.output=w.output
def bN.refl(s:Sub H w):bN H w H w:=⟨s,aW _,fun _ _ _=>rfl,fun _ _ h=>h,rfl,rfl,rfl⟩
def bN.trans{H2 H3:PH}{w2 w3:World}(a:bN H w H2 w2)(b:bN H2 w2 H3 w3):bN H w H3 w3 where
 sub:=b.sub
 size:=cO a.size b.size
 priv:=fun k c d=>by rw[b.priv k (Nat.lt_of_lt_of_le c a.size) (a.dom k c d),a.priv k c d]
 dom:=fun k c d=>b.dom k (Nat.lt_of_lt_of_le c a.size) (a.dom k c d)
 os:=b.os.trans a.os
 tape:=b.tape.trans a.tape
 out:=b.out.trans a.out
def aJ(P:Program)(f:FuncId)(args:Array Value)(H:PH)(Φ:Value->PH->Prop):Prop:=
 ∀w,Sub H w->Calls P f args w fun e w2=>match e with
  | .returned v=>∃H2,bN H w H2 w2/\Φ v H2
  |_=>False
variable{P:Program}
def aJ.mono{f:FuncId}{args:Array Value}{Φ Ψ:Value->PH->Prop}(h:aJ P f args H Φ)(k:∀v H2,Φ v H2->Ψ v H2):aJ P f args H Ψ:=
 fun w s=>(h w s).mono fun e w2 d=>by
  cases e with
  |returned v=>obtain⟨H2,a,b⟩:=d;exact⟨H2,a,k _ _ b⟩
  |outgrown=>exact d
  |panicked c=>exact d
inductive SV where
 |v (x:Value)
 |p (key off:Nat)
 |u
 deriving Inhabited
structure b9 where
 key:Nat
 ty:TypeId
 cs:List Value
structure St where
 tm:List SV
 bx:List b9
def eW:List SV->Nat->SV
 | [],_=>.u
 |x::_,0=>x
 |_::l,n+1=>eW l n
def fB:List SV->Nat->SV->List SV
 | [],_,_=>[]
 |_::l,0,y=>y::l
 |x::l,n+1,y=>x::fB l n y
def lB(l:List SV)(n:Nat):eW l n=(l[n]?).getD .u:=by
 induction l generalizing n with
 |nil=>simp[eW]
 |cons x l a=>cases n<;>simp[eW,a]
def wv(l:List SV)(n:Nat)(y:SV):(fB l n y).length=l.length:=by
 induction l generalizing n with
 |nil=>rfl
 |cons x l a=>cases n<;>simp[fB,a]
def n3(l:List SV)(n m:Nat)(y:SV):(fB l n y)[m]?=if n=m then (if n<l.length then some y else none)else l[m]?:=by
 induction l generalizing n m with
 |nil=>simp[fB]
 |cons x l a=>
  cases n with
  |zero=>cases m<;>simp[fB]
  |succ n=>cases m<;>simp[fB,a]
def dJ:List b9->Nat->Option b9
 | [],_=>none
 |b::l,k=>if b.key=k then some b else dJ l k
def dt:List b9->Nat->List b9
 | [],_=>[]
 |b::l,k=>if b.key=k then dt l k else b::dt l k
def di(x:b9):List b9->List b9
 | []=>[x]
 |b::l=>if b.key<x.key then b::di x l else x::b::l
def cE(k:Nat):SV->SV
 | .p a off=>if a=k then .u else .p a off
 |x=>x
def St.put(σ:St)(d:Option Nat)(y:SV):St:=
 match d with
 |some d=>{ σ with tm:=fB σ.tm d y }
 |none=>σ
def St.newBox(σ:St)(d:Nat)(T:TypeId)(cs:List Value):St:=
 { tm:=fB (σ.tm.map (cE d)) d (.p d 0),bx:=di ⟨d,T,cs⟩ (dt σ.bx d) }
def bi:List Value->Nat->List Value->List Value
 |l,_,[]=>l
 |l,n,c::cs=>bi (l.set n c) (n+1) cs
def jt:List b9->Nat->Nat->List Value->List b9
 | [],_,_,_=>[]
 |b::l,k,off,cs=>if b.key=k then { b with cs:=bi b.cs off cs }::l else b::jt l k off cs
def St.store(σ:St)(k off:Nat)(cs:List Value):St:={ σ with bx:=jt σ.bx k off cs }
def ev(σ:St):Operand->SV
 | .tmp t=>eW σ.tm t
 | .const v=>.v v
 | .global g=>.v (.pointer (some ⟨g,0,none⟩))
 | .func f=>.v (.func (.func f) #[] #[])
def ef(β:Nat->Nat):SV->Value->Prop
 | .v x,y=>y=x
 | .p k off,y=>y=.pointer (some ⟨β k,off,none⟩)
 | .u,_=>True
def kY(d:Nat):Deferred:={ target:=.collected d,args:=#[] }
def mX(n0:Nat)(H:PH)(a:List Deferred)(w:World):Prop:=∃ds:List Nat,a=ds.map kY/\ds.Nodup/\∀d∈ds,n0<=d/\H d=none/\w.heap[d]?=some (.deferred (some []))
variable{n0:Nat}
def mX.nil:mX n0 H [] w:=⟨[],rfl,List.nodup_nil,fun _ h=>(dH h).elim⟩
def mX.keep{H2:PH}{dl:List Deferred}{w2:World}(h:mX n0 H dl w)(k:∀d,n0<=d->H d=none->w.heap[d]?=some (.deferred (some []))->H2 d=none/\w2.heap[d]?=some (.deferred (some []))):mX n0 H2 dl w2:=by obtain⟨ds,e,n,h⟩:=h;exact⟨ds,e,n,fun d hd=>by obtain⟨a,b,c⟩:=h d hd;exact⟨a,k d a b c⟩⟩
structure GB(n0:Nat)(β:Nat->Nat)(σ:St)(H:PH)(a:Act)(w:World):Prop where
 defers:mX n0 H a.defers w
 size:a.tmps.size=σ.tm.length
 tm:∀t sv,σ.tm[t]?=some sv->ef β sv (a.tmps.getD t undef)
 bx:∀B∈σ.bx,w.heap[β B.key]?=some (.cells B.cs.toArray B.ty (0,0))/\H (β B.key)=none
 inj:∀B∈σ.bx,∀B'∈σ.bx,β B.key=β B'.key->B.key=B'.key
 lo:∀B∈σ.bx,n0<=β B.key
 keys:σ.bx.Pairwise (fun x y=>x.key≠y.key)
def G(n0:Nat)(σ:St)(H:PH)(a:Act)(w:World):Prop:=∃β,GB n0 β σ H a w
variable{a:Act}{σ:St}{β:Nat->Nat}
theorem GB.ev(g:GB n0 β σ H a w)(x:Operand):ef β (Sx.ev σ x) (a.eval x):=by
 cases x with
 |tmp t=>
  simp only[Sx.ev,Act.eval,lB];cases h:σ.tm[t]? with
  |none=>simp[ef]
  |some sv=>simpa using g.tm t sv h
 |const v=>rfl
 |global n=>rfl
 |func n=>rfl
variable{B:b9}{k:Nat}{l:List b9}
def x6(h:dJ l k=some B):B∈l/\B.key=k:=by
 induction l with
 |nil=>simp[dJ]at h
 |cons b l a=>
  simp only[dJ]at h;split at h
  .cases h;exact⟨.head _,by assumption⟩
  .obtain⟨h1,h2⟩:=a h;exact⟨.tail _ h1,h2⟩
variable{y:Value}{sv:SV}
theorem GB.put(g:GB n0 β σ H a w)(d:Option Nat)(h:ef β sv y):GB n0 β (σ.put d sv) H (a.put d y) w:=by
 cases d with
 |none=>exact g
 |some d=>
  refine⟨g.defers,?_,?_,g.bx,g.inj,g.lo,g.keys⟩
  .simp[Act.put,St.put,wv,g.size]
  .intro t x b;simp only[St.put,n3]at b;have c:=g.size;by_cases e:d=t
   .subst e;simp only[cY]at b;split at b
    .cases b
     rename_i f;simp only[Act.put,en];rw[Array.getElem?_setIfInBounds_self_of_lt O];simpa using h
    .cases b
   .simp only[ad e]at b;have:=g.tm t x b;simpa[Act.put,en,Array.getElem?_setIfInBounds_ne e]using this
def HZ:ef β .u y:=trivial
def a8(P:Program)(T:TypeId):Option (Option Nat):=
 match P.underlying T,P.info? T with
 |some (.struct _),some i=>some (some i.size)
 |some (.array _ _),some i=>some (some i.size)
 |some _,some i=>if i.size=1 then some none else none
 |_,_=>none
def aZ(P:Program)(T:TypeId):Option Value:=(P.info? T).bind (·.zero)
def bj(P:Program)(T:TypeId)(f:Nat):Option (Nat×TypeId):=
 match P.underlying T with
 |some (.struct a)=>match a[f]? with
  |some g=>match P.info? g.type with
   |some i=>if i.size=0 then none else some (g.offset,g.type)
   |none=>none
  |none=>none
 |_=>none
inductive qb where
 |arr (len size:Nat)
 |sl (size:Nat)
 |none
def br(P:Program)(T:TypeId):qb:=
 match P.underlying T with
 |some (.array n e)=>match P.info? e with|some i=>.arr n i.size|Option.none=>.none
 |some (.slice e)=>match P.info? e with|some i=>.sl i.size|Option.none=>.none
 |_=>.none
def one:Value->Bool
 | .agg _=>false
 | .tuple _=>false
 |_=>true
def jM:Value->Option (List Value)
 | .agg cs=>if cs.toList.all one then some cs.toList else none
 | .tuple _=>none
 |v=>some [v]
variable{v:Value}
def FJ{l:List Value}(h:jM v=some l):v.cells.toList=l/\∀c∈l,one c=true:=by
 cases v
 case agg cs=>
  simp only[jM]at h;split at h
  .cases h;rename_i a;exact⟨rfl,fun c b=>List.all_eq_true.1 a c b⟩
  .cases h
 case tuple cs=>cases h
 all_goals (simp only[jM,bv]at h;subst h;simp[one,Value.cells])
def gp(P:Program)(T:TypeId)(cs:List Value)(off:Nat):Option Value:=
 match a8 P T with
 |some (some n)=>if off+n<=cs.length then some (.agg ((cs.drop off).take n).toArray)else none
 |some none=>cs[off]?
 |none=>none
theorem run_loadCellsFrom(a:Addr)(n i:Nat)(b:Array Value)(xs:List Value)(c:xs.length=n)
  (h:∀j v,xs[j]?=some v->w.cell? (a.add (i+j))=some v) :
  (loadCellsFrom a i n b).run P w=.ok (b++xs.toArray) w:=by
 induction n generalizing i b xs with
 |zero=>cases xs with
  |nil=>simp[loadCellsFrom]
  |cons=>simp at c
 |succ n e=>
  cases xs with
  |nil=>simp at c
  |cons x xs=>
   have d:=h 0 x ai;rw[ln]at d;simp only[loadCellsFrom,load,bind,Sem.bind,Sem.run,d];have:=e (i+1) (b.push x) xs (by simpa using c) (fun j v f=>by
    have:=h (j+1) v (by simpa using f)
    rwa [show i+1+j=i+(j+1) from by omega])
   rw[this];simp
variable{d:TypeDesc}
def Ja{T:TypeId}(h:P.underlying T=some d):
  (isAgg T).run P w=.ok (match d with | .struct _ | .array _ _=>true|_=>false) w:=by
 simp only[isAgg,underlying,program,bind,Sem.bind,Sem.run,h,pure];cases d<;>simp[Sem.run]
def l5(b off n:Nat):(Addr.mk b off none).add n=⟨b,off+n,none⟩:=by unfold Addr.add;split<;>simp_all
variable{cs:List Value}{b:Nat}
def uB{T:TypeId}{fz:Nat×Nat}(h:w.heap[b]?=some (.cells cs.toArray T fz))(i:Nat):w.cell? ⟨b,i,none⟩=cs[i]?:=by simp[World.cell?,h]
def wl {P : Program} {w : World} {T : TypeId} {b off : Nat} {cs : List Value} {ty : TypeId} {v : Value} {fz : Nat × Nat}
    (hb : w.heap[b]? = some (.cells cs.toArray ty fz)) (h : gp P T cs off = some v) :
    (loadVar T ⟨b, off, none⟩).run P w = .ok v w := by
  unfold gp a8 at h
  have aggCase : ∀ (n : Nat) (i : TypeInfo), P.info? T = some i → i.size = n → (isAgg T).run P w = .ok true w → off + n ≤ cs.length →
      (loadVar T ⟨b, off, none⟩).run P w = .ok (.agg ((cs.drop off).take n).toArray) w := by
    intro n i hi hn aa ac
    simp only [loadVar, bY, aa, Result.andThen, cY, sizeOf, typeInfo, program, loadCells, Sem.run, hi]
    simp only [pure, Sem.run, hn]
    have := run_loadCellsFrom (P := P) (w := w) ⟨b, off, none⟩ n 0 #[] ((cs.drop off).take n) (by simp; omega) (fun j v hj => by
      rw [l5, uB hb, eR]
      rw [AJ] at hj
      split at hj
      · rw [rA] at hj; exact hj
      · cases hj)
    rw [this]; simp
  cases hu : P.underlying T with
  | none => rw [hu] at h; simp at h
  | some d =>
    rw [hu] at h
    cases hi : P.info? T with
    | none => rw [hi] at h; cases d <;> simp at h
    | some i =>
      rw [hi] at h
      have aa := Ja (P := P) (w := w) hu
      have one : (isAgg T).run P w = .ok false w → cs[off]? = some v → (loadVar T ⟨b, off, none⟩).run P w = .ok v w := by
        intro h1 h2
        simp only [loadVar, bY, h1, Result.andThen, load]
        simp [Sem.run, uB hb, h2]
      cases d <;> simp only at h aa <;>
        first
        | (split at h
           · rename_i ac; cases h; exact aggCase i.size i hi rfl aa ac
           · cases h)
        | (by_cases h1 : i.size = 1
           · simp only [h1, cY] at h; exact one aa h
           · simp only [h1, gT] at h; cases h)
def j8(k:IntKind)(a b:Int):Int:=k.wrap (BitVec.ofInt k.bits a&&&BitVec.ofInt k.bits b).toNat
def sY(k:IntKind)(a b:Int):Int:=k.wrap (BitVec.ofInt k.bits a|||BitVec.ofInt k.bits b).toNat
def ry(k:IntKind)(a b:Int):Int:=k.wrap (BitVec.ofInt k.bits a ^^^ BitVec.ofInt k.bits b).toNat
def mC(k:IntKind)(a b:Int):Int:=k.wrap (a*2^(min b.toNat k.bits))
def kw(k:IntKind)(a b:Int):Int:=a.fdiv (2^(min b.toNat k.bits))
def ut(k:IntKind)(a b:Int):Int:=k.wrap (BitVec.ofInt k.bits a&&&~~~ BitVec.ofInt k.bits b).toNat
def ux(op:BinOp)(x y:Value):Option Value:=
 match x,y with
 | .int k a,.int c b=>
  match op with
  | .shl=>if 0<=b then some (.int k (mC k a b))else none
  | .shr=>if 0<=b then some (.int k (kw k a b))else none
  | .add=>if k=c then some (.int k (k.wrap (a+b)))else none
  | .sub=>if k=c then some (.int k (k.wrap (a-b)))else none
  | .mul=>if k=c then some (.int k (k.wrap (a*b)))else none
  | .quo=>if k=c then (if b=0 then none else some (.int k (k.wrap (a.tdiv b))))else none
  | .rem=>if k=c then (if b=0 then none else some (.int k (a.tmod b)))else none
  | .and=>if k=c then some (.int k (j8 k a b))else none
  | .or=>if k=c then some (.int k (sY k a b))else none
  | .xor=>if k=c then some (.int k (ry k a b))else none
  | .andNot=>if k=c then some (.int k (ut k a b))else none
  | .eql=>if k=c then some (.bool (a == b))else none
  | .neq=>if k=c then some (.bool (a != b))else none
  | .lss=>if k=c then some (.bool (a<b))else none
  | .leq=>if k=c then some (.bool (a<=b))else none
  | .gtr=>if k=c then some (.bool (a>b))else none
  | .geq=>if k=c then some (.bool (a>=b))else none
 | .string a,.string b=>
  match op with
  | .eql=>some (.bool (a.toList == b.toList))
  | .neq=>some (.bool (!(a.toList == b.toList)))
  | .lss=>some (.bool (Op.bytesLess a.toList b.toList))
  | .leq=>some (.bool (Op.bytesLess a.toList b.toList || a.toList == b.toList))
  | .gtr=>some (.bool (!(Op.bytesLess a.toList b.toList || a.toList == b.toList)))
  | .geq=>some (.bool (!(Op.bytesLess a.toList b.toList)))
  |_=>none
 |_,_=>none
def Uo {P : Program} {w : World} {op : BinOp} {T : TypeId} {x y v : Value} {ox oy : Operand} (h : ux op x y = some v) :
    (do eqGuard op T ox oy x y; binOp op T x y : Sem Value).run P w = .ok v w := by
  unfold ux at h
  split at h
  · rename_i k a k' b
    cases op <;> simp only at h <;> first
      | (cases h; done)
      | (split at h
         · rename_i hk
           first
             | (split at h
                · cases h
                · rename_i hb
                  cases h
                  subst hk
                  simp [eqGuard, binOp, Op.intDiv, Sem.run, pure, hb])
             | cases h
           try first
             | (subst hk; simp [eqGuard, binOp, Op.intArith, Op.intBits, Op.intCmp, Sem.run, pure, j8, sY, ry, ut])
             | (simp [eqGuard, binOp, Op.shift, Sem.run, pure, Int.not_lt.2 hk, mC, kw])
         · cases h)
  · cases op <;> simp only [bv] at h <;> first
      | (cases h; done)
      | (subst h; simp [eqGuard, binOp, Op.stringOp, Sem.run, pure])
  · cases h
def Ix(k:IntKind):Int:=if k.signed then -1 else k.max
def wO(op:UnOp)(x:Value):Option Value:=
 match op,x with
 | .not,.bool b=>some (.bool !b)
 | .neg,.int k n=>some (.int k (k.wrap (0-n)))
 | .xor,.int k n=>some (.int k (ry k (Ix k) n))
 |_,_=>none
variable{x:Value}
def Uw{op:UnOp}(h:wO op x=some v):(Op.unary op x).run P w=.ok v w:=by unfold wO at h;split at h<;>cases h<;>simp[Op.unary,Op.intArith,Op.intBits,ry,Ix,pure]
def bk(P:Program)(T:TypeId):Option Nat:=(P.info? T).map (·.size)
def s6(P:Program)(T:TypeId)(i:Nat):Option (Nat×Nat):=
 match bj P T i with
 |some (off,ty)=>(bk P ty).map fun s=>(off,s)
 |none=>none
def jP(a:Nat->Option (Nat×Nat))(cells:List Value):List (Nat×Value)->Option (List Value)
 | []=>some cells
 |(i,v)::rest=>
  match a i with
  |none=>none
  |some (off,size)=>if v.cells.toList.length=size/\off+size<=cells.length then jP a (bi cells off v.cells.toList) rest else none
def eJ(l:List Value)(off:Nat)(cs:List Value):(bi l off cs).length=l.length:=by
 induction cs generalizing l off with
 |nil=>rfl
 |cons c cs a=>simp[bi,a]
def OD(cells:Array Value)(off j:Nat)(cs:List Value):
  ((cs.zipIdx j).foldl (fun(a:Array Value) (x:Value×Nat)=>a.setIfInBounds (off+x.2) x.1) cells).toList=bi cells.toList (off+j) cs:=by
 induction cs generalizing cells j with
 |nil=>rfl
 |cons c cs b=>simp only[List.zipIdx_cons,List.foldl_cons,bi];rw[b];simp[Nat.add_assoc]
def B3{place pl':Nat->Option (Nat×Nat)}{cells:Array Value}{parts:List (Nat×Value)}{r:List Value}
  (hp:∀i x,place i=some x->pl' i=some x) (h:jP place cells.toList parts=some r) :
  Instr.fill pl' cells parts=some r.toArray:=by
 induction parts generalizing cells with
 |nil=>simp only[jP,bv]at h;subst h;simp[Instr.fill]
 |cons x rest b=>
  obtain⟨i,v⟩:=x;simp only[jP]at h;split at h
  .cases h
  .rename_i off size a;split at h
   .rename_i c;obtain⟨h1,h2⟩:=c;simp only[kA]at h1 h2;simp only[Instr.fill,hp _ _ a];rw[ad (by simp[h1];omega)];apply b;rw[<-h,<-Array.foldl_toList];congr 1;have:=OD cells off 0 v.cells.toList;simpa using this
   .cases h
def Uu{α β:Type}(f:α->Sem β)(g:α->β)(l:List α)(h:∀x∈l,(f x).run P w=.ok (g x) w):
  (l.mapM f).run P w=.ok (l.map g) w:=by
 induction l with
 |nil=>simp
 |cons x l a=>simp only[List.mapM_cons,bY,h x (.head _),Result.andThen,a fun y b=>h y (.tail _ b)];simp
def dD(P:Program)(T:TypeId):Bool:=
 match P.underlying T with
 |some (.struct a)=>a.toList.all fun f=>(P.info? f.type).isSome
 |_=>false
def sn(P:Program)(T:TypeId)(parts:List (Nat×Value)):Option Value:=
 match aZ P T with
 |none=>none
 |some z=>
  match br P T with
  | .arr _ size=>(jP (fun i=>some (i*size,size)) z.cells.toList parts).map fun l=>.agg l.toArray
  |_=>if dD P T then (jP (s6 P T) z.cells.toList parts).map fun l=>.agg l.toArray else none
theorem run_build{T:TypeId}{parts:Array (Nat×Value)}(h:sn P T parts.toList=some v):
  (Instr.build T parts).run P w=.ok v w:=by
 unfold sn at h;cases c:aZ P T with
 |none=>rw[c]at h;cases h
 |some z=>
  rw[c]at h;simp only at h;unfold aZ at c;cases hi:P.info? T with
  |none=>rw[hi]at c;cases c
  |some i=>
   rw[hi]at c;simp only[jz]at c;have A:(zeroValue T).run P w=.ok z w:=by simp[zeroValue,typeInfo,program,Sem.run,hi,c]
   unfold br at h;cases b:P.underlying T with
   |none=>rw[b]at h;simp[dD,b]at h
   |some d=>
    rw[b]at h;have q:(underlying T).run P w=.ok d w:=by simp[underlying,program,Sem.run,b]
    cases d<;>simp only at h<;>try (simp[dD,b]at h;done)
    case slice e=>cases r:P.info? e<;>simp[r,dD,b]at h
    case array n e=>
     cases r:P.info? e with
     |none=>rw[r]at h;simp[dD,b]at h
     |some u=>
      rw[r]at h;simp only[hH]at h;obtain⟨l,y,rfl⟩:=h;have sz:(sizeOf e).run P w=.ok u.size w:=by simp[sizeOf,typeInfo,program,Sem.run,r]
      have hf:=B3 (pl':=fun i=>some (i*u.size,u.size)) (cells:=z.cells) (fun i x m=>m) y;simp only[Instr.build,bY,A,Result.andThen,q,sz,hf];simp
    case struct s=>
     split at h
     case isFalse=>cases h
     rename_i k;simp only[hH]at h;obtain⟨l,y,rfl⟩:=h;simp only[dD,b]at k;have p:∀f∈s.toList,(P.info? f.type).isSome=true:=List.all_eq_true.1 k;have hm:(s.mapM fun f=>(do pure (f.offset,<-sizeOf f.type):Sem (Nat×Nat))).run P w=.ok (s.map fun f=>(f.offset,((P.info? f.type).map (·.size)).getD 0)) w:=by
      rw[Array.mapM_eq_mapM_toList];simp only[Sem.run_map];rw[Uu _ (fun f=>(f.offset,((P.info? f.type).map (·.size)).getD 0))]
      .simp[Result.andThen,<-Array.toList_map]
      .intro f hf;obtain⟨j,B⟩:=Option.isSome_iff_exists.1 (p f hf);simp[sizeOf,typeInfo,program,Sem.run,B]
     have hf:=B3 (pl':=fun i=>(s.map fun f=>(f.offset,((P.info? f.type).map (·.size)).getD 0))[i]?) (cells:=z.cells) (fun i x m=>by
      unfold s6 at m;split at m
      case h_2=>cases m
      rename_i off ty a;unfold bj at a;rw[b]at a;simp only at a;cases o:s[i]? with
      |none=>rw[o]at a;cases a
      |some g=>
       rw[o]at a;simp only at a;cases t:P.info? g.type with
       |none=>rw[t]at a;cases a
       |some j=>
        rw[t]at a;simp only at a;split at a
        .cases a
        .cases a
         simp only[bk,t,fO,bv]at m;subst m;simp[o,t]) y
     simp only[Instr.build,bY,A,Result.andThen,q,hm,hf];simp
def d8(ρ:Operand->SV):List Operand->Option (List Value)
 | []=>some []
 |x::l=>match ρ x,d8 ρ l with
  | .v a,some r=>some (a::r)
  |_,_=>none
def gm(ρ:Operand->SV):List (Nat×Operand)->Option (List (Nat×Value))
 | []=>some []
 |(i,x)::l=>match ρ x,gm ρ l with
  | .v a,some r=>some ((i,a)::r)
  |_,_=>none
inductive Kd where
 |int (k:IntKind)
 |str
 |sl
 |other
def bm(P:Program)(T:TypeId):Kd:=
 match P.underlying T with
 |some (.int k)=>.int k
 |some .string=>.str
 |some (.slice _)=>.sl
 |_=>.other
def sP(P:Program)(T:TypeId)(x:Value):Option Value:=
 match bm P T,x with
 | .sl,.slice _ n _=>some (.int .i64 n)
 | .str,.string s=>some (.int .i64 s.size)
 |_,_=>none
def sw(P:Program)(T:TypeId)(x:Value):Option Value:=
 match bm P T,x with
 | .sl,.slice _ _ n=>some (.int .i64 n)
 |_,_=>none
def pD(x y:Value):Option Value:=
 match x,y with
 | .int k a,.int _ b=>some (.int k (if b<a then b else a))
 |_,_=>none
def vD(x y:Value):Option Value:=
 match x,y with
 | .int k a,.int _ b=>some (.int k (if a<b then b else a))
 |_,_=>none
def uG(P:Program)(T:TypeId)(x:Value):Option Value:=
 match bm P T,x with
 | .int k,.int _ n=>some (.int k (k.wrap n))
 |_,_=>none
def bE(P:Program)(T:TypeId):Bool:=(P.underlying T).isSome
def vW(P:Program)(bx:List b9)(T:TypeId):SV->Option (Prop×SV)
 | .p k off=>match dJ bx k with
  |some B=>match gp P T B.cs off with
   |some v=>some (True,.v v)
   |none=>none
  |none=>none
 |_=>none
def vU(n:Nat):SV->Option (Prop×SV)
 | .p k off=>some (True,.p k (off+n))
 | .v (.pointer (some ⟨b,off,none⟩))=>some (True,.v (.pointer (some ⟨b,off+n,none⟩)))
 |_=>none
def vX:SV->Option (Prop×SV)
 | .p k off=>some (True,.p k off)
 | .v (.pointer (some a))=>some (True,.v (.pointer (some a)))
 |_=>none
def qN(e:qb)(x i:SV):Option (Prop×SV):=
 match e,x,i with
 | .arr len size,.p k off,.v (.int _ n)=>some (0<=n/\n<len,.p k (off+n.toNat*size))
 | .arr len size,.v (.pointer (some ⟨b,off,none⟩)),.v (.int _ n)=>some (0<=n/\n<len,.v (.pointer (some ⟨b,off+n.toNat*size,none⟩)))
 | .sl size,.v (.slice (some ⟨b,off,none⟩) len _),.v (.int _ n)=>some (0<=n/\n<len,.v (.pointer (some ⟨b,off+n.toNat*size,none⟩)))
 |_,_,_=>none
def ss(s:ByteArray)(n:Nat):Nat:=(s.data.toList.getD n 0).toNat
def vV(k:Kd)(x i:SV):Option (Prop×SV):=
 match k,x,i with
 | .str,.v (.string s),.v (.int _ n)=>some (0<=n/\n<s.size,.v (.int .u8 (ss s n.toNat)))
 |_,_,_=>none
def fA(x:Option Value):Option (Prop×SV):=
 match x with
 |some v=>some (True,.v v)
 |none=>none
def jn(P:Program)(ρ:Operand->SV)(c:Call):Option (Prop×SV):=
 match c.callee,c.args.toList,c.argTypes.toList with
 | .builtin .len,[x],[t]=>match ρ x with | .v a=>fA (sP P t a)|_=>none
 | .builtin .cap,[x],[t]=>match ρ x with | .v a=>fA (sw P t a)|_=>none
 | .builtin .min,[x,y],_=>match ρ x,ρ y with | .v a,.v b=>fA (pD a b)|_,_=>none
 | .builtin .max,[x,y],_=>match ρ x,ρ y with | .v a,.v b=>fA (vD a b)|_,_=>none
 |_,_,_=>none
def eZ(a:Option Addr)(size l cap:Nat):Option Addr:=if cap=l then a else a.map (·.add (l*size))
def ig(n:Nat):Option SV->Option Int
 |none=>some n
 |some (.v (.int _ i))=>some i
 |_=>none
def ku(k:Kd)(e:qb)(x:SV)(lo hi:Option SV):Option (Prop×SV):=
 match k,e,x with
 | .sl,.sl size,.v (.slice a len cap)=>match ig 0 lo,ig len hi,hi with
  |some l,some h,some _=>some ((0<=l/\l<=h)/\h<=cap,.v (.slice (eZ a size l.toNat cap) (h.toNat-l.toNat) (cap-l.toNat)))
  |some l,some h,none=>some (0<=l/\l<=h,.v (.slice (eZ a size l.toNat cap) (h.toNat-l.toNat) (cap-l.toNat)))
  |_,_,_=>none
 | .str,_,.v (.string s)=>match ig 0 lo,ig s.size hi with
  |some l,some h=>some ((0<=l/\l<=h)/\h<=s.size,.v (.string (s.extract l.toNat h.toNat)))
  |_,_=>none
 |_,_,_=>none
def pv(P:Program)(bx:List b9)(ρ:Operand->SV)(op:Op):Option (Prop×SV):=
 match op with
 | .move x | .assign x=>match ρ x with | .u=>none|sv=>some (True,sv)
 | .pick c x y=>match ρ c with | .v (.bool b)=>some (True,if b then ρ x else ρ y)|_=>none
 | .load T x=>vW P bx T (ρ x)
 | .fieldAddr T x f=>match bj P T f with|some (n,_)=>vU n (ρ x)|none=>none
 | .nilCheck x=>vX (ρ x)
 | .indexAddr T x i=>qN (br P T) (ρ x) (ρ i)
 | .index T x i=>vV (bm P T) (ρ x) (ρ i)
 | .field T x f=>match bj P T f,ρ x with|some (n,ty),.v (.agg cs)=>fA (gp P ty cs.toList n)|_,_=>none
 | .extract x n=>match ρ x with | .v (.tuple e)=>fA e.toList[n]?|_=>none
 | .build T ps=>match gm ρ ps.toList with|some l=>fA (sn P T l)|none=>none
 | .binOp op _ x y _=>match ρ x,ρ y with | .v a,.v b=>fA (ux op a b)|_,_=>none
 | .unOp op _ x=>match ρ x with | .v a=>fA (wO op a)|_=>none
 | .convert s d x=>match bE P s,ρ x with|true,.v a=>fA (uG P d a)|_,_=>none
 | .makeFunc fn f c=>match d8 ρ f.toList,d8 ρ c.toList with|some l,some m=>some (True,.v (.func fn l.toArray m.toArray))|_,_=>none
 | .call c=>jn P ρ c
 | .slice T x lo hi none=>ku (bm P T) (br P T) (ρ x) (lo.map ρ) (hi.map ρ)
 |_=>none
variable{φ:Prop}
def ij{x:Option Value}(h:fA x=some (φ,sv)):∃v,x=some v/\sv=.v v:=by
 cases x with
 |none=>cases h
 |some v=>cases h;exact⟨v,rfl,rfl⟩
def Br{n0:Nat}{β:Nat->Nat}{σ:St}{H:PH}{a:Act}{w:World}(g:GB n0 β σ H a w):∀(l:List Operand) (r:List Value),d8 (ev σ) l=some r->l.map a.eval=r
 | [],r,h=>by cases h;rfl
 |x::l,r,h=>by
  simp only[d8]at h;split at h
  .rename_i y c b hr;cases h
   have:=g.ev x;rw[b]at this;simp only[ef]at this;simp[this,Br g l _ hr]
  .cases h
def Fm{n0:Nat}{β:Nat->Nat}{σ:St}{H:PH}{a:Act}{w:World}(g:GB n0 β σ H a w):∀(l:List (Nat×Operand)) (r:List (Nat×Value)),gm (ev σ) l=some r->l.map (fun x=>(x.1,a.eval x.2))=r
 | [],r,h=>by cases h;rfl
 |(i,x)::l,r,h=>by
  simp only[gm]at h;split at h
  .rename_i y c b hr;cases h
   have:=g.ev x;rw[b]at this;simp only[ef]at this;simp[this,Fm g l _ hr]
  .cases h
def Gj{T:TypeId}{f n:Nat}{ty:TypeId}(h:bj P T f=some (n,ty))(b off:Nat):
  (Instr.fieldAt T (.pointer (some ⟨b,off,none⟩)) f).run P w=.ok (.pointer (some ⟨b,off+n,none⟩)) w:=by
 unfold bj at h;split at h
 .rename_i j d;split at h
  .rename_i g e;split at h
   .rename_i i hi;split at h
    .cases h
    .rename_i c;cases h
     have a:(underlying T).run P w=.ok (.struct j) w:=by simp[underlying,program,Sem.run,d]
     have sz:(sizeOf g.type).run P w=.ok i.size w:=by simp[sizeOf,typeInfo,program,Sem.run,hi]
     simp only[Instr.fieldAt,bY,a,Result.andThen,e,Instr.sureAddr];simp[fieldPlace,bY,sz,Result.andThen,c,l5]
   .cases h
  .cases h
 .cases h
def nY {P : Program} {w : World} {T : TypeId} {cs : Array Value} {n : Nat} {v : Value} (h : gp P T cs.toList n = some v) : (part T cs n).run P w = .ok v w := by
  unfold gp a8 at h
  cases hu : P.underlying T with
  | none => rw [hu] at h; simp at h
  | some d =>
    rw [hu] at h
    cases hi : P.info? T with
    | none => rw [hi] at h; cases d <;> simp at h
    | some i =>
      rw [hi] at h
      have aa := Ja (P := P) (w := w) hu
      have one : (isAgg T).run P w = .ok false w → cs[n]? = some v → (part T cs n).run P w = .ok v w := by
        intro h1 h2
        simp only [part, bY, h1, Result.andThen, h2]
        simp
      have agg : (isAgg T).run P w = .ok true w → (part T cs n).run P w = .ok (.agg ((cs.toList.drop n).take i.size).toArray) w := by
        intro h1
        have sz : (sizeOf T).run P w = .ok i.size w := by simp [sizeOf, typeInfo, program, Sem.run, hi]
        simp [part, h1, Result.andThen, sz]
        rw [← jb]
        simp [List.extract_eq_take_drop]
      cases d <;> simp only at h aa <;>
        first
        | (split at h
           · cases h; exact agg aa
           · cases h)
        | (by_cases h1 : i.size = 1
           · simp only [h1, cY] at h; exact one aa (by simpa using h)
           · simp only [h1, gT] at h; cases h)
def dK{T:TypeId}(h:P.underlying T=some d):(underlying T).run P w=.ok d w:=by simp[underlying,program,Sem.run,h]
def Us{T:TypeId}{e:qb}(a:br P T=e){x i:SV}{vx vi:Value}
  (h:qN e x i=some (φ,sv)) (j:φ) (f:ef β x vx) (hi:ef β i vi) :
  ∃y,(Instr.indexAt T vx vi).run P w=.ok y w/\ef β sv y:=by
 unfold br at a;unfold qN at h;split at h
 .rename_i len size k off l n;cases h
  simp only[ef]at f hi;subst f;subst hi;split at a
  .rename_i m e' d;split at a
   .rename_i g c;cases a
    have sz:(sizeOf e').run P w=.ok g.size w:=by simp[sizeOf,typeInfo,program,Sem.run,c]
    refine⟨_,?_,rfl⟩;simp only[Instr.indexAt,bY,asIntOf,dK d];simp[Result.andThen,Instr.sureAddr,dK d,j,sz,l5]
   .cases a
  .split at a<;>cases a
  .cases a
 .rename_i len size b off l n;cases h
  simp only[ef]at f hi;subst f;subst hi;split at a
  .rename_i m e' d;split at a
   .rename_i g c;cases a
    have sz:(sizeOf e').run P w=.ok g.size w:=by simp[sizeOf,typeInfo,program,Sem.run,c]
    refine⟨_,?_,rfl⟩;simp only[Instr.indexAt,bY,asIntOf,dK d];simp[Result.andThen,Instr.sureAddr,dK d,j,sz,l5]
   .cases a
  .split at a<;>cases a
  .cases a
 .rename_i size b off len cap l n;cases h
  simp only[ef]at f hi;subst f;subst hi;split at a
  .split at a<;>cases a
  .rename_i e' d;split at a
   .rename_i g c;cases a
    have sz:(sizeOf e').run P w=.ok g.size w:=by simp[sizeOf,typeInfo,program,Sem.run,c]
    refine⟨_,?_,rfl⟩;simp only[Instr.indexAt,bY,asIntOf,dK d];simp[Result.andThen,dK d,j,sz,l5]
   .cases a
  .cases a
 .cases h
def oV{n:Nat}{s:SV}{i:Int}(h:ig n (some s)=some i):∃k,s=.v (.int k i):=by
 cases s with
 |v x=>cases x<;>simp only[ig]at h<;>first|(cases h;done)|(cases h;exact⟨_,rfl⟩)
 |p k off=>simp[ig]at h
 |u=>simp[ig]at h
def me{k:IntKind}{i:Int}{y:Nat}{code:BoundsCode}(b:0<=i)(a:i<=y):(Instr.sliceBound (.int k i) y code).run P w=.ok i.toNat w:=by simp[Instr.sliceBound,asIntOf,Result.andThen,b,a]
def dC(g:GB n0 β σ H a w){x:Operand}(h:ev σ x=.v v):a.eval x=v:=by have:=g.ev x;rw[h]at this;exact this
def HV{ρ:Operand->Value}{xs:Array Operand}{l:List Value}(h:xs.toList.map ρ=l):xs.map ρ=l.toArray:=by rw[<-jb];simpa using h
variable{τ:TypeId}
def Ut{T:TypeId}(h:sP P T x=some v):(Builtin.len_ #[T] τ #[x]).run P w=.ok v w:=by
 unfold sP at h;split at h
 .rename_i a;cases h
  unfold bm at a;split at a<;>cases a;rename_i b;simp[Builtin.len_,dK b,Result.andThen,goInt]
 .rename_i a;cases h
  unfold bm at a;split at a<;>cases a;rename_i b;simp[Builtin.len_,dK b,Result.andThen,goInt]
 .cases h
def Up{T:TypeId}(h:sw P T x=some v):(Builtin.cap_ #[T] τ #[x]).run P w=.ok v w:=by
 unfold sw at h;split at h
 .rename_i a;cases h
  unfold bm at a;split at a<;>cases a;rename_i b;simp[Builtin.cap_,dK b,Result.andThen,goInt]
 .cases h
def DP(h:pD x y=some v):(Builtin.min2 x y).run P w=.ok v w:=by
 unfold pD at h;split at h
 .cases h;simp[Builtin.min2]
 .cases h
def Uv(h:vD x y=some v):(Builtin.max2 x y).run P w=.ok v w:=by
 unfold vD at h;split at h
 .cases h;simp[Builtin.max2]
 .cases h
def Uq{S T:TypeId}(a:∃d,P.underlying S=some d)(h:uG P T x=some v):(convert S T x).run P w=.ok v w:=by
 obtain⟨ds,a⟩:=a;unfold uG at h;split at h
 .rename_i b;cases h
  unfold bm at b;split at b<;>cases b;rename_i c;simp[convert,dK c,dK a,Result.andThen,Conv.intToInt]
 .cases h
variable{o:Oper}
def TY(g:GB n0 β σ H a w){c:Call}(d:o.op=.call c)
  (h:jn P (ev σ) c=some (φ,sv)):∃y,(execOp a.eval o).run P w=.ok (.value y) w/\ef β sv y:=by
 obtain⟨callee,args,types⟩:=c;unfold jn at h;simp only at h;split at h
 .rename_i x t ha ht;obtain rfl:args=#[x]:=by rw[<-jb];simpa using ha
  obtain rfl:types=#[t]:=by rw[<-jb];simpa using ht
  split at h
  .rename_i v hv;obtain⟨r,hr,rfl⟩:=ij h;refine⟨r,?_,rfl⟩;simp[execOp,d,resolve,dC g hv,invoke,builtin,Result.andThen,Ut hr]
  .cases h
 .rename_i x t ha ht;obtain rfl:args=#[x]:=by rw[<-jb];simpa using ha
  obtain rfl:types=#[t]:=by rw[<-jb];simpa using ht
  split at h
  .rename_i v hv;obtain⟨r,hr,rfl⟩:=ij h;refine⟨r,?_,rfl⟩;simp[execOp,d,resolve,dC g hv,invoke,builtin,Result.andThen,Up hr]
  .cases h
 .rename_i x y ha;obtain rfl:args=#[x,y]:=by rw[<-jb];simpa using ha
  split at h
  .rename_i v e hv b;obtain⟨r,hr,rfl⟩:=ij h;refine⟨r,?_,rfl⟩;simp[execOp,d,resolve,dC g hv,dC g b,invoke,builtin,Builtin.min_,Result.andThen,DP hr]
  .cases h
 .rename_i x y ha;obtain rfl:args=#[x,y]:=by rw[<-jb];simpa using ha
  split at h
  .rename_i v e hv b;obtain⟨r,hr,rfl⟩:=ij h;refine⟨r,?_,rfl⟩;simp[execOp,d,resolve,dC g hv,dC g b,invoke,builtin,Builtin.max_,Result.andThen,Uv hr]
  .cases h
 .cases h
def T5(g:GB n0 β σ H a w)
  (h:pv P σ.bx (ev σ) o.op=some (φ,sv)) (C:φ):∃y,(execOp a.eval o).run P w=.ok (.value y) w/\ef β sv y:=by
 obtain⟨dst,op,type,U,after,guard⟩:=o;simp only at h;have mv:∀(x:Operand),(match ev σ x with | .u=>(none:Option (Prop×SV))|sv=>some (True,sv))=some (φ,sv)->ef β sv (a.eval x):=by intro x j;have:=g.ev x;cases K:ev σ x<;>rw[K]at j this<;>cases j<;>exact this
 cases op<;>simp only[pv]at h<;>try (cases h;done)
 case move x=>exact⟨a.eval x,by simp[execOp],mv x h⟩
 case assign x=>exact⟨a.eval x,by simp[execOp],mv x h⟩
 case pick c x y=>
  split at h
  .rename_i b hb;cases h
   cases b
   .exact⟨a.eval y,by simp[execOp,dC g hb,asBool],g.ev y⟩
   .exact⟨a.eval x,by simp[execOp,dC g hb,asBool],g.ev x⟩
  .cases h
 case load T x=>
  unfold vW at h;split at h
  .rename_i k off j;split at h
   .rename_i B hB;split at h
    .rename_i v hv;cases h
     obtain⟨hm,rfl⟩:=x6 hB;have ha:=g.ev x;rw[j]at ha;simp only[ef]at ha;refine⟨v,?_,rfl⟩;have:=wl (P:=P) (w:=w) (off:=off) (g.bx B hm).1 hv;simp[execOp,ha,Instr.loadAt,Instr.sureAddr,this,Result.andThen]
    .cases h
   .cases h
  .cases h
 case fieldAddr T x f=>
  split at h
  .rename_i n ty hf;unfold vU at h;split at h
   .rename_i k off j;cases h
    have ha:=g.ev x;rw[j]at ha;simp only[ef]at ha;exact⟨_,by simp[execOp,ha,Gj hf,Result.andThen],rfl⟩
   .rename_i b off j;cases h
    exact⟨_,by simp[execOp,dC g j,Gj hf,Result.andThen],rfl⟩
   .cases h
  .cases h
 case nilCheck x=>
  unfold vX at h;split at h
  .rename_i k off j;cases h
   have ha:=g.ev x;rw[j]at ha;simp only[ef]at ha;exact⟨_,by simp[execOp,ha],rfl⟩
  .rename_i p j;cases h
   exact⟨_,by simp[execOp,dC g j],rfl⟩
  .cases h
 case indexAddr T x i=>
  obtain⟨y,V,hm⟩:=Us (P:=P) (w:=w) (T:=T) rfl h C (g.ev x) (g.ev i);exact⟨y,by simp[execOp,V,Result.andThen],hm⟩
 case index T x i=>
  unfold vV at h;split at h
  .rename_i s k n G j hi;cases h
   unfold bm at G;split at G<;>cases G;rename_i z;refine⟨_,?_,rfl⟩;obtain⟨M,h1⟩:=C;obtain⟨m,rfl⟩:=Int.eq_ofNat_of_zero_le M;have hm:m<s.size:=O;have hg:s[m]?=some s[m]:=by simp[hm]
   have hb:(s.data.toList.getD m 0)=s[m]:=by have:m<s.data.size:=hm;simp[ll this];rfl
   simp only[execOp,Instr.index,bY,asIntOf,dC g j,dC g hi,dK z];simp[Result.andThen,hm,ss,hb];rfl
  .cases h
 case field T x f=>
  split at h
  .rename_i n ty cs hf j;obtain⟨r,hr,rfl⟩:=ij h;refine⟨r,?_,rfl⟩;unfold bj at hf;split at hf
   .rename_i fs z;split at hf
    .rename_i g' hg;split at hf
     .split at hf
      .cases hf
      .cases hf
       simp[execOp,Instr.field,dK z,Result.andThen,hg,dC g j,asAgg,nY hr]
     .cases hf
    .cases hf
   .cases hf
  .cases h
 case extract x n=>
  split at h
  .rename_i vs j;obtain⟨r,hr,rfl⟩:=ij h;refine⟨r,?_,rfl⟩;have W:vs[n]?=some r:=by simpa using hr
   simp[execOp,Instr.extract,dC g j,W,Result.andThen]
  .cases h
 case build T ps=>
  split at h
  .rename_i l A;obtain⟨r,hr,rfl⟩:=ij h;refine⟨r,?_,rfl⟩;have hp:=Fm g _ _ A;have:(ps.map fun(i,x)=>(i,a.eval x))=l.toArray:=by rw[<-jb];simpa using hp
   have hb:=run_build (P:=P) (w:=w) (T:=T) (parts:=l.toArray) (by simpa using hr);simp only[execOp,this,bY,hb];simp[Result.andThen]
  .cases h
 case binOp op T x y T'=>
  split at h
  .rename_i v v' j V;obtain⟨r,hr,rfl⟩:=ij h;refine⟨r,?_,rfl⟩;have:=Uo (P:=P) (w:=w) (T:=T) (ox:=x) (oy:=y) hr;simp only[execOp,dC g j,dC g V,bY]at this |-;rw[this];simp[Result.andThen]
  .cases h
 case unOp op T x=>
  split at h
  .rename_i v j;obtain⟨r,hr,rfl⟩:=ij h;exact⟨r,by simp[execOp,dC g j,Uw hr,Result.andThen],rfl⟩
  .cases h
 case convert s d x=>
  split at h
  .rename_i v F j;obtain⟨r,hr,rfl⟩:=ij h;exact⟨r,by simp[execOp,dC g j,Uq (P:=P) (w:=w) (Option.isSome_iff_exists.1 F) hr,Result.andThen],rfl⟩
  .cases h
 case makeFunc fn f c=>
  split at h
  .rename_i l m A hm;cases h
   refine⟨_,?_,rfl⟩;simp[execOp,HV (Br g _ _ A),HV (Br g _ _ hm),Instr.makeFunc,Result.andThen]
  .cases h
 case slice T x lo hi mx=>
  cases mx with
  |some m=>cases h
  |none=>
   simp only at h;unfold ku at h;split at h
   .rename_i size aa len cap G K j;unfold bm at G;split at G<;>cases G;rename_i e z;have J:(sizeOf e).run P w=.ok size w:=by
     unfold br at K;rw[z]at K;simp only at K;split at K
     .rename_i ie Z;cases K;simp[sizeOf,typeInfo,program,Sem.run,Z]
     .cases K
    have t:=dC g j;cases lo with
    |none=>
     cases hi with
     |none=>
      simp only[om,ig]at h;cases h
      exact⟨_,by simp[execOp,Instr.sliceAt,t,dK z,Instr.slice,Instr.sliceBounds,Result.andThen,J,eZ],rfl⟩
     |some R=>
      simp only[om,fO]at h;split at h
      .rename_i l Q X A q F;cases F
       cases h
       obtain⟨k2,N⟩:=oV q;simp only[ig,bv]at A;subst A;have D:=me (P:=P) (w:=w) (k:=k2) (code:=.sliceAcap) (y:=cap) C.1.2 C.2;exact⟨_,by simp[execOp,Instr.sliceAt,t,dK z,Instr.slice,Instr.sliceBounds,Result.andThen,J,eZ,dC g N,D],rfl⟩
      .rename_i F;cases F
      .cases h
    |some zl=>
     cases hi with
     |none=>
      simp only[om,fO]at h;split at h
      .rename_i F;cases F
      .rename_i l Q A q _;cases h
       obtain⟨k2,N⟩:=oV A;simp only[ig,bv]at q;subst q;have D:=me (P:=P) (w:=w) (k:=k2) (code:=.sliceB) (y:=len) C.1 C.2;exact⟨_,by simp[execOp,Instr.sliceAt,t,dK z,Instr.slice,Instr.sliceBounds,Result.andThen,J,eZ,dC g N,D],rfl⟩
      .cases h
     |some R=>
      simp only[fO]at h;split at h
      .rename_i l Q X A q F;cases F
       cases h
       obtain⟨k1,I⟩:=oV A;obtain⟨k2,L⟩:=oV q;have M:=C.1.1;have h1:=C.1.2;have D:=me (P:=P) (w:=w) (k:=k2) (code:=.sliceAcap) (y:=cap) O C.2;have S:=me (P:=P) (w:=w) (k:=k1) (code:=.sliceB) (y:=Q.toNat) M O;exact⟨_,by simp[execOp,Instr.sliceAt,t,dK z,Instr.slice,Instr.sliceBounds,Result.andThen,J,eZ,dC g I,dC g L,D,S],rfl⟩
      .rename_i F;cases F
      .cases h
   .rename_i e s G j;unfold bm at G;split at G<;>cases G;rename_i z;have t:=dC g j;split at h
    .rename_i l Q A q;cases h
     have M:=C.1.1;have h1:=C.1.2;have h2:=C.2;cases lo with
     |none=>
      simp only[om,ig,bv]at A;subst A;cases hi with
      |none=>simp only[om,ig,bv]at q;subst q;exact⟨_,by simp[execOp,Instr.sliceAt,t,dK z,Instr.slice,Instr.sliceBounds,Result.andThen],rfl⟩
      |some R=>obtain⟨k2,N⟩:=oV q;have D:=me (P:=P) (w:=w) (k:=k2) (code:=.sliceAlen) (y:=s.size) h1 h2;exact⟨_,by simp[execOp,Instr.sliceAt,t,dK z,Instr.slice,Instr.sliceBounds,Result.andThen,dC g N,D],rfl⟩
     |some zl=>
      obtain⟨k1,I⟩:=oV A;cases hi with
      |none=>simp only[om,ig,bv]at q;subst q;have D:=me (P:=P) (w:=w) (k:=k1) (code:=.sliceB) (y:=s.size) M h1;exact⟨_,by simp[execOp,Instr.sliceAt,t,dK z,Instr.slice,Instr.sliceBounds,Result.andThen,dC g I,D],rfl⟩
      |some R=>obtain⟨k2,L⟩:=oV q;have D:=me (P:=P) (w:=w) (k:=k2) (code:=.sliceAlen) (y:=s.size) O h2;have S:=me (P:=P) (w:=w) (k:=k1) (code:=.sliceB) (y:=Q.toNat) M O;exact⟨_,by simp[execOp,Instr.sliceAt,t,dK z,Instr.slice,Instr.sliceBounds,Result.andThen,dC g I,dC g L,D,S],rfl⟩
    .cases h
   .cases h
 case call c=>exact TY (o:=⟨dst,.call c,type,U,after,guard⟩) g rfl h
def nK(h:B∈dt l k):B∈l/\B.key≠k:=by
 induction l with
 |nil=>simp[dt]at h
 |cons b l a=>
  simp only[dt]at h;split at h
  .obtain⟨h1,h2⟩:=a h;exact⟨.tail _ h1,h2⟩
  .rcases List.mem_cons.1 h with rfl|h
   .exact⟨.head _,by assumption⟩
   .obtain⟨h1,h2⟩:=a h;exact⟨.tail _ h1,h2⟩
def sS{x:b9}:B∈di x l<->B=x\/B∈l:=by
 induction l with
 |nil=>simp[di]
 |cons b l a=>
  simp only[di];split
  .simp only[fC,a];constructor<;>(intro h;rcases h with h|h|h<;>simp_all)
  .simp
def F7(h:l.Pairwise (fun x y=>x.key≠y.key)):(dt l k).Pairwise (fun x y=>x.key≠y.key):=by
 induction l with
 |nil=>simp[dt]
 |cons b l a=>
  rw[rC]at h;simp only[dt];split
  .exact a h.2
  .exact List.pairwise_cons.2 ⟨fun y c=>h.1 y (nK c).1,a h.2⟩
def QO{x:b9}(h:l.Pairwise (fun x y=>x.key≠y.key))(c:∀B∈l,B.key≠x.key):(di x l).Pairwise (fun x y=>x.key≠y.key):=by
 induction l with
 |nil=>simp[di]
 |cons b l d=>
  have f:=h;rw[rC]at h;simp only[di];split
  .refine List.pairwise_cons.2 ⟨fun y a=>?_,d h.2 fun B e=>c B (.tail _ e)⟩;rcases sS.1 a with rfl|a
   .exact c b (.head _)
   .exact h.1 y a
  .refine List.pairwise_cons.2 ⟨fun y a=>(c y a).symm,f⟩
def Wb{off:Nat}(c:l.Pairwise (fun x y=>x.key≠y.key))(h:B∈jt l k off cs):
  (B∈l/\B.key≠k)\/(∃a∈l,a.key=k/\B={ a with cs:=bi a.cs off cs }):=by
 induction l with
 |nil=>simp[jt]at h
 |cons b l d=>
  rw[rC]at c;simp only[jt]at h;split at h
  .rename_i e;rcases List.mem_cons.1 h with rfl|h
   .exact .inr ⟨b,.head _,e,rfl⟩
   .exact .inl ⟨.tail _ h,fun e'=>c.1 B h (e.trans e'.symm)⟩
  .rename_i e;rcases List.mem_cons.1 h with rfl|h
   .exact .inl ⟨.head _,e⟩
   .rcases d c.2 h with ⟨h1,h2⟩|⟨a,h1,h2,h3⟩
    .exact .inl ⟨.tail _ h1,h2⟩
    .exact .inr ⟨a,.tail _ h1,h2,h3⟩
def Ep(l:List b9)(k off:Nat)(cs:List Value):(jt l k off cs).map (·.key)=l.map (·.key):=by
 induction l with
 |nil=>rfl
 |cons b l a=>simp only[jt];split<;>simp[a]
def ix(P:Program)(ρ:Operand->SV)(op:Op):Option (TypeId×List Value):=
 match op with
 | .alloc T=>match aZ P T with|some z=>some (T,z.cells.toList)|none=>none
 | .box T x=>match ρ x with | .v v=>some (T,v.cells.toList)|_=>none
 |_=>none
def sL{o:Obj}(h:b<w.heap.size):(w.heap.push o)[b]?=w.heap[b]?:=by rw[Array.getElem?_push,ad O]
def bN.alloc{H0:PH}{w0:World}(s:bN H0 w0 H w)(o:Obj):bN H0 w0 H { w with heap:=w.heap.push o } where
 sub:=fun b x h=>by
  have:=s.sub b x h;have hb:b<w.heap.size:=by
   rcases aB b w.heap.size with h|h
   .exact h
   .rw[AI h]at this;cases this
  rw[show ({ w with heap:=w.heap.push o }:World).heap=w.heap.push o from rfl,sL hb];exact this
 size:=by simp;have:=s.size;omega
 priv:=fun b hb a=>by rw[show ({ w with heap:=w.heap.push o }:World).heap=w.heap.push o from rfl,sL (Nat.lt_of_lt_of_le hb s.size)];exact s.priv b hb a
 dom:=s.dom
 os:=s.os
 tape:=s.tape
 out:=s.out
def gj{o:Obj}(h:w.heap[b]?=some o):b<w.heap.size:=by
 rcases aB b w.heap.size with h1|h1
 .exact h1
 .rw[AI h1]at h;cases h
theorem GB.newBox{H0:PH}{w0:World}(A:n0=w0.heap.size)(s:bN H0 w0 H w)(g:GB n0 β σ H a w)(d:Nat)(T:TypeId)(cs:List Value):
  GB n0 (fun k=>if k=d then w.heap.size else β k) (σ.newBox d T cs) H (a.put (some d) (.pointer (some ⟨w.heap.size,0,none⟩))) { w with heap:=w.heap.push (.cells cs.toArray T (0,0)) }:=by
 have b:∀B∈dt σ.bx d,B∈σ.bx/\B.key≠d:=fun B h=>nK h;have lt:∀B∈σ.bx,β B.key<w.heap.size:=fun B h=>gj (g.bx B h).1;have y:=s.size;constructor
 .exact g.defers.keep fun D _ h1 h2=>⟨h1,(sL (gj h2)).trans h2⟩
 .simp[Act.put,St.newBox,wv,g.size]
 .intro t x j;simp only[St.newBox,n3,dW]at j;have r:=g.size;by_cases e:d=t
  .subst e;simp only[cY]at j;split at j
   .cases j
    rename_i C;simp only[Act.put,en];rw[Array.getElem?_setIfInBounds_self_of_lt O];simp[ef]
   .cases j
  .simp only[ad e,fX,hH]at j;obtain⟨sv,m,rfl⟩:=j;have:=g.tm t sv m;have h2:(a.put (some d) (.pointer (some ⟨w.heap.size,0,none⟩))).tmps.getD t undef=a.tmps.getD t undef:=by simp[Act.put,en,Array.getElem?_setIfInBounds_ne e]
   rw[h2];cases sv with
   |v x=>exact this
   |u=>trivial
   |p k off=>
    simp only[cE];split
    .trivial
    .rename_i f;simpa[ef,f]using this
 .intro B c;rcases sS.1 c with rfl|c
  .refine⟨by simp,?_⟩;simp only[cY];cases z:H w.heap.size with
   |none=>rfl
   |some o=>exact absurd (gj (s.sub _ _ z)) O
  .obtain⟨hm,f⟩:=b B c;simp only[ad f];have:=g.bx B hm;refine⟨?_,this.2⟩;rw[sL (lt B hm)];exact this.1
 .intro B c B' i l;rcases sS.1 c with rfl|c<;>rcases sS.1 i with rfl|i
  .rfl
  .obtain⟨hm,f⟩:=b B' i;simp only[cY,ad f]at l;have:=lt B' hm;omega
  .obtain⟨hm,f⟩:=b B c;simp only[cY,ad f]at l;have:=lt B hm;omega
  .obtain⟨hm,f⟩:=b B c;obtain⟨n,q⟩:=b B' i;simp only[ad f,ad q]at l;exact g.inj B hm B' n l
 .intro B c;rcases sS.1 c with rfl|c
  .simp;omega
  .obtain⟨hm,f⟩:=b B c;simp only[ad f];exact g.lo B hm
 .exact QO (F7 g.keys) fun B c=>(b B c).2
def LJ(g:GB n0 β σ H a w){T:TypeId}
  (h:ix P (ev σ) o.op=some (T,cs)):(execOp a.eval o).run P w=.ok (.value (.pointer (some ⟨w.heap.size,0,none⟩))) { w with heap:=w.heap.push (.cells cs.toArray T (0,0)) }:=by
 obtain⟨dst,op,type,d,after,guard⟩:=o;simp only at h;cases op<;>simp only[ix]at h<;>try (cases h;done)
 case alloc T'=>
  unfold aZ at h;cases hi:P.info? T' with
  |none=>rw[hi]at h;cases h
  |some i=>
   rw[hi]at h;simp only[jz]at h;cases b:i.zero with
   |none=>rw[b]at h;cases h
   |some z=>
    rw[b]at h;have c:(zeroValue T').run P w=.ok z w:=by simp[zeroValue,typeInfo,program,Sem.run,hi,b]
    cases h
    simp[execOp,Instr.alloc,c,Result.andThen,newVar,newRow,newObj,Sem.run]
 case box T' x=>
  split at h
  .rename_i v hv;cases h
   simp[execOp,Instr.box,dC g hv,Result.andThen,newVar,newRow,newObj,Sem.run]
  .cases h
def ky(P:Program)(bx:List b9)(ρ:Operand->SV)(op:Op):Option (Nat×Nat×List Value):=
 match op with
 | .store T x y=>match ρ x,ρ y with
  | .p k off,.v v=>match jM v,bk P T,dJ bx k with
   |some cs,some n,some B=>if cs.length=n/\off+n<=B.cs.length then some (k,off,cs)else none
   |_,_,_=>none
  |_,_=>none
 |_=>none
def wq{P:Program}(b:Nat)(ty:TypeId):∀(a:List Value) (i off:Nat) (cs:List Value) (w:World),w.heap[b]?=some (.cells cs.toArray ty (0,0))->off+i+a.length<=cs.length->(∀v∈a,one v=true)->
  ∃w2,(storeCells ⟨b,off,none⟩ a i).run P w=.ok () w2/\w2.heap[b]?=some (.cells (bi cs (off+i) a).toArray ty (0,0))/\(∀k,k≠b->w2.heap[k]?=w.heap[k]?)/\w2.heap.size=w.heap.size/\w2.os=w.os/\w2.tape=w.tape/\w2.output=w.output
 | [],i,off,cs,w,h,_,_=>⟨w,by simp[storeCells],by simpa[bi]using h,fun _ _=>rfl,rfl,rfl,rfl,rfl⟩
 |v::a,i,off,cs,w,h,n,g=>by
  simp only[bf]at n;have o:w.cell? ⟨b,off+i,none⟩=cs[off+i]?:=uB h (off+i);have e:off+i<cs.length:=O;have hf:w.frozen? ⟨b,off+i,none⟩=false:=by simp[World.frozen?,h]
  have d:=g v (.head _);have m:(w.setCell ⟨b,off+i,none⟩ v).heap[b]?=some (.cells (cs.set (off+i) v).toArray ty (0,0)):=by simp[World.setCell,Array.getElem?_modify,h]
  obtain⟨w2,h1,h2,h3,s,r,q,p⟩:=wq (P:=P) b ty a (i+1) off (cs.set (off+i) v) (w.setCell ⟨b,off+i,none⟩ v) m (by simp;omega) fun u l=>g u (.tail _ l);have c:(store ((⟨b,off,none⟩:Addr).add i) v).run P w=.ok () (w.setCell ⟨b,off+i,none⟩ v):=by
   rw[l5];have f:w.cell? ⟨b,off+i,none⟩=some cs[off+i]:=by rw[o,aL e]
   cases v<;>first|(exact absurd d Bool.false_ne_true)|(simp only[store,Sem.run,f,hf];rfl)
  refine⟨w2,?_,?_,?_,?_,?_,?_,?_⟩
  .simp only[storeCells,bY,c,Result.andThen];exact h1
  .rw[h2,bi];rfl
  .intro k j;rw[h3 k j];simp[World.setCell,Array.getElem?_modify,Ne.symm j]
  .rw[s];simp[World.setCell]
  .rw[r];rfl
  .rw[q];rfl
  .rw[p];rfl
end Go.Sx
