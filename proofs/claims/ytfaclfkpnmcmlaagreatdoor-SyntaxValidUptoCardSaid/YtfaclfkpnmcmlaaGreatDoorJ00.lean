import Derived.Calls
import Derived.Orders
import Derived.RowKit
import Derived.Tactics
abbrev Y:=@List.append_nil
abbrev ab:=@if_neg
abbrev ag:=@if_pos
abbrev aE:=@List.length_append
abbrev aF:=@Nat.zero_le
abbrev aI:=@Nat.lt_or_ge
abbrev aM:=@List.nil_append
abbrev aN:=@List.cons_append
abbrev aR:=@Nat.le_refl
abbrev aZ:=@List.getElem?_eq_getElem
abbrev a8:=@Option.some.injEq
abbrev bl:=@decide_eq_true
abbrev bm:=@List.length_cons
abbrev bo:=@List.length_nil
abbrev cd:=@decide_eq_false
abbrev ch:=@Nat.mul_le_mul_right
abbrev co:=@if_true
abbrev cq:=@List.append_assoc
abbrev cC:=@Option.bind_eq_bind
abbrev cP:=@Bool.not_true
abbrev cW:=@Option.some.inj
abbrev cX:=@Bool.and_eq_true
abbrev cY:=@List.mem_of_getElem?
abbrev cZ:=@Option.map_some
abbrev ds:=@Bool.not_false
abbrev dz:=@Option.bind_some
abbrev dA:=@decide_eq_true_eq
abbrev dD:=@if_false
abbrev dH:=@List.not_mem_nil
abbrev dK:=@Bool.false_eq_true
abbrev dL:=@Int.cast_ofNat_Int
abbrev dO:=@List.take_length
abbrev dV:=@and_true
abbrev eH:=@Option.bind_eq_some_iff
abbrev eI:=@Go.Sem.run_bind
abbrev eN:=@List.length_map
abbrev eO:=@Nat.lt_succ_self
abbrev eW:=@true_and
abbrev fe:=@List.getElem?_eq_none
abbrev fD:=@Nat.le_trans
abbrev ge:=@List.mem_append_left
abbrev gy:=@List.length_singleton
abbrev gz:=@List.mem_append_right
abbrev gH:=@Int.natCast_nonneg
abbrev gV:=@List.drop_zero
abbrev gW:=@List.foldl_cons
abbrev hZ:=@List.filter_cons
abbrev ib:=@List.map_cons
abbrev ig:=@Nat.add_mul
abbrev ii:=@Nat.zero_add
abbrev ij:=@Prod.mk.injEq
abbrev iU:=@beq_eq_false_iff_ne
abbrev jk:=@List.drop_length
abbrev jr:=@Array.getD_eq_getD_getElem?
abbrev js:=@List.drop_eq_getElem_cons
abbrev jt:=@Nat.eq_zero_or_pos
abbrev ju:=@Nat.min_eq_left
abbrev jG:=@List.getElem?_map
abbrev jY:=@List.mem_cons
abbrev jZ:=@List.mem_filter
abbrev kG:=@Option.map_none
abbrev lr:=@List.drop_drop
abbrev ls:=@List.drop_succ_cons
abbrev lu:=@List.length_set
abbrev lw:=@List.length_take
abbrev lx:=@List.mem_append
abbrev ly:=@List.mem_of_mem_take
abbrev lz:=@List.take_succ_cons
abbrev lB:=@List.take_zero
abbrev lC:=@Nat.le_of_lt
abbrev me:=@Bool.false_or
abbrev mf:=@List.map_append
abbrev mg:=@List.mem_map
abbrev mh:=@List.pairwise_cons
abbrev mY:=@Array.toList_inj
abbrev mZ:=@List.cons.injEq
abbrev m0:=@List.map_congr_left
abbrev ng:=@of_decide_eq_true
abbrev n8:=@Array.length_toList
abbrev n9:=@List.take_take
abbrev pf:=@List.flatMap_cons
abbrev pg:=@List.foldl_append
abbrev pi:=@List.map_map
abbrev pj:=@List.take_succ_eq_append_getElem
abbrev pm:=@Nat.sub_mul
abbrev qI:=@Bool.and_true
abbrev qJ:=@Nat.one_mul
abbrev qK:=@Nat.shiftRight_eq_div_pow
abbrev qL:=@Option.getD_some
abbrev sj:=@Array.getElem?_eq_getElem
abbrev sm:=@Bool.not_eq_true'
abbrev sr:=@Bool.or_eq_true
abbrev ss:=@List.all_eq_true
abbrev su:=@List.pairwise_singleton
abbrev sw:=@Nat.add_zero
abbrev sx:=@Nat.lt_trichotomy
abbrev tJ:=@Int.emod_eq_of_lt
abbrev tK:=@List.idxOf_lt_length_of_mem
abbrev tL:=@List.take_append_drop
abbrev tM:=@Nat.add_sub_cancel
abbrev tN:=@Nat.pow_succ
abbrev tO:=@Nat.testBit_and
abbrev vV:=@List.getElem?_append_left
abbrev vW:=@List.getElem?_cons_succ
abbrev vX:=@List.getElem?_set
abbrev vY:=@List.length_drop
abbrev vZ:=@List.length_range
abbrev v7:=@Nat.lt_of_le_of_lt
abbrev we:=@Nat.pow_le_pow_right
abbrev yM:=@List.flatMap_append
abbrev yN:=@List.getD_cons_succ
abbrev yO:=@List.getD_cons_zero
abbrev yP:=@List.getElem?_append_right
abbrev yQ:=@List.getElem?_cons_zero
abbrev yR:=@List.getElem?_drop
abbrev yS:=@List.set_cons_zero
abbrev yT:=@List.tail_cons
abbrev yU:=@List.take_of_length_le
abbrev yV:=@Option.map_eq_some_iff
abbrev Ca:=@Array.getElem?_eq_none
abbrev Cb:=@Array.getElem?_setIfInBounds
abbrev Cc:=@List.getElem?_take
abbrev Cd:=@List.take_append_of_le_length
abbrev Ce:=@decide_eq_false_iff_not
abbrev Cg:=@of_decide_eq_false
theorem Z5(a b:Nat)(h:a<b:=by omega):decide ((a:Int)<(b:Int))=true:=decide_eq_true (by omega)
theorem Z6(a:Nat):decide ((a:Int)<(a:Int))=false:=by simp
set_option maxHeartbeats 8000000
set_option linter.all false
variable{P:Prop}
def O(h:P:=by omega):P:=h
def af(h:P:=by decide):P:=h
def bh(h:P:=by simp only;omega):P:=h
namespace Go.Sx
open Go
abbrev PH:=Nat->Option Obj
def Sub(H:PH)(w:World):Prop:=∀b o,H b=some o->w.heap[b]?=some o
def PH.le(H H2:PH):Prop:=∀b o,H b=some o->H2 b=some o
def PH.emp:PH:=fun _=>none
def PH.le_refl(H:PH):H.le H:=fun _ _ h=>h
abbrev aC:=@PH.le_refl
def PH.le_trans{A B C:PH}(h:A.le B)(k:B.le C):A.le C:=fun b o x=>k b o (h b o x)
abbrev D:=@PH.le_trans
variable{w:World}{H H2:PH}
def Sub.of_le(s:Sub H2 w)(h:H.le H2):Sub H w:=fun b o x=>s b o (h b o x)
structure cM(H:PH)(w:World)(H2:PH)(w2:World):Prop where
 sub:Sub H2 w2
 size:w.heap.size<=w2.heap.size
 priv:∀b,b<w.heap.size->H b=none->w2.heap[b]?=w.heap[b]?
 dom:∀b,b<w.heap.size->H b=none->H2 b=none
 os:w2.os=w.os
 tape:w2.tape=w.tape
 out:w2.output=w.output
def cM.refl(s:Sub H w):cM H w H w:=⟨s,aR _,fun _ _ _=>rfl,fun _ _ h=>h,rfl,rfl,rfl⟩
def cM.trans{H3:PH}{w2 w3:World}(a:cM H w H2 w2)(b:cM H2 w2 H3 w3):cM H w H3 w3 where
 sub:=b.sub
 size:=fD a.size b.size
 priv:=fun k c d=>by rw[b.priv k (Nat.lt_of_lt_of_le c a.size) (a.dom k c d),a.priv k c d]
 dom:=fun k c d=>b.dom k (Nat.lt_of_lt_of_le c a.size) (a.dom k c d)
 os:=b.os.trans a.os
 tape:=b.tape.trans a.tape
 out:=b.out.trans a.out
def br(P:Program)(f:FuncId)(args:Array Value)(H:PH)(Φ:Value->PH->Prop):Prop:=
 ∀w,Sub H w->Calls P f args w fun e w2=>match e with
  | .returned v=>∃H2,cM H w H2 w2/\Φ v H2
  |_=>False
variable{P:Program}
def br.mono{f:FuncId}{args:Array Value}{Φ Ψ:Value->PH->Prop}(h:br P f args H Φ)(k:∀v H2,Φ v H2->Ψ v H2):br P f args H Ψ:=
 fun w s=>(h w s).mono fun e w2 d=>by
  cases e with
  |returned v=>obtain⟨H2,a,b⟩:=d;exact⟨H2,a,k _ _ b⟩
  |outgrown=>exact d
  |panicked c=>exact d
inductive SV where
 |v (x:Value)
 |p (key off:Nat)
 |u
 deriving Inhabited
structure cK where
 key:Nat
 ty:TypeId
 cs:List Value
structure St where
 tm:List SV
 bx:List cK
def jA:List SV->Nat->SV
 | [],_=>.u
 |x::_,0=>x
 |_::l,n+1=>jA l n
def gS:List SV->Nat->SV->List SV
 | [],_,_=>[]
 |_::l,0,y=>y::l
 |x::l,n+1,y=>x::gS l n y
def rE(l:List SV)(n:Nat):jA l n=(l[n]?).getD .u:=by
 induction l generalizing n with
 |nil=>simp[jA]
 |cons x l a=>cases n<;>simp[jA,a]
def Kr(l:List SV)(n:Nat)(y:SV):(gS l n y).length=l.length:=by
 induction l generalizing n with
 |nil=>rfl
 |cons x l a=>cases n<;>simp[gS,a]
def ts(l:List SV)(n m:Nat)(y:SV):(gS l n y)[m]?=if n=m then (if n<l.length then some y else none)else l[m]?:=by
 induction l generalizing n m with
 |nil=>simp[gS]
 |cons x l a=>
  cases n with
  |zero=>cases m<;>simp[gS]
  |succ n=>cases m<;>simp[gS,a]
def eJ:List cK->Nat->Option cK
 | [],_=>none
 |b::l,k=>if b.key=k then some b else eJ l k
def d8:List cK->Nat->List cK
 | [],_=>[]
 |b::l,k=>if b.key=k then d8 l k else b::d8 l k
def dX(x:cK):List cK->List cK
 | []=>[x]
 |b::l=>if b.key<x.key then b::dX x l else x::b::l
def dh(k:Nat):SV->SV
 | .p k' off=>if k'=k then .u else .p k' off
 |x=>x
def St.put(σ:St)(d:Option Nat)(y:SV):St:=
 match d with
 |some d=>{ σ with tm:=gS σ.tm d y }
 |none=>σ
def St.newBox(σ:St)(d:Nat)(T:TypeId)(cs:List Value):St:=
 { tm:=gS (σ.tm.map (dh d)) d (.p d 0),bx:=dX ⟨d,T,cs⟩ (d8 σ.bx d) }
def bL:List Value->Nat->List Value->List Value
 |l,_,[]=>l
 |l,n,c::cs=>bL (l.set n c) (n+1) cs
def kF:List cK->Nat->Nat->List Value->List cK
 | [],_,_,_=>[]
 |b::l,k,off,cs=>if b.key=k then { b with cs:=bL b.cs off cs }::l else b::kF l k off cs
def St.store(σ:St)(k off:Nat)(cs:List Value):St:={ σ with bx:=kF σ.bx k off cs }
def ev(σ:St):Operand->SV
 | .tmp t=>jA σ.tm t
 | .const v=>.v v
 | .global g=>.v (.pointer (some ⟨g,0,none⟩))
 | .func f=>.v (.func (.func f) #[] #[])
def fR(β:Nat->Nat):SV->Value->Prop
 | .v x,y=>y=x
 | .p k off,y=>y=.pointer (some ⟨β k,off,none⟩)
 | .u,_=>True
structure GB(n0:Nat)(β:Nat->Nat)(σ:St)(H:PH)(a:Act)(w:World):Prop where
 defers:a.defers=[]
 size:a.tmps.size=σ.tm.length
 tm:∀t sv,σ.tm[t]?=some sv->fR β sv (a.tmps.getD t undef)
 bx:∀B∈σ.bx,w.heap[β B.key]?=some (.cells B.cs.toArray B.ty (0,0))/\H (β B.key)=none
 inj:∀B∈σ.bx,∀B'∈σ.bx,β B.key=β B'.key->B.key=B'.key
 lo:∀B∈σ.bx,n0<=β B.key
 keys:σ.bx.Pairwise (fun x y=>x.key≠y.key)
def G(n0:Nat)(σ:St)(H:PH)(a:Act)(w:World):Prop:=∃β,GB n0 β σ H a w
variable{a:Act}{σ:St}{β:Nat->Nat}{n0:Nat}
theorem GB.ev(g:GB n0 β σ H a w)(x:Operand):fR β (Sx.ev σ x) (a.eval x):=by
 cases x with
 |tmp t=>
  simp only[Sx.ev,Act.eval,rE];cases h:σ.tm[t]? with
  |none=>simp[fR]
  |some sv=>simpa using g.tm t sv h
 |const v=>rfl
 |global n=>rfl
 |func n=>rfl
variable{B:cK}{k:Nat}{l:List cK}
def zU(h:eJ l k=some B):B∈l/\B.key=k:=by
 induction l with
 |nil=>simp[eJ]at h
 |cons b l a=>
  simp only[eJ]at h;split at h
  .cases h;exact⟨.head _,by assumption⟩
  .obtain⟨h1,h2⟩:=a h;exact⟨.tail _ h1,h2⟩
variable{y:Value}{sv:SV}
theorem GB.put(g:GB n0 β σ H a w)(d:Option Nat)(h:fR β sv y):GB n0 β (σ.put d sv) H (a.put d y) w:=by
 cases d with
 |none=>exact g
 |some d=>
  refine⟨g.defers,?_,?_,g.bx,g.inj,g.lo,g.keys⟩
  .simp[Act.put,St.put,Kr,g.size]
  .intro t x b;simp only[St.put,ts]at b;have c:=g.size;by_cases e:d=t
   .subst e;simp only[co]at b;split at b
    .cases b
     rename_i f;simp only[Act.put,jr];rw[Array.getElem?_setIfInBounds_self_of_lt O];simpa using h
    .cases b
   .simp only[ab e]at b;have:=g.tm t x b;simpa[Act.put,jr,Array.getElem?_setIfInBounds_ne e]using this
def Jm:fR β .u y:=trivial
def bp(P:Program)(T:TypeId):Option (Option Nat):=
 match P.underlying T,P.info? T with
 |some (.struct _),some i=>some (some i.size)
 |some (.array _ _),some i=>some (some i.size)
 |some _,some i=>if i.size=1 then some none else none
 |_,_=>none
def bk(P:Program)(T:TypeId):Option Value:=(P.info? T).bind (·.zero)
def bv(P:Program)(T:TypeId)(f:Nat):Option (Nat×TypeId):=
 match P.underlying T with
 |some (.struct a)=>match a[f]? with
  |some g=>match P.info? g.type with
   |some i=>if i.size=0 then none else some (g.offset,g.type)
   |none=>none
  |none=>none
 |_=>none
inductive wi where
 |arr (len size:Nat)
 |sl (size:Nat)
 |none
def bI(P:Program)(T:TypeId):wi:=
 match P.underlying T with
 |some (.array n e)=>match P.info? e with|some i=>.arr n i.size|Option.none=>.none
 |some (.slice e)=>match P.info? e with|some i=>.sl i.size|Option.none=>.none
 |_=>.none
def one:Value->Bool
 | .agg _=>false
 | .tuple _=>false
 |_=>true
def mB:Value->Option (List Value)
 | .agg cs=>if cs.toList.all one then some cs.toList else none
 | .tuple _=>none
 |v=>some [v]
variable{v:Value}
def GT{l:List Value}(h:mB v=some l):v.cells.toList=l/\∀c∈l,one c=true:=by
 cases v
 case agg cs=>
  simp only[mB]at h;split at h
  .cases h;rename_i a;exact⟨rfl,fun c b=>List.all_eq_true.1 a c b⟩
  .cases h
 case tuple cs=>cases h
 all_goals (simp only[mB,a8]at h;subst h;simp[one,Value.cells])
def l6(P:Program)(T:TypeId)(cs:List Value)(off:Nat):Option Value:=
 match bp P T with
 |some (some n)=>if off+n<=cs.length then some (.agg ((cs.drop off).take n).toArray)else none
 |some none=>cs[off]?
 |none=>none
theorem run_loadCellsFrom(a:Addr)(n i:Nat)(b:Array Value)(xs:List Value)(c:xs.length=n)
  (h:∀j v,xs[j]?=some v->w.cell? (a.add (i+j))=some v) :
  (loadCellsFrom a i n b).run P w=.ok (b++xs.toArray) w:=by
 induction n generalizing i b xs with
 |zero=>cases xs with
  |nil=>simp[loadCellsFrom]
  |cons=>simp at c
 |succ n d=>
  cases xs with
  |nil=>simp at c
  |cons x xs=>
   have h0:=h 0 x (by simp);rw[sw]at h0;simp only[loadCellsFrom,load,bind,Sem.bind,Sem.run,h0];have:=d (i+1) (b.push x) xs (by simpa using c) (fun j v e=>by
    have:=h (j+1) v (by simpa using e)
    rwa [show i+1+j=i+(j+1) from by omega])
   rw[this];simp
variable{d:TypeDesc}
def Kg{T:TypeId}(h:P.underlying T=some d):
  (isAgg T).run P w=.ok (match d with | .struct _ | .array _ _=>true|_=>false) w:=by
 simp only[isAgg,underlying,program,bind,Sem.bind,Sem.run,h,pure];cases d<;>simp[Sem.run]
def nq(b off n:Nat):(Addr.mk b off none).add n=⟨b,off+n,none⟩:=by unfold Addr.add;split<;>simp_all
variable{cs:List Value}{b:Nat}
def wP{T:TypeId}{fz:Nat×Nat}(h:w.heap[b]?=some (.cells cs.toArray T fz))(i:Nat):w.cell? ⟨b,i,none⟩=cs[i]?:=by simp[World.cell?,h]
def ET {P : Program} {w : World} {T : TypeId} {b off : Nat} {cs : List Value} {ty : TypeId} {v : Value} {fz : Nat × Nat}
    (hb : w.heap[b]? = some (.cells cs.toArray ty fz)) (h : l6 P T cs off = some v) :
    (loadVar T ⟨b, off, none⟩).run P w = .ok v w := by
  unfold l6 bp at h
  have aggCase : ∀ (n : Nat) (i : TypeInfo), P.info? T = some i → i.size = n → (isAgg T).run P w = .ok true w → off + n ≤ cs.length →
      (loadVar T ⟨b, off, none⟩).run P w = .ok (.agg ((cs.drop off).take n).toArray) w := by
    intro n i hi hn aa ac
    simp only [loadVar, eI, aa, Result.andThen, co, sizeOf, typeInfo, program, loadCells, Sem.run, hi]
    simp only [pure, Sem.run, hn]
    have := run_loadCellsFrom (P := P) (w := w) ⟨b, off, none⟩ n 0 #[] ((cs.drop off).take n) (by simp; omega) (fun j v hj => by
      rw [nq, wP hb, ii]
      rw [Cc] at hj
      split at hj
      · rw [yR] at hj; exact hj
      · cases hj)
    rw [this]; simp
  cases hu : P.underlying T with
  | none => rw [hu] at h; simp at h
  | some d =>
    rw [hu] at h
    cases hi : P.info? T with
    | none => rw [hi] at h; cases d <;> simp at h
    | some i =>
      rw [hi] at h
      have aa := Kg (P := P) (w := w) hu
      have one : (isAgg T).run P w = .ok false w → cs[off]? = some v → (loadVar T ⟨b, off, none⟩).run P w = .ok v w := by
        intro h1 h2
        simp only [loadVar, eI, h1, Result.andThen, load]
        simp [Sem.run, wP hb, h2]
      cases d <;> simp only at h aa <;>
        first
        | (split at h
           · rename_i ac; cases h; exact aggCase i.size i hi rfl aa ac
           · cases h)
        | (by_cases h1 : i.size = 1
           · simp only [h1, co] at h; exact one aa h
           · simp only [h1, dD] at h; cases h)
def mz(k:IntKind)(a b:Int):Int:=k.wrap (BitVec.ofInt k.bits a&&&BitVec.ofInt k.bits b).toNat
def xI(k:IntKind)(a b:Int):Int:=k.wrap (BitVec.ofInt k.bits a|||BitVec.ofInt k.bits b).toNat
def qH(k:IntKind)(a b:Int):Int:=k.wrap (BitVec.ofInt k.bits a ^^^ BitVec.ofInt k.bits b).toNat
def qz(k:IntKind)(a b:Int):Int:=k.wrap (a*2^(min b.toNat k.bits))
def l8(k:IntKind)(a b:Int):Int:=a.fdiv (2^(min b.toNat k.bits))
def Gx(k:IntKind)(a b:Int):Int:=k.wrap (BitVec.ofInt k.bits a&&&~~~ BitVec.ofInt k.bits b).toNat
def zC(op:BinOp)(x y:Value):Option Value:=
 match x,y with
 | .int k a,.int k' b=>
  match op with
  | .shl=>if 0<=b then some (.int k (qz k a b))else none
  | .shr=>if 0<=b then some (.int k (l8 k a b))else none
  | .add=>if k=k' then some (.int k (k.wrap (a+b)))else none
  | .sub=>if k=k' then some (.int k (k.wrap (a-b)))else none
  | .mul=>if k=k' then some (.int k (k.wrap (a*b)))else none
  | .quo=>if k=k' then (if b=0 then none else some (.int k (k.wrap (a.tdiv b))))else none
  | .rem=>if k=k' then (if b=0 then none else some (.int k (a.tmod b)))else none
  | .and=>if k=k' then some (.int k (mz k a b))else none
  | .or=>if k=k' then some (.int k (xI k a b))else none
  | .xor=>if k=k' then some (.int k (qH k a b))else none
  | .andNot=>if k=k' then some (.int k (Gx k a b))else none
  | .eql=>if k=k' then some (.bool (a == b))else none
  | .neq=>if k=k' then some (.bool (a != b))else none
  | .lss=>if k=k' then some (.bool (a<b))else none
  | .leq=>if k=k' then some (.bool (a<=b))else none
  | .gtr=>if k=k' then some (.bool (a>b))else none
  | .geq=>if k=k' then some (.bool (a>=b))else none
 | .string a,.string b=>
  match op with
  | .eql=>some (.bool (a.toList == b.toList))
  | .neq=>some (.bool (!(a.toList == b.toList)))
  | .lss=>some (.bool (Op.bytesLess a.toList b.toList))
  | .leq=>some (.bool (Op.bytesLess a.toList b.toList || a.toList == b.toList))
  | .gtr=>some (.bool (!(Op.bytesLess a.toList b.toList || a.toList == b.toList)))
  | .geq=>some (.bool (!(Op.bytesLess a.toList b.toList)))
  |_=>none
 |_,_=>none
def Vk {P : Program} {w : World} {op : BinOp} {T : TypeId} {x y v : Value} {ox oy : Operand} (h : zC op x y = some v) :
    (do eqGuard op T ox oy x y; binOp op T x y : Sem Value).run P w = .ok v w := by
  unfold zC at h
  split at h
  · rename_i k a k' b
    cases op <;> simp only at h <;> first
      | (cases h; done)
      | (split at h
         · rename_i hk
           first
             | (split at h
                · cases h
                · rename_i hb
                  cases h
                  subst hk
                  simp [eqGuard, binOp, Op.intDiv, Sem.run, pure, hb])
             | cases h
           try first
             | (subst hk; simp [eqGuard, binOp, Op.intArith, Op.intBits, Op.intCmp, Sem.run, pure, mz, xI, qH, Gx])
             | (simp [eqGuard, binOp, Op.shift, Sem.run, pure, Int.not_lt.2 hk, qz, l8])
         · cases h)
  · cases op <;> simp only [a8] at h <;> first
      | (cases h; done)
      | (subst h; simp [eqGuard, binOp, Op.stringOp, Sem.run, pure])
  · cases h
def AT(k:IntKind):Int:=if k.signed then -1 else k.max
def BP(op:UnOp)(x:Value):Option Value:=
 match op,x with
 | .not,.bool b=>some (.bool !b)
 | .neg,.int k n=>some (.int k (k.wrap (0-n)))
 | .xor,.int k n=>some (.int k (qH k (AT k) n))
 |_,_=>none
variable{x:Value}
def Vs{op:UnOp}(h:BP op x=some v):(Op.unary op x).run P w=.ok v w:=by unfold BP at h;split at h<;>cases h<;>simp[Op.unary,Op.intArith,Op.intBits,qH,AT,pure]
def bD(P:Program)(T:TypeId):Option Nat:=(P.info? T).map (·.size)
def EH(P:Program)(T:TypeId)(i:Nat):Option (Nat×Nat):=
 match bv P T i with
 |some (off,ty)=>(bD P ty).map fun s=>(off,s)
 |none=>none
def ou(a:Nat->Option (Nat×Nat))(cells:List Value):List (Nat×Value)->Option (List Value)
 | []=>some cells
 |(i,v)::rest=>
  match a i with
  |none=>none
  |some (off,size)=>if v.cells.toList.length=size/\off+size<=cells.length then ou a (bL cells off v.cells.toList) rest else none
def eC(l:List Value)(off:Nat)(cs:List Value):(bL l off cs).length=l.length:=by
 induction cs generalizing l off with
 |nil=>rfl
 |cons c cs a=>simp[bL,a]
def Pb(cells:Array Value)(off j:Nat)(cs:List Value):
  ((cs.zipIdx j).foldl (fun(a:Array Value) (x:Value×Nat)=>a.setIfInBounds (off+x.2) x.1) cells).toList=bL cells.toList (off+j) cs:=by
 induction cs generalizing cells j with
 |nil=>rfl
 |cons c cs b=>simp only[List.zipIdx_cons,gW,bL];rw[b];simp[Nat.add_assoc]
def Ds{place pl':Nat->Option (Nat×Nat)}{cells:Array Value}{parts:List (Nat×Value)}{r:List Value}
  (hp:∀i x,place i=some x->pl' i=some x) (h:ou place cells.toList parts=some r) :
  Instr.fill pl' cells parts=some r.toArray:=by
 induction parts generalizing cells with
 |nil=>simp only[ou,a8]at h;subst h;simp[Instr.fill]
 |cons x rest b=>
  obtain⟨i,v⟩:=x;simp only[ou]at h;split at h
  .cases h
  .rename_i off size a;split at h
   .rename_i c;obtain⟨h1,h2⟩:=c;simp only[n8]at h1 h2;simp only[Instr.fill,hp _ _ a];rw[ab (by simp[h1];omega)];apply b;rw[<-h,<-Array.foldl_toList];congr 1;have:=Pb cells off 0 v.cells.toList;simpa using this
   .cases h
def Vq{α β:Type}(f:α->Sem β)(g:α->β)(l:List α)(h:∀x∈l,(f x).run P w=.ok (g x) w):
  (l.mapM f).run P w=.ok (l.map g) w:=by
 induction l with
 |nil=>simp
 |cons x l a=>simp only[List.mapM_cons,eI,h x (.head _),Result.andThen,a fun y b=>h y (.tail _ b)];simp
def fd(P:Program)(T:TypeId):Bool:=
 match P.underlying T with
 |some (.struct a)=>a.toList.all fun f=>(P.info? f.type).isSome
 |_=>false
def zG(P:Program)(T:TypeId)(parts:List (Nat×Value)):Option Value:=
 match bk P T with
 |none=>none
 |some z=>
  match bI P T with
  | .arr _ size=>(ou (fun i=>some (i*size,size)) z.cells.toList parts).map fun l=>.agg l.toArray
  |_=>if fd P T then (ou (EH P T) z.cells.toList parts).map fun l=>.agg l.toArray else none
theorem run_build{T:TypeId}{parts:Array (Nat×Value)}(h:zG P T parts.toList=some v):
  (Instr.build T parts).run P w=.ok v w:=by
 unfold zG at h;cases c:bk P T with
 |none=>rw[c]at h;cases h
 |some z=>
  rw[c]at h;simp only at h;unfold bk at c;cases hi:P.info? T with
  |none=>rw[hi]at c;cases c
  |some i=>
   rw[hi]at c;simp only[dz]at c;have A:(zeroValue T).run P w=.ok z w:=by simp[zeroValue,typeInfo,program,Sem.run,hi,c]
   unfold bI at h;cases b:P.underlying T with
   |none=>rw[b]at h;simp[fd,b]at h
   |some d=>
    rw[b]at h;have q:(underlying T).run P w=.ok d w:=by simp[underlying,program,Sem.run,b]
    cases d<;>simp only at h<;>try (simp[fd,b]at h;done)
    case slice e=>cases r:P.info? e<;>simp[r,fd,b]at h
    case array n e=>
     cases r:P.info? e with
     |none=>rw[r]at h;simp[fd,b]at h
     |some u=>
      rw[r]at h;simp only[yV]at h;obtain⟨l,y,rfl⟩:=h;have sz:(sizeOf e).run P w=.ok u.size w:=by simp[sizeOf,typeInfo,program,Sem.run,r]
      have hf:=Ds (pl':=fun i=>some (i*u.size,u.size)) (cells:=z.cells) (fun i x m=>m) y;simp only[Instr.build,eI,A,Result.andThen,q,sz,hf];simp
    case struct s=>
     split at h
     case isFalse=>cases h
     rename_i k;simp only[yV]at h;obtain⟨l,y,rfl⟩:=h;simp only[fd,b]at k;have p:∀f∈s.toList,(P.info? f.type).isSome=true:=List.all_eq_true.1 k;have hm:(s.mapM fun f=>(do pure (f.offset,<-sizeOf f.type):Sem (Nat×Nat))).run P w=.ok (s.map fun f=>(f.offset,((P.info? f.type).map (·.size)).getD 0)) w:=by
      rw[Array.mapM_eq_mapM_toList];simp only[Sem.run_map];rw[Vq _ (fun f=>(f.offset,((P.info? f.type).map (·.size)).getD 0))]
      .simp[Result.andThen,<-Array.toList_map]
      .intro f hf;obtain⟨j,B⟩:=Option.isSome_iff_exists.1 (p f hf);simp[sizeOf,typeInfo,program,Sem.run,B]
     have hf:=Ds (pl':=fun i=>(s.map fun f=>(f.offset,((P.info? f.type).map (·.size)).getD 0))[i]?) (cells:=z.cells) (fun i x m=>by
      unfold EH at m;split at m
      case h_2=>cases m
      rename_i off ty a;unfold bv at a;rw[b]at a;simp only at a;cases o:s[i]? with
      |none=>rw[o]at a;cases a
      |some g=>
       rw[o]at a;simp only at a;cases t:P.info? g.type with
       |none=>rw[t]at a;cases a
       |some j=>
        rw[t]at a;simp only at a;split at a
        .cases a
        .cases a
         simp only[bD,t,cZ,a8]at m;subst m;simp[o,t]) y
     simp only[Instr.build,eI,A,Result.andThen,q,hm,hf];simp
def fU(ρ:Operand->SV):List Operand->Option (List Value)
 | []=>some []
 |x::l=>match ρ x,fU ρ l with
  | .v a,some r=>some (a::r)
  |_,_=>none
def iZ(ρ:Operand->SV):List (Nat×Operand)->Option (List (Nat×Value))
 | []=>some []
 |(i,x)::l=>match ρ x,iZ ρ l with
  | .v a,some r=>some ((i,a)::r)
  |_,_=>none
inductive Kd where
 |int (k:IntKind)
 |str
 |sl
 |other
def bB(P:Program)(T:TypeId):Kd:=
 match P.underlying T with
 |some (.int k)=>.int k
 |some .string=>.str
 |some (.slice _)=>.sl
 |_=>.other
def As(P:Program)(T:TypeId)(x:Value):Option Value:=
 match bB P T,x with
 | .sl,.slice _ n _=>some (.int .i64 n)
 | .str,.string s=>some (.int .i64 s.size)
 |_,_=>none
def zI(P:Program)(T:TypeId)(x:Value):Option Value:=
 match bB P T,x with
 | .sl,.slice _ _ n=>some (.int .i64 n)
 |_,_=>none
def tg(x y:Value):Option Value:=
 match x,y with
 | .int k a,.int _ b=>some (.int k (if b<a then b else a))
 |_,_=>none
def AC(x y:Value):Option Value:=
 match x,y with
 | .int k a,.int _ b=>some (.int k (if a<b then b else a))
 |_,_=>none
def zO(P:Program)(T:TypeId)(x:Value):Option Value:=
 match bB P T,x with
 | .int k,.int _ n=>some (.int k (k.wrap n))
 |_,_=>none
def bP(P:Program)(T:TypeId):Bool:=(P.underlying T).isSome
def x4(P:Program)(bx:List cK)(T:TypeId):SV->Option (Prop×SV)
 | .p k off=>match eJ bx k with
  |some B=>match l6 P T B.cs off with
   |some v=>some (True,.v v)
   |none=>none
  |none=>none
 |_=>none
def Bj(n:Nat):SV->Option (Prop×SV)
 | .p k off=>some (True,.p k (off+n))
 | .v (.pointer (some ⟨b,off,none⟩))=>some (True,.v (.pointer (some ⟨b,off+n,none⟩)))
 |_=>none
def Bl:SV->Option (Prop×SV)
 | .p k off=>some (True,.p k off)
 | .v (.pointer (some a))=>some (True,.v (.pointer (some a)))
 |_=>none
def x0(e:wi)(x i:SV):Option (Prop×SV):=
 match e,x,i with
 | .arr len size,.p k off,.v (.int _ n)=>some (0<=n/\n<len,.p k (off+n.toNat*size))
 | .arr len size,.v (.pointer (some ⟨b,off,none⟩)),.v (.int _ n)=>some (0<=n/\n<len,.v (.pointer (some ⟨b,off+n.toNat*size,none⟩)))
 | .sl size,.v (.slice (some ⟨b,off,none⟩) len _),.v (.int _ n)=>some (0<=n/\n<len,.v (.pointer (some ⟨b,off+n.toNat*size,none⟩)))
 |_,_,_=>none
def zH(s:ByteArray)(n:Nat):Nat:=(s.data.toList.getD n 0).toNat
def Bk(k:Kd)(x i:SV):Option (Prop×SV):=
 match k,x,i with
 | .str,.v (.string s),.v (.int _ n)=>some (0<=n/\n<s.size,.v (.int .u8 (zH s n.toNat)))
 |_,_,_=>none
def mK(x:Option Value):Option (Prop×SV):=
 match x with
 |some v=>some (True,.v v)
 |none=>none
def qw(P:Program)(ρ:Operand->SV)(c:Call):Option (Prop×SV):=
 match c.callee,c.args.toList,c.argTypes.toList with
 | .builtin .len,[x],[t]=>match ρ x with | .v a=>mK (As P t a)|_=>none
 | .builtin .cap,[x],[t]=>match ρ x with | .v a=>mK (zI P t a)|_=>none
 | .builtin .min,[x,y],_=>match ρ x,ρ y with | .v a,.v b=>mK (tg a b)|_,_=>none
 | .builtin .max,[x,y],_=>match ρ x,ρ y with | .v a,.v b=>mK (AC a b)|_,_=>none
 |_,_,_=>none
def fV(a:Option Addr)(size l cap:Nat):Option Addr:=if cap=l then a else a.map (·.add (l*size))
def jz(n:Nat):Option SV->Option Int
 |none=>some n
 |some (.v (.int _ i))=>some i
 |_=>none
def rW(k:Kd)(e:wi)(x:SV)(lo hi:Option SV):Option (Prop×SV):=
 match k,e,x with
 | .sl,.sl size,.v (.slice a len cap)=>match jz 0 lo,jz len hi,hi with
  |some l,some h,some _=>some ((0<=l/\l<=h)/\h<=cap,.v (.slice (fV a size l.toNat cap) (h.toNat-l.toNat) (cap-l.toNat)))
  |some l,some h,none=>some (0<=l/\l<=h,.v (.slice (fV a size l.toNat cap) (h.toNat-l.toNat) (cap-l.toNat)))
  |_,_,_=>none
 | .str,_,.v (.string s)=>match jz 0 lo,jz s.size hi with
  |some l,some h=>some ((0<=l/\l<=h)/\h<=s.size,.v (.string (s.extract l.toNat h.toNat)))
  |_,_=>none
 |_,_,_=>none
def pv(P:Program)(bx:List cK)(ρ:Operand->SV)(op:Op):Option (Prop×SV):=
 match op with
 | .move x | .assign x=>match ρ x with | .u=>none|sv=>some (True,sv)
 | .pick c x y=>match ρ c with | .v (.bool b)=>some (True,if b then ρ x else ρ y)|_=>none
 | .load T x=>x4 P bx T (ρ x)
 | .fieldAddr T x f=>match bv P T f with|some (n,_)=>Bj n (ρ x)|none=>none
 | .nilCheck x=>Bl (ρ x)
 | .indexAddr T x i=>x0 (bI P T) (ρ x) (ρ i)
 | .index T x i=>Bk (bB P T) (ρ x) (ρ i)
 | .field T x f=>match bv P T f,ρ x with|some (n,ty),.v (.agg cs)=>mK (l6 P ty cs.toList n)|_,_=>none
 | .extract x n=>match ρ x with | .v (.tuple e)=>mK e.toList[n]?|_=>none
 | .build T ps=>match iZ ρ ps.toList with|some l=>mK (zG P T l)|none=>none
 | .binOp op _ x y _=>match ρ x,ρ y with | .v a,.v b=>mK (zC op a b)|_,_=>none
 | .unOp op _ x=>match ρ x with | .v a=>mK (BP op a)|_=>none
 | .convert s d x=>match bP P s,ρ x with|true,.v a=>mK (zO P d a)|_,_=>none
 | .makeFunc fn f c=>match fU ρ f.toList,fU ρ c.toList with|some l,some m=>some (True,.v (.func fn l.toArray m.toArray))|_,_=>none
 | .call c=>qw P ρ c
 | .slice T x lo hi none=>rW (bB P T) (bI P T) (ρ x) (lo.map ρ) (hi.map ρ)
 |_=>none
variable{φ:Prop}
def jo{x:Option Value}(h:mK x=some (φ,sv)):∃v,x=some v/\sv=.v v:=by
 cases x with
 |none=>cases h
 |some v=>cases h;exact⟨v,rfl,rfl⟩
def CP{n0:Nat}{β:Nat->Nat}{σ:St}{H:PH}{a:Act}{w:World}(g:GB n0 β σ H a w):∀(l:List Operand) (r:List Value),fU (ev σ) l=some r->l.map a.eval=r
 | [],r,h=>by cases h;rfl
 |x::l,r,h=>by
  simp only[fU]at h;split at h
  .rename_i y c b hr;cases h
   have:=g.ev x;rw[b]at this;simp only[fR]at this;simp[this,CP g l _ hr]
  .cases h
def Gu{n0:Nat}{β:Nat->Nat}{σ:St}{H:PH}{a:Act}{w:World}(g:GB n0 β σ H a w):∀(l:List (Nat×Operand)) (r:List (Nat×Value)),iZ (ev σ) l=some r->l.map (fun x=>(x.1,a.eval x.2))=r
 | [],r,h=>by cases h;rfl
 |(i,x)::l,r,h=>by
  simp only[iZ]at h;split at h
  .rename_i y c b hr;cases h
   have:=g.ev x;rw[b]at this;simp only[fR]at this;simp[this,Gu g l _ hr]
  .cases h
def Hk{T:TypeId}{f n:Nat}{ty:TypeId}(h:bv P T f=some (n,ty))(b off:Nat):
  (Instr.fieldAt T (.pointer (some ⟨b,off,none⟩)) f).run P w=.ok (.pointer (some ⟨b,off+n,none⟩)) w:=by
 unfold bv at h;split at h
 .rename_i j d;split at h
  .rename_i g e;split at h
   .rename_i i hi;split at h
    .cases h
    .rename_i c;cases h
     have a:(underlying T).run P w=.ok (.struct j) w:=by simp[underlying,program,Sem.run,d]
     have sz:(sizeOf g.type).run P w=.ok i.size w:=by simp[sizeOf,typeInfo,program,Sem.run,hi]
     simp only[Instr.fieldAt,eI,a,Result.andThen,e,Instr.sureAddr];simp[fieldPlace,eI,sz,Result.andThen,c,nq]
   .cases h
  .cases h
 .cases h
def x8 {P : Program} {w : World} {T : TypeId} {cs : Array Value} {n : Nat} {v : Value} (h : l6 P T cs.toList n = some v) : (part T cs n).run P w = .ok v w := by
  unfold l6 bp at h
  cases hu : P.underlying T with
  | none => rw [hu] at h; simp at h
  | some d =>
    rw [hu] at h
    cases hi : P.info? T with
    | none => rw [hi] at h; cases d <;> simp at h
    | some i =>
      rw [hi] at h
      have aa := Kg (P := P) (w := w) hu
      have one : (isAgg T).run P w = .ok false w → cs[n]? = some v → (part T cs n).run P w = .ok v w := by
        intro h1 h2
        simp only [part, eI, h1, Result.andThen, h2]
        simp
      have agg : (isAgg T).run P w = .ok true w → (part T cs n).run P w = .ok (.agg ((cs.toList.drop n).take i.size).toArray) w := by
        intro h1
        have sz : (sizeOf T).run P w = .ok i.size w := by simp [sizeOf, typeInfo, program, Sem.run, hi]
        simp [part, h1, Result.andThen, sz]
        rw [← mY]
        simp [List.extract_eq_take_drop]
      cases d <;> simp only at h aa <;>
        first
        | (split at h
           · cases h; exact agg aa
           · cases h)
        | (by_cases h1 : i.size = 1
           · simp only [h1, co] at h; exact one aa (by simpa using h)
           · simp only [h1, dD] at h; cases h)
def eV{T:TypeId}(h:P.underlying T=some d):(underlying T).run P w=.ok d w:=by simp[underlying,program,Sem.run,h]
def Vo{T:TypeId}{e:wi}(a:bI P T=e){x i:SV}{vx vi:Value}
  (h:x0 e x i=some (φ,sv)) (l:φ) (f:fR β x vx) (hi:fR β i vi) :
  ∃y,(Instr.indexAt T vx vi).run P w=.ok y w/\fR β sv y:=by
 unfold bI at a;unfold x0 at h;split at h
 .rename_i len size k off m n;cases h
  simp only[fR]at f hi;subst f;subst hi;split at a
  .rename_i o j d;split at a
   .rename_i g c;cases a
    have sz:(sizeOf j).run P w=.ok g.size w:=by simp[sizeOf,typeInfo,program,Sem.run,c]
    refine⟨_,?_,rfl⟩;simp only[Instr.indexAt,eI,asIntOf,eV d];simp[Result.andThen,Instr.sureAddr,eV d,l,sz,nq]
   .cases a
  .split at a<;>cases a
  .cases a
 .rename_i len size b off m n;cases h
  simp only[fR]at f hi;subst f;subst hi;split at a
  .rename_i o j d;split at a
   .rename_i g c;cases a
    have sz:(sizeOf j).run P w=.ok g.size w:=by simp[sizeOf,typeInfo,program,Sem.run,c]
    refine⟨_,?_,rfl⟩;simp only[Instr.indexAt,eI,asIntOf,eV d];simp[Result.andThen,Instr.sureAddr,eV d,l,sz,nq]
   .cases a
  .split at a<;>cases a
  .cases a
 .rename_i size b off len cap m n;cases h
  simp only[fR]at f hi;subst f;subst hi;split at a
  .split at a<;>cases a
  .rename_i j d;split at a
   .rename_i g c;cases a
    have sz:(sizeOf j).run P w=.ok g.size w:=by simp[sizeOf,typeInfo,program,Sem.run,c]
    refine⟨_,?_,rfl⟩;simp only[Instr.indexAt,eI,asIntOf,eV d];simp[Result.andThen,eV d,l,sz,nq]
   .cases a
  .cases a
 .cases h
def rr{n:Nat}{s:SV}{i:Int}(h:jz n (some s)=some i):∃k,s=.v (.int k i):=by
 cases s with
 |v x=>cases x<;>simp only[jz]at h<;>first|(cases h;done)|(cases h;exact⟨_,rfl⟩)
 |p k off=>simp[jz]at h
 |u=>simp[jz]at h
def om{k:IntKind}{i:Int}{y:Nat}{code:BoundsCode}(h0:0<=i)(a:i<=y):(Instr.sliceBound (.int k i) y code).run P w=.ok i.toNat w:=by simp[Instr.sliceBound,asIntOf,Result.andThen,h0,a]
def e9(g:GB n0 β σ H a w){x:Operand}(h:ev σ x=.v v):a.eval x=v:=by have:=g.ev x;rw[h]at this;exact this
def Jl{ρ:Operand->Value}{xs:Array Operand}{l:List Value}(h:xs.toList.map ρ=l):xs.map ρ=l.toArray:=by rw[<-mY];simpa using h
variable{τ:TypeId}
def Vp{T:TypeId}(h:As P T x=some v):(Builtin.len_ #[T] τ #[x]).run P w=.ok v w:=by
 unfold As at h;split at h
 .rename_i a;cases h
  unfold bB at a;split at a<;>cases a;rename_i b;simp[Builtin.len_,eV b,Result.andThen,goInt]
 .rename_i a;cases h
  unfold bB at a;split at a<;>cases a;rename_i b;simp[Builtin.len_,eV b,Result.andThen,goInt]
 .cases h
def Vl{T:TypeId}(h:zI P T x=some v):(Builtin.cap_ #[T] τ #[x]).run P w=.ok v w:=by
 unfold zI at h;split at h
 .rename_i a;cases h
  unfold bB at a;split at a<;>cases a;rename_i b;simp[Builtin.cap_,eV b,Result.andThen,goInt]
 .cases h
def EU(h:tg x y=some v):(Builtin.min2 x y).run P w=.ok v w:=by
 unfold tg at h;split at h
 .cases h;simp[Builtin.min2]
 .cases h
def Vr(h:AC x y=some v):(Builtin.max2 x y).run P w=.ok v w:=by
 unfold AC at h;split at h
 .cases h;simp[Builtin.max2]
 .cases h
def Vm{S T:TypeId}(hs:∃d,P.underlying S=some d)(h:zO P T x=some v):(convert S T x).run P w=.ok v w:=by
 obtain⟨c,hs⟩:=hs;unfold zO at h;split at h
 .rename_i a;cases h
  unfold bB at a;split at a<;>cases a;rename_i b;simp[convert,eV b,eV hs,Result.andThen,Conv.intToInt]
 .cases h
variable{o:Oper}
def U2(g:GB n0 β σ H a w){c:Call}(d:o.op=.call c)
  (h:qw P (ev σ) c=some (φ,sv)):∃y,(execOp a.eval o).run P w=.ok (.value y) w/\fR β sv y:=by
 obtain⟨callee,args,types⟩:=c;unfold qw at h;simp only at h;split at h
 .rename_i x t ha ht;obtain rfl:args=#[x]:=by rw[<-mY];simpa using ha
  obtain rfl:types=#[t]:=by rw[<-mY];simpa using ht
  split at h
  .rename_i v hv;obtain⟨r,hr,rfl⟩:=jo h;refine⟨r,?_,rfl⟩;simp[execOp,d,resolve,e9 g hv,invoke,builtin,Result.andThen,Vp hr]
  .cases h
 .rename_i x t ha ht;obtain rfl:args=#[x]:=by rw[<-mY];simpa using ha
  obtain rfl:types=#[t]:=by rw[<-mY];simpa using ht
  split at h
  .rename_i v hv;obtain⟨r,hr,rfl⟩:=jo h;refine⟨r,?_,rfl⟩;simp[execOp,d,resolve,e9 g hv,invoke,builtin,Result.andThen,Vl hr]
  .cases h
 .rename_i x y ha;obtain rfl:args=#[x,y]:=by rw[<-mY];simpa using ha
  split at h
  .rename_i v e hv b;obtain⟨r,hr,rfl⟩:=jo h;refine⟨r,?_,rfl⟩;simp[execOp,d,resolve,e9 g hv,e9 g b,invoke,builtin,Builtin.min_,Result.andThen,EU hr]
  .cases h
 .rename_i x y ha;obtain rfl:args=#[x,y]:=by rw[<-mY];simpa using ha
  split at h
  .rename_i v e hv b;obtain⟨r,hr,rfl⟩:=jo h;refine⟨r,?_,rfl⟩;simp[execOp,d,resolve,e9 g hv,e9 g b,invoke,builtin,Builtin.max_,Result.andThen,Vr hr]
  .cases h
 .cases h
def U8(g:GB n0 β σ H a w)
  (h:pv P σ.bx (ev σ) o.op=some (φ,sv)) (C:φ):∃y,(execOp a.eval o).run P w=.ok (.value y) w/\fR β sv y:=by
 obtain⟨dst,op,type,pos,bT,guard⟩:=o;simp only at h;have mv:∀(x:Operand),(match ev σ x with | .u=>(none:Option (Prop×SV))|sv=>some (True,sv))=some (φ,sv)->fR β sv (a.eval x):=by intro x j;have:=g.ev x;cases L:ev σ x<;>rw[L]at j this<;>cases j<;>exact this
 cases op<;>simp only[pv]at h<;>try (cases h;done)
 case move x=>exact⟨a.eval x,by simp[execOp],mv x h⟩
 case assign x=>exact⟨a.eval x,by simp[execOp],mv x h⟩
 case pick c x y=>
  split at h
  .rename_i b hb;cases h
   cases b
   .exact⟨a.eval y,by simp[execOp,e9 g hb,asBool],g.ev y⟩
   .exact⟨a.eval x,by simp[execOp,e9 g hb,asBool],g.ev x⟩
  .cases h
 case load T x=>
  unfold x4 at h;split at h
  .rename_i k off j;split at h
   .rename_i B hB;split at h
    .rename_i v hv;cases h
     obtain⟨hm,rfl⟩:=zU hB;have ha:=g.ev x;rw[j]at ha;simp only[fR]at ha;refine⟨v,?_,rfl⟩;have:=ET (P:=P) (w:=w) (off:=off) (g.bx B hm).1 hv;simp[execOp,ha,Instr.loadAt,Instr.sureAddr,this,Result.andThen]
    .cases h
   .cases h
  .cases h
 case fieldAddr T x f=>
  split at h
  .rename_i n ty hf;unfold Bj at h;split at h
   .rename_i k off j;cases h
    have ha:=g.ev x;rw[j]at ha;simp only[fR]at ha;exact⟨_,by simp[execOp,ha,Hk hf,Result.andThen],rfl⟩
   .rename_i b off j;cases h
    exact⟨_,by simp[execOp,e9 g j,Hk hf,Result.andThen],rfl⟩
   .cases h
  .cases h
 case nilCheck x=>
  unfold Bl at h;split at h
  .rename_i k off j;cases h
   have ha:=g.ev x;rw[j]at ha;simp only[fR]at ha;exact⟨_,by simp[execOp,ha],rfl⟩
  .rename_i p j;cases h
   exact⟨_,by simp[execOp,e9 g j],rfl⟩
  .cases h
 case indexAddr T x i=>
  obtain⟨y,W,hm⟩:=Vo (P:=P) (w:=w) (T:=T) rfl h C (g.ev x) (g.ev i);exact⟨y,by simp[execOp,W,Result.andThen],hm⟩
 case index T x i=>
  unfold Bk at h;split at h
  .rename_i s k n G j hi;cases h
   unfold bB at G;split at G<;>cases G;rename_i z;refine⟨_,?_,rfl⟩;obtain⟨h0,h1⟩:=C;obtain⟨m,rfl⟩:=Int.eq_ofNat_of_zero_le h0;have hm:m<s.size:=by omega
   have hg:s[m]?=some s[m]:=by simp[hm]
   have hb:(s.data.toList.getD m 0)=s[m]:=by have:m<s.data.size:=hm;simp[sj this];rfl
   simp only[execOp,Instr.index,eI,asIntOf,e9 g j,e9 g hi,eV z];simp[Result.andThen,hm,zH,hb];rfl
  .cases h
 case field T x f=>
  split at h
  .rename_i n ty cs hf j;obtain⟨r,hr,rfl⟩:=jo h;refine⟨r,?_,rfl⟩;unfold bv at hf;split at hf
   .rename_i fs z;split at hf
    .rename_i g' hg;split at hf
     .split at hf
      .cases hf
      .cases hf
       simp[execOp,Instr.field,eV z,Result.andThen,hg,e9 g j,asAgg,x8 hr]
     .cases hf
    .cases hf
   .cases hf
  .cases h
 case extract x n=>
  split at h
  .rename_i vs j;obtain⟨r,hr,rfl⟩:=jo h;refine⟨r,?_,rfl⟩;have X:vs[n]?=some r:=by simpa using hr
   simp[execOp,Instr.extract,e9 g j,X,Result.andThen]
  .cases h
 case build T ps=>
  split at h
  .rename_i l A;obtain⟨r,hr,rfl⟩:=jo h;refine⟨r,?_,rfl⟩;have hp:=Gu g _ _ A;have:(ps.map fun(i,x)=>(i,a.eval x))=l.toArray:=by rw[<-mY];simpa using hp
   have hb:=run_build (P:=P) (w:=w) (T:=T) (parts:=l.toArray) (by simpa using hr);simp only[execOp,this,eI,hb];simp[Result.andThen]
  .cases h
 case binOp op T x y T'=>
  split at h
  .rename_i v v' j W;obtain⟨r,hr,rfl⟩:=jo h;refine⟨r,?_,rfl⟩;have:=Vk (P:=P) (w:=w) (T:=T) (ox:=x) (oy:=y) hr;simp only[execOp,e9 g j,e9 g W,eI]at this |-;rw[this];simp[Result.andThen]
  .cases h
 case unOp op T x=>
  split at h
  .rename_i v j;obtain⟨r,hr,rfl⟩:=jo h;exact⟨r,by simp[execOp,e9 g j,Vs hr,Result.andThen],rfl⟩
  .cases h
 case convert s d x=>
  split at h
  .rename_i v hs j;obtain⟨r,hr,rfl⟩:=jo h;exact⟨r,by simp[execOp,e9 g j,Vm (P:=P) (w:=w) (Option.isSome_iff_exists.1 hs) hr,Result.andThen],rfl⟩
  .cases h
 case makeFunc fn f c=>
  split at h
  .rename_i l m A hm;cases h
   refine⟨_,?_,rfl⟩;simp[execOp,Jl (CP g _ _ A),Jl (CP g _ _ hm),Instr.makeFunc,Result.andThen]
  .cases h
 case slice T x lo hi mx=>
  cases mx with
  |some m=>cases h
  |none=>
   simp only at h;unfold rW at h;split at h
   .rename_i size aa len cap G L j;unfold bB at G;split at G<;>cases G;rename_i e z;have K:(sizeOf e).run P w=.ok size w:=by
     unfold bI at L;rw[z]at L;simp only at L;split at L
     .rename_i ie ac;cases L;simp[sizeOf,typeInfo,program,Sem.run,ac]
     .cases L
    have t:=e9 g j;cases lo with
    |none=>
     cases hi with
     |none=>
      simp only[kG,jz]at h;cases h
      exact⟨_,by simp[execOp,Instr.sliceAt,t,eV z,Instr.slice,Instr.sliceBounds,Result.andThen,K,fV],rfl⟩
     |some U=>
      simp only[kG,cZ]at h;split at h
      .rename_i l R Z A q hs;cases hs
       cases h
       obtain⟨I,Q⟩:=rr q;simp only[jz,a8]at A;subst A;have F:=om (P:=P) (w:=w) (k:=I) (code:=.sliceAcap) (y:=cap) C.1.2 C.2;exact⟨_,by simp[execOp,Instr.sliceAt,t,eV z,Instr.slice,Instr.sliceBounds,Result.andThen,K,fV,e9 g Q,F],rfl⟩
      .rename_i hs;cases hs
      .cases h
    |some zl=>
     cases hi with
     |none=>
      simp only[kG,cZ]at h;split at h
      .rename_i hs;cases hs
      .rename_i l R A q _;cases h
       obtain⟨I,Q⟩:=rr A;simp only[jz,a8]at q;subst q;have F:=om (P:=P) (w:=w) (k:=I) (code:=.sliceB) (y:=len) C.1 C.2;exact⟨_,by simp[execOp,Instr.sliceAt,t,eV z,Instr.slice,Instr.sliceBounds,Result.andThen,K,fV,e9 g Q,F],rfl⟩
      .cases h
     |some U=>
      simp only[cZ]at h;split at h
      .rename_i l R Z A q hs;cases hs
       cases h
       obtain⟨S,J⟩:=rr A;obtain⟨I,N⟩:=rr q;have h0:=C.1.1;have h1:=C.1.2;have F:=om (P:=P) (w:=w) (k:=I) (code:=.sliceAcap) (y:=cap) O C.2;have V:=om (P:=P) (w:=w) (k:=S) (code:=.sliceB) (y:=R.toNat) h0 O;exact⟨_,by simp[execOp,Instr.sliceAt,t,eV z,Instr.slice,Instr.sliceBounds,Result.andThen,K,fV,e9 g J,e9 g N,F,V],rfl⟩
      .rename_i hs;cases hs
      .cases h
   .rename_i e s G j;unfold bB at G;split at G<;>cases G;rename_i z;have t:=e9 g j;split at h
    .rename_i l R A q;cases h
     have h0:=C.1.1;have h1:=C.1.2;have h2:=C.2;cases lo with
     |none=>
      simp only[kG,jz,a8]at A;subst A;cases hi with
      |none=>simp only[kG,jz,a8]at q;subst q;exact⟨_,by simp[execOp,Instr.sliceAt,t,eV z,Instr.slice,Instr.sliceBounds,Result.andThen],rfl⟩
      |some U=>obtain⟨I,Q⟩:=rr q;have F:=om (P:=P) (w:=w) (k:=I) (code:=.sliceAlen) (y:=s.size) h1 h2;exact⟨_,by simp[execOp,Instr.sliceAt,t,eV z,Instr.slice,Instr.sliceBounds,Result.andThen,e9 g Q,F],rfl⟩
     |some zl=>
      obtain⟨S,J⟩:=rr A;cases hi with
      |none=>simp only[kG,jz,a8]at q;subst q;have F:=om (P:=P) (w:=w) (k:=S) (code:=.sliceB) (y:=s.size) h0 h1;exact⟨_,by simp[execOp,Instr.sliceAt,t,eV z,Instr.slice,Instr.sliceBounds,Result.andThen,e9 g J,F],rfl⟩
      |some U=>obtain⟨I,N⟩:=rr q;have F:=om (P:=P) (w:=w) (k:=I) (code:=.sliceAlen) (y:=s.size) O h2;have V:=om (P:=P) (w:=w) (k:=S) (code:=.sliceB) (y:=R.toNat) h0 O;exact⟨_,by simp[execOp,Instr.sliceAt,t,eV z,Instr.slice,Instr.sliceBounds,Result.andThen,e9 g J,e9 g N,F,V],rfl⟩
    .cases h
   .cases h
 case call c=>exact U2 (o:=⟨dst,.call c,type,pos,bT,guard⟩) g rfl h
def qe(h:B∈d8 l k):B∈l/\B.key≠k:=by
 induction l with
 |nil=>simp[d8]at h
 |cons b l a=>
  simp only[d8]at h;split at h
  .obtain⟨h1,h2⟩:=a h;exact⟨.tail _ h1,h2⟩
  .rcases List.mem_cons.1 h with rfl|h
   .exact⟨.head _,by assumption⟩
   .obtain⟨h1,h2⟩:=a h;exact⟨.tail _ h1,h2⟩
def uS{x:cK}:B∈dX x l<->B=x\/B∈l:=by
 induction l with
 |nil=>simp[dX]
 |cons b l a=>
  simp only[dX];split
  .simp only[jY,a];constructor<;>(intro h;rcases h with h|h|h<;>simp_all)
  .simp
def Hg(h:l.Pairwise (fun x y=>x.key≠y.key)):(d8 l k).Pairwise (fun x y=>x.key≠y.key):=by
 induction l with
 |nil=>simp[d8]
 |cons b l a=>
  rw[mh]at h;simp only[d8];split
  .exact a h.2
  .exact List.pairwise_cons.2 ⟨fun y c=>h.1 y (qe c).1,a h.2⟩
def Rk{x:cK}(h:l.Pairwise (fun x y=>x.key≠y.key))(c:∀B∈l,B.key≠x.key):(dX x l).Pairwise (fun x y=>x.key≠y.key):=by
 induction l with
 |nil=>simp[dX]
 |cons b l d=>
  have f:=h;rw[mh]at h;simp only[dX];split
  .refine List.pairwise_cons.2 ⟨fun y a=>?_,d h.2 fun B e=>c B (.tail _ e)⟩;rcases uS.1 a with rfl|a
   .exact c b (.head _)
   .exact h.1 y a
  .refine List.pairwise_cons.2 ⟨fun y a=>(c y a).symm,f⟩
def Xs{off:Nat}(c:l.Pairwise (fun x y=>x.key≠y.key))(h:B∈kF l k off cs):
  (B∈l/\B.key≠k)\/(∃a∈l,a.key=k/\B={ a with cs:=bL a.cs off cs }):=by
 induction l with
 |nil=>simp[kF]at h
 |cons b l d=>
  rw[mh]at c;simp only[kF]at h;split at h
  .rename_i e;rcases List.mem_cons.1 h with rfl|h
   .exact .inr ⟨b,.head _,e,rfl⟩
   .exact .inl ⟨.tail _ h,fun f=>c.1 B h (e.trans f.symm)⟩
  .rename_i e;rcases List.mem_cons.1 h with rfl|h
   .exact .inl ⟨.head _,e⟩
   .rcases d c.2 h with ⟨h1,h2⟩|⟨a,h1,h2,h3⟩
    .exact .inl ⟨.tail _ h1,h2⟩
    .exact .inr ⟨a,.tail _ h1,h2,h3⟩
def FK(l:List cK)(k off:Nat)(cs:List Value):(kF l k off cs).map (·.key)=l.map (·.key):=by
 induction l with
 |nil=>rfl
 |cons b l a=>simp only[kF];split<;>simp[a]
def jP(P:Program)(ρ:Operand->SV)(op:Op):Option (TypeId×List Value):=
 match op with
 | .alloc T=>match bk P T with|some z=>some (T,z.cells.toList)|none=>none
 | .box T x=>match ρ x with | .v v=>some (T,v.cells.toList)|_=>none
 |_=>none
def xm{o:Obj}(h:b<w.heap.size):(w.heap.push o)[b]?=w.heap[b]?:=by rw[Array.getElem?_push,ab O]
variable{w0:World}{H0:PH}
def cM.alloc(s:cM H0 w0 H w)(o:Obj):cM H0 w0 H { w with heap:=w.heap.push o } where
 sub:=fun b x h=>by
  have:=s.sub b x h;have hb:b<w.heap.size:=by
   rcases aI b w.heap.size with h|h
   .exact h
   .rw[Ca h]at this;cases this
  rw[show ({ w with heap:=w.heap.push o }:World).heap=w.heap.push o from rfl,xm hb];exact this
 size:=by simp;have:=s.size;omega
 priv:=fun b hb a=>by rw[show ({ w with heap:=w.heap.push o }:World).heap=w.heap.push o from rfl,xm (Nat.lt_of_lt_of_le hb s.size)];exact s.priv b hb a
 dom:=s.dom
 os:=s.os
 tape:=s.tape
 out:=s.out
def mI{o:Obj}(h:w.heap[b]?=some o):b<w.heap.size:=by
 rcases aI b w.heap.size with h1|h1
 .exact h1
 .rw[Ca h1]at h;cases h
theorem GB.newBox(A:n0=w0.heap.size)(s:cM H0 w0 H w)(g:GB n0 β σ H a w)(d:Nat)(T:TypeId)(cs:List Value):
  GB n0 (fun k=>if k=d then w.heap.size else β k) (σ.newBox d T cs) H (a.put (some d) (.pointer (some ⟨w.heap.size,0,none⟩))) { w with heap:=w.heap.push (.cells cs.toArray T (0,0)) }:=by
 have b:∀B∈d8 σ.bx d,B∈σ.bx/\B.key≠d:=fun B h=>qe h;have lt:∀B∈σ.bx,β B.key<w.heap.size:=fun B h=>mI (g.bx B h).1;have y:=s.size;constructor
 .exact g.defers
 .simp[Act.put,St.newBox,Kr,g.size]
 .intro t x j;simp only[St.newBox,ts,eN]at j;have r:=g.size;by_cases e:d=t
  .subst e;simp only[co]at j;split at j
   .cases j
    rename_i C;simp only[Act.put,jr];rw[Array.getElem?_setIfInBounds_self_of_lt O];simp[fR]
   .cases j
  .simp only[ab e,jG,yV]at j;obtain⟨sv,m,rfl⟩:=j;have:=g.tm t sv m;have h2:(a.put (some d) (.pointer (some ⟨w.heap.size,0,none⟩))).tmps.getD t undef=a.tmps.getD t undef:=by simp[Act.put,jr,Array.getElem?_setIfInBounds_ne e]
   rw[h2];cases sv with
   |v x=>exact this
   |u=>trivial
   |p k off=>
    simp only[dh];split
    .trivial
    .rename_i f;simpa[fR,f]using this
 .intro B c;rcases uS.1 c with rfl|c
  .refine⟨by simp,?_⟩;simp only[co];cases z:H w.heap.size with
   |none=>rfl
   |some o=>exact absurd (mI (s.sub _ _ z)) O
  .obtain⟨hm,f⟩:=b B c;simp only[ab f];have:=g.bx B hm;refine⟨?_,this.2⟩;rw[xm (lt B hm)];exact this.1
 .intro B c B' i l;rcases uS.1 c with rfl|c<;>rcases uS.1 i with rfl|i
  .rfl
  .obtain⟨hm,f⟩:=b B' i;simp only[co,ab f]at l;have:=lt B' hm;omega
  .obtain⟨hm,f⟩:=b B c;simp only[co,ab f]at l;have:=lt B hm;omega
  .obtain⟨hm,f⟩:=b B c;obtain⟨n,q⟩:=b B' i;simp only[ab f,ab q]at l;exact g.inj B hm B' n l
 .intro B c;rcases uS.1 c with rfl|c
  .simp;omega
  .obtain⟨hm,f⟩:=b B c;simp only[ab f];exact g.lo B hm
 .exact Rk (Hg g.keys) fun B c=>(b B c).2
def MT(g:GB n0 β σ H a w){T:TypeId}
  (h:jP P (ev σ) o.op=some (T,cs)):(execOp a.eval o).run P w=.ok (.value (.pointer (some ⟨w.heap.size,0,none⟩))) { w with heap:=w.heap.push (.cells cs.toArray T (0,0)) }:=by
 obtain⟨dst,op,type,pos,bT,guard⟩:=o;simp only at h;cases op<;>simp only[jP]at h<;>try (cases h;done)
 case alloc T'=>
  unfold bk at h;cases hi:P.info? T' with
  |none=>rw[hi]at h;cases h
  |some i=>
   rw[hi]at h;simp only[dz]at h;cases b:i.zero with
   |none=>rw[b]at h;cases h
   |some z=>
    rw[b]at h;have c:(zeroValue T').run P w=.ok z w:=by simp[zeroValue,typeInfo,program,Sem.run,hi,b]
    cases h
    simp[execOp,Instr.alloc,c,Result.andThen,newVar,newRow,newObj,Sem.run]
 case box T' x=>
  split at h
  .rename_i v hv;cases h
   simp[execOp,Instr.box,e9 g hv,Result.andThen,newVar,newRow,newObj,Sem.run]
  .cases h
def mW(P:Program)(bx:List cK)(ρ:Operand->SV)(op:Op):Option (Nat×Nat×List Value):=
 match op with
 | .store T x y=>match ρ x,ρ y with
  | .p k off,.v v=>match mB v,bD P T,eJ bx k with
   |some cs,some n,some B=>if cs.length=n/\off+n<=B.cs.length then some (k,off,cs)else none
   |_,_,_=>none
  |_,_=>none
 |_=>none
def x9{P:Program}(b:Nat)(ty:TypeId):∀(a:List Value) (i off:Nat) (cs:List Value) (w:World),w.heap[b]?=some (.cells cs.toArray ty (0,0))->off+i+a.length<=cs.length->(∀v∈a,one v=true)->
  ∃w2,(storeCells ⟨b,off,none⟩ a i).run P w=.ok () w2/\w2.heap[b]?=some (.cells (bL cs (off+i) a).toArray ty (0,0))/\(∀k,k≠b->w2.heap[k]?=w.heap[k]?)/\w2.heap.size=w.heap.size/\w2.os=w.os/\w2.tape=w.tape/\w2.output=w.output
 | [],i,off,cs,w,h,_,_=>⟨w,by simp[storeCells],by simpa[bL]using h,fun _ _=>rfl,rfl,rfl,rfl,rfl⟩
 |v::a,i,off,cs,w,h,m,g=>by
  simp only[bm]at m;have n:w.cell? ⟨b,off+i,none⟩=cs[off+i]?:=wP h (off+i);have e:off+i<cs.length:=by omega
  have hf:w.frozen? ⟨b,off+i,none⟩=false:=by simp[World.frozen?,h]
  have d:=g v (.head _);have hs:(w.setCell ⟨b,off+i,none⟩ v).heap[b]?=some (.cells (cs.set (off+i) v).toArray ty (0,0)):=by simp[World.setCell,Array.getElem?_modify,h]
  obtain⟨w2,h1,h2,h3,h4,h5,h6,o⟩:=x9 (P:=P) b ty a (i+1) off (cs.set (off+i) v) (w.setCell ⟨b,off+i,none⟩ v) hs (by simp;omega) fun u l=>g u (.tail _ l);have c:(store ((⟨b,off,none⟩:Addr).add i) v).run P w=.ok () (w.setCell ⟨b,off+i,none⟩ v):=by
   rw[nq];have f:w.cell? ⟨b,off+i,none⟩=some cs[off+i]:=by rw[n,aZ e]
   cases v<;>first|(exact absurd d Bool.false_ne_true)|(simp only[store,Sem.run,f,hf];rfl)
  refine⟨w2,?_,?_,?_,?_,?_,?_,?_⟩
  .simp only[storeCells,eI,c,Result.andThen];exact h1
  .rw[h2,bL];rfl
  .intro k j;rw[h3 k j];simp[World.setCell,Array.getElem?_modify,Ne.symm j]
  .rw[h4];simp[World.setCell]
  .rw[h5];rfl
  .rw[h6];rfl
  .rw[o];rfl
def Wi(hn:n0=w0.heap.size)(s:cM H0 w0 H w)(g:GB n0 β σ H a w){off:Nat}
  (h:mW P σ.bx (ev σ) o.op=some (k,off,cs)) :
  ∃w2,(execOp a.eval o).run P w=.ok .skip w2/\cM H0 w0 H w2/\GB n0 β (σ.store k off cs) H a w2:=by
 obtain⟨dst,op,type,pos,bT,guard⟩:=o;simp only at h;cases op<;>simp only[mW]at h<;>try (cases h;done)
 rename_i T x y;split at h
 case h_2=>cases h
 rename_i k' N v U S;split at h
 case h_2=>cases h
 rename_i cs' n B C m hB;split at h
 case isFalse=>cases h
 rename_i Z;cases h
 obtain⟨G,X⟩:=Z;obtain⟨hm,rfl⟩:=zU hB;obtain⟨d,t⟩:=GT C;have ha:=g.ev x;rw[U]at ha;simp only[fR]at ha;have hv:=e9 g S;have sz:(sizeOf T).run P w=.ok n w:=by unfold bD at m;simp only[yV]at m;obtain⟨i,hi,rfl⟩:=m;simp[sizeOf,typeInfo,program,Sem.run,hi]
 obtain⟨hb,f⟩:=g.bx B hm;obtain⟨w2,h1,h2,h3,h4,h5,h6,h7⟩:=x9 (P:=P) (β B.key) B.ty cs 0 off B.cs w hb O t;have W:=g.lo B hm;have V:=s.size;refine⟨w2,?_,?_,?_⟩
 .have F:v.cells.size=n:=by rw[<-G,<-d];simp
  simp only[execOp,Instr.storeAt,ha,hv,Instr.sureAddr,storeVar,eI];simp[Result.andThen,sz,F,d,h1]
 .refine⟨fun b x l=>?_,O,fun b I A=>?_,s.dom,by rw[h5];exact s.os,by rw[h6];exact s.tape,by rw[h7];exact s.out⟩
  .rw[h3 b (fun e=>by subst e;rw[f]at l;cases l)];exact s.sub b x l
  .rw[h3 b O];exact s.priv b I A
 .have c:∀B'∈kF σ.bx B.key off cs,∃r∈σ.bx,r.key=B'.key:=by intro B' q;have:B'.key∈(kF σ.bx B.key off cs).map (·.key):=List.mem_map.2 ⟨B',q,rfl⟩;rw[FK]at this;obtain⟨r,h1,h2⟩:=List.mem_map.1 this;exact⟨r,h1,h2⟩
  refine⟨g.defers,g.size,g.tm,?_,?_,?_,?_⟩
  .intro B' q;rcases Xs g.keys q with ⟨u,z⟩|⟨r,u,z,rfl⟩
   .refine⟨?_,(g.bx B' u).2⟩;rw[h3 _ (fun e=>z (g.inj B' u B hm e))];exact(g.bx B' u).1
   .have:r=B:=by
     by_cases e:r=B
     .exact e
     .exfalso;have:=g.keys;rcases List.mem_iff_getElem.1 u with ⟨i,hi,rfl⟩
      rcases List.mem_iff_getElem.1 hm with ⟨j,Q,rfl⟩
      rcases sx i j with h|h|h
      .exact(List.pairwise_iff_getElem.1 this i j hi Q h) z
      .subst h;exact e rfl
      .exact(List.pairwise_iff_getElem.1 this j i Q hi h) z.symm
    subst this;exact⟨by simpa using h2,f⟩
  .intro L p B2 J R;obtain⟨K,c1,e1⟩:=c L p;obtain⟨C2,c2,e2⟩:=c B2 J;rw[<-e1,<-e2]at R |-;exact g.inj K c1 C2 c2 R
  .intro L p;obtain⟨K,c1,e1⟩:=c L p;rw[<-e1];exact g.lo K c1
  .have:((kF σ.bx B.key off cs).map (·.key)).Pairwise (·≠·):=by rw[FK];exact List.pairwise_map.2 g.keys
   exact List.pairwise_map.1 this
def bH(ol:List Oper)(σ:St)(o:Oper):Option Bool:=
 match o.guard with
 |none=>some true
 |some (j,a)=>match ol[j]? with
  |some o'=>match o'.dst with
   |some t=>match jA σ.tm t with
    | .v (.bool b)=>some (b == a)
    | .v (.tuple _)=>some false
    |_=>none
   |none=>none
  |none=>none
variable{ops:Array Oper}
def LI(g:GB n0 β σ H a w){r:Bool}(h:bH ops.toList σ o=some r):
  Region.wanted o (yielded ops a.tmps)=r:=by
 unfold bH at h;unfold Region.wanted;split at h
 .rename_i i;simp only[i];cases h;rfl
 .rename_i j e i;simp only[i];split at h
  .rename_i o' k;split at h
   .rename_i t ht;split at h
    .rename_i b hb;cases h
     have d:ops[j]?=some o':=by simpa using k
     have f:yielded ops a.tmps j=some b:=by
      unfold yielded;simp only[d,dz,ht];rw[rE]at hb;cases hs:σ.tm[t]? with
      |none=>rw[hs]at hb;cases hb
      |some sv=>
       rw[hs]at hb;simp only[qL]at hb;subst hb;have h1:=g.tm t _ hs;simp only[fR]at h1;have c:t<a.tmps.size:=by
        rw[g.size];rcases aI t σ.tm.length with h|h
        .exact h
        .rw[fe h]at hs;cases hs
       rw[jr,sj c]at h1;simp only[qL]at h1;simp[c,h1]
     rw[f];cases b<;>cases e<;>rfl
    .rename_i l hb;cases h
     have d:ops[j]?=some o':=by simpa using k
     have f:yielded ops a.tmps j=none:=by
      unfold yielded;simp only[d,dz,ht];rw[rE]at hb;cases hs:σ.tm[t]? with
      |none=>rw[hs]at hb;cases hb
      |some sv=>
       rw[hs]at hb;simp only[qL]at hb;subst hb;have h1:=g.tm t _ hs;simp only[fR]at h1;have c:t<a.tmps.size:=by
        rw[g.size];rcases aI t σ.tm.length with h|h
        .exact h
        .rw[fe h]at hs;cases hs
       rw[jr,sj c]at h1;simp only[qL]at h1;simp[c,h1]
     rw[f];rfl
    .cases h
   .cases h
  .cases h
def bf(σ:St)(x:Operand):Value:=match ev σ x with | .v y=>y|_=>undef
def fO:SV->Bool | .v _=>true|_=>false
def fB:Op->Bool | .select ..=>false|_=>true
def bQ(σ:St)(op:Op):Bool:=fB op && op.operands.toList.all fun x=>fO (ev σ x)
def IJ(g:GB n0 β σ H a w)(h:bQ σ o.op=true):execOp (bf σ) o=execOp a.eval o:=by
 simp only[bQ,cX,ss]at h;refine execOp_congr o (fun cs b e=>by rw[e]at h;exact absurd h.1 (by simp[fB])) fun x d=>?_;have h1:=h.2 x (by simpa using d);unfold bf;cases c:ev σ x with
 |v y=>exact(e9 g c).symm
 |p k off=>rw[c]at h1;cases h1
 |u=>rw[c]at h1;cases h1
def wq(P:Program)(w:World)(H:PH)(Ψ:SV->PH->Prop):Result Next->Prop
 | .ok (.value v) w2=>∃H2,cM H w H2 w2/\Ψ (.v v) H2
 | .ok .skip w2=>∃H2,cM H w H2 w2/\Ψ .u H2
 | .ok (.enter f args) w2=>Calls P f args w2 fun e a=>match e with
  | .returned v=>∃H2,cM H w H2 a/\Ψ (.v v) H2
  |_=>False
 |_=>False
def eD(P:Program)(s:Sem Next)(H:PH)(Ψ:SV->PH->Prop):Prop:=∀w,Sub H w->wq P w H Ψ (s.run P w)
variable{s:Sem Next}
def eD.mono{Ψ Ψ':SV->PH->Prop}(h:eD P s H Ψ)(k:∀sv H2,Ψ sv H2->Ψ' sv H2):eD P s H Ψ':=by
 intro w f;have hr:=h w f;unfold wq at hr |-;split at hr
 .obtain⟨H2,a,b⟩:=hr;exact⟨H2,a,k _ _ b⟩
 .obtain⟨H2,a,b⟩:=hr;exact⟨H2,a,k _ _ b⟩
 .refine hr.mono fun e g d=>?_;cases e with
  |returned v=>obtain⟨H2,a,b⟩:=d;exact⟨H2,a,k _ _ b⟩
  |outgrown=>exact d
  |panicked c=>exact d
 .exact hr
def Gf(P:Program)(σ:St)(H:PH)(o:Oper)(sv:SV):Prop:=
 (∃φ,pv P σ.bx (ev σ) o.op=some (φ,sv)/\φ)\/
 (∃v,sv=.v v/\bQ σ o.op=true/\∀w,Sub H w->(execOp (bf σ) o).run P w=.ok (.value v) w)
def wF (P : Program) (ol : List Oper) (o : Oper) (K : St → PH → Prop) (σ : St) (H : PH) : Prop :=
  (bH ol σ o = some false ∧ K (σ.put o.dst (.v undef)) H) ∨
  (bH ol σ o = some true ∧
    ((∃ sv, Gf P σ H o sv ∧ K (σ.put o.dst sv) H) ∨
     (∃ d T cs, o.dst = some d ∧ jP P (ev σ) o.op = some (T, cs) ∧ K (σ.newBox d T cs) H) ∨
     (∃ k off cs, mW P σ.bx (ev σ) o.op = some (k, off, cs) ∧ K ((σ.store k off cs).put o.dst .u) H) ∨
     (bQ σ o.op = true ∧ eD P (execOp (bf σ) o) H fun sv H2 => K (σ.put o.dst sv) H2)))
def V(P:Program)(ol:List Oper)(K:St->PH->Prop):List Nat->St->PH->Prop
 | [],σ,H=>K σ H
 |i::l,σ,H=>match ol[i]? with
  |none=>V P ol K l σ H
  |some o=>wF P ol o (V P ol K l) σ H
def QK(n0:Nat)(H0:PH)(w0:World)(K:St->PH->Prop):Exit->Act->World->Prop
 | .normal,a,w=>∃σ H,K σ H/\cM H0 w0 H w/\G n0 σ H a w
 |_,_,_=>False
theorem GB.step{w2:World}(g:GB n0 β σ H a w)(t:cM H w H2 w2):GB n0 β σ H2 a w2:=
 ⟨g.defers,g.size,g.tm,fun B c=>by obtain⟨h1,h2⟩:=g.bx B c;have b:=mI h1;exact⟨by rw[t.priv _ b h2];exact h1,t.dom _ b h2⟩,g.inj,g.lo,g.keys⟩
def zm{i:Nat}(hi:ops[i]?=some o){K:St->PH->Prop}{K':Act->World->Prop}(A:n0=w0.heap.size){KQ:St->PH->Prop}
  (l:∀σ H a w,K σ H->cM H0 w0 H w->G n0 σ H a w->K' a w)     (h:wF P ops.toList o K σ H) (s:cM H0 w0 H w) (g:G n0 σ H a w) :
  wpOp P ops (QK n0 H0 w0 KQ) i K' a w:=by
 obtain⟨β,g⟩:=g;unfold wpOp;simp only[hi];rcases h with ⟨p,j⟩|⟨p,h⟩
 .rw[LI g p];exact l _ _ _ _ j s ⟨β,g.put o.dst rfl⟩
 .rw[LI g p,ag rfl];rcases h with ⟨sv,hv,j⟩|⟨d,T,cs,hd,z,j⟩|⟨k,off,cs,q,j⟩|⟨m,r⟩
  .left
   rcases hv with ⟨φ,hp,B⟩|⟨v,rfl,m,n⟩
   .obtain⟨y,C,hm⟩:=U8 (P:=P) g hp B;simp only[Oper.wp,C,Oper.upon];exact l _ _ _ _ j s ⟨β,g.put o.dst hm⟩
   .have:=n w s.sub;rw[IJ g m]at this;simp only[Oper.wp,this,Oper.upon];exact l _ _ _ _ j s ⟨β,g.put o.dst rfl⟩
  .left
   simp only[Oper.wp,MT g z,Oper.upon,hd];exact l _ _ _ _ j (s.alloc _) ⟨_,g.newBox A s d T cs⟩
  .left
   obtain⟨w2,h1,h2,h3⟩:=Wi A s g q;simp only[Oper.wp,h1,Oper.upon];exact l _ _ _ _ j h2 ⟨β,h3.put o.dst Jm⟩
  .have u:=IJ g m;have b:=r w s.sub
   left
   rw[u]at b;simp only[Oper.wp];unfold wq at b;split at b
   .rename_i v w2 hr;obtain⟨H2,t,j⟩:=b;simp only[hr,Oper.upon];exact l _ _ _ _ j (s.trans t) ⟨β,(g.step t).put o.dst rfl⟩
   .rename_i w2 hr;obtain⟨H2,t,j⟩:=b;simp only[hr,Oper.upon];exact l _ _ _ _ j (s.trans t) ⟨β,(g.step t).put o.dst Jm⟩
   .rename_i f args w2 hr;simp only[hr,Oper.upon];refine b.mono fun e F x=>?_;cases e with
    |returned v=>obtain⟨H2,t,j⟩:=x;exact l _ _ _ _ j (s.trans t) ⟨β,(g.step t).put o.dst rfl⟩
    |outgrown=>exact x.elim
    |panicked c=>exact x.elim
   .exact b.elim
def CE{P:Program}{ops:Array Oper}{K:St->PH->Prop}{n0:Nat}{H0:PH}{w0:World}(c:n0=w0.heap.size):∀(l:List Nat) {σ:St} {H:PH} {a:Act} {w:World},
  V P ops.toList K l σ H->cM H0 w0 H w->G n0 σ H a w->wpOps P ops (QK n0 H0 w0 K) l a w
 | [],σ,H,a,w,h,s,g=>⟨σ,H,h,s,g⟩
 |i::l,σ,H,a,w,h,s,g=>by
  simp only[V]at h;rw[wpOps_cons];cases b:ops[i]? with
  |none=>
   have:ops.toList[i]?=none:=by simpa using b
   rw[this]at h;simp only[wpOp,b];exact CE c l h s g
  |some o=>
   have:ops.toList[i]?=some o:=by simpa using b
   rw[this]at h;exact zm b c (fun σ' H' f e d s' g'=>CE c l d s' g') h s g
def PH.put(H:PH)(b:Nat)(o:Obj):PH:=fun c=>if c=b then some o else H c
def PH.le_put{o:Obj}(h:H b=none):H.le (H.put b o):=fun c x a=>by
 by_cases e:c=b
 .subst e;rw[h]at a;cases a
 .simp[PH.put,e,a]
def cM.new(s:Sub H w)(o:Obj):H w.heap.size=none/\cM H w (H.put w.heap.size o) { w with heap:=w.heap.push o }:=by
 have c:H w.heap.size=none:=by
  cases d:H w.heap.size with
  |none=>rfl
  |some o=>exact absurd (mI (s _ _ d)) O
 refine⟨c,fun b x h=>?_,by simp,fun b hb _=>?_,fun b hb a=>?_,rfl,rfl,rfl⟩
 .by_cases e:b=w.heap.size
  .subst e;simp only[PH.put,co]at h;cases h;simp
  .simp only[PH.put,ab e]at h;rw[show ({ w with heap:=w.heap.push o }:World).heap=w.heap.push o from rfl,xm (mI (s _ _ h))];exact s _ _ h
 .rw[show ({ w with heap:=w.heap.push o }:World).heap=w.heap.push o from rfl,xm hb]
 .simp[PH.put,Nat.ne_of_lt hb,a]
def cM.beside{w2:World}{o:Obj}(hb:H b=none)(s:Sub (H.put b o) w)(t:cM H w H2 w2):H2 b=none/\cM (H.put b o) w (H2.put b o) w2:=by
 have f:w.heap[b]?=some o:=s b o (by simp[PH.put]);have g:=mI f;have h:=t.dom b g hb;refine⟨h,fun c x a=>?_,t.size,fun c a d=>?_,fun c a d=>?_,t.os,t.tape,t.out⟩
 .by_cases e:c=b
  .subst e;simp only[PH.put,co]at a;cases a;rw[t.priv _ g hb];exact f
  .simp only[PH.put,ab e]at a;exact t.sub c x a
 .by_cases e:c=b
  .subst e;simp[PH.put]at d
  .simp only[PH.put,ab e]at d;exact t.priv c a d
 .by_cases e:c=b
  .subst e;simp[PH.put]at d
  .simp only[PH.put,ab e]at d |-;exact t.dom c a d
def Sub.unput{o:Obj}(hb:H b=none)(s:Sub (H.put b o) w):Sub H w:=s.of_le (PH.le_put hb)
def eD.beside{Ψ:SV->PH->Prop}{o:Obj}(hb:H b=none)(h:eD P s H Ψ):eD P s (H.put b o) fun sv f=>∃H2,f=H2.put b o/\H2 b=none/\Ψ sv H2:=by
 intro w a;have hr:=h w (a.unput hb);unfold wq at hr |-;split at hr
 .obtain⟨H2,t,p⟩:=hr;obtain⟨n,t'⟩:=t.beside hb a;exact⟨_,t',H2,rfl,n,p⟩
 .obtain⟨H2,t,p⟩:=hr;obtain⟨n,t'⟩:=t.beside hb a;exact⟨_,t',H2,rfl,n,p⟩
 .refine hr.mono fun e g d=>?_;cases e with
  |returned v=>obtain⟨H2,t,p⟩:=d;obtain⟨n,t'⟩:=t.beside hb a;exact⟨_,t',H2,rfl,n,p⟩
  |outgrown=>exact d
  |panicked c=>exact d
 .exact hr
def Co(P:Program)(s:Sem Next)(f:Nat->Value)(ob:Obj):Prop:=∀w,s.run P w=.ok (.value (f w.heap.size)) { w with heap:=w.heap.push ob }
theorem Co.op{f:Nat->Value}{ob:Obj}(h:Co P s f ob)(H:PH):eD P s H fun sv H2=>∃b,H b=none/\sv=.v (f b)/\H2=H.put b ob:=by intro w d;rw[h w];obtain⟨c,a⟩:=cM.new d ob;exact⟨_,a,_,c,rfl,rfl⟩
end Go.Sx
