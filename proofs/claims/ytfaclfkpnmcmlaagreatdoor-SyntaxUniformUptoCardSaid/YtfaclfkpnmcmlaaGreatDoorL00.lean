import Derived.KernelRfl
import Derived.Calls
import Derived.Orders
import Derived.RowKit
import Derived.Tactics
import Derived.Maps.AppendAt
import Derived.Deep.AppendSrc
abbrev Zo:=List Go.Value
abbrev Zp:=List Nat
abbrev Zq:=List Go.Oper
abbrev Y:=@List.append_nil
abbrev ab:=@if_neg
abbrev ah:=@if_pos
abbrev aE:=@Nat.zero_le
abbrev aH:=@List.length_append
abbrev aK:=@Nat.lt_or_ge
abbrev aQ:=@List.nil_append
abbrev aR:=@Nat.le_refl
abbrev aU:=@List.cons_append
abbrev aY:=@List.getElem?_eq_getElem
abbrev bf:=@Option.some.injEq
abbrev bg:=@List.length_nil
abbrev bl:=@List.length_cons
abbrev bm:=@decide_eq_true
abbrev ch:=@decide_eq_false
abbrev cu:=@if_true
abbrev cv:=@Nat.mul_le_mul_right
abbrev cD:=@List.append_assoc
abbrev cG:=@Option.bind_eq_bind
abbrev cL:=@Bool.not_true
abbrev cX:=@Option.some.inj
abbrev cZ:=@Bool.and_eq_true
abbrev db:=@List.mem_of_getElem?
abbrev df:=@Option.map_some
abbrev dg:=@Bool.not_false
abbrev dD:=@Option.bind_some
abbrev dE:=@decide_eq_true_eq
abbrev dG:=@if_false
abbrev dJ:=@List.not_mem_nil
abbrev dK:=@List.take_length
abbrev dO:=@Bool.false_eq_true
abbrev dP:=@Int.cast_ofNat_Int
abbrev dZ:=@and_true
abbrev ew:=@Go.Sem.run_bind
abbrev eF:=@Nat.lt_succ_self
abbrev eO:=@List.length_map
abbrev eP:=@Option.bind_eq_some_iff
abbrev fg:=@true_and
abbrev fp:=@List.getElem?_eq_none
abbrev fJ:=@Nat.le_trans
abbrev gm:=@List.mem_append_left
abbrev gD:=@List.mem_append_right
abbrev gL:=@Int.natCast_nonneg
abbrev gM:=@List.length_singleton
abbrev gN:=@Prod.mk.injEq
abbrev g7:=@List.foldl_cons
abbrev g8:=@Nat.zero_add
abbrev io:=@List.drop_zero
abbrev ip:=@List.filter_cons
abbrev iq:=@List.map_cons
abbrev ir:=@Nat.add_mul
abbrev iZ:=@List.getElem?_map
abbrev i7:=@beq_eq_false_iff_ne
abbrev js:=@List.drop_length
abbrev jy:=@Array.getD_eq_getD_getElem?
abbrev jz:=@List.drop_eq_getElem_cons
abbrev jA:=@Nat.eq_zero_or_pos
abbrev jB:=@Nat.min_eq_left
abbrev jR:=@List.mem_append
abbrev ku:=@List.mem_cons
abbrev kw:=@List.mem_filter
abbrev kX:=@Option.map_none
abbrev lH:=@Bool.false_or
abbrev lI:=@List.drop_drop
abbrev lJ:=@List.length_set
abbrev lK:=@List.length_take
abbrev lL:=@List.mem_of_mem_take
abbrev lM:=@Nat.le_of_lt
abbrev lN:=@of_decide_eq_true
abbrev mq:=@List.drop_succ_cons
abbrev mw:=@List.map_append
abbrev my:=@List.mem_map
abbrev mz:=@List.pairwise_cons
abbrev mB:=@List.take_succ_cons
abbrev mC:=@List.take_zero
abbrev ns:=@Array.toList_inj
abbrev nt:=@List.cons.injEq
abbrev nu:=@List.map_congr_left
abbrev ot:=@Array.length_toList
abbrev ou:=@List.take_take
abbrev pC:=@List.flatMap_cons
abbrev pD:=@List.foldl_append
abbrev pF:=@List.map_map
abbrev pG:=@List.take_append_drop
abbrev pH:=@List.take_succ_eq_append_getElem
abbrev pI:=@Nat.sub_mul
abbrev rd:=@Bool.and_true
abbrev rf:=@Nat.one_mul
abbrev rg:=@Nat.shiftRight_eq_div_pow
abbrev rh:=@Option.getD_some
abbrev sW:=@Array.getElem?_eq_getElem
abbrev sX:=@Bool.not_eq_true'
abbrev sY:=@Bool.or_eq_true
abbrev sZ:=@List.all_eq_true
abbrev s0:=@List.pairwise_singleton
abbrev s5:=@Nat.add_zero
abbrev s6:=@Nat.lt_trichotomy
abbrev uw:=@Int.emod_eq_of_lt
abbrev ux:=@List.idxOf_lt_length_of_mem
abbrev uy:=@List.take_of_length_le
abbrev uz:=@Nat.add_sub_cancel
abbrev uA:=@Nat.pow_succ
abbrev uB:=@Nat.testBit_and
abbrev wK:=@List.getElem?_append_left
abbrev wM:=@List.getElem?_cons_succ
abbrev wO:=@List.getElem?_set
abbrev wP:=@List.length_drop
abbrev wQ:=@List.length_range
abbrev wR:=@Nat.lt_of_le_of_lt
abbrev wS:=@Nat.pow_le_pow_right
abbrev zo:=@List.flatMap_append
abbrev zp:=@List.getD_cons_succ
abbrev zq:=@List.getD_cons_zero
abbrev zr:=@List.getElem?_append_right
abbrev zt:=@List.getElem?_cons_zero
abbrev zu:=@List.getElem?_drop
abbrev zv:=@List.set_cons_zero
abbrev zw:=@List.tail_cons
abbrev zx:=@Option.map_eq_some_iff
abbrev zy:=@of_decide_eq_false
abbrev CG:=@Array.getElem?_eq_none
abbrev CH:=@Array.getElem?_setIfInBounds
abbrev CI:=@List.getElem?_take
abbrev CJ:=@List.take_append_of_le_length
abbrev CK:=@decide_eq_false_iff_not
theorem Z5(a b:Nat)(h:a<b:=by omega):decide ((a:Int)<(b:Int))=true:=decide_eq_true (by omega)
theorem Z6(a:Nat):decide ((a:Int)<(a:Int))=false:=by simp
set_option maxHeartbeats 8000000
set_option linter.all false
theorem ae{P:Prop}(h:P:=by kernel_rfl):P:=h
def ao{P:Prop}(h:P:=by simp):P:=h
def O{P:Prop}(h:P:=by omega):P:=h
def af{P:Prop}(h:P:=by decide):P:=h
def bi{P:Prop}(h:P:=by simp only;omega):P:=h
namespace Go.Sx
open Go
abbrev PH:=Nat->Option Obj
abbrev _root_.Zt:=List PH
def Sub(H:PH)(w:World):Prop:=∀b o,H b=some o->w.heap[b]?=some o
def PH.le(H H2:PH):Prop:=∀b o,H b=some o->H2 b=some o
def PH.emp:PH:=fun _=>none
def PH.le_refl(H:PH):H.le H:=fun _ _ h=>h
abbrev aD:=@PH.le_refl
def PH.le_trans{A B C:PH}(h:A.le B)(k:B.le C):A.le C:=fun b o x=>k b o (h b o x)
abbrev D:=@PH.le_trans
variable{w:World}{H2:PH}
def Sub.of_le{H:PH}(s:Sub H2 w)(h:H.le H2):Sub H w:=fun b o x=>s b o (h b o x)
structure cP(H:PH)(w:World)(H2:PH)(w2:World):Prop where
 sub:Sub H2 w2
 size:w.heap.size<=w2.heap.size
 priv:∀b,b<w.heap.size->H b=none->w2.heap[b]?=w.heap[b]?
 dom:∀b,b<w.heap.size->H b=none->H2 b=none
 os:w2.os=w.os
 tape:w2.tape=w.tape
 out:w2.output=w.output
def cP.refl{H:PH}(s:Sub H w):cP H w H w:=⟨s,aR _,fun _ _ _=>rfl,fun _ _ h=>h,rfl,rfl,rfl⟩
def cP.trans{H H3:PH}{w2 w3:World}(a:cP H w H2 w2)(b:cP H2 w2 H3 w3):cP H w H3 w3 where
 sub:=b.sub
 size:=fJ a.size b.size
 priv:=fun k c d=>by rw[b.priv k (Nat.lt_of_lt_of_le c a.size) (a.dom k c d),a.priv k c d]
 dom:=fun k c d=>b.dom k (Nat.lt_of_lt_of_le c a.size) (a.dom k c d)
 os:=b.os.trans a.os
 tape:=b.tape.trans a.tape
 out:=b.out.trans a.out
def bh(P:Program)(f:FuncId)(args:Array Value)(H:PH)(Φ:Value->PH->Prop):Prop:=
 ∀w,Sub H w->Calls P f args w fun e w2=>match e with
  | .returned v=>∃H2,cP H w H2 w2/\Φ v H2
  |_=>False
def bh.mono{P:Program}{f:FuncId}{args:Array Value}{H:PH}{Φ Ψ:Value->PH->Prop}(h:bh P f args H Φ)(k:∀v H2,Φ v H2->Ψ v H2):bh P f args H Ψ:=
 fun w s=>(h w s).mono fun e w2 d=>by
  cases e with
  |returned v=>obtain⟨H2,a,b⟩:=d;exact⟨H2,a,k _ _ b⟩
  |outgrown=>exact d
  |panicked c=>exact d
inductive SV where
 |v (x:Value)
 |p (key off:Nat)
 |u
 deriving Inhabited
structure cM where
 key:Nat
 ty:TypeId
 cs:Zo
structure St where
 tm:List SV
 bx:List cM
def jJ:List SV->Nat->SV
 | [],_=>.u
 |x::_,0=>x
 |_::l,n+1=>jJ l n
def gY:List SV->Nat->SV->List SV
 | [],_,_=>[]
 |_::l,0,y=>y::l
 |x::l,n+1,y=>x::gY l n y
def se(l:List SV)(n:Nat):jJ l n=(l[n]?).getD .u:=by
 induction l generalizing n with
 |nil=>simp[jJ]
 |cons x l a=>cases n<;>simp[jJ,a]
def Ls(l:List SV)(n:Nat)(y:SV):(gY l n y).length=l.length:=by
 induction l generalizing n with
 |nil=>rfl
 |cons x l a=>cases n<;>simp[gY,a]
def uf(l:List SV)(n m:Nat)(y:SV):(gY l n y)[m]?=if n=m then (if n<l.length then some y else none)else l[m]?:=by
 induction l generalizing n m with
 |nil=>simp[gY]
 |cons x l a=>
  cases n with
  |zero=>cases m<;>simp[gY]
  |succ n=>cases m<;>simp[gY,a]
def eS:List cM->Nat->Option cM
 | [],_=>none
 |b::l,k=>if b.key=k then some b else eS l k
def ep:List cM->Nat->List cM
 | [],_=>[]
 |b::l,k=>if b.key=k then ep l k else b::ep l k
def d8(x:cM):List cM->List cM
 | []=>[x]
 |b::l=>if b.key<x.key then b::d8 x l else x::b::l
def dl(k:Nat):SV->SV
 | .p k' off=>if k'=k then .u else .p k' off
 |x=>x
def St.put(σ:St)(d:Option Nat)(y:SV):St:=
 match d with
 |some d=>{ σ with tm:=gY σ.tm d y }
 |none=>σ
def St.newBox(σ:St)(d:Nat)(T:TypeId)(cs:Zo):St:=
 { tm:=gY (σ.tm.map (dl d)) d (.p d 0),bx:=d8 ⟨d,T,cs⟩ (ep σ.bx d) }
def bN:Zo->Nat->Zo->Zo
 |l,_,[]=>l
 |l,n,c::cs=>bN (l.set n c) (n+1) cs
def kW:List cM->Nat->Nat->Zo->List cM
 | [],_,_,_=>[]
 |b::l,k,off,cs=>if b.key=k then { b with cs:=bN b.cs off cs }::l else b::kW l k off cs
def St.store(σ:St)(k off:Nat)(cs:Zo):St:={ σ with bx:=kW σ.bx k off cs }
def ev(σ:St):Operand->SV
 | .tmp t=>jJ σ.tm t
 | .const v=>.v v
 | .global g=>.v (.pointer (some ⟨g,0,none⟩))
 | .func f=>.v (.func (.func f) #[] #[])
def fW(β:Nat->Nat):SV->Value->Prop
 | .v x,y=>y=x
 | .p k off,y=>y=.pointer (some ⟨β k,off,none⟩)
 | .u,_=>True
structure GB(n0:Nat)(β:Nat->Nat)(σ:St)(H:PH)(a:Act)(w:World):Prop where
 defers:a.defers=[]
 size:a.tmps.size=σ.tm.length
 tm:∀t sv,σ.tm[t]?=some sv->fW β sv (a.tmps.getD t undef)
 bx:∀B∈σ.bx,w.heap[β B.key]?=some (.cells B.cs.toArray B.ty (0,0))/\H (β B.key)=none
 inj:∀B∈σ.bx,∀B'∈σ.bx,β B.key=β B'.key->B.key=B'.key
 lo:∀B∈σ.bx,n0<=β B.key
 keys:σ.bx.Pairwise (fun x y=>x.key≠y.key)
def G(n0:Nat)(σ:St)(H:PH)(a:Act)(w:World):Prop:=∃β,GB n0 β σ H a w
variable{a:Act}{β:Nat->Nat}{n0:Nat}
theorem GB.ev{σ:St}{H:PH}(g:GB n0 β σ H a w)(x:Operand):fW β (Sx.ev σ x) (a.eval x):=by
 cases x with
 |tmp t=>
  simp only[Sx.ev,Act.eval,se];cases h:σ.tm[t]? with
  |none=>simp[fW]
  |some sv=>simpa using g.tm t sv h
 |const v=>rfl
 |global n=>rfl
 |func n=>rfl
variable{B:cM}{l:List cM}
def As{k:Nat}(h:eS l k=some B):B∈l/\B.key=k:=by
 induction l with
 |nil=>simp[eS]at h
 |cons b l a=>
  simp only[eS]at h;split at h
  .cases h;exact⟨.head _,by assumption⟩
  .obtain⟨h1,h2⟩:=a h;exact⟨.tail _ h1,h2⟩
variable{y:Value}{sv:SV}
theorem GB.put{σ:St}{H:PH}(g:GB n0 β σ H a w)(d:Option Nat)(h:fW β sv y):GB n0 β (σ.put d sv) H (a.put d y) w:=by
 cases d with
 |none=>exact g
 |some d=>
  refine⟨g.defers,?_,?_,g.bx,g.inj,g.lo,g.keys⟩
  .simp[Act.put,St.put,Ls,g.size]
  .intro t x b;simp only[St.put,uf]at b;have c:=g.size;by_cases e:d=t
   .subst e;simp only[cu]at b;split at b
    .cases b
     rename_i f;simp only[Act.put,jy];rw[Array.getElem?_setIfInBounds_self_of_lt O];simpa using h
    .cases b
   .simp only[ab e]at b;have:=g.tm t x b;simpa[Act.put,jy,Array.getElem?_setIfInBounds_ne e]using this
def Kc:fW β .u y:=trivial
def bu(P:Program)(T:TypeId):Option (Option Nat):=
 match P.underlying T,P.info? T with
 |some (.struct _),some i=>some (some i.size)
 |some (.array _ _),some i=>some (some i.size)
 |some _,some i=>if i.size=1 then some none else none
 |_,_=>none
def br(P:Program)(T:TypeId):Option Value:=(P.info? T).bind (·.zero)
def bw(P:Program)(T:TypeId)(f:Nat):Option (Nat×TypeId):=
 match P.underlying T with
 |some (.struct a)=>match a[f]? with
  |some g=>match P.info? g.type with
   |some i=>if i.size=0 then none else some (g.offset,g.type)
   |none=>none
  |none=>none
 |_=>none
inductive wV where
 |arr (len size:Nat)
 |sl (size:Nat)
 |none
def bI(P:Program)(T:TypeId):wV:=
 match P.underlying T with
 |some (.array n e)=>match P.info? e with|some i=>.arr n i.size|Option.none=>.none
 |some (.slice e)=>match P.info? e with|some i=>.sl i.size|Option.none=>.none
 |_=>.none
def one:Value->Bool
 | .agg _=>false
 | .tuple _=>false
 |_=>true
def mL:Value->Option (Zo)
 | .agg cs=>if cs.toList.all one then some cs.toList else none
 | .tuple _=>none
 |v=>some [v]
variable{v:Value}
def Hz{l:Zo}(h:mL v=some l):v.cells.toList=l/\∀c∈l,one c=true:=by
 cases v
 case agg cs=>
  simp only[mL]at h;split at h
  .cases h;rename_i a;exact⟨rfl,fun c b=>List.all_eq_true.1 a c b⟩
  .cases h
 case tuple cs=>cases h
 all_goals (simp only[mL,bf]at h;subst h;simp[one,Value.cells])
def iS(P:Program)(T:TypeId)(cs:Zo)(off:Nat):Option Value:=
 match bu P T with
 |some (some n)=>if off+n<=cs.length then some (.agg ((cs.drop off).take n).toArray)else none
 |some none=>cs[off]?
 |none=>none
theorem run_loadCellsFrom{P:Program}(a:Addr)(n i:Nat)(b:Array Value)(xs:Zo)(c:xs.length=n)
  (h:∀j v,xs[j]?=some v->w.cell? (a.add (i+j))=some v) :
  (loadCellsFrom a i n b).run P w=.ok (b++xs.toArray) w:=by
 induction n generalizing i b xs with
 |zero=>cases xs with
  |nil=>simp[loadCellsFrom]
  |cons=>simp at c
 |succ n d=>
  cases xs with
  |nil=>simp at c
  |cons x xs=>
   have h0:=h 0 x ao;rw[s5]at h0;simp only[loadCellsFrom,load,bind,Sem.bind,Sem.run,h0];have:=d (i+1) (b.push x) xs (by simpa using c) (fun j v e=>by
    have:=h (j+1) v (by simpa using e)
    rwa [show i+1+j=i+(j+1) from by omega])
   rw[this];simp
def Li{P:Program}{T:TypeId}{d:TypeDesc}(h:P.underlying T=some d):
  (isAgg T).run P w=.ok (match d with | .struct _ | .array _ _=>true|_=>false) w:=by
 simp only[isAgg,underlying,program,bind,Sem.bind,Sem.run,h,pure];cases d<;>simp[Sem.run]
def nE(b off n:Nat):(Addr.mk b off none).add n=⟨b,off+n,none⟩:=by unfold Addr.add;split<;>simp_all
variable{cs:Zo}{b:Nat}
def xB{T:TypeId}{fz:Nat×Nat}(h:w.heap[b]?=some (.cells cs.toArray T fz))(i:Nat):w.cell? ⟨b,i,none⟩=cs[i]?:=by simp[World.cell?,h]
def Fu {P : Program} {w : World} {T : TypeId} {b off : Nat} {cs : Zo} {ty : TypeId} {v : Value} {fz : Nat × Nat}
    (hb : w.heap[b]? = some (.cells cs.toArray ty fz)) (h : iS P T cs off = some v) :
    (loadVar T ⟨b, off, none⟩).run P w = .ok v w := by
  unfold iS bu at h
  have aggCase : ∀ (n : Nat) (i : TypeInfo), P.info? T = some i → i.size = n → (isAgg T).run P w = .ok true w → off + n ≤ cs.length →
      (loadVar T ⟨b, off, none⟩).run P w = .ok (.agg ((cs.drop off).take n).toArray) w := by
    intro n i hi hn aa ac
    simp only [loadVar, ew, aa, Result.andThen, cu, sizeOf, typeInfo, program, loadCells, Sem.run, hi]
    simp only [pure, Sem.run, hn]
    have := run_loadCellsFrom (P := P) (w := w) ⟨b, off, none⟩ n 0 #[] ((cs.drop off).take n) (by simp; omega) (fun j v hj => by
      rw [nE, xB hb, g8]
      rw [CI] at hj
      split at hj
      · rw [zu] at hj; exact hj
      · cases hj)
    rw [this]; simp
  cases hu : P.underlying T with
  | none => rw [hu] at h; simp at h
  | some d =>
    rw [hu] at h
    cases hi : P.info? T with
    | none => rw [hi] at h; cases d <;> simp at h
    | some i =>
      rw [hi] at h
      have aa := Li (P := P) (w := w) hu
      have one : (isAgg T).run P w = .ok false w → cs[off]? = some v → (loadVar T ⟨b, off, none⟩).run P w = .ok v w := by
        intro h1 h2
        simp only [loadVar, ew, h1, Result.andThen, load]
        simp [Sem.run, xB hb, h2]
      cases d <;> simp only at h aa <;>
        first
        | (split at h
           · rename_i ac; cases h; exact aggCase i.size i hi rfl aa ac
           · cases h)
        | (by_cases h1 : i.size = 1
           · simp only [h1, cu] at h; exact one aa h
           · simp only [h1, dG] at h; cases h)
def mK(k:IntKind)(a b:Int):Int:=k.wrap (BitVec.ofInt k.bits a&&&BitVec.ofInt k.bits b).toNat
def yh(k:IntKind)(a b:Int):Int:=k.wrap (BitVec.ofInt k.bits a|||BitVec.ofInt k.bits b).toNat
def q9(k:IntKind)(a b:Int):Int:=k.wrap (BitVec.ofInt k.bits a ^^^ BitVec.ofInt k.bits b).toNat
def qT(k:IntKind)(a b:Int):Int:=k.wrap (a*2^(min b.toNat k.bits))
def mn(k:IntKind)(a b:Int):Int:=a.fdiv (2^(min b.toNat k.bits))
def He(k:IntKind)(a b:Int):Int:=k.wrap (BitVec.ofInt k.bits a&&&~~~ BitVec.ofInt k.bits b).toNat
def z7(op:BinOp)(x y:Value):Option Value:=
 match x,y with
 | .int k a,.int k' b=>
  match op with
  | .shl=>if 0<=b then some (.int k (qT k a b))else none
  | .shr=>if 0<=b then some (.int k (mn k a b))else none
  | .add=>if k=k' then some (.int k (k.wrap (a+b)))else none
  | .sub=>if k=k' then some (.int k (k.wrap (a-b)))else none
  | .mul=>if k=k' then some (.int k (k.wrap (a*b)))else none
  | .quo=>if k=k' then (if b=0 then none else some (.int k (k.wrap (a.tdiv b))))else none
  | .rem=>if k=k' then (if b=0 then none else some (.int k (a.tmod b)))else none
  | .and=>if k=k' then some (.int k (mK k a b))else none
  | .or=>if k=k' then some (.int k (yh k a b))else none
  | .xor=>if k=k' then some (.int k (q9 k a b))else none
  | .andNot=>if k=k' then some (.int k (He k a b))else none
  | .eql=>if k=k' then some (.bool (a == b))else none
  | .neq=>if k=k' then some (.bool (a != b))else none
  | .lss=>if k=k' then some (.bool (a<b))else none
  | .leq=>if k=k' then some (.bool (a<=b))else none
  | .gtr=>if k=k' then some (.bool (a>b))else none
  | .geq=>if k=k' then some (.bool (a>=b))else none
 | .string a,.string b=>
  match op with
  | .eql=>some (.bool (a.toList == b.toList))
  | .neq=>some (.bool (!(a.toList == b.toList)))
  | .lss=>some (.bool (Op.bytesLess a.toList b.toList))
  | .leq=>some (.bool (Op.bytesLess a.toList b.toList || a.toList == b.toList))
  | .gtr=>some (.bool (!(Op.bytesLess a.toList b.toList || a.toList == b.toList)))
  | .geq=>some (.bool (!(Op.bytesLess a.toList b.toList)))
  |_=>none
 |_,_=>none
def Wz {P : Program} {w : World} {op : BinOp} {T : TypeId} {x y v : Value} {ox oy : Operand} (h : z7 op x y = some v) :
    (do eqGuard op T ox oy x y; binOp op T x y : Sem Value).run P w = .ok v w := by
  unfold z7 at h
  split at h
  · rename_i k a k' b
    cases op <;> simp only at h <;> first
      | (cases h; done)
      | (split at h
         · rename_i hk
           first
             | (split at h
                · cases h
                · rename_i hb
                  cases h
                  subst hk
                  simp [eqGuard, binOp, Op.intDiv, Sem.run, pure, hb])
             | cases h
           try first
             | (subst hk; simp [eqGuard, binOp, Op.intArith, Op.intBits, Op.intCmp, Sem.run, pure, mK, yh, q9, He])
             | (simp [eqGuard, binOp, Op.shift, Sem.run, pure, Int.not_lt.2 hk, qT, mn])
         · cases h)
  · cases op <;> simp only [bf] at h <;> first
      | (cases h; done)
      | (subst h; simp [eqGuard, binOp, Op.stringOp, Sem.run, pure])
  · cases h
def Bt(k:IntKind):Int:=if k.signed then -1 else k.max
def Cs(op:UnOp)(x:Value):Option Value:=
 match op,x with
 | .not,.bool b=>some (.bool !b)
 | .neg,.int k n=>some (.int k (k.wrap (0-n)))
 | .xor,.int k n=>some (.int k (q9 k (Bt k) n))
 |_,_=>none
variable{x:Value}
def WJ{P:Program}{op:UnOp}(h:Cs op x=some v):(Op.unary op x).run P w=.ok v w:=by unfold Cs at h;split at h<;>cases h<;>simp[Op.unary,Op.intArith,Op.intBits,q9,Bt,pure]
def bE(P:Program)(T:TypeId):Option Nat:=(P.info? T).map (·.size)
def Fg(P:Program)(T:TypeId)(i:Nat):Option (Nat×Nat):=
 match bw P T i with
 |some (off,ty)=>(bE P ty).map fun s=>(off,s)
 |none=>none
def oK(a:Nat->Option (Nat×Nat))(cells:Zo):List (Nat×Value)->Option (Zo)
 | []=>some cells
 |(i,v)::rest=>
  match a i with
  |none=>none
  |some (off,size)=>if v.cells.toList.length=size/\off+size<=cells.length then oK a (bN cells off v.cells.toList) rest else none
def eL(l:Zo)(off:Nat)(cs:Zo):(bN l off cs).length=l.length:=by
 induction cs generalizing l off with
 |nil=>rfl
 |cons c cs a=>simp[bN,a]
def Qm(cells:Array Value)(off j:Nat)(cs:Zo):
  ((cs.zipIdx j).foldl (fun(a:Array Value) (x:Value×Nat)=>a.setIfInBounds (off+x.2) x.1) cells).toList=bN cells.toList (off+j) cs:=by
 induction cs generalizing cells j with
 |nil=>rfl
 |cons c cs b=>simp only[List.zipIdx_cons,g7,bN];rw[b];simp[Nat.add_assoc]
def DX{place pl':Nat->Option (Nat×Nat)}{cells:Array Value}{parts:List (Nat×Value)}{r:Zo}
  (hp:∀i x,place i=some x->pl' i=some x) (h:oK place cells.toList parts=some r) :
  Instr.fill pl' cells parts=some r.toArray:=by
 induction parts generalizing cells with
 |nil=>simp only[oK,bf]at h;subst h;simp[Instr.fill]
 |cons x rest b=>
  obtain⟨i,v⟩:=x;simp only[oK]at h;split at h
  .cases h
  .rename_i off size a;split at h
   .rename_i c;obtain⟨h1,h2⟩:=c;simp only[ot]at h1 h2;simp only[Instr.fill,hp _ _ a];rw[ab (by simp[h1];omega)];apply b;rw[<-h,<-Array.foldl_toList];congr 1;have:=Qm cells off 0 v.cells.toList;simpa using this
   .cases h
def WG{P:Program}{α β:Type}(f:α->Sem β)(g:α->β)(l:List α)(h:∀x∈l,(f x).run P w=.ok (g x) w):
  (l.mapM f).run P w=.ok (l.map g) w:=by
 induction l with
 |nil=>simp
 |cons x l a=>simp only[List.mapM_cons,ew,h x (.head _),Result.andThen,a fun y b=>h y (.tail _ b)];simp
def fd(P:Program)(T:TypeId):Bool:=
 match P.underlying T with
 |some (.struct a)=>a.toList.all fun f=>(P.info? f.type).isSome
 |_=>false
def Ad(P:Program)(T:TypeId)(parts:List (Nat×Value)):Option Value:=
 match br P T with
 |none=>none
 |some z=>
  match bI P T with
  | .arr _ size=>(oK (fun i=>some (i*size,size)) z.cells.toList parts).map fun l=>.agg l.toArray
  |_=>if fd P T then (oK (Fg P T) z.cells.toList parts).map fun l=>.agg l.toArray else none
theorem run_build{P:Program}{T:TypeId}{parts:Array (Nat×Value)}(h:Ad P T parts.toList=some v):
  (Instr.build T parts).run P w=.ok v w:=by
 unfold Ad at h;cases c:br P T with
 |none=>rw[c]at h;cases h
 |some z=>
  rw[c]at h;simp only at h;unfold br at c;cases hi:P.info? T with
  |none=>rw[hi]at c;cases c
  |some i=>
   rw[hi]at c;simp only[dD]at c;have A:(zeroValue T).run P w=.ok z w:=by simp[zeroValue,typeInfo,program,Sem.run,hi,c]
   unfold bI at h;cases b:P.underlying T with
   |none=>rw[b]at h;simp[fd,b]at h
   |some d=>
    rw[b]at h;have q:(underlying T).run P w=.ok d w:=by simp[underlying,program,Sem.run,b]
    cases d<;>simp only at h<;>try (simp[fd,b]at h;done)
    case slice e=>cases r:P.info? e<;>simp[r,fd,b]at h
    case array n e=>
     cases r:P.info? e with
     |none=>rw[r]at h;simp[fd,b]at h
     |some u=>
      rw[r]at h;simp only[zx]at h;obtain⟨l,y,rfl⟩:=h;have sz:(sizeOf e).run P w=.ok u.size w:=by simp[sizeOf,typeInfo,program,Sem.run,r]
      have hf:=DX (pl':=fun i=>some (i*u.size,u.size)) (cells:=z.cells) (fun i x m=>m) y;simp only[Instr.build,ew,A,Result.andThen,q,sz,hf];simp
    case struct s=>
     split at h
     case isFalse=>cases h
     rename_i k;simp only[zx]at h;obtain⟨l,y,rfl⟩:=h;simp only[fd,b]at k;have p:∀f∈s.toList,(P.info? f.type).isSome=true:=List.all_eq_true.1 k;have hm:(s.mapM fun f=>(do pure (f.offset,<-sizeOf f.type):Sem (Nat×Nat))).run P w=.ok (s.map fun f=>(f.offset,((P.info? f.type).map (·.size)).getD 0)) w:=by
      rw[Array.mapM_eq_mapM_toList];simp only[Sem.run_map];rw[WG _ (fun f=>(f.offset,((P.info? f.type).map (·.size)).getD 0))]
      .simp[Result.andThen,<-Array.toList_map]
      .intro f hf;obtain⟨j,B⟩:=Option.isSome_iff_exists.1 (p f hf);simp[sizeOf,typeInfo,program,Sem.run,B]
     have hf:=DX (pl':=fun i=>(s.map fun f=>(f.offset,((P.info? f.type).map (·.size)).getD 0))[i]?) (cells:=z.cells) (fun i x m=>by
      unfold Fg at m;split at m
      case h_2=>cases m
      rename_i off ty a;unfold bw at a;rw[b]at a;simp only at a;cases o:s[i]? with
      |none=>rw[o]at a;cases a
      |some g=>
       rw[o]at a;simp only at a;cases t:P.info? g.type with
       |none=>rw[t]at a;cases a
       |some j=>
        rw[t]at a;simp only at a;split at a
        .cases a
        .cases a
         simp only[bE,t,df,bf]at m;subst m;simp[o,t]) y
     simp only[Instr.build,ew,A,Result.andThen,q,hm,hf];simp
def fY(ρ:Operand->SV):List Operand->Option (Zo)
 | []=>some []
 |x::l=>match ρ x,fY ρ l with
  | .v a,some r=>some (a::r)
  |_,_=>none
def je(ρ:Operand->SV):List (Nat×Operand)->Option (List (Nat×Value))
 | []=>some []
 |(i,x)::l=>match ρ x,je ρ l with
  | .v a,some r=>some ((i,a)::r)
  |_,_=>none
inductive Kd where
 |int (k:IntKind)
 |str
 |sl
 |other
def bD(P:Program)(T:TypeId):Kd:=
 match P.underlying T with
 |some (.int k)=>.int k
 |some .string=>.str
 |some (.slice _)=>.sl
 |_=>.other
def AT(P:Program)(T:TypeId)(x:Value):Option Value:=
 match bD P T,x with
 | .sl,.slice _ n _=>some (.int .i64 n)
 | .str,.string s=>some (.int .i64 s.size)
 |_,_=>none
def Af(P:Program)(T:TypeId)(x:Value):Option Value:=
 match bD P T,x with
 | .sl,.slice _ _ n=>some (.int .i64 n)
 |_,_=>none
def tW(x y:Value):Option Value:=
 match x,y with
 | .int k a,.int _ b=>some (.int k (if b<a then b else a))
 |_,_=>none
def Bb(x y:Value):Option Value:=
 match x,y with
 | .int k a,.int _ b=>some (.int k (if a<b then b else a))
 |_,_=>none
def Al(P:Program)(T:TypeId)(x:Value):Option Value:=
 match bD P T,x with
 | .int k,.int _ n=>some (.int k (k.wrap n))
 |_,_=>none
def bO(P:Program)(T:TypeId):Bool:=(P.underlying T).isSome
def yD(P:Program)(bx:List cM)(T:TypeId):SV->Option (Prop×SV)
 | .p k off=>match eS bx k with
  |some B=>match iS P T B.cs off with
   |some v=>some (True,.v v)
   |none=>none
  |none=>none
 |_=>none
def BI(n:Nat):SV->Option (Prop×SV)
 | .p k off=>some (True,.p k (off+n))
 | .v (.pointer (some ⟨b,off,none⟩))=>some (True,.v (.pointer (some ⟨b,off+n,none⟩)))
 |_=>none
def BK:SV->Option (Prop×SV)
 | .p k off=>some (True,.p k off)
 | .v (.pointer (some a))=>some (True,.v (.pointer (some a)))
 |_=>none
def yC(e:wV)(x i:SV):Option (Prop×SV):=
 match e,x,i with
 | .arr len size,.p k off,.v (.int _ n)=>some (0<=n/\n<len,.p k (off+n.toNat*size))
 | .arr len size,.v (.pointer (some ⟨b,off,none⟩)),.v (.int _ n)=>some (0<=n/\n<len,.v (.pointer (some ⟨b,off+n.toNat*size,none⟩)))
 | .sl size,.v (.slice (some ⟨b,off,none⟩) len _),.v (.int _ n)=>some (0<=n/\n<len,.v (.pointer (some ⟨b,off+n.toNat*size,none⟩)))
 |_,_,_=>none
def Ae(s:ByteArray)(n:Nat):Nat:=(s.data.toList.getD n 0).toNat
def BJ(k:Kd)(x i:SV):Option (Prop×SV):=
 match k,x,i with
 | .str,.v (.string s),.v (.int _ n)=>some (0<=n/\n<s.size,.v (.int .u8 (Ae s n.toNat)))
 |_,_,_=>none
def mX(x:Option Value):Option (Prop×SV):=
 match x with
 |some v=>some (True,.v v)
 |none=>none
def qQ(P:Program)(ρ:Operand->SV)(c:Call):Option (Prop×SV):=
 match c.callee,c.args.toList,c.argTypes.toList with
 | .builtin .len,[x],[t]=>match ρ x with | .v a=>mX (AT P t a)|_=>none
 | .builtin .cap,[x],[t]=>match ρ x with | .v a=>mX (Af P t a)|_=>none
 | .builtin .min,[x,y],_=>match ρ x,ρ y with | .v a,.v b=>mX (tW a b)|_,_=>none
 | .builtin .max,[x,y],_=>match ρ x,ρ y with | .v a,.v b=>mX (Bb a b)|_,_=>none
 |_,_,_=>none
def fZ(a:Option Addr)(size l cap:Nat):Option Addr:=if cap=l then a else a.map (·.add (l*size))
def jI(n:Nat):Option SV->Option Int
 |none=>some n
 |some (.v (.int _ i))=>some i
 |_=>none
def sK(k:Kd)(e:wV)(x:SV)(lo hi:Option SV):Option (Prop×SV):=
 match k,e,x with
 | .sl,.sl size,.v (.slice a len cap)=>match jI 0 lo,jI len hi,hi with
  |some l,some h,some _=>some ((0<=l/\l<=h)/\h<=cap,.v (.slice (fZ a size l.toNat cap) (h.toNat-l.toNat) (cap-l.toNat)))
  |some l,some h,none=>some (0<=l/\l<=h,.v (.slice (fZ a size l.toNat cap) (h.toNat-l.toNat) (cap-l.toNat)))
  |_,_,_=>none
 | .str,_,.v (.string s)=>match jI 0 lo,jI s.size hi with
  |some l,some h=>some ((0<=l/\l<=h)/\h<=s.size,.v (.string (s.extract l.toNat h.toNat)))
  |_,_=>none
 |_,_,_=>none
def pv(P:Program)(bx:List cM)(ρ:Operand->SV)(op:Op):Option (Prop×SV):=
 match op with
 | .move x | .assign x=>match ρ x with | .u=>none|sv=>some (True,sv)
 | .pick c x y=>match ρ c with | .v (.bool b)=>some (True,if b then ρ x else ρ y)|_=>none
 | .load T x=>yD P bx T (ρ x)
 | .fieldAddr T x f=>match bw P T f with|some (n,_)=>BI n (ρ x)|none=>none
 | .nilCheck x=>BK (ρ x)
 | .indexAddr T x i=>yC (bI P T) (ρ x) (ρ i)
 | .index T x i=>BJ (bD P T) (ρ x) (ρ i)
 | .field T x f=>match bw P T f,ρ x with|some (n,ty),.v (.agg cs)=>mX (iS P ty cs.toList n)|_,_=>none
 | .extract x n=>match ρ x with | .v (.tuple e)=>mX e.toList[n]?|_=>none
 | .build T ps=>match je ρ ps.toList with|some l=>mX (Ad P T l)|none=>none
 | .binOp op _ x y _=>match ρ x,ρ y with | .v a,.v b=>mX (z7 op a b)|_,_=>none
 | .unOp op _ x=>match ρ x with | .v a=>mX (Cs op a)|_=>none
 | .convert s d x=>match bO P s,ρ x with|true,.v a=>mX (Al P d a)|_,_=>none
 | .makeFunc fn f c=>match fY ρ f.toList,fY ρ c.toList with|some l,some m=>some (True,.v (.func fn l.toArray m.toArray))|_,_=>none
 | .call c=>qQ P ρ c
 | .slice T x lo hi none=>sK (bD P T) (bI P T) (ρ x) (lo.map ρ) (hi.map ρ)
 |_=>none
variable{φ:Prop}
def jv{x:Option Value}(h:mX x=some (φ,sv)):∃v,x=some v/\sv=.v v:=by
 cases x with
 |none=>cases h
 |some v=>cases h;exact⟨v,rfl,rfl⟩
def Dn{n0:Nat}{β:Nat->Nat}{σ:St}{H:PH}{a:Act}{w:World}(g:GB n0 β σ H a w):∀(l:List Operand) (r:Zo),fY (ev σ) l=some r->l.map a.eval=r
 | [],r,h=>by cases h;rfl
 |x::l,r,h=>by
  simp only[fY]at h;split at h
  .rename_i y c b hr;cases h
   have:=g.ev x;rw[b]at this;simp only[fW]at this;simp[this,Dn g l _ hr]
  .cases h
def Ha{n0:Nat}{β:Nat->Nat}{σ:St}{H:PH}{a:Act}{w:World}(g:GB n0 β σ H a w):∀(l:List (Nat×Operand)) (r:List (Nat×Value)),je (ev σ) l=some r->l.map (fun x=>(x.1,a.eval x.2))=r
 | [],r,h=>by cases h;rfl
 |(i,x)::l,r,h=>by
  simp only[je]at h;split at h
  .rename_i y c b hr;cases h
   have:=g.ev x;rw[b]at this;simp only[fW]at this;simp[this,Ha g l _ hr]
  .cases h
variable{n:Nat}
def H4{P:Program}{T:TypeId}{f:Nat}{ty:TypeId}(h:bw P T f=some (n,ty))(b off:Nat):
  (Instr.fieldAt T (.pointer (some ⟨b,off,none⟩)) f).run P w=.ok (.pointer (some ⟨b,off+n,none⟩)) w:=by
 unfold bw at h;split at h
 .rename_i j d;split at h
  .rename_i g e;split at h
   .rename_i i hi;split at h
    .cases h
    .rename_i c;cases h
     have a:(underlying T).run P w=.ok (.struct j) w:=by simp[underlying,program,Sem.run,d]
     have sz:(sizeOf g.type).run P w=.ok i.size w:=by simp[sizeOf,typeInfo,program,Sem.run,hi]
     simp only[Instr.fieldAt,ew,a,Result.andThen,e,Instr.sureAddr];simp[fieldPlace,ew,sz,Result.andThen,c,nE]
   .cases h
  .cases h
 .cases h
def nj {P : Program} {w : World} {T : TypeId} {cs : Array Value} {n : Nat} {v : Value} (h : iS P T cs.toList n = some v) : (part T cs n).run P w = .ok v w := by
  unfold iS bu at h
  cases hu : P.underlying T with
  | none => rw [hu] at h; simp at h
  | some d =>
    rw [hu] at h
    cases hi : P.info? T with
    | none => rw [hi] at h; cases d <;> simp at h
    | some i =>
      rw [hi] at h
      have aa := Li (P := P) (w := w) hu
      have one : (isAgg T).run P w = .ok false w → cs[n]? = some v → (part T cs n).run P w = .ok v w := by
        intro h1 h2
        simp only [part, ew, h1, Result.andThen, h2]
        simp
      have agg : (isAgg T).run P w = .ok true w → (part T cs n).run P w = .ok (.agg ((cs.toList.drop n).take i.size).toArray) w := by
        intro h1
        have sz : (sizeOf T).run P w = .ok i.size w := by simp [sizeOf, typeInfo, program, Sem.run, hi]
        simp [part, h1, Result.andThen, sz]
        rw [← ns]
        simp [List.extract_eq_take_drop]
      cases d <;> simp only at h aa <;>
        first
        | (split at h
           · cases h; exact agg aa
           · cases h)
        | (by_cases h1 : i.size = 1
           · simp only [h1, cu] at h; exact one aa (by simpa using h)
           · simp only [h1, dG] at h; cases h)
def fe{P:Program}{T:TypeId}{d:TypeDesc}(h:P.underlying T=some d):(underlying T).run P w=.ok d w:=by simp[underlying,program,Sem.run,h]
def WD{P:Program}{T:TypeId}{e:wV}(a:bI P T=e){x i:SV}{vx vi:Value}
  (h:yC e x i=some (φ,sv)) (l:φ) (f:fW β x vx) (hi:fW β i vi) :
  ∃y,(Instr.indexAt T vx vi).run P w=.ok y w/\fW β sv y:=by
 unfold bI at a;unfold yC at h;split at h
 .rename_i len size k off m n;cases h
  simp only[fW]at f hi;subst f;subst hi;split at a
  .rename_i o j d;split at a
   .rename_i g c;cases a
    have sz:(sizeOf j).run P w=.ok g.size w:=by simp[sizeOf,typeInfo,program,Sem.run,c]
    refine⟨_,?_,rfl⟩;simp only[Instr.indexAt,ew,asIntOf,fe d];simp[Result.andThen,Instr.sureAddr,fe d,l,sz,nE]
   .cases a
  .split at a<;>cases a
  .cases a
 .rename_i len size b off m n;cases h
  simp only[fW]at f hi;subst f;subst hi;split at a
  .rename_i o j d;split at a
   .rename_i g c;cases a
    have sz:(sizeOf j).run P w=.ok g.size w:=by simp[sizeOf,typeInfo,program,Sem.run,c]
    refine⟨_,?_,rfl⟩;simp only[Instr.indexAt,ew,asIntOf,fe d];simp[Result.andThen,Instr.sureAddr,fe d,l,sz,nE]
   .cases a
  .split at a<;>cases a
  .cases a
 .rename_i size b off len cap m n;cases h
  simp only[fW]at f hi;subst f;subst hi;split at a
  .split at a<;>cases a
  .rename_i j d;split at a
   .rename_i g c;cases a
    have sz:(sizeOf j).run P w=.ok g.size w:=by simp[sizeOf,typeInfo,program,Sem.run,c]
    refine⟨_,?_,rfl⟩;simp only[Instr.indexAt,ew,asIntOf,fe d];simp[Result.andThen,fe d,l,sz,nE]
   .cases a
  .cases a
 .cases h
variable{i:Int}
def rX{s:SV}(h:jI n (some s)=some i):∃k,s=.v (.int k i):=by
 cases s with
 |v x=>cases x<;>simp only[jI]at h<;>first|(cases h;done)|(cases h;exact⟨_,rfl⟩)
 |p k off=>simp[jI]at h
 |u=>simp[jI]at h
def oH{P:Program}{k:IntKind}{y:Nat}{code:BoundsCode}(h0:0<=i)(a:i<=y):(Instr.sliceBound (.int k i) y code).run P w=.ok i.toNat w:=by simp[Instr.sliceBound,asIntOf,Result.andThen,h0,a]
def fo{σ:St}{H:PH}(g:GB n0 β σ H a w){x:Operand}(h:ev σ x=.v v):a.eval x=v:=by have:=g.ev x;rw[h]at this;exact this
def Kb{ρ:Operand->Value}{xs:Array Operand}{l:Zo}(h:xs.toList.map ρ=l):xs.map ρ=l.toArray:=by rw[<-ns];simpa using h
variable{τ:TypeId}
def WE{P:Program}{T:TypeId}(h:AT P T x=some v):(Builtin.len_ #[T] τ #[x]).run P w=.ok v w:=by
 unfold AT at h;split at h
 .rename_i a;cases h
  unfold bD at a;split at a<;>cases a;rename_i b;simp[Builtin.len_,fe b,Result.andThen,goInt]
 .rename_i a;cases h
  unfold bD at a;split at a<;>cases a;rename_i b;simp[Builtin.len_,fe b,Result.andThen,goInt]
 .cases h
def WA{P:Program}{T:TypeId}(h:Af P T x=some v):(Builtin.cap_ #[T] τ #[x]).run P w=.ok v w:=by
 unfold Af at h;split at h
 .rename_i a;cases h
  unfold bD at a;split at a<;>cases a;rename_i b;simp[Builtin.cap_,fe b,Result.andThen,goInt]
 .cases h
def Fv{P:Program}(h:tW x y=some v):(Builtin.min2 x y).run P w=.ok v w:=by
 unfold tW at h;split at h
 .cases h;simp[Builtin.min2]
 .cases h
def WI{P:Program}(h:Bb x y=some v):(Builtin.max2 x y).run P w=.ok v w:=by
 unfold Bb at h;split at h
 .cases h;simp[Builtin.max2]
 .cases h
def WB{P:Program}{S T:TypeId}(hs:∃d,P.underlying S=some d)(h:Al P T x=some v):(convert S T x).run P w=.ok v w:=by
 obtain⟨c,hs⟩:=hs;unfold Al at h;split at h
 .rename_i a;cases h
  unfold bD at a;split at a<;>cases a;rename_i b;simp[convert,fe b,fe hs,Result.andThen,Conv.intToInt]
 .cases h
variable{o:Oper}
def Wi{P:Program}{σ:St}{H:PH}(g:GB n0 β σ H a w){c:Call}(d:o.op=.call c)
  (h:qQ P (ev σ) c=some (φ,sv)):∃y,(execOp a.eval o).run P w=.ok (.value y) w/\fW β sv y:=by
 obtain⟨callee,args,types⟩:=c;unfold qQ at h;simp only at h;split at h
 .rename_i x t ha ht;obtain rfl:args=#[x]:=by rw[<-ns];simpa using ha
  obtain rfl:types=#[t]:=by rw[<-ns];simpa using ht
  split at h
  .rename_i v hv;obtain⟨r,hr,rfl⟩:=jv h;refine⟨r,?_,rfl⟩;simp[execOp,d,resolve,fo g hv,invoke,builtin,Result.andThen,WE hr]
  .cases h
 .rename_i x t ha ht;obtain rfl:args=#[x]:=by rw[<-ns];simpa using ha
  obtain rfl:types=#[t]:=by rw[<-ns];simpa using ht
  split at h
  .rename_i v hv;obtain⟨r,hr,rfl⟩:=jv h;refine⟨r,?_,rfl⟩;simp[execOp,d,resolve,fo g hv,invoke,builtin,Result.andThen,WA hr]
  .cases h
 .rename_i x y ha;obtain rfl:args=#[x,y]:=by rw[<-ns];simpa using ha
  split at h
  .rename_i v e hv b;obtain⟨r,hr,rfl⟩:=jv h;refine⟨r,?_,rfl⟩;simp[execOp,d,resolve,fo g hv,fo g b,invoke,builtin,Builtin.min_,Result.andThen,Fv hr]
  .cases h
 .rename_i x y ha;obtain rfl:args=#[x,y]:=by rw[<-ns];simpa using ha
  split at h
  .rename_i v e hv b;obtain⟨r,hr,rfl⟩:=jv h;refine⟨r,?_,rfl⟩;simp[execOp,d,resolve,fo g hv,fo g b,invoke,builtin,Builtin.max_,Result.andThen,WI hr]
  .cases h
 .cases h
def Wo{P:Program}{σ:St}{H:PH}(g:GB n0 β σ H a w)
  (h:pv P σ.bx (ev σ) o.op=some (φ,sv)) (C:φ):∃y,(execOp a.eval o).run P w=.ok (.value y) w/\fW β sv y:=by
 obtain⟨dst,op,type,pos,bY,guard⟩:=o;simp only at h;have mv:∀(x:Operand),(match ev σ x with | .u=>(none:Option (Prop×SV))|sv=>some (True,sv))=some (φ,sv)->fW β sv (a.eval x):=by intro x j;have:=g.ev x;cases L:ev σ x<;>rw[L]at j this<;>cases j<;>exact this
 cases op<;>simp only[pv]at h<;>try (cases h;done)
 case move x=>exact⟨a.eval x,by simp[execOp],mv x h⟩
 case assign x=>exact⟨a.eval x,by simp[execOp],mv x h⟩
 case pick c x y=>
  split at h
  .rename_i b hb;cases h
   cases b
   .exact⟨a.eval y,by simp[execOp,fo g hb,asBool],g.ev y⟩
   .exact⟨a.eval x,by simp[execOp,fo g hb,asBool],g.ev x⟩
  .cases h
 case load T x=>
  unfold yD at h;split at h
  .rename_i k off j;split at h
   .rename_i B hB;split at h
    .rename_i v hv;cases h
     obtain⟨hm,rfl⟩:=As hB;have ha:=g.ev x;rw[j]at ha;simp only[fW]at ha;refine⟨v,?_,rfl⟩;have:=Fu (P:=P) (w:=w) (off:=off) (g.bx B hm).1 hv;simp[execOp,ha,Instr.loadAt,Instr.sureAddr,this,Result.andThen]
    .cases h
   .cases h
  .cases h
 case fieldAddr T x f=>
  split at h
  .rename_i n ty hf;unfold BI at h;split at h
   .rename_i k off j;cases h
    have ha:=g.ev x;rw[j]at ha;simp only[fW]at ha;exact⟨_,by simp[execOp,ha,H4 hf,Result.andThen],rfl⟩
   .rename_i b off j;cases h
    exact⟨_,by simp[execOp,fo g j,H4 hf,Result.andThen],rfl⟩
   .cases h
  .cases h
 case nilCheck x=>
  unfold BK at h;split at h
  .rename_i k off j;cases h
   have ha:=g.ev x;rw[j]at ha;simp only[fW]at ha;exact⟨_,by simp[execOp,ha],rfl⟩
  .rename_i p j;cases h
   exact⟨_,by simp[execOp,fo g j],rfl⟩
  .cases h
 case indexAddr T x i=>
  obtain⟨y,W,hm⟩:=WD (P:=P) (w:=w) (T:=T) rfl h C (g.ev x) (g.ev i);exact⟨y,by simp[execOp,W,Result.andThen],hm⟩
 case index T x i=>
  unfold BJ at h;split at h
  .rename_i s k n G j hi;cases h
   unfold bD at G;split at G<;>cases G;rename_i z;refine⟨_,?_,rfl⟩;obtain⟨h0,h1⟩:=C;obtain⟨m,rfl⟩:=Int.eq_ofNat_of_zero_le h0;have hm:m<s.size:=O;have hg:s[m]?=some s[m]:=by simp[hm]
   have hb:(s.data.toList.getD m 0)=s[m]:=by have:m<s.data.size:=hm;simp[sW this];rfl
   simp only[execOp,Instr.index,ew,asIntOf,fo g j,fo g hi,fe z];simp[Result.andThen,hm,Ae,hb];rfl
  .cases h
 case field T x f=>
  split at h
  .rename_i n ty cs hf j;obtain⟨r,hr,rfl⟩:=jv h;refine⟨r,?_,rfl⟩;unfold bw at hf;split at hf
   .rename_i fs z;split at hf
    .rename_i g' hg;split at hf
     .split at hf
      .cases hf
      .cases hf
       simp[execOp,Instr.field,fe z,Result.andThen,hg,fo g j,asAgg,nj hr]
     .cases hf
    .cases hf
   .cases hf
  .cases h
 case extract x n=>
  split at h
  .rename_i vs j;obtain⟨r,hr,rfl⟩:=jv h;refine⟨r,?_,rfl⟩;have X:vs[n]?=some r:=by simpa using hr
   simp[execOp,Instr.extract,fo g j,X,Result.andThen]
  .cases h
 case build T ps=>
  split at h
  .rename_i l A;obtain⟨r,hr,rfl⟩:=jv h;refine⟨r,?_,rfl⟩;have hp:=Ha g _ _ A;have:(ps.map fun(i,x)=>(i,a.eval x))=l.toArray:=by rw[<-ns];simpa using hp
   have hb:=run_build (P:=P) (w:=w) (T:=T) (parts:=l.toArray) (by simpa using hr);simp only[execOp,this,ew,hb];simp[Result.andThen]
  .cases h
 case binOp op T x y T'=>
  split at h
  .rename_i v v' j W;obtain⟨r,hr,rfl⟩:=jv h;refine⟨r,?_,rfl⟩;have:=Wz (P:=P) (w:=w) (T:=T) (ox:=x) (oy:=y) hr;simp only[execOp,fo g j,fo g W,ew]at this |-;rw[this];simp[Result.andThen]
  .cases h
 case unOp op T x=>
  split at h
  .rename_i v j;obtain⟨r,hr,rfl⟩:=jv h;exact⟨r,by simp[execOp,fo g j,WJ hr,Result.andThen],rfl⟩
  .cases h
 case convert s d x=>
  split at h
  .rename_i v hs j;obtain⟨r,hr,rfl⟩:=jv h;exact⟨r,by simp[execOp,fo g j,WB (P:=P) (w:=w) (Option.isSome_iff_exists.1 hs) hr,Result.andThen],rfl⟩
  .cases h
 case makeFunc fn f c=>
  split at h
  .rename_i l m A hm;cases h
   refine⟨_,?_,rfl⟩;simp[execOp,Kb (Dn g _ _ A),Kb (Dn g _ _ hm),Instr.makeFunc,Result.andThen]
  .cases h
 case slice T x lo hi mx=>
  cases mx with
  |some m=>cases h
  |none=>
   simp only at h;unfold sK at h;split at h
   .rename_i size aa len cap G L j;unfold bD at G;split at G<;>cases G;rename_i e z;have K:(sizeOf e).run P w=.ok size w:=by
     unfold bI at L;rw[z]at L;simp only at L;split at L
     .rename_i ie ac;cases L;simp[sizeOf,typeInfo,program,Sem.run,ac]
     .cases L
    have t:=fo g j;cases lo with
    |none=>
     cases hi with
     |none=>
      simp only[kX,jI]at h;cases h
      exact⟨_,by simp[execOp,Instr.sliceAt,t,fe z,Instr.slice,Instr.sliceBounds,Result.andThen,K,fZ],rfl⟩
     |some U=>
      simp only[kX,df]at h;split at h
      .rename_i l R Z A q hs;cases hs
       cases h
       obtain⟨I,Q⟩:=rX q;simp only[jI,bf]at A;subst A;have F:=oH (P:=P) (w:=w) (k:=I) (code:=.sliceAcap) (y:=cap) C.1.2 C.2;exact⟨_,by simp[execOp,Instr.sliceAt,t,fe z,Instr.slice,Instr.sliceBounds,Result.andThen,K,fZ,fo g Q,F],rfl⟩
      .rename_i hs;cases hs
      .cases h
    |some zl=>
     cases hi with
     |none=>
      simp only[kX,df]at h;split at h
      .rename_i hs;cases hs
      .rename_i l R A q _;cases h
       obtain⟨I,Q⟩:=rX A;simp only[jI,bf]at q;subst q;have F:=oH (P:=P) (w:=w) (k:=I) (code:=.sliceB) (y:=len) C.1 C.2;exact⟨_,by simp[execOp,Instr.sliceAt,t,fe z,Instr.slice,Instr.sliceBounds,Result.andThen,K,fZ,fo g Q,F],rfl⟩
      .cases h
     |some U=>
      simp only[df]at h;split at h
      .rename_i l R Z A q hs;cases hs
       cases h
       obtain⟨S,J⟩:=rX A;obtain⟨I,N⟩:=rX q;have h0:=C.1.1;have h1:=C.1.2;have F:=oH (P:=P) (w:=w) (k:=I) (code:=.sliceAcap) (y:=cap) O C.2;have V:=oH (P:=P) (w:=w) (k:=S) (code:=.sliceB) (y:=R.toNat) h0 O;exact⟨_,by simp[execOp,Instr.sliceAt,t,fe z,Instr.slice,Instr.sliceBounds,Result.andThen,K,fZ,fo g J,fo g N,F,V],rfl⟩
      .rename_i hs;cases hs
      .cases h
   .rename_i e s G j;unfold bD at G;split at G<;>cases G;rename_i z;have t:=fo g j;split at h
    .rename_i l R A q;cases h
     have h0:=C.1.1;have h1:=C.1.2;have h2:=C.2;cases lo with
     |none=>
      simp only[kX,jI,bf]at A;subst A;cases hi with
      |none=>simp only[kX,jI,bf]at q;subst q;exact⟨_,by simp[execOp,Instr.sliceAt,t,fe z,Instr.slice,Instr.sliceBounds,Result.andThen],rfl⟩
      |some U=>obtain⟨I,Q⟩:=rX q;have F:=oH (P:=P) (w:=w) (k:=I) (code:=.sliceAlen) (y:=s.size) h1 h2;exact⟨_,by simp[execOp,Instr.sliceAt,t,fe z,Instr.slice,Instr.sliceBounds,Result.andThen,fo g Q,F],rfl⟩
     |some zl=>
      obtain⟨S,J⟩:=rX A;cases hi with
      |none=>simp only[kX,jI,bf]at q;subst q;have F:=oH (P:=P) (w:=w) (k:=S) (code:=.sliceB) (y:=s.size) h0 h1;exact⟨_,by simp[execOp,Instr.sliceAt,t,fe z,Instr.slice,Instr.sliceBounds,Result.andThen,fo g J,F],rfl⟩
      |some U=>obtain⟨I,N⟩:=rX q;have F:=oH (P:=P) (w:=w) (k:=I) (code:=.sliceAlen) (y:=s.size) O h2;have V:=oH (P:=P) (w:=w) (k:=S) (code:=.sliceB) (y:=R.toNat) h0 O;exact⟨_,by simp[execOp,Instr.sliceAt,t,fe z,Instr.slice,Instr.sliceBounds,Result.andThen,fo g J,fo g N,F,V],rfl⟩
    .cases h
   .cases h
 case call c=>exact Wi (o:=⟨dst,.call c,type,pos,bY,guard⟩) g rfl h
def qz{k:Nat}(h:B∈ep l k):B∈l/\B.key≠k:=by
 induction l with
 |nil=>simp[ep]at h
 |cons b l a=>
  simp only[ep]at h;split at h
  .obtain⟨h1,h2⟩:=a h;exact⟨.tail _ h1,h2⟩
  .rcases List.mem_cons.1 h with rfl|h
   .exact⟨.head _,by assumption⟩
   .obtain⟨h1,h2⟩:=a h;exact⟨.tail _ h1,h2⟩
def vI{x:cM}:B∈d8 x l<->B=x\/B∈l:=by
 induction l with
 |nil=>simp[d8]
 |cons b l a=>
  simp only[d8];split
  .simp only[ku,a];constructor<;>(intro h;rcases h with h|h|h<;>simp_all)
  .simp
def HX{k:Nat}(h:l.Pairwise (fun x y=>x.key≠y.key)):(ep l k).Pairwise (fun x y=>x.key≠y.key):=by
 induction l with
 |nil=>simp[ep]
 |cons b l a=>
  rw[mz]at h;simp only[ep];split
  .exact a h.2
  .exact List.pairwise_cons.2 ⟨fun y c=>h.1 y (qz c).1,a h.2⟩
def SB{x:cM}(h:l.Pairwise (fun x y=>x.key≠y.key))(c:∀B∈l,B.key≠x.key):(d8 x l).Pairwise (fun x y=>x.key≠y.key):=by
 induction l with
 |nil=>simp[d8]
 |cons b l d=>
  have f:=h;rw[mz]at h;simp only[d8];split
  .refine List.pairwise_cons.2 ⟨fun y a=>?_,d h.2 fun B e=>c B (.tail _ e)⟩;rcases vI.1 a with rfl|a
   .exact c b (.head _)
   .exact h.1 y a
  .refine List.pairwise_cons.2 ⟨fun y a=>(c y a).symm,f⟩
variable{off:Nat}
def YI{k:Nat}(c:l.Pairwise (fun x y=>x.key≠y.key))(h:B∈kW l k off cs):
  (B∈l/\B.key≠k)\/(∃a∈l,a.key=k/\B={ a with cs:=bN a.cs off cs }):=by
 induction l with
 |nil=>simp[kW]at h
 |cons b l d=>
  rw[mz]at c;simp only[kW]at h;split at h
  .rename_i e;rcases List.mem_cons.1 h with rfl|h
   .exact .inr ⟨b,.head _,e,rfl⟩
   .exact .inl ⟨.tail _ h,fun f=>c.1 B h (e.trans f.symm)⟩
  .rename_i e;rcases List.mem_cons.1 h with rfl|h
   .exact .inl ⟨.head _,e⟩
   .rcases d c.2 h with ⟨h1,h2⟩|⟨a,h1,h2,h3⟩
    .exact .inl ⟨.tail _ h1,h2⟩
    .exact .inr ⟨a,.tail _ h1,h2,h3⟩
def Gp(l:List cM)(k off:Nat)(cs:Zo):(kW l k off cs).map (·.key)=l.map (·.key):=by
 induction l with
 |nil=>rfl
 |cons b l a=>simp only[kW];split<;>simp[a]
def j0(P:Program)(ρ:Operand->SV)(op:Op):Option (TypeId×Zo):=
 match op with
 | .alloc T=>match br P T with|some z=>some (T,z.cells.toList)|none=>none
 | .box T x=>match ρ x with | .v v=>some (T,v.cells.toList)|_=>none
 |_=>none
def xU{o:Obj}(h:b<w.heap.size):(w.heap.push o)[b]?=w.heap[b]?:=by rw[Array.getElem?_push,ab O]
variable{w0:World}{H0:PH}
def cP.alloc{H:PH}(s:cP H0 w0 H w)(o:Obj):cP H0 w0 H { w with heap:=w.heap.push o } where
 sub:=fun b x h=>by
  have:=s.sub b x h;have hb:b<w.heap.size:=by
   rcases aK b w.heap.size with h|h
   .exact h
   .rw[CG h]at this;cases this
  rw[show ({ w with heap:=w.heap.push o }:World).heap=w.heap.push o from rfl,xU hb];exact this
 size:=by simp;have:=s.size;omega
 priv:=fun b hb a=>by rw[show ({ w with heap:=w.heap.push o }:World).heap=w.heap.push o from rfl,xU (Nat.lt_of_lt_of_le hb s.size)];exact s.priv b hb a
 dom:=s.dom
 os:=s.os
 tape:=s.tape
 out:=s.out
def lw{o:Obj}(h:w.heap[b]?=some o):b<w.heap.size:=by
 rcases aK b w.heap.size with h1|h1
 .exact h1
 .rw[CG h1]at h;cases h
theorem GB.newBox{σ:St}{H:PH}(A:n0=w0.heap.size)(s:cP H0 w0 H w)(g:GB n0 β σ H a w)(d:Nat)(T:TypeId)(cs:Zo):
  GB n0 (fun k=>if k=d then w.heap.size else β k) (σ.newBox d T cs) H (a.put (some d) (.pointer (some ⟨w.heap.size,0,none⟩))) { w with heap:=w.heap.push (.cells cs.toArray T (0,0)) }:=by
 have b:∀B∈ep σ.bx d,B∈σ.bx/\B.key≠d:=fun B h=>qz h;have lt:∀B∈σ.bx,β B.key<w.heap.size:=fun B h=>lw (g.bx B h).1;have y:=s.size;constructor
 .exact g.defers
 .simp[Act.put,St.newBox,Ls,g.size]
 .intro t x j;simp only[St.newBox,uf,eO]at j;have r:=g.size;by_cases e:d=t
  .subst e;simp only[cu]at j;split at j
   .cases j
    rename_i C;simp only[Act.put,jy];rw[Array.getElem?_setIfInBounds_self_of_lt O];simp[fW]
   .cases j
  .simp only[ab e,iZ,zx]at j;obtain⟨sv,m,rfl⟩:=j;have:=g.tm t sv m;have h2:(a.put (some d) (.pointer (some ⟨w.heap.size,0,none⟩))).tmps.getD t undef=a.tmps.getD t undef:=by simp[Act.put,jy,Array.getElem?_setIfInBounds_ne e]
   rw[h2];cases sv with
   |v x=>exact this
   |u=>trivial
   |p k off=>
    simp only[dl];split
    .trivial
    .rename_i f;simpa[fW,f]using this
 .intro B c;rcases vI.1 c with rfl|c
  .refine⟨by simp,?_⟩;simp only[cu];cases z:H w.heap.size with
   |none=>rfl
   |some o=>exact absurd (lw (s.sub _ _ z)) O
  .obtain⟨hm,f⟩:=b B c;simp only[ab f];have:=g.bx B hm;refine⟨?_,this.2⟩;rw[xU (lt B hm)];exact this.1
 .intro B c B' i l;rcases vI.1 c with rfl|c<;>rcases vI.1 i with rfl|i
  .rfl
  .obtain⟨hm,f⟩:=b B' i;simp only[cu,ab f]at l;have:=lt B' hm;omega
  .obtain⟨hm,f⟩:=b B c;simp only[cu,ab f]at l;have:=lt B hm;omega
  .obtain⟨hm,f⟩:=b B c;obtain⟨n,q⟩:=b B' i;simp only[ab f,ab q]at l;exact g.inj B hm B' n l
 .intro B c;rcases vI.1 c with rfl|c
  .simp;omega
  .obtain⟨hm,f⟩:=b B c;simp only[ab f];exact g.lo B hm
 .exact SB (HX g.keys) fun B c=>(b B c).2
def NZ{P:Program}{σ:St}{H:PH}(g:GB n0 β σ H a w){T:TypeId}
  (h:j0 P (ev σ) o.op=some (T,cs)):(execOp a.eval o).run P w=.ok (.value (.pointer (some ⟨w.heap.size,0,none⟩))) { w with heap:=w.heap.push (.cells cs.toArray T (0,0)) }:=by
 obtain⟨dst,op,type,pos,bY,guard⟩:=o;simp only at h;cases op<;>simp only[j0]at h<;>try (cases h;done)
 case alloc T'=>
  unfold br at h;cases hi:P.info? T' with
  |none=>rw[hi]at h;cases h
  |some i=>
   rw[hi]at h;simp only[dD]at h;cases b:i.zero with
   |none=>rw[b]at h;cases h
   |some z=>
    rw[b]at h;have c:(zeroValue T').run P w=.ok z w:=by simp[zeroValue,typeInfo,program,Sem.run,hi,b]
    cases h
    simp[execOp,Instr.alloc,c,Result.andThen,newVar,newRow,newObj,Sem.run]
 case box T' x=>
  split at h
  .rename_i v hv;cases h
   simp[execOp,Instr.box,fo g hv,Result.andThen,newVar,newRow,newObj,Sem.run]
  .cases h
def np(P:Program)(bx:List cM)(ρ:Operand->SV)(op:Op):Option (Nat×Nat×Zo):=
 match op with
 | .store T x y=>match ρ x,ρ y with
  | .p k off,.v v=>match mL v,bE P T,eS bx k with
   |some cs,some n,some B=>if cs.length=n/\off+n<=B.cs.length then some (k,off,cs)else none
   |_,_,_=>none
  |_,_=>none
 |_=>none
def yH{P:Program}(b:Nat)(ty:TypeId):∀(a:Zo) (i off:Nat) (cs:Zo) (w:World),w.heap[b]?=some (.cells cs.toArray ty (0,0))->off+i+a.length<=cs.length->(∀v∈a,one v=true)->
  ∃w2,(storeCells ⟨b,off,none⟩ a i).run P w=.ok () w2/\w2.heap[b]?=some (.cells (bN cs (off+i) a).toArray ty (0,0))/\(∀k,k≠b->w2.heap[k]?=w.heap[k]?)/\w2.heap.size=w.heap.size/\w2.os=w.os/\w2.tape=w.tape/\w2.output=w.output
 | [],i,off,cs,w,h,_,_=>⟨w,by simp[storeCells],by simpa[bN]using h,fun _ _=>rfl,rfl,rfl,rfl,rfl⟩
 |v::a,i,off,cs,w,h,m,g=>by
  simp only[bl]at m;have n:w.cell? ⟨b,off+i,none⟩=cs[off+i]?:=xB h (off+i);have e:off+i<cs.length:=O;have hf:w.frozen? ⟨b,off+i,none⟩=false:=by simp[World.frozen?,h]
  have d:=g v (.head _);have hs:(w.setCell ⟨b,off+i,none⟩ v).heap[b]?=some (.cells (cs.set (off+i) v).toArray ty (0,0)):=by simp[World.setCell,Array.getElem?_modify,h]
  obtain⟨w2,h1,h2,h3,h4,h5,h6,o⟩:=yH (P:=P) b ty a (i+1) off (cs.set (off+i) v) (w.setCell ⟨b,off+i,none⟩ v) hs (by simp;omega) fun u l=>g u (.tail _ l);have c:(store ((⟨b,off,none⟩:Addr).add i) v).run P w=.ok () (w.setCell ⟨b,off+i,none⟩ v):=by
   rw[nE];have f:w.cell? ⟨b,off+i,none⟩=some cs[off+i]:=by rw[n,aY e]
   cases v<;>first|(exact absurd d Bool.false_ne_true)|(simp only[store,Sem.run,f,hf];rfl)
  refine⟨w2,?_,?_,?_,?_,?_,?_,?_⟩
  .simp only[storeCells,ew,c,Result.andThen];exact h1
  .rw[h2,bN];rfl
  .intro k j;rw[h3 k j];simp[World.setCell,Array.getElem?_modify,Ne.symm j]
  .rw[h4];simp[World.setCell]
  .rw[h5];rfl
  .rw[h6];rfl
  .rw[o];rfl
def Xt{P:Program}{σ:St}{H:PH}(hn:n0=w0.heap.size)(s:cP H0 w0 H w)(g:GB n0 β σ H a w){k:Nat}
  (h:np P σ.bx (ev σ) o.op=some (k,off,cs)) :
  ∃w2,(execOp a.eval o).run P w=.ok .skip w2/\cP H0 w0 H w2/\GB n0 β (σ.store k off cs) H a w2:=by
 obtain⟨dst,op,type,pos,bY,guard⟩:=o;simp only at h;cases op<;>simp only[np]at h<;>try (cases h;done)
 rename_i T x y;split at h
 case h_2=>cases h
 rename_i k' N v U S;split at h
 case h_2=>cases h
 rename_i cs' n B C m hB;split at h
 case isFalse=>cases h
 rename_i Z;cases h
 obtain⟨G,X⟩:=Z;obtain⟨hm,rfl⟩:=As hB;obtain⟨d,t⟩:=Hz C;have ha:=g.ev x;rw[U]at ha;simp only[fW]at ha;have hv:=fo g S;have sz:(sizeOf T).run P w=.ok n w:=by unfold bE at m;simp only[zx]at m;obtain⟨i,hi,rfl⟩:=m;simp[sizeOf,typeInfo,program,Sem.run,hi]
 obtain⟨hb,f⟩:=g.bx B hm;obtain⟨w2,h1,h2,h3,h4,h5,h6,h7⟩:=yH (P:=P) (β B.key) B.ty cs 0 off B.cs w hb O t;have W:=g.lo B hm;have V:=s.size;refine⟨w2,?_,?_,?_⟩
 .have F:v.cells.size=n:=by rw[<-G,<-d];simp
  simp only[execOp,Instr.storeAt,ha,hv,Instr.sureAddr,storeVar,ew];simp[Result.andThen,sz,F,d,h1]
 .refine⟨fun b x l=>?_,O,fun b I A=>?_,s.dom,by rw[h5];exact s.os,by rw[h6];exact s.tape,by rw[h7];exact s.out⟩
  .rw[h3 b (fun e=>by subst e;rw[f]at l;cases l)];exact s.sub b x l
  .rw[h3 b O];exact s.priv b I A
 .have c:∀B'∈kW σ.bx B.key off cs,∃r∈σ.bx,r.key=B'.key:=by intro B' q;have:B'.key∈(kW σ.bx B.key off cs).map (·.key):=List.mem_map.2 ⟨B',q,rfl⟩;rw[Gp]at this;obtain⟨r,h1,h2⟩:=List.mem_map.1 this;exact⟨r,h1,h2⟩
  refine⟨g.defers,g.size,g.tm,?_,?_,?_,?_⟩
  .intro B' q;rcases YI g.keys q with ⟨u,z⟩|⟨r,u,z,rfl⟩
   .refine⟨?_,(g.bx B' u).2⟩;rw[h3 _ (fun e=>z (g.inj B' u B hm e))];exact(g.bx B' u).1
   .have:r=B:=by
     by_cases e:r=B
     .exact e
     .exfalso;have:=g.keys;rcases List.mem_iff_getElem.1 u with ⟨i,hi,rfl⟩
      rcases List.mem_iff_getElem.1 hm with ⟨j,Q,rfl⟩
      rcases s6 i j with h|h|h
      .exact(List.pairwise_iff_getElem.1 this i j hi Q h) z
      .subst h;exact e rfl
      .exact(List.pairwise_iff_getElem.1 this j i Q hi h) z.symm
    subst this;exact⟨by simpa using h2,f⟩
  .intro L p B2 J R;obtain⟨K,c1,e1⟩:=c L p;obtain⟨C2,c2,e2⟩:=c B2 J;rw[<-e1,<-e2]at R |-;exact g.inj K c1 C2 c2 R
  .intro L p;obtain⟨K,c1,e1⟩:=c L p;rw[<-e1];exact g.lo K c1
  .have:((kW σ.bx B.key off cs).map (·.key)).Pairwise (·≠·):=by rw[Gp];exact List.pairwise_map.2 g.keys
   exact List.pairwise_map.1 this
def bH(ol:Zq)(σ:St)(o:Oper):Option Bool:=
 match o.guard with
 |none=>some true
 |some (j,a)=>match ol[j]? with
  |some o'=>match o'.dst with
   |some t=>match jJ σ.tm t with
    | .v (.bool b)=>some (b == a)
    | .v (.tuple _)=>some false
    |_=>none
   |none=>none
  |none=>none
variable{ops:Array Oper}
def MI{σ:St}{H:PH}(g:GB n0 β σ H a w){r:Bool}(h:bH ops.toList σ o=some r):
  Region.wanted o (yielded ops a.tmps)=r:=by
 unfold bH at h;unfold Region.wanted;split at h
 .rename_i i;simp only[i];cases h;rfl
 .rename_i j e i;simp only[i];split at h
  .rename_i o' k;split at h
   .rename_i t ht;split at h
    .rename_i b hb;cases h
     have d:ops[j]?=some o':=by simpa using k
     have f:yielded ops a.tmps j=some b:=by
      unfold yielded;simp only[d,dD,ht];rw[se]at hb;cases hs:σ.tm[t]? with
      |none=>rw[hs]at hb;cases hb
      |some sv=>
       rw[hs]at hb;simp only[rh]at hb;subst hb;have h1:=g.tm t _ hs;simp only[fW]at h1;have c:t<a.tmps.size:=by
        rw[g.size];rcases aK t σ.tm.length with h|h
        .exact h
        .rw[fp h]at hs;cases hs
       rw[jy,sW c]at h1;simp only[rh]at h1;simp[c,h1]
     rw[f];cases b<;>cases e<;>rfl
    .rename_i l hb;cases h
     have d:ops[j]?=some o':=by simpa using k
     have f:yielded ops a.tmps j=none:=by
      unfold yielded;simp only[d,dD,ht];rw[se]at hb;cases hs:σ.tm[t]? with
      |none=>rw[hs]at hb;cases hb
      |some sv=>
       rw[hs]at hb;simp only[rh]at hb;subst hb;have h1:=g.tm t _ hs;simp only[fW]at h1;have c:t<a.tmps.size:=by
        rw[g.size];rcases aK t σ.tm.length with h|h
        .exact h
        .rw[fp h]at hs;cases hs
       rw[jy,sW c]at h1;simp only[rh]at h1;simp[c,h1]
     rw[f];rfl
    .cases h
   .cases h
  .cases h
def bp(σ:St)(x:Operand):Value:=match ev σ x with | .v y=>y|_=>undef
def fN:SV->Bool | .v _=>true|_=>false
def fx:Op->Bool | .select ..=>false|_=>true
def bR(σ:St)(op:Op):Bool:=fx op && op.operands.toList.all fun x=>fN (ev σ x)
def JG{σ:St}{H:PH}(g:GB n0 β σ H a w)(h:bR σ o.op=true):execOp (bp σ) o=execOp a.eval o:=by
 simp only[bR,cZ,sZ]at h;refine execOp_congr o (fun cs b e=>by rw[e]at h;exact absurd h.1 (by simp[fx])) fun x d=>?_;have h1:=h.2 x (by simpa using d);unfold bp;cases c:ev σ x with
 |v y=>exact(fo g c).symm
 |p k off=>rw[c]at h1;cases h1
 |u=>rw[c]at h1;cases h1
def xe(P:Program)(w:World)(H:PH)(Ψ:SV->PH->Prop):Result Next->Prop
 | .ok (.value v) w2=>∃H2,cP H w H2 w2/\Ψ (.v v) H2
 | .ok .skip w2=>∃H2,cP H w H2 w2/\Ψ .u H2
 | .ok (.enter f args) w2=>Calls P f args w2 fun e a=>match e with
  | .returned v=>∃H2,cP H w H2 a/\Ψ (.v v) H2
  |_=>False
 |_=>False
def eJ(P:Program)(s:Sem Next)(H:PH)(Ψ:SV->PH->Prop):Prop:=∀w,Sub H w->xe P w H Ψ (s.run P w)
variable{Ψ:SV->PH->Prop}{s:Sem Next}
def eJ.mono{P:Program}{H:PH}{Ψ':SV->PH->Prop}(h:eJ P s H Ψ)(k:∀sv H2,Ψ sv H2->Ψ' sv H2):eJ P s H Ψ':=by
 intro w f;have hr:=h w f;unfold xe at hr |-;split at hr
 .obtain⟨H2,a,b⟩:=hr;exact⟨H2,a,k _ _ b⟩
 .obtain⟨H2,a,b⟩:=hr;exact⟨H2,a,k _ _ b⟩
 .refine hr.mono fun e g d=>?_;cases e with
  |returned v=>obtain⟨H2,a,b⟩:=d;exact⟨H2,a,k _ _ b⟩
  |outgrown=>exact d
  |panicked c=>exact d
 .exact hr
def GV(P:Program)(σ:St)(H:PH)(o:Oper)(sv:SV):Prop:=
 (∃φ,pv P σ.bx (ev σ) o.op=some (φ,sv)/\φ)\/
 (∃v,sv=.v v/\bR σ o.op=true/\∀w,Sub H w->(execOp (bp σ) o).run P w=.ok (.value v) w)
def rQ (P : Program) (ol : Zq) (o : Oper) (K : St → PH → Prop) (σ : St) (H : PH) : Prop :=
  (bH ol σ o = some false ∧ K (σ.put o.dst (.v undef)) H) ∨
  (bH ol σ o = some true ∧
    ((∃ sv, GV P σ H o sv ∧ K (σ.put o.dst sv) H) ∨
     (∃ d T cs, o.dst = some d ∧ j0 P (ev σ) o.op = some (T, cs) ∧ K (σ.newBox d T cs) H) ∨
     (∃ k off cs, np P σ.bx (ev σ) o.op = some (k, off, cs) ∧ K ((σ.store k off cs).put o.dst .u) H) ∨
     (bR σ o.op = true ∧ eJ P (execOp (bp σ) o) H fun sv H2 => K (σ.put o.dst sv) H2)))
def V(P:Program)(ol:Zq)(K:St->PH->Prop):Zp->St->PH->Prop
 | [],σ,H=>K σ H
 |i::l,σ,H=>match ol[i]? with
  |none=>V P ol K l σ H
  |some o=>rQ P ol o (V P ol K l) σ H
def QK(n0:Nat)(H0:PH)(w0:World)(K:St->PH->Prop):Exit->Act->World->Prop
 | .normal,a,w=>∃σ H,K σ H/\cP H0 w0 H w/\G n0 σ H a w
 |_,_,_=>False
theorem GB.step{σ:St}{H:PH}{w2:World}(g:GB n0 β σ H a w)(t:cP H w H2 w2):GB n0 β σ H2 a w2:=
 ⟨g.defers,g.size,g.tm,fun B c=>by obtain⟨h1,h2⟩:=g.bx B c;have b:=lw h1;exact⟨by rw[t.priv _ b h2];exact h1,t.dom _ b h2⟩,g.inj,g.lo,g.keys⟩
def zO{P:Program}{i:Nat}(hi:ops[i]?=some o){K:St->PH->Prop}{K':Act->World->Prop}(A:n0=w0.heap.size){KQ:St->PH->Prop}
  (l:∀σ H a w,K σ H->cP H0 w0 H w->G n0 σ H a w->K' a w) {σ:St} {H:PH}   (h:rQ P ops.toList o K σ H) (s:cP H0 w0 H w) (g:G n0 σ H a w) :
  wpOp P ops (QK n0 H0 w0 KQ) i K' a w:=by
 obtain⟨β,g⟩:=g;unfold wpOp;simp only[hi];rcases h with ⟨p,j⟩|⟨p,h⟩
 .rw[MI g p];exact l _ _ _ _ j s ⟨β,g.put o.dst rfl⟩
 .rw[MI g p,ah rfl];rcases h with ⟨sv,hv,j⟩|⟨d,T,cs,hd,z,j⟩|⟨k,off,cs,q,j⟩|⟨m,r⟩
  .left
   rcases hv with ⟨φ,hp,B⟩|⟨v,rfl,m,n⟩
   .obtain⟨y,C,hm⟩:=Wo (P:=P) g hp B;simp only[Oper.wp,C,Oper.upon];exact l _ _ _ _ j s ⟨β,g.put o.dst hm⟩
   .have:=n w s.sub;rw[JG g m]at this;simp only[Oper.wp,this,Oper.upon];exact l _ _ _ _ j s ⟨β,g.put o.dst rfl⟩
  .left
   simp only[Oper.wp,NZ g z,Oper.upon,hd];exact l _ _ _ _ j (s.alloc _) ⟨_,g.newBox A s d T cs⟩
  .left
   obtain⟨w2,h1,h2,h3⟩:=Xt A s g q;simp only[Oper.wp,h1,Oper.upon];exact l _ _ _ _ j h2 ⟨β,h3.put o.dst Kc⟩
  .have u:=JG g m;have b:=r w s.sub
   left
   rw[u]at b;simp only[Oper.wp];unfold xe at b;split at b
   .rename_i v w2 hr;obtain⟨H2,t,j⟩:=b;simp only[hr,Oper.upon];exact l _ _ _ _ j (s.trans t) ⟨β,(g.step t).put o.dst rfl⟩
   .rename_i w2 hr;obtain⟨H2,t,j⟩:=b;simp only[hr,Oper.upon];exact l _ _ _ _ j (s.trans t) ⟨β,(g.step t).put o.dst Kc⟩
   .rename_i f args w2 hr;simp only[hr,Oper.upon];refine b.mono fun e F x=>?_;cases e with
    |returned v=>obtain⟨H2,t,j⟩:=x;exact l _ _ _ _ j (s.trans t) ⟨β,(g.step t).put o.dst rfl⟩
    |outgrown=>exact x.elim
    |panicked c=>exact x.elim
   .exact b.elim
def Da{P:Program}{ops:Array Oper}{K:St->PH->Prop}{n0:Nat}{H0:PH}{w0:World}(c:n0=w0.heap.size):∀(l:Zp) {σ:St} {H:PH} {a:Act} {w:World},
  V P ops.toList K l σ H->cP H0 w0 H w->G n0 σ H a w->wpOps P ops (QK n0 H0 w0 K) l a w
 | [],σ,H,a,w,h,s,g=>⟨σ,H,h,s,g⟩
 |i::l,σ,H,a,w,h,s,g=>by
  simp only[V]at h;rw[wpOps_cons];cases b:ops[i]? with
  |none=>
   have:ops.toList[i]?=none:=by simpa using b
   rw[this]at h;simp only[wpOp,b];exact Da c l h s g
  |some o=>
   have:ops.toList[i]?=some o:=by simpa using b
   rw[this]at h;exact zO b c (fun σ' H' f e d s' g'=>Da c l d s' g') h s g
def PH.put(H:PH)(b:Nat)(o:Obj):PH:=fun c=>if c=b then some o else H c
def PH.le_put{H:PH}{o:Obj}(h:H b=none):H.le (H.put b o):=fun c x a=>by
 by_cases e:c=b
 .subst e;rw[h]at a;cases a
 .simp[PH.put,e,a]
def cP.new{H:PH}(s:Sub H w)(o:Obj):H w.heap.size=none/\cP H w (H.put w.heap.size o) { w with heap:=w.heap.push o }:=by
 have c:H w.heap.size=none:=by
  cases d:H w.heap.size with
  |none=>rfl
  |some o=>exact absurd (lw (s _ _ d)) O
 refine⟨c,fun b x h=>?_,by simp,fun b hb _=>?_,fun b hb a=>?_,rfl,rfl,rfl⟩
 .by_cases e:b=w.heap.size
  .subst e;simp only[PH.put,cu]at h;cases h;simp
  .simp only[PH.put,ab e]at h;rw[show ({ w with heap:=w.heap.push o }:World).heap=w.heap.push o from rfl,xU (lw (s _ _ h))];exact s _ _ h
 .rw[show ({ w with heap:=w.heap.push o }:World).heap=w.heap.push o from rfl,xU hb]
 .simp[PH.put,Nat.ne_of_lt hb,a]
def cP.beside{H:PH}{w2:World}{o:Obj}(hb:H b=none)(s:Sub (H.put b o) w)(t:cP H w H2 w2):H2 b=none/\cP (H.put b o) w (H2.put b o) w2:=by
 have f:w.heap[b]?=some o:=s b o (by simp[PH.put]);have g:=lw f;have h:=t.dom b g hb;refine⟨h,fun c x a=>?_,t.size,fun c a d=>?_,fun c a d=>?_,t.os,t.tape,t.out⟩
 .by_cases e:c=b
  .subst e;simp only[PH.put,cu]at a;cases a;rw[t.priv _ g hb];exact f
  .simp only[PH.put,ab e]at a;exact t.sub c x a
 .by_cases e:c=b
  .subst e;simp[PH.put]at d
  .simp only[PH.put,ab e]at d;exact t.priv c a d
 .by_cases e:c=b
  .subst e;simp[PH.put]at d
  .simp only[PH.put,ab e]at d |-;exact t.dom c a d
def Sub.unput{H:PH}{o:Obj}(hb:H b=none)(s:Sub (H.put b o) w):Sub H w:=s.of_le (PH.le_put hb)
def eJ.beside{P:Program}{H:PH}{o:Obj}(hb:H b=none)(h:eJ P s H Ψ):eJ P s (H.put b o) fun sv f=>∃H2,f=H2.put b o/\H2 b=none/\Ψ sv H2:=by
 intro w a;have hr:=h w (a.unput hb);unfold xe at hr |-;split at hr
 .obtain⟨H2,t,p⟩:=hr;obtain⟨n,t'⟩:=t.beside hb a;exact⟨_,t',H2,rfl,n,p⟩
 .obtain⟨H2,t,p⟩:=hr;obtain⟨n,t'⟩:=t.beside hb a;exact⟨_,t',H2,rfl,n,p⟩
 .refine hr.mono fun e g d=>?_;cases e with
  |returned v=>obtain⟨H2,t,p⟩:=d;obtain⟨n,t'⟩:=t.beside hb a;exact⟨_,t',H2,rfl,n,p⟩
  |outgrown=>exact d
  |panicked c=>exact d
 .exact hr
def CQ(P:Program)(s:Sem Next)(f:Nat->Value)(ob:Obj):Prop:=∀w,s.run P w=.ok (.value (f w.heap.size)) { w with heap:=w.heap.push ob }
theorem CQ.op{P:Program}{f:Nat->Value}{ob:Obj}(h:CQ P s f ob)(H:PH):eJ P s H fun sv H2=>∃b,H b=none/\sv=.v (f b)/\H2=H.put b ob:=by intro w d;rw[h w];obtain⟨c,a⟩:=cP.new d ob;exact⟨_,a,_,c,rfl,rfl⟩
inductive Cl where
 |val|alc|st|gen|nw
 deriving DecidableEq
def fm:Op->Cl
 | .alloc _ | .box ..=>.alc
 | .store ..=>.st
 | .move _ | .assign _ | .pick .. | .load .. | .binOp .. | .unOp .. | .convert .. | .fieldAddr .. | .field .. | .indexAddr .. | .index .. | .extract ..
 | .build .. | .nilCheck _ | .makeFunc .. | .lookup .. | .slice ..=>.val
 | .call { callee:=.builtin .len,.. } | .call { callee:=.builtin .cap,.. } | .call { callee:=.builtin .min,.. } | .call { callee:=.builtin .max,.. }=>.val
 | .makeMap _ none=>.nw
 |_=>.gen
def gJ:Zp->Nat->Bool
 | [],_=>false
 |a::l,k=>if a=k then true else gJ l k
def l6(kp:Zp):List cM->List cM
 | []=>[]
 |b::l=>if gJ kp b.key then b::l6 kp l else l6 kp l
def kb(f:Bool)(kp:Zp)(l:List cM):List cM:=if f then l6 kp l else l
structure iE where
 h:Bool
 j:Bool
 J:PH
 k:Bool
 kp:Zp
structure mF where
 h:Bool
 j:Bool
 k:Bool
structure cw where
 h:Zp
 j:Zp
 J:PH
 k:Zp
 kp:Zp
structure cC where
 h:Zp
 j:Zp
 k:Zp
def cw.at'(d:cw)(i:Nat):iE:=⟨d.h.contains i,d.j.contains i,d.J,gJ d.k i,d.kp⟩
def cC.at'(d:cC)(i:Nat):mF:=⟨d.h.contains i,d.j.contains i,gJ d.k i⟩
variable{kp:Zp}
def P5{k:Nat}(h:eS (l6 kp l) k=some B):eS l k=some B/\gJ kp k=true:=by
 induction l with
 |nil=>cases h
 |cons b l d=>
  simp only[l6]at h;split at h
  .simp only[eS]at h |-;split at h
   .rename_i hm e;subst e;rw[ah rfl];exact⟨h,hm⟩
   .rename_i hm e;rw[ab e];exact d h
  .rename_i hm;obtain⟨a,c⟩:=d h;simp only[eS];rw[ab (fun e=>hm (by rw[e];exact c))];exact⟨a,c⟩
def JD{kp:Zp}{k off:Nat}{cs:Zo}(a:gJ kp k=false):∀(l:List cM),l6 kp (kW l k off cs)=l6 kp l
 | []=>rfl
 |b::l=>by
  simp only[kW];split
  .rename_i e;simp[l6,e,a]
  .simp only[l6,JD a l]
variable{r:Prop×SV}{ρ:Operand->SV}{bx:List cM}
def Wk{P:Program}{bx':List cM}{op:Op}(hb:∀k B,eS bx k=some B->eS bx' k=some B)(h:pv P bx ρ op=some r):pv P bx' ρ op=some r:=by
 cases op<;>first|exact h|(rename_i mx;cases mx<;>exact h)|skip
 rename_i T x;simp only[pv,yD]at h |-;split at h
 .rename_i k off b;split at h
  .rename_i B a;rw[hb k B a];exact h
  .cases h
 .cases h
def Wn{P:Program}{f:Bool}{op:Op}(h:pv P (kb f kp bx) ρ op=some r):pv P bx ρ op=some r:=by
 unfold kb at h;split at h
 .exact Wk (fun k B a=>(P5 a).1) h
 .exact h
def yd:Op->Bool
 | .load ..=>false
 |_=>true
def KY{P:Program}{bx':List cM}{op:Op}(h:yd op=true):pv P bx ρ op=pv P bx' ρ op:=by cases op<;>first|rfl|(rename_i mx;cases mx<;>rfl)|cases h
def xt(P:Program)(fr:iE)(σ:St)(H:PH)(o:Oper)(sv:SV):Prop:=
 (∃φ,pv P (kb fr.k fr.kp σ.bx) (ev σ) o.op=some (φ,sv)/\φ)\/
 (fr.h=true/\∃v,sv=.v v/\bR σ o.op=true/\∀w,Sub H w->(execOp (bp σ) o).run P w=.ok (.value v) w)\/
 (fr.j=true/\fr.J.le H/\∃v,sv=.v v/\bR σ o.op=true/\∀w,Sub fr.J w->(execOp (bp σ) o).run P w=.ok (.value v) w)
def xt.val{P:Program}{fr:iE}{σ:St}{H:PH}(h:xt P fr σ H o sv):GV P σ H o sv:=by
 rcases h with ⟨φ,h,k⟩|h|⟨_,e,v,a,b,c⟩
 .exact .inl ⟨φ,Wn h,k⟩
 .exact .inr h.2
 .exact .inr ⟨v,a,b,fun w d=>c w (d.of_le e)⟩
def jF(P:Program)(ol:Zq)(fr:iE)(str:mF)(o:Oper)(K:St->PH->Prop)(σ:St)(H:PH):Prop:=
 (bH ol σ o=some false/\K (σ.put o.dst (.v undef)) H)\/
 (bH ol σ o=some true/\match fm o.op with
  | .val=>∃sv,xt P fr σ H o sv/\K (σ.put o.dst sv) H
  | .alc=>∃d T cs,o.dst=some d/\j0 P (ev σ) o.op=some (T,cs)/\K (σ.newBox d T cs) H
  | .st=>(∃k off cs,np P σ.bx (ev σ) o.op=some (k,off,cs)/\(str.k=true->gJ fr.kp k=false)/\K ((σ.store k off cs).put o.dst .u) H)\/(str.k=false/\bR σ o.op=true/\eJ P (execOp (bp σ) o) H fun sv H2=>K (σ.put o.dst sv) H2)
  | .gen=>bR σ o.op=true/\eJ P (execOp (bp σ) o) H fun sv H2=>((str.h=true->H.le H2)/\(str.j=true->fr.J.le H->fr.J.le H2))/\K (σ.put o.dst sv) H2
  | .nw=>∀b,H b=none->K (σ.put o.dst (.v (.map (some b)))) (H.put b (.map #[] 0)))
def VD(P:Program)(ol:Zq)(fr:cw)(str:cC)(K:St->PH->Prop):Zp->St->PH->Prop
 | [],σ,H=>K σ H
 |i::l,σ,H=>match ol[i]? with
  |none=>VD P ol fr str K l σ H
  |some o=>jF P ol (fr.at' i) (str.at' i) o (VD P ol fr str K l) σ H
def Vt{P:Program}{σ:St}(h:fm o.op=.nw):bR σ o.op=true/\CQ P (execOp (bp σ) o) (fun b=>.map (some b)) (.map #[] 0):=by
 obtain⟨dst,op,type,pos,bY,guard⟩:=o;simp only at h |-;cases op<;>try (simp[fm]at h;done)
 case makeMap mt n=>
  cases n with
  |some x=>simp[fm]at h
  |none=>exact⟨by simp[bR,fx,Op.operands],fun w=>by simp[execOp,Instr.makeMap,newObj,Sem.run,Result.andThen]⟩
 case call c=>
  obtain⟨callee,args,types⟩:=c;cases callee with
  |builtin b=>cases b<;>simp[fm]at h
  |value f=>simp[fm]at h
  |invoke r m=>simp[fm]at h
def jF.toV{P:Program}{ol:Zq}{fr:iE}{str:mF}{K:St->PH->Prop}{σ:St}{H:PH}(h:jF P ol fr str o K σ H):rQ P ol o K σ H:=by
 rcases h with h|⟨c,h⟩
 .exact .inl h
 .refine .inr ⟨c,?_⟩;split at h
  .obtain⟨sv,hv,d⟩:=h;exact .inl ⟨sv,hv.val,d⟩
  .exact .inr (.inl h)
  .rcases h with ⟨k,off,cs,a,_,b⟩|⟨_,a,b⟩
   .exact .inr (.inr (.inl ⟨k,off,cs,a,b⟩))
   .exact .inr (.inr (.inr ⟨a,b⟩))
  .exact .inr (.inr (.inr ⟨h.1,h.2.mono fun _ _ x=>x.2⟩))
  .rename_i e;obtain⟨a,b⟩:=Vt (P:=P) (σ:=σ) e;exact .inr (.inr (.inr ⟨a,(b.op H).mono fun sv H2 ⟨x,y,z,u⟩=>by subst z;subst u;exact h x y⟩))
def eX(l:List cM):Prop:=l.Pairwise (fun x y=>x.key<y.key)
def DQ{k:Nat}(h:eX l):eX (ep l k):=by
 unfold eX at *
 induction l with
 |nil=>simp[ep]
 |cons b l a=>
  rw[mz]at h;simp only[ep];split
  .exact a h.2
  .exact List.pairwise_cons.2 ⟨fun y c=>h.1 y (qz c).1,a h.2⟩
def SC{x:cM}(h:eX l)(d:∀B∈l,B.key≠x.key):eX (d8 x l):=by
 unfold eX at *
 induction l with
 |nil=>simp[d8]
 |cons b l e=>
  have i:=h;rw[mz]at h;simp only[d8];split
  .rename_i c;refine List.pairwise_cons.2 ⟨fun y a=>?_,e h.2 fun B g=>d B (.tail _ g)⟩;rcases vI.1 a with rfl|a
   .exact c
   .exact h.1 y a
  .rename_i f;have hb:=d b (.head _);refine List.pairwise_cons.2 ⟨fun y a=>?_,i⟩;rcases List.mem_cons.1 a with rfl|a
   .omega
   .have:=h.1 y a;omega
theorem eX.newBox{σ:St}(h:eX σ.bx)(d:Nat)(T:TypeId)(cs:Zo):eX (σ.newBox d T cs).bx:=
 SC (DQ h) fun _ a=>(qz a).2
theorem eX.put{σ:St}(h:eX σ.bx)(d:Option Nat)(sv:SV):eX (σ.put d sv).bx:=by cases d<;>exact h
theorem eX.store{σ:St}(h:eX σ.bx)(k off:Nat)(cs:Zo):eX (σ.store k off cs).bx:=by
 have:((kW σ.bx k off cs).map (·.key)).Pairwise (· < ·):=by rw[Gp];exact List.pairwise_map.2 h
 exact List.pairwise_map.1 this
def SA{x:cM}(h:∀B∈l,¬B.key<x.key):d8 x l=x::l:=by
 cases l with
 |nil=>rfl
 |cons b l=>simp[d8,h b (.head _)]
def HW{x:cM}{k:Nat}(hs:eX l)(e:x.key≠k):ep (d8 x l) k=d8 x (ep l k):=by
 unfold eX at hs
 induction l with
 |nil=>simp[d8,ep,e]
 |cons b l d=>
  rw[mz]at hs;simp only[d8];split
  .rename_i a;simp only[ep];split
   .exact d hs.2
   .simp[d8,a,d hs.2]
  .rename_i c;have h1:ep (x::b::l) k=x::ep (b::l) k:=by rw[ep];simp[e]
   rw[h1];refine(SA fun B f=>?_).symm;have:=(qz f).1;rcases List.mem_cons.1 this with rfl|h
   .exact c
   .have:=hs.1 B h;omega
def Sz{x y:cM}(h:x.key≠y.key):d8 x (d8 y l)=d8 y (d8 x l):=by
 induction l with
 |nil=>
  simp only[d8];rcases s6 x.key y.key with h1|h1|h1
  .simp[h1,Nat.not_lt.2 (lM h1)]
  .exact absurd h1 h
  .simp[h1,Nat.not_lt.2 (lM h1)]
 |cons b l d=>
  by_cases c:b.key<x.key<;>by_cases a:b.key<y.key
  .simp[d8,c,a,d]
  .have:y.key<x.key:=by omega
   simp[d8,c,a,this]
  .have:x.key<y.key:=by omega
   simp[d8,c,a,this]
  .rcases s6 x.key y.key with h1|h1|h1
   .simp[d8,c,a,h1,Nat.not_lt.2 (lM h1)]
   .exact absurd h1 h
   .simp[d8,c,a,h1,Nat.not_lt.2 (lM h1)]
def Pv(l:List cM)(a b:Nat):ep (ep l a) b=ep (ep l b) a:=by
 induction l with
 |nil=>rfl
 |cons x l c=>by_cases h1:x.key=a<;>by_cases h2:x.key=b<;>simp[ep,h1,h2,c]<;>simp_all[ep]
def Fy(l:List SV)(a b:Nat)(x y:SV)(h:a≠b):gY (gY l a x) b y=gY (gY l b y) a x:=by
 induction l generalizing a b with
 |nil=>rfl
 |cons z l c=>cases a<;>cases b<;>simp only[gY]<;>first|omega|(congr 1;exact c _ _ O)
def Fz(f:SV->SV)(l:List SV)(a:Nat)(x:SV):(gY l a x).map f=gY (l.map f) a (f x):=by
 induction l generalizing a with
 |nil=>rfl
 |cons z l b=>cases a<;>simp[gY,b]
def we(σ:St)(a b:Option Nat)(x y:SV)(h:∀d,a=some d->b≠some d):(σ.put a x).put b y=(σ.put b y).put a x:=by
 cases a<;>cases b<;>simp only[St.put]
 rename_i c d;rw[Fy _ _ _ _ _ (fun e=>h c rfl (by rw[e]))]
def Bi(σ:St)(d:Nat)(T:TypeId)(cs:Zo)(e:Option Nat)(sv:SV)(h:e≠some d):(σ.put e sv).newBox d T cs=(σ.newBox d T cs).put e (dl d sv):=by
 cases e with
 |none=>rfl
 |some e=>have:e≠d:=fun x=>h (by rw[x]);simp only[St.put,St.newBox,Fz];rw[Fy _ _ _ _ _ this]
def O8(l:List SV)(a b:Nat):(l.map (dl a)).map (dl b)=(l.map (dl b)).map (dl a):=by
 simp only[pF];apply nu;intro x _;cases x with
 |v x=>rfl
 |u=>rfl
 |p k off=>
  by_cases h1:k=a<;>by_cases h2:k=b<;>simp only[Function.comp,dl,h1,h2,cu,dG]
  all_goals (by_cases h3:a=b<;>simp_all[dl])
def Vi(σ:St)(d e:Nat)(T T':TypeId)(cs a:Zo)(h:d≠e)(hs:eX σ.bx):(σ.newBox d T cs).newBox e T' a=(σ.newBox e T' a).newBox d T cs:=by
 have h1:¬d=e:=h;have h2:¬e=d:=fun x=>h x.symm;have t:(gY (((gY (σ.tm.map (dl d)) d (.p d 0))).map (dl e)) e (.p e 0))=(gY (((gY (σ.tm.map (dl e)) e (.p e 0))).map (dl d)) d (.p d 0)):=by rw[Fz,Fz,Fy _ _ _ _ _ h,O8];simp[dl,h1,h2]
 have b:d8 ⟨e,T',a⟩ (ep (d8 ⟨d,T,cs⟩ (ep σ.bx d)) e)=d8 ⟨d,T,cs⟩ (ep (d8 ⟨e,T',a⟩ (ep σ.bx e)) d):=by rw[HW (DQ hs) h,HW (DQ hs) (Ne.symm h),Sz (Ne.symm h),Pv]
 simp only[St.newBox,t,b]
def looks (ol : Zq) (o : Oper) : Zp :=
  (o.op.operands.toList.filterMap fun | .tmp t => some t | _ => none) ++
  (match o.guard with
   | some (j, _) => match ol[j]? with | some o' => o'.dst.toList | none => []
   | none => [])
def qt(ol:Zq)(x y:Oper):Bool:=
 (match x.dst with|some d=>!(looks ol y).contains d && y.dst != some d|none=>true) &&
 (match y.dst with|some d=>!(looks ol x).contains d && x.dst != some d|none=>true)
variable{d:Nat}
def J1{ol:Zq}(h:d∉looks ol o):∀x∈o.op.operands,x≠.tmp d:=by intro x a e;subst e;exact h (gm _ (List.mem_filterMap.2 ⟨.tmp d,by simpa using a,rfl⟩))
def PU{σ:St}{d:Option Nat}{x:Operand}(h:∀e,d=some e->x≠.tmp e):ev (σ.put d sv) x=ev σ x:=by
 cases d with
 |none=>rfl
 |some d=>
  cases x with
  |tmp t=>have:d≠t:=fun e=>h d rfl (by rw[e]);simp[ev,St.put,se,uf,this]
  |_=>rfl
def PS{σ:St}{T:TypeId}{x:Operand}(h:x≠.tmp d):ev (σ.newBox d T cs) x=dl d (ev σ x):=by
 cases x with
 |tmp t=>have:d≠t:=fun e=>h (by rw[e]);simp only[ev,St.newBox,se,uf,ab this,iZ];cases σ.tm[t]?<;>rfl
 |_=>rfl
def q8{ol:Zq}{σ:St}{d:Option Nat}(h:∀e,d=some e->e∉looks ol o):bH ol (σ.put d sv) o=bH ol σ o:=by
 unfold bH;cases f:o.guard with
 |none=>rfl
 |some g=>
  obtain⟨j,b⟩:=g;simp only;cases c:ol[j]? with
  |none=>rfl
  |some o'=>
   simp only;cases ht:o'.dst with
   |none=>rfl
   |some t=>
    have a:∀e,d=some e->e≠t:=fun e i h2=>h e i (by subst h2;exact gD _ (by simp[f,c,ht]))
    have:jJ (σ.put d sv).tm t=jJ σ.tm t:=by
     cases d with
     |none=>rfl
     |some d=>simp[St.put,se,uf,a d rfl]
    simp only[this]
def uv{ol:Zq}{σ:St}{T:TypeId}{r:Bool}(h:d∉looks ol o):bH ol (σ.newBox d T cs) o=some r<->bH ol σ o=some r:=by
 unfold bH;cases f:o.guard with
 |none=>rfl
 |some g=>
  obtain⟨j,b⟩:=g;simp only;cases c:ol[j]? with
  |none=>rfl
  |some o'=>
   simp only;cases ht:o'.dst with
   |none=>rfl
   |some t=>
    have a:d≠t:=fun h2=>h (by subst h2;exact gD _ (by simp[f,c,ht]))
    have:jJ (σ.newBox d T cs).tm t=dl d (jJ σ.tm t):=by simp only[St.newBox,se,uf,ab a,iZ];cases σ.tm[t]?<;>rfl
    simp only[this];cases jJ σ.tm t with
    |v x=>rfl
    |u=>rfl
    |p k off=>by_cases e:k=d<;>simp[dl,e]
def Dm{ρ ρ':Operand->SV}:∀{l:List Operand},(∀x∈l,ρ x=ρ' x)->fY ρ l=fY ρ' l
 | [],_=>rfl
 |x::l,h=>by simp only[fY,h x (.head _),Dm (fun y a=>h y (.tail _ a))]
def G9{ρ ρ':Operand->SV}:∀{l:List (Nat×Operand)},(∀x∈l,ρ x.2=ρ' x.2)->je ρ l=je ρ' l
 | [],_=>rfl
 |(i,x)::l,h=>by simp only[je,h (i,x) (.head _),G9 (fun y a=>h y (.tail _ a))]
def KX{P:Program}{ρ':Operand->SV}{op:Op}(h:∀x∈op.operands,ρ x=ρ' x):pv P bx ρ op=pv P bx ρ' op:=by
 cases op<;>simp only[pv]<;>simp only[Op.operands]at h
 case build T ps=>
  rw[G9 (l:=ps.toList) fun x a=>h x.2 (by simpa using ⟨x.1,by simpa using a⟩)]
 case slice T x lo hi mx=>
  have a:=h x ao;have b:lo.map ρ=lo.map ρ':=by
   cases lo with
   |none=>rfl
   |some z=>simp only[df];rw[h z ao]
  have d:hi.map ρ=hi.map ρ':=by
   cases hi with
   |none=>rfl
   |some z=>simp only[df];rw[h z ao]
  cases mx with
  |some m=>rfl
  |none=>simp only;rw[a,b,d]
 case makeFunc fn f c=>
  rw[Dm (l:=f.toList) fun x a=>h x (by simp at a |-;exact .inl a),Dm (l:=c.toList) fun x a=>h x (by simp at a |-;exact .inr a)]
 case call c=>
  obtain⟨callee,args,types⟩:=c;have ha:∀x∈args.toList,ρ x=ρ' x:=fun x a=>h x (by simp[Call.operands]at a |-;exact .inr a);simp only[qQ];split
  .rename_i x t e1 e2;rw[ha x (by rw[e1];exact .head _)]
  .rename_i x t e1 e2;rw[ha x (by rw[e1];exact .head _)]
  .rename_i x y e1;rw[ha x (by rw[e1];exact .head _),ha y (by rw[e1];exact .tail _ (.head _))]
  .rename_i x y e1;rw[ha x (by rw[e1];exact .head _),ha y (by rw[e1];exact .tail _ (.head _))]
  .rfl
 all_goals simp_all
def gH{s:SV}:dl d s=.v x<->s=.v x:=by
 cases s with
 |v y=>rfl
 |u=>simp[dl]
 |p k off=>simp only[dl];split<;>simp
def Ai{k:Nat}{s:SV}(h:dl d s=.p k off):s=.p k off/\k≠d:=by
 cases s with
 |v y=>cases h
 |u=>cases h
 |p k' a=>
  simp only[dl]at h;split at h
  .cases h
  .cases h;exact⟨rfl,by assumption⟩
def Dl{ρ:Operand->SV}{d:Nat}:∀{l:List Operand} {r:Zo},fY (fun x=>dl d (ρ x)) l=some r->fY ρ l=some r
 | [],_,h=>h
 |x::l,r,h=>by
  simp only[fY]at h |-;split at h
  .rename_i a b ha hr;rw[gH.1 ha,Dl hr];exact h
  .cases h
def G8{ρ:Operand->SV}{d:Nat}:∀{l:List (Nat×Operand)} {r:List (Nat×Value)},je (fun x=>dl d (ρ x)) l=some r->je ρ l=some r
 | [],_,h=>h
 |(i,x)::l,r,h=>by
  simp only[je]at h |-;split at h
  .rename_i a b ha hr;rw[gH.1 ha,G8 hr];exact h
  .cases h
def u0{o:Option Operand}(h:jI n (o.map fun x=>dl d (ρ x))=some i):jI n (o.map ρ)=some i:=by
 cases o with
 |none=>exact h
 |some z=>obtain⟨k,b⟩:=rX h;simp only[df]at h |-;have a:dl d (ρ z)=.v (.int k i):=b;rw[gH.1 a];rw[a]at h;exact h
def Wj{k:Kd}{e:wV}{x:SV}{lo hi:Option Operand}(h:sK k e (dl d x) (lo.map fun x=>dl d (ρ x)) (hi.map fun x=>dl d (ρ x))=some (φ,sv)):
  sK k e x (lo.map ρ) (hi.map ρ)=some (φ,sv)/\sv=dl d sv:=by
 unfold sK at h;split at h
 .rename_i size a len cap f;rw[gH.1 f];unfold sK;split at h
  .rename_i l g i c b hs;cases h
   simp only[u0 c,u0 b];cases hi with
   |none=>cases hs
   |some z=>exact⟨rfl,rfl⟩
  .rename_i l g c b hs;cases h
   simp only[u0 c,u0 b];cases hi with
   |none=>exact⟨rfl,rfl⟩
   |some z=>cases hs
  .cases h
 .rename_i s f;rw[gH.1 f];unfold sK;split at h
  .rename_i l g c b;cases h
   simp only[u0 c,u0 b];exact⟨trivial,rfl⟩
  .cases h
 .cases h
def P6{k:Nat}{T:TypeId}(h:k≠d):eS (d8 ⟨d,T,cs⟩ (ep bx d)) k=eS bx k:=by
 have h1:∀l:List cM,eS (d8 ⟨d,T,cs⟩ l) k=eS l k:=by
  intro l
  induction l with
  |nil=>simp[d8,eS,Ne.symm h]
  |cons b l a=>
   simp only[d8];split
   .simp only[eS,a]
   .simp[eS,Ne.symm h]
 rw[h1]
 induction bx with
 |nil=>rfl
 |cons b l a=>
  simp only[ep];split
  .rename_i e;rw[a];have:¬b.key=k:=fun x=>h (x.symm.trans e);simp[eS,this]
  .simp only[eS,a]
def H7(f:Bool)(kp:Zp)(l:List cM)(k:Nat):eS (kb f kp l) k=if f=true/\gJ kp k=false then none else eS l k:=by
 unfold kb;cases f
 .simp
 .simp only[cu,fg]
  induction l with
  |nil=>simp[l6,eS]
  |cons b l a=>
   simp only[l6];by_cases e:b.key=k
   .cases hm:gJ kp b.key
    .rw[ab ao,a,<-e,hm];simp
    .rw[ah rfl];subst e;simp[eS,hm]
   .cases hm:gJ kp b.key
    .rw[ab ao,a];simp[eS,e]
    .rw[ah rfl];simp only[eS,ab e];exact a
def P4{f:Bool}{k:Nat}{T:TypeId}(h:k≠d):eS (kb f kp (d8 ⟨d,T,cs⟩ (ep bx d))) k=eS (kb f kp bx) k:=by rw[H7,H7,P6 h]
def Wl {P : Program} {bx : List cM} {ρ : Operand → SV} {d : Nat} {T : TypeId} {cs : Zo} {op : Op} {φ : Prop} {sv : SV} {f : Bool} {kp : Zp}
    (h : pv P (kb f kp (d8 ⟨d, T, cs⟩ (ep bx d))) (fun x => dl d (ρ x)) op = some (φ, sv)) : ∃ sv', pv P (kb f kp bx) ρ op = some (φ, sv') ∧ sv = dl d sv' := by
  have mv : ∀ x : Operand, (match dl d (ρ x) with | .u => (none : Option (Prop × SV)) | sv => some (True, sv)) = some (φ, sv) → ∃ sv', (match ρ x with | .u => (none : Option (Prop × SV)) | sv => some (True, sv)) = some (φ, sv') ∧ sv = dl d sv' := by
    intro x hx
    cases hr : ρ x with
    | v y => rw [hr] at hx; cases hx; exact ⟨.v y, rfl, rfl⟩
    | u => rw [hr] at hx; cases hx
    | p k off =>
      rw [hr] at hx
      simp only [dl] at hx
      split at hx
      · rename_i e; split at e <;> first | cases hx | cases e
      · rename_i aa
        by_cases e : k = d
        · simp [e] at aa
        · simp only [ab e] at hx
          cases hx; exact ⟨.p k off, rfl, by simp [dl, e]⟩
  cases op <;> simp only [pv] at h ⊢ <;> try (cases h; done)
  case move x => exact mv x h
  case assign x => exact mv x h
  case pick c x y =>
    split at h
    · rename_i b hb
      cases h
      rw [gH.1 hb]
      exact ⟨_, rfl, by split <;> rfl⟩
    · cases h
  case load T' x =>
    unfold yD at h ⊢
    split at h
    · rename_i k off hx
      obtain ⟨hx, hk⟩ := Ai hx
      rw [hx]
      simp only
      rw [P4 hk] at h
      split at h
      · split at h
        · cases h; exact ⟨_, rfl, rfl⟩
        · cases h
      · cases h
    · cases h
  case fieldAddr T' x f =>
    split at h
    · unfold BI at h
      split at h
      · rename_i k off hx
        cases h
        obtain ⟨hx, hk⟩ := Ai hx
        exact ⟨_, by rw [hx]; rfl, by simp [dl, hk]⟩
      · rename_i b off hx
        cases h
        exact ⟨_, by rw [gH.1 hx]; rfl, rfl⟩
      · cases h
    · cases h
  case nilCheck x =>
    unfold BK at h
    split at h
    · rename_i k off hx
      cases h
      obtain ⟨hx, hk⟩ := Ai hx
      exact ⟨_, by rw [hx]; rfl, by simp [dl, hk]⟩
    · rename_i a hx
      cases h
      exact ⟨_, by rw [gH.1 hx]; rfl, rfl⟩
    · cases h
  case indexAddr T' x i =>
    unfold yC at h
    split at h
    · rename_i len size k off kk n he hx hi
      cases h
      obtain ⟨hx, hk⟩ := Ai hx
      exact ⟨_, by rw [hx, gH.1 hi, he]; rfl, by simp [dl, hk]⟩
    · rename_i len size b off kk n he hx hi
      cases h
      exact ⟨_, by rw [gH.1 hx, gH.1 hi, he]; rfl, rfl⟩
    · rename_i size b off len cap kk n he hx hi
      cases h
      exact ⟨_, by rw [gH.1 hx, gH.1 hi, he]; rfl, rfl⟩
    · cases h
  case index T' x i =>
    unfold BJ at h
    split at h
    · rename_i s kk n he hx hi
      cases h
      exact ⟨_, by rw [gH.1 hx, gH.1 hi, he]; rfl, rfl⟩
    · cases h
  case field T' x f =>
    split at h
    · rename_i n ty cs' hf hx
      obtain ⟨v, hv, rfl⟩ := jv h
      refine ⟨.v v, ?_, rfl⟩
      rw [hf, gH.1 hx]; exact h
    · cases h
  case extract x n =>
    split at h
    · rename_i vs hx
      obtain ⟨v, hv, rfl⟩ := jv h
      refine ⟨.v v, ?_, rfl⟩
      rw [gH.1 hx]; exact h
    · cases h
  case build T' ps =>
    split at h
    · rename_i l hl
      obtain ⟨v, hv, rfl⟩ := jv h
      refine ⟨.v v, ?_, rfl⟩
      rw [G8 hl]; exact h
    · cases h
  case binOp op T' x y T2 =>
    split at h
    · rename_i a b hx hy
      obtain ⟨v, hv, rfl⟩ := jv h
      refine ⟨.v v, ?_, rfl⟩
      rw [gH.1 hx, gH.1 hy]; exact h
    · cases h
  case unOp op T' x =>
    split at h
    · rename_i a hx
      obtain ⟨v, hv, rfl⟩ := jv h
      refine ⟨.v v, ?_, rfl⟩
      rw [gH.1 hx]; exact h
    · cases h
  case convert s dd x =>
    split at h
    · rename_i a hs hx
      obtain ⟨v, hv, rfl⟩ := jv h
      refine ⟨.v v, ?_, rfl⟩
      rw [gH.1 hx, hs]; exact h
    · cases h
  case slice T' x lo hi mx =>
    cases mx with
    | some m => cases h
    | none =>
      obtain ⟨h1, h2⟩ := Wj (ρ := ρ) h
      exact ⟨sv, h1, h2⟩
  case makeFunc fn f c =>
    split at h
    · rename_i l m hl hm
      cases h
      refine ⟨_, by rw [Dl hl, Dl hm], rfl⟩
    · cases h
  case call c =>
    unfold qQ at h ⊢
    split at h
    all_goals first
      | (split at h
         · first
           | (rename_i a b hx hy
              obtain ⟨v, hv, rfl⟩ := jv h
              exact ⟨.v v, by rw [gH.1 hx, gH.1 hy]; exact h, rfl⟩)
           | (rename_i a hx
              obtain ⟨v, hv, rfl⟩ := jv h
              exact ⟨.v v, by rw [gH.1 hx]; exact h, rfl⟩)
         · cases h)
      | cases h
def eJ.mono'{P:Program}{H:PH}{Ψ':SV->PH->Prop}(h:eJ P s H Ψ)(k:∀sv H2,(∀d,dl d sv=sv)->Ψ sv H2->Ψ' sv H2):eJ P s H Ψ':=by
 intro w g;have hr:=h w g;unfold xe at hr |-;split at hr
 .obtain⟨H2,a,b⟩:=hr;exact⟨H2,a,k _ _ (fun _=>rfl) b⟩
 .obtain⟨H2,a,b⟩:=hr;exact⟨H2,a,k _ _ (fun _=>rfl) b⟩
 .refine hr.mono fun e i f=>?_;cases e with
  |returned v=>obtain⟨H2,a,b⟩:=f;exact⟨H2,a,k _ _ (fun _=>rfl) b⟩
  |outgrown=>exact f
  |panicked c=>exact f
 .exact hr
def XV(P:Program)(ol:Zq)(fr:iE)(σ:St)(H:PH)(o:Oper)(sv:SV):Prop:=
 (bH ol σ o=some false/\sv=.v undef)\/(bH ol σ o=some true/\fm o.op=.val/\xt P fr σ H o sv)
def tQ{σ σ':St}{op:Op}(h:∀x∈op.operands,fN (ev σ x)=fN (ev σ' x)):bR σ op=bR σ' op:=by
 have h1:∀x∈op.operands.toList,fN (ev σ x)=fN (ev σ' x):=fun x b=>h x (by simpa using b);have h2:op.operands.toList.all (fun x=>fN (ev σ x))=op.operands.toList.all (fun x=>fN (ev σ' x)):=by rw[Bool.eq_iff_iff];simp only[sZ];exact⟨fun a x b=>by rw[<-h1 x b];exact a x b,fun a x b=>by rw[h1 x b];exact a x b⟩
 simp only[bR,h2]
def tE{σ σ':St}(hs:fx o.op=true)(h:∀x∈o.op.operands,bp σ x=bp σ' x):execOp (bp σ) o=execOp (bp σ') o:=
 execOp_congr o (fun cs b e=>by rw[e]at hs;simp[fx]at hs) h
section
variable {P:Program} {ol:Zq}
variable{o:Oper}{sv:SV}{d:Option Nat}
def nJ{σ:St}(h:∀e,d=some e->e∉looks ol o):∀x∈o.op.operands,ev (σ.put d sv) x=ev σ x:=
 fun x a=>PU fun e b=>J1 (h e b) x a
variable{cs:Zo}
def xJ{σ:St}{d:Nat}{T:TypeId}(h:d∉looks ol o):∀x∈o.op.operands,ev (σ.newBox d T cs) x=dl d (ev σ x):=
 fun x a=>PS (J1 h x a)
def Hp(σ:St)(d:Option Nat)(sv:SV):(σ.put d sv).bx=σ.bx:=by cases d<;>rfl
def Bl{op:Op}(h:fm op=.val):fx op=true:=by cases op<;>first|rfl|cases h
def uT{fr:iE}{σ:St}{H:PH}{sv':SV}(h:∀e,d=some e->e∉looks ol o):XV P ol fr (σ.put d sv') H o sv<->XV P ol fr σ H o sv:=by
 have f:bR (σ.put d sv') o.op=bR σ o.op:=tQ fun x a=>by rw[nJ h x a]
 have b:fx o.op=true->execOp (bp (σ.put d sv')) o=execOp (bp σ) o:=fun c=>tE c fun x a=>by simp only[bp,nJ h x a]
 unfold XV xt;rw[q8 h,Hp,KX (nJ h),f];constructor
 .rintro(h1|⟨h1,h2,h3⟩)
  .exact .inl h1
  .rw[b (Bl h2)]at h3;exact .inr ⟨h1,h2,h3⟩
 .rintro(h1|⟨h1,h2,h3⟩)
  .exact .inl h1
  .refine .inr ⟨h1,h2,?_⟩;rw[b (Bl h2)];exact h3
def Dd{fr:iE}{σ:St}{H H2:PH}(h:XV P ol fr σ H o sv)(d:fr.h=true->H.le H2)(g:fr.j=true->fr.J.le H->fr.J.le H2):XV P ol fr σ H2 o sv:=by
 rcases h with h|⟨h1,h2,h3⟩
 .exact .inl h
 .refine .inr ⟨h1,h2,h3.imp id ?_⟩;rintro(⟨a,v,b,c,e⟩|⟨a,l,x⟩)
  .exact .inl ⟨a,v,b,c,fun w f=>e w (f.of_le (d a))⟩
  .exact .inr ⟨a,g a l,x⟩
def NT{fr:iE}{σ:St}{H:PH}{d:Nat}{T:TypeId}(hd:d∉looks ol o)(h:XV P ol fr (σ.newBox d T cs) H o sv):
  ∃f,XV P ol fr σ H o f/\sv=dl d f:=by
 rcases h with ⟨h1,rfl⟩|⟨h1,h2,h3⟩
 .exact⟨.v undef,.inl ⟨(uv hd).1 h1,rfl⟩,rfl⟩
 .have g:=(uv hd).1 h1;rcases h3 with ⟨φ,hp,m⟩|⟨a,v,rfl,c,e⟩|⟨a,n,v,rfl,c,e⟩
  .rw[KX (ρ':=fun x=>dl d (ev σ x)) (xJ hd)]at hp;obtain⟨f,h4,h5⟩:=Wl hp;exact⟨f,.inr ⟨g,h2,.inl ⟨φ,h4,m⟩⟩,h5⟩
  .have hv:∀x∈o.op.operands,ev σ x=ev (σ.newBox d T cs) x:=by
    intro x b;have i:=c;simp only[bR,cZ,sZ]at i;have:=i.2 x (by simpa using b);rw[xJ hd x b]at this |-;cases hs:ev σ x with
    |v y=>rfl
    |u=>rw[hs]at this;cases this
    |p k off=>rw[hs]at this;simp only[dl]at this;split at this<;>cases this
   have j:bR σ o.op=bR (σ.newBox d T cs) o.op:=tQ fun x b=>by rw[hv x b]
   have l:execOp (bp σ) o=execOp (bp (σ.newBox d T cs)) o:=tE (Bl h2) fun x b=>by simp only[bp,hv x b]
   exact⟨.v v,.inr ⟨g,h2,.inr (.inl ⟨a,v,rfl,j.trans c,by rw[l];exact e⟩)⟩,rfl⟩
  .have hv:∀x∈o.op.operands,ev σ x=ev (σ.newBox d T cs) x:=by
    intro x b;have i:=c;simp only[bR,cZ,sZ]at i;have:=i.2 x (by simpa using b);rw[xJ hd x b]at this |-;cases hs:ev σ x with
    |v y=>rfl
    |u=>rw[hs]at this;cases this
    |p k off=>rw[hs]at this;simp only[dl]at this;split at this<;>cases this
   have j:bR σ o.op=bR (σ.newBox d T cs) o.op:=tQ fun x b=>by rw[hv x b]
   have l:execOp (bp σ) o=execOp (bp (σ.newBox d T cs)) o:=tE (Bl h2) fun x b=>by simp only[bp,hv x b]
   exact⟨.v v,.inr ⟨g,h2,.inr (.inr ⟨a,n,v,rfl,j.trans c,by rw[l];exact e⟩)⟩,rfl⟩
def zP{σ:St}(h:∀e,d=some e->e∉looks ol o):j0 P (ev (σ.put d sv)) o.op=j0 P (ev σ) o.op:=by
 have:=nJ (σ:=σ) (sv:=sv) h;cases a:o.op<;>simp only[j0]
 rename_i T x;rw[this x (by simp[a,Op.operands])]
def GX{σ:St}{d:Nat}{T:TypeId}{r:TypeId×Zo}(h:d∉looks ol o):j0 P (ev (σ.newBox d T cs)) o.op=some r<->j0 P (ev σ) o.op=some r:=by
 have:=xJ (σ:=σ) (T:=T) (cs:=cs) h;cases a:o.op<;>simp only[j0]
 rename_i T' x;rw[this x (by simp[a,Op.operands])];cases hs:ev σ x with
 |v y=>rfl
 |u=>rfl
 |p k off=>by_cases e:k=d<;>simp[dl,e]
def ug(ol:Zq)(fr:iE)(a str:mF)(x y:Oper):Bool:=
 qt ol x y && match fm x.op,fm y.op with
  | .alc,.alc | .alc,.val | .val,.val=>true
  | .alc,.gen=>true
  | .val,.gen=>(!fr.h || str.h) && (!fr.j || str.j)
  | .val,.st=>(str.k && (yd x.op || fr.k)) || (yd x.op && !fr.h && !fr.j)
  | .val,.nw | .alc,.nw=>true
  | .gen,.nw=>!a.j && y.guard.isNone
  |_,_=>false
def Bk{σ:St}{op:Op}(h:bR σ op=true):fx op=true:=by simp only[bR,cZ]at h;exact h.1
def C6{fr:iE}{str:mF}{K:St->PH->Prop}{σ:St}{H:PH}(h:jF P ol fr str o K σ H):
  (∃sv,XV P ol fr σ H o sv/\K (σ.put o.dst sv) H)\/
  (bH ol σ o=some true/\fm o.op=.alc/\∃d T cs,o.dst=some d/\j0 P (ev σ) o.op=some (T,cs)/\K (σ.newBox d T cs) H)\/
  (bH ol σ o=some true/\fm o.op=.gen/\bR σ o.op=true/\eJ P (execOp (bp σ) o) H fun sv H2=>((str.h=true->H.le H2)/\(str.j=true->fr.J.le H->fr.J.le H2))/\K (σ.put o.dst sv) H2)\/
  (bH ol σ o=some true/\fm o.op=.st/\((∃k off cs,np P σ.bx (ev σ) o.op=some (k,off,cs)/\(str.k=true->gJ fr.kp k=false)/\K ((σ.store k off cs).put o.dst .u) H)\/(str.k=false/\bR σ o.op=true/\eJ P (execOp (bp σ) o) H fun sv H2=>K (σ.put o.dst sv) H2)))\/
  (bH ol σ o=some true/\fm o.op=.nw/\∀b,H b=none->K (σ.put o.dst (.v (.map (some b)))) (H.put b (.map #[] 0))):=by
 rcases h with ⟨a,h⟩|⟨a,h⟩
 .exact .inl ⟨.v undef,.inl ⟨a,rfl⟩,h⟩
 .cases c:fm o.op<;>rw[c]at h<;>simp only at h
  .obtain⟨sv,hv,e⟩:=h;exact .inl ⟨sv,.inr ⟨a,c,hv⟩,e⟩
  .exact .inr (.inl ⟨a,rfl,h⟩)
  .exact .inr (.inr (.inr (.inl ⟨a,rfl,h⟩)))
  .exact .inr (.inr (.inl ⟨a,rfl,h⟩))
  .exact .inr (.inr (.inr (.inr ⟨a,rfl,h⟩)))
def C9{fr:iE}{str:mF}{K:St->PH->Prop}{σ:St}{H:PH}(a:bH ol σ o=some true)(c:fm o.op=.nw)
  (h:∀b,H b=none->K (σ.put o.dst (.v (.map (some b)))) (H.put b (.map #[] 0))):jF P ol fr str o K σ H:=.inr ⟨a,by rw[c];exact h⟩
def rO{fr:iE}{str:mF}{K:St->PH->Prop}{σ:St}{H:PH}(h:XV P ol fr σ H o sv)(b:K (σ.put o.dst sv) H):jF P ol fr str o K σ H:=by
 rcases h with ⟨a,rfl⟩|⟨a,c,hv⟩
 .exact .inl ⟨a,b⟩
 .exact .inr ⟨a,by rw[c];exact⟨sv,hv,b⟩⟩
def uS{fr:iE}{str:mF}{K:St->PH->Prop}{σ:St}{H:PH}{d:Nat}{T:TypeId}(a:bH ol σ o=some true)(c:fm o.op=.alc)(hd:o.dst=some d)
  (ha:j0 P (ev σ) o.op=some (T,cs)) (b:K (σ.newBox d T cs) H):jF P ol fr str o K σ H:=.inr ⟨a,by rw[c];exact⟨d,T,cs,hd,ha,b⟩⟩
def Xs{bx:List cM}{ρ ρ':Operand->SV}{op:Op}(h:∀x∈op.operands,ρ x=ρ' x):np P bx ρ op=np P bx ρ' op:=by
 cases op<;>simp only[np]<;>simp only[Op.operands]at h
 simp_all
variable{off:Nat}
def NU{fr:iE}{σ:St}{H:PH}{k:Nat}(c:yd o.op=true\/fr.k=true)(hm:gJ fr.kp k=false)(h:XV P ol fr σ H o sv):XV P ol fr (σ.store k off cs) H o sv:=by
 rcases h with h|⟨h1,h2,h3⟩
 .exact .inl h
 .refine .inr ⟨h1,h2,?_⟩;rcases h3 with ⟨φ,a,b⟩|h3
  .refine .inl ⟨φ,?_,b⟩;rcases c with c|c
   .rw[KY (bx':=kb fr.k fr.kp σ.bx) c];exact a
   .rw[c]at a |-;show pv P (l6 fr.kp (kW σ.bx k off cs)) _ _=_;rw[JD hm];exact a
  .exact .inr h3
def NV{fr:iE}{σ:St}{H:PH}{k:Nat}(c:yd o.op=true)(h:XV P ol fr σ H o sv):XV P ol fr (σ.store k off cs) H o sv:=by
 rcases h with h|⟨h1,h2,h3⟩
 .exact .inl h
 .refine .inr ⟨h1,h2,?_⟩;rcases h3 with ⟨φ,a,b⟩|h3
  .refine .inl ⟨φ,?_,b⟩;rw[KY (bx':=kb fr.k fr.kp σ.bx) c];exact a
  .exact .inr h3
def HJ{l:Zp}{d:Nat}(h:(!l.contains d)=true):d∉l:=by simpa using h
theorem swap{frx fry:iE}{strx stry:mF}(hJ:frx.J=fry.J)(hK:frx.kp=fry.kp){x y:Oper}{K:St->PH->Prop}{σ:St}{H:PH}(hs:eX σ.bx)(ok:ug ol frx strx stry x y=true)
  (h:jF P ol frx strx x (jF P ol fry stry y K) σ H):jF P ol fry stry y (jF P ol frx strx x K) σ H:=by
 simp only[ug,cZ]at ok;obtain⟨U,a⟩:=ok;simp only[qt,cZ]at U;obtain⟨I,X⟩:=U;have F:∀e,x.dst=some e->e∉looks ol y:=fun e n=>by rw[n]at I;simp only[cZ]at I;exact HJ I.1
 have q:∀e,x.dst=some e->y.dst≠some e:=fun e n h2=>by rw[n]at I;simp[h2]at I
 have w:∀e,y.dst=some e->e∉looks ol x:=fun e n=>by rw[n]at X;simp only[cZ]at X;exact HJ X.1
 have dyx:∀e,y.dst=some e->x.dst≠some e:=fun e n h2=>q e h2 n;rcases C6 h with ⟨r,N,h⟩|⟨l,i,d,T,cs,hd,A,h⟩|⟨l,i,S,aa⟩|⟨l,i,_⟩|⟨l,i,_⟩
 ·
  rcases C6 h with ⟨svy,R,h⟩|⟨g,f,e,T,cs,n,A,h⟩|⟨g,f,m,t⟩|⟨g,f,aq⟩|⟨g,f,V⟩
  .exact rO ((uT F).1 R) (rO ((uT w).2 N) (by rw[<-we _ _ _ _ _ q];exact h))
  .rcases N with ⟨l,rfl⟩|⟨l,i,_⟩
   .rw[q8 F]at g;rw[zP F]at A;refine uS g f n A (rO (sv:=.v undef) (.inl ⟨(uv (w e n)).2 l,rfl⟩) ?_);rw[Bi _ _ _ _ _ _ (dyx e n)]at h;exact h
   .rw[i,f]at a;cases a
  .rw[q8 F]at g;have Q:bR (σ.put x.dst r) y.op=bR σ y.op:=tQ fun z s=>by rw[nJ F z s]
   have n:execOp (bp (σ.put x.dst r)) y=execOp (bp σ) y:=tE (Bk m) fun z s=>by simp only[bp,nJ F z s]
   rw[Q]at m;rw[n]at t;refine .inr ⟨g,by
    rw[f];refine⟨m,t.mono' fun sv H2 _ L=>⟨L.1,?_⟩⟩;have G:XV P ol frx σ H2 x r:=by
     rcases N with N|⟨l,i,hv⟩
     .exact .inl N
     .rw[i,f]at a;simp only[cZ,sY,sX]at a;refine Dd (.inr ⟨l,i,hv⟩) (fun hf=>L.1.1 ?_) fun hf=>?_
      .rcases a.1 with h1|h1
       .rw[hf]at h1;cases h1
       .exact h1
      .rw[hJ];refine L.1.2 ?_;rcases a.2 with h1|h1
       .rw[hf]at h1;cases h1
       .exact h1
    exact rO ((uT w).2 G) (by rw[<-we _ _ _ _ _ q];exact L.2)⟩
  .rw[f]at a;cases C:fm x.op<;>rw[C]at a<;>first|(exact Bool.noConfusion a)|skip
   simp only[cZ,sY,sX]at a;rw[q8 F]at g;rcases aq with ⟨k,off,cs,ha,hm,Q⟩|⟨aS,m,t⟩
   .rw[Hp,Xs (nJ F)]at ha;have G:XV P ol frx (σ.store k off cs) H x r:=by
     rcases a with ⟨h1,h2⟩|⟨⟨h1,_⟩,_⟩
     .exact NU h2 (by rw[hK];exact hm h1) N
     .exact NV h1 N
    refine .inr ⟨g,by
     rw[f];refine .inl ⟨k,off,cs,ha,hm,rO ((uT w).2 G) ?_⟩;rw[<-we _ _ _ _ _ q];have:(σ.store k off cs).put x.dst r=(σ.put x.dst r).store k off cs:=by cases x.dst<;>rfl
     rw[this];exact Q⟩
   .have hn:frx.h=false/\frx.j=false:=by
     rcases a with ⟨h1,_⟩|⟨⟨_,h1⟩,h2⟩
     .rw[aS]at h1;cases h1
     .exact⟨h1,h2⟩
    have Q:bR (σ.put x.dst r) y.op=bR σ y.op:=tQ fun z s=>by rw[nJ F z s]
    have n:execOp (bp (σ.put x.dst r)) y=execOp (bp σ) y:=tE (Bk m) fun z s=>by simp only[bp,nJ F z s]
    rw[Q]at m;rw[n]at t;refine .inr ⟨g,by
     rw[f];refine .inr ⟨aS,m,t.mono' fun sv H2 _ L=>?_⟩;have G:XV P ol frx σ H2 x r:=Dd N (fun hf=>by rw[hn.1]at hf;cases hf) fun hf=>by rw[hn.2]at hf;cases hf
     exact rO ((uT w).2 G) (by rw[<-we _ _ _ _ _ q];exact L)⟩
  .rw[q8 F]at g;refine C9 g f fun b hb=>?_;have a0:=PH.le_put (o:=.map #[] 0) hb;exact rO ((uT w).2 (Dd N (fun _=>a0) fun _ hj=>D hj a0)) (by rw[<-we _ _ _ _ _ q];exact V b hb)
 ·
  have B:=F d hd;rcases C6 h with ⟨svy,R,h⟩|⟨g,f,e,T',cs',n,am,h⟩|⟨g,f,m,t⟩|⟨g,f,aq⟩|⟨g,f,V⟩
  .obtain⟨sv',a1,rfl⟩:=NT B R;refine rO a1 (uS (by rw[q8 w];exact l) i hd (by rw[zP w];exact A) ?_);rw[Bi _ _ _ _ _ _ (q d hd)];exact h
  .have a2:d≠e:=fun x2=>q d hd (by rw[x2];exact n);refine uS ((uv B).1 g) f n ((GX B).1 am) (uS ((uv (w e n)).2 l) i hd ((GX (w e n)).2 A) ?_);rw[<-Vi _ _ _ _ _ _ _ a2 hs];exact h
  .have hv:∀z∈y.op.operands,ev (σ.newBox d T cs) z=ev σ z:=by
    intro z s;have C:=m;simp only[bR,cZ,sZ]at C;have:=C.2 z (by simpa using s);rw[xJ B z s]at this |-;cases ap:ev σ z with
    |v y=>rfl
    |u=>rw[ap]at this;cases this
    |p k off=>rw[ap]at this;simp only[dl]at this;split at this<;>cases this
   have Q:bR (σ.newBox d T cs) y.op=bR σ y.op:=tQ fun z s=>by rw[hv z s]
   have n:execOp (bp (σ.newBox d T cs)) y=execOp (bp σ) y:=tE (Bk m) fun z s=>by simp only[bp,hv z s]
   rw[Q]at m;rw[n]at t;refine .inr ⟨(uv B).1 g,by rw[f];refine⟨m,t.mono' fun sv H2 ac L=>⟨L.1,?_⟩⟩;refine uS (by rw[q8 w];exact l) i hd (by rw[zP w];exact A) ?_;rw[Bi _ _ _ _ _ _ (q d hd),ac];exact L.2⟩
  .rw[i,f]at a;cases a
  .refine C9 ((uv B).1 g) f fun b hb=>?_;refine uS (by rw[q8 w];exact l) i hd (by rw[zP w];exact A) ?_;rw[Bi _ _ _ _ _ _ (q d hd)];exact V b hb
 ·
  rw[i]at a;cases f:fm y.op<;>rw[f]at a<;>first|(exact Bool.noConfusion a)|skip
  simp only[cZ,sX,Option.isNone_iff_eq_none]at a;have an:∀σ',bH ol σ' y=some true:=fun σ'=>by simp[bH,a.2]
  refine C9 (an _) f fun b hb=>?_;have Q:bR (σ.put y.dst (.v (.map (some b)))) x.op=bR σ x.op:=tQ fun z s=>by rw[nJ w z s]
  have n:execOp (bp (σ.put y.dst (.v (.map (some b))))) x=execOp (bp σ) x:=tE (Bk S) fun z s=>by simp only[bp,nJ w z s]
  refine .inr ⟨by rw[q8 w];exact l,by
   rw[i];refine⟨by rw[Q];exact S,?_⟩;rw[n];refine(aa.beside (o:=.map #[] 0) hb).mono ?_;rintro sv H2'⟨H2,rfl,h2b,W,R⟩;refine⟨⟨fun hf=>?_,fun hf=>?_⟩,?_⟩
   .have:=W.1 hf;intro c o C;by_cases e:c=b
    .subst e;simp only[PH.put,cu]at C |-;exact C
    .simp only[PH.put,ab e]at C |-;exact this c o C
   .rw[a.1]at hf;cases hf
   .rcases R with ⟨Z,_⟩|⟨_,R⟩
    .rw[an]at Z;cases Z
    .rw[f]at R;have:=R b h2b;rw[we _ _ _ _ _ dyx];exact this⟩
 .rw[i]at a;cases C:fm y.op<;>rw[C]at a<;>cases a
 .rw[i]at a;cases C:fm y.op<;>rw[C]at a<;>cases a
end
open Go
def j4(o:Oper):Zp:=(o.after.toList.filter (Region.binds .any)).map (·.on)
def kC(ol:Zq):List (Zp):=
 ol.foldl (fun a o=>a++[(j4 o++(j4 o).flatMap (fun d=>a.getD d [])).eraseDups]) []
def vR(ol:Zq)(a:List (Zp)):Bool:=
 (List.range ol.length).all fun y=>match ol[y]? with
  | some o=>(j4 o).all (fun z=>decide (z<y)) && (a.getD y []).all fun x=>(j4 o).contains x || (j4 o).any fun z=>(a.getD z []).contains x
  |none=>true
def fR(ol:Zq)(a:List (Zp))(fr:cw)(str:cC):Zp->Bool
 | []=>true
 | x::l=>decide (x<ol.length) && !l.contains x && l.all (fun y=>(a.getD y []).contains x || match ol[x]?,ol[y]? with
   |some ox,some oy=>ug ol (fr.at' x) (str.at' x) (str.at' y) ox oy
   |_,_=>false) && fR ol a fr str l
def qD(ol:Zq)(κ:Zp)(fr:cw)(str:cC):Bool:=
 vR ol (kC ol) && (List.range ol.length).all (κ.contains ·) && fR ol (kC ol) fr str κ
section
variable {P:Program} {ol:Zq} {fr:cw} {str:cC} {K:St->PH->Prop}
def xq{f:iE}{s:mF}{o:Oper}{K K':St->PH->Prop}{σ:St}{H:PH}(k:∀σ' H',eX σ'.bx->K σ' H'->K' σ' H')(hs:eX σ.bx)(h:jF P ol f s o K σ H):jF P ol f s o K' σ H:=by
 rcases h with ⟨e,h⟩|⟨e,h⟩
 .exact .inl ⟨e,k _ _ (hs.put _ _) h⟩
 .refine .inr ⟨e,?_⟩;cases j:fm o.op<;>rw[j]at h<;>simp only at h |-
  .obtain⟨sv,hv,a⟩:=h;exact⟨sv,hv,k _ _ (hs.put _ _) a⟩
  .obtain⟨d,T,cs,hd,ha,a⟩:=h;exact⟨d,T,cs,hd,ha,k _ _ (hs.newBox _ _ _) a⟩
  .rcases h with ⟨x,off,cs,ha,hm,a⟩|⟨i,a,g⟩
   .exact .inl ⟨x,off,cs,ha,hm,k _ _ ((hs.store _ _ _).put _ _) a⟩
   .exact .inr ⟨i,a,g.mono fun sv H2 c=>k _ _ (hs.put _ _) c⟩
  .exact⟨h.1,h.2.mono fun sv H2 c=>⟨c.1,k _ _ (hs.put _ _) c.2⟩⟩
  .exact fun b hb=>k _ _ (hs.put _ _) (h b hb)
def zN{K K':St->PH->Prop}(k:∀σ' H',eX σ'.bx->K σ' H'->K' σ' H'):∀(l:Zp) {σ:St} {H:PH},eX σ.bx->VD P ol fr str K l σ H->VD P ol fr str K' l σ H
 | [],σ,H,hs,h=>k _ _ hs h
 |i::l,σ,H,hs,h=>by
  simp only[VD]at h |-;cases b:ol[i]? with
  |none=>rw[b]at h;exact zN k l hs h
  |some o=>rw[b]at h;exact xq (fun σ' H' a c=>zN k l a c) hs h
def Ac{i:Nat}{oi:Oper}(hi:ol[i]?=some oi):∀(b a:Zp) {σ:St} {H:PH},eX σ.bx->(∀x∈b,∃ox,ol[x]?=some ox/\ug ol (fr.at' x) (str.at' x) (str.at' i) ox oi=true)->
  VD P ol fr str K (b++i::a) σ H->VD P ol fr str K (i::(b++a)) σ H
 | [],a,σ,H,hs,_,h=>h
 |x::b,a,σ,H,hs,c,h=>by obtain⟨ox,g,e⟩:=c x (.head _);simp only[aU,VD,g,hi]at h |-;refine swap (frx:=fr.at' x) (fry:=fr.at' i) rfl rfl hs e ?_;refine xq (fun σ' H' d j=>?_) hs h;have:=Ac hi b a d (fun y f=>c y (.tail _ f)) j;simpa only[VD,hi]using this
def yt{cl:List (Zp)}:∀{l1 l2:Zp} {i:Nat},fR ol cl fr str (l1++i::l2)=true->
  (∀x∈l1,x∈cl.getD i []\/∃ox oy,ol[x]?=some ox/\ol[i]?=some oy/\ug ol (fr.at' x) (str.at' x) (str.at' i) ox oy=true)/\fR ol cl fr str (l1++l2)=true/\i∉l1++l2
 | [],l2,i,h=>by simp only[aQ,fR,cZ]at h;exact⟨fun x g=>(dJ g).elim,h.2,by simpa using h.1.1.2⟩
 |x::l1,l2,i,h=>by
  simp only[aU,fR,cZ]at h;obtain⟨⟨⟨h1,h2⟩,h3⟩,h4⟩:=h;obtain⟨a,b,c⟩:=yt h4;have e:=List.all_eq_true.1 h3;have f:x∉l1++i::l2:=by simpa using h2
  refine⟨fun y d=>?_,?_,?_⟩
  .rcases List.mem_cons.1 d with rfl|d
   .have:=e i (gD _ (.head _));simp only[sY]at this;rcases this with h|h
    .exact .inl (by simpa using h)
    .right
     split at h
     .rename_i ox oy e1 e2;exact⟨ox,oy,e1,e2,h⟩
     .cases h
   .exact a y d
  .simp only[aU,fR,cZ];refine⟨⟨⟨h1,?_⟩,?_⟩,b⟩
   .have:x∉l1++l2:=fun hm=>f (by
     rcases List.mem_append.1 hm with h|h
     .exact gm _ h
     .exact gD _ (.tail _ h))
    simpa using this
   .refine List.all_eq_true.2 fun y d=>e y ?_;rcases List.mem_append.1 d with h|h
    .exact gm _ h
    .exact gD _ (.tail _ h)
  .intro hm;rcases List.mem_cons.1 hm with rfl|hm
   .exact f (gD _ (.head _))
   .exact c hm
def Do{cl:List (Zp)}(b:vR ol cl=true){L:Nat->Prop}(closed:∀y o,ol[y]?=some o->L y->∀z∈j4 o,L z):
  ∀(n y:Nat),y<n->∀o,ol[y]?=some o->(∀z∈j4 o,L z)->∀x∈cl.getD y [],L x
 |0,y,h=>by omega
 |n+1,y,h=>by
  intro o f hd x j;have i:y<ol.length:=by
   rcases aK y ol.length with h|h
   .exact h
   .rw[fp h]at f;cases f
  have h1:=List.all_eq_true.1 b y (List.mem_range.2 i);simp only[f,cZ]at h1;have h2:=List.all_eq_true.1 h1.2 x j;simp only[sY]at h2;rcases h2 with h2|h2
  .exact hd x (by simpa using h2)
  .obtain⟨z,g,e⟩:=List.any_eq_true.1 h2;have c:=List.all_eq_true.1 h1.1 z g;simp only[dE]at c;have d:z<ol.length:=O;have a:ol[z]?=some ol[z]:=aY d;exact Do b closed n z O _ a (closed z _ a (hd z g)) x (by simpa using e)
variable{ops:Array Oper}{w0:World}
def Hf{n0:Nat}{H0:PH}(hn:n0=w0.heap.size)(W:ops.toList=ol){cl:List (Zp)}(I:vR ol cl=true):
  ∀(e9:Nat) (κ:Zp) (listed:Array Bool) {σ:St} {H:PH} {a:Act} {w:World},κ.length<=e9->listed.size=ops.size->fR ol cl fr str κ=true->
   (∀i,i∈κ<->i<ops.size/\listed.getD i true=false)->
   (∀y o,ol[y]?=some o->listed.getD y false=true->∀z∈j4 o,listed.getD z false=true)->
   eX σ.bx->VD P ol fr str K κ σ H->cP H0 w0 H w->G n0 σ H a w->wpAny P .any ops (QK n0 H0 w0 K) e9 listed a w:=by
 subst W;have c:∀(listed:Array Bool) (i:Nat),i∈Region.ready .any ops listed<->i<ops.size/\listed.getD i true=false/\∃o,ops[i]?=some o/\∀z∈j4 o,listed.getD z false=true:=by
  intro listed i;simp only[Region.ready,kw,List.mem_range,cZ,sX];constructor
  .rintro⟨h1,h2,h3⟩;refine⟨h1,h2,?_⟩;cases v:ops[i]? with
   |none=>rw[v]at h3;cases h3
   |some o=>rw[v]at h3;simp only[df,rh]at h3;refine⟨o,rfl,fun z B=>?_⟩;simp only[j4,my,kw]at B;obtain⟨e,⟨he,hb⟩,rfl⟩:=B;have:=Array.all_eq_true'.1 h3 e (by simpa using he);simpa[hb]using this
  .rintro⟨h1,h2,o,v,h3⟩;refine⟨h1,h2,?_⟩;rw[v];simp only[df,rh];refine Array.all_eq_true'.2 fun e he=>?_;cases hb:Region.binds .any e with
   |false=>rfl
   |true=>have:=h3 e.on (by simp only[j4,my,kw];exact⟨e,⟨by simpa using he,hb⟩,rfl⟩);simpa using this
 have J:ops.size=ops.toList.length:=(ot).symm;have t:∀i:Nat,ops[i]?=ops.toList[i]?:=fun i=>by simp
 have m:∀(κ:Zp) (listed:Array Bool),(∀i,i∈κ<->i<ops.size/\listed.getD i true=false)->listed.size=ops.size->Region.ready .any ops listed=[]->κ=[]:=by
  intro κ listed hm u hr;have key:∀n i,i<n->i<ops.size->listed.getD i true=true:=by
   intro n
   induction n with
   |zero=>intro i h;omega
   |succ n S=>
    intro i hi F;cases C:listed.getD i true with
    |true=>rfl
    |false=>
     exfalso;have r:ops[i]?=some ops[i]:=sW F;have:i∈Region.ready .any ops listed:=(c listed i).2 ⟨F,C,ops[i],r,fun z B=>by have h1:=List.all_eq_true.1 I i (List.mem_range.2 O);rw[<-t i,r]at h1;simp only[cZ]at h1;have T:=List.all_eq_true.1 h1.1 z B;simp only[dE]at T;have:=S z O O;rw[jy]at this |-;rw[sW O]at this |-;simpa using this⟩
     rw[hr]at this;cases this
  cases κ with
  |nil=>rfl
  |cons i l=>exfalso;have:=(hm i).1 (.head _);rw[key (i+1) i O this.1]at this;exact Bool.noConfusion this.2
 intro e9
 induction e9 with
 |zero=>
  intro κ listed σ H a w A u hp hm hc hs h st g;have:κ=[]:=List.length_eq_zero_iff.1 O;subst this;refine⟨?_,σ,H,h,st,g⟩;cases hr:Region.ready .any ops listed with
  |nil=>rfl
  |cons i l=>have hi:=(c listed i).1 (by rw[hr];exact .head _);exact absurd ((hm i).2 ⟨hi.1,hi.2.1⟩) dJ
 |succ e9 S=>
  intro κ listed σ H a w A u hp hm hc hs h st g;refine⟨fun hr=>?_,fun i hi=>?_⟩
  .have:=m κ listed hm u hr;subst this;exact⟨σ,H,h,st,g⟩
  .obtain⟨h1,h2,oi,r,s⟩:=(c listed i).1 hi;have aa:i∈κ:=(hm i).2 ⟨h1,h2⟩;obtain⟨R,Q,rfl⟩:=List.append_of_mem aa;obtain⟨pa,pb,pc⟩:=yt hp;have f:ops.toList[i]?=some oi:=by rw[<-t];exact r
   have hb:=Ac (K:=K) (P:=P) f R Q hs (fun x hx=>by
    rcases pa x hx with U|⟨ox,oy,e1,e2,e3⟩
    .exfalso;have:=Do I (L:=fun x=>listed.getD x false=true) hc (i+1) i O oi f s x U;have q:=((hm x).1 (gm _ hx)).2;rw[jy]at this q;cases hg:listed[x]? with
     |none=>rw[hg]at this;cases this
     |some b=>rw[hg]at this q;simp only[rh]at this q;rw[this]at q;cases q
    .rw[f]at e2;cases e2;exact⟨ox,e1,e3⟩) h
   simp only[VD,f]at hb;have hv:=(xq (K':=fun σ' H'=>eX σ'.bx/\VD P ops.toList fr str K (R++Q) σ' H') (fun σ' H' V h'=>⟨V,h'⟩) hs hb).toV;refine zO r hn (fun σ' H' a' w' hk N g'=>?_) hv st g;have k:∀(j:Nat) (d:Bool),(listed.setIfInBounds i true).getD j d=if i=j then (if i<listed.size then true else d)else listed.getD j d:=by
    intro j d;rw[jy,CH];by_cases e:i=j
    .subst e;by_cases C:i<listed.size<;>simp[C]
    .simp[e,jy]
   refine S (R++Q) _ (by simp at A |-;omega) (by simp[u]) pb (fun j=>?_) (fun y o v C z B=>?_) hk.1 hk.2 N g'
   .rw[k];by_cases e:i=j
    .subst e;simp only[cu,ah (show i<listed.size by omega)];exact⟨fun X=>absurd X pc,fun hh=>by cases hh.2⟩
    .simp only[ab e];rw[<-hm j];constructor
     .intro p;rcases List.mem_append.1 p with p|p
      .exact gm _ p
      .exact gD _ (.tail _ p)
     .intro p;rcases List.mem_append.1 p with p|p
      .exact gm _ p
      .rcases List.mem_cons.1 p with rfl|p
       .exact absurd rfl e
       .exact gD _ p
   .rw[k]at C |-;have Z:i<listed.size:=O;by_cases ez:i=z
    .subst ez;simp[Z]
    .simp only[ab ez];by_cases ey:i=y
     .subst ey;rw[f]at v;cases v;exact s z B
     .simp only[ab ey]at C;exact hc y o v C z B
def Bn:∀(n:Nat) (l:Zp),l.Nodup->(∀i∈l,i<n)->l.length<=n
 |0,l,_,h=>by cases l with|nil=>simp|cons x l=>exact absurd (h x (.head _)) O
 |n+1,l,a,h=>by
  have h1:=Bn n (l.erase n) (a.erase n) fun i hi=>by have:=(a.mem_erase_iff).1 hi;have:=h i this.2;omega
  by_cases hm:n∈l
  .rw[List.length_erase_of_mem hm]at h1;omega
  .rw[List.erase_of_not_mem hm]at h1;omega
def Pu{n0:Nat}{H0:PH}(f:n0=w0.heap.size)(hm:P.follows .mixedOrders=true){id:Nat}{κ:Zp}(b:qD ops.toList κ fr str=true){σ:St}{H:PH}{a:Act}{w:World}
  (hs:eX σ.bx) (h:VD P ops.toList fr str K κ σ H) (st:cP H0 w0 H w) (g:G n0 σ H a w):(Code.region id ops true).wp P (QK n0 H0 w0 K) a w:=by
 simp only[qD,cZ]at b;obtain⟨⟨h1,h2⟩,h3⟩:=b;have mem:∀(l:Zp),fR ops.toList (kC ops.toList) fr str l=true->∀i∈l,i<ops.size:=by
  intro l
  induction l with
  |nil=>intro _ i hi;cases hi
  |cons x l d=>
   intro hp i hi;simp only[fR,cZ,dE]at hp;rcases List.mem_cons.1 hi with rfl|hi
   .simpa using hp.1.1.1
   .exact d hp.2 i hi
 have len:∀(l:Zp),fR ops.toList (kC ops.toList) fr str l=true->l.Nodup:=by
  intro l
  induction l with
  |nil=>intro _;exact List.nodup_nil
  |cons x l d=>intro hp;simp only[fR,cZ]at hp;exact List.nodup_cons.2 ⟨by simpa using hp.1.1.2,d hp.2⟩
 have c:κ.length<=ops.size:=by exact Bn _ _ (len κ h3) (mem κ h3)
 refine wp_region_any hm (Hf f rfl h1 ops.size κ _ c ao h3 (fun i=>?_) (fun y o j e=>?_) hs h (w:={ w with drawn:=w.drawn+1 }) ?_ ?_)
 .constructor
  .intro hi;have:=mem κ h3 i hi;exact⟨this,by simp[jy,this]⟩
  .rintro⟨hi,_⟩;have:=List.all_eq_true.1 h2 i (List.mem_range.2 (by simpa using hi));simpa using this
 .exfalso;rw[jy,Array.getElem?_replicate]at e;split at e<;>cases e
 .exact⟨st.sub,st.size,st.priv,st.dom,st.os,st.tape,st.out⟩
 .obtain⟨β,g⟩:=g;exact⟨β,g.defers,g.size,g.tm,g.bx,g.inj,g.lo,g.keys⟩
end
open Go
structure Cx where
 P:Program
 f:FuncId
 fn:Func
 hf:P.funcs[f]?=some fn
 H0:PH
 w0:World
 post:Value->PH->Prop
def Gx(C:Cx)(e:Ending)(w:World):Prop:=
 match e with
 | .returned v=>∃H2,cP C.H0 C.w0 H2 w/\C.post v H2
 |_=>False
def jH(f:FuncId):Frame:={ (default:Frame)with fn:=f,kind:=.normal }
def R(C:Cx)(k:List Item)(σ:St)(H:PH):Prop:=
 ∀w a cs,cP C.H0 C.w0 H w->G C.w0.heap.size σ H a w->
  ∃e b fr,Gx C e b/\Comes C.P (lone ((jH C.f).at a k) cs w) (lone fr cs b) e/\fr.fn=C.f/\fr.leaving C.P b e
section
variable {C:Cx} {k:List Item} {σ:St} {H:PH}
variable{k':List Item}
def pO(h:R C k' σ H)(st:∀a cs w,G C.w0.heap.size σ H a w->step C.P (lone ((jH C.f).at a k) cs w)=.next (lone ((jH C.f).at a k') cs w)):R C k σ H:=by intro w a cs s g;obtain⟨e,b,fr,h1,h2,h3,h4⟩:=h w a cs s g;exact⟨e,b,fr,h1,.of_steps (.one (st a cs w g)) h2,h3,h4⟩
def NK(h:R C k σ H):R C (.code .skip::k) σ H:=pO h fun _ _ _ _=>step_skip
def ND{l:Nat}(h:R C k σ H):R C (.code (.label l)::k) σ H:=pO h fun _ _ _ _=>step_label
variable{id:Nat}
def NB(h:R C k σ H):R C (.inBlock id::k) σ H:=pO h fun _ _ _ _=>step_inBlock
def NJ{x y:Code}(h:R C (.code x::.code y::k) σ H):R C (.code (.seq x y)::k) σ H:=pO h fun _ _ _ _=>step_seq
variable{c:Code}
def Nx(h:R C (.code c::.inBlock id::k) σ H):R C (.code (.block id c)::k) σ H:=pO h fun _ _ _ _=>step_block
def NA(a:exitTo id k=some k')(h:R C k' σ H):R C (.code (.exit id)::k) σ H:=pO h fun _ _ _ _=>step_exit a
def GO{c:Operand}{x y:Code}{t:Bool}(a:ev σ c=.v (.bool t))(h:R C (.code (if t then x else y)::k) σ H):R C (.code (.cond c x y)::k) σ H:=
 pO h fun _ _ _ g=>step_cond (by obtain⟨β,g⟩:=g;exact fo g a)
def NC(h:R C (.code c::.inLoop c::k) σ H):R C (.inLoop c::k) σ H:=pO h fun _ _ _ _=>step_inLoop
def NF(h:R C (.code c::.inLoop c::k) σ H):R C (.code (.loop c)::k) σ H:=pO h fun _ _ _ _=>step_loop
def NE(J:Nat->St->PH->Prop)(n:Nat)(h0:J n σ H)
  (h:∀n σ H,J n σ H->(∀m,m<n->∀σ' H',J m σ' H'->R C (.inLoop c::k) σ' H')->R C (.code c::.inLoop c::k) σ H):R C (.code (.loop c)::k) σ H:=by
 refine NF ?_;have key:∀n σ H,J n σ H->R C (.code c::.inLoop c::k) σ H:=by
  intro n
  induction n using Nat.strongRecOn with
  |_ n b=>exact fun σ H d=>h n σ H d fun m hm σ' H' a=>NC (b m hm σ' H' a)
 exact key n σ H h0
def zK(h:∀a w,cP C.H0 C.w0 H w->G C.w0.heap.size σ H a w->c.wp C.P (QK C.w0.heap.size C.H0 C.w0 (R C k)) a w):R C (.code c::k) σ H:=by
 intro w a cs s g;obtain⟨e,j,i,d,b⟩:=h a w s g (jH C.f) k cs;cases e with
 |normal=>obtain⟨σ',H',hr,s',g'⟩:=d;obtain⟨e,w2,fr,h1,h2,h3,h4⟩:=hr i j cs s' g';exact⟨e,w2,fr,h1,.of_steps b h2,h3,h4⟩
 |_=>exact d.elim
def V2(P:Program)(ol:Zq)(K:St->PH->Prop):Zq->St->PH->Prop
 | [],σ,H=>K σ H
 |o::l,σ,H=>rQ P ol o (V2 P ol K l) σ H
def NS{P:Program}{K:St->PH->Prop}(f:Zq):∀(rem:Zq) {σ:St} {H:PH},V2 P (f++rem) K rem σ H->V P (f++rem) K (List.range' f.length rem.length) σ H:=by
 intro rem
 suffices h:∀(ol f rem:Zq) (σ:St) (H:PH),ol=f++rem->V2 P ol K rem σ H->V P ol K (List.range' f.length rem.length) σ H from fun{σ H} hv=>h _ _ _ σ H rfl hv
 intro ol f rem
 induction rem generalizing f with
 |nil=>intro σ H _ h;exact h
 |cons o rem j=>
  intro σ H i h;simp only[bl,List.range'_succ,V];have l:ol[f.length]?=some o:=by rw[i];simp
  rw[l];simp only[V2]at h;have g:∀σ' H',V2 P ol K rem σ' H'->V P ol K (List.range' (f.length+1) rem.length) σ' H':=fun σ' H' n=>by have:=j (f++[o]) σ' H' (by rw[i];simp) n;simpa using this
  rcases h with ⟨a,b⟩|⟨a,b⟩
  .exact .inl ⟨a,g _ _ b⟩
  .refine .inr ⟨a,?_⟩;rcases b with ⟨sv,b,c⟩|⟨d,T,cs,b,c,e⟩|⟨x,off,cs,b,c⟩|⟨b,c⟩
   .exact .inl ⟨sv,b,g _ _ c⟩
   .exact .inr (.inl ⟨d,T,cs,b,c,g _ _ e⟩)
   .exact .inr (.inr (.inl ⟨x,off,cs,b,g _ _ c⟩))
   .exact .inr (.inr (.inr ⟨b,c.mono fun sv H2 m=>g _ _ m⟩))
inductive Cf where
 |st (k:List Item)
 |op (ol rem:Zq) (k:List Item)
def RC(C:Cx)(c:Cf)(σ:St)(H:PH):Prop:=
 match c with
 | .st k=>R C k σ H
 | .op ol rem k=>V2 C.P ol (R C k) rem σ H
variable{ops:Array Oper}
def NI(h:V2 C.P ops.toList (R C k) ops.toList σ H):R C (.code (.region id ops false)::k) σ H:=by
 refine zK fun a w s g=>wp_region ?_;have:=NS [] ops.toList h;rw[aQ]at this;have h2:List.range ops.size=List.range' 0 ops.toList.length:=by rw[List.range_eq_range'];simp
 rw[h2];exact Da rfl _ this s g
def Ny(hm:C.P.follows .mixedOrders=true)(κ:Zp)(fr:cw)(str:cC)(a:qD ops.toList κ fr str=true)(hs:eX σ.bx)
  (h:VD C.P ops.toList fr str (R C k) κ σ H):R C (.code (.region id ops true)::k) σ H:=
 zK fun _ _ s g=>Pu rfl hm a hs h s g
def xv(P:Program)(ol:Zq)(o:Oper)(σ:St):Option (Prop×St):=
 match bH ol σ o with
 |some false=>some (True,σ.put o.dst (.v undef))
 |some true=>match pv P σ.bx (ev σ) o.op with
  |some (φ,sv)=>some (φ,σ.put o.dst sv)
  |none=>match o.dst,j0 P (ev σ) o.op with
   |some d,some (T,cs)=>some (True,σ.newBox d T cs)
   |_,_=>match np P σ.bx (ev σ) o.op with
    |some (x,off,cs)=>some (True,(σ.store x off cs).put o.dst .u)
    |none=>none
 |none=>none
variable{o:Oper}
def N4{P:Program}{ol:Zq}{σ':St}{φ:Prop}{K:St->PH->Prop}(h:xv P ol o σ=some (φ,σ'))(c:φ)(a:K σ' H):rQ P ol o K σ H:=by
 unfold xv at h;split at h
 .rename_i b;cases h;exact .inl ⟨b,a⟩
 .rename_i b;refine .inr ⟨b,?_⟩;split at h
  .rename_i e sv hp;cases h;exact .inl ⟨sv,.inl ⟨φ,hp,c⟩,a⟩
  .split at h
   .rename_i d T cs hd ha;cases h;exact .inr (.inl ⟨d,T,cs,hd,ha,a⟩)
   .split at h
    .rename_i x off cs hs;cases h;exact .inr (.inr (.inl ⟨x,off,cs,hs,a⟩))
    .cases h
 .cases h
def fS(P:Program):Nat->Cf->St->List Prop->List Prop×Cf×St
 |0,c,σ,ps=>(ps,c,σ)
 |n+1,c,σ,ps=>
  match c with
  | .op _ [] k=>fS P n (.st k) σ ps
  | .op ol (o::rem) k=>match xv P ol o σ with
   |some (φ,σ')=>fS P n (.op ol rem k) σ' (φ::ps)
   |none=>(ps,.op ol (o::rem) k,σ)
  | .st (.code (.region _ ops false)::k)=>fS P n (.op ops.toList ops.toList k) σ ps
  | .st (.code (.seq a b)::k)=>fS P n (.st (.code a::.code b::k)) σ ps
  | .st (.code .skip::k)=>fS P n (.st k) σ ps
  | .st (.code (.label _)::k)=>fS P n (.st k) σ ps
  | .st (.inBlock _::k)=>fS P n (.st k) σ ps
  | .st (.code (.block id b)::k)=>fS P n (.st (.code b::.inBlock id::k)) σ ps
  | .st (.code (.exit id)::k)=>match exitTo id k with
   |some k'=>fS P n (.st k') σ ps
   |none=>(ps,.st (.code (.exit id)::k),σ)
  | .st (.code (.cond c t e)::k)=>match ev σ c with
   | .v (.bool true)=>fS P n (.st (.code t::k)) σ ps
   | .v (.bool false)=>fS P n (.st (.code e::k)) σ ps
   |_=>(ps,.st (.code (.cond c t e)::k),σ)
  |c=>(ps,c,σ)
def jT:List Prop->Prop
 | []=>True
 |p::l=>jT l/\p
def mI:∀(n:Nat) (c:Cf) (σ:St) (ps:List Prop),jT (fS C.P n c σ ps).1->RC C (fS C.P n c σ ps).2.1 (fS C.P n c σ ps).2.2 H->jT ps/\RC C c σ H
 |0,c,σ,ps,hp,h=>⟨hp,h⟩
 |n+1,c,σ,ps,hp,h=>by
  unfold fS at hp h;split at hp<;>simp only at h
  .obtain⟨a,b⟩:=mI n _ _ _ hp h;exact⟨a,b⟩
  .rename_i ol o rem k;cases ha:xv C.P ol o σ with
   |none=>rw[ha]at hp h;exact⟨hp,h⟩
   |some x=>obtain⟨φ,σ'⟩:=x;rw[ha]at hp h;obtain⟨⟨a,b⟩,c⟩:=mI n _ _ _ hp h;exact⟨a,N4 ha b c⟩
  .obtain⟨a,b⟩:=mI n _ _ _ hp h;exact⟨a,NI b⟩
  .obtain⟨a,b⟩:=mI n _ _ _ hp h;exact⟨a,NJ b⟩
  .obtain⟨a,b⟩:=mI n _ _ _ hp h;exact⟨a,NK b⟩
  .obtain⟨a,b⟩:=mI n _ _ _ hp h;exact⟨a,ND b⟩
  .obtain⟨a,b⟩:=mI n _ _ _ hp h;exact⟨a,NB b⟩
  .obtain⟨a,b⟩:=mI n _ _ _ hp h;exact⟨a,Nx b⟩
  .rename_i id k;cases f:exitTo id k with
   |none=>rw[f]at hp h;exact⟨hp,h⟩
   |some k'=>rw[f]at hp h;obtain⟨a,b⟩:=mI n _ _ _ hp h;exact⟨a,NA f b⟩
  .rename_i g t e k;split at hp
   .rename_i d;rw[d]at h;obtain⟨a,b⟩:=mI n _ _ _ hp h;exact⟨a,GO d b⟩
   .rename_i d;rw[d]at h;obtain⟨a,b⟩:=mI n _ _ _ hp h;exact⟨a,GO d b⟩
   .rename_i h1 h2;have:∀{α:Type} (x y z:α),(match ev σ g with | .v (.bool true)=>x | .v (.bool false)=>y|_=>z)=z:=by
     intro α x y z;split
     .rename_i d;exact absurd d (by simpa using h1)
     .rename_i d;exact absurd d (by simpa using h2)
     .rfl
    refine⟨hp,?_⟩;split at h
    .rename_i d;exact absurd d (by simpa using h1)
    .rename_i d;exact absurd d (by simpa using h2)
    .exact h
  .exact⟨hp,h⟩
def jV(n:Nat){c:Cf}(h:jT (fS C.P n c σ []).1/\RC C (fS C.P n c σ []).2.1 (fS C.P n c σ []).2.2 H):RC C c σ H:=(mI n c σ [] h.1 h.2).2
def aA(C:Cx)(H:PH)(r:List Prop×Cf×St):Prop:=jT r.1/\RC C r.2.1 r.2.2 H
theorem NN(C:Cx)(H:PH)(ps:List Prop)(c:Cf)(σ:St):aA C H (ps,c,σ)=(jT ps/\RC C c σ H):=rfl
def cE(n:Nat){c:Cf}(h:aA C H (fS C.P n c σ [])):RC C c σ H:=jV n h
def RG{c:Cf}(h:aA C H (fS C.P 500 c σ [])):RC C c σ H:=jV 500 h
def jE{ol rem:Zq}(a:bH ol σ o=some true)(b:bR σ o.op=true)
  (h:eJ C.P (execOp (bp σ) o) H fun sv H2=>RC C (.op ol rem k) (σ.put o.dst sv) H2):RC C (.op ol (o::rem) k) σ H:=
 .inr ⟨a,.inr (.inr (.inr ⟨b,h⟩))⟩
def uJ{ol rem:Zq}(v:Value)(a:bH ol σ o=some true)(b:bR σ o.op=true)
  (hv:∀w,Sub H w->(execOp (bp σ) o).run C.P w=.ok (.value v) w) (h:RC C (.op ol rem k) (σ.put o.dst (.v v)) H):RC C (.op ol (o::rem) k) σ H:=
 .inr ⟨a,.inl ⟨_,.inr ⟨v,rfl,b,hv⟩,h⟩⟩
end
open Go
def sm(args:Zo)(n:Nat):List SV:=args.map .v++List.replicate (n-args.length) (.v undef)
variable{fn:Func}
def fj{P:Program}{f:FuncId}{c:Code}{args:Array Value}{H:PH}{Φ:Value->PH->Prop}(hf:P.funcs[f]?=some fn)(hb:fn.body=some c)(g:args.toList.length<=fn.ntmps)
  (h:∀w0,RC ⟨P,f,fn,hf,H,w0,Φ⟩ (.st [.code c]) ⟨sm args.toList fn.ntmps,[]⟩ H):bh P f args H Φ:=by
 intro w s cs;have i:G w.heap.size ⟨sm args.toList fn.ntmps,[]⟩ H { tmps:=args++Array.replicate (fn.ntmps-args.size) undef,defers:=[] } w:=by
  refine⟨fun _=>0,rfl,?_,?_,fun _ h=>(dJ h).elim,fun _ h=>(dJ h).elim,fun _ h=>(dJ h).elim,List.Pairwise.nil⟩
  .simp[sm]
  .intro t sv ht;simp only[sm]at ht;rw[jy];by_cases a:t<args.size
   .rw[wK (by simpa using a)]at ht;simp[a]at ht;subst ht;simp[Array.getElem?_append,a,fW]
   .rw[zr (by simpa using a),List.getElem?_replicate]at ht;split at ht
    .rename_i hr;cases ht
     simp only[fW,Array.getElem?_append,ab a,Array.getElem?_replicate];split<;>rfl
    .cases ht
 obtain⟨e,d,fr,h1,h2,h3,h4⟩:=h w w _ cs (cP.refl s) i;have b:Frame.enter P f args .normal=(jH f).at { tmps:=args++Array.replicate (fn.ntmps-args.size) undef,defers:=[] } [.code c]:=by simp[Frame.enter,Frame.at,hf,hb,jH]
 refine⟨e,d,fr,?_,by rw[b];exact h2,h3,h4⟩;unfold Gx at h1;cases e with
 |returned v=>exact h1
 |_=>exact h1.elim
def n6(P:Program)(σ:St):List ResultVar->Option (Zo)
 | []=>some []
 | .tmp t::l=>match jJ σ.tm t,n6 P σ l with
  | .v x,some r=>some (x::r)
  |_,_=>none
 | .cell t T::l=>match jJ σ.tm t,n6 P σ l with
  | .p k off,some r=>match eS σ.bx k with
   |some B=>match iS P T B.cs off with
    |some x=>some (x::r)
    |none=>none
   |none=>none
  |_,_=>none
def dY:Zo->Value
 | [v]=>v
 |l=>.tuple l.toArray
def wh(tmps:Array Value):ResultVar->Sem Value
 | .tmp t=>pure (tmps.getD t undef)
 | .cell a t=>do loadVar t (<-asAddr (tmps.getD a undef))
def Fr{P:Program}{n0:Nat}{β:Nat->Nat}{σ:St}{H:PH}{a:Act}{w:World}(g:GB n0 β σ H a w):∀(l:List ResultVar) (r:Zo),n6 P σ l=some r->
  (l.mapM (wh a.tmps)).run P w=.ok r w
 | [],r,h=>by cases h;simp
 | .tmp t::l,r,h=>by
  simp only[n6]at h;split at h
  .rename_i x c b hr;cases h
   have h1:=g.ev (.tmp t);simp only[ev,b,fW,Act.eval]at h1;have h2:(wh a.tmps (.tmp t)).run P w=.ok x w:=by simp only[wh,h1];simp
   simp only[List.mapM_cons,ew,h2,Result.andThen,Fr g l _ hr];simp
  .cases h
 | .cell t T::l,r,h=>by
  simp only[n6]at h;split at h
  .rename_i k off c b hr;split at h
   .rename_i B d;split at h
    .rename_i x hv;cases h
     obtain⟨hm,rfl⟩:=As d;have h1:=g.ev (.tmp t);simp only[ev,b,fW,Act.eval]at h1;have:=Fu (P:=P) (w:=w) (off:=off) (g.bx B hm).1 hv;have h2:(wh a.tmps (.cell t T)).run P w=.ok x w:=by simp only[wh,h1,ew];simp[Result.andThen,asAddr,this]
     simp only[List.mapM_cons,ew,h2,Result.andThen,Fr g l _ hr];simp
    .cases h
   .cases h
  .cases h
def K1{P:Program}{n0:Nat}{β:Nat->Nat}{σ:St}{H:PH}{a:Act}{w:World}(g:GB n0 β σ H a w){r:Zo}(h:n6 P σ fn.results.toList=some r):
  (results fn a.tmps).run P w=.ok (dY r) w:=by
 have h1:=Fr g _ _ h;show (do let c <-fn.results.mapM (wh a.tmps);pure (if h:c.size=1 then c[0]else .tuple c):Sem Value).run P w=_;rw[Array.mapM_eq_mapM_toList];simp only[ew,Sem.run_map];rw[h1];simp only[Result.andThen]
 match r with
 | []=>simp[dY]
 | [v]=>simp[dY]
 |a::b::l=>simp[dY]
section
variable {C:Cx} {k:List Item} {σ:St} {H:PH}
def aX{r:Zo}(h:n6 C.P σ C.fn.results.toList=some r)(hp:C.post (dY r) H):R C (.code .ret::k) σ H:=by rintro w a cs s ⟨β,g⟩;exact⟨.returned (dY r),w,{ (jH C.f).at a (.code .ret::k)with mode:=.returning },⟨H,s,hp⟩,Steps.one step_ret,rfl,rfl,g.defers,rfl,C.fn,C.hf,K1 g h⟩
def Nz{r:Zo}(h:n6 C.P σ C.fn.results.toList=some r)(hp:C.post (dY r) H):R C [] σ H:=by rintro w a cs s ⟨β,g⟩;exact⟨.returned (dY r),w,{ (jH C.f).at a []with mode:=.returning },⟨H,s,hp⟩,Steps.one step_end,rfl,rfl,g.defers,rfl,C.fn,C.hf,K1 g h⟩
def sp:Nat->Nat->List (Nat×SV)->List SV
 |_,0,_=>[]
 |i,n+1,[]=>.u::sp (i+1) n []
 |i,n+1,(j,x)::l=>if j=i then x::sp (i+1) n l else .u::sp (i+1) n ((j,x)::l)
def iT:List SV->List SV->Prop
 | [],[]=>True
 | .u::l,_::m=>iT l m
 |x::l,y::m=>x=y/\iT l m
 |_,_=>False
def kS:List cM->List cM->Prop
 | [],_=>True
 |_::_,[]=>False
 |b::l,c::m=>if b.key=c.key then b=c/\kS l m else kS (b::l) m
def B0:∀{l m:List SV},iT l m->l.length=m.length/\∀(t:Nat) (sv:SV),l[t]?=some sv->sv=.u\/m[t]?=some sv
 | [],[],_=>⟨rfl,fun t sv h=>by simp at h⟩
 | .u::l,y::m,h=>by
  obtain⟨a,b⟩:=B0 (l:=l) (m:=m) h;refine⟨by simp[a],fun t sv ht=>?_⟩;cases t with
  |zero=>simp at ht;exact .inl ht.symm
  |succ t=>simpa using b t sv (by simpa using ht)
 | .v x::l,y::m,h=>by
  obtain⟨e,h⟩:=h;obtain⟨a,b⟩:=B0 (l:=l) (m:=m) h;refine⟨by simp[a],fun t sv ht=>?_⟩;cases t with
  |zero=>right;simp at ht |-;rw[<-e];exact ht
  |succ t=>simpa using b t sv (by simpa using ht)
 | .p x z::l,y::m,h=>by
  obtain⟨e,h⟩:=h;obtain⟨a,b⟩:=B0 (l:=l) (m:=m) h;refine⟨by simp[a],fun t sv ht=>?_⟩;cases t with
  |zero=>right;simp at ht |-;rw[<-e];exact ht
  |succ t=>simpa using b t sv (by simpa using ht)
 | [],_::_,h=>h.elim
 | .u::_,[],h=>h.elim
 | .v _::_,[],h=>h.elim
 | .p _ _::_,[],h=>h.elim
def FP:∀{l m:List cM},kS l m->l.Sublist m
 | [],m,_=>List.nil_sublist m
 |b::l,[],h=>h.elim
 |b::l,c::m,h=>by
  simp only[kS]at h;split at h
  .obtain⟨rfl,h⟩:=h;exact(FP h).cons_cons _
  .exact(FP h).cons _
def zL{σ':St}(ht:iT σ'.tm σ.tm)(hb:kS σ'.bx σ.bx)(h:R C k σ' H):R C k σ H:=by
 rintro w a cs s ⟨β,g⟩;obtain⟨h1,h2⟩:=B0 ht;have h3:=FP hb;refine h w a cs s ⟨β,g.defers,by rw[g.size,h1],fun t sv c=>?_,fun B b=>g.bx B (h3.subset b),fun B b B' d=>g.inj B (h3.subset b) B' (h3.subset d),fun B b=>g.lo B (h3.subset b),g.keys.sublist h3⟩;rcases h2 t sv c with rfl|h
 .trivial
 .exact g.tm t sv h
def iR(key b:Nat):SV->SV
 | .p x off=>if x=key then .v (.pointer (some ⟨b,off,none⟩))else .p x off
 |y=>y
def NG(key:Nat){B:cM}(r:eS σ.bx key=some B)(h:∀b,H b=none->R C k ⟨σ.tm.map (iR key b),ep σ.bx key⟩ (H.put b (.cells B.cs.toArray B.ty (0,0)))):R C k σ H:=by
 rintro w a cs s ⟨β,g⟩;obtain⟨hm,i⟩:=As r;obtain⟨hb,n⟩:=g.bx B hm;rw[i]at hb n;have j:=g.lo B hm;rw[i]at j;refine h (β key) n w a cs ⟨fun c o d=>?_,s.size,fun c d f=>s.priv c d f,fun c d f=>?_,s.os,s.tape,s.out⟩ ⟨β,g.defers,by simp[g.size],fun t sv ht=>?_,fun B' l=>?_,fun m h1 z h2=>?_,fun m h1=>g.lo m (qz h1).1,HX g.keys⟩
 .by_cases e:c=β key
  .subst e;simp only[PH.put,cu]at d;cases d;exact hb
  .simp only[PH.put,ab e]at d;exact s.sub c o d
 .have:c≠β key:=by omega
  simp only[PH.put,ab this];exact s.dom c d f
 .simp only[iZ,zx]at ht;obtain⟨x,q,rfl⟩:=ht;have:=g.tm t x q;cases x with
  |v y=>exact this
  |u=>trivial
  |p y off=>
   simp only[iR];split
   .rename_i e;subst e;exact this
   .exact this
 .obtain⟨h1,h2⟩:=qz l;obtain⟨h3,h4⟩:=g.bx B' h1;refine⟨h3,?_⟩;have:β B'.key≠β key:=fun e=>h2 (by rw[<-i];exact g.inj B' h1 B hm (by rw[i];exact e));simp only[PH.put,ab this];exact h4
 .exact g.inj m (qz h1).1 z (qz h2).1
end
open Go
def vj:Zq->Nat->Oper
 | [],_=>default
 |o::_,0=>o
 |_::l,n+1=>vj l n
def pick(ol:Zq)(κ:Zp):List (Nat×Oper):=κ.map fun i=>(i,vj ol i)
def uR(P:Program)(ol:Zq)(fr:cw)(str:cC)(K:St->PH->Prop):List (Nat×Oper)->St->PH->Prop
 | [],σ,H=>K σ H
 |(i,o)::l,σ,H=>jF P ol (fr.at' i) (str.at' i) o (uR P ol fr str K l) σ H
def RD(C:Cx)(ol:Zq)(fr:cw)(str:cC)(l:List (Nat×Oper))(k:List Item)(σ:St)(H:PH):Prop:=uR C.P ol fr str (R C k) l σ H
def Qq{ol:Zq}{i:Nat}(h:i<ol.length):ol[i]?=some (vj ol i):=by
 induction ol generalizing i with
 |nil=>simp at h
 |cons o l a=>cases i with
  |zero=>simp[vj]
  |succ i=>simpa[vj]using a (by simpa using h)
def pm:List cM->Bool
 | []=>true
 |b::l=>l.all (fun c=>decide (b.key<c.key)) && pm l
def FL{l:List cM}(h:pm l=true):eX l:=by
 induction l with
 |nil=>exact List.Pairwise.nil
 |cons b l a=>simp only[pm,cZ]at h;exact List.pairwise_cons.2 ⟨fun y c=>by simpa using List.all_eq_true.1 h.1 y c,a h.2⟩
def LY{P:Program}{ol:Zq}{f:iE}{s:mF}{o:Oper}{K K':St->PH->Prop}{σ:St}{H:PH}(k:∀σ' H',K σ' H'->K' σ' H')(h:jF P ol f s o K σ H):jF P ol f s o K' σ H:=by
 rcases h with ⟨e,h⟩|⟨e,h⟩
 .exact .inl ⟨e,k _ _ h⟩
 .refine .inr ⟨e,?_⟩;cases j:fm o.op<;>rw[j]at h<;>simp only at h |-
  .obtain⟨sv,hv,a⟩:=h;exact⟨sv,hv,k _ _ a⟩
  .obtain⟨d,T,cs,hd,ha,a⟩:=h;exact⟨d,T,cs,hd,ha,k _ _ a⟩
  .rcases h with ⟨x,off,cs,ha,hm,a⟩|⟨i,a,g⟩
   .exact .inl ⟨x,off,cs,ha,hm,k _ _ a⟩
   .exact .inr ⟨i,a,g.mono fun sv H2 c=>k _ _ c⟩
  .exact⟨h.1,h.2.mono fun sv H2 c=>⟨c.1,k _ _ c.2⟩⟩
  .exact fun b hb=>k _ _ (h b hb)
def rN{P:Program}{ol:Zq}{fr:cw}{str:cC}{K:St->PH->Prop}:∀(κ:Zp) {σ:St} {H:PH},(∀i∈κ,i<ol.length)->uR P ol fr str K (pick ol κ) σ H->VD P ol fr str K κ σ H
 | [],σ,H,_,h=>h
 |i::κ,σ,H,a,h=>by simp only[VD,Qq (a i (.head _))];exact LY (fun σ' H' c=>rN κ (fun j b=>a j (.tail _ b)) c) h
section
variable {C:Cx} {k:List Item} {σ:St} {H:PH}
variable{ops:Array Oper}{id:Nat}
def CY(hm:C.P.follows .mixedOrders=true)(κ:Zp)(fr:cw)(str:cC)(a:qD ops.toList κ fr str=true)(hs:pm σ.bx=true)
  (h:RD C ops.toList fr str (pick ops.toList κ) k σ H):RC C (.st (.code (.region id ops true)::k)) σ H:=by
 refine Ny hm κ fr str a (FL hs) (rN κ ?_ h);simp only[qD,cZ]at a;have h3:=a.2;intro i hi
 suffices c:∀(l:Zp),fR ops.toList (kC ops.toList) fr str l=true->∀i∈l,i<ops.toList.length from c κ h3 i hi
 intro l
 induction l with
 |nil=>intro _ i hi;cases hi
 |cons x l b=>
  intro hp i hi;simp only[fR,cZ,dE]at hp;rcases List.mem_cons.1 hi with rfl|hi
  .exact hp.1.1.1
  .exact b hp.2 i hi
def iH(hm:C.P.follows .mixedOrders=true)(κ fr str:Zp)(a:qD ops.toList κ ⟨fr,[],PH.emp,[],[]⟩ ⟨str,[],[]⟩=true)(hs:pm σ.bx=true)
  (h:RD C ops.toList ⟨fr,[],PH.emp,[],[]⟩ ⟨str,[],[]⟩ (pick ops.toList κ) k σ H):RC C (.st (.code (.region id ops true)::k)) σ H:=CY hm κ _ _ a hs h
def rK(hm:C.P.follows .mixedOrders=true)(κ fr str c b:Zp)(J:PH)(a:qD ops.toList κ ⟨fr,c,J,[],[]⟩ ⟨str,b,[]⟩=true)(hs:pm σ.bx=true)
  (h:RD C ops.toList ⟨fr,c,J,[],[]⟩ ⟨str,b,[]⟩ (pick ops.toList κ) k σ H):RC C (.st (.code (.region id ops true)::k)) σ H:=CY hm κ _ _ a hs h
def CZ(hm:C.P.follows .mixedOrders=true)(κ fr str c b kp:Zp)(a:qD ops.toList κ ⟨fr,[],PH.emp,c,kp⟩ ⟨str,[],b⟩=true)(hs:pm σ.bx=true)
  (h:RD C ops.toList ⟨fr,[],PH.emp,c,kp⟩ ⟨str,[],b⟩ (pick ops.toList κ) k σ H):RC C (.st (.code (.region id ops true)::k)) σ H:=CY hm κ _ _ a hs h
def kY(fr:cw)(str:cC)(i:Nat)(H H2:PH):Prop:=(str.h.contains i=true->H.le H2)/\(str.j.contains i=true->fr.J.le H->fr.J.le H2)
variable{H2:PH}{i:Nat}
def kY.le{fr:cw}{str:cC}{H:PH}(h:H.le H2):kY fr str i H H2:=⟨fun _=>h,fun _ a=>D a h⟩
def kY.non{fr:cw}{str:cC}{H:PH}(h:str.h.contains i=false)(h2:str.j.contains i=false):kY fr str i H H2:=⟨fun e=>Bool.noConfusion (h.symm.trans e),fun e=>Bool.noConfusion (h2.symm.trans e)⟩
variable{ρ:Operand->SV}{bx:List cM}
def Wm{P:Program}{op:Op}{x:Prop×SV}(h:pv P bx ρ op=some x):fm op=.val:=by
 cases op<;>first|rfl|cases h|skip
 rename_i c;obtain⟨callee,args,types⟩:=c;cases callee with
 |builtin b=>cases b<;>first|rfl|(simp[pv,qQ]at h)
 |value f=>simp[pv,qQ]at h
 |invoke r m=>simp[pv,qQ]at h
def NY{P:Program}{op:Op}{x:TypeId×Zo}(h:j0 P ρ op=some x):fm op=.alc:=by cases op<;>first|rfl|cases h
def Xr{P:Program}{op:Op}{x:Nat×Nat×Zo}(h:np P bx ρ op=some x):fm op=.st:=by cases op<;>first|rfl|cases h
def uU(P:Program)(ol:Zq)(b a:Bool)(kp:Zp)(o:Oper)(σ:St):Option (Prop×St):=
 match bH ol σ o with
 |some false=>some (True,σ.put o.dst (.v undef))
 |some true=>match pv P (kb b kp σ.bx) (ev σ) o.op with
  |some (φ,sv)=>some (φ,σ.put o.dst sv)
  |none=>match o.dst,j0 P (ev σ) o.op with
   |some d,some (T,cs)=>some (True,σ.newBox d T cs)
   |_,_=>match np P σ.bx (ev σ) o.op with
    |some (x,off,cs)=>if a && gJ kp x then none else some (True,(σ.store x off cs).put o.dst .u)
    |none=>none
 |none=>none
variable{o:Oper}
def GZ{P:Program}{ol:Zq}{σ':St}{φ:Prop}{K:St->PH->Prop}{f:iE}{s:mF}(h:uU P ol f.k s.k f.kp o σ=some (φ,σ'))(g:φ)(a:K σ' H):jF P ol f s o K σ H:=by
 unfold uU at h;split at h
 .rename_i b;cases h;exact .inl ⟨b,a⟩
 .rename_i b;refine .inr ⟨b,?_⟩;split at h
  .rename_i i sv hp;cases h;rw[Wm hp];exact⟨sv,.inl ⟨φ,hp,g⟩,a⟩
  .split at h
   .rename_i d T cs hd ha;cases h;rw[NY ha];exact⟨d,T,cs,hd,ha,a⟩
   .split at h
    .rename_i x off cs hs;split at h
     .cases h
     .rename_i c;cases h;rw[Xr hs]
      refine .inl ⟨x,off,cs,hs,fun e=>?_,a⟩;rw[e]at c;simpa using c
    .cases h
 .cases h
def ig(P:Program)(ol:Zq)(b a kp:Zp):List (Nat×Oper)->St->List Prop->List Prop×List (Nat×Oper)×St
 | [],σ,ps=>(ps,[],σ)
 |(i,o)::l,σ,ps=>match uU P ol (gJ b i) (gJ a i) kp o σ with
  |some (φ,σ')=>ig P ol b a kp l σ' (φ::ps)
  |none=>(ps,(i,o)::l,σ)
def G1{ol:Zq}{fr:cw}{str:cC}:∀(l:List (Nat×Oper)) (σ:St) (ps:List Prop),jT (ig C.P ol fr.k str.k fr.kp l σ ps).1->RD C ol fr str (ig C.P ol fr.k str.k fr.kp l σ ps).2.1 k (ig C.P ol fr.k str.k fr.kp l σ ps).2.2 H->jT ps/\RD C ol fr str l k σ H
 | [],σ,ps,hp,h=>⟨hp,h⟩
 |(i,o)::l,σ,ps,hp,h=>by
  unfold ig at hp h;cases ha:uU C.P ol (gJ fr.k i) (gJ str.k i) fr.kp o σ with
  |none=>rw[ha]at hp h;exact⟨hp,h⟩
  |some x=>obtain⟨φ,σ'⟩:=x;rw[ha]at hp h;obtain⟨⟨a,b⟩,c⟩:=G1 l _ _ hp h;exact⟨a,GZ (f:=fr.at' i) (s:=str.at' i) ha b c⟩
variable{l:List (Nat×Oper)}
def Nk{ol:Zq}{fr:cw}{str:cC}(h:jT (ig C.P ol fr.k str.k fr.kp l σ []).1/\RD C ol fr str (ig C.P ol fr.k str.k fr.kp l σ []).2.1 k (ig C.P ol fr.k str.k fr.kp l σ []).2.2 H):RD C ol fr str l k σ H:=(G1 l σ [] h.1 h.2).2
def pP(C:Cx)(ol:Zq)(fr:cw)(str:cC)(k:List Item)(H:PH)(r:List Prop×List (Nat×Oper)×St):Prop:=jT r.1/\RD C ol fr str r.2.1 k r.2.2 H
theorem NM(C:Cx)(ol:Zq)(fr:cw)(str:cC)(k:List Item)(H:PH)(ps:List Prop)(l:List (Nat×Oper))(σ:St):pP C ol fr str k H (ps,l,σ)=(jT ps/\RD C ol fr str l k σ H):=rfl
def bo{ol:Zq}{fr:cw}{str:cC}(h:pP C ol fr str k H (ig C.P ol fr.k str.k fr.kp l σ [])):RD C ol fr str l k σ H:=Nk h
def aN{ol:Zq}{fr:cw}{str:cC}(h:RC C (.st k) σ H):RD C ol fr str [] k σ H:=h
def uM{ol:Zq}{fr:cw}{str:cC}(a:bH ol σ o=some true)(b:bR σ o.op=true)(c:fm o.op=.gen)
  (h:eJ C.P (execOp (bp σ) o) H fun sv H2=>kY fr str i H H2/\RD C ol fr str l k (σ.put o.dst sv) H2):RD C ol fr str ((i,o)::l) k σ H:=
 .inr ⟨a,by rw[c];exact⟨b,h⟩⟩
def Nv{ol:Zq}{fr:cw}{str:cC}(hs:gJ str.k i=false)(a:bH ol σ o=some true)(b:bR σ o.op=true)(c:fm o.op=.st)
  (h:eJ C.P (execOp (bp σ) o) H fun sv H2=>RD C ol fr str l k (σ.put o.dst sv) H2):RD C ol fr str ((i,o)::l) k σ H:=
 .inr ⟨a,by rw[c];exact .inr ⟨hs,b,h⟩⟩
def uN{ol:Zq}{fr:cw}{str:cC}(v:Value)(hf:fr.h.contains i=true)(a:bH ol σ o=some true)(b:bR σ o.op=true)(c:fm o.op=.val)
  (hv:∀w,Sub H w->(execOp (bp σ) o).run C.P w=.ok (.value v) w) (h:RD C ol fr str l k (σ.put o.dst (.v v)) H):RD C ol fr str ((i,o)::l) k σ H:=
 .inr ⟨a,by rw[c];exact⟨_,.inr (.inl ⟨hf,v,rfl,b,hv⟩),h⟩⟩
def Nu{ol:Zq}{fr:cw}{str:cC}(v:Value)(hf:fr.j.contains i=true)(d:fr.J.le H)(a:bH ol σ o=some true)(b:bR σ o.op=true)(c:fm o.op=.val)
  (hv:∀w,Sub fr.J w->(execOp (bp σ) o).run C.P w=.ok (.value v) w) (h:RD C ol fr str l k (σ.put o.dst (.v v)) H):RD C ol fr str ((i,o)::l) k σ H:=
 .inr ⟨a,by rw[c];exact⟨_,.inr (.inr ⟨hf,d,v,rfl,b,hv⟩),h⟩⟩
variable{f:FuncId}
def OK {P:Program}  {fn:Func} (hf:P.funcs[f]?=some fn) (hb:fn.body.isNone=false) (a:(fn.name == "runtime.NumGoroutine")=false) (args:Array Value) (w:World) :
  (callFunc f args).run P w=.ok (.enter f args) w:=by
 simp only[callFunc,ew,program,Sem.run,Result.andThen,hf,a,hb];simp
def ay (P:Program) (f:FuncId):Prop:=∃fn,P.funcs[f]?=some fn/\fn.body.isNone=false/\(fn.name == "runtime.NumGoroutine")=false
variable{Φ:Value->PH->Prop}{first cap:Array Value}{vs:Zo}{Z:Array TypeId}{aq:Array Operand}{x:Operand}
def LH{P:Program}(aa:o.op=.call ⟨.value x,aq,Z⟩)
  (q:ev σ x=.v (.func (.func f) first cap)) (ha:fY (ev σ) aq.toList=some vs) (A:ay P f) (h:bh P f (first++vs.toArray++cap) H Φ) :
  bR σ o.op=true/\eJ P (execOp (bp σ) o) H fun sv H2=>∃v,sv=.v v/\Φ v H2:=by
 have j:∀(l:List Operand) (r:Zo),fY (ev σ) l=some r->l.map (bp σ)=r/\∀y∈l,fN (ev σ y)=true:=by
  intro l
  induction l with
  |nil=>intro r h;cases h;exact⟨rfl,fun y g=>(dJ g).elim⟩
  |cons y l s=>
   intro r h;simp only[fY]at h;split at h
   .rename_i v B hv hr;cases h
    obtain⟨h1,h2⟩:=s _ hr;refine⟨by simp[bp,hv,h1],fun z m=>?_⟩;rcases List.mem_cons.1 m with rfl|m
    .rw[hv];rfl
    .exact h2 z m
   .cases h
 obtain⟨h1,h2⟩:=j _ _ ha;obtain⟨fn,hf,hb,u⟩:=A;constructor
 .simp only[bR,aa,fx,Op.operands,Call.operands,Bool.true_and,sZ];intro y g;simp at g;rcases g with rfl|g
  .rw[q];rfl
  .exact h2 y (by simpa using g)
 .intro w t;have d:aq.map (bp σ)=vs.toArray:=by rw[<-ns];simpa using h1
  have p:bp σ x=.func (.func f) first cap:=by simp[bp,q]
  have i:(execOp (bp σ) o).run P w=.ok (.enter f (first++vs.toArray++cap)) w:=by simp only[execOp,aa,resolve,d,p,Deferred.ofValue,ew];simp[Result.andThen,invoke,OK hf hb u]
  rw[i];exact(h w t).mono fun e w2 n=>by
   cases e with
   |returned v=>obtain⟨H2,a,b⟩:=n;exact⟨H2,a,v,rfl,b⟩
   |outgrown=>exact n
   |panicked c=>exact n
variable{rem:Zq}
def bF{ol:Zq}(b:bH ol σ o=some true)(aa:o.op=.call ⟨.value x,aq,Z⟩)
  (a:ev σ x=.v (.func (.func f) first cap)) (ha:fY (ev σ) aq.toList=some vs) (d:ay C.P f) (h:bh C.P f (first++vs.toArray++cap) H Φ)
  (c:∀v H2,Φ v H2->RC C (.op ol rem k) (σ.put o.dst (.v v)) H2):RC C (.op ol (o::rem) k) σ H:=by
 obtain⟨h1,h2⟩:=LH aa a ha d h;exact jE b h1 (h2.mono fun sv H2 ⟨v,e,p⟩=>by subst e;exact c v H2 p)
def Zl{ol:Zq}(a:(bH ol σ o,o.op,ev σ x,fY (ev σ) aq.toList)=(some true,Op.call ⟨.value x,aq,Z⟩,SV.v (.func (.func f) first cap),some vs))(c:ay C.P f)(h:bh C.P f (first++vs.toArray++cap) H Φ)
  (b:∀v H2,Φ v H2->RC C (.op ol rem k) (σ.put o.dst (.v v)) H2):RC C (.op ol (o::rem) k) σ H:=by
 simp only[gN]at a;exact bF a.1 a.2.1 a.2.2.1 a.2.2.2 c h b
def xj{ol:Zq}{fr:cw}{str:cC}(b:bH ol σ o=some true)(aa:o.op=.call ⟨.value x,aq,Z⟩)
  (a:ev σ x=.v (.func (.func f) first cap)) (ha:fY (ev σ) aq.toList=some vs) (d:ay C.P f) (h:bh C.P f (first++vs.toArray++cap) H Φ)
  (c:∀v H2,Φ v H2->kY fr str i H H2/\RD C ol fr str l k (σ.put o.dst (.v v)) H2):RD C ol fr str ((i,o)::l) k σ H:=by
 obtain⟨h1,h2⟩:=LH aa a ha d h;exact uM b h1 (by rw[aa];rfl) (h2.mono fun sv H2 ⟨v,e,p⟩=>by subst e;exact c v H2 p)
def a8(H:PH)(b off:Nat)(l:Zo):Prop:=∃cs ty a,H b=some (.cells cs ty a)/\off+l.length<=cs.size/\(cs.toList.drop off).take l.length=l
variable{b off:Nat}
def a8.le{H:PH}{l:Zo}(h:a8 H b off l)(k:H.le H2):a8 H2 b off l:=by obtain⟨cs,ty,d,a,b,c⟩:=h;exact⟨cs,ty,d,k _ _ a,b,c⟩
variable{v:Value}
def UM{P:Program}{T:TypeId}{l:Zo}(h:a8 H b off l)(d:bu P T=some (some l.length)/\v=.agg l.toArray\/bu P T=some none/\l=[v])(w:World)(c:Sub H w):
  (loadVar T ⟨b,off,none⟩).run P w=.ok v w:=by
 obtain⟨cs,ty,e,h1,h2,h3⟩:=h;have hb:=c b _ h1;have:cs=cs.toList.toArray:=ao;rw[this]at hb;refine Fu hb ?_;unfold iS;rcases d with ⟨ht,rfl⟩|⟨ht,rfl⟩
 .rw[ht];simp only[ot];rw[ah h2,h3]
 .rw[ht];simp only[gM]at h2 h3;simp only;have a:off<cs.toList.length:=by simp;omega
  have:cs.toList.drop off=cs.toList[off]::cs.toList.drop (off+1):=jz a;rw[this]at h3;simp at h3;rw[aY a];simp[h3]
def AY{P:Program}{T:TypeId}{l:Zo}(aa:o.op=.load T x)(a:ev σ x=.v (.pointer (some ⟨b,off,none⟩)))(h:a8 H b off l)
  (d:bu P T=some (some l.length)/\v=.agg l.toArray\/bu P T=some none/\l=[v]):bR σ o.op=true/\∀w,Sub H w->(execOp (bp σ) o).run P w=.ok (.value v) w:=by
 constructor
 .simp[bR,aa,fx,Op.operands,a,fN]
 .intro w c;have:=UM h d w c;simp[execOp,aa,bp,a,Instr.loadAt,Instr.sureAddr,this,Result.andThen]
def aW{ol:Zq}{T:TypeId}{l:Zo}(c:bH ol σ o=some true)(aa:o.op=.load T x)(a:ev σ x=.v (.pointer (some ⟨b,off,none⟩)))(h:a8 H b off l)
  (e:bu C.P T=some (some l.length)/\v=.agg l.toArray\/bu C.P T=some none/\l=[v]) (d:RC C (.op ol rem k) (σ.put o.dst (.v v)) H):RC C (.op ol (o::rem) k) σ H:=by
 obtain⟨h1,h2⟩:=AY (P:=C.P) aa a h e;exact uJ v c h1 h2 d
def Zm{ol:Zq}{T:TypeId}{l:Zo}(a:(bH ol σ o,o.op,ev σ x)=(some true,Op.load T x,SV.v (.pointer (some ⟨b,off,none⟩))))(h:a8 H b off l)
  (d:bu C.P T=some (some l.length)/\v=.agg l.toArray\/bu C.P T=some none/\l=[v]) (c:RC C (.op ol rem k) (σ.put o.dst (.v v)) H):RC C (.op ol (o::rem) k) σ H:=by
 simp only[gN]at a;exact aW a.1 a.2.1 a.2.2 h d c
variable{l':List (Nat×Oper)}
def aO{ol:Zq}{fr:cw}{str:cC}{T:TypeId}{l:Zo}(hf:fr.h.contains i=true)(c:bH ol σ o=some true)(aa:o.op=.load T x)(a:ev σ x=.v (.pointer (some ⟨b,off,none⟩)))(h:a8 H b off l)
  (e:bu C.P T=some (some l.length)/\v=.agg l.toArray\/bu C.P T=some none/\l=[v]) (d:RD C ol fr str l' k (σ.put o.dst (.v v)) H):RD C ol fr str ((i,o)::l') k σ H:=by
 obtain⟨h1,h2⟩:=AY (P:=C.P) aa a h e;exact uN v hf c h1 (by rw[aa];rfl) h2 d
def Zn{ol:Zq}{fr:cw}{str:cC}{T:TypeId}{l:Zo}(a:(fr.h.contains i,bH ol σ o,o.op,ev σ x)=(true,some true,Op.load T x,SV.v (.pointer (some ⟨b,off,none⟩))))(h:a8 H b off l)
  (d:bu C.P T=some (some l.length)/\v=.agg l.toArray\/bu C.P T=some none/\l=[v]) (c:RD C ol fr str l' k (σ.put o.dst (.v v)) H):RD C ol fr str ((i,o)::l') k σ H:=by
 simp only[gN]at a;exact aO a.1 a.2.1 a.2.2.1 a.2.2.2 h d c
def rI{ol:Zq}{fr:cw}{str:cC}{T:TypeId}{l:Zo}(hf:fr.j.contains i=true)(f:fr.J.le H)(c:bH ol σ o=some true)(aa:o.op=.load T x)(a:ev σ x=.v (.pointer (some ⟨b,off,none⟩)))(h:a8 fr.J b off l)
  (e:bu C.P T=some (some l.length)/\v=.agg l.toArray\/bu C.P T=some none/\l=[v]) (d:RD C ol fr str l' k (σ.put o.dst (.v v)) H):RD C ol fr str ((i,o)::l') k σ H:=by
 obtain⟨h1,h2⟩:=AY (P:=C.P) aa a h e;exact Nu v hf f c h1 (by rw[aa];rfl) h2 d
end
open Go
def cO(P:Program)(t e:TypeId)(size bytes:Nat):Prop:=
 ∃i z,P.underlying t=some (.slice e)/\P.info? e=some i/\i.zero=some z/\i.size=size/\i.bytes=bytes/\z.cells.size=size/\0<size
variable{size bytes:Nat}{e:TypeId}
def cO.of{P:Program}{t:TypeId}(h1:P.underlying t=some (.slice e))(h2:(P.info? e).map (fun i=>(i.zero.map (·.cells.size),i.size,i.bytes))=some (some size,size,bytes))(h3:0<size):cO P t e size bytes:=by
 cases hi:P.info? e with
 |none=>rw[hi]at h2;cases h2
 |some i=>
  rw[hi]at h2;simp only[df,bf,gN]at h2;obtain⟨a,b,c⟩:=h2;cases d:i.zero with
  |none=>rw[d]at a;cases a
  |some z=>rw[d]at a;simp only[df,bf]at a;exact⟨i,z,h1,hi,d,b,c,a,h3⟩
def g9 (H : PH) (e : TypeId) (size : Nat) (v : Value) (n : Nat) (xs : Zo) : Prop :=
  xs.length = n * size ∧
  ((v = .slice none 0 0 ∧ n = 0) ∨
   ∃ g cap cur, v = .slice (some ⟨g, 0, none⟩) n cap ∧ H g = some (.cells cur e (0, 0)) ∧ n ≤ cap ∧ cap ≤ maxLen ∧ cur.size = cap * size ∧ cur.toList.take (n * size) = xs)
def g9.nil(H:PH)(e:TypeId)(size:Nat):g9 H e size (.slice none 0 0) 0 []:=⟨by simp,.inl ⟨rfl,rfl⟩⟩
variable{v:Value}
def g9.toRow{H:PH}{n:Nat}{xs:Zo}(h:g9 H e size v n xs){w:World}(s:Sub H w):w.ownsRow 0 e size v n xs:=by
 obtain⟨h1,h2⟩:=h;refine⟨h1,?_⟩;rcases h2 with h2|⟨g,cap,cur,a,b,c,d,f,k⟩
 .exact .inl h2
 .exact .inr ⟨g,cap,cur,a,aE _,s _ _ b,c,d,f,k⟩
def rp(oX:Option Nat)(H H2:PH):Prop:=∀b o,some b≠oX->H b=some o->H2 b=some o
def rp.refl(oX:Option Nat)(H:PH):rp oX H H:=fun _ _ _ h=>h
def Hg{P:Program}{t ty:TypeId}(ht:cO P t e size bytes){H:PH}{n:Nat}{xs:Zo}(q:g9 H e size v n xs)
  {N L m c:Nat} {d:Zo} (hx:a8 H N L d) (hl:d.length=m*size) (h1:∀u∈d,one u=true) (hb:(n+m)*bytes<=140737488355328) (U:n+m<=maxLen) (w:World) (s:Sub H w) :
  ∃J y H2,(Builtin.append_ #[t,t] ty #[v,.slice (some ⟨N,L,none⟩) m c]).run P w=.ok J y/\cP H w H2 y/\g9 H2 e size J (n+m) (xs++d)/\rp v.ownBlock H H2/\
   (J.ownBlock=v.ownBlock\/∀g,J.ownBlock=some g->H g=none):=by
 obtain⟨i,z,a1,a2,a3,a4,a5,a6,a7⟩:=ht;obtain⟨cs,cty,cfz,c1,c2,c3⟩:=hx;have C:∀j u,d[j]?=some u->w.cell? ((⟨N,L,none⟩:Addr).add j)=some u:=by
  intro j u I;have K:=s _ _ c1;rw[show cs=cs.toList.toArray from by simp]at K;rw[nE,xB K];rw[<-c3]at I;rw[CI]at I;split at I
  .rw[zu]at I;exact I
  .cases I
 obtain⟨J,y,p,A,a,_,k⟩:=run_append_own_at w 0 t ty e i z size bytes a1 a2 a3 a4 a5 a6 a7 v n xs (q.toRow s) ⟨N,L,none⟩ m c d hl C
  (fun u hu=>by have:=h1 u hu;cases u<;>first|rfl|cases this) U hb (aE _)
 have l:∀b,v.ownBlock=some b->H b≠none:=by
  intro b hb;rcases q.2 with ⟨rfl,_⟩|⟨g,cap,cur,rfl,S,_⟩
  .cases hb
  .simp only[Value.ownBlock,bf]at hb;subst hb;rw[S];exact fun e=>by cases e
 have keep:∀b o,some b≠v.ownBlock->H b=some o->y.heap[b]?=some o:=fun b o hb r=>by rw[a.block b (lw (s b o r)) hb];exact s b o r
 have f:∀b,b<w.heap.size->H b=none->y.heap[b]?=w.heap[b]?:=fun b hb G=>a.block b hb fun e=>l b e.symm G;obtain⟨x,F⟩:=A;rcases F with ⟨rfl,Q⟩|⟨g,cap,cur,rfl,_,S,Z,X,W,V⟩
 .refine⟨_,y,fun b=>if some b=v.ownBlock then none else H b,p,⟨fun b o h=>?_,a.size,f,fun b _ G=>by simp[G],a.os,a.tape,a.output⟩,⟨x,.inl ⟨rfl,Q⟩⟩,fun b o hb r=>by simp[hb,r],.inr fun g h=>by cases h⟩;split at h
  .cases h
  .exact keep b o (by assumption) h
 .have R:v.ownBlock=some g\/H g=none:=by
   rcases k with h|h
   .left;rw[<-h];rfl
   .right
    simp only[Value.ownBlock,bf]at h;subst h;cases T:H w.heap.size with
    |none=>rfl
    |some o=>exact absurd (lw (s _ _ T)) O
  refine⟨_,y,fun b=>if b=g then some (.cells cur e (0,0))else if some b=v.ownBlock then none else H b,p,⟨fun b o h=>?_,a.size,f,fun b hb G=>?_,a.os,a.tape,a.output⟩,
   ⟨x,.inr ⟨g,cap,cur,rfl,by simp,Z,X,W,V⟩⟩,fun b o hb r=>?_,?_⟩
  .split at h
   .rename_i e1;subst e1;cases h;exact S
   .split at h
    .cases h
    .exact keep b o (by assumption) h
  .have:b≠g:=by
    rintro rfl;rcases k with h|h
    .exact l b (by rw[<-h];rfl) G
    .simp only[Value.ownBlock,bf]at h;omega
   simp[this,G]
  .have:b≠g:=by
    rintro rfl;rcases R with h|h
    .exact hb h.symm
    .rw[h]at r;cases r
   simp[this,hb,r]
  .rcases k with h|h
   .exact .inl h
   .right
    intro g' B;rw[h]at B;simp only[bf]at B;subst B;cases T:H w.heap.size with
    |none=>rfl
    |some o=>exact absurd (lw (s _ _ T)) O
def nh(size:Nat):Nat->List (Nat×Value)->Bool
 |_,[]=>true
 |j,(i,v)::l=>decide (i=j) && decide (v.cells.toList.length=size) && nh size (j+1) l
def ax:List (Nat×Value)->Zo
 | []=>[]
 |(_,v)::l=>v.cells.toList++ax l
def n9(l cs:Zo)(off:Nat)(h:off+cs.length<=l.length):bN l off cs=l.take off++cs++l.drop (off+cs.length):=by
 induction cs generalizing l off with
 |nil=>simp[bN]
 |cons c cs b=>
  simp only[bl]at h;have a:off<l.length:=O;rw[bN,b _ _ (by simp;omega)];rw[List.take_set,List.drop_set];have h1:(l.take (off+1)).set off c=l.take off++[c]:=by rw[pH a,List.set_append];simp[jB (lM a)]
  rw[h1,ah O];simp[Nat.add_assoc,Nat.add_comm 1]
def H5(size:Nat):∀(parts:List (Nat×Value)) (j:Nat) (cells:Zo),nh size j parts=true->cells.length=(j+parts.length)*size->
  oK (fun i=>some (i*size,size)) cells parts=some (cells.take (j*size)++ax parts)
 | [],j,cells,_,a=>by simp only[bg,s5]at a;simp[oK,ax,<-a]
 |(i,v)::l,j,cells,h,a=>by
  simp only[nh,cZ,dE]at h;obtain⟨⟨rfl,h2⟩,h3⟩:=h;simp only[bl]at a;have b:i*size+size<=cells.length:=by
   rw[a];have:i*size+size=(i+1)*size:=by rw[ir];simp
   rw[this];exact cv _ O
  simp only[oK,h2,fg,ah b];rw[H5 size l (i+1) _ h3 (by rw[eL,a];congr 1;omega)];rw[n9 _ _ _ (by rw[h2];exact b)];simp only[ax];congr 1;rw[h2];have e1:(i+1)*size=i*size+size:=by rw[ir];simp
  have e2:(cells.take (i*size)++v.cells.toList).length=(i+1)*size:=by simp[h2,e1];omega
  rw[CJ O,<-e2,dK,cD]
def OH{P:Program}{t:TypeId}(ht:cO P t e size bytes){len:Nat}{parts:List (Nat×Value)}(hp:nh size 0 parts=true)(a:parts.length=len)(f:len*size<=16777216)(w:World):
  (Instr.buildSlice t len parts.toArray).run P w=.ok (.slice (some ⟨w.heap.size,0,none⟩) len len) { w with heap:=w.heap.push (.cells (ax parts).toArray e (0,0)) }:=by
 obtain⟨i,z,j,a2,a3,a4,a5,l,k⟩:=ht;have b:(underlying t).run P w=.ok (.slice e) w:=fe j;have sz:(sizeOf e).run P w=.ok size w:=by simp[sizeOf,typeInfo,program,Sem.run,a2,a4]
 have g:(zeroValue e).run P w=.ok z w:=by simp[zeroValue,typeInfo,program,Sem.run,a2,a3]
 have key:∀(zero:Array Value),Instr.fill (fun i=>some (i*size,size)) ((Array.range (len*size)).map (zero[· % zero.size]!)) parts=some (ax parts).toArray:=by intro zero;refine DX (fun i x h=>h) ?_;have:=H5 size parts 0 ((Array.range (len*size)).map (zero[· % zero.size]!)).toList hp (by simp[a]);simpa using this
 by_cases h0:len*size=0
 .simp only[Instr.buildSlice,ew,b,Result.andThen,sz,ab (show ¬len*size>2^24 by omega),ah h0];have d:len=0:=by
   rcases Nat.mul_eq_zero.1 h0 with h|h
   .exact h
   .omega
  subst d;have c:parts=[]:=List.length_eq_zero_iff.1 a;subst c;simp[Instr.fill,ax,newRow,newObj,Sem.run,Result.andThen];rw[show Array.range 0=#[] from Array.eq_empty_of_size_eq_zero ao];simp
 .simp only[Instr.buildSlice,ew,b,Result.andThen,sz,ab (show ¬len*size>2^24 by omega),ab h0,g];simp[key,newRow,newObj,Sem.run,Result.andThen]
def Jq{σ:St}:∀{l:List (Nat×Operand)} {r:List (Nat×Value)},je (ev σ) l=some r->l.map (fun x=>(x.1,bp σ x.2))=r/\∀y∈l,fN (ev σ y.2)=true
 | [],r,h=>by cases h;exact⟨rfl,fun y b=>(dJ b).elim⟩
 |(i,y)::l,r,h=>by
  simp only[je]at h;split at h
  .rename_i v d hv hr;cases h
   obtain⟨h1,h2⟩:=Jq hr;have c:bp σ y=v:=by simp[bp,hv]
   refine⟨by rw[iq,h1,c],fun z a=>?_⟩;rcases List.mem_cons.1 a with rfl|a
   .rw[hv];rfl
   .exact h2 z a
  .cases h
section
variable {C:Cx} {P:Program} {k:List Item} {σ:St} {H:PH}
variable{ps:List (Nat×Value)}{parts:Array (Nat×Operand)}{size bytes:Nat}{t e:TypeId}{o:Oper}
def LG{len:Nat}(aa:o.op=.buildSlice t len parts)(ha:je (ev σ) parts.toList=some ps)(ht:cO P t e size bytes)
  (hp:nh size 0 ps=true) (d:ps.length=len) (f:len*size<=16777216) :
  bR σ o.op=true/\eJ P (execOp (bp σ) o) H fun sv H2=>∃b,H b=none/\sv=.v (.slice (some ⟨b,0,none⟩) len len)/\H2=H.put b (.cells (ax ps).toArray e (0,0)):=by
 obtain⟨h1,h2⟩:=Jq ha;constructor
 .simp only[bR,aa,fx,Op.operands,Bool.true_and,sZ];intro y g;simp at g;obtain⟨i,hi⟩:=g;exact h2 (i,y) (by simpa using hi)
 .intro w l;have a:(parts.map fun(i,x)=>(i,bp σ x))=ps.toArray:=by rw[<-ns];simpa using h1
  have:=OH ht hp d f w;obtain⟨j,h⟩:=cP.new l (.cells (ax ps).toArray e (0,0));have c:(execOp (bp σ) o).run P w=.ok (.value (.slice (some ⟨w.heap.size,0,none⟩) len len)) { w with heap:=w.heap.push (.cells (ax ps).toArray e (0,0)) }:=by simp only[execOp,aa,a,ew,this];simp[Result.andThen]
  rw[c];exact⟨_,h,w.heap.size,j,rfl,rfl⟩
variable{rem:Zq}
def GG{ol:Zq}{len:Nat}(ht:cO C.P t e size bytes)(h:bH ol σ o=some true)(aa:o.op=.buildSlice t len parts)(ha:je (ev σ) parts.toList=some ps)
  (hp:nh size 0 ps=true) (f:ps.length=len) (g:len*size<=16777216)
  (i:∀b,H b=none->RC C (.op ol rem k) (σ.put o.dst (.v (.slice (some ⟨b,0,none⟩) len len))) (H.put b (.cells (ax ps).toArray e (0,0)))):RC C (.op ol (o::rem) k) σ H:=by
 obtain⟨h1,h2⟩:=LG (H:=H) aa ha ht hp f g;exact jE h h1 (h2.mono fun sv H2 ⟨b,a,c,d⟩=>by subst c;subst d;exact i b a)
variable{l:List (Nat×Oper)}{i:Nat}
def Nm{ol:Zq}{fr:cw}{str:cC}{len:Nat}(ht:cO C.P t e size bytes)(h:bH ol σ o=some true)(aa:o.op=.buildSlice t len parts)(ha:je (ev σ) parts.toList=some ps)
  (hp:nh size 0 ps=true) (f:ps.length=len) (g:len*size<=16777216)
  (j:∀b,H b=none->RD C ol fr str l k (σ.put o.dst (.v (.slice (some ⟨b,0,none⟩) len len))) (H.put b (.cells (ax ps).toArray e (0,0)))):RD C ol fr str ((i,o)::l) k σ H:=by
 obtain⟨h1,h2⟩:=LG (H:=H) aa ha ht hp f g;exact uM h h1 (by rw[aa];rfl) (h2.mono fun sv H2 ⟨b,a,c,d⟩=>by subst c;subst d;exact⟨kY.le (PH.le_put a),j b a⟩)
variable{news:Zo}{v:Value}{x y:Operand}
def LD{n xb xo m c:Nat}{xs:Zo}(ht:cO P t e size bytes)(aa:o.op=.call ⟨.builtin .append,#[x,y],#[t,t]⟩)(p:ev σ x=.v v)(l:ev σ y=.v (.slice (some ⟨xb,xo,none⟩) m c))
  (f:g9 H e size v n xs) (z:a8 H xb xo news) (A:news.length=m*size) (h1:news.all one=true) (hb:(n+m)*bytes<=140737488355328) (j:n+m<=maxLen) :
  bR σ o.op=true/\eJ P (execOp (bp σ) o) H fun sv H2=>∃a,sv=.v a/\g9 H2 e size a (n+m) (xs++news)/\rp v.ownBlock H H2/\(a.ownBlock=v.ownBlock\/∀g,a.ownBlock=some g->H g=none):=by
 constructor
 .simp[bR,aa,fx,Op.operands,Call.operands,p,l,fN]
 .intro w r;obtain⟨a,q,H2,d,st,b,i,h⟩:=Hg (ty:=o.type) (c:=c) ht f z A (fun u s=>List.all_eq_true.1 h1 u s) hb j w r;have:(execOp (bp σ) o).run P w=.ok (.value a) q:=by simp[execOp,aa,resolve,bp,p,l,invoke,builtin,Result.andThen,d]
  rw[this];exact⟨H2,st,a,rfl,b,i,h⟩
def MU{ol:Zq}{n xb xo m c:Nat}{xs:Zo}(ht:cO C.P t e size bytes)(f:g9 H e size v n xs)(l:bH ol σ o=some true)(aa:o.op=.call ⟨.builtin .append,#[x,y],#[t,t]⟩)(j:ev σ x=.v v)(i:ev σ y=.v (.slice (some ⟨xb,xo,none⟩) m c))
  (p:a8 H xb xo news) (q:news.length=m*size) (h1:news.all one=true) (hb:(n+m)*bytes<=140737488355328) (h:n+m<=maxLen)
  (r:∀d H2,g9 H2 e size d (n+m) (xs++news)->rp v.ownBlock H H2->(d.ownBlock=v.ownBlock\/∀g,d.ownBlock=some g->H g=none)->RC C (.op ol rem k) (σ.put o.dst (.v d)) H2):RC C (.op ol (o::rem) k) σ H:=by
 obtain⟨a,b⟩:=LD (σ:=σ) ht aa j i f p q h1 hb h;exact jE l a (b.mono fun sv H2 ⟨d,e1,e2,u,s⟩=>by subst e1;exact r d H2 e2 u s)
def Nl{ol:Zq}{fr:cw}{str:cC}{n xb xo m c:Nat}{xs:Zo}(ht:cO C.P t e size bytes)(f:g9 H e size v n xs)(hs:str.h.contains i=false)(p:str.j.contains i=false)(u:bH ol σ o=some true)(aa:o.op=.call ⟨.builtin .append,#[x,y],#[t,t]⟩)(s:ev σ x=.v v)(r:ev σ y=.v (.slice (some ⟨xb,xo,none⟩) m c))
  (w:a8 H xb xo news) (z:news.length=m*size) (h1:news.all one=true) (hb:(n+m)*bytes<=140737488355328) (q:n+m<=maxLen)
  (A:∀d H2,g9 H2 e size d (n+m) (xs++news)->rp v.ownBlock H H2->(d.ownBlock=v.ownBlock\/∀g,d.ownBlock=some g->H g=none)->RD C ol fr str l k (σ.put o.dst (.v d)) H2):RD C ol fr str ((i,o)::l) k σ H:=by
 obtain⟨a,b⟩:=LD (σ:=σ) ht aa s r f w z h1 hb q;exact uM u a (by rw[aa];rfl) (b.mono fun sv H2 ⟨d,e1,e2,F,B⟩=>by subst e1;exact⟨kY.non hs p,A d H2 e2 F B⟩)
variable{cs:Zo}{cells:Array Value}{off:Nat}{ty:TypeId}
def LK{T:TypeId}{b:Nat}(aa:o.op=.store T x y)(q:ev σ x=.v (.pointer (some ⟨b,off,none⟩)))(p:ev σ y=.v v)
  (n:H b=some (.cells cells ty (0,0))) (s:mL v=some cs) (hs:bE P T=some cs.length) (j:off+cs.length<=cells.size) :
  bR σ o.op=true/\eJ P (execOp (bp σ) o) H fun sv H2=>sv=.u/\H2=H.put b (.cells (bN cells.toList off cs).toArray ty (0,0)):=by
 constructor
 .simp[bR,aa,fx,Op.operands,q,p,fN]
 .intro w r;obtain⟨a,g⟩:=Hz s;have hb:=r _ _ n;rw[show cells=cells.toList.toArray from by simp]at hb;obtain⟨w2,h1,h2,h3,h4,h5,h6,t⟩:=yH (P:=P) b ty cs 0 off cells.toList w hb (by simpa using j) g;have sz:(sizeOf T).run P w=.ok cs.length w:=by unfold bE at hs;simp only[zx]at hs;obtain⟨i,hi,h⟩:=hs;simp[sizeOf,typeInfo,program,Sem.run,hi,h]
  have l:v.cells.size=cs.length:=by rw[<-a];simp
  have f:(execOp (bp σ) o).run P w=.ok .skip w2:=by simp only[execOp,aa,bp,q,p,Instr.storeAt,Instr.sureAddr,storeVar,ew];simp[Result.andThen,sz,l,a,h1]
  rw[f];refine⟨_,⟨fun c o' h=>?_,O,fun c m d=>h3 c (fun e=>by subst e;rw[n]at d;cases d),fun c m d=>?_,h5,h6,t⟩,rfl,rfl⟩
  .by_cases e:c=b
   .subst e;simp only[PH.put,cu]at h;cases h;simpa using h2
   .simp only[PH.put,ab e]at h;rw[h3 c e];exact r _ _ h
  .have:c≠b:=fun e=>by subst e;rw[n]at d;cases d
   simp[PH.put,this,d]
def Nh{ol:Zq}{T:TypeId}{b:Nat}(i:H b=some (.cells cells ty (0,0)))(f:bH ol σ o=some true)(aa:o.op=.store T x y)(e:ev σ x=.v (.pointer (some ⟨b,off,none⟩)))(d:ev σ y=.v v)
  (h:mL v=some cs) (hs:bE C.P T=some cs.length) (c:off+cs.length<=cells.size)
  (g:RC C (.op ol rem k) (σ.put o.dst .u) (H.put b (.cells (bN cells.toList off cs).toArray ty (0,0)))):RC C (.op ol (o::rem) k) σ H:=by
 obtain⟨h1,h2⟩:=LK (σ:=σ) aa e d i h hs c;exact jE f h1 (h2.mono fun sv H2 ⟨a,b⟩=>by subst a;subst b;exact g)
def Nt{ol:Zq}{fr:cw}{str:cC}{T:TypeId}{b:Nat}(m:H b=some (.cells cells ty (0,0)))(c:gJ str.k i=false)(g:bH ol σ o=some true)(aa:o.op=.store T x y)(f:ev σ x=.v (.pointer (some ⟨b,off,none⟩)))(e:ev σ y=.v v)
  (j:mL v=some cs) (hs:bE C.P T=some cs.length) (d:off+cs.length<=cells.size)
  (h:RD C ol fr str l k (σ.put o.dst .u) (H.put b (.cells (bN cells.toList off cs).toArray ty (0,0)))):RD C ol fr str ((i,o)::l) k σ H:=by
 obtain⟨h1,h2⟩:=LK (σ:=σ) aa f e m j hs d;exact Nv c g h1 (by rw[aa];rfl) (h2.mono fun sv H2 ⟨a,b⟩=>by subst a;subst b;exact h)
end
end Go.Sx
