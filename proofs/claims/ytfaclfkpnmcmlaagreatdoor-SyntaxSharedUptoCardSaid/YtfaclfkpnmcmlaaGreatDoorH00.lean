import Derived.Calls
import Derived.Orders
import Derived.RowKit
import Derived.Tactics
abbrev ZR:=@Nat.le_refl
abbrev ZS:=@Nat.le_trans
abbrev ZT:=@if_true
abbrev ZU:=@Array.getD_eq_getD_getElem?
abbrev ZV:=@if_neg
abbrev ZW:=@Option.some.injEq
abbrev acS:=@Nat.add_zero
abbrev ZY:=@Go.Sem.run_bind
abbrev ZZ:=@Nat.zero_add
abbrev Z0:=@List.getElem?_take
abbrev Z1:=@List.getElem?_drop
abbrev Z2:=@if_false
abbrev fu:=@List.foldl_cons
abbrev hZ:=@Array.length_toList
abbrev jO:=@Option.bind_some
abbrev Z8:=@Option.map_eq_some_iff
abbrev Z9:=@Option.map_some
abbrev aaa:=@Array.toList_inj
abbrev aab:=@Array.getElem?_eq_getElem
abbrev aac:=@Option.map_none
abbrev aad:=@List.mem_cons
abbrev aae:=@List.pairwise_cons
abbrev aaf:=@Nat.lt_or_ge
abbrev aag:=@Array.getElem?_eq_none
abbrev aah:=@List.length_map
abbrev aai:=@List.getElem?_map
abbrev aaj:=@List.length_cons
abbrev aak:=@List.getElem?_eq_getElem
abbrev aal:=@Nat.lt_trichotomy
abbrev aam:=@Option.getD_some
abbrev aan:=@List.getElem?_eq_none
abbrev aao:=@Bool.and_eq_true
abbrev aap:=@List.all_eq_true
abbrev aaq:=@if_pos
abbrev aar:=@Nat.le_of_lt
abbrev aas:=@List.map_map
abbrev aat:=@List.map_congr_left
abbrev aau:=@List.mem_append_left
abbrev aav:=@List.mem_append_right
abbrev acT:=@true_and
abbrev aax:=@Bool.or_eq_true
abbrev aay:=@Bool.not_eq_true'
abbrev aaz:=@List.cons_append
abbrev aaA:=@List.nil_append
abbrev aaB:=@List.not_mem_nil
abbrev aaC:=@decide_eq_true_eq
abbrev aaD:=@List.mem_filter
abbrev aaE:=@List.mem_map
abbrev aaF:=@Array.getElem?_setIfInBounds
abbrev aaG:=@List.getElem?_append_left
abbrev aaH:=@List.getElem?_append_right
abbrev aaI:=@Prod.mk.injEq
abbrev aaJ:=@List.length_singleton
abbrev aaK:=@List.drop_eq_getElem_cons
abbrev aaL:=@Nat.zero_le
abbrev aaM:=@List.take_succ_eq_append_getElem
abbrev aaN:=@Nat.min_eq_left
abbrev aaO:=@List.length_nil
abbrev aaP:=@Nat.add_mul
abbrev aaQ:=@Nat.mul_le_mul_right
abbrev aaR:=@List.take_append_of_le_length
abbrev aaS:=@List.take_length
abbrev aaT:=@List.append_assoc
abbrev aaU:=@List.map_cons
abbrev aaV:=@List.mem_of_getElem?
abbrev aaW:=@List.pairwise_singleton
abbrev aaX:=@List.mem_append
abbrev aaY:=@List.getElem?_set
abbrev aaZ:=@Option.some.inj
abbrev aa0:=@List.length_set
abbrev aa1:=@List.drop_zero
abbrev aa3:=@List.drop_drop
abbrev aa4:=@List.take_take
abbrev aa5:=@Bool.false_eq_true
abbrev aa6:=@List.append_nil
abbrev aa7:=@List.getD_cons_zero
abbrev aa8:=@List.getD_cons_succ
abbrev aa9:=@List.length_append
abbrev aba:=@Nat.lt_succ_self
abbrev abb:=@List.idxOf_lt_length_of_mem
abbrev acU:=@Nat.add_sub_cancel
abbrev abd:=@Nat.pow_succ
abbrev abe:=@Nat.pow_le_pow_right
abbrev abf:=@List.mem_of_mem_take
abbrev abg:=@List.flatMap_cons
abbrev abh:=@List.getElem?_cons_zero
abbrev abi:=@List.getElem?_cons_succ
abbrev abj:=@Nat.one_mul
abbrev abk:=@List.flatMap_append
abbrev abl:=@of_decide_eq_true
abbrev abm:=@Int.emod_eq_of_lt
abbrev abn:=@Nat.eq_zero_or_pos
abbrev abo:=@Int.cast_ofNat_Int
abbrev abp:=@decide_eq_false_iff_not
abbrev abq:=@List.take_append_drop
abbrev abr:=@Nat.lt_of_le_of_lt
abbrev abs:=@Nat.shiftRight_eq_div_pow
abbrev abt:=@Int.natCast_nonneg
abbrev abu:=@Nat.testBit_and
abbrev abv:=@Bool.and_true
abbrev abw:=@Bool.false_or
abbrev abx:=@List.drop_succ_cons
abbrev aby:=@List.filter_cons
abbrev abz:=@List.take_zero
abbrev abA:=@List.take_succ_cons
abbrev abB:=@List.cons.injEq
abbrev abC:=@and_true
abbrev abD:=@List.length_drop
abbrev abE:=@Nat.sub_mul
abbrev abF:=@List.length_take
abbrev abG:=@List.take_of_length_le
abbrev abH:=@List.drop_length
abbrev abI:=@Option.bind_eq_bind
abbrev abJ:=@Option.bind_eq_some_iff
abbrev abK:=@Bool.not_false
abbrev abL:=@List.tail_cons
abbrev abM:=@List.foldl_append
abbrev abN:=@of_decide_eq_false
abbrev abO:=@List.length_range
abbrev abP:=@List.map_append
abbrev abQ:=@Bool.not_true
abbrev abR:=@List.set_cons_zero
abbrev abS:=@beq_eq_false_iff_ne
abbrev abT:=@decide_eq_false
abbrev abU:=@decide_eq_true
theorem Z5{a b:Nat}(h:a<b):decide ((a:Int)<(b:Int))=true:=decide_eq_true (by omega)
theorem Z6(a:Nat):decide ((a:Int)<(a:Int))=false:=by simp
set_option maxHeartbeats 8000000
set_option linter.all false
variable{P:Prop}
def ab(h:P:=by omega):P:=h
def bg(h:P:=by decide):P:=h
def dt(h:P:=by simp only;omega):P:=h
namespace Go.Sx
open Go
abbrev PH:=Nat->Option Obj
def Sub(H:PH)(w:World):Prop:=∀b o,H b=some o->w.heap[b]?=some o
def PH.le(H H2:PH):Prop:=∀b o,H b=some o->H2 b=some o
def PH.emp:PH:=fun _=>none
def PH.le_refl(H:PH):H.le H:=fun _ _ h=>h
abbrev abW:=@PH.le_refl
def PH.le_trans{A B C:PH}(h:A.le B)(k:B.le C):A.le C:=fun b o x=>k b o (h b o x)
abbrev abV:=@PH.le_trans
variable{w:World}{H H2:PH}
def Sub.of_le(s:Sub H2 w)(h:H.le H2):Sub H w:=fun b o x=>s b o (h b o x)
structure dM(H:PH)(w:World)(H2:PH)(w2:World):Prop where
 sub:Sub H2 w2
 size:w.heap.size<=w2.heap.size
 priv:∀b,b<w.heap.size->H b=none->w2.heap[b]?=w.heap[b]?
 dom:∀b,b<w.heap.size->H b=none->H2 b=none
 os:w2.os=w.os
 tape:w2.tape=w.tape
 out:w2.output=w.output
def dM.refl(s:Sub H w):dM H w H w:=⟨s,ZR _,fun _ _ _=>rfl,fun _ _ h=>h,rfl,rfl,rfl⟩
def dM.trans{H3:PH}{w2 w3:World}(a:dM H w H2 w2)(b:dM H2 w2 H3 w3):dM H w H3 w3 where
 sub:=b.sub
 size:=ZS a.size b.size
 priv:=fun k hk hn=>by rw[b.priv k (Nat.lt_of_lt_of_le hk a.size) (a.dom k hk hn),a.priv k hk hn]
 dom:=fun k hk hn=>b.dom k (Nat.lt_of_lt_of_le hk a.size) (a.dom k hk hn)
 os:=b.os.trans a.os
 tape:=b.tape.trans a.tape
 out:=b.out.trans a.out
def bO(P:Program)(f:FuncId)(args:Array Value)(H:PH)(Φ:Value->PH->Prop):Prop:=
 ∀w,Sub H w->Calls P f args w fun e w2=>match e with
  | .returned v=>∃H2,dM H w H2 w2/\Φ v H2
  |_=>False
variable{P:Program}
def bO.mono{f:FuncId}{args:Array Value}{Φ Ψ:Value->PH->Prop}(h:bO P f args H Φ)(k:∀v H2,Φ v H2->Ψ v H2):bO P f args H Ψ:=
 fun w s=>(h w s).mono fun e w2 he=>by
  cases e with
  |returned v=>obtain⟨H2,a,b⟩:=he;exact⟨H2,a,k _ _ b⟩
  |outgrown=>exact he
  |panicked c=>exact he
inductive SV where
 |v (x:Value)
 |p (key off:Nat)
 |u
 deriving Inhabited
structure js where
 key:Nat
 ty:TypeId
 cs:List Value
structure St where
 tm:List SV
 bx:List js
def oY:List SV->Nat->SV
 | [],_=>.u
 |x::_,0=>x
 |_::l,n+1=>oY l n
def lN:List SV->Nat->SV->List SV
 | [],_,_=>[]
 |_::l,0,y=>y::l
 |x::l,n+1,y=>x::lN l n y
def eX(l:List SV)(n:Nat):oY l n=(l[n]?).getD .u:=by
 induction l generalizing n with
 |nil=>simp[oY]
 |cons x l ih=>cases n<;>simp[oY,ih]
def u7(l:List SV)(n:Nat)(y:SV):(lN l n y).length=l.length:=by
 induction l generalizing n with
 |nil=>rfl
 |cons x l ih=>cases n<;>simp[lN,ih]
def gh(l:List SV)(n m:Nat)(y:SV):(lN l n y)[m]?=if n=m then (if n<l.length then some y else none)else l[m]?:=by
 induction l generalizing n m with
 |nil=>simp[lN]
 |cons x l ih=>
  cases n with
  |zero=>cases m<;>simp[lN]
  |succ n=>cases m<;>simp[lN,ih]
def eJ:List js->Nat->Option js
 | [],_=>none
 |b::l,k=>if b.key=k then some b else eJ l k
def dR:List js->Nat->List js
 | [],_=>[]
 |b::l,k=>if b.key=k then dR l k else b::dR l k
def gU(x:js):List js->List js
 | []=>[x]
 |b::l=>if b.key<x.key then b::gU x l else x::b::l
def kQ(k:Nat):SV->SV
 | .p k' off=>if k'=k then .u else .p k' off
 |x=>x
def St.put(σ:St)(d:Option Nat)(y:SV):St:=
 match d with
 |some d=>{ σ with tm:=lN σ.tm d y }
 |none=>σ
def St.newBox(σ:St)(d:Nat)(T:TypeId)(cs:List Value):St:=
 { tm:=lN (σ.tm.map (kQ d)) d (.p d 0),bx:=gU ⟨d,T,cs⟩ (dR σ.bx d) }
def br:List Value->Nat->List Value->List Value
 |l,_,[]=>l
 |l,n,c::cs=>br (l.set n c) (n+1) cs
def rz:List js->Nat->Nat->List Value->List js
 | [],_,_,_=>[]
 |b::l,k,off,cs=>if b.key=k then { b with cs:=br b.cs off cs }::l else b::rz l k off cs
def St.store(σ:St)(k off:Nat)(cs:List Value):St:={ σ with bx:=rz σ.bx k off cs }
def ev(σ:St):Operand->SV
 | .tmp t=>oY σ.tm t
 | .const v=>.v v
 | .global g=>.v (.pointer (some ⟨g,0,none⟩))
 | .func f=>.v (.func (.func f) #[] #[])
def cV(β:Nat->Nat):SV->Value->Prop
 | .v x,y=>y=x
 | .p k off,y=>y=.pointer (some ⟨β k,off,none⟩)
 | .u,_=>True
structure GB(n0:Nat)(β:Nat->Nat)(σ:St)(H:PH)(a:Act)(w:World):Prop where
 defers:a.defers=[]
 size:a.tmps.size=σ.tm.length
 tm:∀t sv,σ.tm[t]?=some sv->cV β sv (a.tmps.getD t undef)
 bx:∀B∈σ.bx,w.heap[β B.key]?=some (.cells B.cs.toArray B.ty (0,0))/\H (β B.key)=none
 inj:∀B∈σ.bx,∀B'∈σ.bx,β B.key=β B'.key->B.key=B'.key
 lo:∀B∈σ.bx,n0<=β B.key
 keys:σ.bx.Pairwise (fun x y=>x.key≠y.key)
def G(n0:Nat)(σ:St)(H:PH)(a:Act)(w:World):Prop:=∃β,GB n0 β σ H a w
variable{a:Act}{σ:St}{β:Nat->Nat}{n0:Nat}
theorem GB.ev(g:GB n0 β σ H a w)(x:Operand):cV β (Sx.ev σ x) (a.eval x):=by
 cases x with
 |tmp t=>
  simp only[Sx.ev,Act.eval,eX];cases h:σ.tm[t]? with
  |none=>simp[cV]
  |some sv=>simpa using g.tm t sv h
 |const v=>rfl
 |global n=>rfl
 |func n=>rfl
variable{B:js}{k:Nat}{l:List js}
def qB(h:eJ l k=some B):B∈l/\B.key=k:=by
 induction l with
 |nil=>simp[eJ]at h
 |cons b l ih=>
  simp only[eJ]at h;split at h
  ·cases h;exact⟨.head _,by assumption⟩
  ·obtain⟨h1,h2⟩:=ih h;exact⟨.tail _ h1,h2⟩
variable{y:Value}{sv:SV}
theorem GB.put(g:GB n0 β σ H a w)(d:Option Nat)(h:cV β sv y):GB n0 β (σ.put d sv) H (a.put d y) w:=by
 cases d with
 |none=>exact g
 |some d=>
  refine⟨g.defers,?_,?_,g.bx,g.inj,g.lo,g.keys⟩
  ·simp[Act.put,St.put,u7,g.size]
  ·intro t x hx;simp only[St.put,gh]at hx;have aa:=g.size;by_cases e:d=t
   ·subst e;simp only[ZT]at hx;split at hx
    ·cases hx
     rename_i hl;simp only[Act.put,ZU];rw[Array.getElem?_setIfInBounds_self_of_lt ab];simpa using h
    ·cases hx
   ·simp only[ZV e]at hx;have:=g.tm t x hx;simpa[Act.put,ZU,Array.getElem?_setIfInBounds_ne e]using this
def zM:cV β .u y:=trivial
def bk(P:Program)(T:TypeId):Option (Option Nat):=
 match P.underlying T,P.info? T with
 |some (.struct _),some i=>some (some i.size)
 |some (.array _ _),some i=>some (some i.size)
 |some _,some i=>if i.size=1 then some none else none
 |_,_=>none
def aV(P:Program)(T:TypeId):Option Value:=(P.info? T).bind (·.zero)
def aG(P:Program)(T:TypeId)(f:Nat):Option (Nat×TypeId):=
 match P.underlying T with
 |some (.struct fs)=>match fs[f]? with
  |some g=>match P.info? g.type with
   |some i=>if i.size=0 then none else some (g.offset,g.type)
   |none=>none
  |none=>none
 |_=>none
inductive Md where
 |arr (len size:Nat)
 |sl (size:Nat)
 |none
def co(P:Program)(T:TypeId):Md:=
 match P.underlying T with
 |some (.array n e)=>match P.info? e with|some i=>.arr n i.size|Option.none=>.none
 |some (.slice e)=>match P.info? e with|some i=>.sl i.size|Option.none=>.none
 |_=>.none
def one:Value->Bool
 | .agg _=>false
 | .tuple _=>false
 |_=>true
def kI:Value->Option (List Value)
 | .agg cs=>if cs.toList.all one then some cs.toList else none
 | .tuple _=>none
 |v=>some [v]
variable{v:Value}
def sw{l:List Value}(h:kI v=some l):v.cells.toList=l/\∀c∈l,one c=true:=by
 cases v
 case agg cs=>
  simp only[kI]at h;split at h
  ·cases h;rename_i hh;exact⟨rfl,fun c hc=>List.all_eq_true.1 hh c hc⟩
  ·cases h
 case tuple cs=>cases h
 all_goals (simp only[kI,ZW]at h;subst h;simp[one,Value.cells])
def iR(P:Program)(T:TypeId)(cs:List Value)(off:Nat):Option Value:=
 match bk P T with
 |some (some n)=>if off+n<=cs.length then some (.agg ((cs.drop off).take n).toArray)else none
 |some none=>cs[off]?
 |none=>none
theorem run_loadCellsFrom(a:Addr)(n i:Nat)(acc:Array Value)(xs:List Value)(hx:xs.length=n)
  (h:∀j v,xs[j]?=some v->w.cell? (a.add (i+j))=some v) :
  (loadCellsFrom a i n acc).run P w=.ok (acc++xs.toArray) w:=by
 induction n generalizing i acc xs with
 |zero=>cases xs with
  |nil=>simp[loadCellsFrom]
  |cons=>simp at hx
 |succ n ih=>
  cases xs with
  |nil=>simp at hx
  |cons x xs=>
   have h0:=h 0 x (by simp);rw[acS]at h0;simp only[loadCellsFrom,load,bind,Sem.bind,Sem.run,h0];have:=ih (i+1) (acc.push x) xs (by simpa using hx) (fun j v hj=>by
    have:=h (j+1) v (by simpa using hj)
    rwa [show i+1+j=i+(j+1) from by omega])
   rw[this];simp
variable{d:TypeDesc}
def zf{T:TypeId}(h:P.underlying T=some d):
  (isAgg T).run P w=.ok (match d with | .struct _ | .array _ _=>true|_=>false) w:=by
 simp only[isAgg,underlying,program,bind,Sem.bind,Sem.run,h,pure];cases d<;>simp[Sem.run]
def gG(b off n:Nat):(Addr.mk b off none).add n=⟨b,off+n,none⟩:=by
 unfold Addr.add;split<;>simp_all
variable{cs:List Value}{b:Nat}
def sQ{T:TypeId}{fz:Nat×Nat}(h:w.heap[b]?=some (.cells cs.toArray T fz))(i:Nat):w.cell? ⟨b,i,none⟩=cs[i]?:=by
 simp[World.cell?,h]
def pK {P : Program} {w : World} {T : TypeId} {b off : Nat} {cs : List Value} {ty : TypeId} {v : Value} {fz : Nat × Nat}
    (hb : w.heap[b]? = some (.cells cs.toArray ty fz)) (h : iR P T cs off = some v) :
    (loadVar T ⟨b, off, none⟩).run P w = .ok v w := by
  unfold iR bk at h
  have aggCase : ∀ (n : Nat) (i : TypeInfo), P.info? T = some i → i.size = n → (isAgg T).run P w = .ok true w → off + n ≤ cs.length →
      (loadVar T ⟨b, off, none⟩).run P w = .ok (.agg ((cs.drop off).take n).toArray) w := by
    intro n i hi hn aa ac
    simp only [loadVar, ZY, aa, Result.andThen, ZT, sizeOf, typeInfo, program, loadCells, Sem.run, hi]
    simp only [pure, Sem.run, hn]
    have := run_loadCellsFrom (P := P) (w := w) ⟨b, off, none⟩ n 0 #[] ((cs.drop off).take n) (by simp; omega) (fun j v hj => by
      rw [gG, sQ hb, ZZ]
      rw [Z0] at hj
      split at hj
      · rw [Z1] at hj; exact hj
      · cases hj)
    rw [this]; simp
  cases hu : P.underlying T with
  | none => rw [hu] at h; simp at h
  | some d =>
    rw [hu] at h
    cases hi : P.info? T with
    | none => rw [hi] at h; cases d <;> simp at h
    | some i =>
      rw [hi] at h
      have aa := zf (P := P) (w := w) hu
      have one : (isAgg T).run P w = .ok false w → cs[off]? = some v → (loadVar T ⟨b, off, none⟩).run P w = .ok v w := by
        intro h1 h2
        simp only [loadVar, ZY, h1, Result.andThen, load]
        simp [Sem.run, sQ hb, h2]
      cases d <;> simp only at h aa <;>
        first
        | (split at h
           · rename_i ac; cases h; exact aggCase i.size i hi rfl aa ac
           · cases h)
        | (by_cases h1 : i.size = 1
           · simp only [h1, ZT] at h; exact one aa h
           · simp only [h1, Z2] at h; cases h)
def tN(k:IntKind)(a b:Int):Int:=k.wrap (BitVec.ofInt k.bits a&&&BitVec.ofInt k.bits b).toNat
def Uu(k:IntKind)(a b:Int):Int:=k.wrap (BitVec.ofInt k.bits a|||BitVec.ofInt k.bits b).toNat
def AM(k:IntKind)(a b:Int):Int:=k.wrap (BitVec.ofInt k.bits a ^^^ BitVec.ofInt k.bits b).toNat
def yR(k:IntKind)(a b:Int):Int:=k.wrap (a*2^(min b.toNat k.bits))
def ut(k:IntKind)(a b:Int):Int:=a.fdiv (2^(min b.toNat k.bits))
def LO(k:IntKind)(a b:Int):Int:=k.wrap (BitVec.ofInt k.bits a&&&~~~ BitVec.ofInt k.bits b).toNat
def Qf(op:BinOp)(x y:Value):Option Value:=
 match x,y with
 | .int k a,.int k' b=>
  match op with
  | .shl=>if 0<=b then some (.int k (yR k a b))else none
  | .shr=>if 0<=b then some (.int k (ut k a b))else none
  | .add=>if k=k' then some (.int k (k.wrap (a+b)))else none
  | .sub=>if k=k' then some (.int k (k.wrap (a-b)))else none
  | .mul=>if k=k' then some (.int k (k.wrap (a*b)))else none
  | .quo=>if k=k' then (if b=0 then none else some (.int k (k.wrap (a.tdiv b))))else none
  | .rem=>if k=k' then (if b=0 then none else some (.int k (a.tmod b)))else none
  | .and=>if k=k' then some (.int k (tN k a b))else none
  | .or=>if k=k' then some (.int k (Uu k a b))else none
  | .xor=>if k=k' then some (.int k (AM k a b))else none
  | .andNot=>if k=k' then some (.int k (LO k a b))else none
  | .eql=>if k=k' then some (.bool (a == b))else none
  | .neq=>if k=k' then some (.bool (a != b))else none
  | .lss=>if k=k' then some (.bool (a<b))else none
  | .leq=>if k=k' then some (.bool (a<=b))else none
  | .gtr=>if k=k' then some (.bool (a>b))else none
  | .geq=>if k=k' then some (.bool (a>=b))else none
 | .string a,.string b=>
  match op with
  | .eql=>some (.bool (a.toList == b.toList))
  | .neq=>some (.bool (!(a.toList == b.toList)))
  | .lss=>some (.bool (Op.bytesLess a.toList b.toList))
  | .leq=>some (.bool (Op.bytesLess a.toList b.toList || a.toList == b.toList))
  | .gtr=>some (.bool (!(Op.bytesLess a.toList b.toList || a.toList == b.toList)))
  | .geq=>some (.bool (!(Op.bytesLess a.toList b.toList)))
  |_=>none
 |_,_=>none
def Ns {P : Program} {w : World} {op : BinOp} {T : TypeId} {x y v : Value} {ox oy : Operand} (h : Qf op x y = some v) :
    (do eqGuard op T ox oy x y; binOp op T x y : Sem Value).run P w = .ok v w := by
  unfold Qf at h
  split at h
  · rename_i k a k' b
    cases op <;> simp only at h <;> first
      | (cases h; done)
      | (split at h
         · rename_i hk
           first
             | (split at h
                · cases h
                · rename_i hb
                  cases h
                  subst hk
                  simp [eqGuard, binOp, Op.intDiv, Sem.run, pure, hb])
             | cases h
           try first
             | (subst hk; simp [eqGuard, binOp, Op.intArith, Op.intBits, Op.intCmp, Sem.run, pure, tN, Uu, AM, LO])
             | (simp [eqGuard, binOp, Op.shift, Sem.run, pure, Int.not_lt.2 hk, yR, ut])
         · cases h)
  · cases op <;> simp only [ZW] at h <;> first
      | (cases h; done)
      | (subst h; simp [eqGuard, binOp, Op.stringOp, Sem.run, pure])
  · cases h
def Gs(k:IntKind):Int:=if k.signed then -1 else k.max
def Wz(op:UnOp)(x:Value):Option Value:=
 match op,x with
 | .not,.bool b=>some (.bool !b)
 | .neg,.int k n=>some (.int k (k.wrap (0-n)))
 | .xor,.int k n=>some (.int k (AM k (Gs k) n))
 |_,_=>none
variable{x:Value}
def Pc{op:UnOp}(h:Wz op x=some v):(Op.unary op x).run P w=.ok v w:=by
 unfold Wz at h;split at h<;>cases h<;>simp[Op.unary,Op.intArith,Op.intBits,AM,Gs,pure]
def bY(P:Program)(T:TypeId):Option Nat:=(P.info? T).map (·.size)
def BO(P:Program)(T:TypeId)(i:Nat):Option (Nat×Nat):=
 match aG P T i with
 |some (off,ty)=>(bY P ty).map fun s=>(off,s)
 |none=>none
def ru(place:Nat->Option (Nat×Nat))(cells:List Value):List (Nat×Value)->Option (List Value)
 | []=>some cells
 |(i,v)::rest=>
  match place i with
  |none=>none
  |some (off,size)=>if v.cells.toList.length=size/\off+size<=cells.length then ru place (br cells off v.cells.toList) rest else none
def aX(l:List Value)(off:Nat)(cs:List Value):(br l off cs).length=l.length:=by
 induction cs generalizing l off with
 |nil=>rfl
 |cons c cs ih=>simp[br,ih]
def Ie(cells:Array Value)(off j:Nat)(cs:List Value):
  ((cs.zipIdx j).foldl (fun(a:Array Value) (x:Value×Nat)=>a.setIfInBounds (off+x.2) x.1) cells).toList=br cells.toList (off+j) cs:=by
 induction cs generalizing cells j with
 |nil=>rfl
 |cons c cs ih=>
  simp only[List.zipIdx_cons,fu,br];rw[ih];simp[Nat.add_assoc]
def BK{place pl':Nat->Option (Nat×Nat)}{cells:Array Value}{parts:List (Nat×Value)}{r:List Value}
  (hp:∀i x,place i=some x->pl' i=some x) (h:ru place cells.toList parts=some r) :
  Instr.fill pl' cells parts=some r.toArray:=by
 induction parts generalizing cells with
 |nil=>simp only[ru,ZW]at h;subst h;simp[Instr.fill]
 |cons x rest ih=>
  obtain⟨i,v⟩:=x;simp only[ru]at h;split at h
  ·cases h
  ·rename_i off size aa;split at h
   ·rename_i hc;obtain⟨h1,h2⟩:=hc;simp only[hZ]at h1 h2;simp only[Instr.fill,hp _ _ aa];rw[ZV (by simp[h1];omega)];apply ih;rw[<-h,<-Array.foldl_toList];congr 1;have:=Ie cells off 0 v.cells.toList;simpa using this
   ·cases h
def yQ{α β:Type}(f:α->Sem β)(g:α->β)(l:List α)(h:∀x∈l,(f x).run P w=.ok (g x) w):
  (l.mapM f).run P w=.ok (l.map g) w:=by
 induction l with
 |nil=>simp
 |cons x l ih=>
  simp only[List.mapM_cons,ZY,h x (.head _),Result.andThen,ih fun y hy=>h y (.tail _ hy)];simp
def jp(P:Program)(T:TypeId):Bool:=
 match P.underlying T with
 |some (.struct fs)=>fs.toList.all fun f=>(P.info? f.type).isSome
 |_=>false
def AD(P:Program)(T:TypeId)(parts:List (Nat×Value)):Option Value:=
 match aV P T with
 |none=>none
 |some z=>
  match co P T with
  | .arr _ size=>(ru (fun i=>some (i*size,size)) z.cells.toList parts).map fun l=>.agg l.toArray
  |_=>if jp P T then (ru (BO P T) z.cells.toList parts).map fun l=>.agg l.toArray else none
theorem run_build{T:TypeId}{parts:Array (Nat×Value)}(h:AD P T parts.toList=some v):
  (Instr.build T parts).run P w=.ok v w:=by
 unfold AD at h;cases hz:aV P T with
 |none=>rw[hz]at h;cases h
 |some z=>
  rw[hz]at h;simp only at h;unfold aV at hz;cases hi:P.info? T with
  |none=>rw[hi]at hz;cases hz
  |some i=>
   rw[hi]at hz;simp only[jO]at hz;have zv:(zeroValue T).run P w=.ok z w:=by simp[zeroValue,typeInfo,program,Sem.run,hi,hz]
   unfold co at h;cases hu:P.underlying T with
   |none=>rw[hu]at h;simp[jp,hu]at h
   |some d=>
    rw[hu]at h;have und:(underlying T).run P w=.ok d w:=by simp[underlying,program,Sem.run,hu]
    cases d<;>simp only at h<;>try (simp[jp,hu]at h;done)
    case slice e=>cases he:P.info? e<;>simp[he,jp,hu]at h
    case array n e=>
     cases he:P.info? e with
     |none=>rw[he]at h;simp[jp,hu]at h
     |some ie=>
      rw[he]at h;simp only[Z8]at h;obtain⟨l,hl,rfl⟩:=h;have sz:(sizeOf e).run P w=.ok ie.size w:=by simp[sizeOf,typeInfo,program,Sem.run,he]
      have hf:=BK (pl':=fun i=>some (i*ie.size,ie.size)) (cells:=z.cells) (fun i x hx=>hx) hl;simp only[Instr.build,ZY,zv,Result.andThen,und,sz,hf];simp
    case struct fs=>
     split at h
     case isFalse=>cases h
     rename_i aj;simp only[Z8]at h;obtain⟨l,hl,rfl⟩:=h;simp only[jp,hu]at aj;have ac:∀f∈fs.toList,(P.info? f.type).isSome=true:=List.all_eq_true.1 aj;have hm:(fs.mapM fun f=>(do pure (f.offset,<-sizeOf f.type):Sem (Nat×Nat))).run P w=.ok (fs.map fun f=>(f.offset,((P.info? f.type).map (·.size)).getD 0)) w:=by
      rw[Array.mapM_eq_mapM_toList];simp only[Sem.run_map];rw[yQ _ (fun f=>(f.offset,((P.info? f.type).map (·.size)).getD 0))]
      ·simp[Result.andThen,<-Array.toList_map]
      ·intro f hf;obtain⟨j,hj⟩:=Option.isSome_iff_exists.1 (ac f hf);simp[sizeOf,typeInfo,program,Sem.run,hj]
     have hf:=BK (pl':=fun i=>(fs.map fun f=>(f.offset,((P.info? f.type).map (·.size)).getD 0))[i]?) (cells:=z.cells) (fun i x hx=>by
      unfold BO at hx;split at hx
      case h_2=>cases hx
      rename_i off ty aa;unfold aG at aa;rw[hu]at aa;simp only at aa;cases ak:fs[i]? with
      |none=>rw[ak]at aa;cases aa
      |some g=>
       rw[ak]at aa;simp only at aa;cases hg:P.info? g.type with
       |none=>rw[hg]at aa;cases aa
       |some j=>
        rw[hg]at aa;simp only at aa;split at aa
        ·cases aa
        ·cases aa
         simp only[bY,hg,Z9,ZW]at hx;subst hx;simp[ak,hg]) hl
     simp only[Instr.build,ZY,zv,Result.andThen,und,hm,hf];simp
def j8(ρ:Operand->SV):List Operand->Option (List Value)
 | []=>some []
 |x::l=>match ρ x,j8 ρ l with
  | .v a,some r=>some (a::r)
  |_,_=>none
def mH(ρ:Operand->SV):List (Nat×Operand)->Option (List (Nat×Value))
 | []=>some []
 |(i,x)::l=>match ρ x,mH ρ l with
  | .v a,some r=>some ((i,a)::r)
  |_,_=>none
inductive Kd where
 |int (k:IntKind)
 |str
 |sl
 |other
def aY(P:Program)(T:TypeId):Kd:=
 match P.underlying T with
 |some (.int k)=>.int k
 |some .string=>.str
 |some (.slice _)=>.sl
 |_=>.other
def P6(P:Program)(T:TypeId)(x:Value):Option Value:=
 match aY P T,x with
 | .sl,.slice _ n _=>some (.int .i64 n)
 | .str,.string s=>some (.int .i64 s.size)
 |_,_=>none
def QI(P:Program)(T:TypeId)(x:Value):Option Value:=
 match aY P T,x with
 | .sl,.slice _ _ n=>some (.int .i64 n)
 |_,_=>none
def Eu(x y:Value):Option Value:=
 match x,y with
 | .int k a,.int _ b=>some (.int k (if b<a then b else a))
 |_,_=>none
def QR(x y:Value):Option Value:=
 match x,y with
 | .int k a,.int _ b=>some (.int k (if a<b then b else a))
 |_,_=>none
def Hh(P:Program)(T:TypeId)(x:Value):Option Value:=
 match aY P T,x with
 | .int k,.int _ n=>some (.int k (k.wrap n))
 |_,_=>none
def cF(P:Program)(T:TypeId):Bool:=(P.underlying T).isSome
def yF(P:Program)(bx:List js)(T:TypeId):SV->Option (Prop×SV)
 | .p k off=>match eJ bx k with
  |some B=>match iR P T B.cs off with
   |some v=>some (True,.v v)
   |none=>none
  |none=>none
 |_=>none
def Pw(n:Nat):SV->Option (Prop×SV)
 | .p k off=>some (True,.p k (off+n))
 | .v (.pointer (some ⟨b,off,none⟩))=>some (True,.v (.pointer (some ⟨b,off+n,none⟩)))
 |_=>none
def HD:SV->Option (Prop×SV)
 | .p k off=>some (True,.p k off)
 | .v (.pointer (some a))=>some (True,.v (.pointer (some a)))
 |_=>none
def Ko(e:Md)(x i:SV):Option (Prop×SV):=
 match e,x,i with
 | .arr len size,.p k off,.v (.int _ n)=>some (0<=n/\n<len,.p k (off+n.toNat*size))
 | .arr len size,.v (.pointer (some ⟨b,off,none⟩)),.v (.int _ n)=>some (0<=n/\n<len,.v (.pointer (some ⟨b,off+n.toNat*size,none⟩)))
 | .sl size,.v (.slice (some ⟨b,off,none⟩) len _),.v (.int _ n)=>some (0<=n/\n<len,.v (.pointer (some ⟨b,off+n.toNat*size,none⟩)))
 |_,_,_=>none
def xW(s:ByteArray)(n:Nat):Nat:=(s.data.toList.getD n 0).toNat
def wj(k:Kd)(x i:SV):Option (Prop×SV):=
 match k,x,i with
 | .str,.v (.string s),.v (.int _ n)=>some (0<=n/\n<s.size,.v (.int .u8 (xW s n.toNat)))
 |_,_,_=>none
def JD(x:Option Value):Option (Prop×SV):=
 match x with
 |some v=>some (True,.v v)
 |none=>none
def nV(P:Program)(ρ:Operand->SV)(c:Call):Option (Prop×SV):=
 match c.callee,c.args.toList,c.argTypes.toList with
 | .builtin .len,[x],[t]=>match ρ x with | .v a=>JD (P6 P t a)|_=>none
 | .builtin .cap,[x],[t]=>match ρ x with | .v a=>JD (QI P t a)|_=>none
 | .builtin .min,[x,y],_=>match ρ x,ρ y with | .v a,.v b=>JD (Eu a b)|_,_=>none
 | .builtin .max,[x,y],_=>match ρ x,ρ y with | .v a,.v b=>JD (QR a b)|_,_=>none
 |_,_,_=>none
def sO(a:Option Addr)(size l cap:Nat):Option Addr:=if cap=l then a else a.map (·.add (l*size))
def o9(n:Nat):Option SV->Option Int
 |none=>some n
 |some (.v (.int _ i))=>some i
 |_=>none
def mg(k:Kd)(e:Md)(x:SV)(lo hi:Option SV):Option (Prop×SV):=
 match k,e,x with
 | .sl,.sl size,.v (.slice a len cap)=>match o9 0 lo,o9 len hi,hi with
  |some l,some h,some _=>some ((0<=l/\l<=h)/\h<=cap,.v (.slice (sO a size l.toNat cap) (h.toNat-l.toNat) (cap-l.toNat)))
  |some l,some h,none=>some (0<=l/\l<=h,.v (.slice (sO a size l.toNat cap) (h.toNat-l.toNat) (cap-l.toNat)))
  |_,_,_=>none
 | .str,_,.v (.string s)=>match o9 0 lo,o9 s.size hi with
  |some l,some h=>some ((0<=l/\l<=h)/\h<=s.size,.v (.string (s.extract l.toNat h.toNat)))
  |_,_=>none
 |_,_,_=>none
def pv(P:Program)(bx:List js)(ρ:Operand->SV)(op:Op):Option (Prop×SV):=
 match op with
 | .move x | .assign x=>match ρ x with | .u=>none|sv=>some (True,sv)
 | .pick c x y=>match ρ c with | .v (.bool b)=>some (True,if b then ρ x else ρ y)|_=>none
 | .load T x=>yF P bx T (ρ x)
 | .fieldAddr T x f=>match aG P T f with|some (n,_)=>Pw n (ρ x)|none=>none
 | .nilCheck x=>HD (ρ x)
 | .indexAddr T x i=>Ko (co P T) (ρ x) (ρ i)
 | .index T x i=>wj (aY P T) (ρ x) (ρ i)
 | .field T x f=>match aG P T f,ρ x with|some (n,ty),.v (.agg cs)=>JD (iR P ty cs.toList n)|_,_=>none
 | .extract x n=>match ρ x with | .v (.tuple vs)=>JD vs.toList[n]?|_=>none
 | .build T ps=>match mH ρ ps.toList with|some l=>JD (AD P T l)|none=>none
 | .binOp op _ x y _=>match ρ x,ρ y with | .v a,.v b=>JD (Qf op a b)|_,_=>none
 | .unOp op _ x=>match ρ x with | .v a=>JD (Wz op a)|_=>none
 | .convert s d x=>match cF P s,ρ x with|true,.v a=>JD (Hh P d a)|_,_=>none
 | .makeFunc fn f c=>match j8 ρ f.toList,j8 ρ c.toList with|some l,some m=>some (True,.v (.func fn l.toArray m.toArray))|_,_=>none
 | .call c=>nV P ρ c
 | .slice T x lo hi none=>mg (aY P T) (co P T) (ρ x) (lo.map ρ) (hi.map ρ)
 |_=>none
variable{φ:Prop}
def dU{x:Option Value}(h:JD x=some (φ,sv)):∃v,x=some v/\sv=.v v:=by
 cases x with
 |none=>cases h
 |some v=>cases h;exact⟨v,rfl,rfl⟩
def rQ{n0:Nat}{β:Nat->Nat}{σ:St}{H:PH}{a:Act}{w:World}(g:GB n0 β σ H a w):∀(l:List Operand) (r:List Value),j8 (ev σ) l=some r->l.map a.eval=r
 | [],r,h=>by cases h;rfl
 |x::l,r,h=>by
  simp only[j8]at h;split at h
  ·rename_i y r' hx hr;cases h
   have:=g.ev x;rw[hx]at this;simp only[cV]at this;simp[this,rQ g l _ hr]
  ·cases h
def yG{n0:Nat}{β:Nat->Nat}{σ:St}{H:PH}{a:Act}{w:World}(g:GB n0 β σ H a w):∀(l:List (Nat×Operand)) (r:List (Nat×Value)),mH (ev σ) l=some r->l.map (fun x=>(x.1,a.eval x.2))=r
 | [],r,h=>by cases h;rfl
 |(i,x)::l,r,h=>by
  simp only[mH]at h;split at h
  ·rename_i y r' hx hr;cases h
   have:=g.ev x;rw[hx]at this;simp only[cV]at this;simp[this,yG g l _ hr]
  ·cases h
def uU{T:TypeId}{f n:Nat}{ty:TypeId}(h:aG P T f=some (n,ty))(b off:Nat):
  (Instr.fieldAt T (.pointer (some ⟨b,off,none⟩)) f).run P w=.ok (.pointer (some ⟨b,off+n,none⟩)) w:=by
 unfold aG at h;split at h
 ·rename_i fs hu;split at h
  ·rename_i g hg;split at h
   ·rename_i i hi;split at h
    ·cases h
    ·rename_i hz;cases h
     have und:(underlying T).run P w=.ok (.struct fs) w:=by simp[underlying,program,Sem.run,hu]
     have sz:(sizeOf g.type).run P w=.ok i.size w:=by simp[sizeOf,typeInfo,program,Sem.run,hi]
     simp only[Instr.fieldAt,ZY,und,Result.andThen,hg,Instr.sureAddr];simp[fieldPlace,ZY,sz,Result.andThen,hz,gG]
   ·cases h
  ·cases h
 ·cases h
def qh {P : Program} {w : World} {T : TypeId} {cs : Array Value} {n : Nat} {v : Value} (h : iR P T cs.toList n = some v) : (part T cs n).run P w = .ok v w := by
  unfold iR bk at h
  cases hu : P.underlying T with
  | none => rw [hu] at h; simp at h
  | some d =>
    rw [hu] at h
    cases hi : P.info? T with
    | none => rw [hi] at h; cases d <;> simp at h
    | some i =>
      rw [hi] at h
      have aa := zf (P := P) (w := w) hu
      have one : (isAgg T).run P w = .ok false w → cs[n]? = some v → (part T cs n).run P w = .ok v w := by
        intro h1 h2
        simp only [part, ZY, h1, Result.andThen, h2]
        simp
      have agg : (isAgg T).run P w = .ok true w → (part T cs n).run P w = .ok (.agg ((cs.toList.drop n).take i.size).toArray) w := by
        intro h1
        have sz : (sizeOf T).run P w = .ok i.size w := by simp [sizeOf, typeInfo, program, Sem.run, hi]
        simp [part, h1, Result.andThen, sz]
        rw [← aaa]
        simp [List.extract_eq_take_drop]
      cases d <;> simp only at h aa <;>
        first
        | (split at h
           · cases h; exact agg aa
           · cases h)
        | (by_cases h1 : i.size = 1
           · simp only [h1, ZT] at h; exact one aa (by simpa using h)
           · simp only [h1, Z2] at h; cases h)
def bt{T:TypeId}(h:P.underlying T=some d):(underlying T).run P w=.ok d w:=by
 simp[underlying,program,Sem.run,h]
def Su{T:TypeId}{e:Md}(he:co P T=e){x i:SV}{vx vi:Value}
  (h:Ko e x i=some (φ,sv)) (hφ:φ) (hx:cV β x vx) (hi:cV β i vi) :
  ∃y,(Instr.indexAt T vx vi).run P w=.ok y w/\cV β sv y:=by
 unfold co at he;unfold Ko at h;split at h
 ·rename_i len size k off kk n;cases h
  simp only[cV]at hx hi;subst hx;subst hi;split at he
  ·rename_i n' e' hu;split at he
   ·rename_i ie aa;cases he
    have sz:(sizeOf e').run P w=.ok ie.size w:=by simp[sizeOf,typeInfo,program,Sem.run,aa]
    refine⟨_,?_,rfl⟩;simp only[Instr.indexAt,ZY,asIntOf,bt hu];simp[Result.andThen,Instr.sureAddr,bt hu,hφ,sz,gG]
   ·cases he
  ·split at he<;>cases he
  ·cases he
 ·rename_i len size b off kk n;cases h
  simp only[cV]at hx hi;subst hx;subst hi;split at he
  ·rename_i n' e' hu;split at he
   ·rename_i ie aa;cases he
    have sz:(sizeOf e').run P w=.ok ie.size w:=by simp[sizeOf,typeInfo,program,Sem.run,aa]
    refine⟨_,?_,rfl⟩;simp only[Instr.indexAt,ZY,asIntOf,bt hu];simp[Result.andThen,Instr.sureAddr,bt hu,hφ,sz,gG]
   ·cases he
  ·split at he<;>cases he
  ·cases he
 ·rename_i size b off len cap kk n;cases h
  simp only[cV]at hx hi;subst hx;subst hi;split at he
  ·split at he<;>cases he
  ·rename_i e' hu;split at he
   ·rename_i ie aa;cases he
    have sz:(sizeOf e').run P w=.ok ie.size w:=by simp[sizeOf,typeInfo,program,Sem.run,aa]
    refine⟨_,?_,rfl⟩;simp only[Instr.indexAt,ZY,asIntOf,bt hu];simp[Result.andThen,bt hu,hφ,sz,gG]
   ·cases he
  ·cases he
 ·cases h
def ky{n:Nat}{s:SV}{i:Int}(h:o9 n (some s)=some i):∃k,s=.v (.int k i):=by
 cases s with
 |v x=>cases x<;>simp only[o9]at h<;>first|(cases h;done)|(cases h;exact⟨_,rfl⟩)
 |p k off=>simp[o9]at h
 |u=>simp[o9]at h
def gX{k:IntKind}{i:Int}{y:Nat}{code:BoundsCode}(h0:0<=i)(hy:i<=y):(Instr.sliceBound (.int k i) y code).run P w=.ok i.toNat w:=by
 simp[Instr.sliceBound,asIntOf,Result.andThen,h0,hy]
def dl(g:GB n0 β σ H a w){x:Operand}(h:ev σ x=.v v):a.eval x=v:=by
 have:=g.ev x;rw[h]at this;exact this
def o4{ρ:Operand->Value}{xs:Array Operand}{l:List Value}(h:xs.toList.map ρ=l):xs.map ρ=l.toArray:=by
 rw[<-aaa];simpa using h
variable{τ:TypeId}
def KT{T:TypeId}(h:P6 P T x=some v):(Builtin.len_ #[T] τ #[x]).run P w=.ok v w:=by
 unfold P6 at h;split at h
 ·rename_i hk;cases h
  unfold aY at hk;split at hk<;>cases hk;rename_i hu;simp[Builtin.len_,bt hu,Result.andThen,goInt]
 ·rename_i hk;cases h
  unfold aY at hk;split at hk<;>cases hk;rename_i hu;simp[Builtin.len_,bt hu,Result.andThen,goInt]
 ·cases h
def KX{T:TypeId}(h:QI P T x=some v):(Builtin.cap_ #[T] τ #[x]).run P w=.ok v w:=by
 unfold QI at h;split at h
 ·rename_i hk;cases h
  unfold aY at hk;split at hk<;>cases hk;rename_i hu;simp[Builtin.cap_,bt hu,Result.andThen,goInt]
 ·cases h
def xl(h:Eu x y=some v):(Builtin.min2 x y).run P w=.ok v w:=by
 unfold Eu at h;split at h
 ·cases h;simp[Builtin.min2]
 ·cases h
def MW(h:QR x y=some v):(Builtin.max2 x y).run P w=.ok v w:=by
 unfold QR at h;split at h
 ·cases h;simp[Builtin.max2]
 ·cases h
def Jf{S T:TypeId}(hs:∃d,P.underlying S=some d)(h:Hh P T x=some v):(convert S T x).run P w=.ok v w:=by
 obtain⟨ds,hs⟩:=hs;unfold Hh at h;split at h
 ·rename_i hk;cases h
  unfold aY at hk;split at hk<;>cases hk;rename_i hu;simp[convert,bt hu,bt hs,Result.andThen,Conv.intToInt]
 ·cases h
variable{o:Oper}
def AP(g:GB n0 β σ H a w){c:Call}(ho:o.op=.call c)
  (h:nV P (ev σ) c=some (φ,sv)):∃y,(execOp a.eval o).run P w=.ok (.value y) w/\cV β sv y:=by
 obtain⟨callee,args,types⟩:=c;unfold nV at h;simp only at h;split at h
 ·rename_i x t ha ht;obtain rfl:args=#[x]:=by rw[<-aaa];simpa using ha
  obtain rfl:types=#[t]:=by rw[<-aaa];simpa using ht
  split at h
  ·rename_i v hv;obtain⟨r,hr,rfl⟩:=dU h;refine⟨r,?_,rfl⟩;simp[execOp,ho,resolve,dl g hv,invoke,builtin,Result.andThen,KT hr]
  ·cases h
 ·rename_i x t ha ht;obtain rfl:args=#[x]:=by rw[<-aaa];simpa using ha
  obtain rfl:types=#[t]:=by rw[<-aaa];simpa using ht
  split at h
  ·rename_i v hv;obtain⟨r,hr,rfl⟩:=dU h;refine⟨r,?_,rfl⟩;simp[execOp,ho,resolve,dl g hv,invoke,builtin,Result.andThen,KX hr]
  ·cases h
 ·rename_i x y ha;obtain rfl:args=#[x,y]:=by rw[<-aaa];simpa using ha
  split at h
  ·rename_i v v' hv aa;obtain⟨r,hr,rfl⟩:=dU h;refine⟨r,?_,rfl⟩;simp[execOp,ho,resolve,dl g hv,dl g aa,invoke,builtin,Builtin.min_,Result.andThen,xl hr]
  ·cases h
 ·rename_i x y ha;obtain rfl:args=#[x,y]:=by rw[<-aaa];simpa using ha
  split at h
  ·rename_i v v' hv aa;obtain⟨r,hr,rfl⟩:=dU h;refine⟨r,?_,rfl⟩;simp[execOp,ho,resolve,dl g hv,dl g aa,invoke,builtin,Builtin.max_,Result.andThen,MW hr]
  ·cases h
 ·cases h
def LG(g:GB n0 β σ H a w)
  (h:pv P σ.bx (ev σ) o.op=some (φ,sv)) (hφ:φ):∃y,(execOp a.eval o).run P w=.ok (.value y) w/\cV β sv y:=by
 obtain⟨dst,op,type,pos,bv,guard⟩:=o;simp only at h;have mv:∀(x:Operand),(match ev σ x with | .u=>(none:Option (Prop×SV))|sv=>some (True,sv))=some (φ,sv)->cV β sv (a.eval x):=by
  intro x hx;have:=g.ev x;cases he:ev σ x<;>rw[he]at hx this<;>cases hx<;>exact this
 cases op<;>simp only[pv]at h<;>try (cases h;done)
 case move x=>exact⟨a.eval x,by simp[execOp],mv x h⟩
 case assign x=>exact⟨a.eval x,by simp[execOp],mv x h⟩
 case pick c x y=>
  split at h
  ·rename_i b hb;cases h
   cases b
   ·exact⟨a.eval y,by simp[execOp,dl g hb,asBool],g.ev y⟩
   ·exact⟨a.eval x,by simp[execOp,dl g hb,asBool],g.ev x⟩
  ·cases h
 case load T x=>
  unfold yF at h;split at h
  ·rename_i k off hx;split at h
   ·rename_i B hB;split at h
    ·rename_i v hv;cases h
     obtain⟨hm,rfl⟩:=qB hB;have ha:=g.ev x;rw[hx]at ha;simp only[cV]at ha;refine⟨v,?_,rfl⟩;have:=pK (P:=P) (w:=w) (off:=off) (g.bx B hm).1 hv;simp[execOp,ha,Instr.loadAt,Instr.sureAddr,this,Result.andThen]
    ·cases h
   ·cases h
  ·cases h
 case fieldAddr T x f=>
  split at h
  ·rename_i n ty hf;unfold Pw at h;split at h
   ·rename_i k off hx;cases h
    have ha:=g.ev x;rw[hx]at ha;simp only[cV]at ha;exact⟨_,by simp[execOp,ha,uU hf,Result.andThen],rfl⟩
   ·rename_i b off hx;cases h
    exact⟨_,by simp[execOp,dl g hx,uU hf,Result.andThen],rfl⟩
   ·cases h
  ·cases h
 case nilCheck x=>
  unfold HD at h;split at h
  ·rename_i k off hx;cases h
   have ha:=g.ev x;rw[hx]at ha;simp only[cV]at ha;exact⟨_,by simp[execOp,ha],rfl⟩
  ·rename_i p hx;cases h
   exact⟨_,by simp[execOp,dl g hx],rfl⟩
  ·cases h
 case indexAddr T x i=>
  obtain⟨y,hy,hm⟩:=Su (P:=P) (w:=w) (T:=T) rfl h hφ (g.ev x) (g.ev i);exact⟨y,by simp[execOp,hy,Result.andThen],hm⟩
 case index T x i=>
  unfold wj at h;split at h
  ·rename_i s k n hk hx hi;cases h
   unfold aY at hk;split at hk<;>cases hk;rename_i hu;refine⟨_,?_,rfl⟩;obtain⟨h0,h1⟩:=hφ;obtain⟨m,rfl⟩:=Int.eq_ofNat_of_zero_le h0;have hm:m<s.size:=by omega
   have hg:s[m]?=some s[m]:=by simp[hm]
   have hb:(s.data.toList.getD m 0)=s[m]:=by
    have:m<s.data.size:=hm;simp[aab this];rfl
   simp only[execOp,Instr.index,ZY,asIntOf,dl g hx,dl g hi,bt hu];simp[Result.andThen,hm,xW,hb];rfl
  ·cases h
 case field T x f=>
  split at h
  ·rename_i n ty cs hf hx;obtain⟨r,hr,rfl⟩:=dU h;refine⟨r,?_,rfl⟩;unfold aG at hf;split at hf
   ·rename_i fs hu;split at hf
    ·rename_i g' hg;split at hf
     ·split at hf
      ·cases hf
      ·cases hf
       simp[execOp,Instr.field,bt hu,Result.andThen,hg,dl g hx,asAgg,qh hr]
     ·cases hf
    ·cases hf
   ·cases hf
  ·cases h
 case extract x n=>
  split at h
  ·rename_i vs hx;obtain⟨r,hr,rfl⟩:=dU h;refine⟨r,?_,rfl⟩;have ao:vs[n]?=some r:=by simpa using hr
   simp[execOp,Instr.extract,dl g hx,ao,Result.andThen]
  ·cases h
 case build T ps=>
  split at h
  ·rename_i l hl;obtain⟨r,hr,rfl⟩:=dU h;refine⟨r,?_,rfl⟩;have hp:=yG g _ _ hl;have:(ps.map fun(i,x)=>(i,a.eval x))=l.toArray:=by rw[<-aaa];simpa using hp
   have hb:=run_build (P:=P) (w:=w) (T:=T) (parts:=l.toArray) (by simpa using hr);simp only[execOp,this,ZY,hb];simp[Result.andThen]
  ·cases h
 case binOp op T x y T'=>
  split at h
  ·rename_i v v' hx hy;obtain⟨r,hr,rfl⟩:=dU h;refine⟨r,?_,rfl⟩;have:=Ns (P:=P) (w:=w) (T:=T) (ox:=x) (oy:=y) hr;simp only[execOp,dl g hx,dl g hy,ZY]at this |-;rw[this];simp[Result.andThen]
  ·cases h
 case unOp op T x=>
  split at h
  ·rename_i v hx;obtain⟨r,hr,rfl⟩:=dU h;exact⟨r,by simp[execOp,dl g hx,Pc hr,Result.andThen],rfl⟩
  ·cases h
 case convert s d x=>
  split at h
  ·rename_i v hs hx;obtain⟨r,hr,rfl⟩:=dU h;exact⟨r,by simp[execOp,dl g hx,Jf (P:=P) (w:=w) (Option.isSome_iff_exists.1 hs) hr,Result.andThen],rfl⟩
  ·cases h
 case makeFunc fn f c=>
  split at h
  ·rename_i l m hl hm;cases h
   refine⟨_,?_,rfl⟩;simp[execOp,o4 (rQ g _ _ hl),o4 (rQ g _ _ hm),Instr.makeFunc,Result.andThen]
  ·cases h
 case slice T x lo hi mx=>
  cases mx with
  |some m=>cases h
  |none=>
   simp only at h;unfold mg at h;split at h
   ·rename_i size aa len cap hk he hx;unfold aY at hk;split at hk<;>cases hk;rename_i e hu;have am:(sizeOf e).run P w=.ok size w:=by
     unfold co at he;rw[hu]at he;simp only at he;split at he
     ·rename_i ie aS;cases he;simp[sizeOf,typeInfo,program,Sem.run,aS]
     ·cases he
    have aj:=dl g hx;cases lo with
    |none=>
     cases hi with
     |none=>
      simp only[aac,o9]at h;cases h
      exact⟨_,by simp[execOp,Instr.sliceAt,aj,bt hu,Instr.slice,Instr.sliceBounds,Result.andThen,am,sO],rfl⟩
     |some zh=>
      simp only[aac,Z9]at h;split at h
      ·rename_i l hh aq hl ac hs;cases hs
       cases h
       obtain⟨k2,hz⟩:=ky ac;simp only[o9,ZW]at hl;subst hl;have r1:=gX (P:=P) (w:=w) (k:=k2) (code:=.sliceAcap) (y:=cap) hφ.1.2 hφ.2;exact⟨_,by simp[execOp,Instr.sliceAt,aj,bt hu,Instr.slice,Instr.sliceBounds,Result.andThen,am,sO,dl g hz,r1],rfl⟩
      ·rename_i hs;cases hs
      ·cases h
    |some zl=>
     cases hi with
     |none=>
      simp only[aac,Z9]at h;split at h
      ·rename_i hs;cases hs
      ·rename_i l hh hl ac _;cases h
       obtain⟨k2,hz⟩:=ky hl;simp only[o9,ZW]at ac;subst ac;have r1:=gX (P:=P) (w:=w) (k:=k2) (code:=.sliceB) (y:=len) hφ.1 hφ.2;exact⟨_,by simp[execOp,Instr.sliceAt,aj,bt hu,Instr.slice,Instr.sliceBounds,Result.andThen,am,sO,dl g hz,r1],rfl⟩
      ·cases h
     |some zh=>
      simp only[Z9]at h;split at h
      ·rename_i l hh aq hl ac hs;cases hs
       cases h
       obtain⟨k1,ak⟩:=ky hl;obtain⟨k2,an⟩:=ky ac;have h0:=hφ.1.1;have h1:=hφ.1.2;have r1:=gX (P:=P) (w:=w) (k:=k2) (code:=.sliceAcap) (y:=cap) ab hφ.2;have r2:=gX (P:=P) (w:=w) (k:=k1) (code:=.sliceB) (y:=hh.toNat) h0 ab;exact⟨_,by simp[execOp,Instr.sliceAt,aj,bt hu,Instr.slice,Instr.sliceBounds,Result.andThen,am,sO,dl g ak,dl g an,r1,r2],rfl⟩
      ·rename_i hs;cases hs
      ·cases h
   ·rename_i e s hk hx;unfold aY at hk;split at hk<;>cases hk;rename_i hu;have aj:=dl g hx;split at h
    ·rename_i l hh hl ac;cases h
     have h0:=hφ.1.1;have h1:=hφ.1.2;have h2:=hφ.2;cases lo with
     |none=>
      simp only[aac,o9,ZW]at hl;subst hl;cases hi with
      |none=>
       simp only[aac,o9,ZW]at ac;subst ac;exact⟨_,by simp[execOp,Instr.sliceAt,aj,bt hu,Instr.slice,Instr.sliceBounds,Result.andThen],rfl⟩
      |some zh=>
       obtain⟨k2,hz⟩:=ky ac;have r1:=gX (P:=P) (w:=w) (k:=k2) (code:=.sliceAlen) (y:=s.size) h1 h2;exact⟨_,by simp[execOp,Instr.sliceAt,aj,bt hu,Instr.slice,Instr.sliceBounds,Result.andThen,dl g hz,r1],rfl⟩
     |some zl=>
      obtain⟨k1,ak⟩:=ky hl;cases hi with
      |none=>
       simp only[aac,o9,ZW]at ac;subst ac;have r1:=gX (P:=P) (w:=w) (k:=k1) (code:=.sliceB) (y:=s.size) h0 h1;exact⟨_,by simp[execOp,Instr.sliceAt,aj,bt hu,Instr.slice,Instr.sliceBounds,Result.andThen,dl g ak,r1],rfl⟩
      |some zh=>
       obtain⟨k2,an⟩:=ky ac;have r1:=gX (P:=P) (w:=w) (k:=k2) (code:=.sliceAlen) (y:=s.size) ab h2;have r2:=gX (P:=P) (w:=w) (k:=k1) (code:=.sliceB) (y:=hh.toNat) h0 ab;exact⟨_,by simp[execOp,Instr.sliceAt,aj,bt hu,Instr.slice,Instr.sliceBounds,Result.andThen,dl g ak,dl g an,r1,r2],rfl⟩
    ·cases h
   ·cases h
 case call c=>exact AP (o:=⟨dst,.call c,type,pos,bv,guard⟩) g rfl h
def iO(h:B∈dR l k):B∈l/\B.key≠k:=by
 induction l with
 |nil=>simp[dR]at h
 |cons b l ih=>
  simp only[dR]at h;split at h
  ·obtain⟨h1,h2⟩:=ih h;exact⟨.tail _ h1,h2⟩
  ·rcases List.mem_cons.1 h with rfl|h
   ·exact⟨.head _,by assumption⟩
   ·obtain⟨h1,h2⟩:=ih h;exact⟨.tail _ h1,h2⟩
def mT{x:js}:B∈gU x l<->B=x\/B∈l:=by
 induction l with
 |nil=>simp[gU]
 |cons b l ih=>
  simp only[gU];split
  ·simp only[aad,ih];constructor<;>(intro h;rcases h with h|h|h<;>simp_all)
  ·simp
def pO(h:l.Pairwise (fun x y=>x.key≠y.key)):(dR l k).Pairwise (fun x y=>x.key≠y.key):=by
 induction l with
 |nil=>simp[dR]
 |cons b l ih=>
  rw[aae]at h;simp only[dR];split
  ·exact ih h.2
  ·exact List.pairwise_cons.2 ⟨fun y hy=>h.1 y (iO hy).1,ih h.2⟩
def yV{x:js}(h:l.Pairwise (fun x y=>x.key≠y.key))(hx:∀B∈l,B.key≠x.key):(gU x l).Pairwise (fun x y=>x.key≠y.key):=by
 induction l with
 |nil=>simp[gU]
 |cons b l ih=>
  have h':=h;rw[aae]at h;simp only[gU];split
  ·refine List.pairwise_cons.2 ⟨fun y hy=>?_,ih h.2 fun B hB=>hx B (.tail _ hB)⟩;rcases mT.1 hy with rfl|hy
   ·exact hx b (.head _)
   ·exact h.1 y hy
  ·refine List.pairwise_cons.2 ⟨fun y hy=>(hx y hy).symm,h'⟩
def Ls{off:Nat}(hk:l.Pairwise (fun x y=>x.key≠y.key))(h:B∈rz l k off cs):
  (B∈l/\B.key≠k)\/(∃B0∈l,B0.key=k/\B={ B0 with cs:=br B0.cs off cs }):=by
 induction l with
 |nil=>simp[rz]at h
 |cons b l ih=>
  rw[aae]at hk;simp only[rz]at h;split at h
  ·rename_i e;rcases List.mem_cons.1 h with rfl|h
   ·exact .inr ⟨b,.head _,e,rfl⟩
   ·exact .inl ⟨.tail _ h,fun e'=>hk.1 B h (e.trans e'.symm)⟩
  ·rename_i e;rcases List.mem_cons.1 h with rfl|h
   ·exact .inl ⟨.head _,e⟩
   ·rcases ih hk.2 h with ⟨h1,h2⟩|⟨B0,h1,h2,h3⟩
    ·exact .inl ⟨.tail _ h1,h2⟩
    ·exact .inr ⟨B0,.tail _ h1,h2,h3⟩
def uj(l:List js)(k off:Nat)(cs:List Value):(rz l k off cs).map (·.key)=l.map (·.key):=by
 induction l with
 |nil=>rfl
 |cons b l ih=>simp only[rz];split<;>simp[ih]
def qM(P:Program)(ρ:Operand->SV)(op:Op):Option (TypeId×List Value):=
 match op with
 | .alloc T=>match aV P T with|some z=>some (T,z.cells.toList)|none=>none
 | .box T x=>match ρ x with | .v v=>some (T,v.cells.toList)|_=>none
 |_=>none
def nn{o:Obj}(h:b<w.heap.size):(w.heap.push o)[b]?=w.heap[b]?:=by
 rw[Array.getElem?_push,ZV ab]
variable{w0:World}{H0:PH}
def dM.alloc(s:dM H0 w0 H w)(o:Obj):dM H0 w0 H { w with heap:=w.heap.push o } where
 sub:=fun b x h=>by
  have:=s.sub b x h;have hb:b<w.heap.size:=by
   rcases aaf b w.heap.size with h|h
   ·exact h
   ·rw[aag h]at this;cases this
  rw[show ({ w with heap:=w.heap.push o }:World).heap=w.heap.push o from rfl,nn hb];exact this
 size:=by simp;have:=s.size;omega
 priv:=fun b hb hn=>by
  rw[show ({ w with heap:=w.heap.push o }:World).heap=w.heap.push o from rfl,nn (Nat.lt_of_lt_of_le hb s.size)];exact s.priv b hb hn
 dom:=s.dom
 os:=s.os
 tape:=s.tape
 out:=s.out
def eO{o:Obj}(h:w.heap[b]?=some o):b<w.heap.size:=by
 rcases aaf b w.heap.size with h1|h1
 ·exact h1
 ·rw[aag h1]at h;cases h
theorem GB.newBox(hn:n0=w0.heap.size)(s:dM H0 w0 H w)(g:GB n0 β σ H a w)(d:Nat)(T:TypeId)(cs:List Value):
  GB n0 (fun k=>if k=d then w.heap.size else β k) (σ.newBox d T cs) H (a.put (some d) (.pointer (some ⟨w.heap.size,0,none⟩))) { w with heap:=w.heap.push (.cells cs.toArray T (0,0)) }:=by
 have old:∀B∈dR σ.bx d,B∈σ.bx/\B.key≠d:=fun B h=>iO h;have lt:∀B∈σ.bx,β B.key<w.heap.size:=fun B h=>eO (g.bx B h).1;have an:=s.size;constructor
 ·exact g.defers
 ·simp[Act.put,St.newBox,u7,g.size]
 ·intro t x hx;simp only[St.newBox,gh,aah]at hx;have ak:=g.size;by_cases e:d=t
  ·subst e;simp only[ZT]at hx;split at hx
   ·cases hx
    rename_i hl;simp only[Act.put,ZU];rw[Array.getElem?_setIfInBounds_self_of_lt ab];simp[cV]
   ·cases hx
  ·simp only[ZV e,aai,Z8]at hx;obtain⟨sv,ac,rfl⟩:=hx;have:=g.tm t sv ac;have h2:(a.put (some d) (.pointer (some ⟨w.heap.size,0,none⟩))).tmps.getD t undef=a.tmps.getD t undef:=by
    simp[Act.put,ZU,Array.getElem?_setIfInBounds_ne e]
   rw[h2];cases sv with
   |v x=>exact this
   |u=>trivial
   |p k off=>
    simp only[kQ];split
    ·trivial
    ·rename_i hk;simpa[cV,hk]using this
 ·intro B hB;rcases mT.1 hB with rfl|hB
  ·refine⟨by simp,?_⟩;simp only[ZT];cases hH:H w.heap.size with
   |none=>rfl
   |some o=>exact absurd (eO (s.sub _ _ hH)) ab
  ·obtain⟨hm,hk⟩:=old B hB;simp only[ZV hk];have:=g.bx B hm;refine⟨?_,this.2⟩;rw[nn (lt B hm)];exact this.1
 ·intro B hB B' aa he;rcases mT.1 hB with rfl|hB<;>rcases mT.1 aa with rfl|aa
  ·rfl
  ·obtain⟨hm,hk⟩:=old B' aa;simp only[ZT,ZV hk]at he;have:=lt B' hm;omega
  ·obtain⟨hm,hk⟩:=old B hB;simp only[ZT,ZV hk]at he;have:=lt B hm;omega
  ·obtain⟨hm,hk⟩:=old B hB;obtain⟨aj,am⟩:=old B' aa;simp only[ZV hk,ZV am]at he;exact g.inj B hm B' aj he
 ·intro B hB;rcases mT.1 hB with rfl|hB
  ·simp;omega
  ·obtain⟨hm,hk⟩:=old B hB;simp only[ZV hk];exact g.lo B hm
 ·exact yV (pO g.keys) fun B hB=>(old B hB).2
def EL(g:GB n0 β σ H a w){T:TypeId}
  (h:qM P (ev σ) o.op=some (T,cs)):(execOp a.eval o).run P w=.ok (.value (.pointer (some ⟨w.heap.size,0,none⟩))) { w with heap:=w.heap.push (.cells cs.toArray T (0,0)) }:=by
 obtain⟨dst,op,type,pos,bv,guard⟩:=o;simp only at h;cases op<;>simp only[qM]at h<;>try (cases h;done)
 case alloc T'=>
  unfold aV at h;cases hi:P.info? T' with
  |none=>rw[hi]at h;cases h
  |some i=>
   rw[hi]at h;simp only[jO]at h;cases hz:i.zero with
   |none=>rw[hz]at h;cases h
   |some z=>
    rw[hz]at h;have zv:(zeroValue T').run P w=.ok z w:=by simp[zeroValue,typeInfo,program,Sem.run,hi,hz]
    cases h
    simp[execOp,Instr.alloc,zv,Result.andThen,newVar,newRow,newObj,Sem.run]
 case box T' x=>
  split at h
  ·rename_i v hv;cases h
   simp[execOp,Instr.box,dl g hv,Result.andThen,newVar,newRow,newObj,Sem.run]
  ·cases h
def vD(P:Program)(bx:List js)(ρ:Operand->SV)(op:Op):Option (Nat×Nat×List Value):=
 match op with
 | .store T x y=>match ρ x,ρ y with
  | .p k off,.v v=>match kI v,bY P T,eJ bx k with
   |some cs,some n,some B=>if cs.length=n/\off+n<=B.cs.length then some (k,off,cs)else none
   |_,_,_=>none
  |_,_=>none
 |_=>none
def iu{P:Program}(b:Nat)(ty:TypeId):∀(vs:List Value) (i off:Nat) (cs:List Value) (w:World),w.heap[b]?=some (.cells cs.toArray ty (0,0))->off+i+vs.length<=cs.length->(∀v∈vs,one v=true)->
  ∃w2,(storeCells ⟨b,off,none⟩ vs i).run P w=.ok () w2/\w2.heap[b]?=some (.cells (br cs (off+i) vs).toArray ty (0,0))/\(∀k,k≠b->w2.heap[k]?=w.heap[k]?)/\w2.heap.size=w.heap.size/\w2.os=w.os/\w2.tape=w.tape/\w2.output=w.output
 | [],i,off,cs,w,h,_,_=>⟨w,by simp[storeCells],by simpa[br]using h,fun _ _=>rfl,rfl,rfl,rfl,rfl⟩
 |v::vs,i,off,cs,w,h,hl,ho=>by
  simp only[aaj]at hl;have hc:w.cell? ⟨b,off+i,none⟩=cs[off+i]?:=sQ h (off+i);have ac:off+i<cs.length:=by omega
  have hf:w.frozen? ⟨b,off+i,none⟩=false:=by simp[World.frozen?,h]
  have aa:=ho v (.head _);have hs:(w.setCell ⟨b,off+i,none⟩ v).heap[b]?=some (.cells (cs.set (off+i) v).toArray ty (0,0)):=by
   simp[World.setCell,Array.getElem?_modify,h]
  obtain⟨w2,h1,h2,h3,h4,h5,h6,h7⟩:=iu (P:=P) b ty vs (i+1) off (cs.set (off+i) v) (w.setCell ⟨b,off+i,none⟩ v) hs (by simp;omega) fun u hu=>ho u (.tail _ hu);have run1:(store ((⟨b,off,none⟩:Addr).add i) v).run P w=.ok () (w.setCell ⟨b,off+i,none⟩ v):=by
   rw[gG];have aj:w.cell? ⟨b,off+i,none⟩=some cs[off+i]:=by rw[hc,aak ac]
   cases v<;>first|(exact absurd aa Bool.false_ne_true)|(simp only[store,Sem.run,aj,hf];rfl)
  refine⟨w2,?_,?_,?_,?_,?_,?_,?_⟩
  ·simp only[storeCells,ZY,run1,Result.andThen];exact h1
  ·rw[h2,br];rfl
  ·intro k hk;rw[h3 k hk];simp[World.setCell,Array.getElem?_modify,Ne.symm hk]
  ·rw[h4];simp[World.setCell]
  ·rw[h5];rfl
  ·rw[h6];rfl
  ·rw[h7];rfl
def E9(hn:n0=w0.heap.size)(s:dM H0 w0 H w)(g:GB n0 β σ H a w){off:Nat}
  (h:vD P σ.bx (ev σ) o.op=some (k,off,cs)) :
  ∃w2,(execOp a.eval o).run P w=.ok .skip w2/\dM H0 w0 H w2/\GB n0 β (σ.store k off cs) H a w2:=by
 obtain⟨dst,op,type,pos,bv,guard⟩:=o;simp only at h;cases op<;>simp only[vD]at h<;>try (cases h;done)
 rename_i T x y;split at h
 case h_2=>cases h
 rename_i k' off' v hx hy;split at h
 case h_2=>cases h
 rename_i cs' n B aS ak hB;split at h
 case isFalse=>cases h
 rename_i hc;cases h
 obtain⟨a1,a6⟩:=hc;obtain⟨hm,rfl⟩:=qB hB;obtain⟨aa,am⟩:=sw aS;have ha:=g.ev x;rw[hx]at ha;simp only[cV]at ha;have hv:=dl g hy;have sz:(sizeOf T).run P w=.ok n w:=by
  unfold bY at ak;simp only[Z8]at ak;obtain⟨i,hi,rfl⟩:=ak;simp[sizeOf,typeInfo,program,Sem.run,hi]
 obtain⟨hb,ac⟩:=g.bx B hm;obtain⟨w2,h1,h2,h3,h4,h5,h6,h7⟩:=iu (P:=P) (β B.key) B.ty cs 0 off B.cs w hb ab am;have a5:=g.lo B hm;have a4:=s.size;refine⟨w2,?_,?_,?_⟩
 ·have a0:v.cells.size=n:=by rw[<-a1,<-aa];simp
  simp only[execOp,Instr.storeAt,ha,hv,Instr.sureAddr,storeVar,ZY];simp[Result.andThen,sz,a0,aa,h1]
 ·refine⟨fun b x aj=>?_,ab,fun b a2 aq=>?_,s.dom,by rw[h5];exact s.os,by rw[h6];exact s.tape,by rw[h7];exact s.out⟩
  ·rw[h3 b (fun e=>by subst e;rw[ac]at aj;cases aj)];exact s.sub b x aj
  ·rw[h3 b ab];exact s.priv b a2 aq
 ·have keyIn:∀B'∈rz σ.bx B.key off cs,∃B0∈σ.bx,B0.key=B'.key:=by
   intro B' ao;have:B'.key∈(rz σ.bx B.key off cs).map (·.key):=List.mem_map.2 ⟨B',ao,rfl⟩;rw[uj]at this;obtain⟨B0,h1,h2⟩:=List.mem_map.1 this;exact⟨B0,h1,h2⟩
  refine⟨g.defers,g.size,g.tm,?_,?_,?_,?_⟩
  ·intro B' ao;rcases Ls g.keys ao with ⟨h8,h9⟩|⟨B0,h8,h9,rfl⟩
   ·refine⟨?_,(g.bx B' h8).2⟩;rw[h3 _ (fun e=>h9 (g.inj B' h8 B hm e))];exact(g.bx B' h8).1
   ·have:B0=B:=by
     by_cases e:B0=B
     ·exact e
     ·exfalso;have:=g.keys;rcases List.mem_iff_getElem.1 h8 with ⟨i,hi,rfl⟩
      rcases List.mem_iff_getElem.1 hm with ⟨j,hj,rfl⟩
      rcases aal i j with h|h|h
      ·exact(List.pairwise_iff_getElem.1 this i j hi hj h) h9
      ·subst h;exact e rfl
      ·exact(List.pairwise_iff_getElem.1 this j i hj hi h) h9.symm
    subst this;exact⟨by simpa using h2,ac⟩
  ·intro B1 an B2 a3 he;obtain⟨C1,c1,e1⟩:=keyIn B1 an;obtain⟨C2,c2,e2⟩:=keyIn B2 a3;rw[<-e1,<-e2]at he |-;exact g.inj C1 c1 C2 c2 he
  ·intro B1 an;obtain⟨C1,c1,e1⟩:=keyIn B1 an;rw[<-e1];exact g.lo C1 c1
  ·have:((rz σ.bx B.key off cs).map (·.key)).Pairwise (·≠·):=by rw[uj];exact List.pairwise_map.2 g.keys
   exact List.pairwise_map.1 this
def aH(ol:List Oper)(σ:St)(o:Oper):Option Bool:=
 match o.guard with
 |none=>some true
 |some (j,want)=>match ol[j]? with
  |some o'=>match o'.dst with
   |some t=>match oY σ.tm t with
    | .v (.bool b)=>some (b == want)
    | .v (.tuple _)=>some false
    |_=>none
   |none=>none
  |none=>none
variable{ops:Array Oper}
def rf(g:GB n0 β σ H a w){r:Bool}(h:aH ops.toList σ o=some r):
  Region.wanted o (yielded ops a.tmps)=r:=by
 unfold aH at h;unfold Region.wanted;split at h
 ·rename_i hg;simp only[hg];cases h;rfl
 ·rename_i j want hg;simp only[hg];split at h
  ·rename_i o' ho;split at h
   ·rename_i t ht;split at h
    ·rename_i b hb;cases h
     have ac:ops[j]?=some o':=by simpa using ho
     have hy:yielded ops a.tmps j=some b:=by
      unfold yielded;simp only[ac,jO,ht];rw[eX]at hb;cases hs:σ.tm[t]? with
      |none=>rw[hs]at hb;cases hb
      |some sv=>
       rw[hs]at hb;simp only[aam]at hb;subst hb;have h1:=g.tm t _ hs;simp only[cV]at h1;have aa:t<a.tmps.size:=by
        rw[g.size];rcases aaf t σ.tm.length with h|h
        ·exact h
        ·rw[aan h]at hs;cases hs
       rw[ZU,aab aa]at h1;simp only[aam]at h1;simp[aa,h1]
     rw[hy];cases b<;>cases want<;>rfl
    ·rename_i vs hb;cases h
     have ac:ops[j]?=some o':=by simpa using ho
     have hy:yielded ops a.tmps j=none:=by
      unfold yielded;simp only[ac,jO,ht];rw[eX]at hb;cases hs:σ.tm[t]? with
      |none=>rw[hs]at hb;cases hb
      |some sv=>
       rw[hs]at hb;simp only[aam]at hb;subst hb;have h1:=g.tm t _ hs;simp only[cV]at h1;have aa:t<a.tmps.size:=by
        rw[g.size];rcases aaf t σ.tm.length with h|h
        ·exact h
        ·rw[aan h]at hs;cases hs
       rw[ZU,aab aa]at h1;simp only[aam]at h1;simp[aa,h1]
     rw[hy];rfl
    ·cases h
   ·cases h
  ·cases h
def bN(σ:St)(x:Operand):Value:=match ev σ x with | .v y=>y|_=>undef
def ul:SV->Bool | .v _=>true|_=>false
def fT:Op->Bool | .select ..=>false|_=>true
def bh(σ:St)(op:Op):Bool:=fT op && op.operands.toList.all fun x=>ul (ev σ x)
def yz(g:GB n0 β σ H a w)(h:bh σ o.op=true):execOp (bN σ) o=execOp a.eval o:=by
 simp only[bh,aao,aap]at h;refine execOp_congr o (fun cs b e=>by rw[e]at h;exact absurd h.1 (by simp[fT])) fun x hx=>?_;have h1:=h.2 x (by simpa using hx);unfold bN;cases he:ev σ x with
 |v y=>exact(dl g he).symm
 |p k off=>rw[he]at h1;cases h1
 |u=>rw[he]at h1;cases h1
def Cv(P:Program)(w:World)(H:PH)(Ψ:SV->PH->Prop):Result Next->Prop
 | .ok (.value v) w2=>∃H2,dM H w H2 w2/\Ψ (.v v) H2
 | .ok .skip w2=>∃H2,dM H w H2 w2/\Ψ .u H2
 | .ok (.enter f args) w2=>Calls P f args w2 fun e w3=>match e with
  | .returned v=>∃H2,dM H w H2 w3/\Ψ (.v v) H2
  |_=>False
 |_=>False
def de(P:Program)(s:Sem Next)(H:PH)(Ψ:SV->PH->Prop):Prop:=∀w,Sub H w->Cv P w H Ψ (s.run P w)
variable{s:Sem Next}
def de.mono{Ψ Ψ':SV->PH->Prop}(h:de P s H Ψ)(k:∀sv H2,Ψ sv H2->Ψ' sv H2):de P s H Ψ':=by
 intro w hw;have hr:=h w hw;unfold Cv at hr |-;split at hr
 ·obtain⟨H2,a,b⟩:=hr;exact⟨H2,a,k _ _ b⟩
 ·obtain⟨H2,a,b⟩:=hr;exact⟨H2,a,k _ _ b⟩
 ·refine hr.mono fun e w3 he=>?_;cases e with
  |returned v=>obtain⟨H2,a,b⟩:=he;exact⟨H2,a,k _ _ b⟩
  |outgrown=>exact he
  |panicked c=>exact he
 ·exact hr
def Yz(P:Program)(σ:St)(H:PH)(o:Oper)(sv:SV):Prop:=
 (∃φ,pv P σ.bx (ev σ) o.op=some (φ,sv)/\φ)\/
 (∃v,sv=.v v/\bh σ o.op=true/\∀w,Sub H w->(execOp (bN σ) o).run P w=.ok (.value v) w)
def CV (P : Program) (ol : List Oper) (o : Oper) (K : St → PH → Prop) (σ : St) (H : PH) : Prop :=
  (aH ol σ o = some false ∧ K (σ.put o.dst (.v undef)) H) ∨
  (aH ol σ o = some true ∧
    ((∃ sv, Yz P σ H o sv ∧ K (σ.put o.dst sv) H) ∨
     (∃ d T cs, o.dst = some d ∧ qM P (ev σ) o.op = some (T, cs) ∧ K (σ.newBox d T cs) H) ∨
     (∃ k off cs, vD P σ.bx (ev σ) o.op = some (k, off, cs) ∧ K ((σ.store k off cs).put o.dst .u) H) ∨
     (bh σ o.op = true ∧ de P (execOp (bN σ) o) H fun sv H2 => K (σ.put o.dst sv) H2)))
def V(P:Program)(ol:List Oper)(K:St->PH->Prop):List Nat->St->PH->Prop
 | [],σ,H=>K σ H
 |i::l,σ,H=>match ol[i]? with
  |none=>V P ol K l σ H
  |some o=>CV P ol o (V P ol K l) σ H
def QK(n0:Nat)(H0:PH)(w0:World)(K:St->PH->Prop):Exit->Act->World->Prop
 | .normal,a,w=>∃σ H,K σ H/\dM H0 w0 H w/\G n0 σ H a w
 |_,_,_=>False
theorem GB.step{w2:World}(g:GB n0 β σ H a w)(t:dM H w H2 w2):GB n0 β σ H2 a w2:=
 ⟨g.defers,g.size,g.tm,fun B hB=>by
  obtain⟨h1,h2⟩:=g.bx B hB;have aa:=eO h1;exact⟨by rw[t.priv _ aa h2];exact h1,t.dom _ aa h2⟩,g.inj,g.lo,g.keys⟩
def mp{i:Nat}(hi:ops[i]?=some o){K:St->PH->Prop}{K':Act->World->Prop}(hn:n0=w0.heap.size){KQ:St->PH->Prop}
  (hK:∀σ H a w,K σ H->dM H0 w0 H w->G n0 σ H a w->K' a w)     (h:CV P ops.toList o K σ H) (s:dM H0 w0 H w) (g:G n0 σ H a w) :
  wpOp P ops (QK n0 H0 w0 KQ) i K' a w:=by
 obtain⟨β,g⟩:=g;unfold wpOp;simp only[hi];rcases h with ⟨hw,hk⟩|⟨hw,h⟩
 ·rw[rf g hw];exact hK _ _ _ _ hk s ⟨β,g.put o.dst rfl⟩
 ·rw[rf g hw,aaq rfl];rcases h with ⟨sv,hv,hk⟩|⟨d,T,cs,hd,ao,hk⟩|⟨k,off,cs,ak,hk⟩|⟨aj,am⟩
  ·left
   rcases hv with ⟨φ,hp,hφ⟩|⟨v,rfl,aj,ac⟩
   ·obtain⟨y,hy,hm⟩:=LG (P:=P) g hp hφ;simp only[Oper.wp,hy,Oper.upon];exact hK _ _ _ _ hk s ⟨β,g.put o.dst hm⟩
   ·have:=ac w s.sub;rw[yz g aj]at this;simp only[Oper.wp,this,Oper.upon];exact hK _ _ _ _ hk s ⟨β,g.put o.dst rfl⟩
  ·left
   simp only[Oper.wp,EL g ao,Oper.upon,hd];exact hK _ _ _ _ hk (s.alloc _) ⟨_,g.newBox hn s d T cs⟩
  ·left
   obtain⟨w2,h1,h2,h3⟩:=E9 hn s g ak;simp only[Oper.wp,h1,Oper.upon];exact hK _ _ _ _ hk h2 ⟨β,h3.put o.dst zM⟩
  ·have an:=yz g aj;have aa:=am w s.sub
   left
   rw[an]at aa;simp only[Oper.wp];unfold Cv at aa;split at aa
   ·rename_i v w2 hr;obtain⟨H2,t,hk⟩:=aa;simp only[hr,Oper.upon];exact hK _ _ _ _ hk (s.trans t) ⟨β,(g.step t).put o.dst rfl⟩
   ·rename_i w2 hr;obtain⟨H2,t,hk⟩:=aa;simp only[hr,Oper.upon];exact hK _ _ _ _ hk (s.trans t) ⟨β,(g.step t).put o.dst zM⟩
   ·rename_i f args w2 hr;simp only[hr,Oper.upon];refine aa.mono fun e w3 he=>?_;cases e with
    |returned v=>
     obtain⟨H2,t,hk⟩:=he;exact hK _ _ _ _ hk (s.trans t) ⟨β,(g.step t).put o.dst rfl⟩
    |outgrown=>exact he.elim
    |panicked c=>exact he.elim
   ·exact aa.elim
def Bg{P:Program}{ops:Array Oper}{K:St->PH->Prop}{n0:Nat}{H0:PH}{w0:World}(hn:n0=w0.heap.size):∀(l:List Nat) {σ:St} {H:PH} {a:Act} {w:World},
  V P ops.toList K l σ H->dM H0 w0 H w->G n0 σ H a w->wpOps P ops (QK n0 H0 w0 K) l a w
 | [],σ,H,a,w,h,s,g=>⟨σ,H,h,s,g⟩
 |i::l,σ,H,a,w,h,s,g=>by
  simp only[V]at h;rw[wpOps_cons];cases ho:ops[i]? with
  |none=>
   have:ops.toList[i]?=none:=by simpa using ho
   rw[this]at h;simp only[wpOp,ho];exact Bg hn l h s g
  |some o=>
   have:ops.toList[i]?=some o:=by simpa using ho
   rw[this]at h;exact mp ho hn (fun σ' H' a' w' hk s' g'=>Bg hn l hk s' g') h s g
def PH.put(H:PH)(b:Nat)(o:Obj):PH:=fun c=>if c=b then some o else H c
def PH.le_put{o:Obj}(h:H b=none):H.le (H.put b o):=fun c x hx=>by
 by_cases e:c=b
 ·subst e;rw[h]at hx;cases hx
 ·simp[PH.put,e,hx]
def dM.new(s:Sub H w)(o:Obj):H w.heap.size=none/\dM H w (H.put w.heap.size o) { w with heap:=w.heap.push o }:=by
 have hn:H w.heap.size=none:=by
  cases hH:H w.heap.size with
  |none=>rfl
  |some o=>exact absurd (eO (s _ _ hH)) ab
 refine⟨hn,fun b x h=>?_,by simp,fun b hb _=>?_,fun b hb aa=>?_,rfl,rfl,rfl⟩
 ·by_cases e:b=w.heap.size
  ·subst e;simp only[PH.put,ZT]at h;cases h;simp
  ·simp only[PH.put,ZV e]at h;rw[show ({ w with heap:=w.heap.push o }:World).heap=w.heap.push o from rfl,nn (eO (s _ _ h))];exact s _ _ h
 ·rw[show ({ w with heap:=w.heap.push o }:World).heap=w.heap.push o from rfl,nn hb]
 ·simp[PH.put,Nat.ne_of_lt hb,aa]
def dM.beside{w2:World}{o:Obj}(hb:H b=none)(s:Sub (H.put b o) w)(t:dM H w H2 w2):H2 b=none/\dM (H.put b o) w (H2.put b o) w2:=by
 have aa:w.heap[b]?=some o:=s b o (by simp[PH.put]);have ac:=eO aa;have h2b:=t.dom b ac hb;refine⟨h2b,fun c x hc=>?_,t.size,fun c hc hn=>?_,fun c hc hn=>?_,t.os,t.tape,t.out⟩
 ·by_cases e:c=b
  ·subst e;simp only[PH.put,ZT]at hc;cases hc;rw[t.priv _ ac hb];exact aa
  ·simp only[PH.put,ZV e]at hc;exact t.sub c x hc
 ·by_cases e:c=b
  ·subst e;simp[PH.put]at hn
  ·simp only[PH.put,ZV e]at hn;exact t.priv c hc hn
 ·by_cases e:c=b
  ·subst e;simp[PH.put]at hn
  ·simp only[PH.put,ZV e]at hn |-;exact t.dom c hc hn
def Sub.unput{o:Obj}(hb:H b=none)(s:Sub (H.put b o) w):Sub H w:=s.of_le (PH.le_put hb)
def de.beside{Ψ:SV->PH->Prop}{o:Obj}(hb:H b=none)(h:de P s H Ψ):de P s (H.put b o) fun sv H2'=>∃H2,H2'=H2.put b o/\H2 b=none/\Ψ sv H2:=by
 intro w hw;have hr:=h w (hw.unput hb);unfold Cv at hr |-;split at hr
 ·obtain⟨H2,t,p⟩:=hr;obtain⟨n,t'⟩:=t.beside hb hw;exact⟨_,t',H2,rfl,n,p⟩
 ·obtain⟨H2,t,p⟩:=hr;obtain⟨n,t'⟩:=t.beside hb hw;exact⟨_,t',H2,rfl,n,p⟩
 ·refine hr.mono fun e w3 he=>?_;cases e with
  |returned v=>obtain⟨H2,t,p⟩:=he;obtain⟨n,t'⟩:=t.beside hb hw;exact⟨_,t',H2,rfl,n,p⟩
  |outgrown=>exact he
  |panicked c=>exact he
 ·exact hr
def BF(P:Program)(s:Sem Next)(f:Nat->Value)(ob:Obj):Prop:=∀w,s.run P w=.ok (.value (f w.heap.size)) { w with heap:=w.heap.push ob }
theorem BF.op{f:Nat->Value}{ob:Obj}(h:BF P s f ob)(H:PH):de P s H fun sv H2=>∃b,H b=none/\sv=.v (f b)/\H2=H.put b ob:=by
 intro w hw;rw[h w];obtain⟨n1,n2⟩:=dM.new hw ob;exact⟨_,n2,_,n1,rfl,rfl⟩
end Go.Sx
