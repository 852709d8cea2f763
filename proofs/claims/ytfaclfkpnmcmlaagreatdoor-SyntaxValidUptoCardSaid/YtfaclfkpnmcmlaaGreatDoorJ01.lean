import Derived.Test.YtfaclfkpnmcmlaaGreatDoorJ00
set_option maxHeartbeats 8000000
set_option linter.all false
namespace Go.Sx
open Go
inductive Cl where
 |val|alc|st|gen|nw
 deriving DecidableEq
def eZ:Op->Cl
 | .alloc _ | .box ..=>.alc
 | .store ..=>.st
 | .move _ | .assign _ | .pick .. | .load .. | .binOp .. | .unOp .. | .convert .. | .fieldAddr .. | .field .. | .indexAddr .. | .index .. | .extract ..
 | .build .. | .nilCheck _ | .makeFunc .. | .lookup .. | .slice ..=>.val
 | .call { callee:=.builtin .len,.. } | .call { callee:=.builtin .cap,.. } | .call { callee:=.builtin .min,.. } | .call { callee:=.builtin .max,.. }=>.val
 | .makeMap _ none=>.nw
 |_=>.gen
def gE:List Nat->Nat->Bool
 | [],_=>false
 |a::l,k=>if a=k then true else gE l k
def lS(kp:List Nat):List cK->List cK
 | []=>[]
 |b::l=>if gE kp b.key then b::lS kp l else lS kp l
def kb(f:Bool)(kp:List Nat)(l:List cK):List cK:=if f then lS kp l else l
structure ix where
 h:Bool
 j:Bool
 J:PH
 k:Bool
 kp:List Nat
structure mo where
 h:Bool
 j:Bool
 k:Bool
structure cu where
 h:List Nat
 j:List Nat
 J:PH
 k:List Nat
 kp:List Nat
structure cw where
 h:List Nat
 j:List Nat
 k:List Nat
def cu.at'(d:cu)(i:Nat):ix:=⟨d.h.contains i,d.j.contains i,d.J,gE d.k i,d.kp⟩
def cw.at'(d:cw)(i:Nat):mo:=⟨d.h.contains i,d.j.contains i,gE d.k i⟩
variable{l:List cK}{kp:List Nat}
def OX{k:Nat}{B:cK}(h:eJ (lS kp l) k=some B):eJ l k=some B/\gE kp k=true:=by
 induction l with
 |nil=>cases h
 |cons b l d=>
  simp only[lS]at h;split at h
  .simp only[eJ]at h |-;split at h
   .rename_i hm e;subst e;rw[ag rfl];exact⟨h,hm⟩
   .rename_i hm e;rw[ab e];exact d h
  .rename_i hm;obtain⟨a,c⟩:=d h;simp only[eJ];rw[ab (fun e=>hm (by rw[e];exact c))];exact⟨a,c⟩
def IG{kp:List Nat}{k off:Nat}{cs:List Value}(a:gE kp k=false):∀(l:List cK),lS kp (kF l k off cs)=lS kp l
 | []=>rfl
 |b::l=>by
  simp only[kF];split
  .rename_i e;simp[lS,e,a]
  .simp only[lS,IG a l]
variable{r:Prop×SV}{ρ:Operand->SV}{bx:List cK}
def U4{P:Program}{bx':List cK}{op:Op}(hb:∀k B,eJ bx k=some B->eJ bx' k=some B)(h:pv P bx ρ op=some r):pv P bx' ρ op=some r:=by
 cases op<;>first|exact h|(rename_i mx;cases mx<;>exact h)|skip
 rename_i T x;simp only[pv,x4]at h |-;split at h
 .rename_i k off b;split at h
  .rename_i B a;rw[hb k B a];exact h
  .cases h
 .cases h
def U7{P:Program}{f:Bool}{op:Op}(h:pv P (kb f kp bx) ρ op=some r):pv P bx ρ op=some r:=by
 unfold kb at h;split at h
 .exact U4 (fun k B a=>(OX a).1) h
 .exact h
def xE:Op->Bool
 | .load ..=>false
 |_=>true
def J3{P:Program}{bx':List cK}{op:Op}(h:xE op=true):pv P bx ρ op=pv P bx' ρ op:=by cases op<;>first|rfl|(rename_i mx;cases mx<;>rfl)|cases h
def wD(P:Program)(fr:ix)(σ:St)(H:PH)(o:Oper)(sv:SV):Prop:=
 (∃φ,pv P (kb fr.k fr.kp σ.bx) (ev σ) o.op=some (φ,sv)/\φ)\/
 (fr.h=true/\∃v,sv=.v v/\bQ σ o.op=true/\∀w,Sub H w->(execOp (bf σ) o).run P w=.ok (.value v) w)\/
 (fr.j=true/\fr.J.le H/\∃v,sv=.v v/\bQ σ o.op=true/\∀w,Sub fr.J w->(execOp (bf σ) o).run P w=.ok (.value v) w)
variable{sv:SV}{o:Oper}
def wD.val{P:Program}{fr:ix}{σ:St}{H:PH}(h:wD P fr σ H o sv):Gf P σ H o sv:=by
 rcases h with ⟨φ,h,k⟩|h|⟨_,e,v,a,b,c⟩
 .exact .inl ⟨φ,U7 h,k⟩
 .exact .inr h.2
 .exact .inr ⟨v,a,b,fun w d=>c w (d.of_le e)⟩
def jx(P:Program)(ol:List Oper)(fr:ix)(str:mo)(o:Oper)(K:St->PH->Prop)(σ:St)(H:PH):Prop:=
 (bH ol σ o=some false/\K (σ.put o.dst (.v undef)) H)\/
 (bH ol σ o=some true/\match eZ o.op with
  | .val=>∃sv,wD P fr σ H o sv/\K (σ.put o.dst sv) H
  | .alc=>∃d T cs,o.dst=some d/\jP P (ev σ) o.op=some (T,cs)/\K (σ.newBox d T cs) H
  | .st=>(∃k off cs,mW P σ.bx (ev σ) o.op=some (k,off,cs)/\(str.k=true->gE fr.kp k=false)/\K ((σ.store k off cs).put o.dst .u) H)\/(str.k=false/\bQ σ o.op=true/\eD P (execOp (bf σ) o) H fun sv H2=>K (σ.put o.dst sv) H2)
  | .gen=>bQ σ o.op=true/\eD P (execOp (bf σ) o) H fun sv H2=>((str.h=true->H.le H2)/\(str.j=true->fr.J.le H->fr.J.le H2))/\K (σ.put o.dst sv) H2
  | .nw=>∀b,H b=none->K (σ.put o.dst (.v (.map (some b)))) (H.put b (.map #[] 0)))
def VD(P:Program)(ol:List Oper)(fr:cu)(str:cw)(K:St->PH->Prop):List Nat->St->PH->Prop
 | [],σ,H=>K σ H
 |i::l,σ,H=>match ol[i]? with
  |none=>VD P ol fr str K l σ H
  |some o=>jx P ol (fr.at' i) (str.at' i) o (VD P ol fr str K l) σ H
def Ui{P:Program}{σ:St}(h:eZ o.op=.nw):bQ σ o.op=true/\Co P (execOp (bf σ) o) (fun b=>.map (some b)) (.map #[] 0):=by
 obtain⟨dst,op,type,pos,bT,guard⟩:=o;simp only at h |-;cases op<;>try (simp[eZ]at h;done)
 case makeMap mt n=>
  cases n with
  |some x=>simp[eZ]at h
  |none=>exact⟨by simp[bQ,fB,Op.operands],fun w=>by simp[execOp,Instr.makeMap,newObj,Sem.run,Result.andThen]⟩
 case call c=>
  obtain⟨callee,args,types⟩:=c;cases callee with
  |builtin b=>cases b<;>simp[eZ]at h
  |value f=>simp[eZ]at h
  |invoke r m=>simp[eZ]at h
def jx.toV{P:Program}{ol:List Oper}{fr:ix}{str:mo}{K:St->PH->Prop}{σ:St}{H:PH}(h:jx P ol fr str o K σ H):wF P ol o K σ H:=by
 rcases h with h|⟨c,h⟩
 .exact .inl h
 .refine .inr ⟨c,?_⟩;split at h
  .obtain⟨sv,hv,d⟩:=h;exact .inl ⟨sv,hv.val,d⟩
  .exact .inr (.inl h)
  .rcases h with ⟨k,off,cs,a,_,b⟩|⟨_,a,b⟩
   .exact .inr (.inr (.inl ⟨k,off,cs,a,b⟩))
   .exact .inr (.inr (.inr ⟨a,b⟩))
  .exact .inr (.inr (.inr ⟨h.1,h.2.mono fun _ _ x=>x.2⟩))
  .rename_i e;obtain⟨a,b⟩:=Ui (P:=P) (σ:=σ) e;exact .inr (.inr (.inr ⟨a,(b.op H).mono fun sv H2 ⟨x,y,z,u⟩=>by subst z;subst u;exact h x y⟩))
def eR(l:List cK):Prop:=l.Pairwise (fun x y=>x.key<y.key)
def Dm{k:Nat}(h:eR l):eR (d8 l k):=by
 unfold eR at *
 induction l with
 |nil=>simp[d8]
 |cons b l a=>
  rw[mh]at h;simp only[d8];split
  .exact a h.2
  .exact List.pairwise_cons.2 ⟨fun y c=>h.1 y (qe c).1,a h.2⟩
variable{x:cK}
def Rl(h:eR l)(d:∀B∈l,B.key≠x.key):eR (dX x l):=by
 unfold eR at *
 induction l with
 |nil=>simp[dX]
 |cons b l e=>
  have i:=h;rw[mh]at h;simp only[dX];split
  .rename_i c;refine List.pairwise_cons.2 ⟨fun y a=>?_,e h.2 fun B g=>d B (.tail _ g)⟩;rcases uS.1 a with rfl|a
   .exact c
   .exact h.1 y a
  .rename_i f;have hb:=d b (.head _);refine List.pairwise_cons.2 ⟨fun y a=>?_,i⟩;rcases List.mem_cons.1 a with rfl|a
   .omega
   .have:=h.1 y a;omega
theorem eR.newBox{σ:St}(h:eR σ.bx)(d:Nat)(T:TypeId)(cs:List Value):eR (σ.newBox d T cs).bx:=
 Rl (Dm h) fun _ a=>(qe a).2
theorem eR.put{σ:St}(h:eR σ.bx)(d:Option Nat)(sv:SV):eR (σ.put d sv).bx:=by cases d<;>exact h
theorem eR.store{σ:St}(h:eR σ.bx)(k off:Nat)(cs:List Value):eR (σ.store k off cs).bx:=by
 have:((kF σ.bx k off cs).map (·.key)).Pairwise (· < ·):=by rw[FK];exact List.pairwise_map.2 h
 exact List.pairwise_map.1 this
def Rj(h:∀B∈l,¬B.key<x.key):dX x l=x::l:=by
 cases l with
 |nil=>rfl
 |cons b l=>simp[dX,h b (.head _)]
def Hf{k:Nat}(hs:eR l)(e:x.key≠k):d8 (dX x l) k=dX x (d8 l k):=by
 unfold eR at hs
 induction l with
 |nil=>simp[dX,d8,e]
 |cons b l d=>
  rw[mh]at hs;simp only[dX];split
  .rename_i a;simp only[d8];split
   .exact d hs.2
   .simp[dX,a,d hs.2]
  .rename_i c;have h1:d8 (x::b::l) k=x::d8 (b::l) k:=by rw[d8];simp[e]
   rw[h1];refine(Rj fun B f=>?_).symm;have:=(qe f).1;rcases List.mem_cons.1 this with rfl|h
   .exact c
   .have:=hs.1 B h;omega
def Ri{y:cK}(h:x.key≠y.key):dX x (dX y l)=dX y (dX x l):=by
 induction l with
 |nil=>
  simp only[dX];rcases sx x.key y.key with h1|h1|h1
  .simp[h1,Nat.not_lt.2 (lC h1)]
  .exact absurd h1 h
  .simp[h1,Nat.not_lt.2 (lC h1)]
 |cons b l d=>
  by_cases c:b.key<x.key<;>by_cases a:b.key<y.key
  .simp[dX,c,a,d]
  .have:y.key<x.key:=by omega
   simp[dX,c,a,this]
  .have:x.key<y.key:=by omega
   simp[dX,c,a,this]
  .rcases sx x.key y.key with h1|h1|h1
   .simp[dX,c,a,h1,Nat.not_lt.2 (lC h1)]
   .exact absurd h1 h
   .simp[dX,c,a,h1,Nat.not_lt.2 (lC h1)]
def Oy(l:List cK)(a b:Nat):d8 (d8 l a) b=d8 (d8 l b) a:=by
 induction l with
 |nil=>rfl
 |cons x l c=>by_cases h1:x.key=a<;>by_cases h2:x.key=b<;>simp[d8,h1,h2,c]<;>simp_all[d8]
def EY(l:List SV)(a b:Nat)(x y:SV)(h:a≠b):gS (gS l a x) b y=gS (gS l b y) a x:=by
 induction l generalizing a b with
 |nil=>rfl
 |cons z l c=>cases a<;>cases b<;>simp only[gS]<;>first|omega|(congr 1;exact c _ _ O)
def EZ(f:SV->SV)(l:List SV)(a:Nat)(x:SV):(gS l a x).map f=gS (l.map f) a (f x):=by
 induction l generalizing a with
 |nil=>rfl
 |cons z l b=>cases a<;>simp[gS,b]
def vt(σ:St)(a b:Option Nat)(x y:SV)(h:∀d,a=some d->b≠some d):(σ.put a x).put b y=(σ.put b y).put a x:=by
 cases a<;>cases b<;>simp only[St.put]
 rename_i c d;rw[EY _ _ _ _ _ (fun e=>h c rfl (by rw[e]))]
def AJ(σ:St)(d:Nat)(T:TypeId)(cs:List Value)(e:Option Nat)(sv:SV)(h:e≠some d):(σ.put e sv).newBox d T cs=(σ.newBox d T cs).put e (dh d sv):=by
 cases e with
 |none=>rfl
 |some e=>have:e≠d:=fun x=>h (by rw[x]);simp only[St.put,St.newBox,EZ];rw[EY _ _ _ _ _ this]
def N7(l:List SV)(a b:Nat):(l.map (dh a)).map (dh b)=(l.map (dh b)).map (dh a):=by
 simp only[pi];apply m0;intro x _;cases x with
 |v x=>rfl
 |u=>rfl
 |p k off=>
  by_cases h1:k=a<;>by_cases h2:k=b<;>simp only[Function.comp,dh,h1,h2,co,dD]
  all_goals (by_cases h3:a=b<;>simp_all[dh])
def T7(σ:St)(d e:Nat)(T T':TypeId)(cs a:List Value)(h:d≠e)(hs:eR σ.bx):(σ.newBox d T cs).newBox e T' a=(σ.newBox e T' a).newBox d T cs:=by
 have h1:¬d=e:=h;have h2:¬e=d:=fun x=>h x.symm;have t:(gS (((gS (σ.tm.map (dh d)) d (.p d 0))).map (dh e)) e (.p e 0))=(gS (((gS (σ.tm.map (dh e)) e (.p e 0))).map (dh d)) d (.p d 0)):=by rw[EZ,EZ,EY _ _ _ _ _ h,N7];simp[dh,h1,h2]
 have b:dX ⟨e,T',a⟩ (d8 (dX ⟨d,T,cs⟩ (d8 σ.bx d)) e)=dX ⟨d,T,cs⟩ (d8 (dX ⟨e,T',a⟩ (d8 σ.bx e)) d):=by rw[Hf (Dm hs) h,Hf (Dm hs) (Ne.symm h),Ri (Ne.symm h),Oy]
 simp only[St.newBox,t,b]
def looks (ol : List Oper) (o : Oper) : List Nat :=
  (o.op.operands.toList.filterMap fun | .tmp t => some t | _ => none) ++
  (match o.guard with
   | some (j, _) => match ol[j]? with | some o' => o'.dst.toList | none => []
   | none => [])
def pX(ol:List Oper)(x y:Oper):Bool:=
 (match x.dst with|some d=>!(looks ol y).contains d && y.dst != some d|none=>true) &&
 (match y.dst with|some d=>!(looks ol x).contains d && x.dst != some d|none=>true)
variable{d:Nat}
def Jf{ol:List Oper}(h:d∉looks ol o):∀x∈o.op.operands,x≠.tmp d:=by intro x a e;subst e;exact h (ge _ (List.mem_filterMap.2 ⟨.tmp d,by simpa using a,rfl⟩))
def OM{σ:St}{d:Option Nat}{x:Operand}(h:∀e,d=some e->x≠.tmp e):ev (σ.put d sv) x=ev σ x:=by
 cases d with
 |none=>rfl
 |some d=>
  cases x with
  |tmp t=>have:d≠t:=fun e=>h d rfl (by rw[e]);simp[ev,St.put,rE,ts,this]
  |_=>rfl
variable{cs:List Value}
def OK{σ:St}{T:TypeId}{x:Operand}(h:x≠.tmp d):ev (σ.newBox d T cs) x=dh d (ev σ x):=by
 cases x with
 |tmp t=>have:d≠t:=fun e=>h (by rw[e]);simp only[ev,St.newBox,rE,ts,ab this,jG];cases σ.tm[t]?<;>rfl
 |_=>rfl
def qG{ol:List Oper}{σ:St}{d:Option Nat}(h:∀e,d=some e->e∉looks ol o):bH ol (σ.put d sv) o=bH ol σ o:=by
 unfold bH;cases f:o.guard with
 |none=>rfl
 |some g=>
  obtain⟨j,b⟩:=g;simp only;cases c:ol[j]? with
  |none=>rfl
  |some o'=>
   simp only;cases ht:o'.dst with
   |none=>rfl
   |some t=>
    have a:∀e,d=some e->e≠t:=fun e i h2=>h e i (by subst h2;exact gz _ (by simp[f,c,ht]))
    have:jA (σ.put d sv).tm t=jA σ.tm t:=by
     cases d with
     |none=>rfl
     |some d=>simp[St.put,rE,ts,a d rfl]
    simp only[this]
def tI{ol:List Oper}{σ:St}{T:TypeId}{r:Bool}(h:d∉looks ol o):bH ol (σ.newBox d T cs) o=some r<->bH ol σ o=some r:=by
 unfold bH;cases f:o.guard with
 |none=>rfl
 |some g=>
  obtain⟨j,b⟩:=g;simp only;cases c:ol[j]? with
  |none=>rfl
  |some o'=>
   simp only;cases ht:o'.dst with
   |none=>rfl
   |some t=>
    have a:d≠t:=fun h2=>h (by subst h2;exact gz _ (by simp[f,c,ht]))
    have:jA (σ.newBox d T cs).tm t=dh d (jA σ.tm t):=by simp only[St.newBox,rE,ts,ab a,jG];cases σ.tm[t]?<;>rfl
    simp only[this];cases jA σ.tm t with
    |v x=>rfl
    |u=>rfl
    |p k off=>by_cases e:k=d<;>simp[dh,e]
def CO{ρ ρ':Operand->SV}:∀{l:List Operand},(∀x∈l,ρ x=ρ' x)->fU ρ l=fU ρ' l
 | [],_=>rfl
 |x::l,h=>by simp only[fU,h x (.head _),CO (fun y a=>h y (.tail _ a))]
def Gt{ρ ρ':Operand->SV}:∀{l:List (Nat×Operand)},(∀x∈l,ρ x.2=ρ' x.2)->iZ ρ l=iZ ρ' l
 | [],_=>rfl
 |(i,x)::l,h=>by simp only[iZ,h (i,x) (.head _),Gt (fun y a=>h y (.tail _ a))]
def J2{P:Program}{ρ':Operand->SV}{op:Op}(h:∀x∈op.operands,ρ x=ρ' x):pv P bx ρ op=pv P bx ρ' op:=by
 cases op<;>simp only[pv]<;>simp only[Op.operands]at h
 case build T ps=>
  rw[Gt (l:=ps.toList) fun x a=>h x.2 (by simpa using ⟨x.1,by simpa using a⟩)]
 case slice T x lo hi mx=>
  have a:=h x (by simp);have b:lo.map ρ=lo.map ρ':=by
   cases lo with
   |none=>rfl
   |some z=>simp only[cZ];rw[h z (by simp)]
  have d:hi.map ρ=hi.map ρ':=by
   cases hi with
   |none=>rfl
   |some z=>simp only[cZ];rw[h z (by simp)]
  cases mx with
  |some m=>rfl
  |none=>simp only;rw[a,b,d]
 case makeFunc fn f c=>
  rw[CO (l:=f.toList) fun x a=>h x (by simp at a |-;exact .inl a),CO (l:=c.toList) fun x a=>h x (by simp at a |-;exact .inr a)]
 case call c=>
  obtain⟨callee,args,types⟩:=c;have ha:∀x∈args.toList,ρ x=ρ' x:=fun x a=>h x (by simp[Call.operands]at a |-;exact .inr a);simp only[qw];split
  .rename_i x t e1 e2;rw[ha x (by rw[e1];exact .head _)]
  .rename_i x t e1 e2;rw[ha x (by rw[e1];exact .head _)]
  .rename_i x y e1;rw[ha x (by rw[e1];exact .head _),ha y (by rw[e1];exact .tail _ (.head _))]
  .rename_i x y e1;rw[ha x (by rw[e1];exact .head _),ha y (by rw[e1];exact .tail _ (.head _))]
  .rfl
 all_goals simp_all
def gC{s:SV}{x:Value}:dh d s=.v x<->s=.v x:=by
 cases s with
 |v y=>rfl
 |u=>simp[dh]
 |p k off=>simp only[dh];split<;>simp
def zL{k off:Nat}{s:SV}(h:dh d s=.p k off):s=.p k off/\k≠d:=by
 cases s with
 |v y=>cases h
 |u=>cases h
 |p k' a=>
  simp only[dh]at h;split at h
  .cases h
  .cases h;exact⟨rfl,by assumption⟩
def CN{ρ:Operand->SV}{d:Nat}:∀{l:List Operand} {r:List Value},fU (fun x=>dh d (ρ x)) l=some r->fU ρ l=some r
 | [],_,h=>h
 |x::l,r,h=>by
  simp only[fU]at h |-;split at h
  .rename_i a b ha hr;rw[gC.1 ha,CN hr];exact h
  .cases h
def Gs{ρ:Operand->SV}{d:Nat}:∀{l:List (Nat×Operand)} {r:List (Nat×Value)},iZ (fun x=>dh d (ρ x)) l=some r->iZ ρ l=some r
 | [],_,h=>h
 |(i,x)::l,r,h=>by
  simp only[iZ]at h |-;split at h
  .rename_i a b ha hr;rw[gC.1 ha,Gs hr];exact h
  .cases h
def uw{n:Nat}{o:Option Operand}{i:Int}(h:jz n (o.map fun x=>dh d (ρ x))=some i):jz n (o.map ρ)=some i:=by
 cases o with
 |none=>exact h
 |some z=>obtain⟨k,b⟩:=rr h;simp only[cZ]at h |-;have a:dh d (ρ z)=.v (.int k i):=b;rw[gC.1 a];rw[a]at h;exact h
def U3{k:Kd}{e:wi}{x:SV}{lo hi:Option Operand}{φ:Prop}(h:rW k e (dh d x) (lo.map fun x=>dh d (ρ x)) (hi.map fun x=>dh d (ρ x))=some (φ,sv)):
  rW k e x (lo.map ρ) (hi.map ρ)=some (φ,sv)/\sv=dh d sv:=by
 unfold rW at h;split at h
 .rename_i size a len cap f;rw[gC.1 f];unfold rW;split at h
  .rename_i l g i c b hs;cases h
   simp only[uw c,uw b];cases hi with
   |none=>cases hs
   |some z=>exact⟨rfl,rfl⟩
  .rename_i l g c b hs;cases h
   simp only[uw c,uw b];cases hi with
   |none=>exact⟨rfl,rfl⟩
   |some z=>cases hs
  .cases h
 .rename_i s f;rw[gC.1 f];unfold rW;split at h
  .rename_i l g c b;cases h
   simp only[uw c,uw b];exact⟨trivial,rfl⟩
  .cases h
 .cases h
def OY{k:Nat}{T:TypeId}(h:k≠d):eJ (dX ⟨d,T,cs⟩ (d8 bx d)) k=eJ bx k:=by
 have h1:∀l:List cK,eJ (dX ⟨d,T,cs⟩ l) k=eJ l k:=by
  intro l
  induction l with
  |nil=>simp[dX,eJ,Ne.symm h]
  |cons b l a=>
   simp only[dX];split
   .simp only[eJ,a]
   .simp[eJ,Ne.symm h]
 rw[h1]
 induction bx with
 |nil=>rfl
 |cons b l a=>
  simp only[d8];split
  .rename_i e;rw[a];have:¬b.key=k:=fun x=>h (x.symm.trans e);simp[eJ,this]
  .simp only[eJ,a]
def Hn(f:Bool)(kp:List Nat)(l:List cK)(k:Nat):eJ (kb f kp l) k=if f=true/\gE kp k=false then none else eJ l k:=by
 unfold kb;cases f
 .simp
 .simp only[co,eW]
  induction l with
  |nil=>simp[lS,eJ]
  |cons b l a=>
   simp only[lS];by_cases e:b.key=k
   .cases hm:gE kp b.key
    .rw[ab (by simp),a,<-e,hm];simp
    .rw[ag rfl];subst e;simp[eJ,hm]
   .cases hm:gE kp b.key
    .rw[ab (by simp),a];simp[eJ,e]
    .rw[ag rfl];simp only[eJ,ab e];exact a
def OW{f:Bool}{k:Nat}{T:TypeId}(h:k≠d):eJ (kb f kp (dX ⟨d,T,cs⟩ (d8 bx d))) k=eJ (kb f kp bx) k:=by rw[Hn,Hn,OY h]
def U5 {P : Program} {bx : List cK} {ρ : Operand → SV} {d : Nat} {T : TypeId} {cs : List Value} {op : Op} {φ : Prop} {sv : SV} {f : Bool} {kp : List Nat}
    (h : pv P (kb f kp (dX ⟨d, T, cs⟩ (d8 bx d))) (fun x => dh d (ρ x)) op = some (φ, sv)) : ∃ sv', pv P (kb f kp bx) ρ op = some (φ, sv') ∧ sv = dh d sv' := by
  have mv : ∀ x : Operand, (match dh d (ρ x) with | .u => (none : Option (Prop × SV)) | sv => some (True, sv)) = some (φ, sv) → ∃ sv', (match ρ x with | .u => (none : Option (Prop × SV)) | sv => some (True, sv)) = some (φ, sv') ∧ sv = dh d sv' := by
    intro x hx
    cases hr : ρ x with
    | v y => rw [hr] at hx; cases hx; exact ⟨.v y, rfl, rfl⟩
    | u => rw [hr] at hx; cases hx
    | p k off =>
      rw [hr] at hx
      simp only [dh] at hx
      split at hx
      · rename_i e; split at e <;> first | cases hx | cases e
      · rename_i aa
        by_cases e : k = d
        · simp [e] at aa
        · simp only [ab e] at hx
          cases hx; exact ⟨.p k off, rfl, by simp [dh, e]⟩
  cases op <;> simp only [pv] at h ⊢ <;> try (cases h; done)
  case move x => exact mv x h
  case assign x => exact mv x h
  case pick c x y =>
    split at h
    · rename_i b hb
      cases h
      rw [gC.1 hb]
      exact ⟨_, rfl, by split <;> rfl⟩
    · cases h
  case load T' x =>
    unfold x4 at h ⊢
    split at h
    · rename_i k off hx
      obtain ⟨hx, hk⟩ := zL hx
      rw [hx]
      simp only
      rw [OW hk] at h
      split at h
      · split at h
        · cases h; exact ⟨_, rfl, rfl⟩
        · cases h
      · cases h
    · cases h
  case fieldAddr T' x f =>
    split at h
    · unfold Bj at h
      split at h
      · rename_i k off hx
        cases h
        obtain ⟨hx, hk⟩ := zL hx
        exact ⟨_, by rw [hx]; rfl, by simp [dh, hk]⟩
      · rename_i b off hx
        cases h
        exact ⟨_, by rw [gC.1 hx]; rfl, rfl⟩
      · cases h
    · cases h
  case nilCheck x =>
    unfold Bl at h
    split at h
    · rename_i k off hx
      cases h
      obtain ⟨hx, hk⟩ := zL hx
      exact ⟨_, by rw [hx]; rfl, by simp [dh, hk]⟩
    · rename_i a hx
      cases h
      exact ⟨_, by rw [gC.1 hx]; rfl, rfl⟩
    · cases h
  case indexAddr T' x i =>
    unfold x0 at h
    split at h
    · rename_i len size k off kk n he hx hi
      cases h
      obtain ⟨hx, hk⟩ := zL hx
      exact ⟨_, by rw [hx, gC.1 hi, he]; rfl, by simp [dh, hk]⟩
    · rename_i len size b off kk n he hx hi
      cases h
      exact ⟨_, by rw [gC.1 hx, gC.1 hi, he]; rfl, rfl⟩
    · rename_i size b off len cap kk n he hx hi
      cases h
      exact ⟨_, by rw [gC.1 hx, gC.1 hi, he]; rfl, rfl⟩
    · cases h
  case index T' x i =>
    unfold Bk at h
    split at h
    · rename_i s kk n he hx hi
      cases h
      exact ⟨_, by rw [gC.1 hx, gC.1 hi, he]; rfl, rfl⟩
    · cases h
  case field T' x f =>
    split at h
    · rename_i n ty cs' hf hx
      obtain ⟨v, hv, rfl⟩ := jo h
      refine ⟨.v v, ?_, rfl⟩
      rw [hf, gC.1 hx]; exact h
    · cases h
  case extract x n =>
    split at h
    · rename_i vs hx
      obtain ⟨v, hv, rfl⟩ := jo h
      refine ⟨.v v, ?_, rfl⟩
      rw [gC.1 hx]; exact h
    · cases h
  case build T' ps =>
    split at h
    · rename_i l hl
      obtain ⟨v, hv, rfl⟩ := jo h
      refine ⟨.v v, ?_, rfl⟩
      rw [Gs hl]; exact h
    · cases h
  case binOp op T' x y T2 =>
    split at h
    · rename_i a b hx hy
      obtain ⟨v, hv, rfl⟩ := jo h
      refine ⟨.v v, ?_, rfl⟩
      rw [gC.1 hx, gC.1 hy]; exact h
    · cases h
  case unOp op T' x =>
    split at h
    · rename_i a hx
      obtain ⟨v, hv, rfl⟩ := jo h
      refine ⟨.v v, ?_, rfl⟩
      rw [gC.1 hx]; exact h
    · cases h
  case convert s dd x =>
    split at h
    · rename_i a hs hx
      obtain ⟨v, hv, rfl⟩ := jo h
      refine ⟨.v v, ?_, rfl⟩
      rw [gC.1 hx, hs]; exact h
    · cases h
  case slice T' x lo hi mx =>
    cases mx with
    | some m => cases h
    | none =>
      obtain ⟨h1, h2⟩ := U3 (ρ := ρ) h
      exact ⟨sv, h1, h2⟩
  case makeFunc fn f c =>
    split at h
    · rename_i l m hl hm
      cases h
      refine ⟨_, by rw [CN hl, CN hm], rfl⟩
    · cases h
  case call c =>
    unfold qw at h ⊢
    split at h
    all_goals first
      | (split at h
         · first
           | (rename_i a b hx hy
              obtain ⟨v, hv, rfl⟩ := jo h
              exact ⟨.v v, by rw [gC.1 hx, gC.1 hy]; exact h, rfl⟩)
           | (rename_i a hx
              obtain ⟨v, hv, rfl⟩ := jo h
              exact ⟨.v v, by rw [gC.1 hx]; exact h, rfl⟩)
         · cases h)
      | cases h
def eD.mono'{P:Program}{s:Sem Next}{H:PH}{Ψ Ψ':SV->PH->Prop}(h:eD P s H Ψ)(k:∀sv H2,(∀d,dh d sv=sv)->Ψ sv H2->Ψ' sv H2):eD P s H Ψ':=by
 intro w g;have hr:=h w g;unfold wq at hr |-;split at hr
 .obtain⟨H2,a,b⟩:=hr;exact⟨H2,a,k _ _ (fun _=>rfl) b⟩
 .obtain⟨H2,a,b⟩:=hr;exact⟨H2,a,k _ _ (fun _=>rfl) b⟩
 .refine hr.mono fun e i f=>?_;cases e with
  |returned v=>obtain⟨H2,a,b⟩:=f;exact⟨H2,a,k _ _ (fun _=>rfl) b⟩
  |outgrown=>exact f
  |panicked c=>exact f
 .exact hr
def XV(P:Program)(ol:List Oper)(fr:ix)(σ:St)(H:PH)(o:Oper)(sv:SV):Prop:=
 (bH ol σ o=some false/\sv=.v undef)\/(bH ol σ o=some true/\eZ o.op=.val/\wD P fr σ H o sv)
def s7{σ σ':St}{op:Op}(h:∀x∈op.operands,fO (ev σ x)=fO (ev σ' x)):bQ σ op=bQ σ' op:=by
 have h1:∀x∈op.operands.toList,fO (ev σ x)=fO (ev σ' x):=fun x b=>h x (by simpa using b);have h2:op.operands.toList.all (fun x=>fO (ev σ x))=op.operands.toList.all (fun x=>fO (ev σ' x)):=by rw[Bool.eq_iff_iff];simp only[ss];exact⟨fun a x b=>by rw[<-h1 x b];exact a x b,fun a x b=>by rw[h1 x b];exact a x b⟩
 simp only[bQ,h2]
def sU{σ σ':St}(hs:fB o.op=true)(h:∀x∈o.op.operands,bf σ x=bf σ' x):execOp (bf σ) o=execOp (bf σ') o:=
 execOp_congr o (fun cs b e=>by rw[e]at hs;simp[fB]at hs) h
section
variable {P:Program} {ol:List Oper}
variable{o:Oper}{sv:SV}{d:Option Nat}
def nu{σ:St}(h:∀e,d=some e->e∉looks ol o):∀x∈o.op.operands,ev (σ.put d sv) x=ev σ x:=
 fun x a=>OM fun e b=>Jf (h e b) x a
variable{cs:List Value}
def wX{σ:St}{d:Nat}{T:TypeId}(h:d∉looks ol o):∀x∈o.op.operands,ev (σ.newBox d T cs) x=dh d (ev σ x):=
 fun x a=>OK (Jf h x a)
def GL(σ:St)(d:Option Nat)(sv:SV):(σ.put d sv).bx=σ.bx:=by cases d<;>rfl
def AM{op:Op}(h:eZ op=.val):fB op=true:=by cases op<;>first|rfl|cases h
def um{fr:ix}{σ:St}{H:PH}{sv':SV}(h:∀e,d=some e->e∉looks ol o):XV P ol fr (σ.put d sv') H o sv<->XV P ol fr σ H o sv:=by
 have f:bQ (σ.put d sv') o.op=bQ σ o.op:=s7 fun x a=>by rw[nu h x a]
 have b:fB o.op=true->execOp (bf (σ.put d sv')) o=execOp (bf σ) o:=fun c=>sU c fun x a=>by simp only[bf,nu h x a]
 unfold XV wD;rw[qG h,GL,J2 (nu h),f];constructor
 .rintro(h1|⟨h1,h2,h3⟩)
  .exact .inl h1
  .rw[b (AM h2)]at h3;exact .inr ⟨h1,h2,h3⟩
 .rintro(h1|⟨h1,h2,h3⟩)
  .exact .inl h1
  .refine .inr ⟨h1,h2,?_⟩;rw[b (AM h2)];exact h3
def CH{fr:ix}{σ:St}{H H2:PH}(h:XV P ol fr σ H o sv)(d:fr.h=true->H.le H2)(g:fr.j=true->fr.J.le H->fr.J.le H2):XV P ol fr σ H2 o sv:=by
 rcases h with h|⟨h1,h2,h3⟩
 .exact .inl h
 .refine .inr ⟨h1,h2,h3.imp id ?_⟩;rintro(⟨a,v,b,c,e⟩|⟨a,l,x⟩)
  .exact .inl ⟨a,v,b,c,fun w f=>e w (f.of_le (d a))⟩
  .exact .inr ⟨a,g a l,x⟩
def MN{fr:ix}{σ:St}{H:PH}{d:Nat}{T:TypeId}(hd:d∉looks ol o)(h:XV P ol fr (σ.newBox d T cs) H o sv):
  ∃f,XV P ol fr σ H o f/\sv=dh d f:=by
 rcases h with ⟨h1,rfl⟩|⟨h1,h2,h3⟩
 .exact⟨.v undef,.inl ⟨(tI hd).1 h1,rfl⟩,rfl⟩
 .have g:=(tI hd).1 h1;rcases h3 with ⟨φ,hp,m⟩|⟨a,v,rfl,c,e⟩|⟨a,n,v,rfl,c,e⟩
  .rw[J2 (ρ':=fun x=>dh d (ev σ x)) (wX hd)]at hp;obtain⟨f,h4,h5⟩:=U5 hp;exact⟨f,.inr ⟨g,h2,.inl ⟨φ,h4,m⟩⟩,h5⟩
  .have hv:∀x∈o.op.operands,ev σ x=ev (σ.newBox d T cs) x:=by
    intro x b;have i:=c;simp only[bQ,cX,ss]at i;have:=i.2 x (by simpa using b);rw[wX hd x b]at this |-;cases hs:ev σ x with
    |v y=>rfl
    |u=>rw[hs]at this;cases this
    |p k off=>rw[hs]at this;simp only[dh]at this;split at this<;>cases this
   have j:bQ σ o.op=bQ (σ.newBox d T cs) o.op:=s7 fun x b=>by rw[hv x b]
   have l:execOp (bf σ) o=execOp (bf (σ.newBox d T cs)) o:=sU (AM h2) fun x b=>by simp only[bf,hv x b]
   exact⟨.v v,.inr ⟨g,h2,.inr (.inl ⟨a,v,rfl,j.trans c,by rw[l];exact e⟩)⟩,rfl⟩
  .have hv:∀x∈o.op.operands,ev σ x=ev (σ.newBox d T cs) x:=by
    intro x b;have i:=c;simp only[bQ,cX,ss]at i;have:=i.2 x (by simpa using b);rw[wX hd x b]at this |-;cases hs:ev σ x with
    |v y=>rfl
    |u=>rw[hs]at this;cases this
    |p k off=>rw[hs]at this;simp only[dh]at this;split at this<;>cases this
   have j:bQ σ o.op=bQ (σ.newBox d T cs) o.op:=s7 fun x b=>by rw[hv x b]
   have l:execOp (bf σ) o=execOp (bf (σ.newBox d T cs)) o:=sU (AM h2) fun x b=>by simp only[bf,hv x b]
   exact⟨.v v,.inr ⟨g,h2,.inr (.inr ⟨a,n,v,rfl,j.trans c,by rw[l];exact e⟩)⟩,rfl⟩
def zo{σ:St}(h:∀e,d=some e->e∉looks ol o):jP P (ev (σ.put d sv)) o.op=jP P (ev σ) o.op:=by
 have:=nu (σ:=σ) (sv:=sv) h;cases a:o.op<;>simp only[jP]
 rename_i T x;rw[this x (by simp[a,Op.operands])]
def Gg{σ:St}{d:Nat}{T:TypeId}{r:TypeId×List Value}(h:d∉looks ol o):jP P (ev (σ.newBox d T cs)) o.op=some r<->jP P (ev σ) o.op=some r:=by
 have:=wX (σ:=σ) (T:=T) (cs:=cs) h;cases a:o.op<;>simp only[jP]
 rename_i T' x;rw[this x (by simp[a,Op.operands])];cases hs:ev σ x with
 |v y=>rfl
 |u=>rfl
 |p k off=>by_cases e:k=d<;>simp[dh,e]
def tu(ol:List Oper)(fr:ix)(a str:mo)(x y:Oper):Bool:=
 pX ol x y && match eZ x.op,eZ y.op with
  | .alc,.alc | .alc,.val | .val,.val=>true
  | .alc,.gen=>true
  | .val,.gen=>(!fr.h || str.h) && (!fr.j || str.j)
  | .val,.st=>(str.k && (xE x.op || fr.k)) || (xE x.op && !fr.h && !fr.j)
  | .val,.nw | .alc,.nw=>true
  | .gen,.nw=>!a.j && y.guard.isNone
  |_,_=>false
def AL{σ:St}{op:Op}(h:bQ σ op=true):fB op=true:=by simp only[bQ,cX]at h;exact h.1
def CC{fr:ix}{str:mo}{K:St->PH->Prop}{σ:St}{H:PH}(h:jx P ol fr str o K σ H):
  (∃sv,XV P ol fr σ H o sv/\K (σ.put o.dst sv) H)\/
  (bH ol σ o=some true/\eZ o.op=.alc/\∃d T cs,o.dst=some d/\jP P (ev σ) o.op=some (T,cs)/\K (σ.newBox d T cs) H)\/
  (bH ol σ o=some true/\eZ o.op=.gen/\bQ σ o.op=true/\eD P (execOp (bf σ) o) H fun sv H2=>((str.h=true->H.le H2)/\(str.j=true->fr.J.le H->fr.J.le H2))/\K (σ.put o.dst sv) H2)\/
  (bH ol σ o=some true/\eZ o.op=.st/\((∃k off cs,mW P σ.bx (ev σ) o.op=some (k,off,cs)/\(str.k=true->gE fr.kp k=false)/\K ((σ.store k off cs).put o.dst .u) H)\/(str.k=false/\bQ σ o.op=true/\eD P (execOp (bf σ) o) H fun sv H2=>K (σ.put o.dst sv) H2)))\/
  (bH ol σ o=some true/\eZ o.op=.nw/\∀b,H b=none->K (σ.put o.dst (.v (.map (some b)))) (H.put b (.map #[] 0))):=by
 rcases h with ⟨a,h⟩|⟨a,h⟩
 .exact .inl ⟨.v undef,.inl ⟨a,rfl⟩,h⟩
 .cases c:eZ o.op<;>rw[c]at h<;>simp only at h
  .obtain⟨sv,hv,e⟩:=h;exact .inl ⟨sv,.inr ⟨a,c,hv⟩,e⟩
  .exact .inr (.inl ⟨a,rfl,h⟩)
  .exact .inr (.inr (.inr (.inl ⟨a,rfl,h⟩)))
  .exact .inr (.inr (.inl ⟨a,rfl,h⟩))
  .exact .inr (.inr (.inr (.inr ⟨a,rfl,h⟩)))
def CD{fr:ix}{str:mo}{K:St->PH->Prop}{σ:St}{H:PH}(a:bH ol σ o=some true)(c:eZ o.op=.nw)
  (h:∀b,H b=none->K (σ.put o.dst (.v (.map (some b)))) (H.put b (.map #[] 0))):jx P ol fr str o K σ H:=.inr ⟨a,by rw[c];exact h⟩
def rf{fr:ix}{str:mo}{K:St->PH->Prop}{σ:St}{H:PH}(h:XV P ol fr σ H o sv)(b:K (σ.put o.dst sv) H):jx P ol fr str o K σ H:=by
 rcases h with ⟨a,rfl⟩|⟨a,c,hv⟩
 .exact .inl ⟨a,b⟩
 .exact .inr ⟨a,by rw[c];exact⟨sv,hv,b⟩⟩
def uj{fr:ix}{str:mo}{K:St->PH->Prop}{σ:St}{H:PH}{d:Nat}{T:TypeId}(a:bH ol σ o=some true)(c:eZ o.op=.alc)(hd:o.dst=some d)
  (ha:jP P (ev σ) o.op=some (T,cs)) (b:K (σ.newBox d T cs) H):jx P ol fr str o K σ H:=.inr ⟨a,by rw[c];exact⟨d,T,cs,hd,ha,b⟩⟩
def Wh{bx:List cK}{ρ ρ':Operand->SV}{op:Op}(h:∀x∈op.operands,ρ x=ρ' x):mW P bx ρ op=mW P bx ρ' op:=by
 cases op<;>simp only[mW]<;>simp only[Op.operands]at h
 simp_all
variable{off:Nat}
def MO{fr:ix}{σ:St}{H:PH}{k:Nat}(c:xE o.op=true\/fr.k=true)(hm:gE fr.kp k=false)(h:XV P ol fr σ H o sv):XV P ol fr (σ.store k off cs) H o sv:=by
 rcases h with h|⟨h1,h2,h3⟩
 .exact .inl h
 .refine .inr ⟨h1,h2,?_⟩;rcases h3 with ⟨φ,a,b⟩|h3
  .refine .inl ⟨φ,?_,b⟩;rcases c with c|c
   .rw[J3 (bx':=kb fr.k fr.kp σ.bx) c];exact a
   .rw[c]at a |-;show pv P (lS fr.kp (kF σ.bx k off cs)) _ _=_;rw[IG hm];exact a
  .exact .inr h3
def MP{fr:ix}{σ:St}{H:PH}{k:Nat}(c:xE o.op=true)(h:XV P ol fr σ H o sv):XV P ol fr (σ.store k off cs) H o sv:=by
 rcases h with h|⟨h1,h2,h3⟩
 .exact .inl h
 .refine .inr ⟨h1,h2,?_⟩;rcases h3 with ⟨φ,a,b⟩|h3
  .refine .inl ⟨φ,?_,b⟩;rw[J3 (bx':=kb fr.k fr.kp σ.bx) c];exact a
  .exact .inr h3
def G2{l:List Nat}{d:Nat}(h:(!l.contains d)=true):d∉l:=by simpa using h
theorem swap{frx fry:ix}{strx stry:mo}(hJ:frx.J=fry.J)(hK:frx.kp=fry.kp){x y:Oper}{K:St->PH->Prop}{σ:St}{H:PH}(hs:eR σ.bx)(ok:tu ol frx strx stry x y=true)
  (h:jx P ol frx strx x (jx P ol fry stry y K) σ H):jx P ol fry stry y (jx P ol frx strx x K) σ H:=by
 simp only[tu,cX]at ok;obtain⟨U,a⟩:=ok;simp only[pX,cX]at U;obtain⟨I,X⟩:=U;have F:∀e,x.dst=some e->e∉looks ol y:=fun e n=>by rw[n]at I;simp only[cX]at I;exact G2 I.1
 have q:∀e,x.dst=some e->y.dst≠some e:=fun e n h2=>by rw[n]at I;simp[h2]at I
 have w:∀e,y.dst=some e->e∉looks ol x:=fun e n=>by rw[n]at X;simp only[cX]at X;exact G2 X.1
 have dyx:∀e,y.dst=some e->x.dst≠some e:=fun e n h2=>q e h2 n;rcases CC h with ⟨r,N,h⟩|⟨l,i,d,T,cs,hd,A,h⟩|⟨l,i,S,aa⟩|⟨l,i,_⟩|⟨l,i,_⟩
 ·
  rcases CC h with ⟨svy,R,h⟩|⟨g,f,e,T,cs,n,A,h⟩|⟨g,f,m,t⟩|⟨g,f,aq⟩|⟨g,f,V⟩
  .exact rf ((um F).1 R) (rf ((um w).2 N) (by rw[<-vt _ _ _ _ _ q];exact h))
  .rcases N with ⟨l,rfl⟩|⟨l,i,_⟩
   .rw[qG F]at g;rw[zo F]at A;refine uj g f n A (rf (sv:=.v undef) (.inl ⟨(tI (w e n)).2 l,rfl⟩) ?_);rw[AJ _ _ _ _ _ _ (dyx e n)]at h;exact h
   .rw[i,f]at a;cases a
  .rw[qG F]at g;have Q:bQ (σ.put x.dst r) y.op=bQ σ y.op:=s7 fun z s=>by rw[nu F z s]
   have n:execOp (bf (σ.put x.dst r)) y=execOp (bf σ) y:=sU (AL m) fun z s=>by simp only[bf,nu F z s]
   rw[Q]at m;rw[n]at t;refine .inr ⟨g,by
    rw[f];refine⟨m,t.mono' fun sv H2 _ L=>⟨L.1,?_⟩⟩;have G:XV P ol frx σ H2 x r:=by
     rcases N with N|⟨l,i,hv⟩
     .exact .inl N
     .rw[i,f]at a;simp only[cX,sr,sm]at a;refine CH (.inr ⟨l,i,hv⟩) (fun hf=>L.1.1 ?_) fun hf=>?_
      .rcases a.1 with h1|h1
       .rw[hf]at h1;cases h1
       .exact h1
      .rw[hJ];refine L.1.2 ?_;rcases a.2 with h1|h1
       .rw[hf]at h1;cases h1
       .exact h1
    exact rf ((um w).2 G) (by rw[<-vt _ _ _ _ _ q];exact L.2)⟩
  .rw[f]at a;cases C:eZ x.op<;>rw[C]at a<;>first|(exact Bool.noConfusion a)|skip
   simp only[cX,sr,sm]at a;rw[qG F]at g;rcases aq with ⟨k,off,cs,ha,hm,Q⟩|⟨aS,m,t⟩
   .rw[GL,Wh (nu F)]at ha;have G:XV P ol frx (σ.store k off cs) H x r:=by
     rcases a with ⟨h1,h2⟩|⟨⟨h1,_⟩,_⟩
     .exact MO h2 (by rw[hK];exact hm h1) N
     .exact MP h1 N
    refine .inr ⟨g,by
     rw[f];refine .inl ⟨k,off,cs,ha,hm,rf ((um w).2 G) ?_⟩;rw[<-vt _ _ _ _ _ q];have:(σ.store k off cs).put x.dst r=(σ.put x.dst r).store k off cs:=by cases x.dst<;>rfl
     rw[this];exact Q⟩
   .have hn:frx.h=false/\frx.j=false:=by
     rcases a with ⟨h1,_⟩|⟨⟨_,h1⟩,h2⟩
     .rw[aS]at h1;cases h1
     .exact⟨h1,h2⟩
    have Q:bQ (σ.put x.dst r) y.op=bQ σ y.op:=s7 fun z s=>by rw[nu F z s]
    have n:execOp (bf (σ.put x.dst r)) y=execOp (bf σ) y:=sU (AL m) fun z s=>by simp only[bf,nu F z s]
    rw[Q]at m;rw[n]at t;refine .inr ⟨g,by
     rw[f];refine .inr ⟨aS,m,t.mono' fun sv H2 _ L=>?_⟩;have G:XV P ol frx σ H2 x r:=CH N (fun hf=>by rw[hn.1]at hf;cases hf) fun hf=>by rw[hn.2]at hf;cases hf
     exact rf ((um w).2 G) (by rw[<-vt _ _ _ _ _ q];exact L)⟩
  .rw[qG F]at g;refine CD g f fun b hb=>?_;have a0:=PH.le_put (o:=.map #[] 0) hb;exact rf ((um w).2 (CH N (fun _=>a0) fun _ hj=>D hj a0)) (by rw[<-vt _ _ _ _ _ q];exact V b hb)
 ·
  have B:=F d hd;rcases CC h with ⟨svy,R,h⟩|⟨g,f,e,T',cs',n,am,h⟩|⟨g,f,m,t⟩|⟨g,f,aq⟩|⟨g,f,V⟩
  .obtain⟨sv',a1,rfl⟩:=MN B R;refine rf a1 (uj (by rw[qG w];exact l) i hd (by rw[zo w];exact A) ?_);rw[AJ _ _ _ _ _ _ (q d hd)];exact h
  .have a2:d≠e:=fun x2=>q d hd (by rw[x2];exact n);refine uj ((tI B).1 g) f n ((Gg B).1 am) (uj ((tI (w e n)).2 l) i hd ((Gg (w e n)).2 A) ?_);rw[<-T7 _ _ _ _ _ _ _ a2 hs];exact h
  .have hv:∀z∈y.op.operands,ev (σ.newBox d T cs) z=ev σ z:=by
    intro z s;have C:=m;simp only[bQ,cX,ss]at C;have:=C.2 z (by simpa using s);rw[wX B z s]at this |-;cases ap:ev σ z with
    |v y=>rfl
    |u=>rw[ap]at this;cases this
    |p k off=>rw[ap]at this;simp only[dh]at this;split at this<;>cases this
   have Q:bQ (σ.newBox d T cs) y.op=bQ σ y.op:=s7 fun z s=>by rw[hv z s]
   have n:execOp (bf (σ.newBox d T cs)) y=execOp (bf σ) y:=sU (AL m) fun z s=>by simp only[bf,hv z s]
   rw[Q]at m;rw[n]at t;refine .inr ⟨(tI B).1 g,by rw[f];refine⟨m,t.mono' fun sv H2 ac L=>⟨L.1,?_⟩⟩;refine uj (by rw[qG w];exact l) i hd (by rw[zo w];exact A) ?_;rw[AJ _ _ _ _ _ _ (q d hd),ac];exact L.2⟩
  .rw[i,f]at a;cases a
  .refine CD ((tI B).1 g) f fun b hb=>?_;refine uj (by rw[qG w];exact l) i hd (by rw[zo w];exact A) ?_;rw[AJ _ _ _ _ _ _ (q d hd)];exact V b hb
 ·
  rw[i]at a;cases f:eZ y.op<;>rw[f]at a<;>first|(exact Bool.noConfusion a)|skip
  simp only[cX,sm,Option.isNone_iff_eq_none]at a;have an:∀σ',bH ol σ' y=some true:=fun σ'=>by simp[bH,a.2]
  refine CD (an _) f fun b hb=>?_;have Q:bQ (σ.put y.dst (.v (.map (some b)))) x.op=bQ σ x.op:=s7 fun z s=>by rw[nu w z s]
  have n:execOp (bf (σ.put y.dst (.v (.map (some b))))) x=execOp (bf σ) x:=sU (AL S) fun z s=>by simp only[bf,nu w z s]
  refine .inr ⟨by rw[qG w];exact l,by
   rw[i];refine⟨by rw[Q];exact S,?_⟩;rw[n];refine(aa.beside (o:=.map #[] 0) hb).mono ?_;rintro sv H2'⟨H2,rfl,h2b,W,R⟩;refine⟨⟨fun hf=>?_,fun hf=>?_⟩,?_⟩
   .have:=W.1 hf;intro c o C;by_cases e:c=b
    .subst e;simp only[PH.put,co]at C |-;exact C
    .simp only[PH.put,ab e]at C |-;exact this c o C
   .rw[a.1]at hf;cases hf
   .rcases R with ⟨Z,_⟩|⟨_,R⟩
    .rw[an]at Z;cases Z
    .rw[f]at R;have:=R b h2b;rw[vt _ _ _ _ _ dyx];exact this⟩
 .rw[i]at a;cases C:eZ y.op<;>rw[C]at a<;>cases a
 .rw[i]at a;cases C:eZ y.op<;>rw[C]at a<;>cases a
end
open Go
def jQ(o:Oper):List Nat:=(o.after.toList.filter (Region.binds .any)).map (·.on)
def j8(ol:List Oper):List (List Nat):=
 ol.foldl (fun a o=>a++[(jQ o++(jQ o).flatMap (fun d=>a.getD d [])).eraseDups]) []
def u6(ol:List Oper)(a:List (List Nat)):Bool:=
 (List.range ol.length).all fun y=>match ol[y]? with
  | some o=>(jQ o).all (fun z=>decide (z<y)) && (a.getD y []).all fun x=>(jQ o).contains x || (jQ o).any fun z=>(a.getD z []).contains x
  |none=>true
def fM(ol:List Oper)(a:List (List Nat))(fr:cu)(str:cw):List Nat->Bool
 | []=>true
 | x::l=>decide (x<ol.length) && !l.contains x && l.all (fun y=>(a.getD y []).contains x || match ol[x]?,ol[y]? with
   |some ox,some oy=>tu ol (fr.at' x) (str.at' x) (str.at' y) ox oy
   |_,_=>false) && fM ol a fr str l
def qh(ol:List Oper)(κ:List Nat)(fr:cu)(str:cw):Bool:=
 u6 ol (j8 ol) && (List.range ol.length).all (κ.contains ·) && fM ol (j8 ol) fr str κ
section
variable {P:Program} {ol:List Oper} {fr:cu} {str:cw} {K:St->PH->Prop}
def wC{f:ix}{s:mo}{o:Oper}{K K':St->PH->Prop}{σ:St}{H:PH}(k:∀σ' H',eR σ'.bx->K σ' H'->K' σ' H')(hs:eR σ.bx)(h:jx P ol f s o K σ H):jx P ol f s o K' σ H:=by
 rcases h with ⟨e,h⟩|⟨e,h⟩
 .exact .inl ⟨e,k _ _ (hs.put _ _) h⟩
 .refine .inr ⟨e,?_⟩;cases j:eZ o.op<;>rw[j]at h<;>simp only at h |-
  .obtain⟨sv,hv,a⟩:=h;exact⟨sv,hv,k _ _ (hs.put _ _) a⟩
  .obtain⟨d,T,cs,hd,ha,a⟩:=h;exact⟨d,T,cs,hd,ha,k _ _ (hs.newBox _ _ _) a⟩
  .rcases h with ⟨x,off,cs,ha,hm,a⟩|⟨i,a,g⟩
   .exact .inl ⟨x,off,cs,ha,hm,k _ _ ((hs.store _ _ _).put _ _) a⟩
   .exact .inr ⟨i,a,g.mono fun sv H2 c=>k _ _ (hs.put _ _) c⟩
  .exact⟨h.1,h.2.mono fun sv H2 c=>⟨c.1,k _ _ (hs.put _ _) c.2⟩⟩
  .exact fun b hb=>k _ _ (hs.put _ _) (h b hb)
def zj{K K':St->PH->Prop}(k:∀σ' H',eR σ'.bx->K σ' H'->K' σ' H'):∀(l:List Nat) {σ:St} {H:PH},eR σ.bx->VD P ol fr str K l σ H->VD P ol fr str K' l σ H
 | [],σ,H,hs,h=>k _ _ hs h
 |i::l,σ,H,hs,h=>by
  simp only[VD]at h |-;cases b:ol[i]? with
  |none=>rw[b]at h;exact zj k l hs h
  |some o=>rw[b]at h;exact wC (fun σ' H' a c=>zj k l a c) hs h
def zF{i:Nat}{oi:Oper}(hi:ol[i]?=some oi):∀(b a:List Nat) {σ:St} {H:PH},eR σ.bx->(∀x∈b,∃ox,ol[x]?=some ox/\tu ol (fr.at' x) (str.at' x) (str.at' i) ox oi=true)->
  VD P ol fr str K (b++i::a) σ H->VD P ol fr str K (i::(b++a)) σ H
 | [],a,σ,H,hs,_,h=>h
 |x::b,a,σ,H,hs,c,h=>by obtain⟨ox,g,e⟩:=c x (.head _);simp only[aN,VD,g,hi]at h |-;refine swap (frx:=fr.at' x) (fry:=fr.at' i) rfl rfl hs e ?_;refine wC (fun σ' H' d j=>?_) hs h;have:=zF hi b a d (fun y f=>c y (.tail _ f)) j;simpa only[VD,hi]using this
def xR{cl:List (List Nat)}:∀{l1 l2:List Nat} {i:Nat},fM ol cl fr str (l1++i::l2)=true->
  (∀x∈l1,x∈cl.getD i []\/∃ox oy,ol[x]?=some ox/\ol[i]?=some oy/\tu ol (fr.at' x) (str.at' x) (str.at' i) ox oy=true)/\fM ol cl fr str (l1++l2)=true/\i∉l1++l2
 | [],l2,i,h=>by simp only[aM,fM,cX]at h;exact⟨fun x g=>(dH g).elim,h.2,by simpa using h.1.1.2⟩
 |x::l1,l2,i,h=>by
  simp only[aN,fM,cX]at h;obtain⟨⟨⟨h1,h2⟩,h3⟩,h4⟩:=h;obtain⟨a,b,c⟩:=xR h4;have e:=List.all_eq_true.1 h3;have f:x∉l1++i::l2:=by simpa using h2
  refine⟨fun y d=>?_,?_,?_⟩
  .rcases List.mem_cons.1 d with rfl|d
   .have:=e i (gz _ (.head _));simp only[sr]at this;rcases this with h|h
    .exact .inl (by simpa using h)
    .right
     split at h
     .rename_i ox oy e1 e2;exact⟨ox,oy,e1,e2,h⟩
     .cases h
   .exact a y d
  .simp only[aN,fM,cX];refine⟨⟨⟨h1,?_⟩,?_⟩,b⟩
   .have:x∉l1++l2:=fun hm=>f (by
     rcases List.mem_append.1 hm with h|h
     .exact ge _ h
     .exact gz _ (.tail _ h))
    simpa using this
   .refine List.all_eq_true.2 fun y d=>e y ?_;rcases List.mem_append.1 d with h|h
    .exact ge _ h
    .exact gz _ (.tail _ h)
  .intro hm;rcases List.mem_cons.1 hm with rfl|hm
   .exact f (gz _ (.head _))
   .exact c hm
def CQ{cl:List (List Nat)}(b:u6 ol cl=true){L:Nat->Prop}(closed:∀y o,ol[y]?=some o->L y->∀z∈jQ o,L z):
  ∀(n y:Nat),y<n->∀o,ol[y]?=some o->(∀z∈jQ o,L z)->∀x∈cl.getD y [],L x
 |0,y,h=>by omega
 |n+1,y,h=>by
  intro o f hd x j;have i:y<ol.length:=by
   rcases aI y ol.length with h|h
   .exact h
   .rw[fe h]at f;cases f
  have h1:=List.all_eq_true.1 b y (List.mem_range.2 i);simp only[f,cX]at h1;have h2:=List.all_eq_true.1 h1.2 x j;simp only[sr]at h2;rcases h2 with h2|h2
  .exact hd x (by simpa using h2)
  .obtain⟨z,g,e⟩:=List.any_eq_true.1 h2;have c:=List.all_eq_true.1 h1.1 z g;simp only[dA]at c;have d:z<ol.length:=by omega
   have a:ol[z]?=some ol[z]:=aZ d;exact CQ b closed n z O _ a (closed z _ a (hd z g)) x (by simpa using e)
variable{ops:Array Oper}{w0:World}
def Gy{n0:Nat}{H0:PH}(hn:n0=w0.heap.size)(W:ops.toList=ol){cl:List (List Nat)}(I:u6 ol cl=true):
  ∀(eU:Nat) (κ:List Nat) (listed:Array Bool) {σ:St} {H:PH} {a:Act} {w:World},κ.length<=eU->listed.size=ops.size->fM ol cl fr str κ=true->
   (∀i,i∈κ<->i<ops.size/\listed.getD i true=false)->
   (∀y o,ol[y]?=some o->listed.getD y false=true->∀z∈jQ o,listed.getD z false=true)->
   eR σ.bx->VD P ol fr str K κ σ H->cM H0 w0 H w->G n0 σ H a w->wpAny P .any ops (QK n0 H0 w0 K) eU listed a w:=by
 subst W;have c:∀(listed:Array Bool) (i:Nat),i∈Region.ready .any ops listed<->i<ops.size/\listed.getD i true=false/\∃o,ops[i]?=some o/\∀z∈jQ o,listed.getD z false=true:=by
  intro listed i;simp only[Region.ready,jZ,List.mem_range,cX,sm];constructor
  .rintro⟨h1,h2,h3⟩;refine⟨h1,h2,?_⟩;cases v:ops[i]? with
   |none=>rw[v]at h3;cases h3
   |some o=>rw[v]at h3;simp only[cZ,qL]at h3;refine⟨o,rfl,fun z B=>?_⟩;simp only[jQ,mg,jZ]at B;obtain⟨e,⟨he,hb⟩,rfl⟩:=B;have:=Array.all_eq_true'.1 h3 e (by simpa using he);simpa[hb]using this
  .rintro⟨h1,h2,o,v,h3⟩;refine⟨h1,h2,?_⟩;rw[v];simp only[cZ,qL];refine Array.all_eq_true'.2 fun e he=>?_;cases hb:Region.binds .any e with
   |false=>rfl
   |true=>have:=h3 e.on (by simp only[jQ,mg,jZ];exact⟨e,⟨by simpa using he,hb⟩,rfl⟩);simpa using this
 have J:ops.size=ops.toList.length:=(n8).symm;have t:∀i:Nat,ops[i]?=ops.toList[i]?:=fun i=>by simp
 have m:∀(κ:List Nat) (listed:Array Bool),(∀i,i∈κ<->i<ops.size/\listed.getD i true=false)->listed.size=ops.size->Region.ready .any ops listed=[]->κ=[]:=by
  intro κ listed hm u hr;have key:∀n i,i<n->i<ops.size->listed.getD i true=true:=by
   intro n
   induction n with
   |zero=>intro i h;omega
   |succ n S=>
    intro i hi F;cases C:listed.getD i true with
    |true=>rfl
    |false=>
     exfalso;have r:ops[i]?=some ops[i]:=sj F;have:i∈Region.ready .any ops listed:=(c listed i).2 ⟨F,C,ops[i],r,fun z B=>by have h1:=List.all_eq_true.1 I i (List.mem_range.2 O);rw[<-t i,r]at h1;simp only[cX]at h1;have T:=List.all_eq_true.1 h1.1 z B;simp only[dA]at T;have:=S z O O;rw[jr]at this |-;rw[sj O]at this |-;simpa using this⟩
     rw[hr]at this;cases this
  cases κ with
  |nil=>rfl
  |cons i l=>exfalso;have:=(hm i).1 (.head _);rw[key (i+1) i O this.1]at this;exact Bool.noConfusion this.2
 intro eU
 induction eU with
 |zero=>
  intro κ listed σ H a w A u hp hm hc hs h st g;have:κ=[]:=List.length_eq_zero_iff.1 O;subst this;refine⟨?_,σ,H,h,st,g⟩;cases hr:Region.ready .any ops listed with
  |nil=>rfl
  |cons i l=>have hi:=(c listed i).1 (by rw[hr];exact .head _);exact absurd ((hm i).2 ⟨hi.1,hi.2.1⟩) dH
 |succ eU S=>
  intro κ listed σ H a w A u hp hm hc hs h st g;refine⟨fun hr=>?_,fun i hi=>?_⟩
  .have:=m κ listed hm u hr;subst this;exact⟨σ,H,h,st,g⟩
  .obtain⟨h1,h2,oi,r,s⟩:=(c listed i).1 hi;have aa:i∈κ:=(hm i).2 ⟨h1,h2⟩;obtain⟨R,Q,rfl⟩:=List.append_of_mem aa;obtain⟨pa,pb,pc⟩:=xR hp;have f:ops.toList[i]?=some oi:=by rw[<-t];exact r
   have hb:=zF (K:=K) (P:=P) f R Q hs (fun x hx=>by
    rcases pa x hx with U|⟨ox,oy,e1,e2,e3⟩
    .exfalso;have:=CQ I (L:=fun x=>listed.getD x false=true) hc (i+1) i O oi f s x U;have q:=((hm x).1 (ge _ hx)).2;rw[jr]at this q;cases hg:listed[x]? with
     |none=>rw[hg]at this;cases this
     |some b=>rw[hg]at this q;simp only[qL]at this q;rw[this]at q;cases q
    .rw[f]at e2;cases e2;exact⟨ox,e1,e3⟩) h
   simp only[VD,f]at hb;have hv:=(wC (K':=fun σ' H'=>eR σ'.bx/\VD P ops.toList fr str K (R++Q) σ' H') (fun σ' H' V h'=>⟨V,h'⟩) hs hb).toV;refine zm r hn (fun σ' H' a' w' hk N g'=>?_) hv st g;have k:∀(j:Nat) (d:Bool),(listed.setIfInBounds i true).getD j d=if i=j then (if i<listed.size then true else d)else listed.getD j d:=by
    intro j d;rw[jr,Cb];by_cases e:i=j
    .subst e;by_cases C:i<listed.size<;>simp[C]
    .simp[e,jr]
   refine S (R++Q) _ (by simp at A |-;omega) (by simp[u]) pb (fun j=>?_) (fun y o v C z B=>?_) hk.1 hk.2 N g'
   .rw[k];by_cases e:i=j
    .subst e;simp only[co,ag (show i<listed.size by omega)];exact⟨fun X=>absurd X pc,fun hh=>by cases hh.2⟩
    .simp only[ab e];rw[<-hm j];constructor
     .intro p;rcases List.mem_append.1 p with p|p
      .exact ge _ p
      .exact gz _ (.tail _ p)
     .intro p;rcases List.mem_append.1 p with p|p
      .exact ge _ p
      .rcases List.mem_cons.1 p with rfl|p
       .exact absurd rfl e
       .exact gz _ p
   .rw[k]at C |-;have Z:i<listed.size:=by omega
    by_cases ez:i=z
    .subst ez;simp[Z]
    .simp only[ab ez];by_cases ey:i=y
     .subst ey;rw[f]at v;cases v;exact s z B
     .simp only[ab ey]at C;exact hc y o v C z B
def AO:∀(n:Nat) (l:List Nat),l.Nodup->(∀i∈l,i<n)->l.length<=n
 |0,l,_,h=>by cases l with|nil=>simp|cons x l=>exact absurd (h x (.head _)) O
 |n+1,l,a,h=>by
  have h1:=AO n (l.erase n) (a.erase n) fun i hi=>by have:=(a.mem_erase_iff).1 hi;have:=h i this.2;omega
  by_cases hm:n∈l
  .rw[List.length_erase_of_mem hm]at h1;omega
  .rw[List.erase_of_not_mem hm]at h1;omega
def Ox{n0:Nat}{H0:PH}(f:n0=w0.heap.size)(hm:P.follows .mixedOrders=true){id:Nat}{κ:List Nat}(b:qh ops.toList κ fr str=true){σ:St}{H:PH}{a:Act}{w:World}
  (hs:eR σ.bx) (h:VD P ops.toList fr str K κ σ H) (st:cM H0 w0 H w) (g:G n0 σ H a w):(Code.region id ops true).wp P (QK n0 H0 w0 K) a w:=by
 simp only[qh,cX]at b;obtain⟨⟨h1,h2⟩,h3⟩:=b;have mem:∀(l:List Nat),fM ops.toList (j8 ops.toList) fr str l=true->∀i∈l,i<ops.size:=by
  intro l
  induction l with
  |nil=>intro _ i hi;cases hi
  |cons x l d=>
   intro hp i hi;simp only[fM,cX,dA]at hp;rcases List.mem_cons.1 hi with rfl|hi
   .simpa using hp.1.1.1
   .exact d hp.2 i hi
 have len:∀(l:List Nat),fM ops.toList (j8 ops.toList) fr str l=true->l.Nodup:=by
  intro l
  induction l with
  |nil=>intro _;exact List.nodup_nil
  |cons x l d=>intro hp;simp only[fM,cX]at hp;exact List.nodup_cons.2 ⟨by simpa using hp.1.1.2,d hp.2⟩
 have c:κ.length<=ops.size:=by exact AO _ _ (len κ h3) (mem κ h3)
 refine wp_region_any hm (Gy f rfl h1 ops.size κ _ c (by simp) h3 (fun i=>?_) (fun y o j e=>?_) hs h (w:={ w with drawn:=w.drawn+1 }) ?_ ?_)
 .constructor
  .intro hi;have:=mem κ h3 i hi;exact⟨this,by simp[jr,this]⟩
  .rintro⟨hi,_⟩;have:=List.all_eq_true.1 h2 i (List.mem_range.2 (by simpa using hi));simpa using this
 .exfalso;rw[jr,Array.getElem?_replicate]at e;split at e<;>cases e
 .exact⟨st.sub,st.size,st.priv,st.dom,st.os,st.tape,st.out⟩
 .obtain⟨β,g⟩:=g;exact⟨β,g.defers,g.size,g.tm,g.bx,g.inj,g.lo,g.keys⟩
end
open Go
structure Cx where
 P:Program
 f:FuncId
 fn:Func
 hf:P.funcs[f]?=some fn
 H0:PH
 w0:World
 post:Value->PH->Prop
def FU(C:Cx)(e:Ending)(w:World):Prop:=
 match e with
 | .returned v=>∃H2,cM C.H0 C.w0 H2 w/\C.post v H2
 |_=>False
def jy(f:FuncId):Frame:={ (default:Frame)with fn:=f,kind:=.normal }
def R(C:Cx)(k:List Item)(σ:St)(H:PH):Prop:=
 ∀w a cs,cM C.H0 C.w0 H w->G C.w0.heap.size σ H a w->
  ∃e b fr,FU C e b/\Comes C.P (lone ((jy C.f).at a k) cs w) (lone fr cs b) e/\fr.fn=C.f/\fr.leaving C.P b e
section
variable {C:Cx} {k:List Item} {σ:St} {H:PH}
variable{k':List Item}
def pu(h:R C k' σ H)(st:∀a cs w,G C.w0.heap.size σ H a w->step C.P (lone ((jy C.f).at a k) cs w)=.next (lone ((jy C.f).at a k') cs w)):R C k σ H:=by intro w a cs s g;obtain⟨e,b,fr,h1,h2,h3,h4⟩:=h w a cs s g;exact⟨e,b,fr,h1,.of_steps (.one (st a cs w g)) h2,h3,h4⟩
def ME(h:R C k σ H):R C (.code .skip::k) σ H:=pu h fun _ _ _ _=>step_skip
def Mx{l:Nat}(h:R C k σ H):R C (.code (.label l)::k) σ H:=pu h fun _ _ _ _=>step_label
variable{id:Nat}
def Mv(h:R C k σ H):R C (.inBlock id::k) σ H:=pu h fun _ _ _ _=>step_inBlock
def MD{x y:Code}(h:R C (.code x::.code y::k) σ H):R C (.code (.seq x y)::k) σ H:=pu h fun _ _ _ _=>step_seq
variable{c:Code}
def Mr(h:R C (.code c::.inBlock id::k) σ H):R C (.code (.block id c)::k) σ H:=pu h fun _ _ _ _=>step_block
def Mu(a:exitTo id k=some k')(h:R C k' σ H):R C (.code (.exit id)::k) σ H:=pu h fun _ _ _ _=>step_exit a
def F8{c:Operand}{x y:Code}{t:Bool}(a:ev σ c=.v (.bool t))(h:R C (.code (if t then x else y)::k) σ H):R C (.code (.cond c x y)::k) σ H:=
 pu h fun _ _ _ g=>step_cond (by obtain⟨β,g⟩:=g;exact e9 g a)
def Mw(h:R C (.code c::.inLoop c::k) σ H):R C (.inLoop c::k) σ H:=pu h fun _ _ _ _=>step_inLoop
def Mz(h:R C (.code c::.inLoop c::k) σ H):R C (.code (.loop c)::k) σ H:=pu h fun _ _ _ _=>step_loop
def My(J:Nat->St->PH->Prop)(n:Nat)(h0:J n σ H)
  (h:∀n σ H,J n σ H->(∀m,m<n->∀σ' H',J m σ' H'->R C (.inLoop c::k) σ' H')->R C (.code c::.inLoop c::k) σ H):R C (.code (.loop c)::k) σ H:=by
 refine Mz ?_;have key:∀n σ H,J n σ H->R C (.code c::.inLoop c::k) σ H:=by
  intro n
  induction n using Nat.strongRecOn with
  |_ n b=>exact fun σ H d=>h n σ H d fun m hm σ' H' a=>Mw (b m hm σ' H' a)
 exact key n σ H h0
def zg(h:∀a w,cM C.H0 C.w0 H w->G C.w0.heap.size σ H a w->c.wp C.P (QK C.w0.heap.size C.H0 C.w0 (R C k)) a w):R C (.code c::k) σ H:=by
 intro w a cs s g;obtain⟨e,j,i,d,b⟩:=h a w s g (jy C.f) k cs;cases e with
 |normal=>obtain⟨σ',H',hr,s',g'⟩:=d;obtain⟨e,w2,fr,h1,h2,h3,h4⟩:=hr i j cs s' g';exact⟨e,w2,fr,h1,.of_steps b h2,h3,h4⟩
 |_=>exact d.elim
def V2(P:Program)(ol:List Oper)(K:St->PH->Prop):List Oper->St->PH->Prop
 | [],σ,H=>K σ H
 |o::l,σ,H=>wF P ol o (V2 P ol K l) σ H
def MM{P:Program}{K:St->PH->Prop}(f:List Oper):∀(rem:List Oper) {σ:St} {H:PH},V2 P (f++rem) K rem σ H->V P (f++rem) K (List.range' f.length rem.length) σ H:=by
 intro rem
 suffices h:∀(ol f rem:List Oper) (σ:St) (H:PH),ol=f++rem->V2 P ol K rem σ H->V P ol K (List.range' f.length rem.length) σ H from fun{σ H} hv=>h _ _ _ σ H rfl hv
 intro ol f rem
 induction rem generalizing f with
 |nil=>intro σ H _ h;exact h
 |cons o rem j=>
  intro σ H i h;simp only[bm,List.range'_succ,V];have l:ol[f.length]?=some o:=by rw[i];simp
  rw[l];simp only[V2]at h;have g:∀σ' H',V2 P ol K rem σ' H'->V P ol K (List.range' (f.length+1) rem.length) σ' H':=fun σ' H' n=>by have:=j (f++[o]) σ' H' (by rw[i];simp) n;simpa using this
  rcases h with ⟨a,b⟩|⟨a,b⟩
  .exact .inl ⟨a,g _ _ b⟩
  .refine .inr ⟨a,?_⟩;rcases b with ⟨sv,b,c⟩|⟨d,T,cs,b,c,e⟩|⟨x,off,cs,b,c⟩|⟨b,c⟩
   .exact .inl ⟨sv,b,g _ _ c⟩
   .exact .inr (.inl ⟨d,T,cs,b,c,g _ _ e⟩)
   .exact .inr (.inr (.inl ⟨x,off,cs,b,g _ _ c⟩))
   .exact .inr (.inr (.inr ⟨b,c.mono fun sv H2 m=>g _ _ m⟩))
inductive Cf where
 |st (k:List Item)
 |op (ol rem:List Oper) (k:List Item)
def RC(C:Cx)(c:Cf)(σ:St)(H:PH):Prop:=
 match c with
 | .st k=>R C k σ H
 | .op ol rem k=>V2 C.P ol (R C k) rem σ H
variable{ops:Array Oper}
def MC(h:V2 C.P ops.toList (R C k) ops.toList σ H):R C (.code (.region id ops false)::k) σ H:=by
 refine zg fun a w s g=>wp_region ?_;have:=MM [] ops.toList h;rw[aM]at this;have h2:List.range ops.size=List.range' 0 ops.toList.length:=by rw[List.range_eq_range'];simp
 rw[h2];exact CE rfl _ this s g
def Ms(hm:C.P.follows .mixedOrders=true)(κ:List Nat)(fr:cu)(str:cw)(a:qh ops.toList κ fr str=true)(hs:eR σ.bx)
  (h:VD C.P ops.toList fr str (R C k) κ σ H):R C (.code (.region id ops true)::k) σ H:=
 zg fun _ _ s g=>Ox rfl hm a hs h s g
def wG(P:Program)(ol:List Oper)(o:Oper)(σ:St):Option (Prop×St):=
 match bH ol σ o with
 |some false=>some (True,σ.put o.dst (.v undef))
 |some true=>match pv P σ.bx (ev σ) o.op with
  |some (φ,sv)=>some (φ,σ.put o.dst sv)
  |none=>match o.dst,jP P (ev σ) o.op with
   |some d,some (T,cs)=>some (True,σ.newBox d T cs)
   |_,_=>match mW P σ.bx (ev σ) o.op with
    |some (x,off,cs)=>some (True,(σ.store x off cs).put o.dst .u)
    |none=>none
 |none=>none
variable{o:Oper}
def MV{P:Program}{ol:List Oper}{σ':St}{φ:Prop}{K:St->PH->Prop}(h:wG P ol o σ=some (φ,σ'))(c:φ)(a:K σ' H):wF P ol o K σ H:=by
 unfold wG at h;split at h
 .rename_i b;cases h;exact .inl ⟨b,a⟩
 .rename_i b;refine .inr ⟨b,?_⟩;split at h
  .rename_i e sv hp;cases h;exact .inl ⟨sv,.inl ⟨φ,hp,c⟩,a⟩
  .split at h
   .rename_i d T cs hd ha;cases h;exact .inr (.inl ⟨d,T,cs,hd,ha,a⟩)
   .split at h
    .rename_i x off cs hs;cases h;exact .inr (.inr (.inl ⟨x,off,cs,hs,a⟩))
    .cases h
 .cases h
def fN(P:Program):Nat->Cf->St->List Prop->List Prop×Cf×St
 |0,c,σ,ps=>(ps,c,σ)
 |n+1,c,σ,ps=>
  match c with
  | .op _ [] k=>fN P n (.st k) σ ps
  | .op ol (o::rem) k=>match wG P ol o σ with
   |some (φ,σ')=>fN P n (.op ol rem k) σ' (φ::ps)
   |none=>(ps,.op ol (o::rem) k,σ)
  | .st (.code (.region _ ops false)::k)=>fN P n (.op ops.toList ops.toList k) σ ps
  | .st (.code (.seq a b)::k)=>fN P n (.st (.code a::.code b::k)) σ ps
  | .st (.code .skip::k)=>fN P n (.st k) σ ps
  | .st (.code (.label _)::k)=>fN P n (.st k) σ ps
  | .st (.inBlock _::k)=>fN P n (.st k) σ ps
  | .st (.code (.block id b)::k)=>fN P n (.st (.code b::.inBlock id::k)) σ ps
  | .st (.code (.exit id)::k)=>match exitTo id k with
   |some k'=>fN P n (.st k') σ ps
   |none=>(ps,.st (.code (.exit id)::k),σ)
  | .st (.code (.cond c t e)::k)=>match ev σ c with
   | .v (.bool true)=>fN P n (.st (.code t::k)) σ ps
   | .v (.bool false)=>fN P n (.st (.code e::k)) σ ps
   |_=>(ps,.st (.code (.cond c t e)::k),σ)
  |c=>(ps,c,σ)
def jI:List Prop->Prop
 | []=>True
 |p::l=>jI l/\p
def mw:∀(n:Nat) (c:Cf) (σ:St) (ps:List Prop),jI (fN C.P n c σ ps).1->RC C (fN C.P n c σ ps).2.1 (fN C.P n c σ ps).2.2 H->jI ps/\RC C c σ H
 |0,c,σ,ps,hp,h=>⟨hp,h⟩
 |n+1,c,σ,ps,hp,h=>by
  unfold fN at hp h;split at hp<;>simp only at h
  .obtain⟨a,b⟩:=mw n _ _ _ hp h;exact⟨a,b⟩
  .rename_i ol o rem k;cases ha:wG C.P ol o σ with
   |none=>rw[ha]at hp h;exact⟨hp,h⟩
   |some x=>obtain⟨φ,σ'⟩:=x;rw[ha]at hp h;obtain⟨⟨a,b⟩,c⟩:=mw n _ _ _ hp h;exact⟨a,MV ha b c⟩
  .obtain⟨a,b⟩:=mw n _ _ _ hp h;exact⟨a,MC b⟩
  .obtain⟨a,b⟩:=mw n _ _ _ hp h;exact⟨a,MD b⟩
  .obtain⟨a,b⟩:=mw n _ _ _ hp h;exact⟨a,ME b⟩
  .obtain⟨a,b⟩:=mw n _ _ _ hp h;exact⟨a,Mx b⟩
  .obtain⟨a,b⟩:=mw n _ _ _ hp h;exact⟨a,Mv b⟩
  .obtain⟨a,b⟩:=mw n _ _ _ hp h;exact⟨a,Mr b⟩
  .rename_i id k;cases f:exitTo id k with
   |none=>rw[f]at hp h;exact⟨hp,h⟩
   |some k'=>rw[f]at hp h;obtain⟨a,b⟩:=mw n _ _ _ hp h;exact⟨a,Mu f b⟩
  .rename_i g t e k;split at hp
   .rename_i d;rw[d]at h;obtain⟨a,b⟩:=mw n _ _ _ hp h;exact⟨a,F8 d b⟩
   .rename_i d;rw[d]at h;obtain⟨a,b⟩:=mw n _ _ _ hp h;exact⟨a,F8 d b⟩
   .rename_i h1 h2;have:∀{α:Type} (x y z:α),(match ev σ g with | .v (.bool true)=>x | .v (.bool false)=>y|_=>z)=z:=by
     intro α x y z;split
     .rename_i d;exact absurd d (by simpa using h1)
     .rename_i d;exact absurd d (by simpa using h2)
     .rfl
    refine⟨hp,?_⟩;split at h
    .rename_i d;exact absurd d (by simpa using h1)
    .rename_i d;exact absurd d (by simpa using h2)
    .exact h
  .exact⟨hp,h⟩
def jK(n:Nat){c:Cf}(h:jI (fN C.P n c σ []).1/\RC C (fN C.P n c σ []).2.1 (fN C.P n c σ []).2.2 H):RC C c σ H:=(mw n c σ [] h.1 h.2).2
def aw(C:Cx)(H:PH)(r:List Prop×Cf×St):Prop:=jI r.1/\RC C r.2.1 r.2.2 H
theorem MH(C:Cx)(H:PH)(ps:List Prop)(c:Cf)(σ:St):aw C H (ps,c,σ)=(jI ps/\RC C c σ H):=rfl
def cD(n:Nat){c:Cf}(h:aw C H (fN C.P n c σ [])):RC C c σ H:=jK n h
def RG{c:Cf}(h:aw C H (fN C.P 500 c σ [])):RC C c σ H:=jK 500 h
variable{rem:List Oper}
def jw{ol:List Oper}(a:bH ol σ o=some true)(b:bQ σ o.op=true)
  (h:eD C.P (execOp (bf σ) o) H fun sv H2=>RC C (.op ol rem k) (σ.put o.dst sv) H2):RC C (.op ol (o::rem) k) σ H:=
 .inr ⟨a,.inr (.inr (.inr ⟨b,h⟩))⟩
def tX{ol:List Oper}(v:Value)(a:bH ol σ o=some true)(b:bQ σ o.op=true)
  (hv:∀w,Sub H w->(execOp (bf σ) o).run C.P w=.ok (.value v) w) (h:RC C (.op ol rem k) (σ.put o.dst (.v v)) H):RC C (.op ol (o::rem) k) σ H:=
 .inr ⟨a,.inl ⟨_,.inr ⟨v,rfl,b,hv⟩,h⟩⟩
end
end Go.Sx
