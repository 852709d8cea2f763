import Derived.Test.YtfaclfkpnmcmlaaGreatDoorH00
set_option maxHeartbeats 8000000
set_option linter.all false
namespace Go.Sx
open Go
inductive Cl where
 |val|alc|st|gen|nw
 deriving DecidableEq
def rp:Op->Cl
 | .alloc _ | .box ..=>.alc
 | .store ..=>.st
 | .move _ | .assign _ | .pick .. | .load .. | .binOp .. | .unOp .. | .convert .. | .fieldAddr .. | .field .. | .indexAddr .. | .index .. | .extract ..
 | .build .. | .nilCheck _ | .makeFunc .. | .lookup .. | .slice ..=>.val
 | .call { callee:=.builtin .len,.. } | .call { callee:=.builtin .cap,.. } | .call { callee:=.builtin .min,.. } | .call { callee:=.builtin .max,.. }=>.val
 | .makeMap _ none=>.nw
 |_=>.gen
def lx:List Nat->Nat->Bool
 | [],_=>false
 |a::l,k=>if a=k then true else lx l k
def mX(kp:List Nat):List js->List js
 | []=>[]
 |b::l=>if lx kp b.key then b::mX kp l else mX kp l
def kb(f:Bool)(kp:List Nat)(l:List js):List js:=if f then mX kp l else l
structure zP where
 h:Bool
 j:Bool
 J:PH
 k:Bool
 kp:List Nat
structure JG where
 h:Bool
 j:Bool
 k:Bool
structure iK where
 h:List Nat
 j:List Nat
 J:PH
 k:List Nat
 kp:List Nat
structure ip where
 h:List Nat
 j:List Nat
 k:List Nat
def iK.at'(d:iK)(i:Nat):zP:=⟨d.h.contains i,d.j.contains i,d.J,lx d.k i,d.kp⟩
def ip.at'(d:ip)(i:Nat):JG:=⟨d.h.contains i,d.j.contains i,lx d.k i⟩
variable{l:List js}{kp:List Nat}
def Ea{k:Nat}{B:js}(h:eJ (mX kp l) k=some B):eJ l k=some B/\lx kp k=true:=by
 induction l with
 |nil=>cases h
 |cons b l ih=>
  simp only[mX]at h;split at h
  ·simp only[eJ]at h |-;split at h
   ·rename_i hm e;subst e;rw[aaq rfl];exact⟨h,hm⟩
   ·rename_i hm e;rw[ZV e];exact ih h
  ·rename_i hm;obtain⟨a,c⟩:=ih h;simp only[eJ];rw[ZV (fun e=>hm (by rw[e];exact c))];exact⟨a,c⟩
def xg{kp:List Nat}{k off:Nat}{cs:List Value}(hk:lx kp k=false):∀(l:List js),mX kp (rz l k off cs)=mX kp l
 | []=>rfl
 |b::l=>by
  simp only[rz];split
  ·rename_i e;simp[mX,e,hk]
  ·simp only[mX,xg hk l]
variable{r:Prop×SV}{ρ:Operand->SV}{bx:List js}
def JN{P:Program}{bx':List js}{op:Op}(hb:∀k B,eJ bx k=some B->eJ bx' k=some B)(h:pv P bx ρ op=some r):pv P bx' ρ op=some r:=by
 cases op<;>first|exact h|(rename_i mx;cases mx<;>exact h)|skip
 rename_i T x;simp only[pv,yF]at h |-;split at h
 ·rename_i k off hx;split at h
  ·rename_i B hB;rw[hb k B hB];exact h
  ·cases h
 ·cases h
def Vj{P:Program}{f:Bool}{op:Op}(h:pv P (kb f kp bx) ρ op=some r):pv P bx ρ op=some r:=by
 unfold kb at h;split at h
 ·exact JN (fun k B hB=>(Ea hB).1) h
 ·exact h
def Kc:Op->Bool
 | .load ..=>false
 |_=>true
def GN{P:Program}{bx':List js}{op:Op}(h:Kc op=true):pv P bx ρ op=pv P bx' ρ op:=by
 cases op<;>first|rfl|(rename_i mx;cases mx<;>rfl)|cases h
def NI(P:Program)(fr:zP)(σ:St)(H:PH)(o:Oper)(sv:SV):Prop:=
 (∃φ,pv P (kb fr.k fr.kp σ.bx) (ev σ) o.op=some (φ,sv)/\φ)\/
 (fr.h=true/\∃v,sv=.v v/\bh σ o.op=true/\∀w,Sub H w->(execOp (bN σ) o).run P w=.ok (.value v) w)\/
 (fr.j=true/\fr.J.le H/\∃v,sv=.v v/\bh σ o.op=true/\∀w,Sub fr.J w->(execOp (bN σ) o).run P w=.ok (.value v) w)
variable{sv:SV}{o:Oper}
def NI.val{P:Program}{fr:zP}{σ:St}{H:PH}(h:NI P fr σ H o sv):Yz P σ H o sv:=by
 rcases h with ⟨φ,h,k⟩|h|⟨_,hl,v,a,b,c⟩
 ·exact .inl ⟨φ,Vj h,k⟩
 ·exact .inr h.2
 ·exact .inr ⟨v,a,b,fun w hw=>c w (hw.of_le hl)⟩
def it(P:Program)(ol:List Oper)(fr:zP)(str:JG)(o:Oper)(K:St->PH->Prop)(σ:St)(H:PH):Prop:=
 (aH ol σ o=some false/\K (σ.put o.dst (.v undef)) H)\/
 (aH ol σ o=some true/\match rp o.op with
  | .val=>∃sv,NI P fr σ H o sv/\K (σ.put o.dst sv) H
  | .alc=>∃d T cs,o.dst=some d/\qM P (ev σ) o.op=some (T,cs)/\K (σ.newBox d T cs) H
  | .st=>(∃k off cs,vD P σ.bx (ev σ) o.op=some (k,off,cs)/\(str.k=true->lx fr.kp k=false)/\K ((σ.store k off cs).put o.dst .u) H)\/(str.k=false/\bh σ o.op=true/\de P (execOp (bN σ) o) H fun sv H2=>K (σ.put o.dst sv) H2)
  | .gen=>bh σ o.op=true/\de P (execOp (bN σ) o) H fun sv H2=>((str.h=true->H.le H2)/\(str.j=true->fr.J.le H->fr.J.le H2))/\K (σ.put o.dst sv) H2
  | .nw=>∀b,H b=none->K (σ.put o.dst (.v (.map (some b)))) (H.put b (.map #[] 0)))
def VD(P:Program)(ol:List Oper)(fr:iK)(str:ip)(K:St->PH->Prop):List Nat->St->PH->Prop
 | [],σ,H=>K σ H
 |i::l,σ,H=>match ol[i]? with
  |none=>VD P ol fr str K l σ H
  |some o=>it P ol (fr.at' i) (str.at' i) o (VD P ol fr str K l) σ H
def QY{P:Program}{σ:St}(h:rp o.op=.nw):bh σ o.op=true/\BF P (execOp (bN σ) o) (fun b=>.map (some b)) (.map #[] 0):=by
 obtain⟨dst,op,type,pos,bv,guard⟩:=o;simp only at h |-;cases op<;>try (simp[rp]at h;done)
 case makeMap mt n=>
  cases n with
  |some x=>simp[rp]at h
  |none=>exact⟨by simp[bh,fT,Op.operands],fun w=>by simp[execOp,Instr.makeMap,newObj,Sem.run,Result.andThen]⟩
 case call c=>
  obtain⟨callee,args,types⟩:=c;cases callee with
  |builtin b=>cases b<;>simp[rp]at h
  |value f=>simp[rp]at h
  |invoke r m=>simp[rp]at h
def it.toV{P:Program}{ol:List Oper}{fr:zP}{str:JG}{K:St->PH->Prop}{σ:St}{H:PH}(h:it P ol fr str o K σ H):CV P ol o K σ H:=by
 rcases h with h|⟨hw,h⟩
 ·exact .inl h
 ·refine .inr ⟨hw,?_⟩;split at h
  ·obtain⟨sv,hv,hk⟩:=h;exact .inl ⟨sv,hv.val,hk⟩
  ·exact .inr (.inl h)
  ·rcases h with ⟨k,off,cs,a,_,b⟩|⟨_,a,b⟩
   ·exact .inr (.inr (.inl ⟨k,off,cs,a,b⟩))
   ·exact .inr (.inr (.inr ⟨a,b⟩))
  ·exact .inr (.inr (.inr ⟨h.1,h.2.mono fun _ _ x=>x.2⟩))
  ·rename_i hc;obtain⟨a,b⟩:=QY (P:=P) (σ:=σ) hc;exact .inr (.inr (.inr ⟨a,(b.op H).mono fun sv H2 ⟨x,y,z,u⟩=>by subst z;subst u;exact h x y⟩))
def qN(l:List js):Prop:=l.Pairwise (fun x y=>x.key<y.key)
def uv{k:Nat}(h:qN l):qN (dR l k):=by
 unfold qN at *
 induction l with
 |nil=>simp[dR]
 |cons b l ih=>
  rw[aae]at h;simp only[dR];split
  ·exact ih h.2
  ·exact List.pairwise_cons.2 ⟨fun y hy=>h.1 y (iO hy).1,ih h.2⟩
variable{x:js}
def KJ(h:qN l)(hx:∀B∈l,B.key≠x.key):qN (gU x l):=by
 unfold qN at *
 induction l with
 |nil=>simp[gU]
 |cons b l ih=>
  have h':=h;rw[aae]at h;simp only[gU];split
  ·rename_i aa;refine List.pairwise_cons.2 ⟨fun y hy=>?_,ih h.2 fun B hB=>hx B (.tail _ hB)⟩;rcases mT.1 hy with rfl|hy
   ·exact aa
   ·exact h.1 y hy
  ·rename_i ac;have hb:=hx b (.head _);refine List.pairwise_cons.2 ⟨fun y hy=>?_,h'⟩;rcases List.mem_cons.1 hy with rfl|hy
   ·omega
   ·have:=h.1 y hy;omega
theorem qN.newBox{σ:St}(h:qN σ.bx)(d:Nat)(T:TypeId)(cs:List Value):qN (σ.newBox d T cs).bx:=
 KJ (uv h) fun _ hB=>(iO hB).2
theorem qN.put{σ:St}(h:qN σ.bx)(d:Option Nat)(sv:SV):qN (σ.put d sv).bx:=by cases d<;>exact h
theorem qN.store{σ:St}(h:qN σ.bx)(k off:Nat)(cs:List Value):qN (σ.store k off cs).bx:=by
 have:((rz σ.bx k off cs).map (·.key)).Pairwise (· < ·):=by rw[uj];exact List.pairwise_map.2 h
 exact List.pairwise_map.1 this
def F5(h:∀B∈l,¬B.key<x.key):gU x l=x::l:=by
 cases l with
 |nil=>rfl
 |cons b l=>simp[gU,h b (.head _)]
def xX{k:Nat}(hs:qN l)(hk:x.key≠k):dR (gU x l) k=gU x (dR l k):=by
 unfold qN at hs
 induction l with
 |nil=>simp[gU,dR,hk]
 |cons b l ih=>
  rw[aae]at hs;simp only[gU];split
  ·rename_i aa;simp only[dR];split
   ·exact ih hs.2
   ·simp[gU,aa,ih hs.2]
  ·rename_i ac;have h1:dR (x::b::l) k=x::dR (b::l) k:=by rw[dR];simp[hk]
   rw[h1];refine(F5 fun B hB=>?_).symm;have:=(iO hB).1;rcases List.mem_cons.1 this with rfl|h
   ·exact ac
   ·have:=hs.1 B h;omega
def Iq{y:js}(h:x.key≠y.key):gU x (gU y l)=gU y (gU x l):=by
 induction l with
 |nil=>
  simp only[gU];rcases aal x.key y.key with h1|h1|h1
  ·simp[h1,Nat.not_lt.2 (aar h1)]
  ·exact absurd h1 h
  ·simp[h1,Nat.not_lt.2 (aar h1)]
 |cons b l ih=>
  by_cases hx:b.key<x.key<;>by_cases hy:b.key<y.key
  ·simp[gU,hx,hy,ih]
  ·have:y.key<x.key:=by omega
   simp[gU,hx,hy,this]
  ·have:x.key<y.key:=by omega
   simp[gU,hx,hy,this]
  ·rcases aal x.key y.key with h1|h1|h1
   ·simp[gU,hx,hy,h1,Nat.not_lt.2 (aar h1)]
   ·exact absurd h1 h
   ·simp[gU,hx,hy,h1,Nat.not_lt.2 (aar h1)]
def Fw(l:List js)(a b:Nat):dR (dR l a) b=dR (dR l b) a:=by
 induction l with
 |nil=>rfl
 |cons x l ih=>
  by_cases h1:x.key=a<;>by_cases h2:x.key=b<;>simp[dR,h1,h2,ih]<;>simp_all[dR]
def tU(l:List SV)(a b:Nat)(x y:SV)(h:a≠b):lN (lN l a x) b y=lN (lN l b y) a x:=by
 induction l generalizing a b with
 |nil=>rfl
 |cons z l ih=>
  cases a<;>cases b<;>simp only[lN]<;>first|omega|(congr 1;exact ih _ _ ab)
def wP(f:SV->SV)(l:List SV)(a:Nat)(x:SV):(lN l a x).map f=lN (l.map f) a (f x):=by
 induction l generalizing a with
 |nil=>rfl
 |cons z l ih=>cases a<;>simp[lN,ih]
def mQ(σ:St)(a b:Option Nat)(x y:SV)(h:∀d,a=some d->b≠some d):(σ.put a x).put b y=(σ.put b y).put a x:=by
 cases a<;>cases b<;>simp only[St.put]
 rename_i c d;rw[tU _ _ _ _ _ (fun e=>h c rfl (by rw[e]))]
def oN(σ:St)(d:Nat)(T:TypeId)(cs:List Value)(e:Option Nat)(sv:SV)(h:e≠some d):(σ.put e sv).newBox d T cs=(σ.newBox d T cs).put e (kQ d sv):=by
 cases e with
 |none=>rfl
 |some e=>
  have:e≠d:=fun x=>h (by rw[x]);simp only[St.put,St.newBox,wP];rw[tU _ _ _ _ _ this]
def PW(l:List SV)(a b:Nat):(l.map (kQ a)).map (kQ b)=(l.map (kQ b)).map (kQ a):=by
 simp only[aas];apply aat;intro x _;cases x with
 |v x=>rfl
 |u=>rfl
 |p k off=>
  by_cases h1:k=a<;>by_cases h2:k=b<;>simp only[Function.comp,kQ,h1,h2,ZT,Z2]
  all_goals (by_cases h3:a=b<;>simp_all[kQ])
def DE(σ:St)(d e:Nat)(T T':TypeId)(cs cs':List Value)(h:d≠e)(hs:qN σ.bx):(σ.newBox d T cs).newBox e T' cs'=(σ.newBox e T' cs').newBox d T cs:=by
 have h1:¬d=e:=h;have h2:¬e=d:=fun x=>h x.symm;have t:(lN (((lN (σ.tm.map (kQ d)) d (.p d 0))).map (kQ e)) e (.p e 0))=(lN (((lN (σ.tm.map (kQ e)) e (.p e 0))).map (kQ d)) d (.p d 0)):=by
  rw[wP,wP,tU _ _ _ _ _ h,PW];simp[kQ,h1,h2]
 have b:gU ⟨e,T',cs'⟩ (dR (gU ⟨d,T,cs⟩ (dR σ.bx d)) e)=gU ⟨d,T,cs⟩ (dR (gU ⟨e,T',cs'⟩ (dR σ.bx e)) d):=by
  rw[xX (uv hs) h,xX (uv hs) (Ne.symm h),Iq (Ne.symm h),Fw]
 simp only[St.newBox,t,b]
def looks (ol : List Oper) (o : Oper) : List Nat :=
  (o.op.operands.toList.filterMap fun | .tmp t => some t | _ => none) ++
  (match o.guard with
   | some (j, _) => match ol[j]? with | some o' => o'.dst.toList | none => []
   | none => [])
def se(ol:List Oper)(x y:Oper):Bool:=
 (match x.dst with|some d=>!(looks ol y).contains d && y.dst != some d|none=>true) &&
 (match y.dst with|some d=>!(looks ol x).contains d && x.dst != some d|none=>true)
variable{d:Nat}
def DF{ol:List Oper}(h:d∉looks ol o):∀x∈o.op.operands,x≠.tmp d:=by
 intro x hx e;subst e;exact h (aau _ (List.mem_filterMap.2 ⟨.tmp d,by simpa using hx,rfl⟩))
def T5{σ:St}{d:Option Nat}{x:Operand}(h:∀e,d=some e->x≠.tmp e):ev (σ.put d sv) x=ev σ x:=by
 cases d with
 |none=>rfl
 |some d=>
  cases x with
  |tmp t=>
   have:d≠t:=fun e=>h d rfl (by rw[e]);simp[ev,St.put,eX,gh,this]
  |_=>rfl
variable{cs:List Value}
def Ix{σ:St}{T:TypeId}{x:Operand}(h:x≠.tmp d):ev (σ.newBox d T cs) x=kQ d (ev σ x):=by
 cases x with
 |tmp t=>
  have:d≠t:=fun e=>h (by rw[e]);simp only[ev,St.newBox,eX,gh,ZV this,aai];cases σ.tm[t]?<;>rfl
 |_=>rfl
def fQ{ol:List Oper}{σ:St}{d:Option Nat}(h:∀e,d=some e->e∉looks ol o):aH ol (σ.put d sv) o=aH ol σ o:=by
 unfold aH;cases hg:o.guard with
 |none=>rfl
 |some g=>
  obtain⟨j,want⟩:=g;simp only;cases ho:ol[j]? with
  |none=>rfl
  |some o'=>
   simp only;cases ht:o'.dst with
   |none=>rfl
   |some t=>
    have aa:∀e,d=some e->e≠t:=fun e he h2=>h e he (by
     subst h2;exact aav _ (by simp[hg,ho,ht]))
    have:oY (σ.put d sv).tm t=oY σ.tm t:=by
     cases d with
     |none=>rfl
     |some d=>simp[St.put,eX,gh,aa d rfl]
    simp only[this]
def ft{ol:List Oper}{σ:St}{T:TypeId}{r:Bool}(h:d∉looks ol o):aH ol (σ.newBox d T cs) o=some r<->aH ol σ o=some r:=by
 unfold aH;cases hg:o.guard with
 |none=>rfl
 |some g=>
  obtain⟨j,want⟩:=g;simp only;cases ho:ol[j]? with
  |none=>rfl
  |some o'=>
   simp only;cases ht:o'.dst with
   |none=>rfl
   |some t=>
    have aa:d≠t:=fun h2=>h (by
     subst h2;exact aav _ (by simp[hg,ho,ht]))
    have:oY (σ.newBox d T cs).tm t=kQ d (oY σ.tm t):=by
     simp only[St.newBox,eX,gh,ZV aa,aai];cases σ.tm[t]?<;>rfl
    simp only[this];cases oY σ.tm t with
    |v x=>rfl
    |u=>rfl
    |p k off=>by_cases e:k=d<;>simp[kQ,e]
def rY{ρ ρ':Operand->SV}:∀{l:List Operand},(∀x∈l,ρ x=ρ' x)->j8 ρ l=j8 ρ' l
 | [],_=>rfl
 |x::l,h=>by simp only[j8,h x (.head _),rY (fun y hy=>h y (.tail _ hy))]
def yv{ρ ρ':Operand->SV}:∀{l:List (Nat×Operand)},(∀x∈l,ρ x.2=ρ' x.2)->mH ρ l=mH ρ' l
 | [],_=>rfl
 |(i,x)::l,h=>by simp only[mH,h (i,x) (.head _),yv (fun y hy=>h y (.tail _ hy))]
def Dw{P:Program}{ρ':Operand->SV}{op:Op}(h:∀x∈op.operands,ρ x=ρ' x):pv P bx ρ op=pv P bx ρ' op:=by
 cases op<;>simp only[pv]<;>simp only[Op.operands]at h
 case build T ps=>
  rw[yv (l:=ps.toList) fun x hx=>h x.2 (by simpa using ⟨x.1,by simpa using hx⟩)]
 case slice T x lo hi mx=>
  have hx:=h x (by simp);have hl:lo.map ρ=lo.map ρ':=by
   cases lo with
   |none=>rfl
   |some z=>simp only[Z9];rw[h z (by simp)]
  have hh:hi.map ρ=hi.map ρ':=by
   cases hi with
   |none=>rfl
   |some z=>simp only[Z9];rw[h z (by simp)]
  cases mx with
  |some m=>rfl
  |none=>simp only;rw[hx,hl,hh]
 case makeFunc fn f c=>
  rw[rY (l:=f.toList) fun x hx=>h x (by simp at hx |-;exact .inl hx),rY (l:=c.toList) fun x hx=>h x (by simp at hx |-;exact .inr hx)]
 case call c=>
  obtain⟨callee,args,types⟩:=c;have ha:∀x∈args.toList,ρ x=ρ' x:=fun x hx=>h x (by simp[Call.operands]at hx |-;exact .inr hx);simp only[nV];split
  ·rename_i x t e1 e2;rw[ha x (by rw[e1];exact .head _)]
  ·rename_i x t e1 e2;rw[ha x (by rw[e1];exact .head _)]
  ·rename_i x y e1;rw[ha x (by rw[e1];exact .head _),ha y (by rw[e1];exact .tail _ (.head _))]
  ·rename_i x y e1;rw[ha x (by rw[e1];exact .head _),ha y (by rw[e1];exact .tail _ (.head _))]
  ·rfl
 all_goals simp_all
def ig{s:SV}{x:Value}:kQ d s=.v x<->s=.v x:=by
 cases s with
 |v y=>rfl
 |u=>simp[kQ]
 |p k off=>simp only[kQ];split<;>simp
def Gm{k off:Nat}{s:SV}(h:kQ d s=.p k off):s=.p k off/\k≠d:=by
 cases s with
 |v y=>cases h
 |u=>cases h
 |p k' off'=>
  simp only[kQ]at h;split at h
  ·cases h
  ·cases h;exact⟨rfl,by assumption⟩
def xp{ρ:Operand->SV}{d:Nat}:∀{l:List Operand} {r:List Value},j8 (fun x=>kQ d (ρ x)) l=some r->j8 ρ l=some r
 | [],_,h=>h
 |x::l,r,h=>by
  simp only[j8]at h |-;split at h
  ·rename_i a r' ha hr;rw[ig.1 ha,xp hr];exact h
  ·cases h
def Eb{ρ:Operand->SV}{d:Nat}:∀{l:List (Nat×Operand)} {r:List (Nat×Value)},mH (fun x=>kQ d (ρ x)) l=some r->mH ρ l=some r
 | [],_,h=>h
 |(i,x)::l,r,h=>by
  simp only[mH]at h |-;split at h
  ·rename_i a r' ha hr;rw[ig.1 ha,Eb hr];exact h
  ·cases h
def nH{n:Nat}{o:Option Operand}{i:Int}(h:o9 n (o.map fun x=>kQ d (ρ x))=some i):o9 n (o.map ρ)=some i:=by
 cases o with
 |none=>exact h
 |some z=>
  obtain⟨k,hk⟩:=ky h;simp only[Z9]at h |-;have aa:kQ d (ρ z)=.v (.int k i):=hk;rw[ig.1 aa];rw[aa]at h;exact h
def C3{k:Kd}{e:Md}{x:SV}{lo hi:Option Operand}{φ:Prop}(h:mg k e (kQ d x) (lo.map fun x=>kQ d (ρ x)) (hi.map fun x=>kQ d (ρ x))=some (φ,sv)):
  mg k e x (lo.map ρ) (hi.map ρ)=some (φ,sv)/\sv=kQ d sv:=by
 unfold mg at h;split at h
 ·rename_i size a len cap hx;rw[ig.1 hx];unfold mg;split at h
  ·rename_i l hh ac hl aa hs;cases h
   simp only[nH hl,nH aa];cases hi with
   |none=>cases hs
   |some z=>exact⟨rfl,rfl⟩
  ·rename_i l hh hl aa hs;cases h
   simp only[nH hl,nH aa];cases hi with
   |none=>exact⟨rfl,rfl⟩
   |some z=>cases hs
  ·cases h
 ·rename_i s hx;rw[ig.1 hx];unfold mg;split at h
  ·rename_i l hh hl aa;cases h
   simp only[nH hl,nH aa];exact⟨trivial,rfl⟩
  ·cases h
 ·cases h
def Ar{k:Nat}{T:TypeId}(h:k≠d):eJ (gU ⟨d,T,cs⟩ (dR bx d)) k=eJ bx k:=by
 have h1:∀l:List js,eJ (gU ⟨d,T,cs⟩ l) k=eJ l k:=by
  intro l
  induction l with
  |nil=>simp[gU,eJ,Ne.symm h]
  |cons b l ih=>
   simp only[gU];split
   ·simp only[eJ,ih]
   ·simp[eJ,Ne.symm h]
 rw[h1]
 induction bx with
 |nil=>rfl
 |cons b l ih=>
  simp only[dR];split
  ·rename_i e;rw[ih];have:¬b.key=k:=fun x=>h (x.symm.trans e);simp[eJ,this]
  ·simp only[eJ,ih]
def Co(f:Bool)(kp:List Nat)(l:List js)(k:Nat):eJ (kb f kp l) k=if f=true/\lx kp k=false then none else eJ l k:=by
 unfold kb;cases f
 ·simp
 ·simp only[ZT,acT]
  induction l with
  |nil=>simp[mX,eJ]
  |cons b l ih=>
   simp only[mX];by_cases e:b.key=k
   ·cases hm:lx kp b.key
    ·rw[ZV (by simp),ih,<-e,hm];simp
    ·rw[aaq rfl];subst e;simp[eJ,hm]
   ·cases hm:lx kp b.key
    ·rw[ZV (by simp),ih];simp[eJ,e]
    ·rw[aaq rfl];simp only[eJ,ZV e];exact ih
def vS{f:Bool}{k:Nat}{T:TypeId}(h:k≠d):eJ (kb f kp (gU ⟨d,T,cs⟩ (dR bx d))) k=eJ (kb f kp bx) k:=by
 rw[Co,Co,Ar h]
def TA {P : Program} {bx : List js} {ρ : Operand → SV} {d : Nat} {T : TypeId} {cs : List Value} {op : Op} {φ : Prop} {sv : SV} {f : Bool} {kp : List Nat}
    (h : pv P (kb f kp (gU ⟨d, T, cs⟩ (dR bx d))) (fun x => kQ d (ρ x)) op = some (φ, sv)) : ∃ sv', pv P (kb f kp bx) ρ op = some (φ, sv') ∧ sv = kQ d sv' := by
  have mv : ∀ x : Operand, (match kQ d (ρ x) with | .u => (none : Option (Prop × SV)) | sv => some (True, sv)) = some (φ, sv) → ∃ sv', (match ρ x with | .u => (none : Option (Prop × SV)) | sv => some (True, sv)) = some (φ, sv') ∧ sv = kQ d sv' := by
    intro x hx
    cases hr : ρ x with
    | v y => rw [hr] at hx; cases hx; exact ⟨.v y, rfl, rfl⟩
    | u => rw [hr] at hx; cases hx
    | p k off =>
      rw [hr] at hx
      simp only [kQ] at hx
      split at hx
      · rename_i e; split at e <;> first | cases hx | cases e
      · rename_i aa
        by_cases e : k = d
        · simp [e] at aa
        · simp only [ZV e] at hx
          cases hx; exact ⟨.p k off, rfl, by simp [kQ, e]⟩
  cases op <;> simp only [pv] at h ⊢ <;> try (cases h; done)
  case move x => exact mv x h
  case assign x => exact mv x h
  case pick c x y =>
    split at h
    · rename_i b hb
      cases h
      rw [ig.1 hb]
      exact ⟨_, rfl, by split <;> rfl⟩
    · cases h
  case load T' x =>
    unfold yF at h ⊢
    split at h
    · rename_i k off hx
      obtain ⟨hx, hk⟩ := Gm hx
      rw [hx]
      simp only
      rw [vS hk] at h
      split at h
      · split at h
        · cases h; exact ⟨_, rfl, rfl⟩
        · cases h
      · cases h
    · cases h
  case fieldAddr T' x f =>
    split at h
    · unfold Pw at h
      split at h
      · rename_i k off hx
        cases h
        obtain ⟨hx, hk⟩ := Gm hx
        exact ⟨_, by rw [hx]; rfl, by simp [kQ, hk]⟩
      · rename_i b off hx
        cases h
        exact ⟨_, by rw [ig.1 hx]; rfl, rfl⟩
      · cases h
    · cases h
  case nilCheck x =>
    unfold HD at h
    split at h
    · rename_i k off hx
      cases h
      obtain ⟨hx, hk⟩ := Gm hx
      exact ⟨_, by rw [hx]; rfl, by simp [kQ, hk]⟩
    · rename_i a hx
      cases h
      exact ⟨_, by rw [ig.1 hx]; rfl, rfl⟩
    · cases h
  case indexAddr T' x i =>
    unfold Ko at h
    split at h
    · rename_i len size k off kk n he hx hi
      cases h
      obtain ⟨hx, hk⟩ := Gm hx
      exact ⟨_, by rw [hx, ig.1 hi, he]; rfl, by simp [kQ, hk]⟩
    · rename_i len size b off kk n he hx hi
      cases h
      exact ⟨_, by rw [ig.1 hx, ig.1 hi, he]; rfl, rfl⟩
    · rename_i size b off len cap kk n he hx hi
      cases h
      exact ⟨_, by rw [ig.1 hx, ig.1 hi, he]; rfl, rfl⟩
    · cases h
  case index T' x i =>
    unfold wj at h
    split at h
    · rename_i s kk n he hx hi
      cases h
      exact ⟨_, by rw [ig.1 hx, ig.1 hi, he]; rfl, rfl⟩
    · cases h
  case field T' x f =>
    split at h
    · rename_i n ty cs' hf hx
      obtain ⟨v, hv, rfl⟩ := dU h
      refine ⟨.v v, ?_, rfl⟩
      rw [hf, ig.1 hx]; exact h
    · cases h
  case extract x n =>
    split at h
    · rename_i vs hx
      obtain ⟨v, hv, rfl⟩ := dU h
      refine ⟨.v v, ?_, rfl⟩
      rw [ig.1 hx]; exact h
    · cases h
  case build T' ps =>
    split at h
    · rename_i l hl
      obtain ⟨v, hv, rfl⟩ := dU h
      refine ⟨.v v, ?_, rfl⟩
      rw [Eb hl]; exact h
    · cases h
  case binOp op T' x y T2 =>
    split at h
    · rename_i a b hx hy
      obtain ⟨v, hv, rfl⟩ := dU h
      refine ⟨.v v, ?_, rfl⟩
      rw [ig.1 hx, ig.1 hy]; exact h
    · cases h
  case unOp op T' x =>
    split at h
    · rename_i a hx
      obtain ⟨v, hv, rfl⟩ := dU h
      refine ⟨.v v, ?_, rfl⟩
      rw [ig.1 hx]; exact h
    · cases h
  case convert s dd x =>
    split at h
    · rename_i a hs hx
      obtain ⟨v, hv, rfl⟩ := dU h
      refine ⟨.v v, ?_, rfl⟩
      rw [ig.1 hx, hs]; exact h
    · cases h
  case slice T' x lo hi mx =>
    cases mx with
    | some m => cases h
    | none =>
      obtain ⟨h1, h2⟩ := C3 (ρ := ρ) h
      exact ⟨sv, h1, h2⟩
  case makeFunc fn f c =>
    split at h
    · rename_i l m hl hm
      cases h
      refine ⟨_, by rw [xp hl, xp hm], rfl⟩
    · cases h
  case call c =>
    unfold nV at h ⊢
    split at h
    all_goals first
      | (split at h
         · first
           | (rename_i a b hx hy
              obtain ⟨v, hv, rfl⟩ := dU h
              exact ⟨.v v, by rw [ig.1 hx, ig.1 hy]; exact h, rfl⟩)
           | (rename_i a hx
              obtain ⟨v, hv, rfl⟩ := dU h
              exact ⟨.v v, by rw [ig.1 hx]; exact h, rfl⟩)
         · cases h)
      | cases h
def de.mono'{P:Program}{s:Sem Next}{H:PH}{Ψ Ψ':SV->PH->Prop}(h:de P s H Ψ)(k:∀sv H2,(∀d,kQ d sv=sv)->Ψ sv H2->Ψ' sv H2):de P s H Ψ':=by
 intro w hw;have hr:=h w hw;unfold Cv at hr |-;split at hr
 ·obtain⟨H2,a,b⟩:=hr;exact⟨H2,a,k _ _ (fun _=>rfl) b⟩
 ·obtain⟨H2,a,b⟩:=hr;exact⟨H2,a,k _ _ (fun _=>rfl) b⟩
 ·refine hr.mono fun e w3 he=>?_;cases e with
  |returned v=>obtain⟨H2,a,b⟩:=he;exact⟨H2,a,k _ _ (fun _=>rfl) b⟩
  |outgrown=>exact he
  |panicked c=>exact he
 ·exact hr
def XV(P:Program)(ol:List Oper)(fr:zP)(σ:St)(H:PH)(o:Oper)(sv:SV):Prop:=
 (aH ol σ o=some false/\sv=.v undef)\/(aH ol σ o=some true/\rp o.op=.val/\NI P fr σ H o sv)
def gR{σ σ':St}{op:Op}(h:∀x∈op.operands,ul (ev σ x)=ul (ev σ' x)):bh σ op=bh σ' op:=by
 have h1:∀x∈op.operands.toList,ul (ev σ x)=ul (ev σ' x):=fun x hx=>h x (by simpa using hx);have h2:op.operands.toList.all (fun x=>ul (ev σ x))=op.operands.toList.all (fun x=>ul (ev σ' x)):=by
  rw[Bool.eq_iff_iff];simp only[aap];exact⟨fun a x hx=>by rw[<-h1 x hx];exact a x hx,fun a x hx=>by rw[h1 x hx];exact a x hx⟩
 simp only[bh,h2]
def jW{σ σ':St}(hs:fT o.op=true)(h:∀x∈o.op.operands,bN σ x=bN σ' x):execOp (bN σ) o=execOp (bN σ') o:=
 execOp_congr o (fun cs b e=>by rw[e]at hs;simp[fT]at hs) h
section
variable {P:Program} {ol:List Oper}
variable{o:Oper}{sv:SV}{d:Option Nat}
def gD{σ:St}(h:∀e,d=some e->e∉looks ol o):∀x∈o.op.operands,ev (σ.put d sv) x=ev σ x:=
 fun x hx=>T5 fun e he=>DF (h e he) x hx
variable{cs:List Value}
def jJ{σ:St}{d:Nat}{T:TypeId}(h:d∉looks ol o):∀x∈o.op.operands,ev (σ.newBox d T cs) x=kQ d (ev σ x):=
 fun x hx=>Ix (DF h x hx)
def Nb(σ:St)(d:Option Nat)(sv:SV):(σ.put d sv).bx=σ.bx:=by cases d<;>rfl
def qt{op:Op}(h:rp op=.val):fT op=true:=by cases op<;>first|rfl|cases h
def tQ{fr:zP}{σ:St}{H:PH}{sv':SV}(h:∀e,d=some e->e∉looks ol o):XV P ol fr (σ.put d sv') H o sv<->XV P ol fr σ H o sv:=by
 have hk:bh (σ.put d sv') o.op=bh σ o.op:=gR fun x hx=>by rw[gD h x hx]
 have he:fT o.op=true->execOp (bN (σ.put d sv')) o=execOp (bN σ) o:=fun hn=>jW hn fun x hx=>by simp only[bN,gD h x hx]
 unfold XV NI;rw[fQ h,Nb,Dw (gD h),hk];constructor
 ·rintro(h1|⟨h1,h2,h3⟩)
  ·exact .inl h1
  ·rw[he (qt h2)]at h3;exact .inr ⟨h1,h2,h3⟩
 ·rintro(h1|⟨h1,h2,h3⟩)
  ·exact .inl h1
  ·refine .inr ⟨h1,h2,?_⟩;rw[he (qt h2)];exact h3
def J9{fr:zP}{σ:St}{H H2:PH}(h:XV P ol fr σ H o sv)(aa:fr.h=true->H.le H2)(hj:fr.j=true->fr.J.le H->fr.J.le H2):XV P ol fr σ H2 o sv:=by
 rcases h with h|⟨h1,h2,h3⟩
 ·exact .inl h
 ·refine .inr ⟨h1,h2,h3.imp id ?_⟩;rintro(⟨a,v,b,c,e⟩|⟨a,l,x⟩)
  ·exact .inl ⟨a,v,b,c,fun w hw=>e w (hw.of_le (aa a))⟩
  ·exact .inr ⟨a,hj a l,x⟩
def Iz{fr:zP}{σ:St}{H:PH}{d:Nat}{T:TypeId}(hd:d∉looks ol o)(h:XV P ol fr (σ.newBox d T cs) H o sv):
  ∃sv',XV P ol fr σ H o sv'/\sv=kQ d sv':=by
 rcases h with ⟨h1,rfl⟩|⟨h1,h2,h3⟩
 ·exact⟨.v undef,.inl ⟨(ft hd).1 h1,rfl⟩,rfl⟩
 ·have aa:=(ft hd).1 h1;rcases h3 with ⟨φ,hp,hφ⟩|⟨a,v,rfl,c,e⟩|⟨a,aj,v,rfl,c,e⟩
  ·rw[Dw (ρ':=fun x=>kQ d (ev σ x)) (jJ hd)]at hp;obtain⟨sv',h4,h5⟩:=TA hp;exact⟨sv',.inr ⟨aa,h2,.inl ⟨φ,h4,hφ⟩⟩,h5⟩
  ·have hv:∀x∈o.op.operands,ev σ x=ev (σ.newBox d T cs) x:=by
    intro x hx;have hc:=c;simp only[bh,aao,aap]at hc;have:=hc.2 x (by simpa using hx);rw[jJ hd x hx]at this |-;cases hs:ev σ x with
    |v y=>rfl
    |u=>rw[hs]at this;cases this
    |p k off=>rw[hs]at this;simp only[kQ]at this;split at this<;>cases this
   have hk:bh σ o.op=bh (σ.newBox d T cs) o.op:=gR fun x hx=>by rw[hv x hx]
   have he:execOp (bN σ) o=execOp (bN (σ.newBox d T cs)) o:=jW (qt h2) fun x hx=>by simp only[bN,hv x hx]
   exact⟨.v v,.inr ⟨aa,h2,.inr (.inl ⟨a,v,rfl,hk.trans c,by rw[he];exact e⟩)⟩,rfl⟩
  ·have hv:∀x∈o.op.operands,ev σ x=ev (σ.newBox d T cs) x:=by
    intro x hx;have hc:=c;simp only[bh,aao,aap]at hc;have:=hc.2 x (by simpa using hx);rw[jJ hd x hx]at this |-;cases hs:ev σ x with
    |v y=>rfl
    |u=>rw[hs]at this;cases this
    |p k off=>rw[hs]at this;simp only[kQ]at this;split at this<;>cases this
   have hk:bh σ o.op=bh (σ.newBox d T cs) o.op:=gR fun x hx=>by rw[hv x hx]
   have he:execOp (bN σ) o=execOp (bN (σ.newBox d T cs)) o:=jW (qt h2) fun x hx=>by simp only[bN,hv x hx]
   exact⟨.v v,.inr ⟨aa,h2,.inr (.inr ⟨a,aj,v,rfl,hk.trans c,by rw[he];exact e⟩)⟩,rfl⟩
def tu{σ:St}(h:∀e,d=some e->e∉looks ol o):qM P (ev (σ.put d sv)) o.op=qM P (ev σ) o.op:=by
 have:=gD (σ:=σ) (sv:=sv) h;cases ho:o.op<;>simp only[qM]
 rename_i T x;rw[this x (by simp[ho,Op.operands])]
def u6{σ:St}{d:Nat}{T:TypeId}{r:TypeId×List Value}(h:d∉looks ol o):qM P (ev (σ.newBox d T cs)) o.op=some r<->qM P (ev σ) o.op=some r:=by
 have:=jJ (σ:=σ) (T:=T) (cs:=cs) h;cases ho:o.op<;>simp only[qM]
 rename_i T' x;rw[this x (by simp[ho,Op.operands])];cases hs:ev σ x with
 |v y=>rfl
 |u=>rfl
 |p k off=>by_cases e:k=d<;>simp[kQ,e]
def Fl(ol:List Oper)(fr:zP)(strx str:JG)(x y:Oper):Bool:=
 se ol x y && match rp x.op,rp y.op with
  | .alc,.alc | .alc,.val | .val,.val=>true
  | .alc,.gen=>true
  | .val,.gen=>(!fr.h || str.h) && (!fr.j || str.j)
  | .val,.st=>(str.k && (Kc x.op || fr.k)) || (Kc x.op && !fr.h && !fr.j)
  | .val,.nw | .alc,.nw=>true
  | .gen,.nw=>!strx.j && y.guard.isNone
  |_,_=>false
def me{σ:St}{op:Op}(h:bh σ op=true):fT op=true:=by
 simp only[bh,aao]at h;exact h.1
def nO{fr:zP}{str:JG}{K:St->PH->Prop}{σ:St}{H:PH}(h:it P ol fr str o K σ H):
  (∃sv,XV P ol fr σ H o sv/\K (σ.put o.dst sv) H)\/
  (aH ol σ o=some true/\rp o.op=.alc/\∃d T cs,o.dst=some d/\qM P (ev σ) o.op=some (T,cs)/\K (σ.newBox d T cs) H)\/
  (aH ol σ o=some true/\rp o.op=.gen/\bh σ o.op=true/\de P (execOp (bN σ) o) H fun sv H2=>((str.h=true->H.le H2)/\(str.j=true->fr.J.le H->fr.J.le H2))/\K (σ.put o.dst sv) H2)\/
  (aH ol σ o=some true/\rp o.op=.st/\((∃k off cs,vD P σ.bx (ev σ) o.op=some (k,off,cs)/\(str.k=true->lx fr.kp k=false)/\K ((σ.store k off cs).put o.dst .u) H)\/(str.k=false/\bh σ o.op=true/\de P (execOp (bN σ) o) H fun sv H2=>K (σ.put o.dst sv) H2)))\/
  (aH ol σ o=some true/\rp o.op=.nw/\∀b,H b=none->K (σ.put o.dst (.v (.map (some b)))) (H.put b (.map #[] 0))):=by
 rcases h with ⟨hw,h⟩|⟨hw,h⟩
 ·exact .inl ⟨.v undef,.inl ⟨hw,rfl⟩,h⟩
 ·cases hc:rp o.op<;>rw[hc]at h<;>simp only at h
  ·obtain⟨sv,hv,hk⟩:=h;exact .inl ⟨sv,.inr ⟨hw,hc,hv⟩,hk⟩
  ·exact .inr (.inl ⟨hw,rfl,h⟩)
  ·exact .inr (.inr (.inr (.inl ⟨hw,rfl,h⟩)))
  ·exact .inr (.inr (.inl ⟨hw,rfl,h⟩))
  ·exact .inr (.inr (.inr (.inr ⟨hw,rfl,h⟩)))
def uq{fr:zP}{str:JG}{K:St->PH->Prop}{σ:St}{H:PH}(hw:aH ol σ o=some true)(hc:rp o.op=.nw)
  (h:∀b,H b=none->K (σ.put o.dst (.v (.map (some b)))) (H.put b (.map #[] 0))):it P ol fr str o K σ H:=.inr ⟨hw,by rw[hc];exact h⟩
def ju{fr:zP}{str:JG}{K:St->PH->Prop}{σ:St}{H:PH}(h:XV P ol fr σ H o sv)(hk:K (σ.put o.dst sv) H):it P ol fr str o K σ H:=by
 rcases h with ⟨hw,rfl⟩|⟨hw,hc,hv⟩
 ·exact .inl ⟨hw,hk⟩
 ·exact .inr ⟨hw,by rw[hc];exact⟨sv,hv,hk⟩⟩
def jT{fr:zP}{str:JG}{K:St->PH->Prop}{σ:St}{H:PH}{d:Nat}{T:TypeId}(hw:aH ol σ o=some true)(hc:rp o.op=.alc)(hd:o.dst=some d)
  (ha:qM P (ev σ) o.op=some (T,cs)) (hk:K (σ.newBox d T cs) H):it P ol fr str o K σ H:=.inr ⟨hw,by rw[hc];exact⟨d,T,cs,hd,ha,hk⟩⟩
def FA{bx:List js}{ρ ρ':Operand->SV}{op:Op}(h:∀x∈op.operands,ρ x=ρ' x):vD P bx ρ op=vD P bx ρ' op:=by
 cases op<;>simp only[vD]<;>simp only[Op.operands]at h
 simp_all
variable{off:Nat}
def NB{fr:zP}{σ:St}{H:PH}{k:Nat}(hn:Kc o.op=true\/fr.k=true)(hm:lx fr.kp k=false)(h:XV P ol fr σ H o sv):XV P ol fr (σ.store k off cs) H o sv:=by
 rcases h with h|⟨h1,h2,h3⟩
 ·exact .inl h
 ·refine .inr ⟨h1,h2,?_⟩;rcases h3 with ⟨φ,a,b⟩|h3
  ·refine .inl ⟨φ,?_,b⟩;rcases hn with hn|hn
   ·rw[GN (bx':=kb fr.k fr.kp σ.bx) hn];exact a
   ·rw[hn]at a |-;show pv P (mX fr.kp (rz σ.bx k off cs)) _ _=_;rw[xg hm];exact a
  ·exact .inr h3
def Jq{fr:zP}{σ:St}{H:PH}{k:Nat}(hn:Kc o.op=true)(h:XV P ol fr σ H o sv):XV P ol fr (σ.store k off cs) H o sv:=by
 rcases h with h|⟨h1,h2,h3⟩
 ·exact .inl h
 ·refine .inr ⟨h1,h2,?_⟩;rcases h3 with ⟨φ,a,b⟩|h3
  ·refine .inl ⟨φ,?_,b⟩;rw[GN (bx':=kb fr.k fr.kp σ.bx) hn];exact a
  ·exact .inr h3
def pU{l:List Nat}{d:Nat}(h:(!l.contains d)=true):d∉l:=by simpa using h
theorem swap{frx fry:zP}{strx stry:JG}(hJ:frx.J=fry.J)(hK:frx.kp=fry.kp){x y:Oper}{K:St->PH->Prop}{σ:St}{H:PH}(hs:qN σ.bx)(ok:Fl ol frx strx stry x y=true)
  (h:it P ol frx strx x (it P ol fry stry y K) σ H):it P ol fry stry y (it P ol frx strx x K) σ H:=by
 simp only[Fl,aao]at ok;obtain⟨a3,aa⟩:=ok;simp only[se,aao]at a3;obtain⟨a4,a7⟩:=a3;have dx:∀e,x.dst=some e->e∉looks ol y:=fun e he=>by rw[he]at a4;simp only[aao]at a4;exact pU a4.1
 have dxy:∀e,x.dst=some e->y.dst≠some e:=fun e he h2=>by rw[he]at a4;simp[h2]at a4
 have dy:∀e,y.dst=some e->e∉looks ol x:=fun e he=>by rw[he]at a7;simp only[aao]at a7;exact pU a7.1
 have dyx:∀e,y.dst=some e->x.dst≠some e:=fun e he h2=>dxy e h2 he;rcases nO h with ⟨svx,hx,h⟩|⟨am,ak,d,T,cs,hd,aq,h⟩|⟨am,ak,a1,a5⟩|⟨am,ak,_⟩|⟨am,ak,_⟩
 ·
  rcases nO h with ⟨svy,hy,h⟩|⟨aj,ac,e,T,cs,he,aq,h⟩|⟨aj,ac,an,ao⟩|⟨aj,ac,bs⟩|⟨aj,ac,a6⟩
  ·exact ju ((tQ dx).1 hy) (ju ((tQ dy).2 hx) (by rw[<-mQ _ _ _ _ _ dxy];exact h))
  ·rcases hx with ⟨am,rfl⟩|⟨am,ak,_⟩
   ·rw[fQ dx]at aj;rw[tu dx]at aq;refine jT aj ac he aq (ju (sv:=.v undef) (.inl ⟨(ft (dy e he)).2 am,rfl⟩) ?_);rw[oN _ _ _ _ _ _ (dyx e he)]at h;exact h
   ·rw[ak,ac]at aa;cases aa
  ·rw[fQ dx]at aj;have hk:bh (σ.put x.dst svx) y.op=bh σ y.op:=gR fun z hz=>by rw[gD dx z hz]
   have he:execOp (bN (σ.put x.dst svx)) y=execOp (bN σ) y:=jW (me an) fun z hz=>by simp only[bN,gD dx z hz]
   rw[hk]at an;rw[he]at ao;refine .inr ⟨aj,by
    rw[ac];refine⟨an,ao.mono' fun sv H2 _ hΨ=>⟨hΨ.1,?_⟩⟩;have a0:XV P ol frx σ H2 x svx:=by
     rcases hx with hx|⟨am,ak,hv⟩
     ·exact .inl hx
     ·rw[ak,ac]at aa;simp only[aao,aax,aay]at aa;refine J9 (.inr ⟨am,ak,hv⟩) (fun hf=>hΨ.1.1 ?_) fun hf=>?_
      ·rcases aa.1 with h1|h1
       ·rw[hf]at h1;cases h1
       ·exact h1
      ·rw[hJ];refine hΨ.1.2 ?_;rcases aa.2 with h1|h1
       ·rw[hf]at h1;cases h1
       ·exact h1
    exact ju ((tQ dy).2 a0) (by rw[<-mQ _ _ _ _ _ dxy];exact hΨ.2)⟩
  ·rw[ac]at aa;cases hc:rp x.op<;>rw[hc]at aa<;>first|(exact Bool.noConfusion aa)|skip
   simp only[aao,aax,aay]at aa;rw[fQ dx]at aj;rcases bs with ⟨k,off,cs,ha,hm,hk⟩|⟨b0,an,ao⟩
   ·rw[Nb,FA (gD dx)]at ha;have a0:XV P ol frx (σ.store k off cs) H x svx:=by
     rcases aa with ⟨h1,h2⟩|⟨⟨h1,_⟩,_⟩
     ·exact NB h2 (by rw[hK];exact hm h1) hx
     ·exact Jq h1 hx
    refine .inr ⟨aj,by
     rw[ac];refine .inl ⟨k,off,cs,ha,hm,ju ((tQ dy).2 a0) ?_⟩;rw[<-mQ _ _ _ _ _ dxy];have:(σ.store k off cs).put x.dst svx=(σ.put x.dst svx).store k off cs:=by cases x.dst<;>rfl
     rw[this];exact hk⟩
   ·have hn:frx.h=false/\frx.j=false:=by
     rcases aa with ⟨h1,_⟩|⟨⟨_,h1⟩,h2⟩
     ·rw[b0]at h1;cases h1
     ·exact⟨h1,h2⟩
    have hk:bh (σ.put x.dst svx) y.op=bh σ y.op:=gR fun z hz=>by rw[gD dx z hz]
    have he:execOp (bN (σ.put x.dst svx)) y=execOp (bN σ) y:=jW (me an) fun z hz=>by simp only[bN,gD dx z hz]
    rw[hk]at an;rw[he]at ao;refine .inr ⟨aj,by
     rw[ac];refine .inr ⟨b0,an,ao.mono' fun sv H2 _ hΨ=>?_⟩;have a0:XV P ol frx σ H2 x svx:=J9 hx (fun hf=>by rw[hn.1]at hf;cases hf) fun hf=>by rw[hn.2]at hf;cases hf
     exact ju ((tQ dy).2 a0) (by rw[<-mQ _ _ _ _ _ dxy];exact hΨ)⟩
  ·rw[fQ dx]at aj;refine uq aj ac fun b hb=>?_;have b1:=PH.le_put (o:=.map #[] 0) hb;exact ju ((tQ dy).2 (J9 hx (fun _=>b1) fun _ hj=>abV hj b1)) (by rw[<-mQ _ _ _ _ _ dxy];exact a6 b hb)
 ·
  have aS:=dx d hd;rcases nO h with ⟨svy,hy,h⟩|⟨aj,ac,e,T',cs',he,ba,h⟩|⟨aj,ac,an,ao⟩|⟨aj,ac,bs⟩|⟨aj,ac,a6⟩
  ·obtain⟨sv',b2,rfl⟩:=Iz aS hy;refine ju b2 (jT (by rw[fQ dy];exact am) ak hd (by rw[tu dy];exact aq) ?_);rw[oN _ _ _ _ _ _ (dxy d hd)];exact h
  ·have b3:d≠e:=fun x2=>dxy d hd (by rw[x2];exact he);refine jT ((ft aS).1 aj) ac he ((u6 aS).1 ba) (jT ((ft (dy e he)).2 am) ak hd ((u6 (dy e he)).2 aq) ?_);rw[<-DE _ _ _ _ _ _ _ b3 hs];exact h
  ·have hv:∀z∈y.op.operands,ev (σ.newBox d T cs) z=ev σ z:=by
    intro z hz;have hc:=an;simp only[bh,aao,aap]at hc;have:=hc.2 z (by simpa using hz);rw[jJ aS z hz]at this |-;cases bd:ev σ z with
    |v y=>rfl
    |u=>rw[bd]at this;cases this
    |p k off=>rw[bd]at this;simp only[kQ]at this;split at this<;>cases this
   have hk:bh (σ.newBox d T cs) y.op=bh σ y.op:=gR fun z hz=>by rw[hv z hz]
   have he:execOp (bN (σ.newBox d T cs)) y=execOp (bN σ) y:=jW (me an) fun z hz=>by simp only[bN,hv z hz]
   rw[hk]at an;rw[he]at ao;refine .inr ⟨(ft aS).1 aj,by
    rw[ac];refine⟨an,ao.mono' fun sv H2 a9 hΨ=>⟨hΨ.1,?_⟩⟩;refine jT (by rw[fQ dy];exact am) ak hd (by rw[tu dy];exact aq) ?_;rw[oN _ _ _ _ _ _ (dxy d hd),a9];exact hΨ.2⟩
  ·rw[ak,ac]at aa;cases aa
  ·refine uq ((ft aS).1 aj) ac fun b hb=>?_;refine jT (by rw[fQ dy];exact am) ak hd (by rw[tu dy];exact aq) ?_;rw[oN _ _ _ _ _ _ (dxy d hd)];exact a6 b hb
 ·
  rw[ak]at aa;cases ac:rp y.op<;>rw[ac]at aa<;>first|(exact Bool.noConfusion aa)|skip
  simp only[aao,aay,Option.isNone_iff_eq_none]at aa;have bc:∀σ',aH ol σ' y=some true:=fun σ'=>by simp[aH,aa.2]
  refine uq (bc _) ac fun b hb=>?_;have hk:bh (σ.put y.dst (.v (.map (some b)))) x.op=bh σ x.op:=gR fun z hz=>by rw[gD dy z hz]
  have he:execOp (bN (σ.put y.dst (.v (.map (some b))))) x=execOp (bN σ) x:=jW (me a1) fun z hz=>by simp only[bN,gD dy z hz]
  refine .inr ⟨by rw[fQ dy];exact am,by
   rw[ak];refine⟨by rw[hk];exact a1,?_⟩;rw[he];refine(a5.beside (o:=.map #[] 0) hb).mono fun sv H2' hh=>?_;obtain⟨H2,rfl,h2b,a2,hy⟩:=hh;refine⟨⟨fun hf=>?_,fun hf=>?_⟩,?_⟩
   ·have:=a2.1 hf;intro c o hc;by_cases e:c=b
    ·subst e;simp only[PH.put,ZT]at hc |-;exact hc
    ·simp only[PH.put,ZV e]at hc |-;exact this c o hc
   ·rw[aa.1]at hf;cases hf
   ·rcases hy with ⟨bb,_⟩|⟨_,hy⟩
    ·rw[bc]at bb;cases bb
    ·rw[ac]at hy;have:=hy b h2b;rw[mQ _ _ _ _ _ dyx];exact this⟩
 ·rw[ak]at aa;cases hc:rp y.op<;>rw[hc]at aa<;>cases aa
 ·rw[ak]at aa;cases hc:rp y.op<;>rw[hc]at aa<;>cases aa
end
open Go
def kR(o:Oper):List Nat:=(o.after.toList.filter (Region.binds .any)).map (·.on)
def jr(ol:List Oper):List (List Nat):=
 ol.foldl (fun acc o=>acc++[(kR o++(kR o).flatMap (fun d=>acc.getD d [])).eraseDups]) []
def Ia(ol:List Oper)(cl:List (List Nat)):Bool:=
 (List.range ol.length).all fun y=>match ol[y]? with
  | some o=>(kR o).all (fun z=>decide (z<y)) && (cl.getD y []).all fun x=>(kR o).contains x || (kR o).any fun z=>(cl.getD z []).contains x
  |none=>true
def cN(ol:List Oper)(cl:List (List Nat))(fr:iK)(str:ip):List Nat->Bool
 | []=>true
 | x::l=>decide (x<ol.length) && !l.contains x && l.all (fun y=>(cl.getD y []).contains x || match ol[x]?,ol[y]? with
   |some ox,some oy=>Fl ol (fr.at' x) (str.at' x) (str.at' y) ox oy
   |_,_=>false) && cN ol cl fr str l
def OD(ol:List Oper)(κ:List Nat)(fr:iK)(str:ip):Bool:=
 Ia ol (jr ol) && (List.range ol.length).all (κ.contains ·) && cN ol (jr ol) fr str κ
section
variable {P:Program} {ol:List Oper} {fr:iK} {str:ip} {K:St->PH->Prop}
def kC{f:zP}{s:JG}{o:Oper}{K K':St->PH->Prop}{σ:St}{H:PH}(k:∀σ' H',qN σ'.bx->K σ' H'->K' σ' H')(hs:qN σ.bx)(h:it P ol f s o K σ H):it P ol f s o K' σ H:=by
 rcases h with ⟨hw,h⟩|⟨hw,h⟩
 ·exact .inl ⟨hw,k _ _ (hs.put _ _) h⟩
 ·refine .inr ⟨hw,?_⟩;cases hc:rp o.op<;>rw[hc]at h<;>simp only at h |-
  ·obtain⟨sv,hv,hk⟩:=h;exact⟨sv,hv,k _ _ (hs.put _ _) hk⟩
  ·obtain⟨d,T,cs,hd,ha,hk⟩:=h;exact⟨d,T,cs,hd,ha,k _ _ (hs.newBox _ _ _) hk⟩
  ·rcases h with ⟨x,off,cs,ha,hm,hk⟩|⟨hn,hk,aa⟩
   ·exact .inl ⟨x,off,cs,ha,hm,k _ _ ((hs.store _ _ _).put _ _) hk⟩
   ·exact .inr ⟨hn,hk,aa.mono fun sv H2 hh=>k _ _ (hs.put _ _) hh⟩
  ·exact⟨h.1,h.2.mono fun sv H2 hh=>⟨hh.1,k _ _ (hs.put _ _) hh.2⟩⟩
  ·exact fun b hb=>k _ _ (hs.put _ _) (h b hb)
def wg{K K':St->PH->Prop}(k:∀σ' H',qN σ'.bx->K σ' H'->K' σ' H'):∀(l:List Nat) {σ:St} {H:PH},qN σ.bx->VD P ol fr str K l σ H->VD P ol fr str K' l σ H
 | [],σ,H,hs,h=>k _ _ hs h
 |i::l,σ,H,hs,h=>by
  simp only[VD]at h |-;cases ho:ol[i]? with
  |none=>rw[ho]at h;exact wg k l hs h
  |some o=>rw[ho]at h;exact kC (fun σ' H' aa h'=>wg k l aa h') hs h
def Ay{i:Nat}{oi:Oper}(hi:ol[i]?=some oi):∀(l1 l2:List Nat) {σ:St} {H:PH},qN σ.bx->(∀x∈l1,∃ox,ol[x]?=some ox/\Fl ol (fr.at' x) (str.at' x) (str.at' i) ox oi=true)->
  VD P ol fr str K (l1++i::l2) σ H->VD P ol fr str K (i::(l1++l2)) σ H
 | [],l2,σ,H,hs,_,h=>h
 |x::l1,l2,σ,H,hs,aa,h=>by
  obtain⟨ox,hx,aj⟩:=aa x (.head _);simp only[aaz,VD,hx,hi]at h |-;refine swap (frx:=fr.at' x) (fry:=fr.at' i) rfl rfl hs aj ?_;refine kC (fun σ' H' ac h'=>?_) hs h;have:=Ay hi l1 l2 ac (fun y hy=>aa y (.tail _ hy)) h';simpa only[VD,hi]using this
def qi{cl:List (List Nat)}:∀{l1 l2:List Nat} {i:Nat},cN ol cl fr str (l1++i::l2)=true->
  (∀x∈l1,x∈cl.getD i []\/∃ox oy,ol[x]?=some ox/\ol[i]?=some oy/\Fl ol (fr.at' x) (str.at' x) (str.at' i) ox oy=true)/\cN ol cl fr str (l1++l2)=true/\i∉l1++l2
 | [],l2,i,h=>by
  simp only[aaA,cN,aao]at h;exact⟨fun x hx=>(aaB hx).elim,h.2,by simpa using h.1.1.2⟩
 |x::l1,l2,i,h=>by
  simp only[aaz,cN,aao]at h;obtain⟨⟨⟨h1,h2⟩,h3⟩,h4⟩:=h;obtain⟨a,b,c⟩:=qi h4;have aa:=List.all_eq_true.1 h3;have ac:x∉l1++i::l2:=by simpa using h2
  refine⟨fun y hy=>?_,?_,?_⟩
  ·rcases List.mem_cons.1 hy with rfl|hy
   ·have:=aa i (aav _ (.head _));simp only[aax]at this;rcases this with h|h
    ·exact .inl (by simpa using h)
    ·right
     split at h
     ·rename_i ox oy e1 e2;exact⟨ox,oy,e1,e2,h⟩
     ·cases h
   ·exact a y hy
  ·simp only[aaz,cN,aao];refine⟨⟨⟨h1,?_⟩,?_⟩,b⟩
   ·have:x∉l1++l2:=fun hm=>ac (by
     rcases List.mem_append.1 hm with h|h
     ·exact aau _ h
     ·exact aav _ (.tail _ h))
    simpa using this
   ·refine List.all_eq_true.2 fun y hy=>aa y ?_;rcases List.mem_append.1 hy with h|h
    ·exact aau _ h
    ·exact aav _ (.tail _ h)
  ·intro hm;rcases List.mem_cons.1 hm with rfl|hm
   ·exact ac (aav _ (.head _))
   ·exact c hm
def rJ{cl:List (List Nat)}(ac:Ia ol cl=true){L:Nat->Prop}(closed:∀y o,ol[y]?=some o->L y->∀z∈kR o,L z):
  ∀(n y:Nat),y<n->∀o,ol[y]?=some o->(∀z∈kR o,L z)->∀x∈cl.getD y [],L x
 |0,y,h=>by omega
 |n+1,y,h=>by
  intro o ho hd x hx;have hy:y<ol.length:=by
   rcases aaf y ol.length with h|h
   ·exact h
   ·rw[aan h]at ho;cases ho
  have h1:=List.all_eq_true.1 ac y (List.mem_range.2 hy);simp only[ho,aao]at h1;have h2:=List.all_eq_true.1 h1.2 x hx;simp only[aax]at h2;rcases h2 with h2|h2
  ·exact hd x (by simpa using h2)
  ·obtain⟨z,hz,am⟩:=List.any_eq_true.1 h2;have aj:=List.all_eq_true.1 h1.1 z hz;simp only[aaC]at aj;have ak:z<ol.length:=by omega
   have aa:ol[z]?=some ol[z]:=aak ak;exact rJ ac closed n z ab _ aa (closed z _ aa (hd z hz)) x (by simpa using am)
variable{ops:Array Oper}{w0:World}
def zF{n0:Nat}{H0:PH}(hn:n0=w0.heap.size)(a2:ops.toList=ol){cl:List (List Nat)}(aq:Ia ol cl=true):
  ∀(iW:Nat) (κ:List Nat) (listed:Array Bool) {σ:St} {H:PH} {a:Act} {w:World},κ.length<=iW->listed.size=ops.size->cN ol cl fr str κ=true->
   (∀i,i∈κ<->i<ops.size/\listed.getD i true=false)->
   (∀y o,ol[y]?=some o->listed.getD y false=true->∀z∈kR o,listed.getD z false=true)->
   qN σ.bx->VD P ol fr str K κ σ H->dM H0 w0 H w->G n0 σ H a w->wpAny P .any ops (QK n0 H0 w0 K) iW listed a w:=by
 subst a2;have readyIff:∀(listed:Array Bool) (i:Nat),i∈Region.ready .any ops listed<->i<ops.size/\listed.getD i true=false/\∃o,ops[i]?=some o/\∀z∈kR o,listed.getD z false=true:=by
  intro listed i;simp only[Region.ready,aaD,List.mem_range,aao,aay];constructor
  ·rintro⟨h1,h2,h3⟩;refine⟨h1,h2,?_⟩;cases ho:ops[i]? with
   |none=>rw[ho]at h3;cases h3
   |some o=>
    rw[ho]at h3;simp only[Z9,aam]at h3;refine⟨o,rfl,fun z hz=>?_⟩;simp only[kR,aaE,aaD]at hz;obtain⟨e,⟨he,hb⟩,rfl⟩:=hz;have:=Array.all_eq_true'.1 h3 e (by simpa using he);simpa[hb]using this
  ·rintro⟨h1,h2,o,ho,h3⟩;refine⟨h1,h2,?_⟩;rw[ho];simp only[Z9,aam];refine Array.all_eq_true'.2 fun e he=>?_;cases hb:Region.binds .any e with
   |false=>rfl
   |true=>
    have:=h3 e.on (by simp only[kR,aaE,aaD];exact⟨e,⟨by simpa using he,hb⟩,rfl⟩);simpa using this
 have sizeol:ops.size=ops.toList.length:=(hZ).symm;have getol:∀i:Nat,ops[i]?=ops.toList[i]?:=fun i=>by simp
 have noneLeft:∀(κ:List Nat) (listed:Array Bool),(∀i,i∈κ<->i<ops.size/\listed.getD i true=false)->listed.size=ops.size->Region.ready .any ops listed=[]->κ=[]:=by
  intro κ listed hm an hr;have key:∀n i,i<n->i<ops.size->listed.getD i true=true:=by
   intro n
   induction n with
   |zero=>intro i h;omega
   |succ n ih=>
    intro i hi ao;cases hl:listed.getD i true with
    |true=>rfl
    |false=>
     exfalso;have ak:ops[i]?=some ops[i]:=aab ao;have:i∈Region.ready .any ops listed:=(readyIff listed i).2 ⟨ao,hl,ops[i],ak,fun z hz=>by
      have h1:=List.all_eq_true.1 aq i (List.mem_range.2 ab);rw[<-getol i,ak]at h1;simp only[aao]at h1;have aS:=List.all_eq_true.1 h1.1 z hz;simp only[aaC]at aS;have:=ih z ab ab;rw[ZU]at this |-;rw[aab ab]at this |-;simpa using this⟩
     rw[hr]at this;cases this
  cases κ with
  |nil=>rfl
  |cons i l=>
   exfalso;have:=(hm i).1 (.head _);rw[key (i+1) i ab this.1]at this;exact Bool.noConfusion this.2
 intro iW
 induction iW with
 |zero=>
  intro κ listed σ H a w am an hp hm hc hs h st g;have:κ=[]:=List.length_eq_zero_iff.1 ab;subst this;refine⟨?_,σ,H,h,st,g⟩;cases hr:Region.ready .any ops listed with
  |nil=>rfl
  |cons i l=>
   have hi:=(readyIff listed i).1 (by rw[hr];exact .head _);exact absurd ((hm i).2 ⟨hi.1,hi.2.1⟩) aaB
 |succ iW ih=>
  intro κ listed σ H a w am an hp hm hc hs h st g;refine⟨fun hr=>?_,fun i hi=>?_⟩
  ·have:=noneLeft κ listed hm an hr;subst this;exact⟨σ,H,h,st,g⟩
  ·obtain⟨h1,h2,oi,ak,ac⟩:=(readyIff listed i).1 hi;have a5:i∈κ:=(hm i).2 ⟨h1,h2⟩;obtain⟨l1,l2,rfl⟩:=List.append_of_mem a5;obtain⟨pa,pb,pc⟩:=qi hp;have aa:ops.toList[i]?=some oi:=by rw[<-getol];exact ak
   have hb:=Ay (K:=K) (P:=P) aa l1 l2 hs (fun x hx=>by
    rcases pa x hx with a0|⟨ox,oy,e1,e2,e3⟩
    ·exfalso;have:=rJ aq (L:=fun x=>listed.getD x false=true) hc (i+1) i ab oi aa ac x a0;have aj:=((hm x).1 (aau _ hx)).2;rw[ZU]at this aj;cases hg:listed[x]? with
     |none=>rw[hg]at this;cases this
     |some b=>rw[hg]at this aj;simp only[aam]at this aj;rw[this]at aj;cases aj
    ·rw[aa]at e2;cases e2;exact⟨ox,e1,e3⟩) h
   simp only[VD,aa]at hb;have hv:=(kC (K':=fun σ' H'=>qN σ'.bx/\VD P ops.toList fr str K (l1++l2) σ' H') (fun σ' H' a1 h'=>⟨a1,h'⟩) hs hb).toV;refine mp ak hn (fun σ' H' a' w' hk st' g'=>?_) hv st g;have getset:∀(j:Nat) (d:Bool),(listed.setIfInBounds i true).getD j d=if i=j then (if i<listed.size then true else d)else listed.getD j d:=by
    intro j d;rw[ZU,aaF];by_cases e:i=j
    ·subst e;by_cases hl:i<listed.size<;>simp[hl]
    ·simp[e,ZU]
   refine ih (l1++l2) _ (by simp at am |-;omega) (by simp[an]) pb (fun j=>?_) (fun y o ho hl z hz=>?_) hk.1 hk.2 st' g'
   ·rw[getset];by_cases e:i=j
    ·subst e;simp only[ZT,aaq (show i<listed.size by omega)];exact⟨fun a3=>absurd a3 pc,fun hh=>by cases hh.2⟩
    ·simp only[ZV e];rw[<-hm j];constructor
     ·intro hj;rcases List.mem_append.1 hj with hj|hj
      ·exact aau _ hj
      ·exact aav _ (.tail _ hj)
     ·intro hj;rcases List.mem_append.1 hj with hj|hj
      ·exact aau _ hj
      ·rcases List.mem_cons.1 hj with rfl|hj
       ·exact absurd rfl e
       ·exact aav _ hj
   ·rw[getset]at hl |-;have a4:i<listed.size:=by omega
    by_cases ez:i=z
    ·subst ez;simp[a4]
    ·simp only[ZV ez];by_cases ey:i=y
     ·subst ey;rw[aa]at ho;cases ho;exact ac z hz
     ·simp only[ZV ey]at hl;exact hc y o ho hl z hz
def tq:∀(n:Nat) (l:List Nat),l.Nodup->(∀i∈l,i<n)->l.length<=n
 |0,l,_,h=>by cases l with|nil=>simp|cons x l=>exact absurd (h x (.head _)) ab
 |n+1,l,hn,h=>by
  have h1:=tq n (l.erase n) (hn.erase n) fun i hi=>by
   have:=(hn.mem_erase_iff).1 hi;have:=h i this.2;omega
  by_cases hm:n∈l
  ·rw[List.length_erase_of_mem hm]at h1;omega
  ·rw[List.erase_of_not_mem hm]at h1;omega
def F7{n0:Nat}{H0:PH}(hn:n0=w0.heap.size)(hm:P.follows .mixedOrders=true){id:Nat}{κ:List Nat}(ac:OD ops.toList κ fr str=true){σ:St}{H:PH}{a:Act}{w:World}
  (hs:qN σ.bx) (h:VD P ops.toList fr str K κ σ H) (st:dM H0 w0 H w) (g:G n0 σ H a w):(Code.region id ops true).wp P (QK n0 H0 w0 K) a w:=by
 simp only[OD,aao]at ac;obtain⟨⟨h1,h2⟩,h3⟩:=ac;have mem:∀(l:List Nat),cN ops.toList (jr ops.toList) fr str l=true->∀i∈l,i<ops.size:=by
  intro l
  induction l with
  |nil=>intro _ i hi;cases hi
  |cons x l ih=>
   intro hp i hi;simp only[cN,aao,aaC]at hp;rcases List.mem_cons.1 hi with rfl|hi
   ·simpa using hp.1.1.1
   ·exact ih hp.2 i hi
 have len:∀(l:List Nat),cN ops.toList (jr ops.toList) fr str l=true->l.Nodup:=by
  intro l
  induction l with
  |nil=>intro _;exact List.nodup_nil
  |cons x l ih=>
   intro hp;simp only[cN,aao]at hp;exact List.nodup_cons.2 ⟨by simpa using hp.1.1.2,ih hp.2⟩
 have aa:κ.length<=ops.size:=by
  exact tq _ _ (len κ h3) (mem κ h3)
 refine wp_region_any hm (zF hn rfl h1 ops.size κ _ aa (by simp) h3 (fun i=>?_) (fun y o ho hl=>?_) hs h (w:={ w with drawn:=w.drawn+1 }) ?_ ?_)
 ·constructor
  ·intro hi;have:=mem κ h3 i hi;exact⟨this,by simp[ZU,this]⟩
  ·rintro⟨hi,_⟩;have:=List.all_eq_true.1 h2 i (List.mem_range.2 (by simpa using hi));simpa using this
 ·exfalso;rw[ZU,Array.getElem?_replicate]at hl;split at hl<;>cases hl
 ·exact⟨st.sub,st.size,st.priv,st.dom,st.os,st.tape,st.out⟩
 ·obtain⟨β,g⟩:=g;exact⟨β,g.defers,g.size,g.tm,g.bx,g.inj,g.lo,g.keys⟩
end
open Go
structure Cx where
 P:Program
 f:FuncId
 fn:Func
 hf:P.funcs[f]?=some fn
 H0:PH
 w0:World
 post:Value->PH->Prop
def Rm(C:Cx)(e:Ending)(w:World):Prop:=
 match e with
 | .returned v=>∃H2,dM C.H0 C.w0 H2 w/\C.post v H2
 |_=>False
def qg(f:FuncId):Frame:={ (default:Frame)with fn:=f,kind:=.normal }
def R(C:Cx)(k:List Item)(σ:St)(H:PH):Prop:=
 ∀w a cs,dM C.H0 C.w0 H w->G C.w0.heap.size σ H a w->
  ∃e w' fr,Rm C e w'/\Comes C.P (lone ((qg C.f).at a k) cs w) (lone fr cs w') e/\fr.fn=C.f/\fr.leaving C.P w' e
section
variable {C:Cx} {k:List Item} {σ:St} {H:PH}
variable{k':List Item}
def oo(h:R C k' σ H)(st:∀a cs w,G C.w0.heap.size σ H a w->step C.P (lone ((qg C.f).at a k) cs w)=.next (lone ((qg C.f).at a k') cs w)):R C k σ H:=by
 intro w a cs s g;obtain⟨e,w',fr,h1,h2,h3,h4⟩:=h w a cs s g;exact⟨e,w',fr,h1,.of_steps (.one (st a cs w g)) h2,h3,h4⟩
def T7(h:R C k σ H):R C (.code .skip::k) σ H:=oo h fun _ _ _ _=>step_skip
def OH{l:Nat}(h:R C k σ H):R C (.code (.label l)::k) σ H:=oo h fun _ _ _ _=>step_label
variable{id:Nat}
def H8(h:R C k σ H):R C (.inBlock id::k) σ H:=oo h fun _ _ _ _=>step_inBlock
def UR{x y:Code}(h:R C (.code x::.code y::k) σ H):R C (.code (.seq x y)::k) σ H:=oo h fun _ _ _ _=>step_seq
variable{c:Code}
def Pv(h:R C (.code c::.inBlock id::k) σ H):R C (.code (.block id c)::k) σ H:=oo h fun _ _ _ _=>step_block
def TQ(he:exitTo id k=some k')(h:R C k' σ H):R C (.code (.exit id)::k) σ H:=oo h fun _ _ _ _=>step_exit he
def KR{c:Operand}{x y:Code}{t:Bool}(hc:ev σ c=.v (.bool t))(h:R C (.code (if t then x else y)::k) σ H):R C (.code (.cond c x y)::k) σ H:=
 oo h fun _ _ _ g=>step_cond (by obtain⟨β,g⟩:=g;exact dl g hc)
def JU(h:R C (.code c::.inLoop c::k) σ H):R C (.inLoop c::k) σ H:=oo h fun _ _ _ _=>step_inLoop
def QG(h:R C (.code c::.inLoop c::k) σ H):R C (.code (.loop c)::k) σ H:=oo h fun _ _ _ _=>step_loop
def TS(J:Nat->St->PH->Prop)(n:Nat)(h0:J n σ H)
  (h:∀n σ H,J n σ H->(∀m,m<n->∀σ' H',J m σ' H'->R C (.inLoop c::k) σ' H')->R C (.code c::.inLoop c::k) σ H):R C (.code (.loop c)::k) σ H:=by
 refine QG ?_;have key:∀n σ H,J n σ H->R C (.code c::.inLoop c::k) σ H:=by
  intro n
  induction n using Nat.strongRecOn with
  |_ n ih=>exact fun σ H hJ=>h n σ H hJ fun m hm σ' H' aa=>JU (ih m hm σ' H' aa)
 exact key n σ H h0
def wD(h:∀a w,dM C.H0 C.w0 H w->G C.w0.heap.size σ H a w->c.wp C.P (QK C.w0.heap.size C.H0 C.w0 (R C k)) a w):R C (.code c::k) σ H:=by
 intro w a cs s g;obtain⟨e,a',w',hq,aa⟩:=h a w s g (qg C.f) k cs;cases e with
 |normal=>
  obtain⟨σ',H',hr,s',g'⟩:=hq;obtain⟨e,w2,fr,h1,h2,h3,h4⟩:=hr w' a' cs s' g';exact⟨e,w2,fr,h1,.of_steps aa h2,h3,h4⟩
 |_=>exact hq.elim
def V2(P:Program)(ol:List Oper)(K:St->PH->Prop):List Oper->St->PH->Prop
 | [],σ,H=>K σ H
 |o::l,σ,H=>CV P ol o (V2 P ol K l) σ H
def W8{P:Program}{K:St->PH->Prop}(pre:List Oper):∀(rem:List Oper) {σ:St} {H:PH},V2 P (pre++rem) K rem σ H->V P (pre++rem) K (List.range' pre.length rem.length) σ H:=by
 intro rem
 suffices h:∀(ol pre rem:List Oper) (σ:St) (H:PH),ol=pre++rem->V2 P ol K rem σ H->V P ol K (List.range' pre.length rem.length) σ H from fun{σ H} hv=>h _ _ _ σ H rfl hv
 intro ol pre rem
 induction rem generalizing pre with
 |nil=>intro σ H _ h;exact h
 |cons o rem ih=>
  intro σ H he h;simp only[aaj,List.range'_succ,V];have ho:ol[pre.length]?=some o:=by rw[he];simp
  rw[ho];simp only[V2]at h;have aa:∀σ' H',V2 P ol K rem σ' H'->V P ol K (List.range' (pre.length+1) rem.length) σ' H':=fun σ' H' h'=>by
   have:=ih (pre++[o]) σ' H' (by rw[he];simp) h';simpa using this
  rcases h with ⟨a,b⟩|⟨a,b⟩
  ·exact .inl ⟨a,aa _ _ b⟩
  ·refine .inr ⟨a,?_⟩;rcases b with ⟨sv,b,c⟩|⟨d,T,cs,b,c,e⟩|⟨x,off,cs,b,c⟩|⟨b,c⟩
   ·exact .inl ⟨sv,b,aa _ _ c⟩
   ·exact .inr (.inl ⟨d,T,cs,b,c,aa _ _ e⟩)
   ·exact .inr (.inr (.inl ⟨x,off,cs,b,aa _ _ c⟩))
   ·exact .inr (.inr (.inr ⟨b,c.mono fun sv H2 hh=>aa _ _ hh⟩))
inductive Cf where
 |st (k:List Item)
 |op (ol rem:List Oper) (k:List Item)
def RC(C:Cx)(c:Cf)(σ:St)(H:PH):Prop:=
 match c with
 | .st k=>R C k σ H
 | .op ol rem k=>V2 C.P ol (R C k) rem σ H
variable{ops:Array Oper}
def NG(h:V2 C.P ops.toList (R C k) ops.toList σ H):R C (.code (.region id ops false)::k) σ H:=by
 refine wD fun a w s g=>wp_region ?_;have:=W8 [] ops.toList h;rw[aaA]at this;have h2:List.range ops.size=List.range' 0 ops.toList.length:=by rw[List.range_eq_range'];simp
 rw[h2];exact Bg rfl _ this s g
def Tn(hm:C.P.follows .mixedOrders=true)(κ:List Nat)(fr:iK)(str:ip)(aa:OD ops.toList κ fr str=true)(hs:qN σ.bx)
  (h:VD C.P ops.toList fr str (R C k) κ σ H):R C (.code (.region id ops true)::k) σ H:=
 wD fun _ _ s g=>F7 rfl hm aa hs h s g
def MT(P:Program)(ol:List Oper)(o:Oper)(σ:St):Option (Prop×St):=
 match aH ol σ o with
 |some false=>some (True,σ.put o.dst (.v undef))
 |some true=>match pv P σ.bx (ev σ) o.op with
  |some (φ,sv)=>some (φ,σ.put o.dst sv)
  |none=>match o.dst,qM P (ev σ) o.op with
   |some d,some (T,cs)=>some (True,σ.newBox d T cs)
   |_,_=>match vD P σ.bx (ev σ) o.op with
    |some (x,off,cs)=>some (True,(σ.store x off cs).put o.dst .u)
    |none=>none
 |none=>none
variable{o:Oper}
def E4{P:Program}{ol:List Oper}{σ':St}{φ:Prop}{K:St->PH->Prop}(h:MT P ol o σ=some (φ,σ'))(hφ:φ)(hk:K σ' H):CV P ol o K σ H:=by
 unfold MT at h;split at h
 ·rename_i hw;cases h;exact .inl ⟨hw,hk⟩
 ·rename_i hw;refine .inr ⟨hw,?_⟩;split at h
  ·rename_i φ' sv hp;cases h;exact .inl ⟨sv,.inl ⟨φ,hp,hφ⟩,hk⟩
  ·split at h
   ·rename_i d T cs hd ha;cases h;exact .inr (.inl ⟨d,T,cs,hd,ha,hk⟩)
   ·split at h
    ·rename_i x off cs hs;cases h;exact .inr (.inr (.inl ⟨x,off,cs,hs,hk⟩))
    ·cases h
 ·cases h
def nF(P:Program):Nat->Cf->St->List Prop->List Prop×Cf×St
 |0,c,σ,ps=>(ps,c,σ)
 |n+1,c,σ,ps=>
  match c with
  | .op _ [] k=>nF P n (.st k) σ ps
  | .op ol (o::rem) k=>match MT P ol o σ with
   |some (φ,σ')=>nF P n (.op ol rem k) σ' (φ::ps)
   |none=>(ps,.op ol (o::rem) k,σ)
  | .st (.code (.region _ ops false)::k)=>nF P n (.op ops.toList ops.toList k) σ ps
  | .st (.code (.seq a b)::k)=>nF P n (.st (.code a::.code b::k)) σ ps
  | .st (.code .skip::k)=>nF P n (.st k) σ ps
  | .st (.code (.label _)::k)=>nF P n (.st k) σ ps
  | .st (.inBlock _::k)=>nF P n (.st k) σ ps
  | .st (.code (.block id b)::k)=>nF P n (.st (.code b::.inBlock id::k)) σ ps
  | .st (.code (.exit id)::k)=>match exitTo id k with
   |some k'=>nF P n (.st k') σ ps
   |none=>(ps,.st (.code (.exit id)::k),σ)
  | .st (.code (.cond c t e)::k)=>match ev σ c with
   | .v (.bool true)=>nF P n (.st (.code t::k)) σ ps
   | .v (.bool false)=>nF P n (.st (.code e::k)) σ ps
   |_=>(ps,.st (.code (.cond c t e)::k),σ)
  |c=>(ps,c,σ)
def qS:List Prop->Prop
 | []=>True
 |p::l=>qS l/\p
def fN:∀(n:Nat) (c:Cf) (σ:St) (ps:List Prop),qS (nF C.P n c σ ps).1->RC C (nF C.P n c σ ps).2.1 (nF C.P n c σ ps).2.2 H->qS ps/\RC C c σ H
 |0,c,σ,ps,hp,h=>⟨hp,h⟩
 |n+1,c,σ,ps,hp,h=>by
  unfold nF at hp h;split at hp<;>simp only at h
  ·obtain⟨a,b⟩:=fN n _ _ _ hp h;exact⟨a,b⟩
  ·rename_i ol o rem k;cases ha:MT C.P ol o σ with
   |none=>rw[ha]at hp h;exact⟨hp,h⟩
   |some x=>
    obtain⟨φ,σ'⟩:=x;rw[ha]at hp h;obtain⟨⟨a,b⟩,c⟩:=fN n _ _ _ hp h;exact⟨a,E4 ha b c⟩
  ·obtain⟨a,b⟩:=fN n _ _ _ hp h;exact⟨a,NG b⟩
  ·obtain⟨a,b⟩:=fN n _ _ _ hp h;exact⟨a,UR b⟩
  ·obtain⟨a,b⟩:=fN n _ _ _ hp h;exact⟨a,T7 b⟩
  ·obtain⟨a,b⟩:=fN n _ _ _ hp h;exact⟨a,OH b⟩
  ·obtain⟨a,b⟩:=fN n _ _ _ hp h;exact⟨a,H8 b⟩
  ·obtain⟨a,b⟩:=fN n _ _ _ hp h;exact⟨a,Pv b⟩
  ·rename_i id k;cases he:exitTo id k with
   |none=>rw[he]at hp h;exact⟨hp,h⟩
   |some k'=>
    rw[he]at hp h;obtain⟨a,b⟩:=fN n _ _ _ hp h;exact⟨a,TQ he b⟩
  ·rename_i cc t e k;split at hp
   ·rename_i hc;rw[hc]at h;obtain⟨a,b⟩:=fN n _ _ _ hp h;exact⟨a,KR hc b⟩
   ·rename_i hc;rw[hc]at h;obtain⟨a,b⟩:=fN n _ _ _ hp h;exact⟨a,KR hc b⟩
   ·rename_i h1 h2;have:∀{α:Type} (x y z:α),(match ev σ cc with | .v (.bool true)=>x | .v (.bool false)=>y|_=>z)=z:=by
     intro α x y z;split
     ·rename_i hc;exact absurd hc (by simpa using h1)
     ·rename_i hc;exact absurd hc (by simpa using h2)
     ·rfl
    refine⟨hp,?_⟩;split at h
    ·rename_i hc;exact absurd hc (by simpa using h1)
    ·rename_i hc;exact absurd hc (by simpa using h2)
    ·exact h
  ·exact⟨hp,h⟩
def pX(n:Nat){c:Cf}(h:qS (nF C.P n c σ []).1/\RC C (nF C.P n c σ []).2.1 (nF C.P n c σ []).2.2 H):RC C c σ H:=(fN n c σ [] h.1 h.2).2
def bW(C:Cx)(H:PH)(r:List Prop×Cf×St):Prop:=qS r.1/\RC C r.2.1 r.2.2 H
theorem S7(C:Cx)(H:PH)(ps:List Prop)(c:Cf)(σ:St):bW C H (ps,c,σ)=(qS ps/\RC C c σ H):=rfl
def bL(n:Nat){c:Cf}(h:bW C H (nF C.P n c σ [])):RC C c σ H:=pX n h
def RG{c:Cf}(h:bW C H (nF C.P 500 c σ [])):RC C c σ H:=pX 500 h
variable{rem:List Oper}
def iU{ol:List Oper}(hw:aH ol σ o=some true)(hk:bh σ o.op=true)
  (h:de C.P (execOp (bN σ) o) H fun sv H2=>RC C (.op ol rem k) (σ.put o.dst sv) H2):RC C (.op ol (o::rem) k) σ H:=
 .inr ⟨hw,.inr (.inr (.inr ⟨hk,h⟩))⟩
def vZ{ol:List Oper}(v:Value)(hw:aH ol σ o=some true)(hk:bh σ o.op=true)
  (hv:∀w,Sub H w->(execOp (bN σ) o).run C.P w=.ok (.value v) w) (h:RC C (.op ol rem k) (σ.put o.dst (.v v)) H):RC C (.op ol (o::rem) k) σ H:=
 .inr ⟨hw,.inl ⟨_,.inr ⟨v,rfl,hk,hv⟩,h⟩⟩
end
end Go.Sx
