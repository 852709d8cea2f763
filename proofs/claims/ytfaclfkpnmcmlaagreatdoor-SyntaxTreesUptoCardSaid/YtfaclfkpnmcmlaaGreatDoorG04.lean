import Derived.Test.YtfaclfkpnmcmlaaGreatDoorG00
import Derived.Test.YtfaclfkpnmcmlaaGreatDoorG03
import Derived.Laws.MakeOwn
import Derived.Lib.AppendZerosOnto
import Derived.Lib.Overlaps
import Derived.Laws.CopyRow
import Derived.Laws.AppendOwn
import Derived.Deep.Upon
set_option maxHeartbeats 8000000
set_option linter.all false
namespace Go.Sx
open Go
section
variable {C:Cx} {P:Program} {k:List Item} {σ:St} {H:PH}
variable{v z:Value}{S:Value->Value->Prop}{r:Nat}{mt kt et:TypeId}
def Sv(K:Maps.Keyed P kt)(hm:P.underlying mt=some (.map kt et))(m:aZ P et=some z)(h:dA P H r kt S){x:Value}(D:dQ P kt x)(F:S x v)(w:World)(hw:Sub H w):
  (Instr.lookup mt (.map (some r)) x false).run P w=.ok v w:=by
 have B:(zeroValue et).run P w=.ok z w:=by
  unfold aZ at m;cases hi:P.info? et with
  |none=>rw[hi]at m;cases m
  |some i=>rw[hi]at m;simp only[jz]at m;simp[zeroValue,typeInfo,program,Sem.run,hi,m]
 obtain⟨es,g,a,b,c,d⟩:=h;obtain⟨l,y⟩:=D;have n:(getObj r).run P w=.ok (.map es g) w:=by simp[getObj,Sem.run,hw _ _ a]
 obtain⟨e0,p,f,s⟩:=(d x v).1 F;rcases K.find w y es.toList b with ⟨h1,h2⟩|⟨j,e,h1,h2,h3⟩
 .exact absurd f (h2 e0 p)
 .have:e=e0:=by
   have o:e∈es.toList:=cH h2;by_cases A:e=e0
   .exact A
   .exfalso;rcases List.mem_iff_getElem.1 o with ⟨q,u,rfl⟩
    rcases List.mem_iff_getElem.1 p with ⟨i2,t,rfl⟩
    rcases oe q i2 with h|h|h
    .exact List.pairwise_iff_getElem.1 c q i2 u t h (h3.trans f.symm)
    .subst h;exact A rfl
    .exact List.pairwise_iff_getElem.1 c i2 q t u h (f.trans h3.symm)
  subst this;subst s;have G:=K.check w es.isEmpty y;simp[Instr.lookup,dK hm,Result.andThen,n,G,h1,B]
def Su(K:Maps.Keyed P kt)(hm:P.underlying mt=some (.map kt et))(g:aZ P et=some z)(h:dA P H r kt S){x:Value}(p:dQ P kt x)(q:∀v,¬S x v)(w:World)(hw:Sub H w):
  (Instr.lookup mt (.map (some r)) x false).run P w=.ok z w:=by
 obtain⟨es,f,a,b,c,d⟩:=h;obtain⟨l,n⟩:=p;have m:(getObj r).run P w=.ok (.map es f) w:=by simp[getObj,Sem.run,hw _ _ a]
 have o:(zeroValue et).run P w=.ok z w:=by
  unfold aZ at g;cases hi:P.info? et with
  |none=>rw[hi]at g;cases g
  |some i=>rw[hi]at g;simp only[jz]at g;simp[zeroValue,typeInfo,program,Sem.run,hi,g]
 rcases K.find w n es.toList b with ⟨h1,h2⟩|⟨j,e,h1,h2,h3⟩
 .have s:=K.check w es.isEmpty n;simp[Instr.lookup,dK hm,Result.andThen,m,s,h1,o]
 .exact absurd ((d x e.val).2 ⟨e,cH h2,h3,rfl⟩) (q _)
variable{key:Value}{x y:Operand}{o:Oper}
def HM(K:Maps.Keyed P kt)(hm:P.underlying mt=some (.map kt et))(c:aZ P et=some z)(aa:o.op=.lookup mt x y false)
  (e:ev σ x=.v (.map (some r))) (d:ev σ y=.v key) (h:dA P H r kt S) (f:dQ P kt key)  (a:S key v\/v=z/\∀u,¬S key u) :
  bt σ o.op=true/\∀w,Sub H w->(execOp (aQ σ) o).run P w=.ok (.value v) w:=by
 constructor
 .simp[bt,aa,dU,Op.operands,e,d,eX]
 .intro w hw;have b:(Instr.lookup mt (.map (some r)) key false).run P w=.ok v w:=by
   rcases a with a|⟨rfl,a⟩
   .exact Sv K hm c h f a w hw
   .exact Su K hm c h f a w hw
  simp[execOp,aa,aQ,e,d,b,Result.andThen]
variable{rem:List Oper}
def KI{ol:List Oper}(K:Maps.Keyed C.P kt)(hm:C.P.underlying mt=some (.map kt et))(a:aZ C.P et=some z)(hw:be ol σ o=some true)(aa:o.op=.lookup mt x y false)
  (c:ev σ x=.v (.map (some r))) (b:ev σ y=.v key) (h:dA C.P H r kt S) (e:dQ C.P kt key)  (d:S key v\/v=z/\∀u,¬S key u)
  (f:RC C (.op ol rem k) (σ.put o.dst (.v v)) H):RC C (.op ol (o::rem) k) σ H:=by
 obtain⟨h1,h2⟩:=HM K hm a aa c b h e d;exact tX _ hw h1 h2 f
def KY{ol:List Oper}{fr:bI}{str:bJ}{i:Nat}{l:List (Nat×Oper)}(K:Maps.Keyed C.P kt)(hm:C.P.underlying mt=some (.map kt et))(a:aZ C.P et=some z)(hf:fr.h.contains i=true)(hw:be ol σ o=some true)(aa:o.op=.lookup mt x y false)
  (c:ev σ x=.v (.map (some r))) (b:ev σ y=.v key) (h:dA C.P H r kt S) (e:dQ C.P kt key)  (d:S key v\/v=z/\∀u,¬S key u)
  (f:RD C ol fr str l k (σ.put o.dst (.v v)) H):RD C ol fr str ((i,o)::l) k σ H:=by
 obtain⟨h1,h2⟩:=HM K hm a aa c b h e d;exact oF _ hf hw h1 (by rw[aa];rfl) h2 f
def U6{t e:TypeId}{size bytes n:Nat}(ht:ch P t e size bytes)(c:aZ P e=some z)(aa:o.op=.makeSlice t x y)(l:ev σ x=.v (.int .i64 n))(j:ev σ y=.v (.int .i64 n))(hb:bytes*n<=281474976710656)(h:n*size<=16777216):
  bt σ o.op=true/\dg P (execOp (aQ σ) o) H fun sv H2=>∃b,H b=none/\sv=.v (.slice (some ⟨b,0,none⟩) n n)/\H2=H.put b (.cells (madeCells z.cells (n*size)) e (0,0)):=by
 constructor
 .simp[bt,aa,dU,Op.operands,l,j,eX]
 .intro w hw;obtain⟨i,f,a1,a2,a3,a4,a5,u,r⟩:=ht;have g:f=z:=by unfold aZ at c;rw[a2]at c;simp only[jz]at c;rw[a3]at c;exact df c
  subst g;subst a4;have s:n*1<=n*i.size:=Nat.mul_le_mul_left _ r;have a:=run_makeSlice (P:=P) w t e i f a1 a2 a3 .i64 .i64 (n:Int) (n:Int) O (Int.le_refl _) (by rw[Int.toNat_natCast];exact h) (by rw[a5,<-Int.natCast_mul];generalize bytes*n=q at hb;omega) O;simp only[Int.toNat_natCast]at a;obtain⟨p,m⟩:=bN.new hw (.cells (madeCells f.cells (n*i.size)) e (0,0));have d:(execOp (aQ σ) o).run P w=.ok (.value (.slice (some ⟨w.heap.size,0,none⟩) n n)) { w with heap:=w.heap.push (.cells (madeCells f.cells (n*i.size)) e (0,0)) }:=by simp only[execOp,aa,aQ,l,j,bY,a];rw[World.alloc_eq];rfl
  rw[d];exact⟨_,m,w.heap.size,p,rfl,rfl⟩
def KK{ol:List Oper}{t e:TypeId}{size bytes n:Nat}{I:PH}{l:List PH}(hd:Dj (I::l))(ht:ch C.P t e size bytes)(g:aZ C.P e=some z)(hw:be ol σ o=some true)(aa:o.op=.makeSlice t x y)(i:ev σ x=.v (.int .i64 n))(h:ev σ y=.v (.int .i64 n))(hb:bytes*n<=281474976710656)(f:n*size<=16777216)
  (j:∀b,Dj (I::sg b (.cells (madeCells z.cells (n*size)) e (0,0))::l)->RC C (.op ol rem k) (σ.put o.dst (.v (.slice (some ⟨b,0,none⟩) n n))) (U (I::sg b (.cells (madeCells z.cells (n*size)) e (0,0))::l))):RC C (.op ol (o::rem) k) σ (U (I::l)):=by
 obtain⟨h1,h2⟩:=U6 (H:=U (I::l)) ht g aa i h hb f;refine j1 hw h1 (h2.mono fun sv H2 ⟨b,a,c,d⟩=>?_);subst c;subst d;obtain⟨m,e2⟩:=tf hd (o:=.cells (madeCells z.cells (n*size)) e (0,0)) a;rw[m];exact j b e2
end
open Go
def Bz{H:PH}{b off:Nat}{l:List Value}(h:aX H b off l){w:World}(s:Sub H w):∀j v,l[j]?=some v->w.cell? ((⟨b,off,none⟩:Addr).add j)=some v:=by
 obtain⟨cs,ty,c,h1,h2,h3⟩:=h;intro j v a;have hb:=s _ _ h1;rw[show cs=cs.toList.toArray from by simp]at hb;rw[l5,uB hb];rw[<-h3]at a;rw[AJ]at a;split at a
 .rw[rA]at a;exact a
 .cases a
section
variable {C:Cx} {P:Program} {k:List Item} {σ:St} {H:PH}
variable{ys:List Value}{cur:Array Value}{i:TypeInfo}{e:TypeId}
def Ns{dT sT ty:TypeId}(u:P.underlying dT=some (.slice e))(hi:P.info? e=some i){g o dLen dCap b so sLen sCap:Nat}
  (j:H g=some (.cells cur e (0,0))) (t:aX H b so ys) (x:ys.length=min sLen dLen*i.size) (f:o+ys.length<=cur.size) (h1:ys.all one=true) (w:World) (hw:Sub H w) :
  ∃w2,(Builtin.copy_ #[dT,sT] ty #[.slice (some ⟨g,o,none⟩) dLen dCap,.slice (some ⟨b,so,none⟩) sLen sCap]).run P w=.ok (.int .i64 (min sLen dLen:Nat)) w2/\bN H w (H.put g (.cells (bi cur.toList o ys).toArray e (0,0))) w2:=by
 have hf:=run_firstCells_some (P:=P) (w:=w) i.size (min sLen dLen) ⟨b,so,none⟩ sLen sCap ys x (Bz t hw);have d:=hw _ _ j;rw[show cur=cur.toList.toArray from by simp]at d;obtain⟨w2,s,r,m,y,q,p,n⟩:=wq (P:=P) g e ys 0 o cur.toList w d (by simpa using f) fun v hv=>List.all_eq_true.1 h1 v hv;refine⟨w2,?_,?_⟩
 .simp[Builtin.copy_,dK u,Result.andThen,Builtin.lenOf,sizeOf,typeInfo,program,Sem.run,hi,goInt];rw[show Nat.min sLen dLen=min sLen dLen from rfl,hf];simp[s,Nat.min_def]
 .refine⟨fun c o' h=>?_,O,fun c l a=>m c (fun e=>by subst e;rw[j]at a;cases a),fun c l a=>?_,q,p,n⟩
  .by_cases e:c=g
   .subst e;simp only[PH.put,cY]at h;cases h;simpa using r
   .simp only[PH.put,ad e]at h;rw[m c e];exact hw _ _ h
  .have:c≠g:=fun e=>by subst e;rw[j]at a;cases a
   simp[PH.put,this,a]
variable{o:Oper}
def U1{dT sT:TypeId}(h:P.underlying dT=some (.slice e))(hi:P.info? e=some i){x y:Operand}{g off dLen dCap b so sLen sCap:Nat}(aa:o.op=.call ⟨.builtin .copy,#[x,y],#[dT,sT]⟩)
  (f:ev σ x=.v (.slice (some ⟨g,off,none⟩) dLen dCap)) (d:ev σ y=.v (.slice (some ⟨b,so,none⟩) sLen sCap)) (l:H g=some (.cells cur e (0,0))) (m:aX H b so ys) (j:ys.length=min sLen dLen*i.size) (c:off+ys.length<=cur.size) (h1:ys.all one=true) :
  bt σ o.op=true/\dg P (execOp (aQ σ) o) H fun sv H2=>sv=.v (.int .i64 (min sLen dLen:Nat))/\H2=H.put g (.cells (bi cur.toList off ys).toArray e (0,0)):=by
 constructor
 .simp[bt,aa,dU,Op.operands,Call.operands,f,d,eX]
 .intro w hw;obtain⟨w2,a,st⟩:=Ns (sT:=sT) (ty:=o.type) (dCap:=dCap) (sCap:=sCap) h hi l m j c h1 w hw;have:(execOp (aQ σ) o).run P w=.ok (.value (.int .i64 (min sLen dLen:Nat))) w2:=by simp[execOp,aa,resolve,aQ,f,d,invoke,builtin,Result.andThen,a]
  rw[this];exact⟨_,st,rfl,rfl⟩
def ER{ol:List Oper}{fr:bI}{str:bJ}{j:Nat}{lo:List (Nat×Oper)}{dT sT:TypeId}{x y:Operand}{g off dLen dCap b so sLen sCap:Nat}{I:PH}{l:List PH}(hd:Dj (I::sg g (.cells cur e (0,0))::l))(q:C.P.underlying dT=some (.slice e))(hi:C.P.info? e=some i)(r:str.h.contains j=false)(f:str.j.contains j=false)(hw:be ol σ o=some true)(aa:o.op=.call ⟨.builtin .copy,#[x,y],#[dT,sT]⟩)
  (p:ev σ x=.v (.slice (some ⟨g,off,none⟩) dLen dCap)) (n:ev σ y=.v (.slice (some ⟨b,so,none⟩) sLen sCap)) (u:aX (U (I::sg g (.cells cur e (0,0))::l)) b so ys) (s:ys.length=min sLen dLen*i.size) (d:off+ys.length<=cur.size) (h1:ys.all one=true)
  (t:Dj (I::sg g (.cells (bi cur.toList off ys).toArray e (0,0))::l)->RD C ol fr str lo k (σ.put o.dst (.v (.int .i64 (min sLen dLen:Nat)))) (U (I::sg g (.cells (bi cur.toList off ys).toArray e (0,0))::l))):RD C ol fr str ((j,o)::lo) k σ (U (I::sg g (.cells cur e (0,0))::l)):=by
 obtain⟨a,c⟩:=U1 (σ:=σ) q hi aa p n (nJ hd _ _ (dV _ _)) u s d h1;refine oE hw a (by rw[aa];rfl) (c.mono fun sv H2 ⟨m,e2⟩=>⟨gL.non r f,?_⟩);subst m;subst e2;obtain⟨m,e2⟩:=tg (o':=.cells (bi cur.toList off ys).toArray e (0,0)) hd;rw[m];exact t e2
def Gh{t tn:TypeId}{x y:Operand}{vx vy v:Value}{w w':World}(aa:o.op=.call ⟨.builtin .append,#[x,y],#[t,tn]⟩)(b:ev σ x=.v vx)(a:ev σ y=.v vy)(hr:(Builtin.append_ #[t,tn] o.type #[vx,vy]).run P w=.ok v w'):
  (execOp (aQ σ) o).run P w=.ok (.value v) w':=by
 simp[execOp,aa,resolve,aQ,b,a,invoke,builtin,Result.andThen,hr]
theorem bN.newD{H:PH}{w:World}(s:Sub H w)(o:Obj):H w.heap.size=none/\bN H w (H.put w.heap.size o) (w.drew.alloc o):=by obtain⟨a,b⟩:=bN.new s o;exact⟨a,b.sub,b.size,b.priv,b.dom,rfl,rfl,rfl⟩
variable{xs:List Value}
theorem cZ.sg{A:PH}{size:Nat}{v:Value}{n:Nat}(h:cZ A e size v n xs)(m:0<n):∃g cap cur,v=.slice (some ⟨g,0,none⟩) n cap/\A=Sx.sg g (.cells cur e (0,0))/\n<=cap/\cap<=maxLen/\cur.size=cap*size/\cur.toList.take (n*size)=xs:=by
 obtain⟨⟨o,⟨_,e0⟩|⟨g,cap,cur,a,b,c,d,f,j⟩⟩,l⟩:=h
 .omega
 .refine⟨g,cap,cur,a,?_,c,d,f,j⟩;funext b';by_cases i:b'=g
  .subst i;rw[b,dV]
  .rw[l b' (by subst a;simp[vO];exact fun e=>i e.symm)];simp[Sx.sg,i]
def cZ.of_sg{g cap n size:Nat}(b:xs.length=n*size)(h1:n<=cap)(h2:cap<=maxLen)(h3:cur.size=cap*size)(d:cur.toList.take (n*size)=xs):cZ (Sx.sg g (.cells cur e (0,0))) e size (.slice (some ⟨g,0,none⟩) n cap) n xs:=
 ⟨⟨b,.inr ⟨g,cap,cur,rfl,dV _ _,h1,h2,h3,d⟩⟩,fun c a=>by simp only[vO,ne_eq,bv]at a;simp[Sx.sg,Ne.symm a]⟩
def DR(l cs:List Value)(off m:Nat)(h:off+cs.length<=m):(bi l off cs).take m=bi (l.take m) off cs:=by
 induction cs generalizing l off with
 |nil=>rfl
 |cons c cs a=>simp only[bf]at h;simp only[bi];rw[a _ _ O,List.take_set]
end
open Go
def iZ:List (Nat×SV)->Nat->SV
 | [],_=>.u
 |(k,v)::l,t=>if k=t then v else iZ l t
def dn(n:Nat)(L:List (Nat×SV)):List SV:=(List.range n).map (iZ L)
variable{L:List (Nat×SV)}
theorem OI{n:Nat}{t:Nat}(h:t<n):eW (dn n L) t=iZ L t:=by rw[lB];unfold dn;simp[h]
theorem Jl(n:Nat)(L:List (Nat×SV))(d:Nat)(y:SV):fB (dn n L) d y=dn n ((d,y)::L):=by
 apply List.ext_getElem?;intro i;rw[n3];unfold dn;simp only[dW,AK,fX];by_cases e:d=i
 .subst e;by_cases h:d<n
  .simp[h,iZ]
  .simp[h]
 .simp only[ad e];by_cases h:i<n
  .simp[h,iZ,e]
  .simp[h]
def C6 (f : SV → SV) (hf : f .u = .u) (n : Nat) (L : List (Nat × SV)) : (dn n L).map f = dn n (L.map fun p => (p.1, f p.2)) := by
  unfold dn
  rw [List.map_map]
  apply n8
  intro t _
  simp only [Function.comp]
  induction L with
  | nil => exact hf
  | cons p l ih => obtain ⟨k, v⟩ := p; simp only [iZ, jW]; split
                   · rfl
                   · exact ih
theorem Nj(d n:Nat)(L:List (Nat×SV)):(dn n L).map (cE d)=dn n (L.map fun p=>(p.1,cE d p.2)):=C6 _ rfl _ _
theorem TT(k b n:Nat)(L:List (Nat×SV)):(dn n L).map (iH k b)=dn n (L.map fun p=>(p.1,iH k b p.2)):=C6 _ rfl _ _
def l4:List (Nat×SV)->List (Nat×SV)->Prop
 | [],_=>True
 |(k,v)::r,L=>iZ L k=v/\l4 r L
def JD {l m : List SV} (hl : l.length = m.length) (h : ∀ (i : Nat) (x : SV), l[i]? = some x → x = .u ∨ m[i]? = some x) : fj l m := by
  induction l generalizing m with
  | nil => cases m with
    | nil => trivial
    | cons y m => simp at hl
  | cons x l ih => cases m with
    | nil => simp at hl
    | cons y m =>
      have ht := ih (m := m) (by simpa using hl) fun i z hz => by simpa using h (i + 1) z (by simpa using hz)
      have h0 := h 0 x rfl
      cases x with
      | u => exact ht
      | v z => exact ⟨by rcases h0 with h0 | h0
                         · cases h0
                         · simpa using h0.symm, ht⟩
      | p a b => exact ⟨by rcases h0 with h0 | h0
                           · cases h0
                           · simpa using h0.symm, ht⟩
def l4.get{L':List (Nat×SV)}(h:l4 L' L)(t:Nat):iZ L' t=.u\/iZ L' t=iZ L t:=by
 induction L' with
 |nil=>exact .inl rfl
 |cons p r a=>
  obtain⟨k,v⟩:=p;simp only[iZ];split
  .rename_i e;subst e;exact .inr h.1.symm
  .exact a h.2
def n4{n:Nat}{L':List (Nat×SV)}(h:l4 L' L):fj (dn n L') (dn n L):=by
 refine JD (by simp[dn]) fun i x a=>?_;unfold dn at a |-;simp only[fX]at a |-;cases hr:(List.range n)[i]? with
 |none=>rw[hr]at a;cases a
 |some j=>
  rw[hr]at a;simp only[fO,bv]at a |-;rcases h.get j with e|e
  .exact .inl (by rw[<-a];exact e)
  .exact .inr (by rw[<-e];exact a)
def nt:Nat->List Value->List (Nat×SV)
 |_,[]=>[]
 |i,v::l=>(i,.v v)::nt (i+1) l
def GC:∀(a:List Value) (i t:Nat),iZ (nt i a) t=if i<=t then (match a[t-i]? with|some v=>.v v|none=>.u)else .u
 | [],i,t=>by simp[nt,iZ]
 |v::l,i,t=>by
  simp only[nt,iZ,GC l (i+1) t];by_cases e:i=t
  .subst e;simp
  .rw[ad e];by_cases h:i<=t
   .rw[ak h,ak O];have:t-i=(t-(i+1))+1:=O;rw[this,pX]
   .rw[ad h,ad O]
def Vm(args:List Value)(n:Nat)(h:args.length<=n):fj (dn n (nt 0 args)) (mp args n):=by
 refine JD (by simp[dn,mp];omega) fun i x a=>?_;unfold dn at a;simp only[fX]at a;by_cases hi:i<n
 .rw[List.getElem?_range hi]at a;simp only[fO,bv,GC,bg,cY,Nat.sub_zero]at a;cases hv:args[i]? with
  |none=>rw[hv]at a;exact .inl a.symm
  |some v=>
   rw[hv]at a
   right
   unfold mp;have b:i<args.length:=by
    rcases aB i args.length with h|h
    .exact h
    .rw[fW h]at hv;cases hv
   rw[mU (by simpa using b),fX,hv];simpa using a
 .rw[fW (by simpa using hi)]at a;cases a
variable{Φ:Value->PH->Prop}{args:Array Value}{fn:Func}{f:FuncId}
def EA{P:Program}{c:Code}{H:PH}(hf:P.funcs[f]?=some fn)(hb:fn.body=some c)(a:args.toList.length<=fn.ntmps)
  (h:∀w0,RC ⟨P,f,fn,hf,H,w0,Φ,none⟩ (.st [.code c]) ⟨dn fn.ntmps (nt 0 args.toList),[]⟩ H):aJ P f args H Φ:=
 fq hf hb a fun w0=>xp (Vm _ _ a) (by simp[gH]) (h w0)
def W9{P:Program}{c:Code}{H:PH}(hf:P.funcs[f]?=some fn)(a:(fn.body,decide (args.toList.length<=fn.ntmps))=(some c,true))
  (h:∀w0,RC ⟨P,f,fn,hf,H,w0,Φ,none⟩ (.st [.code c]) ⟨dn fn.ntmps (nt 0 args.toList),[]⟩ H):aJ P f args H Φ:=by
 simp only[eL,cu]at a;exact EA hf a.1 a.2 h
attribute [go_sem] iZ l4 OI Jl Nj TT nt
section
variable {C:Cx} {P:Program} {k:List Item} {σ:St} {H:PH}
def iu{r:List Value}{I I2:PH}{qs:List PH}{Ψ:Value->PH->List PH->Prop}(a:C.post=fun v H2=>∃I2 qs,H2=U (I2::qs)/\Dj (I2::qs)/\I.le I2/\Ψ v I2 qs)(hd:Dj (I2::qs))(h:lG C.P σ C.fn.results.toList=some r)(b:I.le I2)(hp:Ψ (bT r) I2 qs)(c:C.rd=none:=by rfl):RC C (.st []) σ (U (I2::qs)):=
 Lg h (by rw[a];exact⟨I2,qs,rfl,hd,b,hp⟩) c
variable{a:Option Addr}{x y:Operand}{size:Nat}{e:TypeId}{o:Oper}
def JB{T:TypeId}{z:Operand}{len cap h m:Nat}{k1 k2:IntKind}(aa:o.op=.slice T x none (some y) (some z))(n:P.underlying T=some (.slice e))(hi:∃i,P.info? e=some i/\i.size=size)
  (l:ev σ x=.v (.slice a len cap)) (j:ev σ y=.v (.int k1 h)) (g:ev σ z=.v (.int k2 m)) (h1:h<=m) (h2:m<=cap) :
  bt σ o.op=true/\dg P (execOp (aQ σ) o) H fun sv H2=>sv=.v (.slice (eZ a size 0 m) h m)/\H2=H:=by
 constructor
 .simp[bt,aa,dU,Op.operands,l,j,g,eX]
 .intro w hw;obtain⟨i,hi,rfl⟩:=hi;have c:(sizeOf e).run P w=.ok i.size w:=by simp[sizeOf,typeInfo,program,Sem.run,hi]
  have f:=me (P:=P) (w:=w) (i:=(m:Int)) (k:=k2) (code:=.slice3Acap) (y:=cap) O O;have d:=me (P:=P) (w:=w) (i:=(h:Int)) (k:=k1) (code:=.slice3B) (y:=m) O O;simp only[Int.toNat_natCast]at f d;have b:(execOp (aQ σ) o).run P w=.ok (.value (.slice (eZ a i.size 0 m) h m)) w:=by simp[execOp,aa,aQ,l,j,g,Instr.sliceAt,dK n,run_underlying n,Instr.slice,Instr.sliceBounds,Result.andThen,c,eZ,f,d]
  rw[b];exact⟨H,bN.refl hw,rfl,rfl⟩
variable{n c:Nat}
def U4{T T2:TypeId}(aa:o.op=.binOp .eql T x y T2)(g:P.underlying T=some (.slice e))
  (f:ev σ x=.v (.slice a n c)) (d:ev σ y=.v (.slice none 0 0)) :
  bt σ o.op=true/\dg P (execOp (aQ σ) o) H fun sv H2=>sv=.v (.bool a.isNone)/\H2=H:=by
 constructor
 .simp[bt,aa,dU,Op.operands,f,d,eX]
 .intro w hw;have b:(execOp (aQ σ) o).run P w=.ok (.value (.bool a.isNone)) w:=by
   have:∀k,Op.maxDepth=k+1->(Op.equal T (.slice a n c) (.slice none 0 0)).run P w=.ok a.isNone w:=by intro k h;unfold Op.equal;rw[h];cases a<;>simp[Op.equalIn,run_underlying g,bY,Result.andThen]
   have i:=this 9999 rfl;simp[execOp,aa,aQ,f,d,eqGuard,binOp,bY,i,Result.andThen]
  rw[b];exact⟨H,bN.refl hw,rfl,rfl⟩
variable{rem:List Oper}
def rM{ol:List Oper}{T T2:TypeId}(hw:be ol σ o=some true)(aa:o.op=.binOp .eql T x y T2)(f:C.P.underlying T=some (.slice e))
  (d:ev σ x=.v (.slice a n c)) (b:ev σ y=.v (.slice none 0 0)) (g:RC C (.op ol rem k) (σ.put o.dst (.v (.bool a.isNone))) H):RC C (.op ol (o::rem) k) σ H:=by
 obtain⟨p,q⟩:=U4 (H:=H) aa f d b;exact j1 hw p (q.mono fun sv H2 ⟨h,e2⟩=>by subst h;subst e2;exact g)
def wy{t:TypeId}{bytes:Nat}(ht:ch P t e size bytes){ya:Option Addr}{n2:Nat}(aa:o.op=.call ⟨.builtin .append,#[x,y],#[t,t]⟩)
  (l:ev σ x=.v (.slice a n n2)) (f:n<=n2) (g:ev σ y=.v (.slice ya 0 c)) :
  bt σ o.op=true/\dg P (execOp (aQ σ) o) H fun sv H2=>sv=.v (.slice a n n2)/\H2=H:=by
 constructor
 .simp[bt,aa,dU,Op.operands,Call.operands,l,g,eX]
 .intro w hw;obtain⟨i,z,a1,a2,a3,a4,a5,q,p⟩:=ht;have m:Src P i.size t (.slice ya 0 c) 0 [] w:=by
   cases ya with
   |none=>exact Src.ofNil w a1 c
   |some b=>exact Src.ofSlice w a1 b 0 c [] ai (fun j u h=>by simp at h) (fun u h=>by cases h)
  have d:=run_append_nothing (P:=P) w t t o.type e i a1 a2 a n n2 f _ m;rw[Gh aa l g d];exact⟨H,bN.refl hw,rfl,rfl⟩
def KB{ol:List Oper}{t:TypeId}{bytes:Nat}(ht:ch C.P t e size bytes){ya:Option Addr}{n2:Nat}(hw:be ol σ o=some true)(aa:o.op=.call ⟨.builtin .append,#[x,y],#[t,t]⟩)
  (g:ev σ x=.v (.slice a n n2)) (d:n<=n2) (f:ev σ y=.v (.slice ya 0 c)) (h:RC C (.op ol rem k) (σ.put o.dst (.v (.slice a n n2))) H):RC C (.op ol (o::rem) k) σ H:=by
 obtain⟨a,b⟩:=wy (H:=H) ht aa g d f;exact j1 hw a (b.mono fun sv H2 ⟨i,e2⟩=>by subst i;subst e2;exact h)
end
theorem Mu(l:List UInt8):(⟨⟨l⟩⟩:ByteArray).toList=l:=ByteArray.toList_eq _
attribute [go_sem] Mu
open Go
section
variable {P:Program} {ol:List Oper} {fr:bI} {str:bJ} {K:St->PH->Prop}
def Bb:∀(l m:List Nat) {σ:St} {H:PH},VD P ol fr str K (l++m) σ H<->VD P ol fr str (VD P ol fr str K m) l σ H
 | [],m,σ,H=>Iff.rfl
 |i::l,m,σ,H=>by
  have e:VD P ol fr str K (l++m)=VD P ol fr str (VD P ol fr str K m) l:=by funext σ' H';exact propext (Bb l m)
  simp only[gR,VD];cases ol[i]? with
  |none=>simp only[e]
  |some o=>simp only[e]
structure Inv(ops:Array Oper)(κ:List Nat)(listed:Array Bool):Prop where
 size:listed.size=ops.size
 mem:∀i,i∈κ<->i<ops.size/\listed.getD i true=false
 closed:∀y o,ops.toList[y]?=some o->listed.getD y false=true->∀z∈eu o,listed.getD z false=true
variable{listed:Array Bool}{κ:List Nat}{ops:Array Oper}
def Inv.perm{κ':List Nat}(h:Inv ops κ listed)(hp:∀i,i∈κ'<->i∈κ):Inv ops κ' listed:=⟨h.size,fun i=>(hp i).trans (h.mem i),h.closed⟩
theorem Inv.step{l1 l2:List Nat}{i:Nat}(h:Inv ops (l1++i::l2) listed)(hi:i∉l1++l2){oi:Oper}(f:ops.toList[i]?=some oi)(hd:∀z∈eu oi,listed.getD z false=true):Inv ops (l1++l2) (listed.setIfInBounds i true):=by
 have h1:=((h.mem i).1 (eo _ (.head _))).1;have r:=h.size;have a:∀(j:Nat) (d:Bool),(listed.setIfInBounds i true).getD j d=if i=j then (if i<listed.size then true else d)else listed.getD j d:=by
  intro j d;rw[en,wV];by_cases e:i=j
  .subst e;by_cases c:i<listed.size<;>simp[c]
  .simp[e,en]
 refine⟨by simp[h.size],fun j=>?_,fun y o g c z n=>?_⟩
 .rw[a];by_cases e:i=j
  .subst e;simp only[cY,ak (show i<listed.size by omega)];exact⟨fun l=>absurd l hi,fun s=>by cases s.2⟩
  .simp only[ad e];rw[<-h.mem j];constructor
   .intro b;rcases List.mem_append.1 b with b|b
    .exact dk _ b
    .exact eo _ (.tail _ b)
   .intro b;rcases List.mem_append.1 b with b|b
    .exact dk _ b
    .rcases List.mem_cons.1 b with rfl|b
     .exact absurd rfl e
     .exact eo _ b
 .rw[a]at c |-;have m:i<listed.size:=O;by_cases p:i=z
  .subst p;simp[m]
  .simp only[ad p];by_cases q:i=y
   .subst q;rw[f]at g;cases g;exact hd z n
   .simp only[ad q]at c;exact h.closed y o g c z n
def Dz(listed:Array Bool)(i:Nat):i∈Region.ready .any ops listed<->i<ops.size/\listed.getD i true=false/\∃o,ops[i]?=some o/\∀z∈eu o,listed.getD z false=true:=by
 simp only[Region.ready,jx,List.mem_range,bu,g8];constructor
 .rintro⟨h1,h2,h3⟩;refine⟨h1,h2,?_⟩;cases a:ops[i]? with
  |none=>rw[a]at h3;cases h3
  |some o=>rw[a]at h3;simp only[fO,lp]at h3;refine⟨o,rfl,fun z c=>?_⟩;simp only[eu,mW,jx]at c;obtain⟨e,⟨b,hb⟩,rfl⟩:=c;have:=Array.all_eq_true'.1 h3 e (by simpa using b);simpa[hb]using this
 .rintro⟨h1,h2,o,a,h3⟩;refine⟨h1,h2,?_⟩;rw[a];simp only[fO,lp];refine Array.all_eq_true'.2 fun e b=>?_;cases hb:Region.binds .any e with
  |false=>rfl
  |true=>have:=h3 e.on (by simp only[eu,mW,jx];exact⟨e,⟨by simpa using b,hb⟩,rfl⟩);simpa using this
variable{cl:List (List Nat)}
def In(f:pE ops.toList cl=true)(h:Inv ops κ listed)(hr:Region.ready .any ops listed=[]):κ=[]:=by
 have m:=h.size;have d:ops.size=ops.toList.length:=(kA).symm;have a:∀i:Nat,ops[i]?=ops.toList[i]?:=fun i=>by simp
 have key:∀n i,i<n->i<ops.size->listed.getD i true=true:=by
  intro n
  induction n with
  |zero=>intro i h;omega
  |succ n g=>
   intro i hi c;cases o:listed.getD i true with
   |true=>rfl
   |false=>
    exfalso;have b:ops[i]?=some ops[i]:=ll c;have:i∈Region.ready .any ops listed:=(Dz listed i).2 ⟨c,o,ops[i],b,fun z j=>by have h1:=List.all_eq_true.1 f i (List.mem_range.2 O);rw[<-a i,b]at h1;simp only[bu]at h1;have e:=List.all_eq_true.1 h1.1 z j;simp only[cu]at e;have:=g z O O;rw[en]at this |-;rw[ll O]at this |-;simpa using this⟩
    rw[hr]at this;cases this
 cases κ with
 |nil=>rfl
 |cons i l=>exfalso;have:=(h.mem i).1 (.head _);rw[key (i+1) i O this.1]at this;exact Bool.noConfusion this.2
def iV(ol:List Oper)(cl:List (List Nat))(fr:bI)(str:bJ)(i:Nat)(l:List Nat):Bool:=
 l.all fun x=>(cl.getD i []).contains x || match ol[x]?,ol[i]? with
  |some ox,some oi=>pR ol (fr.at' x) (str.at' x) (str.at' i) ox oi
  |_,_=>false
variable{w0:World}{r:Option Nat}
def VU{n0:Nat}{H0:PH}(hn:n0=w0.heap.size)(S:pE ops.toList cl=true){p q:Nat}{r1 r2:List Nat}(bd:p≠q)
  (a5:r1.all (fun i=>(cl.getD i []).contains p || (cl.getD i []).contains q)=true) (hr:∀i,i∈r2<->i∈r1) :
  ∀(d:Nat) (κ:List Nat) (listed:Array Bool) {σ:St} {H:PH} {a:Act} {w:World},(κ++p::q::r1).length<=d->(κ++q::p::r2).length<=d->
   cL ops.toList cl fr str (κ++q::r1)=true->cL ops.toList cl fr str (κ++p::r2)=true->iV ops.toList cl fr str p κ=true->iV ops.toList cl fr str q κ=true->cL ops.toList cl fr str κ=true->p∉κ++q::r1->q∉κ++p::r2->
   Inv ops (κ++p::q::r1) listed->dy σ.bx->VD P ops.toList fr str (fun σ H=>VD P ops.toList fr str K (p::q::r1) σ H/\VD P ops.toList fr str K (q::p::r2) σ H) κ σ H->bN H0 w0 H w->G n0 σ H a w->wpAnyIn (FR r) 0 P .any ops (QK n0 H0 w0 K) d listed a w:=by
 have T:∀i:Nat,ops[i]?=ops.toList[i]?:=fun i=>by simp
 have m:∀{listed:Array Bool} {x:Nat},listed.getD x false=true->listed.getD x true=false->False:=by
  intro listed x h1 h2;rw[en]at h1 h2;cases hg:listed[x]? with
  |none=>rw[hg]at h1;cases h1
  |some b=>rw[hg]at h1 h2;simp only[lp]at h1 h2;rw[h1]at h2;cases h2
 intro d
 induction d with
 |zero=>intro κ listed σ H a w f;simp at f
 |succ d ih=>
  intro κ listed σ H a w f n am X a1 a0 a6 Q ap D U h st g;refine⟨fun hr=>?_,fun i hi=>?_⟩
  .have:=In S D hr;simp at this
  .obtain⟨h1,h2,oi,N,j⟩:=(Dz listed i).1 hi;have c:ops.toList[i]?=some oi:=by rw[<-T];exact N
   have ba:i∈κ++p::q::r1:=(D.mem i).2 ⟨h1,h2⟩;have F:=xz S (L:=fun x=>listed.getD x false=true) D.closed (i+1) i O oi c j;have bub:∀(l:List Nat),(∀x∈l,x∈κ)->iV ops.toList cl fr str i l=true->∀x∈l,∃ox,ops.toList[x]?=some ox/\pR ops.toList (fr.at' x) (str.at' x) (str.at' i) ox oi=true:=by
    intro l hl hb x A;have:=List.all_eq_true.1 hb x A;simp only[im]at this;rcases this with B|B
    .exact(m (F x (by simpa using B)) ((D.mem x).1 (dk _ (hl x A))).2).elim
    .split at B
     .rename_i ox oy e1 e2;rw[c]at e2;cases e2;exact⟨ox,e1,B⟩
     .cases B
   have fin:∀(u v:Nat) (s:List Nat),i=u->(∀x,x∈κ++u::v::s<->x∈κ++p::q::r1)->(κ++u::v::s).length<=d+1->cL ops.toList cl fr str (κ++v::s)=true->iV ops.toList cl fr str u κ=true->u∉κ++v::s->VD P ops.toList fr str (VD P ops.toList fr str K (u::v::s)) κ σ H->
     wpOpIn (FR r) 0 P ops (QK n0 H0 w0 K) i (wpAnyIn (FR r) 0 P .any ops (QK n0 H0 w0 K) d (listed.setIfInBounds i true)) a w:=by
    intro u v s e ac f hp hb aa hv;subst e;have bb:=D.perm ac;have a4:=(Bb (K:=K) κ (i::v::s)).2 hv;have a2:=sm (K:=K) (P:=P) c κ (v::s) U (bub κ (fun _ h=>h) hb) a4;simp only[VD,c]at a2;have J:=(qj (K':=fun σ' H'=>dy σ'.bx/\VD P ops.toList fr str K (κ++v::s) σ' H') (fun σ' H' M h'=>⟨M,h'⟩) U a2).toV;have o:=bb.step aa c j;refine qm N hn (fun σ' H' a' w' t I g'=>?_) J st g;exact Bs hn rfl S d (κ++v::s) _ (by simp at f |-;omega) o.size hp o.mem o.closed t.1 t.2 I g'
   have R:∀x,x∈κ++q::p::r2<->x∈κ++p::q::r1:=fun x=>by
    simp only[gS,fC,hr];constructor
    .rintro(h|h|h|h)
     .exact .inl h
     .exact .inr (.inr (.inl h))
     .exact .inr (.inl h)
     .exact .inr (.inr (.inr h))
    .rintro(h|h|h|h)
     .exact .inl h
     .exact .inr (.inr (.inl h))
     .exact .inr (.inl h)
     .exact .inr (.inr (.inr h))
   rcases List.mem_append.1 ba with t|t
   .obtain⟨z,y,rfl⟩:=List.append_of_mem t;have Z:cL ops.toList cl fr str (z++i::(y++q::r1))=true:=by simpa using am
    have W:cL ops.toList cl fr str (z++i::(y++p::r2))=true:=by simpa using X
    obtain⟨_,pb,V⟩:=pI Z;obtain⟨_,pb2,pc2⟩:=pI W;obtain⟨pk,pbk,pck⟩:=pI a6;have hb:=sm (K:=fun σ H=>VD P ops.toList fr str K (p::q::r1) σ H/\VD P ops.toList fr str K (q::p::r2) σ H) (P:=P) c z y U (fun x A=>by
     rcases pk x A with a3|⟨ox,oy,e1,e2,e3⟩
     .exact(m (F x a3) ((D.mem x).1 (dk _ (dk _ A))).2).elim
     .rw[c]at e2;cases e2;exact⟨ox,e1,e3⟩) h
    simp only[VD,c]at hb;have J:=(qj (K':=fun σ' H'=>dy σ'.bx/\VD P ops.toList fr str (fun σ H=>VD P ops.toList fr str K (p::q::r1) σ H/\VD P ops.toList fr str K (q::p::r2) σ H) (z++y) σ' H') (fun σ' H' M h'=>⟨M,h'⟩) U (by simpa only[VD]using hb)).toV;have a9:i≠p:=fun e=>by subst e;exact Q ai
    have a7:i∉(z++y)++p::q::r1:=by
     intro hm;simp only[eD,gS,fC]at hm V;rcases hm with h|h|h|h|h
     .exact V (.inl h)
     .exact V (.inr (.inl h))
     .exact a9 h
     .exact V (.inr (.inr (.inl h)))
     .exact V (.inr (.inr (.inr h)))
    have bc:Inv ops (z++i::(y++p::q::r1)) listed:=D.perm fun x=>by simp
    have o:=bc.step (by simpa using a7) c j;have al:iV ops.toList cl fr str p (z++y)=true:=List.all_eq_true.2 fun x A=>List.all_eq_true.1 a1 x (by
     rcases List.mem_append.1 A with h|h
     .exact dk _ h
     .exact eo _ (.tail _ h))
    have ag:iV ops.toList cl fr str q (z++y)=true:=List.all_eq_true.2 fun x A=>List.all_eq_true.1 a0 x (by
     rcases List.mem_append.1 A with h|h
     .exact dk _ h
     .exact eo _ (.tail _ h))
    refine qm N hn (fun σ' H' a' w' aq I g'=>?_) J st g;refine ih (z++y) _ (by simp at f |-;omega) (by simp at n |-;omega) (by simpa using pb) (by simpa using pb2) al ag pbk (fun hm=>Q ?_) (fun hm=>ap ?_) (by simpa using o) aq.1 aq.2 I g'
    .simp only[eD,gS,fC]at hm |-;rcases hm with h|h|h|h
     .exact .inl h
     .exact .inr (.inl (.inr h))
     .exact .inr (.inr (.inl h))
     .exact .inr (.inr (.inr h))
    .simp only[eD,gS,fC]at hm |-;rcases hm with h|h|h|h
     .exact .inl h
     .exact .inr (.inl (.inr h))
     .exact .inr (.inr (.inl h))
     .exact .inr (.inr (.inr h))
   .rcases List.mem_cons.1 t with e|t
    .exact fin p q r1 e (fun x=>Iff.rfl) f am a1 Q (rV (fun σ' H' _ h=>h.1) κ U h)
    .rcases List.mem_cons.1 t with e|t
     .exact fin q p r2 e R n X a0 ap (rV (fun σ' H' _ h=>h.2) κ U h)
     .exfalso;have:=List.all_eq_true.1 a5 i t;simp only[im]at this;rcases this with B|B
      .exact m (F p (by simpa using B)) ((D.mem p).1 ai).2
      .exact m (F q (by simpa using B)) ((D.mem q).1 ai).2
def qM(ol:List Oper)(κ:List Nat)(p q:Nat)(a b:List Nat)(fr:bI)(str:bJ):Bool:=
 pE ol (fg ol) && (List.range ol.length).all ((κ++p::q::a).contains ·) && decide (p≠q) && decide (p<ol.length) && decide (q<ol.length) &&
 a.all (fun i=>((fg ol).getD i []).contains p || ((fg ol).getD i []).contains q) && a.all (b.contains ·) && b.all (a.contains ·) &&
 cL ol (fg ol) fr str (κ++q::a) && cL ol (fg ol) fr str (κ++p::b) && iV ol (fg ol) fr str p κ && iV ol (fg ol) fr str q κ && cL ol (fg ol) fr str κ &&
 !(κ++q::a).contains p && !(κ++p::b).contains q
def NQ{n0:Nat}{H0:PH}(S:n0=w0.heap.size)(hm:P.follows .mixedOrders=true){id:Nat}{p q:Nat}{r1 r2:List Nat}(n:qM ops.toList κ p q r1 r2 fr str=true){σ:St}{H:PH}{a:Act}{w:World}
  (R:dy σ.bx) (h:VD P ops.toList fr str (fun σ H=>VD P ops.toList fr str K (p::q::r1) σ H/\VD P ops.toList fr str K (q::p::r2) σ H) κ σ H) (st:bN H0 w0 H w) (g:G n0 σ H a w):(Code.region id ops true).wpIn (FR r) 0 P (QK n0 H0 w0 K) a w:=by
 simp only[qM,bu,cu,g8]at n;obtain⟨⟨⟨⟨⟨⟨⟨⟨⟨⟨⟨⟨⟨⟨h1,h2⟩,A⟩,B⟩,z⟩,v⟩,u⟩,t⟩,b⟩,j⟩,M⟩,L⟩,D⟩,I⟩,F⟩:=n;have f:p∉κ++q::r1:=by simpa using I
 have e:q∉κ++p::r2:=by simpa using F
 have mem:∀(l:List Nat),cL ops.toList (fg ops.toList) fr str l=true->∀i∈l,i<ops.size:=by
  intro l
  induction l with
  |nil=>intro _ i hi;cases hi
  |cons x l s=>
   intro hp i hi;simp only[cL,bu,cu]at hp;rcases List.mem_cons.1 hi with rfl|hi
   .simpa using hp.1.1.1
   .exact s hp.2 i hi
 have len:∀(l:List Nat),cL ops.toList (fg ops.toList) fr str l=true->l.Nodup:=by
  intro l
  induction l with
  |nil=>intro _;exact List.nodup_nil
  |cons x l s=>intro hp;simp only[cL,bu]at hp;exact List.nodup_cons.2 ⟨by simpa using hp.1.1.2,s hp.2⟩
 have d:p<ops.size:=by simpa using B
 have c:q<ops.size:=by simpa using z
 have Q:(κ++p::q::r1).length<=ops.size:=by
  have m:(p::(κ++q::r1)).Nodup:=List.nodup_cons.2 ⟨f,len _ b⟩;have:=sV ops.size _ m fun i hi=>by
   rcases List.mem_cons.1 hi with rfl|hi
   .exact d
   .exact mem _ b i hi
  simp at this |-;omega
 have N:(κ++q::p::r2).length<=ops.size:=by
  have m:(q::(κ++p::r2)).Nodup:=List.nodup_cons.2 ⟨e,len _ j⟩;have:=sV ops.size _ m fun i hi=>by
   rcases List.mem_cons.1 hi with rfl|hi
   .exact c
   .exact mem _ j i hi
  simp at this |-;omega
 refine wpIn_region_any hm (VU S h1 A v (fun i=>⟨fun hi=>by simpa using List.all_eq_true.1 t i hi,fun hi=>by simpa using List.all_eq_true.1 u i hi⟩) ops.size κ _ Q N b j M L D f e ⟨by simp,fun i=>?_,fun y o T J=>?_⟩ R h (w:={ w with drawn:=w.drawn+1 }) ?_ ?_)
 .constructor
  .intro hi;have:i<ops.size:=by
    simp only[gS,fC]at hi;rcases hi with hi|rfl|rfl|hi
    .exact mem _ b i (dk _ hi)
    .exact d
    .exact c
    .exact mem _ b i (eo _ (.tail _ hi))
   exact⟨this,by simp[en,this]⟩
  .rintro⟨hi,_⟩;have:=List.all_eq_true.1 h2 i (List.mem_range.2 (by simpa using hi));simpa using this
 .exfalso;rw[en,Array.getElem?_replicate]at J;split at J<;>cases J
 .exact⟨st.sub,st.size,st.priv,st.dom,st.os,st.tape,st.out⟩
 .obtain⟨β,g⟩:=g;exact⟨β,g.defers,g.size,g.tm,g.bx,g.inj,g.lo,g.keys⟩
end
section
variable {C:Cx} {k:List Item} {σ:St} {H:PH}
def Er{P:Program}{ol:List Oper}{fr:bI}{str:bJ}{K K':St->PH->Prop}(k:∀σ' H',K σ' H'->K' σ' H'):∀(l:List (Nat×Oper)) {σ:St} {H:PH},rU P ol fr str K l σ H->rU P ol fr str K' l σ H
 | [],σ,H,h=>k _ _ h
 |(i,o)::l,σ,H,h=>JC (fun σ' H' a=>Er k l a) h
def lU(C:Cx)(ol:List Oper)(fr:bI)(str:bJ)(b a:List (Nat×Oper))(l:List (Nat×Oper))(k:List Item)(σ:St)(H:PH):Prop:=rU C.P ol fr str (fun σ H=>RD C ol fr str b k σ H/\RD C ol fr str a k σ H) l σ H
def E9{ol:List Oper}{fr:bI}{str:bJ}{r1 r2:List (Nat×Oper)}:∀(l:List (Nat×Oper)) (σ:St) (ps:List Prop),iQ (gA C.P ol fr.k str.k fr.kp l σ ps).1->lU C ol fr str r1 r2 (gA C.P ol fr.k str.k fr.kp l σ ps).2.1 k (gA C.P ol fr.k str.k fr.kp l σ ps).2.2 H->iQ ps/\lU C ol fr str r1 r2 l k σ H
 | [],σ,ps,hp,h=>⟨hp,h⟩
 |(i,o)::l,σ,ps,hp,h=>by
  unfold gA at hp h;cases ha:rY C.P ol (fU fr.k i) (fU str.k i) fr.kp o σ with
  |none=>rw[ha]at hp h;exact⟨hp,h⟩
  |some x=>obtain⟨φ,σ'⟩:=x;rw[ha]at hp h;obtain⟨⟨a,b⟩,c⟩:=E9 l _ _ hp h;exact⟨a,E8 (f:=fr.at' i) (s:=str.at' i) ha b c⟩
def E4(C:Cx)(ol:List Oper)(fr:bI)(str:bJ)(b a:List (Nat×Oper))(k:List Item)(H:PH)(r:List Prop×List (Nat×Oper)×St):Prop:=iQ r.1/\lU C ol fr str b a r.2.1 k r.2.2 H
theorem Lr(C:Cx)(ol:List Oper)(fr:bI)(str:bJ)(b a:List (Nat×Oper))(k:List Item)(H:PH)(ps:List Prop)(l:List (Nat×Oper))(σ:St):E4 C ol fr str b a k H (ps,l,σ)=(iQ ps/\lU C ol fr str b a l k σ H):=rfl
def oC{ol:List Oper}{fr:bI}{str:bJ}{r1 r2 l:List (Nat×Oper)}(h:E4 C ol fr str r1 r2 k H (gA C.P ol fr.k str.k fr.kp l σ [])):lU C ol fr str r1 r2 l k σ H:=(E9 l σ [] h.1 h.2).2
def rN{ol:List Oper}{fr:bI}{str:bJ}{r1 r2:List (Nat×Oper)}(h1:RD C ol fr str r1 k σ H)(h2:RD C ol fr str r2 k σ H):lU C ol fr str r1 r2 [] k σ H:=⟨h1,h2⟩
attribute [go_sem] Lr
def vP{ol:List Oper}{cl:List (List Nat)}{fr:bI}{str:bJ}:∀{l:List Nat},cL ol cl fr str l=true->∀i∈l,i<ol.length
 | [],_,i,hi=>by cases hi
 |x::l,hp,i,hi=>by
  simp only[cL,bu,cu]at hp;rcases List.mem_cons.1 hi with rfl|hi
  .exact hp.1.1.1
  .exact vP hp.2 i hi
def ET{id:Nat}{ops:Array Oper}(hm:C.P.follows .mixedOrders=true)(κ:List Nat)(p q:Nat)(j f:List Nat)(fr str:List Nat)(a:qM ops.toList κ p q j f ⟨fr,[],PH.emp,[],[]⟩ ⟨str,[],[]⟩=true)(o:mG σ.bx=true)
  (h:lU C ops.toList ⟨fr,[],PH.emp,[],[]⟩ ⟨str,[],[]⟩ (pick ops.toList (p::q::j)) (pick ops.toList (q::p::f)) (pick ops.toList κ) k σ H):RC C (.st (.code (.region id ops true)::k)) σ H:=by
 have l:=a;simp only[qM,bu,cu,g8]at l;obtain⟨⟨⟨⟨⟨⟨⟨⟨⟨⟨⟨⟨⟨⟨h1,h2⟩,v⟩,c⟩,b⟩,u⟩,t⟩,r⟩,e⟩,d⟩,A⟩,z⟩,w⟩,y⟩,x⟩:=l;have n:=vP e;have e2:=vP d;refine(show R C (.code (.region id ops true)::k) σ H from t8 fun _ _ s g=>NQ rfl hm a (D5 o) ?_ s g);refine oN κ (fun i hi=>n i (dk _ hi)) (Er (fun σ' H' m=>⟨oN _ (fun i hi=>?_) m.1,oN _ (fun i hi=>?_) m.2⟩) _ h)
 .rcases List.mem_cons.1 hi with rfl|hi
  .exact c
  .exact n i (eo _ hi)
 .rcases List.mem_cons.1 hi with rfl|hi
  .exact b
  .exact e2 i (eo _ hi)
end
open Go
section
variable {C:Cx} {P:Program} {k:List Item} {σ:St} {H:PH}
variable{n:Nat}
def W8{zs:Array Value}(h:zs.toList.all one=true):(Builtin.zeroCells zs n).toList.length=n*zs.size/\(Builtin.zeroCells zs n).toList.all one=true:=by
 constructor
 .simp[Builtin.zeroCells]
 .rw[lm];intro v hv;simp only[Builtin.zeroCells,Array.toList_map,mW,Array.mem_toList_iff,Array.mem_range]at hv;obtain⟨i,hi,rfl⟩:=hv;have b:0<zs.size:=by
   rcases g9 zs.size with a|a
   .rw[a]at hi;simp at hi
   .exact a
  have hm:=Nat.mod_lt i b;rw[getElem!_pos zs _ hm];exact List.all_eq_true.1 h _ (Array.mem_toList_iff.2 (Array.getElem_mem hm))
variable{cur:Array Value}{size:Nat}{z:Value}
def Nb{t ty e:TypeId}(s:P.underlying t=some (.slice e))(a:aZ P e=some z)(l:z.cells.size=size)(h1:z.cells.toList.all one=true){g o c:Nat}
  (j:H g=some (.cells cur e (0,0))) (u:o+n*size<=cur.size) (w:World) (hw:Sub H w) :
  ∃w2 ys,ys.length=n*size/\(Builtin.clear_ #[t] ty #[.slice (some ⟨g,o,none⟩) n c]).run P w=.ok (.tuple #[]) w2/\bN H w (H.put g (.cells (bi cur.toList o ys).toArray e (0,0))) w2:=by
 cases n with
 |zero=>
  refine⟨w,[],by simp,by simp[Builtin.clear_,run_underlying s],?_⟩;have e0:H.put g (.cells (bi cur.toList o []).toArray e (0,0))=H:=by
   funext b;by_cases x:b=g
   .subst x;simp[PH.put,bi,j]
   .simp[PH.put,x]
  rw[e0];exact bN.refl hw
 |succ n=>
 have f:=hw _ _ j;rw[show cur=cur.toList.toArray from by simp]at f;obtain⟨r,G⟩:=W8 (n:=n+1) h1;rw[l]at r;have m:(zeroValue e).run P w=.ok z w:=by
  unfold aZ at a;cases hi:P.info? e with
  |none=>rw[hi]at a;cases a
  |some i=>rw[hi]at a;have a:i.zero=some z:=a;simp[zeroValue,typeInfo,program,Sem.run,hi,a,Result.andThen]
 obtain⟨w2,F,D,q,I,B,A,y⟩:=wq (P:=P) g e (Builtin.zeroCells z.cells (n+1)).toList 0 o cur.toList w f (by simp only[kA]at *;omega) fun v hv=>List.all_eq_true.1 G v hv;refine⟨w2,_,r,?_,?_⟩
 .simp[Builtin.clear_,run_underlying s,m,Result.andThen,F]
 .refine⟨fun c o' h=>?_,O,fun c p d=>q c (fun e=>by subst e;rw[j]at d;cases d),fun c p d=>?_,B,A,y⟩
  .by_cases e:c=g
   .subst e;simp only[PH.put,cY]at h;cases h;simpa using D
   .simp only[PH.put,ad e]at h;rw[q c e];exact hw _ _ h
  .have:c≠g:=fun e=>by subst e;rw[j]at d;cases d
   simp[PH.put,this,d]
variable{x:Operand}
def U0{o:Oper}{t e:TypeId}{g off c:Nat}(i:P.underlying t=some (.slice e))(h:aZ P e=some z)(d:z.cells.size=size)(h1:z.cells.toList.all one=true)(aa:o.op=.call ⟨.builtin .clear,#[x],#[t]⟩)
  (f:ev σ x=.v (.slice (some ⟨g,off,none⟩) n c)) (l:H g=some (.cells cur e (0,0))) (b:off+n*size<=cur.size) :
  bt σ o.op=true/\dg P (execOp (aQ σ) o) H fun sv H2=>∃ys,sv=.v (.tuple #[])/\ys.length=n*size/\H2=H.put g (.cells (bi cur.toList off ys).toArray e (0,0)):=by
 constructor
 .simp[bt,aa,dU,Op.operands,Call.operands,f,eX]
 .intro w hw;obtain⟨w2,ys,j,a,st⟩:=Nb (ty:=o.type) (c:=c) i h d h1 l b w hw;have:(execOp (aQ σ) o).run P w=.ok (.value (.tuple #[])) w2:=by simp[execOp,aa,resolve,aQ,f,invoke,builtin,Result.andThen,a]
  rw[this];exact⟨_,st,ys,rfl,j,rfl⟩
def KE{ol rem:List Oper}{o:Oper}{t e:TypeId}{g off c:Nat}{I:PH}{l:List PH}(hd:Dj (I::sg g (.cells cur e (0,0))::l))(p:C.P.underlying t=some (.slice e))(j:aZ C.P e=some z)(f:z.cells.size=size)(h1:z.cells.toList.all one=true)
  (hw:be ol σ o=some true) (aa:o.op=.call ⟨.builtin .clear,#[x],#[t]⟩) (m:ev σ x=.v (.slice (some ⟨g,off,none⟩) n c)) (d:off+n*size<=cur.size)
  (q:∀ys,ys.length=n*size->Dj (I::sg g (.cells (bi cur.toList off ys).toArray e (0,0))::l)->RC C (.op ol rem k) (σ.put o.dst (.v (.tuple #[]))) (U (I::sg g (.cells (bi cur.toList off ys).toArray e (0,0))::l))):RC C (.op ol (o::rem) k) σ (U (I::sg g (.cells cur e (0,0))::l)):=by
 obtain⟨a,b⟩:=U0 (σ:=σ) p j f h1 aa m (nJ hd _ _ (dV _ _)) d;refine j1 hw a (b.mono fun sv H2 ⟨ys,i,e2,r⟩=>?_);subst i;subst r;obtain⟨i,h⟩:=tg (o':=.cells (bi cur.toList off ys).toArray e (0,0)) hd;rw[i];exact q ys e2 h
def qg{α:Type}(S:α->St)(Q:α->PH->Prop){p:Prop}(h1:(∀a σ' H,Q a H->fj (S a).tm σ'.tm->gH (S a).bx σ'.bx->RC C (.st k) σ' H)->p)(h2:∀a H,Q a H->RC C (.st k) (S a) H):p:=
 h1 fun a _ H b ht hb=>fd ht hb (h2 a H b)
end
def gl{C:Cx}{k kx:List Item}{σ:St}{H:PH}{α:Type}{c:Code}(μ:α->Nat)(S:α->St)(Q Z:α->PH->Prop)(a0:α)(f:fj (S a0).tm σ.tm)(hb:gH (S a0).bx σ.bx)(e:Q a0 H)
  (h:∀a H,Q a H->(∀b d H',μ b<μ a->fj (S b).tm d.tm->gH (S b).bx d.bx->Q b H'->RC C (.st (.inLoop c::k)) d H')->(∀b d H',fj (S b).tm d.tm->gH (S b).bx d.bx->Z b H'->RC C (.st kx) d H')->RC C (.st (.code c::.inLoop c::k)) (S a) H)
  (rest:∀a H,Z a H->RC C (.st kx) (S a) H):RC C (.st (.code (.loop c)::k)) σ H:=
 bz μ S Q a0 f hb e fun a H e g=>h a H e g fun b d H' h1 h2 h3=>fd h1 h2 (rest b H' h3)
end Go.Sx
namespace Dg
abbrev dp:=Nat->Bool
def fM(c:dp)(j:Nat)(x:Bool):dp:=fun i=>if i=j then x else c i
inductive T where
 |lf (b:Bool)
 |nd (v:Nat) (l h:T)
deriving DecidableEq
namespace T
def at'(c:dp):T->Bool
 |lf b=>b
 |nd v l h=>if c v then h.at' c else l.at' c
def ok:Nat->T->Prop
 |_,lf _=>True
 |k,nd v l h=>k<=v/\v<24/\l≠h/\ok (v+1) l/\ok (v+1) h
variable{t:T}
def ok.mono{k j:Nat}(a:j<=k)(h:t.ok k):t.ok j:=by
 cases t with
 |lf b=>trivial
 |nd v l r=>exact⟨cO a h.1,h.2⟩
def nH:∀{k:Nat},t.ok k->∀{j:Nat},j<k->∀(c:dp) (x:Bool),t.at' (fM c j x)=t.at' c:=by
 induction t with
 |lf b=>intros;rfl
 |nd v l h d e=>
  intro k a j f c x;have hv:fM c j x v=c v:=by unfold fM;rw[ad];have:=a.1;omega
  simp only[at',hv,d a.2.2.2.1 (show j<v+1 by have:=a.1;omega),e a.2.2.2.2 (show j<v+1 by have:=a.1;omega)]
variable{l h:T}{v:Nat}
theorem at_lo{k:Nat}(a:(nd v l h).ok k)(c:dp):(nd v l h).at' (fM c v false)=l.at' c:=by simp only[at',fM,cY,iN,gT];exact nH a.2.2.2.1 (iO v) c false
theorem at_hi{k:Nat}(a:(nd v l h).ok k)(c:dp):(nd v l h).at' (fM c v true)=h.at' c:=by simp only[at',fM,cY];exact nH a.2.2.2.2 (iO v) c true
def sz:T->Nat
 |lf _=>1
 |nd _ l h=>l.sz+h.sz+1
def MC:∀(n:Nat) (a b:T) (k j:Nat),a.sz+b.sz<=n->a.ok k->b.ok j->(∀c,a.at' c=b.at' c)->a=b:=by
 intro n
 induction n with
 |zero=>intro a b k j p;cases a<;>simp[sz]at p
 |succ n e=>
  intro a b k j p ha hb d;cases a with
  |lf x=>
   cases b with
   |lf y=>have:=d (fun _=>false);simp only[at']at this;rw[this]
   |nd v l h=>exfalso;simp only[sz]at p;have i:lf x=l:=e (lf x) l 0 _ (by simp only[sz];omega) trivial hb.2.2.2.1 (fun c=>by rw[<-at_lo hb c,<-d];rfl);have e2:lf x=h:=e (lf x) h 0 _ (by simp only[sz];omega) trivial hb.2.2.2.2 (fun c=>by rw[<-at_hi hb c,<-d];rfl);exact hb.2.2.1 (i.symm.trans e2)
  |nd v l h=>
   cases b with
   |lf y=>exfalso;simp only[sz]at p;have i:l=lf y:=e l (lf y) _ 0 (by simp only[sz];omega) ha.2.2.2.1 trivial (fun c=>by rw[<-at_lo ha c,d];rfl);have e2:h=lf y:=e h (lf y) _ 0 (by simp only[sz];omega) ha.2.2.2.2 trivial (fun c=>by rw[<-at_hi ha c,d];rfl);exact ha.2.2.1 (i.trans e2.symm)
   |nd m l' o=>
    simp only[sz]at p;rcases oe v m with hv|hv|hv
    .exfalso;have f:(nd m l' o).ok (v+1):=⟨hv,hb.2⟩;have i:l=nd m l' o:=e l _ _ _ (by simp only[sz];omega) ha.2.2.2.1 f (fun c=>by rw[<-at_lo ha c,d,nH f (iO v)]);have e2:h=nd m l' o:=e h _ _ _ (by simp only[sz];omega) ha.2.2.2.2 f (fun c=>by rw[<-at_hi ha c,d,nH f (iO v)]);exact ha.2.2.1 (i.trans e2.symm)
    .subst hv;have i:l=l':=e l l' _ _ O ha.2.2.2.1 hb.2.2.2.1 (fun c=>by rw[<-at_lo ha c,d,at_lo hb c]);have e2:h=o:=e h o _ _ O ha.2.2.2.2 hb.2.2.2.2 (fun c=>by rw[<-at_hi ha c,d,at_hi hb c]);rw[i,e2]
    .exfalso;have g:(nd v l h).ok (m+1):=⟨hv,ha.2⟩;have i:nd v l h=l':=e _ l' _ _ (by simp only[sz];omega) g hb.2.2.2.1 (fun c=>by rw[<-at_lo hb c,<-d,nH g (iO m)]);have e2:nd v l h=o:=e _ o _ _ (by simp only[sz];omega) g hb.2.2.2.2 (fun c=>by rw[<-at_hi hb c,<-d,nH g (iO m)]);exact hb.2.2.1 (i.symm.trans e2)
variable{a b:T}
theorem ext{k j:Nat}(ha:a.ok k)(hb:b.ok j)(h:∀c,a.at' c=b.at' c):a=b:=MC _ a b k j (aW _) ha hb h
def mk(v:Nat)(l h:T):T:=if l=h then l else nd v l h
theorem mk_ok{k:Nat}(b:k<=v)(hv:v<24)(a:l.ok (v+1))(c:h.ok (v+1)):(mk v l h).ok k:=by
 unfold mk;split
 .exact a.mono O
 .exact⟨b,hv,by assumption,a,c⟩
theorem mk_at(v:Nat)(l h:T)(c:dp):(mk v l h).at' c=if c v then h.at' c else l.at' c:=by
 unfold mk;split
 .subst_vars;simp
 .rfl
def var:T->Nat
 |lf _=>24
 |nd v _ _=>v
def lo(i:Nat):T->T
 |nd v l h=>if v=i then l else nd v l h
 |lf b=>lf b
def hi(i:Nat):T->T
 |nd v l h=>if v=i then h else nd v l h
 |lf b=>lf b
theorem var_ge{k:Nat}(h:t.ok k)(a:k<=24):k<=t.var:=by
 cases t with
 |lf b=>exact a
 |nd v l r=>exact h.1
theorem var_le{k:Nat}(h:t.ok k):t.var<=24:=by
 cases t with
 |lf b=>exact aW _
 |nd v l r=>exact fo h.2.1
theorem lo_ok{k i:Nat}(h:t.ok k)(hi:i<=t.var):(lo i t).ok (i+1):=by
 cases t with
 |lf b=>trivial
 |nd v l r=>
  simp only[lo,var]at *;split
  .subst_vars;exact h.2.2.2.1
  .exact⟨O,h.2⟩
theorem hi_ok{k i:Nat}(h:t.ok k)(a:i<=t.var):(hi i t).ok (i+1):=by
 cases t with
 |lf b=>trivial
 |nd v l r=>
  simp only[hi,var]at *;split
  .subst_vars;exact h.2.2.2.2
  .exact⟨O,h.2⟩
def xD(i:Nat)(t:T)(c:dp):t.at' c=if c i then (hi i t).at' c else (lo i t).at' c:=by
 cases t with
 |lf b=>simp[lo,hi,at']
 |nd v l r=>
  simp only[lo,hi];by_cases e:v=i
  .subst e;simp[at']
  .simp[e]
def op(f:Bool->Bool->Bool):Nat->T->T->T
 |0,a,b=>lf (f (a.at' fun _=>false) (b.at' fun _=>false))
 |n+1,a,b=>match a,b with
  |lf x,lf y=>lf (f x y)
  |a,b=>mk (min a.var b.var) (op f n (lo (min a.var b.var) a) (lo (min a.var b.var) b)) (op f n (hi (min a.var b.var) a) (hi (min a.var b.var) b))
theorem is_lf(h:t.ok 24):∃b,t=lf b:=by
 cases t with
 |lf b=>exact⟨b,rfl⟩
 |nd v l r=>exact absurd h.1 (by have:=h.2.1;omega)
def sX(f:Bool->Bool->Bool):∀(n k:Nat) (a b:T),24<=n+k->k<=24->a.ok k->b.ok k->(op f n a b).ok k/\∀c,(op f n a b).at' c=f (a.at' c) (b.at' c):=by
 intro n
 induction n with
 |zero=>intro k a b s h ha hb;have:k=24:=O;subst this;obtain⟨x,rfl⟩:=is_lf ha;obtain⟨y,rfl⟩:=is_lf hb;exact⟨trivial,fun c=>rfl⟩
 |succ n j=>
  intro k a b s h ha hb;have d:∀i,i=min a.var b.var->i<24->(mk i (op f n (lo i a) (lo i b)) (op f n (hi i a) (hi i b))).ok k/\∀c,(mk i (op f n (lo i a) (lo i b)) (op f n (hi i a) (hi i b))).at' c=f (a.at' c) (b.at' c):=by intro i t g;have h1:=var_ge ha h;have h2:=var_ge hb h;obtain⟨q,p⟩:=j (i+1) (lo i a) (lo i b) O O (lo_ok ha O) (lo_ok hb O);obtain⟨o,m⟩:=j (i+1) (hi i a) (hi i b) O O (hi_ok ha O) (hi_ok hb O);refine⟨mk_ok O g q o,fun c=>?_⟩;rw[mk_at,p,m,xD i a c,xD i b c];split<;>rfl
  unfold op;split
  .exact⟨trivial,fun c=>rfl⟩
  .rename_i e;refine d _ rfl ?_;cases a with
   |nd v l r=>have:=ha.2.1;simp only[var];omega
   |lf x=>
    cases b with
    |nd v l r=>have:=hb.2.1;simp only[var];omega
    |lf y=>exact(e x y rfl rfl).elim
def and(a b:T):T:=op (· && ·) 24 a b
def or(a b:T):T:=op (· || ·) 24 a b
def not:T->T
 |lf b=>lf (!b)
 |nd v l h=>nd v l.not h.not
theorem and_ok(ha:a.ok 0)(hb:b.ok 0):(and a b).ok 0:=(sX _ 24 0 a b O O ha hb).1
theorem or_ok(ha:a.ok 0)(hb:b.ok 0):(or a b).ok 0:=(sX _ 24 0 a b O O ha hb).1
theorem and_at(ha:a.ok 0)(hb:b.ok 0)(c:dp):(and a b).at' c=(a.at' c && b.at' c):=(sX _ 24 0 a b O O ha hb).2 c
theorem or_at(ha:a.ok 0)(hb:b.ok 0)(c:dp):(or a b).at' c=(a.at' c || b.at' c):=(sX _ 24 0 a b O O ha hb).2 c
theorem not_not(t:T):t.not.not=t:=by
 induction t with
 |lf b=>simp[not]
 |nd v l h a c=>simp[not,a,c]
theorem not_ok:∀{k:Nat},t.ok k->t.not.ok k:=by
 induction t with
 |lf b=>intros;trivial
 |nd v l h c d=>intro k a;refine⟨a.1,a.2.1,fun e=>a.2.2.1 ?_,c a.2.2.2.1,d a.2.2.2.2⟩;rw[<-not_not l,e,not_not]
theorem not_at(t:T)(c:dp):t.not.at' c=!t.at' c:=by
 induction t with
 |lf b=>rfl
 |nd v l h a d=>simp only[not,at',a,d];split<;>rfl
def vis:T->List T->List T
 |lf _,ts=>ts
 |nd v l h,ts=>if nd v l h∈ts then ts else h.vis (l.vis ts)++[nd v l h]
def plc(ts:List T):T->Nat
 |lf b=>if b then 1 else 0
 |nd v l h=>ts.idxOf (nd v l h)+2
def isIn(ts:List T):T->Prop
 |lf _=>True
 |nd v l h=>nd v l h∈ts
def Seq(ts:List T):Prop:=ts.Nodup/\∀(i:Nat) (t:T),ts[i]?=some t->∃v l h,t=nd v l h/\t.ok 0/\isIn (ts.take i) l/\isIn (ts.take i) h
variable{ts us:List T}
def isIn.mono(h:isIn ts t)(a:∀x∈ts,x∈us):isIn us t:=by
 cases t with
 |lf b=>trivial
 |nd v l r=>exact a _ h
def isIn.app(h:isIn ts t):isIn (ts++us) t:=h.mono fun x a=>dk _ a
theorem plc_app(h:isIn ts t):plc (ts++us) t=plc ts t:=by
 cases t with
 |lf b=>rfl
 |nd v l r=>have hm:nd v l r∈ts:=h;simp only[plc];rw[List.idxOf_append,ak hm]
theorem plc_inj(ha:isIn ts a)(hb:isIn ts b)(h:plc ts a=plc ts b):a=b:=by
 cases a with
 |lf x=>cases b with
  |lf y=>cases x<;>cases y<;>simp[plc]at h<;>rfl
  |nd v l r=>simp only[plc]at h;split at h<;>omega
 |nd v l r=>cases b with
  |lf y=>simp only[plc]at h;split at h<;>omega
  |nd c l' d=>
   have h1:nd v l r∈ts:=ha;have h2:nd c l' d∈ts:=hb;simp only[plc]at h;have e:ts.idxOf (nd v l r)=ts.idxOf (nd c l' d):=O;have g1:ts[ts.idxOf (nd v l r)]?=some (nd v l r):=by rw[aL (rB h1)];simp
   have g2:ts[ts.idxOf (nd c l' d)]?=some (nd c l' d):=by rw[aL (rB h2)];simp
   rw[e,g2]at g1;exact(df g1).symm
theorem plc_get{r:T}(h:nd v l r∈ts):ts[plc ts (nd v l r)-2]?=some (nd v l r):=by simp only[plc,rG];rw[aL (rB h)];simp
theorem plc_lt(h:isIn ts t):plc ts t<ts.length+2:=by
 cases t with
 |lf b=>simp only[plc];split<;>omega
 |nd v l r=>have:=rB (show nd v l r∈ts from h);simp only[plc];omega
def Seq.nil:Seq []:=⟨List.nodup_nil,fun i t h=>by simp at h⟩
def Seq.snoc(s:Seq ts)(g:(nd v l h).ok 0)(o:isIn ts l)(p:isIn ts h)(k:nd v l h∉ts):Seq (ts++[nd v l h]):=by
 refine⟨?_,fun i t hi=>?_⟩
 .rw[List.nodup_append];refine⟨s.1,by simp,fun a ha b hb=>?_⟩;simp at hb;subst hb;intro e;subst e;exact k ha
 .rcases oe i ts.length with f|rfl|m
  .rw[mU f]at hi;obtain⟨j,l',n,a,b,c,d⟩:=s.2 i t hi;refine⟨j,l',n,a,b,?_,?_⟩<;>rw[n9 (fo f)]<;>assumption
  .rw[pW (aW _)]at hi;simp at hi;subst hi;refine⟨v,l,h,rfl,g,?_,?_⟩<;>rw[n9 (aW _),cB]<;>assumption
  .rw[fW (by simp;omega)]at hi;cases hi
theorem vis_spec(t:T):∀{k:Nat},t.ok k->k<=24->∀(ts:List T),Seq ts->Seq (t.vis ts)/\isIn (t.vis ts) t/\(∃us,t.vis ts=ts++us/\us.length+1<=2^(24-k)/\∀x∈us,x.sz<=t.sz):=by
 induction t with
 |lf b=>intro k c j ts s;exact⟨s,trivial,[],by simp[vis],by simpa using Nat.one_le_two_pow,fun x a=>absurd a dH⟩
 |nd v l h g i=>
  intro k c j ts s;unfold vis;split
  .rename_i hm;exact⟨s,hm,[],by simp,by simpa using Nat.one_le_two_pow,fun x a=>absurd a dH⟩
  .rename_i hm;obtain⟨p,q,f,n,u,m⟩:=g c.2.2.2.1 (by have:=c.2.1;omega) ts s;obtain⟨o,i2,e,e2,r,z2⟩:=i c.2.2.2.2 (by have:=c.2.1;omega) _ p;have d:nd v l h∉h.vis (l.vis ts):=by
    rw[e2,n];simp only[gS];rintro((a|a)|a)
    .exact hm a
    .have:=m _ a;simp only[sz]at this;omega
    .have:=z2 _ a;simp only[sz]at this;omega
   refine⟨o.snoc ⟨bg _,c.2⟩ ?_ i2 d,?_,f++e++[nd v l h],?_,?_,?_⟩
   .rw[e2];exact q.app
   .show nd v l h∈_;simp
   .rw[e2,n];simp
   .have hp:2^(24-(v+1))+2^(24-(v+1))<=2^(24-k):=by
     have h1:=c.1;have h2:=c.2.1;have:2^(24-(v+1))+2^(24-(v+1))=2^(24-v):=by rw[show 24-v=(24-(v+1))+1 by omega,og];omega
     rw[this];exact iP O O
    simp;omega
   .intro x a;simp only[gS,List.mem_singleton]at a;rcases a with (a|a)|rfl
    .have:=m _ a;simp only[sz];omega
    .have:=z2 _ a;simp only[sz];omega
    .exact aW _
def subs(t:T):List T:=t.vis []
theorem subs_seq(h:t.ok 0):Seq (subs t):=(vis_spec t h O [] Seq.nil).1
theorem subs_in(h:t.ok 0):isIn (subs t) t:=(vis_spec t h O [] Seq.nil).2.1
theorem subs_len(h:t.ok 0):(subs t).length<2^24:=by obtain⟨us,e,n,_⟩:=(vis_spec t h O [] Seq.nil).2.2;unfold subs;rw[e];simp only[gk];omega
def dec(ts:List T):T->Nat×Nat×Nat
 |lf b=>(24,if b then 1 else 0,if b then 1 else 0)
 |nd v l h=>(v,plc ts l,plc ts h)
theorem dec_app(s:Seq ts)(h:isIn ts t):dec (ts++us) t=dec ts t:=by
 cases t with
 |lf b=>rfl
 |nd v l r=>
  have hm:nd v l r∈ts:=h;obtain⟨i,hi⟩:=List.mem_iff_getElem?.1 hm;obtain⟨d,l',f,e,_,c,hr⟩:=s.2 i _ hi;cases e
  have sub:∀x∈ts.take i,x∈ts:=fun x a=>List.mem_of_mem_take a;simp only[dec,plc_app (c.mono sub),plc_app (hr.mono sub)]
def Seq.kids(s:Seq ts)(hm:nd v l h∈ts):isIn ts l/\isIn ts h:=by
 obtain⟨i,hi⟩:=List.mem_iff_getElem?.1 hm;obtain⟨c,l',d,e,_,b,hr⟩:=s.2 i _ hi;cases e
 have sub:∀x∈ts.take i,x∈ts:=fun x a=>List.mem_of_mem_take a;exact⟨b.mono sub,hr.mono sub⟩
def Seq.okk(s:Seq ts)(h:isIn ts t):t.ok 0:=by
 cases t with
 |lf b=>trivial
 |nd v l r=>obtain⟨i,hi⟩:=List.mem_iff_getElem?.1 (show nd v l r∈ts from h);exact(s.2 i _ hi).choose_spec.choose_spec.choose_spec.2.1
end T
def T.at_cut{t:T}:∀{k:Nat},t.ok k->∀{c d:dp},(∀i,i<24->c i=d i)->t.at' c=t.at' d:=by
 induction t with
 |lf b=>intros;rfl
 |nd v l h e f=>intro k g c d a;simp only[T.at',a v g.2.1,e g.2.2.2.1 a,f g.2.2.2.2 a]
end Dg
