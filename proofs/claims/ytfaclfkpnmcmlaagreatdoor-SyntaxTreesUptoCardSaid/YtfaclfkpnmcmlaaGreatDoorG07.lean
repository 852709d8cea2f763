import Derived.Test.YtfaclfkpnmcmlaaGreatDoorG06
set_option maxHeartbeats 8000000
set_option linter.all false
namespace Go.Ke
open Go Go.Sx
structure cA where
 v:LV
 s:KS
 fp:List Nat
 ws:List Nat
 cl:Bool
 noncomputable def D6(X:bQ)(G:Nat)(call:c8)(ol:List Oper)(o:Oper)(τ:Tr LV)(s:KS):Option cA:=
 match wR ol τ o with
 |none=>none
 |some false=>some ⟨.v undef,s,[],[],false⟩
 |some true=>match oW (iA τ G) o.op with
  |some (f,args)=>match call f args s with
   |some (v,s',ws)=>some ⟨v,s',[],ws,true⟩
   |none=>none
  |none=>match jm X (iA τ G) o s with
   |some r=>some ⟨r.res,r.s,r.fp,r.ws,false⟩
   |none=>none
inductive Kw where
 |call (x:Operand) (aq:List Operand)
 |fn (g:dY->KS->Option HR)
 noncomputable def nP(v:Option LV)(s:KS)(r:Option HR):Option HR:=match v with|some v=>some ⟨v,s,[],[]⟩|none=>r
 noncomputable def Fx(ρ:dY)(x:Operand)(aq:List Operand):Option (FuncId×List LV):=
 match ρ x,allL ρ aq with
 |some (.f (.func f) l c),some as=>some (f,l++as++c)
 |_,_=>none
 noncomputable def uL(X:bQ)(o:Oper):Kw:=
 match o.op with
 | .call ⟨.value x,aq,_⟩=>.call x aq.toList
 | .move x=>.fn fun ρ s=>nP (ρ x) s none
 | .assign x=>.fn fun ρ s=>nP (ρ x) s none
 | .pick c x y=>.fn fun ρ s=>nP (Dv (ρ c) (ρ x) (ρ y)) s none
 | .nilCheck x=>.fn fun ρ s=>nP (se 0 (ρ x)) s none
 | .indexAddr T x i=>.fn fun ρ s=>nP (CS (br X.P T) (ρ x) (ρ i)) s none
 | .fieldAddr T x f=>match bj X.P T f with|some (n,_)=>.fn fun ρ s=>nP (se n (ρ x)) s none|none=>.fn fun _ _=>none
 | .binOp op T x y _=>.fn fun ρ s=>nP (Bt X.P op T (pq x || pq y) (ρ x) (ρ y)) s none
 | .load T x=>.fn fun ρ s=>vA X.P T (ρ x) s
 | .alloc T=>.fn fun _ s=>sd X.P T s
 | .box T x=>.fn fun ρ s=>si X.P T (ρ x) s
 | .store T x y=>if o.dst=none then .fn fun ρ s=>wA X.P T (ρ x) (ρ y) s else .fn fun _ _=>none
 | .buildSlice t len parts=>.fn fun ρ s=>sj X.P t len (allPL ρ parts.toList) s
 | .extract x n=>.fn fun ρ s=>nP (match ρ x with|some (.tu l)=>l[n]?|some (.v (.tuple l))=>(l.toList[n]?).map .v|_=>none) s none
 | .build T ps=>.fn fun ρ s=>nP (match allPL ρ ps.toList with|some l=>xK X.P T l|none=>none) s none
 |_=>.fn fun ρ s=>jm X ρ o s
variable{o:Oper}
def NL{X:bQ}{x:Operand}{aq:List Operand}(h:uL X o=.call x aq)(ρ:dY):oW ρ o.op=Fx ρ x aq:=by
 unfold uL at h;split at h
 case h_1 y as ts aa=>cases h;rw[aa];rfl
 case h_7 T y f aa=>split at h<;>cases h
 case h_12 T y z aa=>split at h<;>cases h
 all_goals cases h
def NM{X:bQ}{g:dY->KS->Option HR}(h:uL X o=.fn g)(ρ:dY)(s:KS):oW ρ o.op=none/\jm X ρ o s=g ρ s:=by
 unfold uL at h;split at h
 case h_1=>cases h
 case h_7 T y f aa=>
  split at h
  .rename_i n t hf;cases h;exact⟨by rw[aa];rfl,by unfold jm;rw[aa];simp only[mB,hf];rfl⟩
  .rename_i hf;cases h;exact⟨by rw[aa];rfl,by unfold jm;rw[aa];simp only[mB,hf]⟩
 case h_12 T y z aa=>
  split at h
  .rename_i hd;cases h;exact⟨by rw[aa];rfl,by unfold jm;rw[aa];simp only[mB,hd,cY]⟩
  .rename_i hd;cases h;exact⟨by rw[aa];rfl,by unfold jm;rw[aa];simp only[mB,ad hd]⟩
 case h_16=>
  cases h
  refine⟨?_,rfl⟩;unfold oW;split
  .rename_i y as ts aa;exact(‹∀x aq argTypes,o.op=Op.call ⟨.value x,aq,argTypes⟩->False› y as ts aa).elim
  .rfl
 all_goals (rename_i aa;cases h;exact⟨by rw[aa];rfl,by unfold jm;rw[aa];rfl⟩)
 noncomputable def jq(X:bQ)(G:Nat)(call:c8)(ol:List Oper)(o:Oper)(τ:Tr LV)(s:KS):Option cA:=
 match wR ol τ o with
 |none=>none
 |some false=>some ⟨.v undef,s,[],[],false⟩
 |some true=>match uL X o with
  | .call x aq=>(match Fx (iA τ G) x aq with
   |some (f,args)=>match call f args s with
    |some (v,s',ws)=>some ⟨v,s',[],ws,true⟩
    |none=>none
   |none=>none)
  | .fn g=>match g (iA τ G) s with
   |some ⟨v,s',fp,ws⟩=>some ⟨v,s',fp,ws,false⟩
   |none=>none
variable{r:cA}{s:KS}{τ:Tr LV}
def Vg{X:bQ}{G:Nat}{call:c8}{ol:List Oper}(h:jq X G call ol o τ s=some r):D6 X G call ol o τ s=some r:=by
 unfold jq at h;unfold D6;split at h
 .cases h
 .exact h
 .split at h
  .rename_i x aq hd;rw[NL hd];split at h
   .exact h
   .cases h
  .rename_i g hd;obtain⟨h1,h2⟩:=NM hd (iA τ G) s;rw[h1,h2];simp only;split at h
   .rename_i a;rw[a];exact h
   .cases h
 noncomputable def kW(ol:List Oper)(o:Oper):List Tmp:=(match yA ol o with|some t=>[t]|none=>[])++o.op.operands.toList.filterMap fun | .tmp t=>some t|_=>none
def Ss{ol:List Oper}{t:Tmp}(h:.tmp t∈o.op.operands):t∈kW ol o:=by unfold kW;refine eo _ (List.mem_filterMap.2 ⟨.tmp t,by simpa using h,rfl⟩)
def C1{ol:List Oper}{t:Tmp}(h:yA ol o=some t):t∈kW ol o:=by unfold kW;rw[h];exact dk _ (.head _)
 noncomputable def Lv(X:bQ)(G:Nat)(hd:List Nat)(ol:List Oper)(o:Oper)(τ:Tr LV)(s:KS)(r:cA):Prop:=
 ∀{M:LM} {e:aH} {I H:PH} {σ:St},GE G e->cD X e M I H->(∀t∈kW ol o,∀v,τ.get t=some v->∃y,eW σ.tm t=.v y/\VR e v y)->lq M e s.c r.s.c->
  (r.cl=true->lS hd M s.L/\∀id,s.c<=id->s.L.get id=none)->(r.cl=false->∀id∈r.fp,∀ob,s.L.get id=some ob->M id=some ob)->ft X ol o σ e I H r.v (cJ M r.ws s.c r.s.c r.s.L) s.c r.s.c
structure Lu(X:bQ)(G:Nat)(hd:List Nat)(ol:List Oper)(o:Oper)(τ:Tr LV)(s:KS)(r:cA):Prop where
 cle:s.c<=r.s.c
 keep:∀id,id∉r.ws->¬(s.c<=id/\id<r.s.c)->r.s.L.get id=s.L.get id
 sub:∀id∈r.ws,(∃ob,s.L.get id=some ob)/\(r.cl=false->id∈r.fp)
 ok:Lv X G hd ol o τ s r
def Tm{X:bQ}{ρ:dY}{r:HR}(h:jm X ρ o s=some r):s.c<=r.s.c/\(∀id,id∉r.ws->¬(s.c<=id/\id<r.s.c)->r.s.L.get id=s.L.get id)/\(∀id∈r.ws,(∃ob,s.L.get id=some ob)/\id∈r.fp):=by
 have look:∀{v:LV} {fp:List Nat},r=⟨v,s,fp,[]⟩->s.c<=r.s.c/\(∀id,id∉r.ws->¬(s.c<=id/\id<r.s.c)->r.s.L.get id=s.L.get id)/\(∀id∈r.ws,(∃ob,s.L.get id=some ob)/\id∈r.fp):=by intro v fp hr;subst hr;exact⟨aW _,fun _ _ _=>rfl,fun id a=>by cases a⟩
 have new:∀{ob:LO} {v:Nat->LV},nL s ob v=some r->s.c<=r.s.c/\(∀id,id∉r.ws->¬(s.c<=id/\id<r.s.c)->r.s.L.get id=s.L.get id)/\(∀id∈r.ws,(∃ob,s.L.get id=some ob)/\id∈r.fp):=by intro ob v g;obtain⟨h1,h2,h3,d,f⟩:=qL g;exact⟨O,fun id _ h=>by rw[f,ad O],fun id a=>by rw[d]at a;cases a⟩
 have set:∀{id:Nat} {ob:LO},(∃ob,s.L.get id=some ob)->nZ s id ob=some r->s.c<=r.s.c/\(∀id,id∉r.ws->¬(s.c<=id/\id<r.s.c)->r.s.L.get id=s.L.get id)/\(∀id∈r.ws,(∃ob,s.L.get id=some ob)/\id∈r.fp):=by intro id ob q g;obtain⟨h1,h2,h3,d,f⟩:=zF g;exact⟨O,fun j b _=>by rw[f,ad (by rw[d]at b;simpa using b)],fun j b=>by rw[d]at b;rw[h3];rw[List.mem_singleton]at b;subst b;exact⟨q,.head _⟩⟩
 have e:∀{fp:List Nat} {m n:Nat} {cs:List LV},oS s fp [] (some s.L) m n cs=some r->s.c<=r.s.c/\(∀id,id∉r.ws->¬(s.c<=id/\id<r.s.c)->r.s.L.get id=s.L.get id)/\(∀id∈r.ws,(∃ob,s.L.get id=some ob)/\id∈r.fp):=by
  intro fp m n cs g;obtain⟨L0,l,h1,h2,h3,d,f⟩:=oT g;cases l
  exact⟨O,fun id _ h=>by rw[f,ad O],fun id a=>by rw[d]at a;cases a⟩
 unfold jm at h;split at h
 .cases h;exact look rfl
 .split at h
  .unfold vA at h;split at h
   .split at h
    .split at h
     .cases h;exact look rfl
     .cases h
    .split at h
     .cases h;exact look rfl
     .cases h
    .cases h
   .cases h
  .unfold sd at h;split at h
   .exact new h
   .cases h
  .unfold si at h;split at h
   .exact new h
   .cases h
  .split at h
   .unfold wA at h;split at h
    .split at h
     .split at h
      .exact set ⟨_,by assumption⟩ h
      .cases h
     .cases h
    .cases h
   .cases h
  .unfold sj at h;split at h
   .split at h
    .exact new h
    .cases h
   .cases h
  .unfold vF at h;split at h
   .exact new h
   .cases h
  .unfold yU at h;split at h
   .split at h
    .split at h
     .split at h
      .cases h;exact look rfl
      .cases h;exact look rfl
      .cases h
     .cases h
    .cases h
   .cases h
  .unfold uF at h;split at h
   .split at h
    .exact new h
    .cases h
   .cases h
  .unfold xT at h;split at h
   .split at h
    .cases h;exact look rfl
    .cases h
   .split at h
    .cases h;exact look rfl
    .cases h
   .cases h
  .split at h
   .unfold tH at h;split at h
    .split at h
     .split at h
      .split at h
       .exact set ⟨_,by assumption⟩ h
       .cases h
      .cases h
     .cases h
    .cases h
   .cases h
  .split at h
   .unfold tH at h;split at h
    .split at h
     .split at h
      .split at h
       .exact set ⟨_,by assumption⟩ h
       .cases h
      .cases h
     .cases h
    .cases h
   .cases h
  .split at h
   .unfold xC at h;split at h
    .split at h
     .split at h
      .cases h;exact look rfl
      .split at h
       .cases h;exact look rfl
       .cases h
      .cases h
     .split at h
      .split at h
       .split at h
        .exact e h
        .cases h
       .split at h
        .split at h
         .split at h
          .split at h
           .exact e h
           .cases h
          .split at h
           .rename_i id _ _ _ _ _ _ _ _ _ _ _ t;obtain⟨L0,l,h1,h2,h3,d,f⟩:=oT h;have i:=fun k=>Tr.get_put l k;refine⟨O,fun j b p=>by rw[f,ad O,i,ad (by rw[d]at b;simpa using b)],fun j b=>by rw[d]at b;rw[h3];rw[List.mem_singleton]at b;subst b;exact⟨⟨_,by assumption⟩,.head _⟩⟩
           .cases h
         .cases h
        .cases h
       .cases h
      .cases h
     .cases h
    .cases h
   .cases h
  .cases h
def qQ{X:bQ}{G:Nat}{hd:List Nat}{call:c8}(A:wX X G hd call){ol:List Oper}(h:jq X G call ol o τ s=some r):Lu X G hd ol o τ s r\/(wR ol τ o=some false/\r=⟨.v undef,s,[],[],false⟩):=by
 replace h:=Vg h;unfold D6 at h;split at h
 .cases h
 .rename_i hw;cases h;exact .inr ⟨hw,rfl⟩
 .rename_i hw
  left
  have u:∀{e:aH} {σ:St},GE G e->(∀t∈kW ol o,∀v,τ.get t=some v->∃y,eW σ.tm t=.v y/\VR e v y)->∃ρ',OR e ρ' σ/\∀x∈o.op.operands,iA τ G x=ρ' x:=by
   intro e σ q p;refine⟨fun x=>match x with | .tmp t=>if t∈kW ol o then τ.get t else none|y=>iA τ G y,?_,?_⟩
   .intro x v b;cases x with
    |tmp t=>
     simp only at b;split at b
     .rename_i ht;exact p t ht v b
     .cases b
    |const c=>simp only[iA,bv]at b;subst b;exact⟨c,rfl,by simp only[VR]⟩
    |global n=>
     simp only[iA]at b;split at b
     .rename_i S;cases b;exact⟨_,rfl,by simp only[VR];exact⟨n,0,q n S,rfl⟩⟩
     .cases b
    |func f=>simp only[iA,bv]at b;subst b;exact⟨_,rfl,by simp only[VR];exact⟨[],[],rfl,by simp[aK],by simp[aK]⟩⟩
   .intro x b;cases x with
    |tmp t=>simp only[iA];rw[ak (Ss b)]
    |_=>rfl
  split at h
  .rename_i f args g;split at h
   .rename_i v s' ws a;cases h
    refine⟨A.cle a,A.keep a,fun id i=>⟨A.sub a id i,fun h=>by cases h⟩,?_⟩;intro M e I H σ q F p m j _;obtain⟨ρ',C,d⟩:=u q p;rw[MA d]at g;have k:=Az hw (e:=e) (σ:=σ) fun t ht=>p t (C1 ht);unfold oW at g;split at g
    .rename_i x aq ts aa;split at g
     .rename_i f' l c as b ha;cases g
      obtain⟨z,h1,h2⟩:=C _ _ b;obtain⟨B,h3,W⟩:=C.allL _ ha;simp only[VR]at h2;obtain⟨l',c',rfl,V,U⟩:=h2;have hd:=A.does a (j rfl).1 (j rfl).2 m q F ((V.append W).append U);have w:(l'++B++c').toArray=l'.toArray++B.toArray++c'.toArray:=ai;rw[w]at hd;obtain⟨k1,k2⟩:=D2 (σ:=σ) aa h1 h3 (A.goes a) hd;intro K T;refine .inr ⟨k,.inr (.inr (.inr ⟨k1,k2.mono fun sv H2 ⟨y,R,e2,I2,Q,P,N,L,J⟩=>?_⟩))⟩;subst R;exact T e2 y I2 H2 Q P N L J
     .cases g
    .cases g
   .cases h
  .split at h
   .rename_i Z aa;cases h
    obtain⟨g1,g2,g3⟩:=Tm aa;refine⟨g1,g2,fun id i=>⟨(g3 id i).1,fun _=>(g3 id i).2⟩,?_⟩;intro M e I H σ q F p m _ D;obtain⟨ρ',C,d⟩:=u q p;rw[Tk d]at aa;have k:=Az hw (e:=e) (σ:=σ) fun t ht=>p t (C1 ht);exact(Tl k C aa F (D rfl) m).eff
   .cases h
structure io where
 M:LM
 e:aH
 I:PH
 L:Tr LO
 c:Nat
 noncomputable def iy(c hi:Nat):List Nat->List Nat->List Nat
 | [],a=>a
 |id::l,a=>iy c hi l (if (id<c\/hi<=id)/\a.contains id=false then id::a else a)
def oP{c hi:Nat}:∀{l acc:List Nat} {id:Nat},id∈iy c hi l acc<->id∈acc\/(id∈l/\(id<c\/hi<=id))
 | [],acc,id=>by simp[iy]
 |j::l,acc,id=>by
  simp only[iy];rw[oP];by_cases h:(j<c\/hi<=j)/\acc.contains j=false
  .rw[ak h];simp only[fC];constructor
   .rintro((rfl|h1)|h1)
    .exact .inr ⟨.inl rfl,h.1⟩
    .exact .inl h1
    .exact .inr ⟨.inr h1.1,h1.2⟩
   .rintro(h1|⟨rfl|h1,h2⟩)
    .exact .inl (.inr h1)
    .exact .inl (.inl rfl)
    .exact .inr ⟨h1,h2⟩
  .rw[ad h];simp only[fC];constructor
   .rintro(h1|h1)
    .exact .inl h1
    .exact .inr ⟨.inr h1.1,h1.2⟩
   .rintro(h1|⟨rfl|h1,h2⟩)
    .exact .inl h1
    .left
     cases a:acc.contains id with
     |true=>simpa using a
     |false=>exact absurd ⟨h2,a⟩ h
    .exact .inr ⟨h1,h2⟩
structure l3(L:Tr LO)(c:Nat)(s:KS)(ws:List Nat):Prop where
 cle:c<=s.c
 keep:∀id,id∉ws->¬(c<=id/\id<s.c)->s.L.get id=L.get id
 sub:∀id∈ws,∃ob,L.get id=some ob
variable{ws:List Nat}
theorem l3.step{L:Tr LO}{c:Nat}{s':KS}{w1:List Nat}(h:l3 L c s ws)(k:s.c<=s'.c/\(∀id,id∉w1->¬(s.c<=id/\id<s'.c)->s'.L.get id=s.L.get id)/\∀id∈w1,∃ob,s.L.get id=some ob):l3 L c s' (iy c s'.c w1 ws):=by
 obtain⟨k1,k2,k3⟩:=k;have e:=h.cle;refine⟨O,fun id d hr=>?_,fun id d=>?_⟩
 .rw[oP]at d;have a:id∉ws:=fun k=>d (.inl k);have b:id∉w1:=fun k=>d (.inr ⟨k,O⟩);rw[k2 id b O];exact h.keep id a O
 .rw[oP]at d;rcases d with d|⟨d,h2⟩
  .exact h.sub id d
  .by_cases hw:id∈ws
   .exact h.sub id hw
   .obtain⟨ob,h1⟩:=k3 id d;exact⟨ob,by rw[<-h.keep id hw O];exact h1⟩
structure gx(B:io)(s:KS)(ws:List Nat):Prop where
 cle:B.c<=s.c
 bd:∀id,s.c<=id->s.L.get id=none
 keep:∀id,id∉ws->id<B.c->s.L.get id=B.L.get id
 sub:∀id∈ws,id<B.c/\∃ob,B.L.get id=some ob
 has:qd B.M B.L
structure kG(X:bQ)(G N:Nat)(B:io)(τ:Tr LV)(s:KS)(ws:List Nat)(e:aH)(I H:PH)(σ:St):Prop where
 ge:GE G e
 le:B.e.le e
 out:∀id,¬(B.c<=id/\id<s.c)->e id=B.e id
 rel:cD X e (cJ B.M ws B.c s.c s.L) I H
 ile:B.I.le I
 sr:SR e τ N σ
variable{B:io}
def gx.hasM(h:gx B s ws):qd (cJ B.M ws B.c s.c s.L) s.L:=by
 intro id ob a;unfold cJ;split
 .exact a
 .rename_i b;have h1:id∉ws:=fun k=>b (.inl k);have h2:id<B.c:=by
   rcases aB id B.c with k|k
   .exact k
   .exfalso;rcases aB id s.c with k2|k2
    .exact b (.inr ⟨k,k2⟩)
    .rw[h.bd id k2]at a;cases a
  exact h.has id ob (by rw[<-h.keep id h1 h2];exact a)
def gx.fresh(h:gx B s ws){e:aH}(a:∀id,¬(B.c<=id/\id<s.c)->e id=B.e id){hi:Nat}(hf:lq B.M B.e B.c hi):lq (cJ B.M ws B.c s.c s.L) e s.c hi:=by
 intro id h1 h2;have f:=h.cle;obtain⟨d,b⟩:=hf id O h2;refine⟨?_,by rw[a id O];exact b⟩;unfold cJ;rw[ad,d];rintro(k|k)
 .have:=(h.sub id k).1;omega
 .omega
theorem gx.step{X:bQ}{G:Nat}{ol:List Oper}{o:Oper}{τ:Tr LV}(h:gx B s ws)(k:s.c<=r.s.c/\(∀id,id∉r.ws->¬(s.c<=id/\id<r.s.c)->r.s.L.get id=s.L.get id)/\∀id∈r.ws,∃ob,s.L.get id=some ob):
  gx B r.s (iy B.c r.s.c r.ws ws)/\cJ (cJ B.M ws B.c s.c s.L) r.ws s.c r.s.c r.s.L=cJ B.M (iy B.c r.s.c r.ws ws) B.c r.s.c r.s.L:=by
 obtain⟨k1,k2,k3⟩:=k;have j:=h.cle;have f:∀id∈r.ws,id<s.c:=by
  intro id d;obtain⟨ob,h1⟩:=k3 id d;rcases aB id s.c with h2|h2
  .exact h2
  .rw[h.bd id h2]at h1;cases h1
 refine⟨⟨O,fun id d=>?_,fun id d e=>?_,fun id d=>?_,h.has⟩,?_⟩
 .rw[k2 id (fun hm=>by have:=f id hm;omega) O];exact h.bd id O
 .rw[oP]at d;have a:id∉ws:=fun k=>d (.inl k);have b:id∉r.ws:=fun k=>d (.inr ⟨k,.inl e⟩);rw[k2 id b O];exact h.keep id a e
 .rw[oP]at d;rcases d with d|⟨d,h2⟩
  .exact h.sub id d
  .by_cases hw:id∈ws
   .exact h.sub id hw
   .obtain⟨ob,h1⟩:=k3 id d;have h2:id<B.c:=by have:=f id d;omega
    exact⟨h2,ob,by rw[<-h.keep id hw h2];exact h1⟩
 .funext id;unfold cJ;by_cases h1:id∈r.ws\/(s.c<=id/\id<r.s.c)
  .rw[ak h1,ak];rw[oP];rcases h1 with h1|h1
   .rcases aB id B.c with h2|h2
    .exact .inl (.inr ⟨h1,.inl h2⟩)
    .have:=f id h1;exact .inr ⟨h2,O⟩
   .exact .inr ⟨O,h1.2⟩
  .rw[ad h1];have i:id∉r.ws:=fun k=>h1 (.inl k);have g:¬(s.c<=id/\id<r.s.c):=fun k=>h1 (.inr k);by_cases h2:id∈ws\/(B.c<=id/\id<s.c)
   .rw[ak h2,ak,k2 id i g];rw[oP];rcases h2 with h2|h2
    .exact .inl (.inl h2)
    .exact .inr ⟨h2.1,O⟩
   .rw[ad h2,ad];rw[oP];rintro((k|k)|k)
    .exact h2 (.inl k)
    .exact i k.1
    .rcases aB id s.c with h3|h3
     .exact h2 (.inr ⟨k.1,h3⟩)
     .exact g ⟨h3,k.2⟩
theorem kG.step{X:bQ}{G N:Nat}{call:c8}(z:f8 X G call){ol:List Oper}{τ':Tr LV}{e:aH}{I H:PH}{σ:St}(h:jq X G call ol o τ s=some r)(hp:iI τ N o.dst r.v=some τ')(b:gx B s ws)(a:kG X G N B τ s ws e I H σ)(hf:lq B.M B.e B.c r.s.c)
  {K:St->PH->Prop} (l:∀e' A H' σ',kG X G N B τ' r.s (iy B.c r.s.c r.ws ws) e' A H' σ'->K σ' H'):np X.P ol o K σ H:=by
 rcases qQ z h with h1|⟨h1,rfl⟩
 .have j:=b.step (X:=X) (G:=G) (ol:=ol) (o:=o) (τ:=τ) (r:=r) ⟨h1.cle,h1.keep,fun id d=>(h1.sub id d).1⟩;have:=h1.ok (M:=cJ B.M ws B.c s.c s.L) a.ge a.rel (fun t _ v hv=>a.sr.tm t v hv) (b.fresh a.out hf) (fun _=>⟨b.hasM.x,b.bd⟩) (fun _ id _ ob k=>b.hasM id ob k);refine this K fun e2 y I2 H2 f q p n m=>l e2 I2 H2 _ ⟨fun g u=>f _ _ (a.ge g u),aH.le_trans a.le f,fun id d=>?_,by rw[<-j.2];exact n,Y a.ile m,(a.sr.mono f).put hp p⟩;have C:=b.cle;have w:=h1.cle;rw[q id O,a.out id O]
 .have i:=Az h1 (e:=e) (σ:=σ) fun t _ v hv=>a.sr.tm t v hv;refine .inl ⟨i,l e I H _ ⟨a.ge,a.le,a.out,?_,a.ile,a.sr.put hp (by simp only[VR])⟩⟩;simpa only[iy]using a.rel
 noncomputable def iC(X:bQ)(G N:Nat)(call:c8)(c0:Nat)(ol:List Oper):List Oper->Tr LV->KS->List Nat->Option (Tr LV×KS×List Nat)
 | [],τ,s,ws=>some (τ,s,ws)
 |o::rem,τ,s,ws=>match jq X G call ol o τ s with
  |none=>none
  |some r=>match iI τ N o.dst r.v with
   |none=>none
   |some a=>iC X G N call c0 ol rem a r.s (iy c0 r.s.c r.ws ws)
def zU{X:bQ}{G:Nat}{hd:List Nat}{call:c8}(b:wX X G hd call){ol:List Oper}(h:jq X G call ol o τ s=some r):s.c<=r.s.c/\(∀id,id∉r.ws->¬(s.c<=id/\id<r.s.c)->r.s.L.get id=s.L.get id)/\∀id∈r.ws,∃ob,s.L.get id=some ob:=by
 rcases qQ b h with g|⟨_,g⟩
 .exact⟨g.cle,g.keep,fun id a=>(g.sub id a).1⟩
 .subst g;exact⟨aW _,fun _ _ _=>rfl,fun id a=>by cases a⟩
def Gg{X:bQ}{G N:Nat}{call:c8}(f:f8 X G call){L:Tr LO}{c:Nat}{ol:List Oper}:∀{rem:List Oper} {τ τ':Tr LV} {s s':KS} {ws ws':List Nat},iC X G N call c ol rem τ s ws=some (τ',s',ws')->l3 L c s ws->l3 L c s' ws'/\s.c<=s'.c
 | [],τ,τ',s,s',ws,ws',h,e=>by simp only[iC,bv,eL]at h;obtain⟨_,rfl,rfl⟩:=h;exact⟨e,aW _⟩
 |o::rem,τ,τ',s,s',ws,ws',h,e=>by
  simp only[iC]at h;split at h
  .cases h
  .rename_i r hr;split at h
   .cases h
   .have d:=zU f hr;obtain⟨a,b⟩:=Gg f h (e.step d);exact⟨a,cO d.1 b⟩
def uQ{X:bQ}{G N:Nat}{call:c8}(g:f8 X G call){B:io}{ol:List Oper}:∀{rem:List Oper} {τ τ':Tr LV} {s s':KS} {ws ws':List Nat},iC X G N call B.c ol rem τ s ws=some (τ',s',ws')->gx B s ws->gx B s' ws'/\s.c<=s'.c
 | [],τ,τ',s,s',ws,ws',h,d=>by simp only[iC,bv,eL]at h;obtain⟨_,rfl,rfl⟩:=h;exact⟨d,aW _⟩
 |o::rem,τ,τ',s,s',ws,ws',h,d=>by
  simp only[iC]at h;split at h
  .cases h
  .rename_i r hr;split at h
   .cases h
   .rename_i i hp;rcases qQ g hr with h1|⟨h1,rfl⟩
    .have e:=d.step (X:=X) (G:=G) (ol:=ol) (o:=o) (τ:=τ) (r:=r) ⟨h1.cle,h1.keep,fun id f=>(h1.sub id f).1⟩;obtain⟨a,b⟩:=uQ g h e.1;exact⟨a,cO h1.cle b⟩
    .exact uQ g h (by simpa only[iy]using d)
def Gf{X:bQ}{G N:Nat}{call:c8}(f:f8 X G call){B:io}{ol:List Oper}{K:St->PH->Prop}:∀{rem:List Oper} {τ τ':Tr LV} {s s':KS} {ws ws':List Nat},iC X G N call B.c ol rem τ s ws=some (τ',s',ws')->gx B s ws->lq B.M B.e B.c s'.c->
  (∀e I H σ,kG X G N B τ' s' ws' e I H σ->K σ H)->∀{e:aH} {I H:PH} {σ:St},kG X G N B τ s ws e I H σ->V2 X.P ol K rem σ H
 | [],τ,τ',s,s',ws,ws',h,d,hf,k,e,I,H,σ,j=>by simp only[iC,bv,eL]at h;obtain⟨rfl,rfl,rfl⟩:=h;exact k _ _ _ _ j
 |o::rem,τ,τ',s,s',ws,ws',h,d,hf,k,e,I,H,σ,j=>by
  simp only[iC]at h;split at h
  .cases h
  .rename_i r hr;split at h
   .cases h
   .rename_i m hp;have key:gx B r.s (iy B.c r.s.c r.ws ws):=by
     rcases qQ f hr with h1|⟨h1,rfl⟩
     .exact(d.step (X:=X) (G:=G) (ol:=ol) (o:=o) (τ:=τ) (r:=r) ⟨h1.cle,h1.keep,fun id g=>(h1.sub id g).1⟩).1
     .simpa only[iy]using d
    have l:=(uQ f h key).2;exact kG.step f hr hp d j (fun id a b=>hf id a O) fun e' n H' σ' i=>Gf f h key hf k i
 noncomputable def xF(m x:Nat):Bool:=Nat.beq (Nat.land (Nat.shiftRight m x) 1) 1
def xG(m x:Nat):xF m x=m.testBit x:=by
 have h1:Nat.land (Nat.shiftRight m x) 1=(m >>> x)&&&1:=rfl;have h2:(m >>> x)&&&1=(m >>> x) % 2:=Nat.and_one_is_mod _;have h3:m.testBit x=decide ((m >>> x) % 2=1):=by rw[Nat.testBit_eq_decide_div_mod_eq,oh]
 rw[xF,h1,h2,h3];by_cases h:(m >>> x) % 2=1
 .rw[h];rfl
 .rw[aS h];cases hb:Nat.beq (m >>> x % 2) 1 with
  |false=>rfl
  |true=>exact absurd (Nat.eq_of_beq_eq_true hb) h
 noncomputable def kZ(M:Tr Nat):List Nat->Nat
 | []=>0
 |d::l=>Nat.lor (Nat.lor (Nat.shiftLeft 1 d) ((M.get d).getD 0)) (kZ M l)
 noncomputable def iF:Nat->List Oper->Tr Nat->Tr Nat
 |_,[],M=>M
 |i,o::l,M=>iF (i+1) l (M.set i (kZ M (eu o)))
 noncomputable def mu:Nat->List Oper->Bool
 |i,[]=>Nat.blt i 2147483647
 |i,o::l=>(eu o).all (fun z=>Nat.blt z i) && mu (i+1) l
 noncomputable def l8(M:Tr Nat)(y x:Nat):Bool:=xF ((M.get y).getD 0) x
structure tN(ol:List Oper)(A:Nat->Nat->Bool):Prop where
 lt:∀y o,ol[y]?=some o->∀z∈eu o,z<y
 up:∀y o,ol[y]?=some o->∀x,A y x=true->x∈eu o\/∃z∈eu o,A z x=true
def HX{M:Tr Nat}:∀{l:List Nat} {x:Nat},xF (kZ M l) x=true->x∈l\/∃z∈l,l8 M z x=true
 | [],x,h=>by rw[xG]at h;simp[kZ]at h
 |d::l,x,h=>by
  rw[xG]at h;have e:kZ M (d::l)=((1 <<< d)|||((M.get d).getD 0))|||kZ M l:=rfl;rw[e,Nat.testBit_or,Nat.testBit_or,im,im]at h;rcases h with (h | h) | h
  .rw[Nat.testBit_shiftLeft]at h;simp only[bu,cu]at h;have h2:x-d=0:=by
    rcases g9 (x-d)with a|a
    .exact a
    .have h3:=h.2;rw[Nat.testBit_one_eq_true_iff_self_eq_zero]at h3;exact h3
   left;have:x=d:=O
   subst this;exact .head _
  .exact .inr ⟨d,.head _,by rw[l8,xG];exact h⟩
  .rcases HX (M:=M) (l:=l) (by rw[xG];exact h)with h|⟨z,h1,h2⟩
   .exact .inl (.tail _ h)
   .exact .inr ⟨z,.tail _ h1,h2⟩
def C5:∀{l:List Oper} {i y:Nat} {o:Oper},mu i l=true->l[y]?=some o->∀z∈eu o,z<i+y
 | [],i,y,o,_,h=>by simp at h
 |o'::l,i,y,o,h,a=>by
  simp only[mu,bu]at h;intro z b;cases y with
  |zero=>simp only[mV,bv]at a;subst a;have:=List.all_eq_true.1 h.1 z b;have:z+1<=i:=Nat.le_of_ble_eq_true this;omega
  |succ y=>have:=C5 h.2 (by simpa using a) z b;omega
def HY:∀{l:List Oper} {i:Nat} {M:Tr Nat},i+l.length<2147483647->(∀j,j<i->(iF i l M).get j=M.get j)/\(mu i l=true->∀y o,l[y]?=some o->(iF i l M).get (i+y)=some (kZ (iF i l M) (eu o)))
 | [],i,M,_=>⟨fun _ _=>rfl,fun _ y o h=>by simp at h⟩
 |o'::l,i,M,hb=>by
  simp only[bf]at hb;obtain⟨h1,h2⟩:=HY (l:=l) (i:=i+1) (M:=M.set i (kZ M (eu o'))) O;have below:∀j,j<i->(iF i (o'::l) M).get j=M.get j:=by intro j m;simp only[iF];rw[h1 j O,Tr.get_set _ _ _ _ O,ad O]
  refine⟨below,fun g y o f=>?_⟩;have a:=g;simp only[mu,bu]at a;cases y with
  |zero=>
   simp only[mV,bv]at f;subst f;have e:(iF i (o'::l) M).get i=some (kZ M (eu o')):=by simp only[iF];rw[h1 i O,Tr.get_set _ _ _ _ O,ak rfl]
   rw[ln,e];have b:∀ds:List Nat,(∀z∈ds,z<i)->kZ M ds=kZ (iF i (o'::l) M) ds:=by
    intro ds
    induction ds with
    |nil=>intro _;rfl
    |cons d ds k=>intro hd;simp only[kZ];rw[below d (hd d (.head _)),k fun z c=>hd z (.tail _ c)]
   rw[b _ fun z c=>by have:=C5 g (y:=0) (o:=o') rfl z c;omega]
  |succ y=>have:=h2 a.2 y o (by simpa using f);simp only[iF];rw[show i+(y+1)=i+1+y by omega];exact this
def HP : ∀ {l : List Oper} {i : Nat}, mu i l = true → i + l.length < 2147483647
  | [], i, h => by have : i + 1 ≤ 2147483647 := Nat.le_of_ble_eq_true h
                   simp only [bA]; omega
  | o :: l, i, h => by
    simp only [mu, bu] at h
    have := HP h.2
    simp only [bf]; omega
def LY{ol:List Oper}(h:mu 0 ol=true):tN ol (l8 (iF 0 ol .lf)) where
 lt:=fun y o a z c=>by have:=C5 h a z c;omega
 up:=fun y o a x b=>by have h2:=(HY (l:=ol) (i:=0) (M:=.lf) (HP h)).2 h y o a;rw[eR]at h2;rw[l8,h2]at b;exact HX b
def tN.listed{ol:List Oper}{A:Nat->Nat->Bool}(e:tN ol A){L:Nat->Prop}(closed:∀y o,ol[y]?=some o->L y->∀z∈eu o,L z):
  ∀(n y:Nat),y<n->∀o,ol[y]?=some o->(∀z∈eu o,L z)->∀x,A y x=true->L x
 |0,y,h=>by omega
 |n+1,y,h=>by
  intro o b hd x i;have j:y<ol.length:=by
   rcases aB y ol.length with h|h
   .exact h
   .rw[fW h]at b;cases b
  rcases e.up y o b x i with h2|⟨z,f,d⟩
  .exact hd x h2
  .have g:=e.lt y o b z f;have c:z<ol.length:=O;have a:ol[z]?=some ol[z]:=aL c;exact e.listed closed n z O _ a (closed z _ a (hd z f)) x d
structure j2 where
 i:Nat
 fp:List Nat
 ws:List Nat
 lo:Nat
 hi:Nat
 cl:Bool
 noncomputable def j2.dom(t:j2)(id:Nat):Bool:=t.ws.contains id || (decide (t.lo<=id) && decide (id<t.hi))
 noncomputable def fK(i:Nat)(p:KS×cA):j2:=⟨i,p.2.fp,p.2.ws,p.1.c,p.2.s.c,p.2.cl⟩
 noncomputable def j2.idle(t:j2):Bool:=t.fp.isEmpty && t.ws.isEmpty && t.lo == t.hi && !t.cl
 noncomputable def DG(lo hi:Nat):List Nat:=(List.range (hi-lo)).map (lo+·)
variable{id:Nat}
def SK{lo hi:Nat}:id∈DG lo hi<->lo<=id/\id<hi:=by
 simp only[DG,mW,List.mem_range];constructor
 .rintro⟨a,h,rfl⟩;omega
 .rintro⟨a,b⟩;exact⟨id-lo,O,O⟩
 noncomputable def nE(c:Nat->Bool):List (Nat×KS×cA)->List Nat
 | []=>[]
 |(i,p)::l=>if c i=true then nE c l else p.2.ws++(DG p.1.c p.2.s.c++nE c l)
def H4{c:Nat->Bool}:∀{l:List (Nat×KS×cA)} {q:Nat×KS×cA},q∈l->c q.1=false->∀{id:Nat},(fK 0 q.2).dom id=true->id∈nE c l
 | [],q,h,_,_,_=>by cases h
 |(i,p)::l,q,h,a,id,hd=>by
  simp only[nE];rcases List.mem_cons.1 h with rfl|h
  .simp only at a;rw[a];simp only[iN,gT,gS,SK];simp only[j2.dom,fK,im,List.contains_iff_mem,bu,cu]at hd;rcases hd with hd|hd
   .exact .inl hd
   .exact .inr (.inl ⟨eF hd.1,eF hd.2⟩)
  .have:=H4 h a hd;split
   .exact this
   .exact eo _ (eo _ this)
 noncomputable def iB(X:bQ)(G N:Nat)(call:c8)(ol:List Oper)(cl:Nat->Nat->Bool):Nat->List (Nat×KS×cA)->List Oper->Tr LV->KS->Option (List (KS×cA)×Tr LV×KS)
 |_,_,[],τ,s=>some ([],τ,s)
 |i,a,o::rem,τ,s=>match jq X G (nF (nE (cl i) a) call) ol o τ s with
  |none=>none
  |some r=>match iI τ N o.dst r.v with
   |none=>none
   |some c=>match iB X G N call ol cl (i+1) ((i,s,r)::a) rem c r.s with
    |none=>none
    |some (l,b,d)=>some ((s,r)::l,b,d)
def Gd{X:bQ}{G N:Nat}{call:c8}{ol:List Oper}{cl:Nat->Nat->Bool}:∀{rem:List Oper} {k:Nat} {acc:List (Nat×KS×cA)} {τ τ':Tr LV} {s s':KS} {l:List (KS×cA)},iB X G N call ol cl k acc rem τ s=some (l,τ',s')->
  ∃(T:Nat->Tr LV) (S:Nat->KS) (R:Nat->cA) (hd:Nat->List Nat),T 0=τ/\S 0=s/\T rem.length=τ'/\S rem.length=s'/\l.length=rem.length/\(∀i,i<rem.length->l[i]?=some (S i,R i))/\
   (∀i o,rem[i]?=some o->jq X G (nF (hd i) call) ol o (T i) (S i)=some (R i)/\iI (T i) N o.dst (R i).v=some (T (i+1))/\S (i+1)=(R i).s)/\
   (∀i j,i<j->j<rem.length->cl (k+j) (k+i)=false->∀id,(fK 0 (S i,R i)).dom id=true->id∈hd j)/\
   (∀j,j<rem.length->∀q∈acc,cl (k+j) q.1=false->∀id,(fK 0 q.2).dom id=true->id∈hd j)
 | [],k,acc,τ,τ',s,s',l,h=>by simp only[iB,bv,eL]at h;obtain⟨rfl,rfl,rfl⟩:=h;exact⟨fun _=>τ,fun _=>s,fun _=>⟨.v undef,s,[],[],false⟩,fun _=>[],rfl,rfl,rfl,rfl,rfl,fun i hi=>by simp at hi,fun i o e=>by simp at e,fun i j _ b=>by simp at b,fun j b=>by simp at b⟩
 |o::rem,k,acc,τ,τ',s,s',l,h=>by
  simp only[iB]at h;split at h
  .cases h
  .rename_i r hr;split at h
   .cases h
   .rename_i z hp;split at h
    .cases h
    .rename_i l' y A d;cases h
     obtain⟨T,S,R,hd,h1,h2,h3,x,w,u,t,p,m⟩:=Gd d;have f:∀j:Nat,k+(j+1)=k+1+j:=fun j=>by omega
     refine⟨fun|0=>τ|i+1=>T i,fun|0=>s|i+1=>S i,fun|0=>r|i+1=>R i,fun|0=>nE (cl k) acc|i+1=>hd i,rfl,rfl,h3,x,by simp[w],fun i hi=>?_,fun i o' e=>?_,fun i j n b c id a=>?_,fun j b q g c id a=>?_⟩
     .cases i with
      |zero=>rfl
      |succ i=>simpa using u i (by simpa using hi)
     .cases i with
      |zero=>simp only[mV,bv]at e;subst e;exact⟨hr,by simp only;rw[h1];exact hp,h2⟩
      |succ i=>exact t i o' (by simpa using e)
     .cases j with
      |zero=>omega
      |succ j=>
       rw[f j]at c;cases i with
       |zero=>exact m j (by simpa using b) (k,s,r) (.head _) (by simpa using c) id a
       |succ i=>rw[f i]at c;exact p i j O (by simpa using b) c id a
     .cases j with
      |zero=>exact H4 g (by simpa using c) a
      |succ j=>rw[f j]at c;exact m j (by simpa using b) q (.tail _ g) c id a
 noncomputable def j4:Nat->List (KS×cA)->List j2
 |_,[]=>[]
 |i,p::l=>if (fK i p).idle then j4 (i+1) l else fK i p::j4 (i+1) l
 noncomputable def vE(x y:j2):Bool:=
 y.ws.all (fun id=>!x.dom id) && (y.cl || y.fp.all fun id=>!x.dom id) && (x.cl || x.fp.all fun id=>!y.ws.contains id) && (!x.cl || y.ws.isEmpty)
 noncomputable def nO(cl:Nat->Nat->Bool):List j2->Bool
 | []=>true
 | x::l=>l.all (fun y=>cl y.i x.i || vE x y) && nO cl l
 noncomputable def Iv(ol:List Oper)(x y:Oper):Bool:=(match x.dst with|some t=>y.dst != some t && !(kW ol y).contains t|none=>true) && (match y.dst with|some t=>!(kW ol x).contains t|none=>true)
 noncomputable def zm(ol:List Oper)(cl:Nat->Nat->Bool):Bool:=
 (List.range ol.length).all fun j=>(List.range j).all fun i=>cl j i || (match ol[i]?,ol[j]? with | some x,some y=>Iv ol x y | _,_=>false)
def E7:∀{l:List (KS×cA)} {k i:Nat} {p:KS×cA},l[i]?=some p->(fK (k+i) p).idle=false->fK (k+i) p∈j4 k l
 | [],k,i,p,h,_=>by simp at h
 |q::l,k,0,p,h,hi=>by simp only[mV,bv]at h;subst h;simp only[j4];rw[ln]at hi |-;rw[ad (by simp[hi])];exact .head _
 |q::l,k,i+1,p,h,hi=>by
  have a:k+(i+1)=k+1+i:=O;have:=E7 (k:=k+1) (l:=l) (i:=i) (p:=p) (by simpa using h) (by rw[<-a];exact hi);rw[a];simp only[j4];split
  .exact this
  .exact .tail _ this
def Iu{cl:Nat->Nat->Bool}:∀{l:List (KS×cA)} {k i j:Nat} {p q:KS×cA},nO cl (j4 k l)=true->i<j->l[i]?=some p->l[j]?=some q->
  cl (k+j) (k+i)=true\/vE (fK (k+i) p) (fK (k+j) q)=true
 | [],k,i,j,p,q,_,_,h,_=>by simp at h
 |r::l,k,i,j,p,q,h,s,hp,o=>by
  by_cases hi:(fK (k+i) p).idle=true
  .right
   simp only[j2.idle,bu,List.isEmpty_iff,beq_iff_eq,g8]at hi;obtain⟨⟨⟨a,b⟩,c⟩,d⟩:=hi;have f:∀id,(fK (k+i) p).dom id=false:=by intro id;simp only[j2.dom,b];rw[c];simp<;>omega
   simp only[vE,a,b,c,d,f];simp
  .by_cases n:(fK (k+j) q).idle=true
   .right
    simp only[j2.idle,bu,List.isEmpty_iff,beq_iff_eq,g8]at n;obtain⟨⟨⟨a,b⟩,c⟩,d⟩:=n;simp only[vE,a,b,d];simp
   .cases i with
    |zero=>
     cases j with
     |zero=>omega
     |succ j=>
      simp only[mV,bv]at hp;subst hp;have m:l[j]?=some q:=by simpa using o
      have g:k+(j+1)=k+1+j:=O;have e:=E7 (k:=k+1) m (by rw[<-g];simpa using n);simp only[ln]at hi |-;simp only[j4]at h;rw[ad hi]at h;simp only[nO,bu]at h;have:=List.all_eq_true.1 h.1 _ e;simp only[im,fK]at this;rw[g];exact this
    |succ i=>
     cases j with
     |zero=>omega
     |succ j=>
      have g:k+(j+1)=k+1+j:=O;have e2:k+(i+1)=k+1+i:=O;have t:nO cl (j4 (k+1) l)=true:=by
       simp only[j4]at h;split at h
       .exact h
       .simp only[nO,bu]at h;exact h.2
      rw[g,e2];exact Iu t O (by simpa using hp) (by simpa using o)
 noncomputable def last(p:Nat->Bool):Nat->Option Nat
 |0=>none
 |n+1=>if p n then some n else last p n
def vv {p q : Nat → Bool} {j : Nat} : ∀ {n : Nat}, j ≤ n → (∀ i, i < j → p i = q i) → (∀ i, j ≤ i → i < n → p i = false) → last p n = last q j
  | 0, h, _, _ => by have : j = 0 := by omega
                     subst this; rfl
  | n + 1, h, h1, h2 => by
    rcases aB n j with k | k
    · have : j = n + 1 := by omega
      subst this
      simp only [last, h1 n k]
      split
      · rfl
      · exact vv (aW n) (fun i hi => h1 i O) (fun i a b => by omega)
    · simp only [last, h2 n k O]
      exact vv k h1 fun i a b => h2 i a O
def sO{p q:Nat->Bool}{n:Nat}(h:∀i,i<n->p i=q i):last p n=last q n:=vv (aW n) h fun i a b=>by omega
def CX{p:Nat->Bool}:∀{n i:Nat},last p n=some i->i<n/\p i=true
 |0,i,h=>by cases h
 |n+1,i,h=>by
  simp only[last]at h;split at h
  .rename_i hp;cases h;exact⟨O,hp⟩
  .have:=CX h;exact⟨O,this.2⟩
def CW{p:Nat->Bool}{j:Nat}:∀{n:Nat},j<n->p j=true->(∀i,j<i->i<n->p i=false)->last p n=some j
 |0,h,_,_=>by omega
 |n+1,h,h1,h2=>by
  simp only[last];rcases aB j n with k|k
  .rw[h2 n k O];simp only[iN,gT];exact CW k h1 fun i a b=>h2 i a O
  .have:j=n:=by omega
   subst this;rw[h1];rfl
structure jZ(X:bQ)(G N:Nat)(call:c8)(ol:List Oper)(hd:Nat->List Nat)(T:Nat->Tr LV)(S:Nat->KS)(R:Nat->cA):Prop where
 st:∀i o,ol[i]?=some o->jq X G (nF (hd i) call) ol o (T i) (S i)=some (R i)/\iI (T i) N o.dst (R i).v=some (T (i+1))/\S (i+1)=(R i).s
 noncomputable def gN(ol:List Oper)(t:Tmp)(i:Nat):Bool:=(ol[i]?.bind (·.dst)) == some t
 noncomputable def dS(S:Nat->KS)(R:Nat->cA)(id:Nat)(i:Nat):Bool:=(fK i (S i,R i)).dom id
 noncomputable def TL(ol:List Oper)(T:Nat->Tr LV)(R:Nat->cA)(lst:Nat->Bool)(t:Tmp):Option LV:=
 match last (fun i=>lst i && gN ol t i) ol.length with|some i=>some (R i).v|none=>(T 0).get t
 noncomputable def ML(ol:List Oper)(S:Nat->KS)(R:Nat->cA)(M:LM)(lst:Nat->Bool):LM:=fun id=>
 match last (fun i=>lst i && dS S R id i) ol.length with|some i=>(S (i+1)).L.get id|none=>M id
def ly{S:Nat->KS}{R:Nat->cA}{i:Nat}:dS S R id i=true<->id∈(R i).ws\/((S i).c<=id/\id<(R i).s.c):=by
 simp only[dS,j2.dom,fK,im,bu,List.contains_iff_mem];constructor
 .rintro(h|⟨h,k⟩)
  .exact .inl h
  .exact .inr ⟨eF h,eF k⟩
 .rintro(h|⟨h,k⟩)
  .exact .inl h
  .exact .inr ⟨ar h,ar k⟩
def F5{S:Nat->KS}{R:Nat->cA}{i:Nat}:dS S R id i=false<->id∉(R i).ws/\¬((S i).c<=id/\id<(R i).s.c):=by rw[<-Bool.not_eq_true,ly];exact not_or
section
variable {X:bQ} {G N:Nat} {call:c8} {ol:List Oper} {hd:Nat->List Nat} {T:Nat->Tr LV} {S:Nat->KS} {R:Nat->cA}
def jZ.info(e:f8 X G call)(k:jZ X G N call ol hd T S R){i:Nat}(hi:i<ol.length):(S i).c<=(S (i+1)).c/\(∀id,dS S R id i=false->(S (i+1)).L.get id=(S i).L.get id)/\(∀id∈(R i).ws,∃ob,(S i).L.get id=some ob):=by
 have d:ol[i]?=some ol[i]:=aL hi;obtain⟨h1,h2,h3⟩:=k.st i _ d;have b:∀id,dS S R id i=false->id∉(R i).ws/\¬((S i).c<=id/\id<(R i).s.c):=by intro id h;exact F5.1 h
 rcases qQ (u6 e _) h1 with g|⟨_,g⟩
 .rw[h3];exact⟨g.cle,fun id a=>g.keep id (b id a).1 (b id a).2,fun id a=>(g.sub id a).1⟩
 .rw[h3,g];exact⟨aW _,fun _ _=>rfl,fun id a=>by cases a⟩
def jZ.mono (hC : f8 X G call) (k : jZ X G N call ol hd T S R) : ∀ {j i : Nat}, i ≤ j → j ≤ ol.length → (S i).c ≤ (S j).c
  | 0, i, h, _ => by have : i = 0 := by omega
                     subst this; exact aW _
  | j + 1, i, h, hj => by
    rcases aB j i with h1 | h1
    · have : i = j + 1 := by omega
      subst this; exact aW _
    · exact cO (k.mono hC h1 O) (k.info hC O).1
def jZ.tm(k:jZ X G N call ol hd T S R)(t:Tmp):∀{j:Nat},j<=ol.length->(T j).get t=match last (gN ol t) j with|some i=>some (R i).v|none=>(T 0).get t
 |0,_=>rfl
 |j+1,c=>by
  have b:ol[j]?=some ol[j]:=aL O;obtain⟨h1,h2,h3⟩:=k.st j _ b;have a:=k.tm t (j:=j) O;simp only[last,gN,b,jz];cases hd:ol[j].dst with
  |none=>rw[hd]at h2;simp only[iI,bv]at h2;rw[<-h2,a];rfl
  |some d=>
   rw[hd]at h2;simp only[iI]at h2;split at h2
   .rw[Tr.get_put h2];by_cases e:t=d
    .subst e;simp
    .rw[ad e,a];have:(some d == some t)=false:=by simpa using fun h=>e h.symm
     rw[this];rfl
   .cases h2
def jZ.mem(a:f8 X G call)(k:jZ X G N call ol hd T S R)(id:Nat):∀{j:Nat},j<=ol.length->(S j).L.get id=match last (dS S R id) j with|some i=>(S (i+1)).L.get id|none=>(S 0).L.get id
 |0,_=>rfl
 |j+1,c=>by
  have b:=k.mem a id (j:=j) O;simp only[last];cases hd:dS S R id j with
  |true=>rfl
  |false=>rw[(k.info a O).2.1 id hd,b];rfl
def jZ.bd(b:f8 X G call)(k:jZ X G N call ol hd T S R)(hb:∀id,(S 0).c<=id->(S 0).L.get id=none):∀{j:Nat},j<=ol.length->∀id,(S j).c<=id->(S j).L.get id=none
 |0,_,id,h=>hb id h
 |j+1,e,id,h=>by
  have hi:=k.info b (i:=j) O;have a:=k.bd b hb (j:=j) O;have d:ol[j]?=some ol[j]:=aL O;have h3:=(k.st j _ d).2.2;cases hd:dS S R id j with
  |false=>rw[hi.2.1 id hd];exact a id O
  |true=>
   exfalso;rcases ly.1 hd with hd|hd
   .obtain⟨ob,h1⟩:=hi.2.2 id hd;rw[a id O]at h1;cases h1
   .rw[h3]at h;omega
structure wY(hd:Nat->List Nat)(ol:List Oper)(S:Nat->KS)(R:Nat->cA)(i j:Nat):Prop where
 d1:∀t,gN ol t i=true->gN ol t j=false
 d2:∀t o,ol[j]?=some o->gN ol t i=true->t∉kW ol o
 d3:∀t o,ol[i]?=some o->gN ol t j=true->t∉kW ol o
 m1:∀id∈(R j).ws,dS S R id i=false
 m3:(R j).cl=false->∀id∈(R j).fp,dS S R id i=false
 m4:(R i).cl=false->∀id∈(R i).fp,id∉(R j).ws
 m5:(R j).cl=true->∀id,dS S R id i=true->id∈hd j
 m6:(R i).cl=true->(R j).ws=[]
def OF{cl:Nat->Nat->Bool}{l:List (KS×cA)}(q:∀i,i<ol.length->l[i]?=some (S i,R i))(h1:nO cl (j4 0 l)=true)(h2:zm ol cl=true){i j:Nat}(f:i<j)(m:j<ol.length)(p:cl j i=false)(r:∀id,dS S R id i=true->id∈hd j):wY hd ol S R i j:=by
 have hm:=Iu h1 f (q i O) (q j m);simp only[eR,p,iN,false_or]at hm;have ht:=List.all_eq_true.1 (List.all_eq_true.1 h2 j (List.mem_range.2 m)) i (List.mem_range.2 f);have c:ol[i]?=some ol[i]:=aL O;have b:ol[j]?=some ol[j]:=aL m;rw[p,c,b]at ht;simp only[ju,Iv,bu]at ht;simp only[vE,bu,im,lm,g8,fK]at hm;obtain⟨⟨⟨a1,a2⟩,a3⟩,a5⟩:=hm;have n:∀t k o,ol[k]?=some o->gN ol t k=true->o.dst=some t:=by intro t k o d h;simp only[gN,d,jz,beq_iff_eq]at h;exact h
 refine⟨fun t h=>?_,fun t o d h=>?_,fun t o d h=>?_,fun id a=>a1 id a,fun e id a=>?_,fun e id a=>?_,fun e=>r,fun e=>?_⟩
 .have g:=n t i _ c h;rw[g]at ht;simp only[bne_iff_ne,bu,g8]at ht;simp only[gN,b,jz];simpa using ht.1.1
 .rw[b]at d;cases d;have g:=n t i _ c h;rw[g]at ht;simp only[bne_iff_ne,bu,g8]at ht;simpa using ht.1.2
 .rw[c]at d;cases d;have g:=n t j _ b h;rw[g]at ht;simp only[g8]at ht;simpa using ht.2
 .rcases a2 with a2|a2
  .rw[e]at a2;cases a2
  .exact a2 id a
 .rcases a3 with a3|a3
  .rw[e]at a3;cases a3
  .simpa using a3 id a
 .rcases a5 with a5|a5
  .rw[e]at a5;cases a5
  .simpa using a5
end
open Go Go.Sx
structure DI(X:bQ)(G N:Nat)(ol:List Oper)(T:Nat->Tr LV)(S:Nat->KS)(R:Nat->cA)(B:io)(M:LM)(lst:Nat->Bool)(e:aH)(I H:PH)(σ:St):Prop where
 ge:GE G e
 le:B.e.le e
 fr:∀i,i<ol.length->lst i=false->∀id,(S i).c<=id->id<(S (i+1)).c->e id=none
 out:∀id,¬(B.c<=id/\id<(S ol.length).c)->e id=B.e id
 rel:cD X e (ML ol S R M lst) I H
 ile:B.I.le I
 bx:σ.bx=[]
 len:σ.tm.length=N
 tm:∀t v,TL ol T R lst t=some v->∃y,eW σ.tm t=.v y/\VR e v y
section
variable {X:bQ} {G N:Nat} {call:c8} {ol:List Oper} {hd:Nat->List Nat} {T:Nat->Tr LV} {S:Nat->KS} {R:Nat->cA}
theorem DI.step (hC : f8 X G call) (k : jZ X G N call ol hd T S R) {B : io} {M : LM} (h0 : qd M (S 0).L) (hb : ∀ id, (S 0).c ≤ id → (S 0).L.get id = none) (b0 : ∀ id, (S 0).c ≤ id → id < (S ol.length).c → M id = none) (b2 : B.c ≤ (S 0).c)
    {lst : Nat → Bool} {j : Nat} {o : Oper} (ho : ol[j]? = some o) (hj : lst j = false) (free : ∀ i, i < ol.length → i ≠ j → (i < j → lst i = false → wY hd ol S R i j) ∧ (j < i → lst i = true → wY hd ol S R j i))
    {e : aH} {I H : PH} {σ : St} (hD : DI X G N ol T S R B M lst e I H σ) {K : St → PH → Prop} (hK : ∀ e' I' H' σ', DI X G N ol T S R B M (fun i => decide (i = j) || lst i) e' I' H' σ' → K σ' H') : np X.P ol o K σ H := by
  have ac : j < ol.length := by
    rcases aB j ol.length with h | h
    · exact h
    · rw [fW h] at ho; cases ho
  obtain ⟨s1, s2, s3⟩ := k.st j o ho
  have inf := k.info hC ac
  have hT : ∀ t ∈ kW ol o, ∀ v, (T j).get t = some v → ∃ y, eW σ.tm t = .v y ∧ VR e v y := by
    intro t ht v hv
    refine hD.tm t v ?_
    rw [k.tm t (fo ac)] at hv
    unfold TL
    rw [vv (q := gN ol t) (j := j) (fo ac) (fun i hi => ?_) (fun i b1 bc => ?_)]
    · exact hv
    · cases hl : lst i with
      | true => simp
      | false =>
        have f := (free i O O).1 hi hl
        cases hd : gN ol t i with
        | false => simp
        | true => exact absurd ht (f.d2 t o ho hd)
    · by_cases e1 : i = j
      · subst e1; simp [hj]
      · cases hl : lst i with
        | false => simp
        | true =>
          have f := (free i bc e1).2 O hl
          cases hd : gN ol t i with
          | false => simp
          | true => exact absurd ht (f.d3 t o ho hd)
  have tmNext : ∀ {e' : aH} {y : Value}, e.le e' → VR e' (R j).v y → ∀ t v, TL ol T R (fun i => decide (i = j) || lst i) t = some v → ∃ z, eW (σ.put o.dst (.v y)).tm t = .v z ∧ VR e' v z := by
    intro e' y ba hy t v hv
    unfold TL at hv
    cases hd : gN ol t j with
    | true =>
      have e1 : o.dst = some t := by simp only [gN, ho, jz, beq_iff_eq] at hd; exact hd
      rw [CW (j := j) ac (by simp [hd]) (fun i a b => by
        cases hl : lst i with
        | false => have : i ≠ j := by omega
                   simp [this, hl]
        | true =>
          have f := (free i b O).2 a hl
          rw [f.d1 t hd]; simp)] at hv
      simp only [bv] at hv
      subst hv
      rw [e1] at s2 ⊢
      simp only [iI] at s2
      split at s2
      · rename_i bs
        refine ⟨y, ?_, hy⟩
        have a9 : t < σ.tm.length := by rw [hD.len]; exact bs
        simp [St.put, Ci, a9]
      · cases s2
    | false =>
      have a6 : o.dst ≠ some t := by intro h; simp only [gN, ho, jz, h, beq_self_eq_true] at hd; cases hd
      rw [sO (q := fun i => lst i && gN ol t i) (fun i _ => by
        by_cases e1 : i = j
        · subst e1; simp [hd]
        · simp [e1])] at hv
      obtain ⟨z, g1, g2⟩ := hD.tm t v hv
      refine ⟨z, ?_, g2.mono ba⟩
      cases ap : o.dst with
      | none => exact g1
      | some d =>
        simp only [St.put, Ci]
        rw [ad (fun h => a6 (by rw [ap, h.1]))]
        exact g1
  have memNext : cJ (ML ol S R M lst) (R j).ws (S j).c (R j).s.c (R j).s.L = ML ol S R M (fun i => decide (i = j) || lst i) := by
    funext id
    unfold cJ
    by_cases hd : id ∈ (R j).ws ∨ ((S j).c ≤ id ∧ id < (R j).s.c)
    · rw [ak hd]
      unfold ML
      rw [CW (j := j) ac (by rw [ly.2 hd]; simp) (fun i a b => by
        cases hl : lst i with
        | false => have : i ≠ j := by omega
                   simp [this, hl]
        | true =>
          have f := (free i b O).2 a hl
          have : dS S R id i = false := by
            cases al : dS S R id i with
            | false => rfl
            | true =>
              exfalso
              have a2 := k.info hC b
              have a7 := k.mono hC (i := j + 1) (j := i) O O
              rcases ly.1 al with h1 | h1
              · have := f.m1 id h1
                rw [ly.2 hd] at this; cases this
              · rcases hd with h2 | h2
                · obtain ⟨ob, h3⟩ := inf.2.2 id h2
                  rw [k.bd hC hb (fo ac) id (by have := inf.1; omega)] at h3; cases h3
                · rw [s3] at a7; omega
          rw [this]; simp)]
      simp only [s3]
    · rw [ad hd]
      have bo : dS S R id j = false := by
        cases h : dS S R id j with
        | false => rfl
        | true => exact absurd (ly.1 h) hd
      unfold ML
      rw [sO (p := fun i => (decide (i = j) || lst i) && dS S R id i) (q := fun i => lst i && dS S R id i) (fun i _ => by
        by_cases e1 : i = j
        · subst e1; simp [bo]
        · simp [e1])]
  have putLen : ∀ (y : Value), (σ.put o.dst (.v y)).bx = [] ∧ (σ.put o.dst (.v y)).tm.length = N := by
    intro y
    cases ap : o.dst with
    | none => exact ⟨hD.bx, hD.len⟩
    | some d => exact ⟨hD.bx, by simp [St.put, wv, hD.len]⟩
  rcases qQ (u6 hC _) s1 with g | ⟨g1, g2⟩
  ·
    have ag : lq (ML ol S R M lst) e (S j).c (R j).s.c := by
      intro id h1 h2
      refine ⟨?_, hD.fr j ac hj id h1 (by rw [s3]; exact h2)⟩
      have am : last (fun i => lst i && dS S R id i) ol.length = none := by
        cases hl : last (fun i => lst i && dS S R id i) ol.length with
        | none => rfl
        | some i =>
          exfalso
          obtain ⟨a, b⟩ := CX hl
          simp only [bu] at b
          have bb : i ≠ j := by intro h; subst h; rw [hj] at b; cases b.1
          have a2 := k.info hC a
          rcases ly.1 b.2 with h3 | h3
          · obtain ⟨ob, h4⟩ := a2.2.2 id h3
            rcases aB i j with h5 | h5
            · have := k.mono hC (i := i) (j := j) O O
              rw [k.bd hC hb (fo a) id O] at h4; cases h4
            · have f := (free i a bb).2 O b.1
              have := f.m1 id h3
              rw [ly.2 (.inr ⟨h1, h2⟩)] at this; cases this
          · have a0 : ol[i]? = some ol[i] := aL a
            have h3i := (k.st i _ a0).2.2
            rcases aB i j with h5 | h5
            · have := k.mono hC (i := i + 1) (j := j) O O
              rw [h3i] at this; omega
            · have := k.mono hC (i := j + 1) (j := i) O O
              rw [s3] at this; omega
      unfold ML
      rw [am]
      have m1 := k.mono hC (i := 0) (j := j) O O
      have m2 := k.mono hC (i := j + 1) (j := ol.length) O O
      rw [s3] at m2
      exact b0 id O O
    have agree : ∀ id ob, (S j).L.get id = some ob → (∀ i, i < j → lst i = false → dS S R id i = false) → (∀ i, j < i → i < ol.length → lst i = true → dS S R id i = false) → ML ol S R M lst id = some ob := by
      intro id ob aa q1 q2
      rw [k.mem hC id (fo ac)] at aa
      unfold ML
      rw [vv (q := dS S R id) (j := j) (fo ac) (fun i hi => ?_) (fun i a b => ?_)]
      · split at aa
        · rename_i i hi; exact aa
        · exact h0 id ob aa
      · cases hl : lst i with
        | true => simp
        | false => rw [q1 i hi hl]; simp
      · by_cases e1 : i = j
        · subst e1; simp [hj]
        · cases hl : lst i with
          | false => simp
          | true => rw [q2 i O b hl]; simp
    have a1 := g.ok (M := ML ol S R M lst) hD.ge hD.rel hT ag (fun aq => ⟨fun id ob aa a5 => agree id ob aa
      (fun i hi hl => by
        cases al : dS S R id i with
        | false => rfl
        | true => exact absurd (((free i O O).1 hi hl).m5 aq id al) a5)
      (fun i a b hl => by
        have f := (free i b O).2 a hl
        have hw := f.m6 aq
        cases al : dS S R id i with
        | false => rfl
        | true =>
          exfalso
          rcases ly.1 al with h1 | h1
          · rw [hw] at h1; cases h1
          · have := k.mono hC (i := j) (j := i) O O
            rw [k.bd hC hb (fo ac) id O] at aa; cases aa), k.bd hC hb (fo ac)⟩)
      (fun aq id a3 ob aa => by
          refine agree id ob aa (fun i hi hl => ((free i O O).1 hi hl).m3 aq id a3) (fun i a b hl => ?_)
          have f := (free i b O).2 a hl
          cases al : dS S R id i with
          | false => rfl
          | true =>
            exfalso
            rcases ly.1 al with h1 | h1
            · exact f.m4 aq id a3 h1
            · have := k.mono hC (i := j) (j := i) O O
              rw [k.bd hC hb (fo ac) id O] at aa; cases aa)
    refine a1 K fun e2 y I2 H2 q1 q2 q3 q4 q5 => hK e2 I2 H2 _ ?_
    refine ⟨fun g hg => q1 _ _ (hD.ge g hg), aH.le_trans hD.le q1, fun i hi hl id a b => ?_, fun id aa => ?_, by rw [← memNext]; exact q4, Y hD.ile q5, (putLen y).1, (putLen y).2, tmNext q1 q3⟩
    · simp only [Bool.or_eq_false_iff, pZ] at hl
      have a0 : ol[i]? = some ol[i] := aL hi
      have h3i := (k.st i _ a0).2.2
      rw [q2 id (by
        intro hh
        rcases aB i j with h5 | h5
        · have := k.mono hC (i := i + 1) (j := j) O O; omega
        · have := k.mono hC (i := j + 1) (j := i) O O; rw [s3] at this; omega)]
      exact hD.fr i hi hl.2 id a b
    · have m1 := k.mono hC (i := 0) (j := j) O O
      have m2 := k.mono hC (i := j + 1) (j := ol.length) O O
      rw [s3] at m2
      rw [q2 id O]
      exact hD.out id aa
  ·
    have a4 := Az g1 (e := e) (σ := σ) fun t ht => hT t (C1 ht)
    have hv : (R j).v = .v undef := by rw [g2]
    refine .inl ⟨a4, hK e I H _ ⟨hD.ge, hD.le, fun i hi hl id a b => ?_, hD.out, ?_, hD.ile, (putLen _).1, (putLen _).2, tmNext (aH.le_refl e) (by rw [hv]; simp only [VR])⟩⟩
    · simp only [Bool.or_eq_false_iff] at hl; exact hD.fr i hi hl.2 id a b
    · rw [← memNext]
      have : cJ (ML ol S R M lst) (R j).ws (S j).c (R j).s.c (R j).s.L = ML ol S R M lst := by rw [g2]; exact Dt _ _ _
      rw [this]; exact hD.rel
end
open Go Go.Sx
section
variable {X:bQ} {G N:Nat} {call:c8} {hd:Nat->List Nat} {T:Nat->Tr LV} {S:Nat->KS} {R:Nat->cA}
def L6{r:Option Nat}(hC:f8 X G call){ops:Array Oper}(k:jZ X G N call ops.toList hd T S R){B:io}{M:LM}(h0:qd M (S 0).L)(hb:∀id,(S 0).c<=id->(S 0).L.get id=none)(a7:∀id,(S 0).c<=id->id<(S ops.toList.length).c->M id=none)(a9:B.c<=(S 0).c)
  {cl:Nat->Nat->Bool} (am:tN ops.toList cl) (V:∀i j,i<j->j<ops.toList.length->cl j i=false->wY hd ops.toList S R i j) {n0:Nat} {H0:PH} {w0:World} (hn:n0=w0.heap.size) {K:St->PH->Prop}
  (hK:∀e I H σ,DI X G N ops.toList T S R B M (fun _=>true) e I H σ->K σ H) :
  ∀(s:Nat) (κ:List Nat) (listed:Array Bool) {e:aH} {I H:PH} {σ:St} {a:Act} {w:World},κ.length<=s->listed.size=ops.size->κ.Nodup->(∀i,i∈κ<->i<ops.size/\listed.getD i true=false)->
   (∀y o,ops.toList[y]?=some o->listed.getD y false=true->∀z∈eu o,listed.getD z false=true)->DI X G N ops.toList T S R B M (fun i=>listed.getD i false) e I H σ->bN H0 w0 H w->Sx.G n0 σ H a w->wpAnyIn (FR r) 0 X.P .any ops (QK n0 H0 w0 K) s listed a w:=by
 have b:∀(listed:Array Bool) (i:Nat),i∈Region.ready .any ops listed<->i<ops.size/\listed.getD i true=false/\∃o,ops[i]?=some o/\∀z∈eu o,listed.getD z false=true:=by
  intro listed i;simp only[Region.ready,jx,List.mem_range,bu,g8];constructor
  .rintro⟨h1,h2,h3⟩;refine⟨h1,h2,?_⟩;cases ho:ops[i]? with
   |none=>rw[ho]at h3;cases h3
   |some o=>rw[ho]at h3;simp only[fO,lp]at h3;refine⟨o,rfl,fun z hz=>?_⟩;simp only[eu,mW,jx]at hz;obtain⟨e,⟨he,hb⟩,rfl⟩:=hz;have:=Array.all_eq_true'.1 h3 e (by simpa using he);simpa[hb]using this
  .rintro⟨h1,h2,o,ho,h3⟩;refine⟨h1,h2,?_⟩;rw[ho];simp only[fO,lp];refine Array.all_eq_true'.2 fun e he=>?_;cases hb:Region.binds .any e with
   |false=>rfl
   |true=>have:=h3 e.on (by simp only[eu,mW,jx];exact⟨e,⟨by simpa using he,hb⟩,rfl⟩);simpa using this
 have sizeol:ops.size=ops.toList.length:=(kA).symm;have Z:∀i:Nat,ops[i]?=ops.toList[i]?:=fun i=>by simp
 have C:∀(κ:List Nat) (listed:Array Bool),(∀i,i∈κ<->i<ops.size/\listed.getD i true=false)->listed.size=ops.size->Region.ready .any ops listed=[]->κ=[]:=by
  intro κ listed hm A hr;have key:∀n i,i<n->i<ops.size->listed.getD i true=true:=by
   intro n
   induction n with
   |zero=>intro i h;omega
   |succ n ih=>
    intro i hi a1;cases u:listed.getD i true with
    |true=>rfl
    |false=>
     exfalso;have U:ops[i]?=some ops[i]:=ll a1;have:i∈Region.ready .any ops listed:=(b listed i).2 ⟨a1,u,ops[i],U,fun z hz=>by have ba:=am.lt i _ (by rw[<-Z i];exact U) z hz;have:=ih z O O;rw[en]at this |-;rw[ll O]at this |-;simpa using this⟩
     rw[hr]at this;cases this
  cases κ with
  |nil=>rfl
  |cons i l=>exfalso;have:=(hm i).1 (.head _);rw[key (i+1) i O this.1]at this;exact Bool.noConfusion this.2
 have fin:∀(κ:List Nat) (listed:Array Bool),κ=[]->(∀i,i∈κ<->i<ops.size/\listed.getD i true=false)->listed.size=ops.size->∀{e:aH} {I H:PH} {σ:St},DI X G N ops.toList T S R B M (fun i=>listed.getD i false) e I H σ->K σ H:=by
  intro κ listed hk hm A e I H σ F;subst hk;have ag:∀i,i<ops.toList.length->listed.getD i false=true:=by
   intro i hi;cases u:listed.getD i true with
   |false=>exact absurd ((hm i).2 ⟨O,u⟩) dH
   |true=>rw[en]at u |-;rw[ll O]at u |-;exact u
  refine hK e I H σ ⟨F.ge,F.le,fun i _ h=>(by cases h),F.out,?_,F.ile,F.bx,F.len,fun t v hv=>F.tm t v ?_⟩
  .have:ML ops.toList S R M (fun _=>true)=ML ops.toList S R M (fun i=>listed.getD i false):=by funext id;unfold ML;rw[sO (p:=fun i=>true && dS S R id i) (q:=fun i=>listed.getD i false && dS S R id i) fun i hi=>by rw[ag i hi]]
   rw[this];exact F.rel
  .unfold TL at hv |-;rw[sO (p:=fun i=>listed.getD i false && gN ops.toList t i) (q:=fun i=>true && gN ops.toList t i) fun i hi=>by rw[ag i hi]];exact hv
 intro s
 induction s with
 |zero=>
  intro κ listed e I H σ a w ac A a0 hm hc F st g;have:κ=[]:=List.length_eq_zero_iff.1 O;refine⟨?_,σ,H,fin κ listed this hm A F,st,g⟩;subst this;cases hr:Region.ready .any ops listed with
  |nil=>rfl
  |cons i l=>have hi:=(b listed i).1 (by rw[hr];exact .head _);exact absurd ((hm i).2 ⟨hi.1,hi.2.1⟩) dH
 |succ s ih=>
  intro κ listed e I H σ a w ac A a0 hm hc F st g;refine⟨fun hr=>⟨σ,H,fin κ listed (C κ listed hm A hr) hm A F,st,g⟩,fun i hi=>?_⟩;obtain⟨h1,h2,oi,U,W⟩:=(b listed i).1 hi;have a6:i∈κ:=(hm i).2 ⟨h1,h2⟩;obtain⟨l1,l2,rfl⟩:=List.append_of_mem a6;have Q:ops.toList[i]?=some oi:=by rw[<-Z];exact U
  have J:∀x,x<ops.size->(listed.getD x true=false<->listed.getD x false=false):=by intro x hx;rw[en,en,ll O];simp
  have hv:np X.P ops.toList oi (fun σ' H'=>∃e' I',DI X G N ops.toList T S R B M (fun x=>decide (x=i) || listed.getD x false) e' I' H' σ') σ H:=by
   refine F.step hC k h0 hb a7 a9 Q ((J i h1).1 h2) (fun x hx bb=>⟨fun a2 u=>?_,fun a5 u=>?_⟩) fun e' I' H' σ' h=>⟨e',I',h⟩
   .refine V x i a2 O ?_;cases ap:cl i x with
    |false=>rfl
    |true=>exfalso;have:=am.listed (L:=fun x=>listed.getD x false=true) hc (i+1) i O oi Q W x (by simpa using ap);rw[u]at this;cases this
   .refine V i x a5 hx ?_;cases ap:cl x i with
    |false=>rfl
    |true=>exfalso;have aq:ops.toList[x]?=some ops.toList[x]:=aL hx;have:=am.listed (L:=fun x=>listed.getD x false=true) hc (x+1) x O _ aq (hc x _ aq u) i (by simpa using ap);rw[(J i h1).1 h2]at this;cases this
  refine qm U hn (fun σ' H' a' w' hk st' g'=>?_) hv st g;obtain⟨e',I',hk⟩:=hk;have f:∀(j:Nat) (d:Bool),(listed.setIfInBounds i true).getD j d=if i=j then (if i<listed.size then true else d)else listed.getD j d:=by
   intro j d;rw[en,wV];by_cases e:i=j
   .subst e;by_cases u:i<listed.size<;>simp[u]
   .simp[e,en]
  have al:i<listed.size:=O;have m:=List.nodup_append.1 a0;have aa:i∉l1++l2:=by
   intro a3;rcases List.mem_append.1 a3 with h|h
   .exact m.2.2 i h i (.head _) rfl
   .exact(List.nodup_cons.1 m.2.1).1 h
  refine ih (l1++l2) _ (e:=e') (I:=I') (by simp at ac |-;omega) (by simp[A]) ?_ (fun j=>?_) (fun y o ho u z hz=>?_) ?_ st' g'
  .refine List.nodup_append.2 ⟨m.1,(List.nodup_cons.1 m.2.1).2,fun x hx y hy=>m.2.2 x hx y (.tail _ hy)⟩
  .rw[f];by_cases e:i=j
   .subst e;simp only[cY,ak al];exact⟨fun a4=>absurd a4 aa,fun hh=>by cases hh.2⟩
   .simp only[ad e];rw[<-hm j];constructor
    .intro D;rcases List.mem_append.1 D with D|D
     .exact dk _ D
     .exact eo _ (.tail _ D)
    .intro D;rcases List.mem_append.1 D with D|D
     .exact dk _ D
     .rcases List.mem_cons.1 D with rfl|D
      .exact absurd rfl e
      .exact eo _ D
  .rw[f]at u |-;by_cases ez:i=z
   .subst ez;simp[al]
   .simp only[ad ez];by_cases ey:i=y
    .subst ey;rw[Q]at ho;cases ho;exact W z hz
    .simp only[ad ey]at u;exact hc y o ho u z hz
  .have:(fun x=>(listed.setIfInBounds i true).getD x false)=fun x=>decide (x=i) || listed.getD x false:=by
    funext x;rw[f];by_cases e:i=x
    .subst e;simp[al]
    .rw[ad e];simp[Ne.symm e]
   rw[this];exact hk
end
end Go.Ke
