import Derived.Test.YtfaclfkpnmcmlaaGreatDoorG05
import Derived.Laws.IdiomStrings
set_option maxHeartbeats 8000000
set_option linter.all false
namespace Go.Ke
open Go Go.Sx
def qL{s:KS}{o:LO}{v:Nat->LV}{r:HR}(h:nL s o v=some r):r.res=v s.c/\r.s.c=s.c+1/\r.fp=[]/\r.ws=[]/\∀m,r.s.L.get m=if m=s.c then some o else s.L.get m:=by
 unfold nL at h;split at h
 .rename_i L a;cases h;exact⟨rfl,rfl,rfl,rfl,fun m=>Tr.get_put a m⟩
 .cases h
def zF{s:KS}{id:Nat}{o:LO}{r:HR}(h:nZ s id o=some r):r.res=.v undef/\r.s.c=s.c/\r.fp=[id]/\r.ws=[id]/\∀m,r.s.L.get m=if m=id then some o else s.L.get m:=by
 unfold nZ at h;split at h
 .rename_i L a;cases h;exact⟨rfl,rfl,rfl,rfl,fun m=>Tr.get_put a m⟩
 .cases h
structure Good(X:bQ)(ol:List Oper)(o:Oper)(σ:St)(e:aH)(M:LM)(I H:PH)(s:KS)(r:HR):Prop where
 cle:s.c<=r.s.c
 keep:∀id,id∉r.ws->¬(s.c<=id/\id<r.s.c)->r.s.L.get id=s.L.get id
 sub:∀id∈r.ws,id∈r.fp/\∃ob,s.L.get id=some ob
 eff:ft X ol o σ e I H r.res (cJ M r.ws s.c r.s.c r.s.L) s.c r.s.c
section
variable {X:bQ} {ol:List Oper} {o:Oper} {σ:St} {e:aH} {M:LM} {I H:PH} {ρ:dY}
variable{r:HR}{s:KS}
def Good.look(h1:r.s=s)(h2:r.ws=[])(h:ft X ol o σ e I H r.res M s.c s.c):Good X ol o σ e M I H s r:=by refine⟨by rw[h1];exact aW _,fun id _ _=>by rw[h1],fun id a=>(by rw[h2]at a;cases a),?_⟩;rw[h1,h2,Dt];exact h
def Good.new{ob:LO}{v:Nat->LV}(h:nL s ob v=some r)(b:ft X ol o σ e I H (v s.c) (M.up s.c ob) s.c (s.c+1)):Good X ol o σ e M I H s r:=by obtain⟨h1,h2,h3,f,d⟩:=qL h;refine⟨O,fun id _ h=>by rw[d,ad O],fun id a=>(by rw[f]at a;cases a),?_⟩;rw[h1,h2,f,IB (by rw[d,ak rfl])];exact b
def Good.set{id:Nat}{ob:LO}(h:nZ s id ob=some r)(g:∃ob,s.L.get id=some ob)(b:ft X ol o σ e I H (.v undef) (M.up id ob) s.c s.c):Good X ol o σ e M I H s r:=by obtain⟨h1,h2,h3,d,f⟩:=zF h;refine⟨O,fun j a _=>by rw[f,ad (by rw[d]at a;simpa using a)],fun j a=>by rw[d]at a;rw[h3];rw[List.mem_singleton]at a;subst a;exact⟨.head _,g⟩,?_⟩;rw[h1,h2,d,Tt (by rw[f,ak rfl])];exact b
def BU{c:Nat}{cs:List LV}{cs':List Value}{T:TypeId}{res:LV}{f:Nat->Value}(hw:be ol σ o=some true)(j:bt σ o.op=true)(i:cD X e M I H)(m:M c=none)(g:e c=none)(l:aK e cs cs')(d:(bk X.P T).isSome=true)
  (a:dg X.P (execOp (aQ σ) o) H fun sv H2=>∃b,H b=none/\sv=.v (f b)/\H2=H.put b (.cells cs'.toArray T (0,0))) (hv:∀b,VR (e.up c (.blk b 0)) res (f b)) :
  ft X ol o σ e I H res (M.up c (.cells cs T false)) c (c+1):=by
 refine ft.spec hw j (a.mono fun sv H2 ⟨b,hb,h1,h2⟩=>?_);subst h2;refine⟨e.up c (.blk b 0),f b,.inl h1,aH.le_up g,fun id k=>aH.up_other O,hv b,i.fresh g m hb ?_⟩;obtain⟨s,d⟩:=Option.isSome_iff_exists.1 d;refine⟨b,0,cs',[],aH.up_self _ _ _,PH.le_none i.le hb,by simp[PH.put],l.mono (aH.le_up g),⟨s,d,by simp,fun h=>by cases h⟩,fun _=>rfl⟩
 noncomputable def sd(P:Program)(T:TypeId)(s:KS):Option HR:=
 match aZ P T,(bk P T).isSome with
 |some z,true=>nL s (.cells (z.cells.toList.map .v) T false) (fun c=>.p c 0)
 |_,_=>none
def LW{T:TypeId}(aa:o.op=.alloc T)(hw:be ol σ o=some true)(h:sd X.P T s=some r)(p:cD X e M I H)(g:M s.c=none/\e s.c=none):Good X ol o σ e M I H s r:=by
 unfold sd at h;split at h
 .rename_i z a n;refine Good.new h (BU hw (px (by rw[aa];rfl) (by rw[aa];simp[Op.operands])) p g.1 g.2 (aK.map_v e _) n (f:=fun b=>.pointer (some ⟨b,0,none⟩)) ?_ ?_)
  .intro w j;obtain⟨m,l⟩:=bN.new j (.cells z.cells.toList.toArray T (0,0));have d:(execOp (aQ σ) o).run X.P w=.ok (.value (.pointer (some ⟨w.heap.size,0,none⟩))) { w with heap:=w.heap.push (.cells z.cells.toList.toArray T (0,0)) }:=by
    unfold aZ at a;cases hi:X.P.info? T with
    |none=>rw[hi]at a;cases a
    |some i=>
     rw[hi]at a;simp only[jz]at a;have k:(zeroValue T).run X.P w=.ok z w:=by simp[zeroValue,typeInfo,program,Sem.run,hi,a]
     simp[execOp,aa,Instr.alloc,k,Result.andThen,newVar,newRow,newObj,Sem.run]
   rw[d];exact⟨_,l,w.heap.size,m,rfl,rfl⟩
  .intro b;simp only[VR];exact⟨b,0,aH.up_self _ _ _,rfl⟩
 .cases h
 noncomputable def si(P:Program)(T:TypeId)(x:Option LV)(s:KS):Option HR:=
 match x,(bk P T).isSome with
 |some v,true=>nL s (.cells (ke v) T false) (fun c=>.p c 0)
 |_,_=>none
def Mr{T:TypeId}{x:Operand}(aa:o.op=.box T x)(hw:be ol σ o=some true)(n:OR e ρ σ)(h:si X.P T (ρ x) s=some r)(m:cD X e M I H)(d:M s.c=none/\e s.c=none):Good X ol o σ e M I H s r:=by
 unfold si at h;split at h
 .rename_i v k l;obtain⟨y,h1,h2⟩:=n _ _ k;refine Good.new h (BU hw (px (by rw[aa];rfl) (by rw[aa];simp[Op.operands,h1])) m d.1 d.2 (xM h2) l (f:=fun b=>.pointer (some ⟨b,0,none⟩)) ?_ ?_)
  .intro w g;obtain⟨j,i⟩:=bN.new g (.cells y.cells.toList.toArray T (0,0));have a:(execOp (aQ σ) o).run X.P w=.ok (.value (.pointer (some ⟨w.heap.size,0,none⟩))) { w with heap:=w.heap.push (.cells y.cells.toList.toArray T (0,0)) }:=by simp[execOp,aa,Instr.box,BC h1,Result.andThen,newVar,newRow,newObj,Sem.run]
   rw[a];exact⟨_,i,w.heap.size,j,rfl,rfl⟩
  .intro b;simp only[VR];exact⟨b,0,aH.up_self _ _ _,rfl⟩
 .cases h
def IG{size:Nat}:∀{ps:List (Nat×LV)} {ps':List (Nat×Value)} {j:Nat},PR e ps ps'->zw size j ps=true->i7 size j ps'=true/\ps'.length=ps.length/\aK e (uT ps) (aD ps')
 | [],l,j,h,_=>by simp only[PR]at h;subst h;simp[i7,uT,aD,aK]
 |(i,x)::ps,l,j,h,k=>by
  simp only[PR]at h;obtain⟨y,ys,rfl,h1,h2⟩:=h;simp only[zw,bu]at k;obtain⟨⟨k1,k2⟩,k3⟩:=k;obtain⟨a,b,c⟩:=IG h2 k3;have d:=xM h1;refine⟨?_,by simp[b],?_⟩
  .simp only[i7,bu];have f:=d.length;simp only[beq_iff_eq]at k1 k2;refine⟨⟨?_,?_⟩,a⟩<;>simp_all
  .simp only[uT,aD];exact d.append c
def Mt{t:TypeId}{len:Nat}{parts:Array (Nat×Operand)}(aa:o.op=.buildSlice t len parts)(hw:be ol σ o=some true)(q:OR e ρ σ)(h:sj X.P t len (allPL ρ parts.toList) s=some r)(p:cD X e M I H)(a:M s.c=none/\e s.c=none):Good X ol o σ e M I H s r:=by
 unfold sj at h;split at h
 .rename_i w size bytes ps d f;split at h
  .rename_i n;obtain⟨u,c2,c3⟩:=n;obtain⟨m,l,k⟩:=q.allPL _ f;obtain⟨j,v,g⟩:=IG k u;have ht:=zQ d;obtain⟨k1,k2⟩:=D1 (H:=H) aa l ht j O c3;refine Good.new h (BU hw k1 p a.1 a.2 g ?_ k2 (fun b=>?_))
   .obtain⟨i,z,_,hi,_⟩:=ht;simp[bk,hi]
   .simp only[VR];exact⟨b,0,aH.up_self _ _ _,by simp⟩
  .cases h
 .cases h
def Jj:∀(cs a post:List Value) (off:Nat),off+cs.length<=a.length->bi (a++post) off cs=bi a off cs++post
 | [],a,post,off,_=>rfl
 |c::cs,a,post,off,h=>by simp only[bf]at h;simp only[bi];rw[List.set_append_left _ _ O,Jj cs _ post _ (by simp;omega)]
variable{y:Value}
def Tj{x:LV}(h:VR e x y)(k:vL x=true):one y=true:=by
 cases x<;>simp only[VR]at h
 case v x=>subst h;cases y<;>first|rfl|cases k
 case p a b=>obtain⟨_,_,_,rfl⟩:=h;rfl
 case sl a b c d f=>obtain⟨_,_,_,rfl⟩:=h;rfl
 case m a=>obtain⟨_,_,_,rfl⟩:=h;rfl
 case f a b c=>obtain⟨_,_,rfl,_⟩:=h;rfl
 case i a b=>obtain⟨_,rfl,_⟩:=h;rfl
 case ag=>cases k
 case tu=>cases k
 case d0 a=>obtain⟨_,_,_,_,_,rfl⟩:=h;rfl
 case us=>obtain⟨_,_,_,rfl⟩:=h;rfl
 case d1 a=>obtain⟨_,_,_,_,rfl⟩:=h;rfl
def Dl:∀{xs:List LV} {ys:List Value},aK e xs ys->xs.all vL=true->ys.all one=true
 | [],l,h,_=>by simp only[aK]at h;subst h;rfl
 |x::xs,l,h,k=>by simp only[aK]at h;obtain⟨y,ys,rfl,h1,h2⟩:=h;simp only[List.all_cons,bu]at k |-;exact⟨Tj h1 k.1,Dl h2 k.2⟩
def MM(h:y.cells.toList.all one=true):jM y=some y.cells.toList:=by
 cases y<;>simp only[jM,Value.cells]at h |-
 case agg cs=>rw[ak h]
 case tuple=>simp[one]at h
def Vj{T:TypeId}{x y:Operand}(aa:o.op=.store T x y)(hd:o.dst=none)(hw:be ol σ o=some true)(p:OR e ρ σ)(h:wA X.P T (ρ x) (ρ y) s=some r)(n:cD X e M I H)
  (i:∀id∈r.fp,∀ob,s.L.get id=some ob->M id=some ob):Good X ol o σ e M I H s r:=by
 unfold wA at h;split at h
 .rename_i id off v B A;split at h
  .rename_i c ty gr m;split at h
   .rename_i C;obtain⟨K,c2,c3⟩:=C;obtain⟨z,h1,h2⟩:=p _ _ B;obtain⟨l,h3,D⟩:=p _ _ A;obtain⟨U,S,t,R,Q⟩:=zF h;have f:=i id (by rw[t];exact .head _) _ m;have g:=n.ob id _ f;obtain⟨b,x',cs,post,k,e2,J,j,G,F⟩:=g;simp only[VR]at h2;obtain⟨b2,N,q,rfl⟩:=h2;rw[k]at q;cases q;have a:=xM D;have d:=Dl a c3;obtain⟨k1,k2⟩:=D3 (σ:=σ) (P:=X.P) aa h1 h3 J (MM d) (by rw[a.length];exact K) (by simp only[List.size_toArray,dG];rw[a.length,j.length];omega);refine Good.set h ⟨_,m⟩ (ft.spec hw k1 (k2.mono fun sv H2 ⟨w,u⟩=>?_));subst u;refine⟨e,undef,.inr ⟨w,hd⟩,aH.le_refl e,fun _ _=>rfl,by simp only[VR],n.write k e2 f rfl ?_⟩;refine⟨b,x',bi cs off l.cells.toList,post,k,e2,?_,a.setL j off,by rw[eJ];exact G,F⟩;have:off+l.cells.toList.length<=cs.length:=by rw[a.length,j.length];omega
    simp only[PH.put,cY,List.toList_toArray,Jj _ _ _ _ this]
   .cases h
  .cases h
 .cases h
end
open Go Go.Sx
def cD.fresh2{X:bQ}{e:aH}{M:LM}{I H H2:PH}(h:cD X e M I H){id g x:Nat}{o:LO}(s:e id=none)(u:M id=none)(t:I.le H2)
  (k:∀j oj b' y,M j=some oj->mq oj=true->e j=some (.blk b' y)->b'≠g/\H2 b'=H b') (r:m0 X (e.up id (.blk g x)) I H2 id o):cD X (e.up id (.blk g x)) (M.up id o) I H2:=by
 refine⟨t,fun i j m l b' y z hi c n f b a=>?_,fun j o' c=>?_⟩
 .by_cases p:i=id
  .by_cases d:j=id
   .rw[p,d]
   .exfalso;rw[p,aH.up_self]at b;cases b;rw[LM.up_other d]at c;rw[aH.up_other d]at a;exact(k j l _ z c f a).1 rfl
  .rw[LM.up_other p]at hi;rw[aH.up_other p]at b;by_cases d:j=id
   .exfalso;rw[d,aH.up_self]at a;cases a;exact(k i m _ y hi n b).1 rfl
   .rw[LM.up_other d]at c;rw[aH.up_other d]at a;exact h.inj i j m l b' y z hi c n f b a
 .by_cases d:j=id
  .subst d;rw[LM.up_self]at c;cases c;exact r
  .rw[LM.up_other d]at c;exact(h.ob j o' c).keep (aH.le_up s) fun f b' y q=>(k j o' b' y c f q).2
 noncomputable def vG(size:Nat)(y:Option LV)(s:KS):Option (Nat×List LV×List Nat):=
 match y with
 |some (.v (.slice none 0 0))=>some (0,[],[])
 |some (.sl id off m _ _)=>if m=0 then some (0,[],[])else match s.L.get id with
  |some (.cells c _ _)=>if off+m*size<=c.length then some (m,(c.drop off).take (m*size),[id])else none
  |some (.ro c)=>if off+m*size<=c.length then some (m,(c.drop off).take (m*size),[id])else none
  |_=>none
 |_=>none
 noncomputable def oS(s:KS)(fp ws:List Nat)(L:Option (Tr LO))(e:TypeId)(n:Nat)(cs:List LV):Option HR:=
 match L with
 |some L=>match L.put s.c (.cells cs e true)with
  |some L=>some ⟨.sl s.c 0 n n false,⟨L,s.c+1⟩,fp,ws⟩
  |none=>none
 |none=>none
 noncomputable def DZ(P:Program)(t a:TypeId):Bool:=match P.underlying t,P.underlying a with|some (.slice e),some (.slice e')=>e == e'|_,_=>false
def UR{P:Program}{t t':TypeId}(h:DZ P t t'=true):∃e,P.underlying t=some (.slice e)/\P.underlying t'=some (.slice e):=by
 unfold DZ at h;split at h
 .rename_i e e' h1 h2;have:=eq_of_beq h;subst this;exact⟨_,h1,h2⟩
 .cases h
 noncomputable def xC(P:Program)(t b:TypeId)(x y:Option LV)(s:KS):Option HR:=
 match ww P t,DZ P t b with
 |some (e,size,bytes),true=>match vG size y s with
  |some (0,_,_)=>match x with
   |some (.v (.slice none 0 0))=>some ⟨.v (.slice none 0 0),s,[],[]⟩
   |some (.sl id off n cap ex)=>if n<=cap then some ⟨.sl id off n cap ex,s,[],[]⟩else none
   |_=>none
  |some (m,a,fp)=>if a.all vL=true then match x with
   |some (.v (.slice none 0 0))=>if m*bytes<=140737488355328/\m<=maxLen then oS s fp [] (some s.L) e m a else none
   |some (.sl id off n cap ex)=>if (n+m)*bytes<=140737488355328/\n+m<=maxLen then match s.L.get id with
    |some (.cells c ty gr)=>
     if ex=true/\cap=n then (if off+n*size<=c.length then oS s (id::fp) [] (some s.L) e (n+m) ((c.drop off).take (n*size)++a)else none)
     else if off=0/\ty=e/\c.length=cap*size/\(gr=false\/ex=false)/\n<=cap/\cap<=maxLen/\id<s.c then oS s (id::fp) [id] (s.L.put id .dead) e (n+m) (c.take (n*size)++a)else none
    |_=>none else none
   |_=>none else none
  |none=>none
 |_,_=>none
section
variable {X:bQ} {ol:List Oper} {o:Oper} {σ:St} {e:aH} {M:LM} {I H:PH} {ρ:dY}
variable{i:TypeInfo}{P:Program}
def Un{t t' el ty:TypeId}(hi:P.info? el=some i)(h1:P.underlying t=some (.slice el))(h2:P.underlying t'=some (.slice el))(a b:Value)(w:World):
  (Builtin.append_ #[t,t'] ty #[a,b]).run P w=(Builtin.append_ #[t,t] ty #[a,b]).run P w:=by
 cases a<;>simp[Builtin.append_,run_underlying h1,run_underlying h2,sizeOf,typeInfo,hi]
variable{y:Operand}
def wz{t t' el:TypeId}(hi:P.info? el=some i){x:Operand}{vx vy:Value}{Ψ:SV->PH->Prop}(aa:o.op=.call ⟨.builtin .append,#[x,y],#[t,t']⟩)(h1:P.underlying t=some (.slice el))(h2:P.underlying t'=some (.slice el))(b:ev σ x=.v vx)(a:ev σ y=.v vy)
  (h:∀o':Oper,o'.op=.call ⟨.builtin .append,#[x,y],#[t,t]⟩->bt σ o'.op=true/\dg P (execOp (aQ σ) o') H Ψ):bt σ o.op=true/\dg P (execOp (aQ σ) o) H Ψ:=by
 obtain⟨k1,k2⟩:=h { o with op:=.call ⟨.builtin .append,#[x,y],#[t,t]⟩ } rfl;refine⟨by rw[aa];exact k1,fun w hw=>?_⟩;have:=k2 w hw;have e:(execOp (aQ σ) { o with op:=.call ⟨.builtin .append,#[x,y],#[t,t]⟩ }).run P w=(execOp (aQ σ) o).run P w:=by simp[execOp,aa,resolve,aQ,b,a,invoke,builtin,Un hi h1 h2]
 rw[<-e];exact this
def Jz{t el:TypeId}{size bytes:Nat}(ht:ch P t el size bytes){x:Operand}{a:Option Addr}{n n2 m c xb xo:Nat}{olds news:List Value}(aa:o.op=.call ⟨.builtin .append,#[x,y],#[t,t]⟩)
  (C:ev σ x=.v (.slice a n n2)) (k:n2<n+m) (B:ev σ y=.v (.slice (some ⟨xb,xo,none⟩) m c)) (f:n=0\/∃b off,a=some ⟨b,off,none⟩/\aX H b off olds) (D:olds.length=n*size)
  (K:aX H xb xo news) (r:news.length=m*size) (h1:news.all one=true) (l:n+m<=maxLen) (hb:(n+m)*bytes<=140737488355328) :
  bt σ o.op=true/\dg P (execOp (aQ σ) o) H fun sv H2=>∃g cap zs,H g=none/\(n+m<=cap/\cap<=maxLen)/\zs.length=(cap-(n+m))*size/\sv=.v (.slice (some ⟨g,0,none⟩) (n+m) cap)/\H2=H.put g (.cells (olds++news++zs).toArray el (0,0)):=by
 constructor
 .simp[bt,aa,dU,Op.operands,Call.operands,C,B,eX]
 .intro w hw;obtain⟨i,z,a1,a2,a3,a4,a5,L,N⟩:=ht;subst a4;subst a5;have s:(Builtin.firstCells i.size n (.slice a n n2)).run P w.drew=.ok olds.toArray w.drew:=by
   rcases f with rfl|⟨b,off,rfl,A⟩
   .have:olds=[]:=by simpa using D
    subst this;cases a with
    |none=>exact run_firstCells_none w.drew i.size 0 0 n2
    |some b=>exact run_firstCells_some w.drew i.size 0 b 0 n2 [] ai (fun j u h=>by simp at h)
   .exact run_firstCells_some (P:=P) (w:=w.drew) i.size n ⟨b,off,none⟩ n n2 olds D (Bz A (w:=w.drew) hw)
  have J:Src P i.size t (.slice (some ⟨xb,xo,none⟩) m c) m news w:=Src.ofSlice w a1 ⟨xb,xo,none⟩ m c news r (Bz K hw)
   (fun u G=>by have:=List.all_eq_true.1 h1 u G;cases u<;>first|rfl|cases this)
  have p:n+m<=9223372036854775807:=by simp only[maxLen]at l;omega
  have d:=run_append_grow_src (P:=P) w t t o.type el i z a1 a2 a3 a n n2 olds s _ m news J k O (growslice_fits k hb);rw[Gh aa C B d];obtain⟨F,q⟩:=bN.newD hw (.cells ((olds++news).toArray++Builtin.zeroCells z.cells (grownCap w (n+m) n2 el-(n+m))) el (0,0));refine⟨_,q,w.heap.size,grownCap w (n+m) n2 el,(Builtin.zeroCells z.cells (grownCap w (n+m) n2 el-(n+m))).toList,F,⟨grownCap_ge w (n+m) n2 el,grownCap_le_maxLen w (n+m) n2 el l⟩,?_,rfl,?_⟩
  .rw[kA,size_zeroCells,L]
  .congr 2;rw[<-jb];simp
def y8{size:Nat}(p:OR e ρ σ){s:KS}{m:Nat}{news:List LV}{fp:List Nat}(h:vG size (ρ y) s=some (m,news,fp))(x:cD X e M I H)(g:∀id∈fp,∀ob,s.L.get id=some ob->M id=some ob):
  (m=0/\∃j c,ev σ y=.v (.slice j 0 c))\/(0<m/\∃xb xo c news',ev σ y=.v (.slice (some ⟨xb,xo,none⟩) m c)/\aX H xb xo news'/\aK e news news'/\news'.length=m*size):=by
 unfold vG at h;have d:∀{id off len cap:Nat} {ex:Bool} {c:List LV} {b x':Nat} {cs post:List Value} {ty:TypeId} {q:Nat×Nat},ρ y=some (.sl id off len cap ex)->len≠0->off+len*size<=c.length->some (len,(c.drop off).take (len*size),[id])=some (m,news,fp)->e id=some (.blk b x')->H b=some (.cells (cs++post).toArray ty q)->aK e c cs->
   (m=0/\∃j c,ev σ y=.v (.slice j 0 c))\/(0<m/\∃xb xo c news',ev σ y=.v (.slice (some ⟨xb,xo,none⟩) m c)/\aX H xb xo news'/\aK e news news'/\news'.length=m*size):=by
  intro id off len cap ex c b x' cs post ty q f i a n hb B w;cases n
  obtain⟨z,h1,h2⟩:=p _ _ f;simp only[VR]at h2;obtain⟨b2,A,h3,rfl⟩:=h2;rw[hb]at h3;cases h3;have u:=w.length;refine .inr ⟨O,b,off,_,(cs.drop off).take (m*size),h1,⟨_,_,_,B,?_,?_⟩,(w.drop off).take _,?_⟩
  .simp;omega
  .have:((cs.drop off).take (m*size)).length=m*size:=by simp;omega
   rw[this,List.drop_append_of_le_length O,n9 (by simp;omega)]
  .simp;omega
 split at h
 .rename_i f;cases h
  obtain⟨z,h1,h2⟩:=p _ _ f;simp only[VR]at h2;subst h2;exact .inl ⟨rfl,none,0,h1⟩
 .rename_i id off len cap ex f;split at h
  .rename_i i;cases h
   obtain⟨z,h1,h2⟩:=p _ _ f;simp only[VR]at h2;obtain⟨b2,A,h3,rfl⟩:=h2;rw[i]at h1;exact .inl ⟨rfl,_,_,h1⟩
  .rename_i i;split at h
   .rename_i c ty gr l;split at h
    .rename_i a;have k:=h;cases h
     obtain⟨b,x',cs,post,t,_,e2,r,_⟩:=x.ob id _ (g id (.head _) _ l);exact d f i a k t e2 r
    .cases h
   .rename_i c l;split at h
    .rename_i a;have k:=h;cases h
     obtain⟨b,x',cs,post,ty,q,t,e2,r⟩:=x.ob id _ (g id (.head _) _ l);exact d f i a k t e2 r
    .cases h
   .cases h
 .cases h
end
open Go Go.Sx
def oT{s:KS}{fp ws:List Nat}{L:Option (Tr LO)}{e:TypeId}{n:Nat}{cs:List LV}{r:HR}(h:oS s fp ws L e n cs=some r):
  ∃L0,L=some L0/\r.res=.sl s.c 0 n n false/\r.s.c=s.c+1/\r.fp=fp/\r.ws=ws/\∀m,r.s.L.get m=if m=s.c then some (.cells cs e true)else L0.get m:=by
 unfold oS at h;split at h
 .rename_i L0;split at h
  .rename_i a h1;cases h;exact⟨L0,rfl,rfl,rfl,rfl,rfl,fun m=>Tr.get_put h1 m⟩
  .cases h
 .cases h
section
variable {X:bQ} {ol:List Oper} {o:Oper} {σ:St} {e:aH} {M:LM} {I H:PH} {ρ:dY}
variable{size:Nat}{fp:List Nat}{s:KS}
def Hj{r:HR}{el:Nat}{n:Nat}{cs:List LV}{cs':List Value}(h:oS s fp [] (some s.L) el n cs=some r)(hw:be ol σ o=some true)(u:bt σ o.op=true)(j:cD X e M I H)(b:M s.c=none/\e s.c=none)
  (w:aK e cs cs') (f:cs'.length=n*size) (t:bk X.P el=some size)
  (d:dg X.P (execOp (aQ σ) o) H fun sv H2=>∃g cap zs,H g=none/\(n<=cap/\cap<=maxLen)/\zs.length=(cap-n)*size/\sv=.v (.slice (some ⟨g,0,none⟩) n cap)/\H2=H.put g (.cells (cs'++zs).toArray el (0,0))):Good X ol o σ e M I H s r:=by
 obtain⟨L0,x,h1,h2,h3,l,k⟩:=oT h;cases x
 refine⟨O,fun id _ a=>by rw[k,ad O],fun id a=>(by rw[l]at a;cases a),?_⟩;rw[h1,h2,l,IB (by rw[k,ak rfl])];refine ft.spec hw u (d.mono fun sv H2 ⟨g,cap,zs,i,y,q,p,m⟩=>?_);subst m;refine⟨e.up s.c (.blk g (cap-n)),_,.inl p,aH.le_up b.2,fun id a=>aH.up_other O,?_,j.fresh b.2 b.1 i ?_⟩
 .simp only[VR];exact⟨g,_,aH.up_self _ _ _,by simp;omega⟩
 .refine⟨g,cap-n,cs',zs,aH.up_self _ _ _,PH.le_none j.le i,by simp[PH.put],w.mono (aH.le_up b.2),⟨size,t,q,fun _=>?_⟩,fun h=>by cases h⟩;rw[f,<-fm];exact bS _ O
def JP{P:Program}{t el:TypeId}{bytes:Nat}(h:ch P t el size bytes):bk P el=some size:=by obtain⟨i,z,_,hi,_,a,_⟩:=h;simp[bk,hi,a]
variable{news:List LV}
def Ta{y:Option LV}(a:vG size y s=some (0,news,fp)):fp=[]:=by
 unfold vG at a;split at a
 .cases a;rfl
 .split at a
  .cases a;rfl
  .rename_i b;split at a
   .split at a
    .simp only[bv,eL]at a;exact absurd a.1 b
    .cases a
   .split at a
    .simp only[bv,eL]at a;exact absurd a.1 b
    .cases a
   .cases a
 .cases a
def Qe{t t' el bytes:Nat}{i:TypeInfo}{x y:Operand}(hi:X.P.info? el=some i)(ag:X.P.underlying t=some (.slice el))(ac:X.P.underlying t'=some (.slice el))(al:o.op=.call ⟨.builtin .append,#[x,y],#[t,t']⟩)(hw:be ol σ o=some true)(ht:ch X.P t el size bytes){r:HR}{id n m cap:Nat}{ex gr:Bool}{c:List LV}{news':List Value}{xb xo yc:Nat}{v:Value}
  (h:oS s fp [id] (s.L.put id .dead) el (n+m) (c.take (n*size)++news)=some r) (A:id∈fp) (hx:ev σ x=.v v) (hv:VR e (.sl id 0 n cap ex) v) (hy:ev σ y=.v (.slice (some ⟨xb,xo,none⟩) m yc))
  (hg:s.L.get id=some (.cells c el gr)) (hM:M id=some (.cells c el gr)) (hc:c.length=cap*size) (a3:gr=false\/ex=false) (hn:n<=cap) (U:cap<=maxLen) (a2:id<s.c) (J:cD X e M I H) (l:M s.c=none/\e s.c=none)
  (a0:aX H xb xo news') (aq:aK e news news') (ap:news'.length=m*size) (am:news'.all one=true) (hm:0<m) (hb:(n+m)*bytes<=140737488355328) (a6:n+m<=maxLen):Good X ol o σ e M I H s r:=by
 obtain⟨L0,h0,h1,h2,h3,h4,h5⟩:=oT h;have K:=JP ht;have N:0<size:=by obtain⟨_,_,_,_,_,_,_,_,h⟩:=ht;exact h
 have W:=fun k=>Tr.get_put h0 k;have u:id≠s.c:=O;refine⟨O,fun j f a7=>by rw[h5,ad O,W,ad (by rw[h4]at f;simpa using f)],fun j f=>by rw[h4]at f;rw[h3];rw[List.mem_singleton]at f;subst f;exact⟨A,_,hg⟩,?_⟩;rw[h1,h2,h4,Tv u (by rw[h5,ak rfl]) (o':=.dead) (by rw[h5,ad u,W,ak rfl])];obtain⟨b,x',cs,post,e1,e2,e3,e4,⟨sz,e5,e6,e7⟩,e8⟩:=J.ob id _ hM;rw[K]at e5;cases e5;simp only[VR]at hv;obtain⟨b2,x2,h6,rfl⟩:=hv;rw[e1]at h6;cases h6;have C:=e4.length;generalize F:(if ex=true then cap else cap+x')=cap' at hx;have aa:(ex=true->x'=0):=by
  intro B;rcases a3 with h|h
  .exact e8 h
  .rw[B]at h;cases h
 have a:cap'=cap+x':=by
  rw[<-F];split
  .rename_i B;rw[aa B];rfl
  .rfl
 have D:cap'<=maxLen:=by
  rw[a];cases S:gr with
  |false=>rw[e8 S];exact U
  |true=>have:=e7 S;rw[C,hc,<-fm]at this;exact Nat.le_of_mul_le_mul_right this N
 have Q:gv H el size (.slice (some ⟨b,0,none⟩) n cap') n (cs.take (n*size)):=by
  have a1:n*size<=cs.length:=by rw[C,hc];exact bS _ hn
  refine⟨by simp;omega,.inr ⟨b,cap',_,rfl,e3,O,D,?_,?_⟩⟩
  .simp only[List.size_toArray,dG];rw[C,hc,e6,a,fm]
  .simp only[];rw[n9 a1]
 obtain⟨k1,k2⟩:=wz hi al ag ac hx hy fun o' R=>zS (o:=o') (σ:=σ) (P:=X.P) ht R hx hy Q a0 ap am hb a6;refine ft.spec hw k1 (k2.mono fun sv H2 ⟨v',q1,q2,q3,q4⟩=>?_);obtain⟨r1,r2⟩:=q2;rcases r2 with ⟨_,r2⟩|⟨g,q,cur,rfl,r3,r4,r5,r6,r7⟩
 .omega
 have T:cur.toList=(cs.take (n*size)++news')++cur.toList.drop ((n+m)*size):=by rw[<-r7,fl]
 have a4:I g=none:=by
  rcases q4 with h|h
  .simp only[Value.ownBlock]at h;cases h;exact e2
  .exact PH.le_none J.le (h g rfl)
 have a5:I.le H2:=fun b' o' G=>q3 b' o' (by simp only[Value.ownBlock];intro h;cases h;rw[e2]at G;cases G) (J.le _ _ G);refine⟨e.up s.c (.blk g (q-(n+m))),_,.inl q1,aH.le_up l.2,fun id a2=>aH.up_other O,?_,(J.kill id).fresh2 l.2 (by rw[LM.up_other (Ne.symm u)];exact l.1) a5 (fun j oj b' y' d w V=>?_) ?_⟩
 .simp only[VR];exact⟨g,_,aH.up_self _ _ _,by simp;omega⟩
 .have f:j≠id:=by intro h;subst h;rw[LM.up_self]at d;cases d;cases w
  rw[LM.up_other f]at d;have p:b'≠b:=by intro h;subst h;exact f (J.inj j id _ _ _ _ _ d hM w rfl V e1)
  obtain⟨b3,x3,s1,s2⟩:=(J.ob j oj d).blk w J.le;rw[V]at s1;cases s1;refine⟨?_,?_⟩
  .intro h;subst h;rcases q4 with h|h
   .simp only[Value.ownBlock]at h;cases h;exact p rfl
   .exact s2 (h _ rfl)
  .cases Z:H b' with
   |none=>exact absurd Z s2
   |some ob=>exact q3 b' ob (by simp only[Value.ownBlock];intro h;cases h;exact p rfl) Z
 .have z:(cs.take (n*size)++news').length=(n+m)*size:=r1;refine⟨g,q-(n+m),cs.take (n*size)++news',cur.toList.drop ((n+m)*size),aH.up_self _ _ _,a4,by rw[<-T];simpa using r3,((e4.take _).append aq).mono (aH.le_up l.2),⟨size,K,?_,fun _=>?_⟩,fun h=>by cases h⟩
  .rw[kC,kA,r6,Nat.sub_mul]
  .rw[z,<-fm];exact bS _ O
end
open Go Go.Sx
section
variable {X:bQ} {ol:List Oper} {o:Oper} {σ:St} {e:aH} {M:LM} {I H:PH} {ρ:dY}
def Di{news:List LV}{news':List Value}(h:aK e news news')(k:news.all vL=true):news'.all one=true:=Dl h k
def L8{t t':TypeId}{x y:Operand}(aa:o.op=.call ⟨.builtin .append,#[x,y],#[t,t']⟩)(hw:be ol σ o=some true)(p:OR e ρ σ){s:KS}{r:HR}(h:xC X.P t t' (ρ x) (ρ y) s=some r)(l:cD X e M I H)
  (k:∀id∈r.fp,∀ob,s.L.get id=some ob->M id=some ob) (A:∀id,s.c<=id->id<r.s.c->M id=none/\e id=none):Good X ol o σ e M I H s r:=by
 unfold xC at h;split at h
 case h_2=>cases h
 rename_i el size bytes S R;obtain⟨e0,g,i⟩:=UR R;have ht:=zQ S;obtain⟨i0,_,nG,hi,_⟩:=id ht;cases g.symm.trans nG
 split at h
 ·
  rename_i G fp F;have K:=Ta F;subst K;have f:∃ya c,ev σ y=.v (.slice ya 0 c):=by
   rcases y8 p F l (fun id d=>by cases d)with ⟨_,h⟩|⟨C,_⟩
   .exact h
   .omega
  obtain⟨ya,c,f⟩:=f;split at h
  .rename_i u;cases h
   obtain⟨z,h1,h2⟩:=p _ _ u;simp only[VR]at h2;subst h2;obtain⟨k1,k2⟩:=wz hi aa g i h1 f fun o' a=>wy (o:=o') (H:=H) ht a h1 (aW 0) f;refine Good.look rfl rfl (ft.spec hw k1 (k2.mono fun sv H2 ⟨Q,D⟩=>?_));subst D;exact⟨e,_,.inl Q,aH.le_refl e,fun _ _=>rfl,by simp only[VR],l⟩
  .rename_i id off n cap ex u;split at h
   .rename_i U;cases h
    obtain⟨z,h1,h2⟩:=p _ _ u;have ag:=h2;simp only[VR]at h2;obtain⟨b,x',e1,rfl⟩:=h2;obtain⟨k1,k2⟩:=wz hi aa g i h1 f fun o' a=>wy (o:=o') (H:=H) ht a h1 (by split<;>omega) f;refine Good.look rfl rfl (ft.spec hw k1 (k2.mono fun sv H2 ⟨Q,D⟩=>?_));subst D;exact⟨e,_,.inl Q,aH.le_refl e,fun _ _=>rfl,ag,l⟩
   .cases h
  .cases h
 .rename_i m G fp T F;split at h
  case isFalse=>cases h
  rename_i j;have J:=JP ht;have hm:0<m:=by
   rcases g9 m with C|C
   .subst C;exact(T rfl).elim
   .exact C
  split at h
  .rename_i u;split at h
   .rename_i hc;obtain⟨N,c2⟩:=hc;obtain⟨z,h1,h2⟩:=p _ _ u;simp only[VR]at h2;subst h2;obtain⟨_,_,_,_,q,_,_⟩:=oT h;rcases y8 p F l (fun id d=>k id (by rw[q];exact d))with ⟨C,_⟩|⟨_,xb,xo,c,news',f,g1,g2,g3⟩
    .omega
    obtain⟨k1,k2⟩:=wz hi aa g i h1 f fun o' a=>Jz (o:=o') (H:=H) ht a h1 O f (.inl rfl) (olds:=[]) ai g1 g3 (Di g2 j) O (by simpa using N);simp only[eR,gk]at k2;obtain⟨_,_,_,D,_,_⟩:=oT h;exact Hj h hw k1 l (A s.c (aW _) O) g2 g3 J k2
   .cases h
  .rename_i id off n cap ex u;split at h
   case isFalse=>cases h
   rename_i hc;obtain⟨N,c2⟩:=hc;split at h
   case h_2=>cases h
   rename_i c ty gr V;obtain⟨z,h1,h2⟩:=p _ _ u;split at h
   .rename_i W;obtain⟨rfl,rfl⟩:=W;split at h
    .rename_i U;obtain⟨_,_,_,D,q,_,_⟩:=oT h;have hM:=k id (by rw[q];exact .head _) _ V;rcases y8 p F l (fun id d=>k id (by rw[q];exact .tail _ d))with ⟨C,_⟩|⟨_,xb,xo,yc,news',f,g1,g2,g3⟩
     .omega
     obtain⟨b,x',cs,post,e1,e2,e3,e4,_⟩:=l.ob id _ hM;simp only[VR]at h2;obtain⟨b2,x2,h6,rfl⟩:=h2;rw[e1]at h6;cases h6;simp only[cY]at h1;have ac:=e4.length;have w:((cs.drop off).take (cap*size)).length=cap*size:=by simp;omega
     have B:aX H b off ((cs.drop off).take (cap*size)):=⟨_,_,_,e3,by simp;omega,by rw[w];simp only[];rw[List.drop_append_of_le_length O,n9 (by simp;omega)]⟩
     obtain⟨k1,k2⟩:=wz hi aa g i h1 f fun o' a=>Jz (o:=o') (H:=H) ht a h1 O f (.inr ⟨b,off,rfl,B⟩) w g1 g3 (Di g2 j) c2 N;exact Hj h hw k1 l (A s.c (aW _) O) (((e4.drop off).take _).append g2) (by rw[dG,w,g3,fm]) J k2
    .cases h
   .split at h
    .rename_i Z;obtain⟨rfl,rfl,d3,d4,d5,d6,d7⟩:=Z;obtain⟨_,_,_,D,q,_,_⟩:=oT h;have hM:=k id (by rw[q];exact .head _) _ V;rcases y8 p F l (fun id d=>k id (by rw[q];exact .tail _ d))with ⟨C,_⟩|⟨_,xb,xo,yc,news',f,g1,g2,g3⟩
     .omega
     exact Qe hi g i aa hw ht h (.head _) h1 h2 f V hM d3 d4 d5 d6 d7 l (A s.c (aW _) O) g1 g2 g3 (Di g2 j) hm N c2
    .cases h
  .cases h
 .cases h
end
open Go Go.Sx
 noncomputable def wM:List LV->Option (List Value)
 | []=>some []
 | .v x::l=>(wM l).map (x::·)
 |_::_=>none
 noncomputable def toV:LV->Option Value
 | .v x=>some x
 | .ag cs=>(wM cs).map fun l=>.agg l.toArray
 |_=>none
def JW{e:aH}:∀{xs:List LV} {ys zs:List Value},aK e xs ys->wM xs=some zs->ys=zs
 | [],l,z,h,k=>by simp only[aK]at h;simp only[wM,bv]at k;rw[h,k]
 |x::xs,l,z,h,k=>by
  simp only[aK]at h;obtain⟨y,ys,rfl,h1,h2⟩:=h;cases x<;>simp only[wM]at k<;>try (cases k;done)
  simp only[hH]at k;obtain⟨zs,k1,rfl⟩:=k;simp only[VR]at h1;subst h1;rw[JW h2 k1]
def JV{e:aH}{x:LV}{y z:Value}(h:VR e x y)(k:toV x=some z):y=z:=by
 cases x<;>simp only[toV]at k<;>try (cases k;done)
 .cases k;simpa only[VR]using h
 .simp only[hH]at k;obtain⟨zs,k1,rfl⟩:=k;simp only[VR]at h;obtain⟨cs',rfl,h⟩:=h;rw[JW h k1]
 noncomputable def yL:Value->Value->Option Bool
 | .int k n,.int d c=>some (k == d && n == c)
 | .string a,.string b=>some (a.data.toList == b.data.toList)
 | .bool a,.bool b=>some (a == b)
 |_,_=>none
 noncomputable def vt:List Value->List Value->Option Bool
 | [],[]=>some true
 |a::l,b::m=>match yL a b with
  |some true=>vt l m
  |some false=>some false
  |none=>none
 |_,_=>none
 noncomputable def yN:Value->Value->Option Bool
 | .agg a,.agg b=>vt a.toList b.toList
 |a,b=>yL a b
def Mx{a b:ByteArray}(h:a.data.toList=b.data.toList):a=b:=by cases a;cases b;simp only at h;congr;exact Array.toList_inj.1 h
def CT:∀{a b:Value} {r:Bool},yL a b=some r->(r=true<->a=b):=by
 intro a b r h;unfold yL at h;split at h<;>cases h
 .rename_i k n d c;simp only[bu,beq_iff_eq,Value.int.injEq]
 .rename_i a b;simp only[beq_iff_eq,Value.string.injEq];exact⟨Mx,fun h=>by rw[h]⟩
 .simp only[beq_iff_eq,Value.bool.injEq]
def Hz:∀{l m:List Value} {r:Bool},vt l m=some r->(r=true<->l=m)
 | [],[],r,h=>by simp only[vt,bv]at h;subst h;simp
 | [],b::m,r,h=>by cases h
 |a::l,[],r,h=>by cases h
 |a::l,b::m,r,h=>by
  simp only[vt]at h;split at h
  .rename_i h1;have d:=(CT h1).1 rfl;subst d;rw[Hz h];simp
  .rename_i h1;cases h
   have:=CT h1;simp only[iN,false_iff]at this |-;intro c;cases c;exact this rfl
  .cases h
def yO{a b:Value}{r:Bool}(h:yN a b=some r):r=true<->a=b:=by
 unfold yN at h;split at h
 .rename_i a b;rw[Hz h];constructor
  .intro h;congr;exact Array.toList_inj.1 h
  .intro h;cases h;rfl
 .exact CT h
 noncomputable def sG(key:Value):List (Value×LV)->Option (Option LV)
 | []=>some none
 |(k,v)::l=>match yN k key with
  |some true=>some (some v)
  |some false=>sG key l
  |none=>none
 noncomputable def sC(key:Value):List (Value×LV)->Option (List (Value×LV))
 | []=>some []
 |(k,v)::l=>match yN k key with
  |some true=>sC key l
  |some false=>(sC key l).map ((k,v)::·)
  |none=>none
def Ca{key:Value}{v:LV}:∀{l:List (Value×LV)},sG key l=some (some v)->(key,v)∈l
 | [],h=>by cases h
 |(k,u)::l,h=>by
  simp only[sG]at h;split at h
  .rename_i h1;cases h;rw[<-(yO h1).1 rfl];exact .head _
  .exact .tail _ (Ca h)
  .cases h
def Gp{key:Value}:∀{l:List (Value×LV)},sG key l=some none->∀k∈l,k.1≠key
 | [],h,k,a=>by cases a
 |(b,u)::l,h,k,a=>by
  simp only[sG]at h;split at h
  .cases h
  .rename_i h1;rcases List.mem_cons.1 a with rfl|a
   .have:=yO h1;simp at this;exact this
   .exact Gp h k a
  .cases h
def uN{key:Value}:∀{l m:List (Value×LV)},sC key l=some m->∀k,k∈m<->k∈l/\k.1≠key
 | [],m,h,k=>by simp only[sC,bv]at h;subst h;simp
 |(d,u)::l,m,h,k=>by
  simp only[sC]at h;split at h
  .rename_i h1;have c:=(yO h1).1 rfl;rw[uN h k];constructor
   .rintro⟨a,b⟩;exact⟨.tail _ a,b⟩
   .rintro⟨a,b⟩;rcases List.mem_cons.1 a with rfl|a
    .exact absurd c b
    .exact⟨a,b⟩
  .rename_i h1;simp only[hH]at h;obtain⟨m',h2,rfl⟩:=h;have:=yO h1;simp at this;rw[fC,uN h2 k,fC];constructor
   .rintro(rfl|⟨a,b⟩)
    .exact⟨.inl rfl,this⟩
    .exact⟨.inr a,b⟩
   .rintro⟨rfl|a,b⟩
    .exact .inl rfl
    .exact .inr ⟨a,b⟩
  .cases h
 noncomputable def vC(P:Program)(mt:TypeId):Option (TypeId×TypeId):=match P.underlying mt with|some (.map k e)=>some (k,e)|_=>none
 noncomputable def yU(X:bQ)(mt:TypeId)(x y:Option LV)(s:KS):Option HR:=
 match vC X.P mt,x,y with
 |some (kt,b),some (.m id),some k=>match toV k,aZ X.P b,s.L.get id with
  |some key,some z,some (.map es a)=>if X.keyed kt=true/\(keyOf X.P kt key).isSome=true/\a=kt then match sG key es with
   |some (some v)=>some ⟨.tu [v,.v (.bool true)],s,[id],[]⟩
   |some none=>some ⟨.tu [.v z,.v (.bool false)],s,[id],[]⟩
   |none=>none else none
  |_,_,_=>none
 |_,_,_=>none
 noncomputable def tH(X:bQ)(mt:TypeId)(x y z:Option LV)(s:KS):Option HR:=
 match vC X.P mt,x,y,z with
 |some (kt,_),some (.m id),some k,some v=>match toV k,s.L.get id with
  |some key,some (.map es a)=>if X.keyed kt=true/\(keyOf X.P kt key).isSome=true/\a=kt/\x9 v=true then match sC key es with
   |some b=>nZ s id (.map ((key,v)::b) kt)
   |none=>none else none
  |_,_=>none
 |_,_,_,_=>none
 noncomputable def vF(P:Program)(mt:TypeId)(s:KS):Option HR:=match vC P mt with|some (kt,_)=>nL s (.map [] kt) (fun c=>.m c)|none=>none
def HU{P:Program}{mt kt et:TypeId}(h:vC P mt=some (kt,et)):P.underlying mt=some (.map kt et):=by
 unfold vC at h;split at h
 .cases h;assumption
 .cases h
section
variable {X:bQ} {ol:List Oper} {o:Oper} {σ:St} {e:aH} {M:LM} {I H:PH} {ρ:dY}
variable{r:HR}{s:KS}{mt:TypeId}
def Sr{x y:Operand}(aa:o.op=.lookup mt x y true)(hw:be ol σ o=some true)(C:OR e ρ σ)(h:yU X mt (ρ x) (ρ y) s=some r)(q:cD X e M I H)
  (i:∀id∈r.fp,∀ob,s.L.get id=some ob->M id=some ob):Good X ol o σ e M I H s r:=by
 unfold yU at h;split at h
 case h_2=>cases h
 rename_i kt W id k hm J G;split at h
 case h_2=>cases h
 rename_i key z es c K F B;split at h
 case isFalse=>cases h
 rename_i N;obtain⟨U,c2,rfl⟩:=N;obtain⟨V,h1,h2⟩:=C _ _ J;obtain⟨m,h3,Q⟩:=C _ _ G;simp only[VR]at h2;obtain⟨b,x',T,rfl⟩:=h2;have g:=JV Q K;subst g;have t:dQ X.P c m:=Option.isSome_iff_exists.1 c2;have a:∀(v:LV) (is:Bool) (d:Value),r=⟨.tu [v,.v (.bool is)],s,[id],[]⟩->VR e v d->(∀S,dA X.P H b c S->(∀y u,S y u<->∃k∈es,k.1=y/\VR e k.2 u)->(is=true/\S m d\/is=false/\d=z/\∀u,¬S m u))->M id=some (.map es c)->Good X ol o σ e M I H s r:=by intro v is d hr hv j f;subst hr;obtain⟨b2,A,R,w,D⟩:=q.ob id _ f;rw[T]at A;cases A;obtain⟨g1,g2⟩:=C3 (X.keyedOk U) (HU hm) F aa h1 h3 w t (j _ w (fun _ _=>Iff.rfl));refine Good.look rfl rfl (ft.pure hw q ⟨_,?_,.inr ⟨_,rfl,g1,g2⟩⟩ _);simp only[VR];exact⟨[d,.bool is],rfl,by simp only[aK,VR];exact⟨d,_,rfl,hv,_,_,rfl,rfl,rfl⟩⟩
 split at h
 .rename_i v hf;have hr:r=_:=(df h).symm;have f:=i id (by rw[hr];exact .head _) _ B;obtain⟨b2,A,R,w,D⟩:=q.ob id _ f;obtain⟨⟨u,l⟩,_⟩:=D _ (Ca hf);exact a v true u hr l (fun S _ j=>.inl ⟨rfl,(j _ _).2 ⟨_,Ca hf,rfl,l⟩⟩) f
 .rename_i hf;have hr:r=_:=(df h).symm;have f:=i id (by rw[hr];exact .head _) _ B;exact a (.v z) false z hr (by simp only[VR]) (fun S _ j=>.inr ⟨rfl,rfl,fun u l=>by obtain⟨k,p,n,_⟩:=(j _ _).1 l;exact Gp hf k p n⟩) f
 .cases h
def Kb{x y z:Operand}(aa:o.op=.mapUpdate mt x y z\/o.op=.insert mt x y z)(hd:o.dst=none)(hw:be ol σ o=some true)(m:OR e ρ σ)(h:tH X mt (ρ x) (ρ y) (ρ z) s=some r)(w:cD X e M I H)
  (l:∀id∈r.fp,∀ob,s.L.get id=some ob->M id=some ob):Good X ol o σ e M I H s r:=by
 unfold tH at h;split at h
 case h_2=>cases h
 rename_i kt et id k v hm R Q N;split at h
 case h_2=>cases h
 rename_i key es i c t;split at h
 case isFalse=>cases h
 rename_i S;obtain⟨c1,c2,rfl,c3⟩:=S;split at h
 case h_2=>cases h
 rename_i Z d;obtain⟨vx,h1,h2⟩:=m _ _ R;obtain⟨D,h3,U⟩:=m _ _ Q;obtain⟨vz,T,p⟩:=m _ _ N;simp only[VR]at h2;obtain⟨b,x',q,rfl⟩:=h2;have f:=JV U c;subst f;have n:dQ X.P i D:=Option.isSome_iff_exists.1 c2;obtain⟨s1,s2,F,s4,s5⟩:=zF h;have A:=l id (by rw[F];exact .head _) _ t;obtain⟨b2,C,B,W,V⟩:=w.ob id _ A;rw[q]at C;cases C;obtain⟨k1,k2⟩:=D4 (X.keyedOk c1) (HU hm) aa h1 h3 T W n;refine Good.set h ⟨_,t⟩ (ft.spec hw k1 (k2.mono fun sv H2 ⟨K,ob,J,G⟩=>?_));subst J;refine⟨e,undef,.inr ⟨K,hd⟩,aH.le_refl e,fun _ _=>rfl,by simp only[VR],w.write q B A rfl ?_⟩;refine⟨b,q,B,G.congr fun y u=>?_,fun k c=>?_⟩
 .constructor
  .rintro⟨k,c,rfl,g⟩;rcases List.mem_cons.1 c with rfl|c
   .exact .inl ⟨rfl,VR.func c3 g p⟩
   .obtain⟨a,b⟩:=(uN d k).1 c;exact .inr ⟨b,k,a,rfl,g⟩
  .rintro(⟨rfl,rfl⟩|⟨j,k,c,rfl,g⟩)
   .exact⟨_,.head _,rfl,p⟩
   .exact⟨k,.tail _ ((uN d k).2 ⟨c,j⟩),rfl,g⟩
 .rcases List.mem_cons.1 c with rfl|c
  .exact⟨⟨_,p⟩,c3⟩
  .exact V k ((uN d k).1 c).1
def S1(aa:o.op=.makeMap mt none)(hw:be ol σ o=some true)(h:vF X.P mt s=some r)(d:cD X e M I H)(a:M s.c=none/\e s.c=none):Good X ol o σ e M I H s r:=by
 unfold vF at h;split at h
 .rename_i kt l hm;obtain⟨k1,k2⟩:=JA (P:=X.P) (σ:=σ) (H:=H) aa;refine Good.new h (ft.spec hw k1 (k2.mono fun sv H2 ⟨b,hb,g,f⟩=>?_));subst f;refine⟨e.up s.c (.blk b 0),_,.inl g,aH.le_up a.2,fun id j=>aH.up_other O,by simp only[VR];exact⟨b,0,aH.up_self _ _ _,rfl⟩,d.fresh a.2 a.1 hb ?_⟩;refine⟨b,aH.up_self _ _ _,PH.le_none d.le hb,(dA.empty (by simp[PH.put])).congr fun y u=>by simp,fun k i=>by cases i⟩
 .cases h
end
open Go Go.Sx
 noncomputable def uF(P:Program)(a d:TypeId)(x:Option LV)(s:KS):Option HR:=
 match P.underlying a,P.underlying d,x with
 |some .string,some (.slice e),some (.v (.string b))=>match P.underlying e with
  |some (.int .u8)=>nL s (.ro (b.data.toList.map fun c=>.v (.int .u8 c.toNat))) (fun c=>.sl c 0 b.size b.size false)
  |_=>none
 |_,_,_=>none
variable{r:HR}{s:KS}
def Nr{X:bQ}{ol:List Oper}{o:Oper}{σ:St}{e:aH}{M:LM}{I H:PH}{ρ:dY}{a d:TypeId}{x:Operand}(aa:o.op=.convert a d x)(hw:be ol σ o=some true)(u:OR e ρ σ)(h:uF X.P a d (ρ x) s=some r)(t:cD X e M I H)(g:M s.c=none/\e s.c=none):Good X ol o σ e M I H s r:=by
 unfold uF at h;split at h
 .rename_i f b ha hd m;split at h
  .rename_i q;obtain⟨z,h1,h2⟩:=u _ _ m;simp only[VR]at h2;subst h2;refine Good.new h (ft.spec hw (px (by rw[aa];rfl) (by rw[aa];simp[Op.operands,h1])) fun w j=>?_);have i:(execOp (aQ σ) o).run X.P w=.ok (.value (.slice (some ⟨w.heap.size,0,none⟩) b.size (grownCap w b.size 0 f))) (w.drew.alloc (.cells (bytesRow b (grownCap w b.size 0 f)) f ((bytesRow b (grownCap w b.size 0 f)).size,(bytesRow b (grownCap w b.size 0 f)).size+1))):=by simp[execOp,aa,BC h1,run_bytes_of_string w a d f b ha hd q,Result.andThen]
   rw[i];obtain⟨l,k⟩:=bN.newD j (.cells (bytesRow b (grownCap w b.size 0 f)) f ((bytesRow b (grownCap w b.size 0 f)).size,(bytesRow b (grownCap w b.size 0 f)).size+1));have p:=grownCap_ge w b.size 0 f;refine⟨_,k,e.up s.c (.blk w.heap.size (grownCap w b.size 0 f-b.size)),_,.inl rfl,aH.le_up g.2,fun id n=>aH.up_other O,?_,t.fresh g.2 g.1 l ?_⟩
   .simp only[VR];exact⟨_,_,aH.up_self _ _ _,by simp;omega⟩
   .refine⟨w.heap.size,_,b.data.toList.map fun c=>Value.int .u8 c.toNat,List.replicate (grownCap w b.size 0 f-b.size) (.int .u8 0),f,((bytesRow b (grownCap w b.size 0 f)).size,(bytesRow b (grownCap w b.size 0 f)).size+1),aH.up_self _ _ _,?_,?_⟩
    .simp only[PH.put,cY];congr 2;simp[bytesRow,<-jb]
    .have:=aK.map_v (e.up s.c (.blk w.heap.size (grownCap w b.size 0 f-b.size))) (b.data.toList.map fun c=>Value.int .u8 c.toNat);simpa[Function.comp_def]using this
  .cases h
 .cases h
 noncomputable def xT(P:Program)(T:TypeId)(x y z:Option LV)(s:KS):Option HR:=
 match ww P T,x,y,z with
 |some _,some (.sl id off _ cap _),some (.v (.int _ h)),some (.v (.int _ m))=>if 0<=h/\h<=m/\m<=cap then some ⟨.sl id off h.toNat m.toNat true,s,[],[]⟩else none
 |some _,some (.v (.slice none 0 0)),some (.v (.int _ h)),some (.v (.int _ m))=>if h=0/\m=0 then some ⟨.v (.slice none 0 0),s,[],[]⟩else none
 |_,_,_,_=>none
def Nc{X:bQ}{ol:List Oper}{o:Oper}{σ:St}{e:aH}{M:LM}{I H:PH}{ρ:dY}{T:TypeId}{x y z:Operand}(aa:o.op=.slice T x none (some y) (some z))(hw:be ol σ o=some true)(a:OR e ρ σ)(h:xT X.P T (ρ x) (ρ y) (ρ z) s=some r)(w:cD X e M I H):Good X ol o σ e M I H s r:=by
 unfold xT at h;split at h
 .rename_i es id off len cap ex k1 G k2 m t n l k;obtain⟨J,size,bytes⟩:=es;split at h
  .rename_i u;cases h
   obtain⟨i,q,p,hi,j,a4,a5,N,L⟩:=zQ t;obtain⟨C,h1,h2⟩:=a _ _ n;obtain⟨B,h3,d⟩:=a _ _ l;obtain⟨A,v,c⟩:=a _ _ k;simp only[VR]at h2 d c;obtain⟨b,x',K,rfl⟩:=h2;subst d;subst c;obtain⟨F,rfl⟩:=Int.eq_ofNat_of_zero_le u.1;obtain⟨D,rfl⟩:=Int.eq_ofNat_of_zero_le (show 0<=m by omega);obtain⟨k1,k2⟩:=JB (H:=H) (h:=F) (m:=D) aa p ⟨i,hi,a4⟩ h1 h3 v O (by split<;>omega);refine Good.look rfl rfl (ft.spec hw k1 (k2.mono fun sv H2 ⟨g,f⟩=>?_));subst f;refine⟨e,_,.inl g,aH.le_refl e,fun _ _=>rfl,?_,w⟩;simp only[VR];refine⟨b,x',K,?_⟩;simp[eZ,Addr.add]
  .cases h
 .rename_i es k1 G k2 m t n l k;obtain⟨J,size,bytes⟩:=es;split at h
  .rename_i u;obtain⟨rfl,rfl⟩:=u;cases h
   obtain⟨i,q,p,hi,j,a4,a5,N,L⟩:=zQ t;obtain⟨C,h1,h2⟩:=a _ _ n;obtain⟨B,h3,d⟩:=a _ _ l;obtain⟨A,v,c⟩:=a _ _ k;simp only[VR]at h2 d c;subst h2;subst d;subst c;obtain⟨k1,k2⟩:=JB (H:=H) (h:=0) (m:=0) aa p ⟨i,hi,a4⟩ h1 h3 v O O;refine Good.look rfl rfl (ft.spec hw k1 (k2.mono fun sv H2 ⟨g,f⟩=>?_));subst f;refine⟨e,_,.inl g,aH.le_refl e,fun _ _=>rfl,?_,w⟩;simp[VR,eZ]
  .cases h
 .cases h
 noncomputable def jm(X:bQ)(ρ:dY)(o:Oper)(s:KS):Option HR:=
 match mB X.P ρ o.op with
 |some v=>some ⟨v,s,[],[]⟩
 |none=>match o.op with
  | .load T x=>vA X.P T (ρ x) s
  | .alloc T=>sd X.P T s
  | .box T x=>si X.P T (ρ x) s
  | .store T x y=>if o.dst=none then wA X.P T (ρ x) (ρ y) s else none
  | .buildSlice t len parts=>sj X.P t len (allPL ρ parts.toList) s
  | .makeMap mt none=>vF X.P mt s
  | .lookup mt x y true=>yU X mt (ρ x) (ρ y) s
  | .convert a d x=>uF X.P a d (ρ x) s
  | .slice T x none (some y) (some z)=>xT X.P T (ρ x) (ρ y) (ρ z) s
  | .mapUpdate mt x y z=>if o.dst=none then tH X mt (ρ x) (ρ y) (ρ z) s else none
  | .insert mt x y z=>if o.dst=none then tH X mt (ρ x) (ρ y) (ρ z) s else none
  | .call ⟨.builtin .append,args,b⟩=>match args.toList,b.toList with
   | [x,y],[t,c]=>xC X.P t c (ρ x) (ρ y) s
   |_,_=>none
  |_=>none
def Tl{X:bQ}{ol:List Oper}{o:Oper}{σ:St}{e:aH}{M:LM}{I H:PH}{ρ:dY}(hw:be ol σ o=some true)(k:OR e ρ σ)(h:jm X ρ o s=some r)(j:cD X e M I H)
  (i:∀id∈r.fp,∀ob,s.L.get id=some ob->M id=some ob) (g:∀id,s.c<=id->id<r.s.c->M id=none/\e id=none):Good X ol o σ e M I H s r:=by
 unfold jm at h;split at h
 .rename_i v hv;cases h
  exact Good.look rfl rfl (ft.pure hw j (To k hv) _)
 .split at h
  .rename_i T x aa;obtain⟨a,b,c⟩:=Sq aa hw k h j i;exact Good.look a b (c _)
  .rename_i T aa;have l:r.s.c=s.c+1:=by
    have f:=h;unfold sd at f;split at f
    .exact(qL f).2.1
    .cases f
   exact LW aa hw h j (g s.c (aW _) O)
  .rename_i T x aa;have l:r.s.c=s.c+1:=by
    have f:=h;unfold si at f;split at f
    .exact(qL f).2.1
    .cases f
   exact Mr aa hw k h j (g s.c (aW _) O)
  .rename_i T x y aa;split at h
   .rename_i hd;exact Vj aa hd hw k h j i
   .cases h
  .rename_i t len parts aa;have l:r.s.c=s.c+1:=by
    have f:=h;unfold sj at f;split at f
    .split at f
     .exact(qL f).2.1
     .cases f
    .cases f
   exact Mt aa hw k h j (g s.c (aW _) O)
  .rename_i mt aa;have l:r.s.c=s.c+1:=by
    have f:=h;unfold vF at f;split at f
    .exact(qL f).2.1
    .cases f
   exact S1 aa hw h j (g s.c (aW _) O)
  .rename_i mt x y aa;exact Sr aa hw k h j i
  .rename_i a d x aa;have l:r.s.c=s.c+1:=by
    have f:=h;unfold uF at f;split at f
    .split at f
     .exact(qL f).2.1
     .cases f
    .cases f
   exact Nr aa hw k h j (g s.c (aW _) O)
  .rename_i T x y z aa;exact Nc aa hw k h j
  .rename_i mt x y z aa;split at h
   .rename_i hd;exact Kb (.inl aa) hd hw k h j i
   .cases h
  .rename_i mt x y z aa;split at h
   .rename_i hd;exact Kb (.inr aa) hd hw k h j i
   .cases h
  .rename_i args m aa;split at h
   .rename_i x y t n ha ht;have p:args=#[x,y]:=by rw[<-jb];simpa using ha
    have e2:m=#[t,n]:=by rw[<-jb];simpa using ht
    subst p;subst e2;exact L8 aa hw k h j i g
   .cases h
  .cases h
 noncomputable def iA(τ:Tr LV)(G:Nat):dY
 | .tmp t=>τ.get t
 | .const v=>some (.v v)
 | .global g=>if g<G then some (.p g 0)else none
 | .func f=>some (.f (.func f) [] [])
 noncomputable def GE(G:Nat)(e:aH):Prop:=∀g,g<G->e g=some (.blk g 0)
structure SR(e:aH)(τ:Tr LV)(N:Nat)(σ:St):Prop where
 bx:σ.bx=[]
 len:σ.tm.length=N
 tm:∀t v,τ.get t=some v->∃y,eW σ.tm t=.v y/\VR e v y
variable{N:Nat}{τ:Tr LV}
def SR.mono{e e':aH}{σ:St}(h:SR e τ N σ)(k:e.le e'):SR e' τ N σ:=⟨h.bx,h.len,fun t v ht=>let ⟨y,a,b⟩:=h.tm t v ht;⟨y,a,b.mono k⟩⟩
theorem SR.or{e:aH}{σ:St}(h:SR e τ N σ){G:Nat}(g:GE G e):OR e (iA τ G) σ:=by
 intro x v a;cases x with
 |tmp t=>exact h.tm t v a
 |const c=>simp only[iA,bv]at a;subst a;exact⟨c,rfl,by simp only[VR]⟩
 |global n=>
  simp only[iA]at a;split at a
  .rename_i b;cases a;exact⟨_,rfl,by simp only[VR];exact⟨n,0,g n b,rfl⟩⟩
  .cases a
 |func f=>simp only[iA,bv]at a;subst a;exact⟨_,rfl,by simp only[VR];exact⟨[],[],rfl,by simp[aK],by simp[aK]⟩⟩
 noncomputable def iI(τ:Tr LV)(N:Nat)(d:Option Tmp)(v:LV):Option (Tr LV):=
 match d with
 |none=>some τ
 |some d=>if d<N then τ.put d v else none
def Ci(l:List SV)(n m:Nat)(y:SV):eW (fB l n y) m=if n=m/\n<l.length then y else eW l m:=by
 rw[lB,n3,lB];by_cases e:n=m
 .subst e;by_cases h:n<l.length
  .simp[h]
  .simp[h,fW (Nat.le_of_not_lt h)]
 .simp[e]
theorem SR.put{e:aH}{τ':Tr LV}{σ:St}(h:SR e τ N σ){d:Option Tmp}{v:LV}{y:Value}(hp:iI τ N d v=some τ')(hv:VR e v y):SR e τ' N (σ.put d (.v y)):=by
 cases d with
 |none=>simp only[iI,bv]at hp;subst hp;exact h
 |some d=>
  simp only[iI]at hp;split at hp
  .rename_i hd;refine⟨h.bx,by simp[St.put,wv,h.len],fun t w ht=>?_⟩;rw[Tr.get_put hp]at ht;simp only[St.put,Ci];by_cases a:t=d
   .subst a;rw[ak rfl]at ht;cases ht;rw[ak ⟨rfl,by rw[h.len];exact hd⟩];exact⟨y,rfl,hv⟩
   .rw[ad a]at ht;rw[ad (fun h=>a h.1.symm)];exact h.tm t w ht
  .cases hp
 noncomputable def wR(ol:List Oper)(τ:Tr LV)(o:Oper):Option Bool:=
 match o.guard with
 |none=>some true
 |some (j,a)=>match ol[j]? with
  |some o'=>match o'.dst with
   |some t=>match τ.get t with
    |some (.v (.bool b))=>some (b == a)
    |some (.v (.tuple _))=>some false
    |some (.tu _)=>some false
    |_=>none
   |none=>none
  |none=>none
 noncomputable def yA(ol:List Oper)(o:Oper):Option Tmp:=match o.guard with|none=>none|some (j,_)=>(ol[j]?).bind (·.dst)
def Az{ol:List Oper}{o:Oper}{r:Bool}(h:wR ol τ o=some r){e:aH}{σ:St}(k:∀t,yA ol o=some t->∀v,τ.get t=some v->∃y,eW σ.tm t=.v y/\VR e v y):be ol σ o=some r:=by
 unfold wR at h;unfold be;unfold yA at k;cases f:o.guard with
 |none=>rw[f]at h;exact h
 |some p=>
  obtain⟨j,c⟩:=p;rw[f]at h k;simp only at h k |-;cases d:ol[j]? with
  |none=>rw[d]at h;cases h
  |some o'=>
   rw[d]at h k;simp only[jz]at h k |-;cases hd:o'.dst with
   |none=>rw[hd]at h;cases h
   |some t=>
    rw[hd]at h k;simp only at h |-;have a:=k t rfl;split at h
    .rename_i b hb;obtain⟨y,h1,h2⟩:=a _ hb;simp only[VR]at h2;subst h2;rw[h1];exact h
    .rename_i b hb;obtain⟨y,h1,h2⟩:=a _ hb;simp only[VR]at h2;subst h2;rw[h1];exact h
    .rename_i b hb;obtain⟨y,h1,h2⟩:=a _ hb;simp only[VR]at h2;obtain⟨cs',rfl,_⟩:=h2;rw[h1];exact h
    .cases h
abbrev c8:=FuncId->List LV->KS->Option (LV×KS×List Nat)
 noncomputable def lq(M:LM)(e:aH)(lo hi:Nat):Prop:=∀id,lo<=id->id<hi->M id=none/\e id=none
 noncomputable def qd(M:LM)(L:Tr LO):Prop:=∀id ob,L.get id=some ob->M id=some ob
 noncomputable def lS(hd:List Nat)(M:LM)(L:Tr LO):Prop:=∀id ob,L.get id=some ob->id∉hd->M id=some ob
variable{hd:List Nat}{L:Tr LO}
def qd.x{M:LM}(h:qd M L):lS hd M L:=fun id ob k _=>h id ob k
def lS.nil{M:LM}(h:lS [] M L):qd M L:=fun id ob k=>h id ob k dH
structure wX(X:bQ)(G:Nat)(hd:List Nat)(call:c8):Prop where
 goes:∀{f args s r},call f args s=some r->ay X.P f
 cle:∀{f args s v s' ws},call f args s=some (v,s',ws)->s.c<=s'.c
 keep:∀{f args s v s' ws},call f args s=some (v,s',ws)->∀id,id∉ws->¬(s.c<=id/\id<s'.c)->s'.L.get id=s.L.get id
 sub:∀{f args s v s' ws},call f args s=some (v,s',ws)->∀id∈ws,∃ob,s.L.get id=some ob
 does:∀{f args s v s' ws},call f args s=some (v,s',ws)->∀{M e I H args'},lS hd M s.L->(∀id,s.c<=id->s.L.get id=none)->lq M e s.c s'.c->GE G e->cD X e M I H->aK e args args'->
  aJ X.P f args'.toArray H fun y H2=>∃e2 I2,e.le e2/\(∀id,¬(s.c<=id/\id<s'.c)->e2 id=e id)/\VR e2 v y/\cD X e2 (cJ M ws s.c s'.c s'.L) I2 H2/\I.le I2
 noncomputable def f8(X:bQ)(G:Nat)(call:c8):Prop:=wX X G [] call
 noncomputable def qx:List Nat->Tr LO->Tr LO
 | [],L=>L
 |id::l,L=>qx l (L.del id)
 noncomputable def qo(L0:Tr LO):List Nat->Tr LO->Tr LO
 | [],L=>L
 |id::l,L=>qo L0 l (match L0.get id with|some ob=>Tr.set L id ob|none=>L)
def sJ:∀(hd:List Nat) (L:Tr LO) (id:Nat),(qx hd L).get id=if id∈hd then none else L.get id
 | [],L,id=>by simp[qx]
 |j::l,L,id=>by
  simp only[qx];rw[sJ l,Tr.get_del];by_cases h:id∈l
  .simp[h]
  .by_cases e:id=j<;>simp[h,e]
def Cj{L0:Tr LO}:∀(hd:List Nat) (L:Tr LO) (id:Nat),(∀j∈hd,j<2147483647)->(qo L0 hd L).get id=if id∈hd/\(L0.get id).isSome=true then L0.get id else L.get id
 | [],L,id,_=>by simp[qo]
 |j::l,L,id,h=>by
  simp only[qo];rw[Cj l _ id (fun k b=>h k (.tail _ b))];have c:=h j (.head _);by_cases a:id∈l/\(L0.get id).isSome=true
  .rw[ak a,ak ⟨.tail _ a.1,a.2⟩]
  .rw[ad a];by_cases e:id=j
   .subst e;cases d:L0.get id with
    |none=>simp
    |some ob=>simp only[];rw[Tr.get_set _ _ _ _ O];simp
   .rw[ad (fun k=>a ⟨(List.mem_cons.1 k.1).resolve_left e,k.2⟩)];split
    .rw[Tr.get_set _ _ _ _ O,ad e]
    .rfl
 noncomputable def nF(hd:List Nat)(call:c8):c8:=fun f args s=>match hd with
 | []=>call f args s
 |hd=>if hd.all (fun id=>decide (id<s.c/\id<2147483647))=true then match call f args ⟨qx hd s.L,s.c⟩with
  |some (v,a,ws)=>some (v,⟨qo s.L hd a.L,a.c⟩,ws)
  |none=>none
  else none
variable{call:c8}
def u7{f:FuncId}{args:List LV}{s':KS}{v:LV}{ws:List Nat}(h:nF hd call f args s=some (v,s',ws)):
  (hd=[]/\call f args s=some (v,s',ws))\/((∀id∈hd,id<s.c/\id<2147483647)/\∃a,call f args ⟨qx hd s.L,s.c⟩=some (v,a,ws)/\s'=⟨qo s.L hd a.L,a.c⟩):=by
 unfold nF at h;split at h
 .exact .inl ⟨rfl,h⟩
 .split at h
  .rename_i e;split at h
   .rename_i i a d g;cases h
    exact .inr ⟨fun id b=>eF (List.all_eq_true.1 e id b),a,g,rfl⟩
   .cases h
  .cases h
def u6{X:bQ}{G:Nat}(b:f8 X G call)(hd:List Nat):wX X G hd (nF hd call) where
 goes:=by intro f args s r h;obtain⟨v,s',ws⟩:=r;rcases u7 h with ⟨_,h⟩|⟨_,d,h,_⟩<;>exact b.goes h
 cle:=by
  intro f args s v s' ws h;rcases u7 h with ⟨_,a⟩|⟨_,d,a,rfl⟩
  .exact b.cle a
  .have:=b.cle a;exact this
 keep:=by
  intro f args s v s' ws h id h1 h2;rcases u7 h with ⟨_,a⟩|⟨hb,d,a,rfl⟩
  .exact b.keep a id h1 h2
  .have:=b.keep a id h1 h2;simp only at this |-;rw[Cj hd _ id fun j m=>(hb j m).2];split
   .rfl
   .rename_i l;rw[this,sJ];split
    .rename_i hm;cases t:s.L.get id with
     |none=>rfl
     |some ob=>exact absurd ⟨hm,by rw[t];rfl⟩ l
    .rfl
 sub:=by
  intro f args s v s' ws h id g;rcases u7 h with ⟨_,a⟩|⟨hb,d,a,rfl⟩
  .exact b.sub a id g
  .obtain⟨ob,h1⟩:=b.sub a id g;simp only at h1;rw[sJ]at h1;split at h1
   .cases h1
   .exact⟨ob,h1⟩
 does:=by
  intro f args s v s' ws h M e I H args' p k hf q o ha;rcases u7 h with ⟨rfl,a⟩|⟨hb,d,a,rfl⟩
  .exact b.does a p k hf q o ha
  .have n:lS [] M (qx hd s.L):=by
    intro id ob h1 _;rw[sJ]at h1;split at h1
    .cases h1
    .rename_i l;exact p id ob h1 l
   have:=b.does a (M:=M) (e:=e) n (fun id g=>by rw[sJ];split;rfl;exact k id g) hf q o ha;have u:cJ M ws s.c d.c (qo s.L hd d.L)=cJ M ws s.c d.c d.L:=by
    funext id;unfold cJ;by_cases i:id∈ws\/(s.c<=id/\id<d.c)
    .rw[ak i,ak i,Cj hd _ id fun j m=>(hb j m).2,ad];rintro⟨k1,_⟩;rcases i with i|i
     .obtain⟨ob,h1⟩:=b.sub a id i;simp only at h1;rw[sJ,ak k1]at h1;cases h1
     .have:=(hb id k1).1;omega
    .rw[ad i,ad i]
   simp only;rw[u];exact this
def xy{ρ ρ':dY}:∀{l:List Operand},(∀x∈l,ρ x=ρ' x)->allL ρ l=allL ρ' l
 | [],_=>rfl
 |x::l,h=>by simp only[allL];rw[h x (.head _),xy fun y a=>h y (.tail _ a)]
def Bo{ρ ρ':dY}:∀{l:List (Nat×Operand)},(∀x∈l,ρ x.2=ρ' x.2)->allPL ρ l=allPL ρ' l
 | [],_=>rfl
 |(i,x)::l,h=>by simp only[allPL];rw[h (i,x) (.head _),Bo fun y a=>h y (.tail _ a)]
variable{ρ':dY}{P:Program}
def Mz{ρ:dY}{c:Call}(h:∀x∈c.args.toList,ρ x=ρ' x):uA P ρ c=uA P ρ' c:=by
 unfold uA;split
 .rename_i x t a ha ht;rw[ha]at h;rw[h _ (.head _)]
 .rename_i x t a ha ht;rw[ha]at h;rw[h _ (.head _)]
 .rename_i x y a ha;rw[ha]at h;rw[h _ (.head _),h _ (.tail _ (.head _))]
 .rename_i x y a ha;rw[ha]at h;rw[h _ (.head _),h _ (.tail _ (.head _))]
 .rfl
def Tn{ρ:dY}{op:Op}(h:∀x∈op.operands,ρ x=ρ' x):mB P ρ op=mB P ρ' op:=by
 cases op<;>simp only[mB]<;>simp only[Op.operands]at h
 case build T ps=>
  rw[Bo (l:=ps.toList) fun x a=>h x.2 (by simpa using ⟨x.1,by simpa using a⟩)]
 case slice T x lo hi mx=>
  have a:=h x ai;have b:lo.map ρ=lo.map ρ':=by
   cases lo with
   |none=>rfl
   |some z=>simp only[fO];rw[h z ai]
  have e:hi.map ρ=hi.map ρ':=by
   cases hi with
   |none=>rfl
   |some z=>simp only[fO];rw[h z ai]
  cases mx with
  |none=>simp only[];rw[a,b,e]
  |some _=>rfl
 case makeFunc fn f c=>
  rw[xy (l:=f.toList) fun x a=>h x (by simp;exact .inl (by simpa using a)),xy (l:=c.toList) fun x a=>h x (by simp;exact .inr (by simpa using a))]
 case call c=>
  exact Mz fun x a=>h x (by simp only[Call.operands];simp;exact .inr (by simpa using a))
 case move x=>rw[h x ai]
 case assign x=>rw[h x ai]
 case pick c x y=>rw[h c ai,h x ai,h y ai]
 case fieldAddr T x f=>rw[h x ai]
 case nilCheck x=>rw[h x ai]
 case indexAddr T x i=>rw[h x ai,h i ai]
 case index T x i=>rw[h x ai,h i ai]
 case field T x f=>rw[h x ai]
 case extract x n=>rw[h x ai]
 case binOp bo T x y T2=>rw[h x ai,h y ai]
 case unOp u T x=>rw[h x ai]
 case convert s d x=>rw[h x ai]
 case makeInterface T x=>rw[h x ai]
def Tk{X:bQ}{ρ:dY}{o:Oper}(h:∀x∈o.op.operands,ρ x=ρ' x):jm X ρ o s=jm X ρ' o s:=by
 unfold jm;rw[Tn h];split
 .rfl
 .split
  .rename_i T x aa;rw[aa]at h;simp only[Op.operands]at h;rw[h x ai]
  .rfl
  .rename_i T x aa;rw[aa]at h;simp only[Op.operands]at h;rw[h x ai]
  .rename_i T x y aa;rw[aa]at h;simp only[Op.operands]at h;rw[h x ai,h y ai]
  .rename_i t len parts aa;rw[aa]at h;simp only[Op.operands]at h;rw[Bo (l:=parts.toList) fun x c=>h x.2 (by simpa using ⟨x.1,by simpa using c⟩)]
  .rfl
  .rename_i mt x y aa;rw[aa]at h;simp only[Op.operands]at h;rw[h x ai,h y ai]
  .rename_i a d x aa;rw[aa]at h;simp only[Op.operands]at h;rw[h x ai]
  .rename_i T x y z aa;rw[aa]at h;simp only[Op.operands]at h;rw[h x ai,h y ai,h z ai]
  .rename_i mt x y z aa;rw[aa]at h;simp only[Op.operands]at h;rw[h x ai,h y ai,h z ai]
  .rename_i mt x y z aa;rw[aa]at h;simp only[Op.operands]at h;rw[h x ai,h y ai,h z ai]
  .rename_i args b aa;rw[aa]at h;simp only[Op.operands,Call.operands]at h;split
   .rename_i x y t f ha ht;have e:args=#[x,y]:=by rw[<-jb];simpa using ha
    subst e;rw[h x ai,h y ai]
   .rfl
  .rfl
 noncomputable def oW(ρ:dY)(op:Op):Option (FuncId×List LV):=
 match op with
 | .call ⟨.value x,aq,_⟩=>match ρ x,allL ρ aq.toList with
  |some (.f (.func f) l c),some as=>some (f,l++as++c)
  |_,_=>none
 |_=>none
def MA{ρ:dY}{op:Op}(h:∀x∈op.operands,ρ x=ρ' x):oW ρ op=oW ρ' op:=by
 unfold oW;split
 .rename_i x aq ts;simp only[Op.operands,Call.operands]at h;rw[h x ai,xy (l:=aq.toList) fun y a=>h y (by simp;exact .inr (by simpa using a))]
 .rfl
end Go.Ke
