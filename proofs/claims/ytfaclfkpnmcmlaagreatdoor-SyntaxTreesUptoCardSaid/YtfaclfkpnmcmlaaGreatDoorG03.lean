import Derived.Test.YtfaclfkpnmcmlaaGreatDoorG02
import Derived.Maps.Keyed
set_option maxHeartbeats 8000000
set_option linter.all false
namespace Go.Sx
open Go
def Hs{σ:St}:∀{l:List (Nat×Operand)} {r:List (Nat×Value)},gm (ev σ) l=some r->l.map (fun x=>(x.1,aQ σ x.2))=r/\∀y∈l,eX (ev σ y.2)=true
 | [],r,h=>by cases h;exact⟨rfl,fun y b=>(dH b).elim⟩
 |(i,y)::l,r,h=>by
  simp only[gm]at h;split at h
  .rename_i v d hv hr;cases h
   obtain⟨h1,h2⟩:=Hs hr;have c:aQ σ y=v:=by simp[aQ,hv]
   refine⟨by rw[jW,h1,c],fun z a=>?_⟩;rcases List.mem_cons.1 a with rfl|a
   .rw[hv];rfl
   .exact h2 z a
  .cases h
section
variable {C:Cx} {P:Program} {k:List Item} {σ:St} {H:PH}
variable{ps:List (Nat×Value)}{parts:Array (Nat×Operand)}{size bytes:Nat}{e:TypeId}
def D1{o:Oper}{t:TypeId}{len:Nat}(aa:o.op=.buildSlice t len parts)(ha:gm (ev σ) parts.toList=some ps)(ht:ch P t e size bytes)
  (hp:i7 size 0 ps=true) (d:ps.length=len) (f:len*size<=16777216) :
  bt σ o.op=true/\dg P (execOp (aQ σ) o) H fun sv H2=>∃b,H b=none/\sv=.v (.slice (some ⟨b,0,none⟩) len len)/\H2=H.put b (.cells (aD ps).toArray e (0,0)):=by
 obtain⟨h1,h2⟩:=Hs ha;constructor
 .simp only[bt,aa,dU,Op.operands,Bool.true_and,lm];intro y g;simp at g;obtain⟨i,hi⟩:=g;exact h2 (i,y) (by simpa using hi)
 .intro w hw;have a:(parts.map fun(i,x)=>(i,aQ σ x))=ps.toArray:=by rw[<-jb];simpa using h1
  have:=Mw ht hp d f w;obtain⟨j,h⟩:=bN.new hw (.cells (aD ps).toArray e (0,0));have c:(execOp (aQ σ) o).run P w=.ok (.value (.slice (some ⟨w.heap.size,0,none⟩) len len)) { w with heap:=w.heap.push (.cells (aD ps).toArray e (0,0)) }:=by simp only[execOp,aa,a,bY,this];simp[Result.andThen]
  rw[c];exact⟨_,h,w.heap.size,j,rfl,rfl⟩
variable{rem:List Oper}
def EJ{ol:List Oper}{o:Oper}{t:TypeId}{len:Nat}(ht:ch C.P t e size bytes)(hw:be ol σ o=some true)(aa:o.op=.buildSlice t len parts)(ha:gm (ev σ) parts.toList=some ps)
  (hp:i7 size 0 ps=true) (f:ps.length=len) (g:len*size<=16777216)
  (h:∀b,H b=none->RC C (.op ol rem k) (σ.put o.dst (.v (.slice (some ⟨b,0,none⟩) len len))) (H.put b (.cells (aD ps).toArray e (0,0)))):RC C (.op ol (o::rem) k) σ H:=by
 obtain⟨h1,h2⟩:=D1 (H:=H) aa ha ht hp f g;exact j1 hw h1 (h2.mono fun sv H2 ⟨b,a,c,d⟩=>by subst c;subst d;exact h b a)
variable{i:Nat}
def EP{ol:List Oper}{fr:bI}{str:bJ}{l:List (Nat×Oper)}{o:Oper}{t:TypeId}{len:Nat}(ht:ch C.P t e size bytes)(hw:be ol σ o=some true)(aa:o.op=.buildSlice t len parts)(ha:gm (ev σ) parts.toList=some ps)
  (hp:i7 size 0 ps=true) (f:ps.length=len) (g:len*size<=16777216)
  (h:∀b,H b=none->RD C ol fr str l k (σ.put o.dst (.v (.slice (some ⟨b,0,none⟩) len len))) (H.put b (.cells (aD ps).toArray e (0,0)))):RD C ol fr str ((i,o)::l) k σ H:=by
 obtain⟨h1,h2⟩:=D1 (H:=H) aa ha ht hp f g;exact oE hw h1 (by rw[aa];rfl) (h2.mono fun sv H2 ⟨b,a,c,d⟩=>by subst c;subst d;exact⟨gL.le (PH.le_put a),h b a⟩)
variable{news:List Value}{v:Value}{x y:Operand}
def zS{o:Oper}{t:TypeId}{n xb xo m c:Nat}{xs:List Value}(ht:ch P t e size bytes)(aa:o.op=.call ⟨.builtin .append,#[x,y],#[t,t]⟩)(p:ev σ x=.v v)(l:ev σ y=.v (.slice (some ⟨xb,xo,none⟩) m c))
  (f:gv H e size v n xs) (s:aX H xb xo news) (z:news.length=m*size) (h1:news.all one=true) (hb:(n+m)*bytes<=140737488355328) (j:n+m<=maxLen) :
  bt σ o.op=true/\dg P (execOp (aQ σ) o) H fun sv H2=>∃a,sv=.v a/\gv H2 e size a (n+m) (xs++news)/\tO v.ownBlock H H2/\(a.ownBlock=v.ownBlock\/∀g,a.ownBlock=some g->H g=none):=by
 constructor
 .simp[bt,aa,dU,Op.operands,Call.operands,p,l,eX]
 .intro w hw;obtain⟨a,q,H2,d,st,b,i,h⟩:=L9 (ty:=o.type) (c:=c) ht f s z (fun u r=>List.all_eq_true.1 h1 u r) hb j w hw;have:(execOp (aQ σ) o).run P w=.ok (.value a) q:=by simp[execOp,aa,resolve,aQ,p,l,invoke,builtin,Result.andThen,d]
  rw[this];exact⟨H2,st,a,rfl,b,i,h⟩
def KA{ol:List Oper}{o:Oper}{t:TypeId}{n xb xo m c:Nat}{xs:List Value}(ht:ch C.P t e size bytes)(f:gv H e size v n xs)(hw:be ol σ o=some true)(aa:o.op=.call ⟨.builtin .append,#[x,y],#[t,t]⟩)(j:ev σ x=.v v)(i:ev σ y=.v (.slice (some ⟨xb,xo,none⟩) m c))
  (l:aX H xb xo news) (p:news.length=m*size) (h1:news.all one=true) (hb:(n+m)*bytes<=140737488355328) (h:n+m<=maxLen)
  (q:∀d H2,gv H2 e size d (n+m) (xs++news)->tO v.ownBlock H H2->(d.ownBlock=v.ownBlock\/∀g,d.ownBlock=some g->H g=none)->RC C (.op ol rem k) (σ.put o.dst (.v d)) H2):RC C (.op ol (o::rem) k) σ H:=by
 obtain⟨a,b⟩:=zS (σ:=σ) ht aa j i f l p h1 hb h;exact j1 hw a (b.mono fun sv H2 ⟨d,u,e2,s,r⟩=>by subst u;exact q d H2 e2 s r)
def KV{ol:List Oper}{fr:bI}{str:bJ}{l:List (Nat×Oper)}{o:Oper}{t:TypeId}{n xb xo m c:Nat}{xs:List Value}(ht:ch C.P t e size bytes)(f:gv H e size v n xs)(u:str.h.contains i=false)(p:str.j.contains i=false)(hw:be ol σ o=some true)(aa:o.op=.call ⟨.builtin .append,#[x,y],#[t,t]⟩)(s:ev σ x=.v v)(r:ev σ y=.v (.slice (some ⟨xb,xo,none⟩) m c))
  (w:aX H xb xo news) (z:news.length=m*size) (h1:news.all one=true) (hb:(n+m)*bytes<=140737488355328) (q:n+m<=maxLen)
  (A:∀d H2,gv H2 e size d (n+m) (xs++news)->tO v.ownBlock H H2->(d.ownBlock=v.ownBlock\/∀g,d.ownBlock=some g->H g=none)->RD C ol fr str l k (σ.put o.dst (.v d)) H2):RD C ol fr str ((i,o)::l) k σ H:=by
 obtain⟨a,b⟩:=zS (σ:=σ) ht aa s r f w z h1 hb q;exact oE hw a (by rw[aa];rfl) (b.mono fun sv H2 ⟨d,F,e2,D,B⟩=>by subst F;exact⟨gL.non u p,A d H2 e2 D B⟩)
variable{cs:List Value}{off:Nat}{ty:TypeId}
def D3{o:Oper}{T:TypeId}{b:Nat}{cells:Array Value}(aa:o.op=.store T x y)(r:ev σ x=.v (.pointer (some ⟨b,off,none⟩)))(q:ev σ y=.v v)
  (p:H b=some (.cells cells ty (0,0))) (s:jM v=some cs) (j:bk P T=some cs.length) (l:off+cs.length<=cells.size) :
  bt σ o.op=true/\dg P (execOp (aQ σ) o) H fun sv H2=>sv=.u/\H2=H.put b (.cells (bi cells.toList off cs).toArray ty (0,0)):=by
 constructor
 .simp[bt,aa,dU,Op.operands,r,q,eX]
 .intro w hw;obtain⟨a,g⟩:=FJ s;have hb:=hw _ _ p;rw[show cells=cells.toList.toArray from by simp]at hb;obtain⟨w2,h1,h2,h3,B,A,z,t⟩:=wq (P:=P) b ty cs 0 off cells.toList w hb (by simpa using l) g;have sz:(sizeOf T).run P w=.ok cs.length w:=by unfold bk at j;simp only[hH]at j;obtain⟨i,hi,h⟩:=j;simp[sizeOf,typeInfo,program,Sem.run,hi,h]
  have m:v.cells.size=cs.length:=by rw[<-a];simp
  have f:(execOp (aQ σ) o).run P w=.ok .skip w2:=by simp only[execOp,aa,aQ,r,q,Instr.storeAt,Instr.sureAddr,storeVar,bY];simp[Result.andThen,sz,m,a,h1]
  rw[f];refine⟨_,⟨fun c o' h=>?_,O,fun c n d=>h3 c (fun e=>by subst e;rw[p]at d;cases d),fun c n d=>?_,A,z,t⟩,rfl,rfl⟩
  .by_cases e:c=b
   .subst e;simp only[PH.put,cY]at h;cases h;simpa using h2
   .simp only[PH.put,ad e]at h;rw[h3 c e];exact hw _ _ h
  .have:c≠b:=fun e=>by subst e;rw[p]at d;cases d
   simp[PH.put,this,d]
def KO{ol:List Oper}{o:Oper}{T:TypeId}{b:Nat}{cells:Array Value}(i:H b=some (.cells cells ty (0,0)))(hw:be ol σ o=some true)(aa:o.op=.store T x y)(e:ev σ x=.v (.pointer (some ⟨b,off,none⟩)))(d:ev σ y=.v v)
  (h:jM v=some cs) (f:bk C.P T=some cs.length) (c:off+cs.length<=cells.size)
  (g:RC C (.op ol rem k) (σ.put o.dst .u) (H.put b (.cells (bi cells.toList off cs).toArray ty (0,0)))):RC C (.op ol (o::rem) k) σ H:=by
 obtain⟨h1,h2⟩:=D3 (σ:=σ) aa e d i h f c;exact j1 hw h1 (h2.mono fun sv H2 ⟨a,b⟩=>by subst a;subst b;exact g)
def K5{ol:List Oper}{fr:bI}{str:bJ}{l:List (Nat×Oper)}{o:Oper}{T:TypeId}{b:Nat}{cells:Array Value}(m:H b=some (.cells cells ty (0,0)))(c:fU str.k i=false)(hw:be ol σ o=some true)(aa:o.op=.store T x y)(f:ev σ x=.v (.pointer (some ⟨b,off,none⟩)))(e:ev σ y=.v v)
  (j:jM v=some cs) (g:bk C.P T=some cs.length) (d:off+cs.length<=cells.size)
  (h:RD C ol fr str l k (σ.put o.dst .u) (H.put b (.cells (bi cells.toList off cs).toArray ty (0,0)))):RD C ol fr str ((i,o)::l) k σ H:=by
 obtain⟨h1,h2⟩:=D3 (σ:=σ) aa f e m j g d;exact La c hw h1 (by rw[aa];rfl) (h2.mono fun sv H2 ⟨a,b⟩=>by subst a;subst b;exact h)
end
open Go
def PH.le_none{H' H:PH}(h:H'.le H){b:Nat}(a:H b=none):H' b=none:=by
 cases hb:H' b with
 |none=>rfl
 |some o=>rw[h b o hb]at a;cases a
section
variable {C:Cx} {P:Program} {k:List Item} {σ:St} {H:PH}
def dQ(P:Program)(kt:TypeId)(v:Value):Prop:=∃l,keyOf P kt v=some l
def dA(P:Program)(H:PH)(r:Nat)(kt:TypeId)(S:Value->Value->Prop):Prop:=
 ∃es a,H r=some (.map es a)/\(∀e∈es.toList,dQ P kt e.key)/\es.toList.Pairwise (fun x y=>x.key≠y.key)/\∀y u,S y u<->∃e∈es.toList,e.key=y/\e.val=u
variable{S:Value->Value->Prop}{kt:TypeId}
def dA.le{H H2:PH}{r:Nat}(h:dA P H r kt S)(d:H.le H2):dA P H2 r kt S:=by obtain⟨es,c,a,b⟩:=h;exact⟨es,c,d _ _ a,b⟩
def dA.of_eq{H H2:PH}{r:Nat}(h:dA P H r kt S)(d:H2 r=H r):dA P H2 r kt S:=by obtain⟨es,c,a,b⟩:=h;exact⟨es,c,d.trans a,b⟩
def dA.congr{r:Nat}{S':Value->Value->Prop}(h:dA P H r kt S)(f:∀y u,S' y u<->S y u):dA P H r kt S':=by obtain⟨es,e,a,b,c,d⟩:=h;exact⟨es,e,a,b,c,fun y u=>(f y u).trans (d y u)⟩
variable{x:Value}
def Sy{mt et:TypeId}(K:Maps.Keyed P kt)(hm:P.underlying mt=some (.map kt et)){r:Nat}(h:dA P H r kt S){v:Value}(y:dQ P kt x)(z:S x v)(w:World)(hw:Sub H w):
  (Instr.lookup mt (.map (some r)) x true).run P w=.ok (.tuple #[v,.bool true]) w:=by
 obtain⟨es,g,a,b,c,d⟩:=h;obtain⟨l,t⟩:=y;have i:(getObj r).run P w=.ok (.map es g) w:=by simp[getObj,Sem.run,hw _ _ a]
 obtain⟨e0,n,f,p⟩:=(d x v).1 z;rcases K.find w t es.toList b with ⟨h1,h2⟩|⟨j,e,h1,h2,h3⟩
 .exact absurd f (h2 e0 n)
 .have:e=e0:=by
   have m:e∈es.toList:=cH h2;by_cases u:e=e0
   .exact u
   .exfalso;rcases List.mem_iff_getElem.1 m with ⟨o,s,rfl⟩
    rcases List.mem_iff_getElem.1 n with ⟨i2,q,rfl⟩
    rcases oe o i2 with h|h|h
    .exact List.pairwise_iff_getElem.1 c o i2 s q h (h3.trans f.symm)
    .subst h;exact u rfl
    .exact List.pairwise_iff_getElem.1 c i2 o q s h (f.trans h3.symm)
  subst this;subst p;have A:=K.check w es.isEmpty t;simp[Instr.lookup,dK hm,Result.andThen,i,A,h1]
def Sw{mt et:TypeId}(K:Maps.Keyed P kt)(hm:P.underlying mt=some (.map kt et)){z:Value}(g:aZ P et=some z){r:Nat}(h:dA P H r kt S)(p:dQ P kt x)(q:∀v,¬S x v)(w:World)(hw:Sub H w):
  (Instr.lookup mt (.map (some r)) x true).run P w=.ok (.tuple #[z,.bool false]) w:=by
 obtain⟨es,f,a,b,c,d⟩:=h;obtain⟨l,n⟩:=p;have m:(getObj r).run P w=.ok (.map es f) w:=by simp[getObj,Sem.run,hw _ _ a]
 have o:(zeroValue et).run P w=.ok z w:=by
  unfold aZ at g;cases hi:P.info? et with
  |none=>rw[hi]at g;cases g
  |some i=>rw[hi]at g;simp only[jz]at g;simp[zeroValue,typeInfo,program,Sem.run,hi,g]
 rcases K.find w n es.toList b with ⟨h1,h2⟩|⟨j,e,h1,h2,h3⟩
 .have s:=K.check w es.isEmpty n;simp[Instr.lookup,dK hm,Result.andThen,m,s,h1,o]
 .exact absurd ((d x e.val).2 ⟨e,cH h2,h3,rfl⟩) (q _)
def Wd{mt et:TypeId}(K:Maps.Keyed P kt)(hm:P.underlying mt=some (.map kt et)){r:Nat}(h:dA P H r kt S){v:Value}(hx:dQ P kt x)(w:World)(hw:Sub H w):
  ∃w2 H2 o,(Instr.mapUpdate mt (.map (some r)) x v).run P w=.ok () w2/\H2=H.put r o/\bN H w H2 w2/\dA P H2 r kt (fun y u=>(y=x/\u=v)\/(y≠x/\S y u)):=by
 obtain⟨es,g,a,b,c,d⟩:=h;obtain⟨l,G⟩:=hx;have ha:=hw _ _ a;have s:(getObj r).run P w=.ok (.map es g) w:=by simp[getObj,Sem.run,ha]
 have nZ:∀(o:Obj),(setObj r o).run P w=.ok () { w with heap:=w.heap.setIfInBounds r o }:=by intro o;simp[setObj,Sem.run,ha]
 have step:∀(o:Obj),bN H w (H.put r o) { w with heap:=w.heap.setIfInBounds r o }:=by
  intro o;have A:=gj ha;refine⟨fun b' x' h=>?_,by simp,fun b' hb F=>?_,fun b' hb F=>?_,rfl,rfl,rfl⟩
  .by_cases e:b'=r
   .subst e;simp only[PH.put,cY]at h;cases h;simp[wV,A]
   .simp only[PH.put,ad e]at h;simp only[wV,ad (Ne.symm e)];exact hw _ _ h
  .have:b'≠r:=fun e=>by subst e;rw[a]at F;cases F
   simp only[wV,ad (Ne.symm this)]
  .have:b'≠r:=fun e=>by subst e;rw[a]at F;cases F
   simp[PH.put,this,F]
 rcases K.find w G es.toList b with ⟨h1,h2⟩|⟨j,e,h1,h2,h3⟩
 .refine⟨{ w with heap:=w.heap.setIfInBounds r (.map (es.push { key:=x,val:=v,born:=g }) (g+1)) },_,.map (es.push { key:=x,val:=v,born:=g }) (g+1),?_,rfl,step (.map (es.push { key:=x,val:=v,born:=g }) (g+1)),?_⟩
  .have W:=K.check w false G;simp[Instr.mapUpdate,dK hm,Result.andThen,s,W,h1];exact nZ _
  .refine⟨_,_,ak rfl,?_,?_,?_⟩
   .intro e q;simp at q;rcases q with q|rfl
    .exact b e (by simpa using q)
    .exact⟨l,G⟩
   .simp only[Array.toList_push,List.pairwise_append,kE,dP];exact⟨c,fun y hy z Z=>by simp at Z;subst Z;exact h2 y hy⟩
   .intro y u;simp only[Array.toList_push,gS,List.mem_singleton];constructor
    .rintro(⟨rfl,rfl⟩|⟨n,U⟩)
     .exact⟨_,.inr rfl,rfl,rfl⟩
     .obtain⟨e,q,M,X⟩:=(d y u).1 U;exact⟨e,.inl q,M,X⟩
    .rintro⟨e,q|rfl,rfl,rfl⟩
     .exact .inr ⟨h2 e q,(d _ _).2 ⟨e,q,rfl,rfl⟩⟩
     .exact .inl ⟨rfl,rfl⟩
 .have J:es[j]?=some e:=by simpa using h2
  have p:j<es.size:=by
   rcases aB j es.size with h|h
   .exact h
   .rw[AI h]at J;cases J
  have L:((es[j]?).map (·.key)).getD x=x:=by rw[J];simpa using h3
  have t:(es.modify j fun e=>{ e with key:=x,val:=v }).toList=es.toList.set j { e with key:=x,val:=v }:=by
   apply List.ext_getElem?;intro i;simp only[Array.getElem?_toList,Array.getElem?_modify,pY,kA];by_cases hi:j=i
   .subst hi;have V:es[j]=e:=by rw[ll p]at J;exact df J
    simp[J,p,V]
   .simp[hi]
  refine⟨{ w with heap:=w.heap.setIfInBounds r (.map (es.modify j fun e=>{ e with key:=x,val:=v }) g) },_,.map (es.modify j fun e=>{ e with key:=x,val:=v }) g,?_,rfl,step (.map (es.modify j fun e=>{ e with key:=x,val:=v }) g),?_⟩
  .have T:(Instr.keyThatStays (((es[j]?).map (·.key)).getD x) x).run P w=.ok x w:=by rw[L];exact K.stays w G
   have W:=K.check w false G;simp[Instr.mapUpdate,dK hm,Result.andThen,s,W,h1,T];exact nZ _
  .have m:∀i e',es.toList[i]?=some e'->i≠j->e'.key≠x:=by
    intro i e' hi n I;have B:i<es.toList.length:=by
     rcases aB i es.toList.length with h|h
     .exact h
     .rw[fW h]at hi;cases hi
    have D:es.toList[i]=e':=by rw[aL B]at hi;exact df hi
    have e2:es.toList[j]'(by simpa using p)=e:=by rw[aL (by simpa using p)]at h2;exact df h2
    rcases aB i j with h|h
    .exact List.pairwise_iff_getElem.1 c i j B (by simpa using p) h (by rw[D,e2,I,h3])
    .exact List.pairwise_iff_getElem.1 c j i (by simpa using p) B O (by rw[D,e2,I,h3])
   have mem:∀f,f∈es.toList.set j { e with key:=x,val:=v }<->f={ e with key:=x,val:=v }\/∃i,i≠j/\es.toList[i]?=some f:=by
    intro f;rw[List.mem_iff_getElem?];constructor
    .rintro⟨i,hi⟩;rw[pY]at hi;split at hi
     .split at hi
      .cases hi;exact .inl rfl
      .cases hi
     .rename_i n;exact .inr ⟨i,Ne.symm n,hi⟩
    .rintro(rfl|⟨i,n,hi⟩)
     .exact⟨j,by rw[pY];simp[p]⟩
     .exact⟨i,by rw[pY,ad (Ne.symm n)];exact hi⟩
   refine⟨_,_,ak rfl,?_,?_,?_⟩
   .rw[t];intro f hf;rcases(mem f).1 hf with rfl|⟨i,_,hi⟩
    .exact⟨l,G⟩
    .exact b f (cH hi)
   .rw[t,List.pairwise_iff_getElem];intro R i2 Q N A;simp only[kD]at Q N;rw[List.getElem_set,List.getElem_set];by_cases D:j=R<;>by_cases e2:j=i2
    .omega
    .subst D;rw[ak rfl,ad e2];exact fun I=>m i2 _ (aL N) (Ne.symm e2) I.symm
    .subst e2;rw[ak rfl,ad D];exact fun I=>m R _ (aL Q) (Ne.symm D) I
    .rw[ad D,ad e2];exact List.pairwise_iff_getElem.1 c R i2 Q N A
   .intro y u;rw[t];constructor
    .rintro(⟨rfl,rfl⟩|⟨n,U⟩)
     .exact⟨_,(mem _).2 (.inl rfl),rfl,rfl⟩
     .obtain⟨f,hf,M,X⟩:=(d y u).1 U;obtain⟨i,hi⟩:=List.mem_iff_getElem?.1 hf;refine⟨f,(mem f).2 (.inr ⟨i,fun ei=>?_,hi⟩),M,X⟩;subst ei;rw[h2]at hi;cases hi;exact n (M.symm.trans h3)
    .rintro⟨f,hf,rfl,rfl⟩;rcases(mem f).1 hf with rfl|⟨i,n,hi⟩
     .exact .inl ⟨rfl,rfl⟩
     .exact .inr ⟨m i f hi n,(d _ _).2 ⟨f,cH hi,rfl,rfl⟩⟩
end
open Go
section
variable {C:Cx} {P:Program} {k:List Item} {σ:St} {H:PH}
variable{v key z:Value}{S:Value->Value->Prop}{x y:Operand}{mt kt et:TypeId}
def C3{o:Oper}(K:Maps.Keyed P kt)(hm:P.underlying mt=some (.map kt et))(f:aZ P et=some z){r:Nat}(aa:o.op=.lookup mt x y true)
  (d:ev σ x=.v (.map (some r))) (c:ev σ y=.v key) (h:dA P H r kt S) (e:dQ P kt key)  {is:Bool} (a:is=true/\S key v\/is=false/\v=z/\∀u,¬S key u) :
  bt σ o.op=true/\∀w,Sub H w->(execOp (aQ σ) o).run P w=.ok (.value (.tuple #[v,.bool is])) w:=by
 constructor
 .simp[bt,aa,dU,Op.operands,d,c,eX]
 .intro w hw;have b:(Instr.lookup mt (.map (some r)) key true).run P w=.ok (.tuple #[v,.bool is]) w:=by
   rcases a with ⟨rfl,a⟩|⟨rfl,rfl,a⟩
   .exact Sy K hm h e a w hw
   .exact Sw K hm f h e a w hw
  simp[execOp,aa,aQ,d,c,b,Result.andThen]
variable{rem:List Oper}
def tW{ol:List Oper}{o:Oper}(K:Maps.Keyed C.P kt)(hm:C.P.underlying mt=some (.map kt et))(a:aZ C.P et=some z){r:Nat}(hw:be ol σ o=some true)(aa:o.op=.lookup mt x y true)
  (c:ev σ x=.v (.map (some r))) (b:ev σ y=.v key) (h:dA C.P H r kt S) (e:dQ C.P kt key) (v:Value) (is:Bool) (d:is=true/\S key v\/is=false/\v=z/\∀u,¬S key u)
  (f:RC C (.op ol rem k) (σ.put o.dst (.v (.tuple #[v,.bool is]))) H):RC C (.op ol (o::rem) k) σ H:=by
 obtain⟨h1,h2⟩:=C3 K hm a aa c b h e d;exact tX _ hw h1 h2 f
variable{i:Nat}
def xm{ol:List Oper}{fr:bI}{str:bJ}{l:List (Nat×Oper)}{o:Oper}(K:Maps.Keyed C.P kt)(hm:C.P.underlying mt=some (.map kt et))(a:aZ C.P et=some z){r:Nat}(hf:fr.h.contains i=true)(hw:be ol σ o=some true)(aa:o.op=.lookup mt x y true)
  (c:ev σ x=.v (.map (some r))) (b:ev σ y=.v key) (h:dA C.P H r kt S) (e:dQ C.P kt key) (v:Value) (is:Bool) (d:is=true/\S key v\/is=false/\v=z/\∀u,¬S key u)
  (f:RD C ol fr str l k (σ.put o.dst (.v (.tuple #[v,.bool is]))) H):RD C ol fr str ((i,o)::l) k σ H:=by
 obtain⟨h1,h2⟩:=C3 K hm a aa c b h e d;exact oF _ hf hw h1 (by rw[aa];rfl) h2 f
def D4{o:Oper}(K:Maps.Keyed P kt)(hm:P.underlying mt=some (.map kt et)){z:Operand}{r:Nat}(aa:o.op=.mapUpdate mt x y z\/o.op=.insert mt x y z)
  (f:ev σ x=.v (.map (some r))) (d:ev σ y=.v key) (c:ev σ z=.v v) (h:dA P H r kt S) (g:dQ P kt key) :
  bt σ o.op=true/\dg P (execOp (aQ σ) o) H fun sv H2=>sv=.u/\∃ob,H2=H.put r ob/\dA P H2 r kt (fun y u=>(y=key/\u=v)\/(y≠key/\S y u)):=by
 constructor
 .rcases aa with aa|aa<;>simp[bt,aa,dU,Op.operands,f,d,c,eX]
 .intro w hw;obtain⟨w2,H2,ob,a,e,st,b⟩:=Wd (v:=v) K hm h g w hw;have:(execOp (aQ σ) o).run P w=.ok .skip w2:=by rcases aa with aa|aa<;>simp[execOp,aa,aQ,f,d,c,a,Result.andThen]
  rw[this];exact⟨H2,st,rfl,ob,e,b⟩
def KR{ol:List Oper}{o:Oper}(K:Maps.Keyed C.P kt)(hm:C.P.underlying mt=some (.map kt et)){z:Operand}{r:Nat}(hw:be ol σ o=some true)(aa:o.op=.mapUpdate mt x y z\/o.op=.insert mt x y z)
  (f:ev σ x=.v (.map (some r))) (e:ev σ y=.v key) (d:ev σ z=.v v) (h:dA C.P H r kt S) (g:dQ C.P kt key)
  (i:∀ob,dA C.P (H.put r ob) r kt (fun y u=>(y=key/\u=v)\/(y≠key/\S y u))->RC C (.op ol rem k) (σ.put o.dst .u) (H.put r ob)):RC C (.op ol (o::rem) k) σ H:=by
 obtain⟨h1,h2⟩:=D4 K hm aa f e d h g;exact j1 hw h1 (h2.mono fun sv H2 ⟨a,ob,b,c⟩=>by subst a;subst b;exact i ob c)
def Lb{ol:List Oper}{fr:bI}{str:bJ}{l:List (Nat×Oper)}{o:Oper}(K:Maps.Keyed C.P kt)(hm:C.P.underlying mt=some (.map kt et)){z:Operand}{r:Nat}(m:str.h.contains i=false)(d:str.j.contains i=false)(hw:be ol σ o=some true)(aa:o.op=.mapUpdate mt x y z\/o.op=.insert mt x y z)
  (g:ev σ x=.v (.map (some r))) (f:ev σ y=.v key) (e:ev σ z=.v v) (h:dA C.P H r kt S) (n:dQ C.P kt key)
  (p:∀ob,dA C.P (H.put r ob) r kt (fun y u=>(y=key/\u=v)\/(y≠key/\S y u))->RD C ol fr str l k (σ.put o.dst .u) (H.put r ob)):RD C ol fr str ((i,o)::l) k σ H:=by
 obtain⟨h1,h2⟩:=D4 K hm aa g f e h n;exact oE hw h1 (by rcases aa with aa|aa<;>rw[aa]<;>rfl) (h2.mono fun sv H2 ⟨a,ob,b,c⟩=>by subst a;subst b;exact⟨gL.non m d,p ob c⟩)
def JA{o:Oper}(aa:o.op=.makeMap mt none):
  bt σ o.op=true/\dg P (execOp (aQ σ) o) H fun sv H2=>∃r,H r=none/\sv=.v (.map (some r))/\H2=H.put r (.map #[] 0):=by
 constructor
 .simp[bt,aa,dU,Op.operands]
 .intro w hw;obtain⟨c,b⟩:=bN.new hw (.map #[] 0);have a:(execOp (aQ σ) o).run P w=.ok (.value (.map (some w.heap.size))) { w with heap:=w.heap.push (.map #[] 0) }:=by simp[execOp,aa,Instr.makeMap,newObj,Sem.run,Result.andThen]
  rw[a];exact⟨_,b,w.heap.size,c,rfl,rfl⟩
def dA.empty{r:Nat}(h:H r=some (.map #[] 0)):dA P H r kt (fun _ _=>False):=
 ⟨#[],0,h,fun e a=>by simp at a,by simp,fun y u=>by simp⟩
def KJ{ol:List Oper}{o:Oper}(hw:be ol σ o=some true)(aa:o.op=.makeMap mt none)
  (d:∀r,H r=none->RC C (.op ol rem k) (σ.put o.dst (.v (.map (some r)))) (H.put r (.map #[] 0))):RC C (.op ol (o::rem) k) σ H:=by
 obtain⟨h1,h2⟩:=JA (σ:=σ) (H:=H) (P:=C.P) aa;exact j1 hw h1 (h2.mono fun sv H2 ⟨r,a,b,c⟩=>by subst b;subst c;exact d r a)
def KZ{ol:List Oper}{fr:bI}{str:bJ}{l:List (Nat×Oper)}{o:Oper}(hw:be ol σ o=some true)(aa:o.op=.makeMap mt none)
  (a:∀r,H r=none->RD C ol fr str l k (σ.put o.dst (.v (.map (some r)))) (H.put r (.map #[] 0))):RD C ol fr str ((i,o)::l) k σ H:=
 .inr ⟨hw,by rw[aa];exact a⟩
theorem gv.cells{e:TypeId}{size:Nat}{n:Nat}{xs:List Value}(h:gv H e size v n xs)(l:0<n):∃g cap,v=.slice (some ⟨g,0,none⟩) n cap/\aX H g 0 xs:=by
 obtain⟨i,⟨_,e0⟩|⟨g,cap,cur,a,b,c,d,f,j⟩⟩:=h
 .omega
 .refine⟨g,cap,a,cur,e,(0,0),b,?_,?_⟩
  .rw[i,f,eR];exact bS _ c
  .rw[jU,i];exact j
def aX.sub{b off:Nat}{l:List Value}(h:aX H b off l)(i n:Nat)(hi:i+n<=l.length):aX H b (off+i) ((l.drop i).take n):=by
 obtain⟨cs,ty,e,a,b',c⟩:=h;have d:((l.drop i).take n).length=n:=by simp;omega
 refine⟨cs,ty,e,a,by rw[d];omega,?_⟩;rw[d];have:l=(cs.toList.drop off).take l.length:=c.symm
 conv=>rhs;rw[this]
 rw[List.drop_take,kB,rF,kF O]
end
open Go
def PH.no:PH:=fun _=>none
def PH.uni(A B:PH):PH:=fun b=>match A b with
 |some o=>some o
 |none=>B b
def PH.disj(A B:PH):Prop:=∀b,A b=none\/B b=none
variable{A B:PH}
def PH.disj.symm(h:A.disj B):B.disj A:=fun b=>(h b).symm
variable{b:Nat}
def PH.disj.left(h:A.disj B){o:Obj}(hb:A b=some o):B b=none:=by
 rcases h b with e|e
 .rw[e]at hb;cases hb
 .exact e
def PH.uni_no(A:PH):A.uni PH.no=A:=by funext b;simp only[PH.uni,PH.no];split<;>simp_all
def PH.uni_some {A B : PH} (h : A.disj B) {b : Nat} {o : Obj} : (A.uni B) b = some o ↔ A b = some o ∨ B b = some o := by
  unfold PH.uni
  cases hA : A b with
  | some x => simp only; constructor
              · exact .inl
              · rintro (e | e)
                · exact e
                · rw [h.left hA] at e; cases e
  | none => simp
def PH.uni_none:(A.uni B) b=none<->A b=none/\B b=none:=by unfold PH.uni;cases A b<;>simp
def PH.le_uni(A B:PH):A.le (A.uni B):=fun b o h=>by simp[PH.uni,h]
def PH.le_uni_r(h:A.disj B):B.le (A.uni B):=fun b o hb=>(PH.uni_some h).2 (.inr hb)
def PH.ext_some(h:∀b o,A b=some o<->B b=some o):A=B:=by
 funext b;cases a:A b with
 |some o=>exact((h b o).1 a).symm
 |none=>cases c:B b with
  |none=>rfl
  |some o=>rw[(h b o).2 c]at a;cases a
def U:List PH->PH
 | []=>PH.no
 |A::l=>A.uni (U l)
def Dj(l:List PH):Prop:=l.Pairwise PH.disj
def nn{l:List PH}:U l b=none<->∀A∈l,A b=none:=by
 induction l with
 |nil=>simp[U,PH.no]
 |cons A l a=>simp only[U,PH.uni_none,a,fC,forall_eq_or_imp]
def Dj.head{l:List PH}(h:Dj (A::l)):A.disj (U l):=fun b=>by
 cases c:A b with
 |none=>exact .inl rfl
 |some o=>exact .inr (nn.2 fun B a=>((List.pairwise_cons.1 h).1 B a).left c)
def Dj.tail{l:List PH}(h:Dj (A::l)):Dj l:=(List.pairwise_cons.1 h).2
def Dj.cons{l:List PH}(h:Dj l)(ha:A.disj (U l)):Dj (A::l):=
 List.pairwise_cons.2 ⟨fun B a b=>by
  rcases ha b with e|e
  .exact .inl e
  .exact .inr (nn.1 e B a),h⟩
def j3{l:List PH}(hd:Dj l){o:Obj}:U l b=some o<->∃A∈l,A b=some o:=by
 induction l with
 |nil=>simp[U,PH.no]
 |cons A l a=>simp only[U,PH.uni_some hd.head,a hd.tail,fC,exists_eq_or_imp]
variable{m:List PH}
def kM{l:List PH}(hp:l.Perm m)(hd:Dj l):U l=U m/\Dj m:=by have hm:Dj m:=(hp.pairwise_iff (fun{a b} h=>PH.disj.symm h)).1 hd;exact⟨PH.ext_some fun b o=>by rw[j3 hd,j3 hm];exact⟨fun⟨A,a,c⟩=>⟨A,hp.mem_iff.1 a,c⟩,fun⟨A,a,c⟩=>⟨A,hp.mem_iff.2 a,c⟩⟩,hm⟩
def oM(l m:List PH):U (l++m)=(U l).uni (U m):=by
 induction l with
 |nil=>funext b;simp[U,PH.no,PH.uni]
 |cons A l a=>rw[gR,U,U,a];funext b;simp only[PH.uni];cases A b<;>rfl
def lR{l:List PH}:Dj (l++m)<->Dj l/\Dj m/\(U l).disj (U m):=by
 unfold Dj;rw[List.pairwise_append];constructor
 .rintro⟨a,b,c⟩;refine⟨a,b,fun k=>?_⟩;cases h:U l k with
  |none=>exact .inl rfl
  |some o=>obtain⟨A,f,g⟩:=(j3 a).1 h;exact .inr (nn.2 fun B d=>(c A f B d).left g)
 .rintro⟨a,b,c⟩;refine⟨a,b,fun A f B d k=>?_⟩;rcases c k with e|e
  .exact .inl (nn.1 e A f)
  .exact .inr (nn.1 e B d)
def jk{l:List PH}(hd:Dj l)(h:A∈l):A.le (U l):=fun b o hb=>(j3 hd).2 ⟨A,h,hb⟩
def gG(l:List PH):List Nat->List PH
 | []=>[]
 |i::is=>l.getD i PH.no::gG l is
def tv{l:List PH}{is:List Nat}(h:is.isPerm (List.range l.length)=true):l.Perm (gG l is):=by
 have h2:=List.isPerm_iff.1 h;have e:∀is:List Nat,gG l is=is.map fun i=>l.getD i PH.no:=by
  intro is;induction is with
  |nil=>rfl
  |cons i is a=>simp[gG,a]
 rw[e];refine List.Perm.trans ?_ (h2.map _).symm;have:(List.range l.length).map (fun i=>l.getD i PH.no)=l:=by
  apply List.ext_getElem
  .simp
  .intro i h1 h2;simp at h1;simp[List.getD,aL h1]
 rw[this]
variable{Φ:Value->PH->Prop}{args:Array Value}{f:FuncId}
def aJ.frame{P:Program}{F:PH}(hd:A.disj F)(h:aJ P f args A Φ):aJ P f args (A.uni F) fun v H2=>∃a,H2=a.uni F/\a.disj F/\Φ v a:=by
 intro w s;refine(h w (s.of_le (PH.le_uni A F))).mono fun e w2 j=>?_;cases e with
 |outgrown=>exact j
 |panicked c=>exact j
 |returned v=>
  obtain⟨a,st,hp⟩:=j;have d:∀b o,F b=some o->w.heap[b]?=some o/\A b=none:=fun b o hb=>⟨s _ _ ((PH.uni_some hd).2 (.inr hb)),hd.symm.left hb⟩;have g:a.disj F:=fun b=>by
   cases l:F b with
   |none=>exact .inr rfl
   |some o=>obtain⟨h1,h2⟩:=d b o l;exact .inl (st.dom b (gj h1) h2)
  refine⟨a.uni F,⟨fun b o hb=>?_,st.size,fun b hb i=>st.priv b hb (PH.uni_none.1 i).1,fun b hb i=>PH.uni_none.2 ⟨st.dom b hb (PH.uni_none.1 i).1,(PH.uni_none.1 i).2⟩,st.os,st.tape,st.out⟩,a,rfl,g,hp⟩;rcases(PH.uni_some g).1 hb with e|e
  .exact st.sub _ _ e
  .obtain⟨h1,h2⟩:=d b o e;rw[st.priv b (gj h1) h2];exact h1
def aI(P:Program)(f:FuncId)(args:Array Value)(I:PH)(ps:List PH)(Ψ:Value->PH->List PH->Prop):Prop:=
 Dj (I::ps)->aJ P f args (U (I::ps)) fun v H2=>∃I2 qs,H2=U (I2::qs)/\Dj (I2::qs)/\I.le I2/\Ψ v I2 qs
variable{Ψ:Value->PH->List PH->Prop}{I:PH}
def aI.mono{P:Program}{ps:List PH}{Ψ':Value->PH->List PH->Prop}(h:aI P f args I ps Ψ)(k:∀v I2 qs,I.le I2->Ψ v I2 qs->Ψ' v I2 qs):aI P f args I ps Ψ':=
 fun hd=>(h hd).mono fun v H2 ⟨I2,qs,a,b,c,d⟩=>⟨I2,qs,a,b,c,k _ _ _ c d⟩
def aJ.toI{P:Program}(h:aJ P f args I fun v I2=>I.le I2/\Φ v I2):aI P f args I [] fun v I2 qs=>qs=[]/\Φ v I2:=by intro _;rw[show U [I]=I from PH.uni_no I];exact h.mono fun v H2 ⟨a,b⟩=>⟨H2,[],(PH.uni_no H2).symm,kE _ _,a,rfl,b⟩
def aI.frame{P:Program}{ps F:List PH}(h:aI P f args I ps Ψ)(hd:Dj (I::ps++F)):
  aJ P f args (U (I::ps++F)) fun v H2=>∃I2 qs,H2=U (I2::qs++F)/\Dj (I2::qs++F)/\I.le I2/\Ψ v I2 qs:=by
 obtain⟨d1,d2,d3⟩:=lR.1 hd;rw[oM];refine((h d1).frame d3).mono fun v H2 ⟨g,e,dd,I2,qs,a,b,c,d⟩=>?_;subst a;exact⟨I2,qs,by rw[e,oM],lR.2 ⟨b,d2,dd⟩,c,d⟩
section
variable {C:Cx} {P:Program} {k:List Item} {σ:St} {H:PH}
variable{Ψ:Value->PH->List PH->Prop}{ps F:List PH}{I:PH}{first cap:Array Value}{vs:List Value}{f:FuncId}{ts:Array TypeId}{aq:Array Operand}{x:Operand}{rem:List Oper}
def jD{ol:List Oper}{o:Oper}{l:List PH}(hd:Dj (I::l))(is:List Nat)(hw:be ol σ o=some true)(aa:o.op=.call ⟨.value x,aq,ts⟩)
  (g:ev σ x=.v (.func (.func f) first cap)) (ha:d8 (ev σ) aq.toList=some vs) (m:ay C.P f) (hi:is.isPerm (List.range l.length)=true) (i:gG l is=ps++F) (h:aI C.P f (first++vs.toArray++cap) I ps Ψ)
  (j:∀v I2 qs,Dj (I2::qs++F)->I.le I2->Ψ v I2 qs->RC C (.op ol rem k) (σ.put o.dst (.v v)) (U (I2::qs++F))):RC C (.op ol (o::rem) k) σ (U (I::l)):=by
 obtain⟨e,d⟩:=kM ((tv hi).cons I) hd;rw[i]at e d;rw[e];exact bw hw aa g ha m (h.frame d) fun v H2 ⟨I2,qs,a,b,c,d⟩=>by subst a;exact j v I2 qs b c d
def EK{ol:List Oper}{o:Oper}{l:List PH}(hd:Dj (I::l))(is:List Nat)(a:(be ol σ o,o.op,ev σ x,d8 (ev σ) aq.toList)=(some true,Op.call ⟨.value x,aq,ts⟩,SV.v (.func (.func f) first cap),some vs))(d:ay C.P f)(hi:is.isPerm (List.range l.length)=true)(b:gG l is=ps++F)(h:aI C.P f (first++vs.toArray++cap) I ps Ψ)
  (c:∀v I2 qs,Dj (I2::qs++F)->I.le I2->Ψ v I2 qs->RC C (.op ol rem k) (σ.put o.dst (.v v)) (U (I2::qs++F))):RC C (.op ol (o::rem) k) σ (U (I::l)):=by
 simp only[eL]at a;exact jD hd is a.1 a.2.1 a.2.2.1 a.2.2.2 d hi b h c
def nh{ol:List Oper}{fr:bI}{str:bJ}{i:Nat}{lo:List (Nat×Oper)}{o:Oper}{l:List PH}(hd:Dj (I::l))(is:List Nat)(n:str.h.contains i=false)(g:str.j.contains i=true->fr.J.le I)(hw:be ol σ o=some true)(aa:o.op=.call ⟨.value x,aq,ts⟩)
  (m:ev σ x=.v (.func (.func f) first cap)) (ha:d8 (ev σ) aq.toList=some vs) (t:ay C.P f) (hi:is.isPerm (List.range l.length)=true) (p:gG l is=ps++F) (h:aI C.P f (first++vs.toArray++cap) I ps Ψ)
  (q:∀v I2 qs,Dj (I2::qs++F)->I.le I2->Ψ v I2 qs->RD C ol fr str lo k (σ.put o.dst (.v v)) (U (I2::qs++F))):RD C ol fr str ((i,o)::lo) k σ (U (I::l)):=by
 obtain⟨e,d⟩:=kM ((tv hi).cons I) hd;rw[p]at e d;rw[e];exact lW hw aa m ha t (h.frame d) fun v H2 ⟨I2,qs,a,b,c,d⟩=>⟨⟨fun s=>Bool.noConfusion (n.symm.trans s),fun r _=>by subst a;exact Y (g r) (Y c (jk b (.head _)))⟩,by subst a;exact q v I2 qs b c d⟩
def EQ{ol:List Oper}{fr:bI}{str:bJ}{i:Nat}{lo:List (Nat×Oper)}{o:Oper}{l:List PH}(hd:Dj (I::l))(is:List Nat)(c:str.h.contains i=false)(b:str.j.contains i=true->fr.J.le I)(a:(be ol σ o,o.op,ev σ x,d8 (ev σ) aq.toList)=(some true,Op.call ⟨.value x,aq,ts⟩,SV.v (.func (.func f) first cap),some vs))(g:ay C.P f)(hi:is.isPerm (List.range l.length)=true)(d:gG l is=ps++F)(h:aI C.P f (first++vs.toArray++cap) I ps Ψ)
  (e:∀v I2 qs,Dj (I2::qs++F)->I.le I2->Ψ v I2 qs->RD C ol fr str lo k (σ.put o.dst (.v v)) (U (I2::qs++F))):RD C ol fr str ((i,o)::lo) k σ (U (I::l)):=by
 simp only[eL]at a;exact nh hd is c b a.1 a.2.1 a.2.2.1 a.2.2.2 g hi d h e
def ao{r:List Value}{I2:PH}{qs:List PH}(a:C.post=fun v H2=>∃I2 qs,H2=U (I2::qs)/\Dj (I2::qs)/\I.le I2/\Ψ v I2 qs)(hd:Dj (I2::qs))(h:lG C.P σ C.fn.results.toList=some r)(b:I.le I2)(hp:Ψ (bT r) I2 qs)(c:C.rd=none:=by rfl):R C (.code .ret::k) σ (U (I2::qs)):=
 au h (by rw[a];exact⟨I2,qs,rfl,hd,b,hp⟩) c
end
def sg(b:Nat)(o:Obj):PH:=fun c=>if c=b then some o else none
def UF{b c:Nat}{o x:Obj}:sg b o c=some x<->c=b/\o=x:=by unfold sg;split<;>simp_all
def dV(b:Nat)(o:Obj):sg b o b=some o:=by simp[sg]
def IP{l:List PH}(hd:Dj l){b:Nat}{o:Obj}(h:U l b=none):(U l).put b o=U (sg b o::l)/\Dj (sg b o::l):=by
 constructor
 .funext c;simp only[PH.put,U,PH.uni,sg];split<;>simp
 .exact hd.cons fun c=>by
   by_cases e:c=b
   .subst e;exact .inr h
   .exact .inl (by simp[sg,e])
variable{I A:PH}
theorem freeze{l:List PH}(hd:Dj (I::A::l)):U (I::A::l)=U (I.uni A::l)/\Dj (I.uni A::l):=by
 constructor
 .funext c;simp only[U,PH.uni];cases I c<;>rfl
 .refine hd.tail.tail.cons fun c=>?_;rcases hd.head c with h1|h1
  .rcases hd.tail.head c with h2|h2
   .exact .inl (PH.uni_none.2 ⟨h1,h2⟩)
   .exact .inr h2
  .exact .inr (PH.uni_none.1 h1).2
def uK{l:List PH}(hd:Dj (I::l))(h:A∈l):I.disj A:=(List.pairwise_cons.1 hd).1 A h
def eP{l:List PH}(hd:Dj (I::l)):I.le (U (I::l)):=jk hd (.head _)
def nJ{l:List PH}(hd:Dj (I::A::l)):A.le (U (I::A::l)):=jk hd (.tail _ (.head _))
def LH{ps:List PH}{H2:PH}(hd:Dj (I::ps))(a:(U (I::ps)).le H2):∃I2,H2=U (I2::ps)/\Dj (I2::ps)/\I.le I2:=by
 refine⟨fun b=>if (U ps b).isSome then none else H2 b,?_,hd.tail.cons fun b=>?_,fun b o hb=>?_⟩
 .funext b;simp only[U,PH.uni];cases c:U ps b with
  |none=>simp;cases H2 b<;>rfl
  |some o=>simp;exact a b o (PH.le_uni_r hd.head b o c)
 .cases c:U ps b with
  |none=>exact .inr rfl
  |some o=>exact .inl (by simp[c])
 .have:=hd.head.left hb;simp only[this,Option.isSome_none,iN,gT];exact a b o (PH.le_uni I _ b o hb)
open Go
variable{n size:Nat}{v:Value}{e:TypeId}
def gv.le{H:PH}{xs:List Value}(h:gv A e size v n xs)(d:A.le H):gv H e size v n xs:=by
 obtain⟨h1,h2|⟨g,cap,cur,a,b,c⟩⟩:=h
 .exact⟨h1,.inl h2⟩
 .exact⟨h1,.inr ⟨g,cap,cur,a,d _ _ b,c⟩⟩
theorem vO(g off n c:Nat):(Value.slice (some ⟨g,off,none⟩) n c).ownBlock=some g:=rfl
def cZ(A:PH)(e:TypeId)(size:Nat)(v:Value)(n:Nat)(xs:List Value):Prop:=gv A e size v n xs/\∀b,v.ownBlock≠some b->A b=none
def cZ.nil(e:TypeId)(size:Nat):cZ PH.no e size (.slice none 0 0) 0 []:=⟨gv.nil _ e size,fun _ _=>rfl⟩
def cZ.own_some{xs:List Value}(h:cZ A e size v n xs){g:Nat}(d:v.ownBlock=some g):∃o,A g=some o:=by
 obtain⟨⟨h1,⟨h2,_⟩|⟨f,cap,cur,a,b,c⟩⟩,_⟩:=h
 .subst h2;cases d
 .subst a;cases d;exact⟨_,b⟩
def DH{l:List PH}{v':Value}{n':Nat}{xs xs':List Value}{H2:PH}(hd:Dj (I::A::l))(hr:cZ A e size v n xs)(m:gv H2 e size v' n' xs')(z:tO v.ownBlock (U (I::A::l)) H2)
  (hf:v'.ownBlock=v.ownBlock\/∀g,v'.ownBlock=some g->U (I::A::l) g=none):∃I2 d,H2=U (I2::d::l)/\Dj (I2::d::l)/\I.le I2/\cZ d e size v' n' xs':=by
 have key:∃d:PH,cZ d e size v' n' xs'/\d.le H2/\d.disj I/\d.disj (U l):=by
  obtain⟨h1,⟨h2,h3⟩|⟨g,cap,cur,a,b,c⟩⟩:=m
  .exact⟨PH.no,⟨⟨h1,.inl ⟨h2,h3⟩⟩,fun _ _=>rfl⟩,(fun b o h=>by cases h),(fun _=>.inl rfl),(fun _=>.inl rfl)⟩
  .subst a;have out:I g=none/\U l g=none:=by
    rcases hf with hf|hf
    .obtain⟨o,m⟩:=hr.own_some (hf.symm.trans (vO g 0 n' cap));exact⟨(uK hd (.head _)).symm.left m,hd.tail.head.left m⟩
    .have:=nn.1 (hf g rfl);exact⟨this I (.head _),nn.2 fun B f=>this B (.tail _ (.tail _ f))⟩
   have w:∀X:PH,X g=none->(sg g (.cells cur e (0,0))).disj X:=fun X D c=>by
    by_cases u:c=g
    .subst u;exact .inr D
    .exact .inl (by simp[sg,u])
   exact⟨sg g (.cells cur e (0,0)),⟨⟨h1,.inr ⟨g,cap,cur,rfl,dV _ _,c⟩⟩,fun b' hb=>by simp only[vO,ne_eq,bv]at hb;simp[sg,Ne.symm hb]⟩,fun b' o' hb=>by obtain⟨rfl,rfl⟩:=UF.1 hb;exact b,w I out.1,w _ out.2⟩
 obtain⟨d,y,p,d1,d2⟩:=key;have F:Dj (d::l):=hd.tail.tail.cons d2;have x:Dj (I::d::l):=F.cons fun b=>by
  rcases d1 b with t|t
  .rcases hd.head b with e2|e2
   .exact .inl e2
   .exact .inr (PH.uni_none.2 ⟨t,(PH.uni_none.1 e2).2⟩)
  .exact .inl t
 have q:(U (I::d::l)).le H2:=by
  intro b o hb;obtain⟨B,f,j⟩:=(j3 x).1 hb;have keep:∀B∈I::l,B b=some o->H2 b=some o:=by
   intro B f i;have r:B∈I::A::l:=by
    rcases List.mem_cons.1 f with rfl|h
    .exact .head _
    .exact .tail _ (.tail _ h)
   refine z b o (fun e=>?_) ((j3 hd).2 ⟨B,r,i⟩);obtain⟨G,s⟩:=hr.own_some e.symm;rcases List.mem_cons.1 f with rfl|h
   .rw[(uK hd (.head _)).left i]at s;cases s
   .rw[(uK hd.tail h).left s]at i;cases i
  rcases List.mem_cons.1 f with rfl|f
  .exact keep _ (.head _) j
  .rcases List.mem_cons.1 f with rfl|f
   .exact p b o j
   .exact keep _ (.tail _ f) j
 obtain⟨I2,a,b,c⟩:=LH x q;exact⟨I2,d,a,b,c,y⟩
section
variable {C:Cx} {P:Program} {k:List Item} {σ:St} {H:PH}
variable{I A:PH}{news:List Value}{v:Value}{x y:Operand}{size bytes:Nat}{e:TypeId}{rem:List Oper}
def EI{ol:List Oper}{o:Oper}{t:TypeId}{n xb xo m c:Nat}{xs:List Value}{l:List PH}(hd:Dj (I::A::l))(ht:ch C.P t e size bytes)(d:cZ A e size v n xs)(hw:be ol σ o=some true)(aa:o.op=.call ⟨.builtin .append,#[x,y],#[t,t]⟩)(j:ev σ x=.v v)(i:ev σ y=.v (.slice (some ⟨xb,xo,none⟩) m c))
  (p:aX (U (I::A::l)) xb xo news) (q:news.length=m*size) (h1:news.all one=true) (hb:(n+m)*bytes<=140737488355328) (h:n+m<=maxLen)
  (r:∀g I2 f,Dj (I2::f::l)->I.le I2->cZ f e size g (n+m) (xs++news)->RC C (.op ol rem k) (σ.put o.dst (.v g)) (U (I2::f::l))):RC C (.op ol (o::rem) k) σ (U (I::A::l)):=
 KA ht (d.1.le (nJ hd)) hw aa j i p q h1 hb h fun g H2 a b c=>by obtain⟨I2,f,w,e2,u,s⟩:=DH hd d a b c;subst w;exact r g I2 f e2 u s
variable{i:Nat}
def AT{ol:List Oper}{fr:bI}{str:bJ}{lo:List (Nat×Oper)}{o:Oper}{t:TypeId}{n xb xo m c:Nat}{xs:List Value}{l:List PH}(hd:Dj (I::A::l))(ht:ch C.P t e size bytes)(d:cZ A e size v n xs)(u:str.h.contains i=false)(p:str.j.contains i=false)(hw:be ol σ o=some true)(aa:o.op=.call ⟨.builtin .append,#[x,y],#[t,t]⟩)(s:ev σ x=.v v)(r:ev σ y=.v (.slice (some ⟨xb,xo,none⟩) m c))
  (w:aX (U (I::A::l)) xb xo news) (z:news.length=m*size) (h1:news.all one=true) (hb:(n+m)*bytes<=140737488355328) (q:n+m<=maxLen)
  (B:∀g I2 f,Dj (I2::f::l)->I.le I2->cZ f e size g (n+m) (xs++news)->RD C ol fr str lo k (σ.put o.dst (.v g)) (U (I2::f::l))):RD C ol fr str ((i,o)::lo) k σ (U (I::A::l)):=
 KV ht (d.1.le (nJ hd)) u p hw aa s r w z h1 hb q fun g H2 a b c=>by obtain⟨I2,f,G,e2,F,D⟩:=DH hd d a b c;subst G;exact B g I2 f e2 F D
variable{b:Nat}
def IM{l:List PH}(hd:Dj (I::l)){o:Obj}(h:U (I::l) b=none):(U (I::l)).put b o=U (I.put b o::l)/\Dj (I.put b o::l)/\I.le (I.put b o)/\I.put b o b=some o:=by
 have d:=nn.1 h;refine⟨?_,hd.tail.cons fun c=>?_,PH.le_put (d I (.head _)),by simp[PH.put]⟩
 .funext c;simp only[PH.put,U,PH.uni];split<;>simp
 .by_cases e:c=b
  .subst e;exact .inr (nn.2 fun B f=>d B (.tail _ f))
  .rcases hd.head c with a|a
   .exact .inl (by simp[PH.put,e,a])
   .exact .inr a
variable{ps:List (Nat×Value)}{parts:Array (Nat×Operand)}
def cd{ol:List Oper}{o:Oper}{t:TypeId}{len:Nat}{l:List PH}(hd:Dj (I::l))(ht:ch C.P t e size bytes)(hw:be ol σ o=some true)(aa:o.op=.buildSlice t len parts)(ha:gm (ev σ) parts.toList=some ps)
  (hp:i7 size 0 ps=true) (a:ps.length=len) (c:len*size<=16777216)
  (d:∀b I2,Dj (I2::l)->I.le I2->I2 b=some (.cells (aD ps).toArray e (0,0))->RC C (.op ol rem k) (σ.put o.dst (.v (.slice (some ⟨b,0,none⟩) len len))) (U (I2::l))):RC C (.op ol (o::rem) k) σ (U (I::l)):=
 EJ ht hw aa ha hp a c fun b hb=>by obtain⟨h,e2,g,f⟩:=IM hd (o:=.cells (aD ps).toArray e (0,0)) hb;rw[h];exact d b _ e2 g f
def lV{ol:List Oper}{fr:bI}{str:bJ}{lo:List (Nat×Oper)}{o:Oper}{t:TypeId}{len:Nat}{l:List PH}(hd:Dj (I::l))(ht:ch C.P t e size bytes)(hw:be ol σ o=some true)(aa:o.op=.buildSlice t len parts)(ha:gm (ev σ) parts.toList=some ps)
  (hp:i7 size 0 ps=true) (a:ps.length=len) (c:len*size<=16777216)
  (d:∀b I2,Dj (I2::l)->I.le I2->I2 b=some (.cells (aD ps).toArray e (0,0))->RD C ol fr str lo k (σ.put o.dst (.v (.slice (some ⟨b,0,none⟩) len len))) (U (I2::l))):RD C ol fr str ((i,o)::lo) k σ (U (I::l)):=
 EP ht hw aa ha hp a c fun b hb=>by obtain⟨h,e2,g,f⟩:=IM hd (o:=.cells (aD ps).toArray e (0,0)) hb;rw[h];exact d b _ e2 g f
def KL{c:Cf}{l:List PH}(hd:Dj (I::l))(is:List Nat)(hi:is.isPerm (List.range l.length)=true)(h:Dj (I::gG l is)->RC C c σ (U (I::gG l is))):RC C c σ (U (I::l)):=by obtain⟨e,d⟩:=kM ((tv hi).cons I) hd;rw[e];exact h d
def K4{ol:List Oper}{fr:bI}{str:bJ}{lo:List (Nat×Oper)}{l:List PH}(hd:Dj (I::l))(is:List Nat)(hi:is.isPerm (List.range l.length)=true)(h:Dj (I::gG l is)->RD C ol fr str lo k σ (U (I::gG l is))):RD C ol fr str lo k σ (U (I::l)):=by obtain⟨e,d⟩:=kM ((tv hi).cons I) hd;rw[e];exact h d
def Z3:(∀{α:Type} (a:α) (s t:List α),a::s++t=a::(s++t))/\(∀{α:Type} (t:List α),[]++t=t)/\(∀{α:Type} (t:List α),t++[]=t):=⟨fun _ _ _=>rfl,fun _=>rfl,fun t=>ab t⟩
def Z4:(∀l:List PH,gG l []=[])/\(∀(l:List PH) i is,gG l (i::is)=l.getD i PH.no::gG l is)/\(∀(a:PH) l d,(a::l).getD 0 d=a)/\(∀(a:PH) l n d,(a::l).getD (n+1) d=l.getD n d):=⟨fun _=>rfl,fun _ _ _=>rfl,fun _ _ _=>List.getD_cons_zero,fun _ _ _ _=>List.getD_cons_succ⟩
def tg{l:List PH}{o o':Obj}(hd:Dj (I::sg b o::l)):(U (I::sg b o::l)).put b o'=U (I::sg b o'::l)/\Dj (I::sg b o'::l):=by
 have d:I b=none:=(uK hd (.head _)).symm.left (dV b o);have f:=hd.tail.head.left (dV b o);constructor
 .funext c;simp only[PH.put,U,PH.uni,sg];by_cases e:c=b
  .subst e;simp[d]
  .simp[e]
 .refine(hd.tail.tail.cons fun c=>?_).cons fun c=>?_
  .by_cases e:c=b
   .subst e;exact .inr f
   .exact .inl (by simp[sg,e])
  .by_cases e:c=b
   .subst e;exact .inl d
   .rcases hd.head c with a|a
    .exact .inl a
    .exact .inr (PH.uni_none.2 ⟨by simp[sg,e],(PH.uni_none.1 a).2⟩)
variable{cs:List Value}{ty:TypeId}
def oB{ol:List Oper}{o:Oper}{T:TypeId}{off:Nat}{cells:Array Value}{l:List PH}(hd:Dj (I::sg b (.cells cells ty (0,0))::l))(hw:be ol σ o=some true)(aa:o.op=.store T x y)(d:ev σ x=.v (.pointer (some ⟨b,off,none⟩)))(c:ev σ y=.v v)
  (g:jM v=some cs) (e:bk C.P T=some cs.length) (a:off+cs.length<=cells.size)
  (f:Dj (I::sg b (.cells (bi cells.toList off cs).toArray ty (0,0))::l)->RC C (.op ol rem k) (σ.put o.dst .u) (U (I::sg b (.cells (bi cells.toList off cs).toArray ty (0,0))::l))):RC C (.op ol (o::rem) k) σ (U (I::sg b (.cells cells ty (0,0))::l)):=by
 refine KO (nJ hd _ _ (dV _ _)) hw aa d c g e a ?_;obtain⟨h,e2⟩:=tg (o':=.cells (bi cells.toList off cs).toArray ty (0,0)) hd;rw[h];exact f e2
def cg{ol:List Oper}{fr:bI}{str:bJ}{lo:List (Nat×Oper)}{o:Oper}{T:TypeId}{off:Nat}{cells:Array Value}{l:List PH}(hd:Dj (I::sg b (.cells cells ty (0,0))::l))(a:fU str.k i=false)(hw:be ol σ o=some true)(aa:o.op=.store T x y)(e:ev σ x=.v (.pointer (some ⟨b,off,none⟩)))(d:ev σ y=.v v)
  (h:jM v=some cs) (f:bk C.P T=some cs.length) (c:off+cs.length<=cells.size)
  (g:Dj (I::sg b (.cells (bi cells.toList off cs).toArray ty (0,0))::l)->RD C ol fr str lo k (σ.put o.dst .u) (U (I::sg b (.cells (bi cells.toList off cs).toArray ty (0,0))::l))):RD C ol fr str ((i,o)::lo) k σ (U (I::sg b (.cells cells ty (0,0))::l)):=by
 refine K5 (nJ hd _ _ (dV _ _)) a hw aa e d h f c ?_;obtain⟨j,e2⟩:=tg (o':=.cells (bi cells.toList off cs).toArray ty (0,0)) hd;rw[j];exact g e2
def ip(P:Program)(A:PH)(r:Nat)(kt:TypeId)(S:Value->Value->Prop):Prop:=∃o,A=sg r o/\dA P A r kt S
variable{S:Value->Value->Prop}{mt:TypeId}
def xl{ol:List Oper}{o:Oper}{kt et:TypeId}(K:Maps.Keyed C.P kt)(hm:C.P.underlying mt=some (.map kt et)){z:Operand}{r:Nat}{key:Value}{l:List PH}(hd:Dj (I::A::l))(hw:be ol σ o=some true)(aa:o.op=.mapUpdate mt x y z\/o.op=.insert mt x y z)
  (e:ev σ x=.v (.map (some r))) (d:ev σ y=.v key) (c:ev σ z=.v v) (h:ip C.P A r kt S) (f:dQ C.P kt key)
  (g:∀b,Dj (I::b::l)->ip C.P b r kt (fun y u=>(y=key/\u=v)\/(y≠key/\S y u))->RC C (.op ol rem k) (σ.put o.dst .u) (U (I::b::l))):RC C (.op ol (o::rem) k) σ (U (I::A::l)):=by
 obtain⟨ob,rfl,i⟩:=h;refine KR K hm hw aa e d c (i.le (nJ hd)) f fun a h2=>?_;obtain⟨j,e2⟩:=tg (o':=a) hd;rw[j];exact g _ e2 ⟨a,rfl,h2.of_eq (by simp[dV,PH.put])⟩
def AW{ol:List Oper}{fr:bI}{str:bJ}{lo:List (Nat×Oper)}{o:Oper}{kt et:TypeId}(K:Maps.Keyed C.P kt)(hm:C.P.underlying mt=some (.map kt et)){z:Operand}{r:Nat}{key:Value}{l:List PH}(hd:Dj (I::A::l))(g:str.h.contains i=false)(b:str.j.contains i=false)(hw:be ol σ o=some true)(aa:o.op=.mapUpdate mt x y z\/o.op=.insert mt x y z)
  (f:ev σ x=.v (.map (some r))) (e:ev σ y=.v key) (d:ev σ z=.v v) (h:ip C.P A r kt S) (m:dQ C.P kt key)
  (n:∀c,Dj (I::c::l)->ip C.P c r kt (fun y u=>(y=key/\u=v)\/(y≠key/\S y u))->RD C ol fr str lo k (σ.put o.dst .u) (U (I::c::l))):RD C ol fr str ((i,o)::lo) k σ (U (I::A::l)):=by
 obtain⟨ob,rfl,p⟩:=h;refine Lb K hm g b hw aa f e d (p.le (nJ hd)) m fun a h2=>?_;obtain⟨q,e2⟩:=tg (o':=a) hd;rw[q];exact n _ e2 ⟨a,rfl,h2.of_eq (by simp[dV,PH.put])⟩
def tf{l:List PH}(hd:Dj (I::l)){o:Obj}(h:U (I::l) b=none):(U (I::l)).put b o=U (I::sg b o::l)/\Dj (I::sg b o::l):=by obtain⟨d,e2⟩:=IP hd (o:=o) h;obtain⟨c,a⟩:=kM (List.Perm.swap I (sg b o) l) e2;exact⟨d.trans c,a⟩
def AR{ol:List Oper}{o:Oper}{l:List PH}(kt:TypeId)(hd:Dj (I::l))(hw:be ol σ o=some true)(aa:o.op=.makeMap mt none)
  (a:∀r A,Dj (I::A::l)->ip C.P A r kt (fun _ _=>False)->RC C (.op ol rem k) (σ.put o.dst (.v (.map (some r)))) (U (I::A::l))):RC C (.op ol (o::rem) k) σ (U (I::l)):=
 KJ hw aa fun r hr=>by obtain⟨b,e2⟩:=tf hd (o:=.map #[] 0) hr;rw[b];exact a r _ e2 ⟨_,rfl,dA.empty (dV _ _)⟩
def AU{ol:List Oper}{fr:bI}{str:bJ}{lo:List (Nat×Oper)}{o:Oper}{l:List PH}(kt:TypeId)(hd:Dj (I::l))(hw:be ol σ o=some true)(aa:o.op=.makeMap mt none)
  (a:∀r A,Dj (I::A::l)->ip C.P A r kt (fun _ _=>False)->RD C ol fr str lo k (σ.put o.dst (.v (.map (some r)))) (U (I::A::l))):RD C ol fr str ((i,o)::lo) k σ (U (I::l)):=
 KZ hw aa fun r hr=>by obtain⟨b,e2⟩:=tf hd (o:=.map #[] 0) hr;rw[b];exact a r _ e2 ⟨_,rfl,dA.empty (dV _ _)⟩
def Lk(key:Nat){B:b9}{l:List PH}(hd:Dj (I::l))(a:dJ σ.bx key=some B)(h:∀b,Dj (I::sg b (.cells B.cs.toArray B.ty (0,0))::l)->R C k ⟨σ.tm.map (iH key b),dt σ.bx key⟩ (U (I::sg b (.cells B.cs.toArray B.ty (0,0))::l))):R C k σ (U (I::l)):=
 Lj key a fun b hb=>by obtain⟨c,e2⟩:=tf hd (o:=.cells B.cs.toArray B.ty (0,0)) hb;rw[c];exact h b e2
end
open Go
variable{off:Nat}{A:PH}{ps:List PH}
theorem cellsU{b:Nat}{l:List Value}(hd:Dj ps)(a:A∈ps)(h:aX A b off l):aX (U ps) b off l:=h.le (jk hd a)
variable{fz:Nat×Nat}{ty:TypeId}{cs:Array Value}
def gX{b:Nat}{l:List Value}(h1:off+l.length<=cs.size)(h2:(cs.toList.drop off).take l.length=l):aX (sg b (.cells cs ty fz)) b off l:=
 ⟨cs,ty,fz,dV _ _,h1,h2⟩
def bD{b:Nat}{l:List Value}(h:A b=some (.cells cs ty fz))(h1:off+l.length<=cs.size)(h2:(cs.toList.drop off).take l.length=l):aX A b off l:=
 ⟨cs,ty,fz,h,h1,h2⟩
variable{S:Value->Value->Prop}{kt:TypeId}
def ip.atU{P:Program}{r:Nat}(h:ip P A r kt S)(hd:Dj ps)(a:A∈ps):dA P (U ps) r kt S:=by obtain⟨o,e,m⟩:=h;exact m.le (jk hd a)
def ip.congr{P:Program}{r:Nat}{S':Value->Value->Prop}(h:ip P A r kt S)(a:∀y u,S' y u<->S y u):ip P A r kt S':=by obtain⟨o,e,m⟩:=h;exact⟨o,e,m.congr a⟩
variable{v:Value}{size:Nat}{e:TypeId}
def cZ.xs{n n':Nat}{xs xs':List Value}(h:cZ A e size v n xs)(b:n=n')(a:xs=xs'):cZ A e size v n' xs':=by subst b;subst a;exact h
def cZ.slice{n:Nat}{xs:List Value}(h:cZ A e size v n xs):∃a c,v=.slice a n c:=by
 obtain⟨⟨_,⟨a,b⟩|⟨g,cap,cur,a,_⟩⟩,_⟩:=h
 .subst b;exact⟨_,_,a⟩
 .exact⟨_,_,a⟩
def LK{I:PH}{l:List PH}(hd:Dj (I::l)):U (I::l)=U (I::PH.no::l)/\Dj (I::PH.no::l):=by
 constructor
 .funext c;simp only[U,PH.uni,PH.no]
 .refine(hd.tail.cons fun b=>.inl rfl).cons fun b=>?_;rcases hd.head b with h|h
  .exact .inl h
  .exact .inr (PH.uni_none.2 ⟨rfl,h⟩)
section
variable {C:Cx} {k:List Item} {σ:St}
variable{I:PH}
def dR{c:Cf}{l:List PH}(hd:Dj (I::l))(h:Dj (I::PH.no::l)->RC C c σ (U (I::PH.no::l))):RC C c σ (U (I::l)):=by obtain⟨e,d⟩:=LK hd;rw[e];exact h d
def jE(key:Nat){B:b9}{l:List PH}(hd:Dj (I::l))(a:dJ σ.bx key=some B)(h:∀b,Dj (I::sg b (.cells B.cs.toArray B.ty (0,0))::l)->RC C (.st k) ⟨σ.tm.map (iH key b),dt σ.bx key⟩ (U (I::sg b (.cells B.cs.toArray B.ty (0,0))::l))):RC C (.st k) σ (U (I::l)):=Lk key hd a h
def bH{c:Cf}{A:PH}{l:List PH}(hd:Dj (I::A::l))(h:∀I2,Dj (I2::l)->I.le I2->A.le I2->RC C c σ (U (I2::l))):RC C c σ (U (I::A::l)):=by obtain⟨e,d⟩:=freeze hd;rw[e];exact h _ d (PH.le_uni I A) (PH.le_uni_r (uK hd (.head _)))
end
open Go
attribute [go_sem] undef fe gA uq rY kb kl fU
attribute [go_sem] Bool.false_and Bool.and_false be iQ Lt Ls pv vW
attribute [go_sem] vU vX qN vV jn fA d8 gm
attribute [go_sem] sP sw pD vD uG ux wO ev
attribute [go_sem] eW fB St.put St.newBox St.store di dt dJ
attribute [go_sem] jt bi cE List.map_cons List.map_nil ix ky jM
attribute [go_sem] one gp sn jP s6 exitTo mp Value.cells
attribute [go_sem] List.toList_toArray List.cons_append List.nil_append List.replicate List.length_cons List.length_nil ite_true ite_false
attribute [go_sem] if_true if_false Option.map_some Option.map_none true_and and_true List.drop_zero List.drop_succ_cons
attribute [go_sem] List.take_succ_cons List.take_zero List.getElem?_cons_zero List.getElem?_cons_succ List.set_cons_zero List.set_cons_succ List.all_cons List.all_nil
attribute [go_sem] Bool.and_self Bool.true_and Bool.and_true beq_self_eq_true Array.toList List.size_toArray Nat.zero_add Nat.add_zero
attribute [go_sem] and_self beq_true beq_false Bool.not_true Bool.not_false Int.toNat_natCast decide_true decide_false
attribute [go_sem] pick sI lG iH fU ku ig Nat.sub_zero
attribute [go_sem] Int.cast_ofNat_Int
attribute [go_sem] Nat.reduceAdd Nat.reduceSub Nat.reduceLT Nat.reduceLeDiff Nat.reduceEqDiff Nat.reduceBEq Nat.reduceMul reduceIte
attribute [go_sem] reduceCtorEq Int.reduceToNat Int.reduceLE Int.reduceLT Int.reduceBEq Int.reduceBNe Int.reduceEq
def af{C:Cx}{σ:St}{H:PH}{c:Cf}{Q:Prop}(h:Q)(e:ni C H (fe C.P 500 c σ [])=Q:=by simp only[go_sem];rfl):RC C c σ H:=jC 500 (e.mpr h)
def dB{C:Cx}{k:List Item}{σ:St}{H:PH}{ol:List Oper}{fr:bI}{str:bJ}{l:List (Nat×Oper)}{Q:Prop}(h:Q)(e:oG C ol fr str k H (gA C.P ol fr.k str.k fr.kp l σ [])=Q:=by simp only[go_sem];rfl):RD C ol fr str l k σ H:=bp (e.mpr h)
def jA(C:Cx)(c:Cf)(σ:St)(H:PH)(Q:Prop):Prop:=ni C H (fe C.P 500 c σ [])=Q
def oo(C:Cx)(ol:List Oper)(fr:bI)(str:bJ)(l:List (Nat×Oper))(k:List Item)(σ:St)(H:PH)(Q:Prop):Prop:=oG C ol fr str k H (gA C.P ol fr.k str.k fr.kp l σ [])=Q
section
variable {C:Cx} {σ:St} {H:PH} {c:Cf} {k:List Item} {ol:List Oper} {fr:bI} {str:bJ} {l:List (Nat×Oper)} {Q p q r s t o:Prop}
def db(x:p)(h:Q)(e:p->jA C c σ H Q:=by intro x;simp only[jA,go_sem,x];rfl):RC C c σ H:=jC 500 ((e x).mpr h)
def je(x:p)(y:q)(h:Q)(e:p->q->jA C c σ H Q:=by intro x y;simp only[jA,go_sem,x,y];rfl):RC C c σ H:=jC 500 ((e x y).mpr h)
end
variable{L:List PH}{I:PH}
def bq{C:Cx}{σ:St}{c:Cf}{l:List PH}(hd:Dj (I::l))(is:List Nat)(h:Dj L->RC C c σ (U L))(hi:is.isPerm (List.range l.length)=true:=by rfl)(e:I::gG l is=L:=by simp only[Z4];rfl):RC C c σ (U (I::l)):=KL hd is hi (e▸h)
def gw{C:Cx}{k:List Item}{σ:St}{ol:List Oper}{fr:bI}{str:bJ}{lo:List (Nat×Oper)}{l:List PH}(hd:Dj (I::l))(is:List Nat)(h:Dj L->RD C ol fr str lo k σ (U L))(hi:is.isPerm (List.range l.length)=true:=by rfl)(e:I::gG l is=L:=by simp only[Z4];rfl):RD C ol fr str lo k σ (U (I::l)):=K4 hd is hi (e▸h)
variable{Ψ:Value->PH->List PH->Prop}{first cap:Array Value}{vs:List Value}{f:FuncId}{ts:Array TypeId}{aq:Array Operand}{x:Operand}{rem:List Oper}
def dq{C:Cx}{k:List Item}{σ:St}{ol:List Oper}{o:Oper}(hd:Dj [I])(d:(be ol σ o,o.op,ev σ x,d8 (ev σ) aq.toList)=(some true,Op.call ⟨.value x,aq,ts⟩,SV.v (.func (.func f) first cap),some vs))(g:ay C.P f)(h:aI C.P f (first++vs.toArray++cap) I [] Ψ)
  (e:∀v I2 qs,Dj (I2::qs)->I.le I2->Ψ v I2 qs->RC C (.op ol rem k) (σ.put o.dst (.v v)) (U (I2::qs))):RC C (.op ol (o::rem) k) σ (U [I]):=
 EK (F:=[]) hd [] d g rfl rfl h fun v I2 qs a b hp=>by rw[ab]at a |-;exact e v I2 qs a b hp
def ce{C:Cx}{k:List Item}{σ:St}{ol:List Oper}{o:Oper}{l:List PH}(hd:Dj (I::l))(is:List Nat)(ps F:List PH)(a:(be ol σ o,o.op,ev σ x,d8 (ev σ) aq.toList)=(some true,Op.call ⟨.value x,aq,ts⟩,SV.v (.func (.func f) first cap),some vs))(e:ay C.P f)(b:gG l is=ps++F)(h:aI C.P f (first++vs.toArray++cap) I ps Ψ)
  (d:∀v I2 qs,Dj (I2::qs++F)->I.le I2->Ψ v I2 qs->RC C (.op ol rem k) (σ.put o.dst (.v v)) (U (I2::qs++F))) (hi:is.isPerm (List.range l.length)=true:=by rfl):RC C (.op ol (o::rem) k) σ (U (I::l)):=EK hd is a e hi b h d
def cP{C:Cx}{k:List Item}{σ:St}{ol:List Oper}{fr:bI}{str:bJ}{i:Nat}{lo:List (Nat×Oper)}{o:Oper}(hd:Dj [I])(g:(be ol σ o,o.op,ev σ x,d8 (ev σ) aq.toList)=(some true,Op.call ⟨.value x,aq,ts⟩,SV.v (.func (.func f) first cap),some vs))(n:ay C.P f)(h:aI C.P f (first++vs.toArray++cap) I [] Ψ)
  (m:∀v I2 qs,Dj (I2::qs)->I.le I2->Ψ v I2 qs->RD C ol fr str lo k (σ.put o.dst (.v v)) (U (I2::qs))) (e:str.h.contains i=false:=by exact rfl) (b:str.j.contains i=true->fr.J.le I:=by exact fun h=>by cases h):RD C ol fr str ((i,o)::lo) k σ (U [I]):=
 EQ (F:=[]) hd [] e b g n rfl rfl h fun v I2 qs a d hp=>by rw[ab]at a |-;exact m v I2 qs a d hp
def cv{C:Cx}{k:List Item}{σ:St}{ol:List Oper}{fr:bI}{str:bJ}{i:Nat}{lo:List (Nat×Oper)}{o:Oper}{l:List PH}(hd:Dj (I::l))(is:List Nat)(ps F:List PH)(d:(be ol σ o,o.op,ev σ x,d8 (ev σ) aq.toList)=(some true,Op.call ⟨.value x,aq,ts⟩,SV.v (.func (.func f) first cap),some vs))(m:ay C.P f)(e:gG l is=ps++F)(h:aI C.P f (first++vs.toArray++cap) I ps Ψ)
  (g:∀v I2 qs,Dj (I2::qs++F)->I.le I2->Ψ v I2 qs->RD C ol fr str lo k (σ.put o.dst (.v v)) (U (I2::qs++F))) (hi:is.isPerm (List.range l.length)=true:=by rfl) (b:str.h.contains i=false:=by exact rfl) (a:str.j.contains i=true->fr.J.le I:=by exact fun h=>by cases h):RD C ol fr str ((i,o)::lo) k σ (U (I::l)):=EQ hd is b a d m hi e h g
open Go
attribute [go_sem] sp fj gH
section
variable {C:Cx} {k:List Item} {σ:St} {H:PH}
def bz{α:Type}{c:Code}(μ:α->Nat)(S:α->St)(Q:α->PH->Prop)(a0:α)(g:fj (S a0).tm σ.tm)(hb:gH (S a0).bx σ.bx)(e:Q a0 H)
  (h:∀a H,Q a H->(∀b d H',μ b<μ a->fj (S b).tm d.tm->gH (S b).bx d.bx->Q b H'->RC C (.st (.inLoop c::k)) d H')->RC C (.st (.code c::.inLoop c::k)) (S a) H) :
  RC C (.st (.code (.loop c)::k)) σ H:=by
 refine xp g hb ?_;refine Li (fun n σ H=>∃a,σ=S a/\μ a=n/\Q a H) (μ a0) ⟨a0,rfl,rfl,e⟩ ?_;rintro n σ H ⟨a,rfl,rfl,e⟩ i;exact h a H e fun b d H' f h1 h2 h3=>xp h1 h2 (i _ f _ _ ⟨b,rfl,rfl,h3⟩)
def fd{σ':St}(ht:fj σ'.tm σ.tm)(hb:gH σ'.bx σ.bx)(h:RC C (.st k) σ' H):RC C (.st k) σ H:=xp ht hb h
def Cc{size:Nat}:∀{ps:List (Nat×Value)} {j:Nat},i7 size j ps=true->(aD ps).length=ps.length*size
 | [],_,_=>by simp[aD]
 |(i,v)::l,j,h=>by simp only[i7,bu,cu]at h;have:=Cc h.2;simp only[aD,dG,h.1.2,this,bf];rw[fm];omega
variable{size:Nat}{e:TypeId}
def th{len b:Nat}{xs:List Value}(h:xs.length=len*size)(d:len<=maxLen):cZ (sg b (.cells xs.toArray e (0,0))) e size (.slice (some ⟨b,0,none⟩) len len) len xs:=
 ⟨⟨h,.inr ⟨b,len,xs.toArray,rfl,dV _ _,aW _,d,by simpa using h,by rw[<-h];simp⟩⟩,fun c a=>by simp only[vO,ne_eq,bv]at a;simp[sg,Ne.symm a]⟩
variable{ps:List (Nat×Value)}{parts:Array (Nat×Operand)}
def tV{ol rem:List Oper}{o:Oper}{t:TypeId}{len bytes:Nat}{I:PH}{l:List PH}(hd:Dj (I::l))(ht:ch C.P t e size bytes)(hw:be ol σ o=some true)(aa:o.op=.buildSlice t len parts)(ha:gm (ev σ) parts.toList=some ps)
  (hp:i7 size 0 ps=true) (a:ps.length=len) (c:len*size<=16777216)
  (d:∀b A,Dj (I::A::l)->cZ A e size (.slice (some ⟨b,0,none⟩) len len) len (aD ps)->RC C (.op ol rem k) (σ.put o.dst (.v (.slice (some ⟨b,0,none⟩) len len))) (U (I::A::l))):RC C (.op ol (o::rem) k) σ (U (I::l)):=
 EJ ht hw aa ha hp a c fun b hb=>by obtain⟨f,e2⟩:=tf hd (o:=.cells (aD ps).toArray e (0,0)) hb;rw[f];refine d b _ e2 (th (by rw[Cc hp,a]) ?_);obtain⟨_,_,_,_,_,_,_,_,g⟩:=ht;have:len*1<=len*size:=Nat.mul_le_mul_left _ g;unfold maxLen;omega
def KX{ol:List Oper}{fr:bI}{str:bJ}{i:Nat}{lo:List (Nat×Oper)}{o:Oper}{t:TypeId}{len bytes:Nat}{I:PH}{l:List PH}(hd:Dj (I::l))(ht:ch C.P t e size bytes)(hw:be ol σ o=some true)(aa:o.op=.buildSlice t len parts)(ha:gm (ev σ) parts.toList=some ps)
  (hp:i7 size 0 ps=true) (a:ps.length=len) (c:len*size<=16777216)
  (d:∀b A,Dj (I::A::l)->cZ A e size (.slice (some ⟨b,0,none⟩) len len) len (aD ps)->RD C ol fr str lo k (σ.put o.dst (.v (.slice (some ⟨b,0,none⟩) len len))) (U (I::A::l))):RD C ol fr str ((i,o)::lo) k σ (U (I::l)):=
 EP ht hw aa ha hp a c fun b hb=>by obtain⟨f,e2⟩:=tf hd (o:=.cells (aD ps).toArray e (0,0)) hb;rw[f];refine d b _ e2 (th (by rw[Cc hp,a]) ?_);obtain⟨_,_,_,_,_,_,_,_,g⟩:=ht;have:len*1<=len*size:=Nat.mul_le_mul_left _ g;unfold maxLen;omega
theorem cZ.cellsU{ps:List PH}{A:PH}{v:Value}{n:Nat}{xs:List Value}(hd:Dj ps)(d:A∈ps)(h:cZ A e size v n xs)(c:0<n):∃g cap,v=.slice (some ⟨g,0,none⟩) n cap/\aX (U ps) g 0 xs:=by obtain⟨g,cap,a,b⟩:=h.1.cells c;exact⟨g,cap,a,b.le (jk hd d)⟩
end
end Go.Sx
