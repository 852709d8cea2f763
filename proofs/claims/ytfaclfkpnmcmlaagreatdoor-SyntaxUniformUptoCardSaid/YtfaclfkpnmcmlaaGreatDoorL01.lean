import Derived.Test.YtfaclfkpnmcmlaaGreatDoorL00
import Derived.Maps.Keyed
import Derived.Lib.AppendZerosOnto
import Derived.Lib.Overlaps
import Derived.Laws.CopyRow
import Derived.Laws.AppendOwn
import Derived.Test.YtfaclfkpnmcmlaaGreatDoorProg
import Derived.KernelRfl
import Derived.DeepKeys4
set_option maxHeartbeats 8000000
set_option linter.all false
open Go.Proofs.Tryz hiding d8
namespace Go.Sx
open Go
section
variable {C:Cx} {P:Program} {k:List Item} {σ:St} {H:PH}
def fq(P:Program)(a:TypeId)(v:Value):Prop:=∃l,keyOf P a v=some l
def eW(P:Program)(H:PH)(r:Nat)(c:TypeId)(S:Value->Value->Prop):Prop:=
 ∃b a,H r=some (.map b a)/\(∀e∈b.toList,fq P c e.key)/\b.toList.Pairwise (fun x y=>x.key≠y.key)/\∀y u,S y u<->∃e∈b.toList,e.key=y/\e.val=u
variable{S:Value->Value->Prop}{kt:TypeId}
def eW.le{H H2:PH}{r:Nat}(h:eW P H r kt S)(d:H.le H2):eW P H2 r kt S:=by obtain⟨e,c,a,b⟩:=h;exact⟨e,c,d _ _ a,b⟩
def eW.of_eq{H H2:PH}{r:Nat}(h:eW P H r kt S)(d:H2 r=H r):eW P H2 r kt S:=by obtain⟨e,c,a,b⟩:=h;exact⟨e,c,d.trans a,b⟩
def eW.congr{r:Nat}{S':Value->Value->Prop}(h:eW P H r kt S)(hs:∀y u,S' y u<->S y u):eW P H r kt S':=by obtain⟨f,e,a,b,c,d⟩:=h;exact⟨f,e,a,b,c,fun y u=>(hs y u).trans (d y u)⟩
variable{x:Value}
def UQ{mt et:TypeId}(K:Maps.Keyed P kt)(hm:P.underlying mt=some (.map kt et)){r:Nat}(h:eW P H r kt S){v:Value}(A:fq P kt x)(hs:S x v)(w:World)(B:Sub H w):
  (Instr.lookup mt (.map (some r)) x true).run P w=.ok (.tuple #[v,.bool true]) w:=by
 obtain⟨o,g,a,b,c,d⟩:=h;obtain⟨l,y⟩:=A;have i:(getObj r).run P w=.ok (.map o g) w:=by simp[getObj,Sem.run,B _ _ a]
 obtain⟨s,n,f,q⟩:=(d x v).1 hs;rcases K.find w y o.toList b with ⟨h1,h2⟩|⟨j,e,h1,h2,h3⟩
 .exact absurd f (h2 s n)
 .have:e=s:=by
   have m:e∈o.toList:=db h2;by_cases z:e=s
   .exact z
   .exfalso;rcases List.mem_iff_getElem.1 m with ⟨p,u,rfl⟩
    rcases List.mem_iff_getElem.1 n with ⟨i2,t,rfl⟩
    rcases s6 p i2 with h|h|h
    .exact List.pairwise_iff_getElem.1 c p i2 u t h (h3.trans f.symm)
    .subst h;exact z rfl
    .exact List.pairwise_iff_getElem.1 c i2 p t u h (f.trans h3.symm)
  subst this;subst q;have F:=K.check w o.isEmpty y;simp[Instr.lookup,fe hm,Result.andThen,i,F,h1]
def UP{mt et:TypeId}(K:Maps.Keyed P kt)(hm:P.underlying mt=some (.map kt et)){z:Value}(g:br P et=some z){r:Nat}(h:eW P H r kt S)(q:fq P kt x)(hs:∀v,¬S x v)(w:World)(s:Sub H w):
  (Instr.lookup mt (.map (some r)) x true).run P w=.ok (.tuple #[z,.bool false]) w:=by
 obtain⟨n,f,a,b,c,d⟩:=h;obtain⟨l,o⟩:=q;have m:(getObj r).run P w=.ok (.map n f) w:=by simp[getObj,Sem.run,s _ _ a]
 have p:(zeroValue et).run P w=.ok z w:=by
  unfold br at g;cases hi:P.info? et with
  |none=>rw[hi]at g;cases g
  |some i=>rw[hi]at g;simp only[dD]at g;simp[zeroValue,typeInfo,program,Sem.run,hi,g]
 rcases K.find w o n.toList b with ⟨h1,h2⟩|⟨j,e,h1,h2,h3⟩
 .have t:=K.check w n.isEmpty o;simp[Instr.lookup,fe hm,Result.andThen,m,t,h1,p]
 .exact absurd ((d x e.val).2 ⟨e,db h2,h3,rfl⟩) (hs _)
def YJ{mt et:TypeId}(K:Maps.Keyed P kt)(hm:P.underlying mt=some (.map kt et)){r:Nat}(h:eW P H r kt S){v:Value}(hx:fq P kt x)(w:World)(hw:Sub H w):
  ∃w2 H2 o,(Instr.mapUpdate mt (.map (some r)) x v).run P w=.ok () w2/\H2=H.put r o/\cP H w H2 w2/\eW P H2 r kt (fun y u=>(y=x/\u=v)\/(y≠x/\S y u)):=by
 obtain⟨m,g,a,b,c,d⟩:=h;obtain⟨l,I⟩:=hx;have ha:=hw _ _ a;have t:(getObj r).run P w=.ok (.map m g) w:=by simp[getObj,Sem.run,ha]
 have s:∀(o:Obj),(setObj r o).run P w=.ok () { w with heap:=w.heap.setIfInBounds r o }:=by intro o;simp[setObj,Sem.run,ha]
 have step:∀(o:Obj),cP H w (H.put r o) { w with heap:=w.heap.setIfInBounds r o }:=by
  intro o;have B:=lw ha;refine⟨fun b' x' h=>?_,by simp,fun b' hb G=>?_,fun b' hb G=>?_,rfl,rfl,rfl⟩
  .by_cases e:b'=r
   .subst e;simp only[PH.put,cu]at h;cases h;simp[CH,B]
   .simp only[PH.put,ab e]at h;simp only[CH,ab (Ne.symm e)];exact hw _ _ h
  .have:b'≠r:=fun e=>by subst e;rw[a]at G;cases G
   simp only[CH,ab (Ne.symm this)]
  .have:b'≠r:=fun e=>by subst e;rw[a]at G;cases G
   simp[PH.put,this,G]
 rcases K.find w I m.toList b with ⟨h1,h2⟩|⟨j,e,h1,h2,h3⟩
 .refine⟨{ w with heap:=w.heap.setIfInBounds r (.map (m.push { key:=x,val:=v,born:=g }) (g+1)) },_,.map (m.push { key:=x,val:=v,born:=g }) (g+1),?_,rfl,step (.map (m.push { key:=x,val:=v,born:=g }) (g+1)),?_⟩
  .have X:=K.check w false I;simp[Instr.mapUpdate,fe hm,Result.andThen,t,X,h1];exact s _
  .refine⟨_,_,ah rfl,?_,?_,?_⟩
   .intro e q;simp at q;rcases q with q|rfl
    .exact b e (by simpa using q)
    .exact⟨l,I⟩
   .simp only[Array.toList_push,List.pairwise_append,s0,fg];exact⟨c,fun y hy z Z=>by simp at Z;subst Z;exact h2 y hy⟩
   .intro y u;simp only[Array.toList_push,jR,List.mem_singleton];constructor
    .rintro(⟨rfl,rfl⟩|⟨n,hs⟩)
     .exact⟨_,.inr rfl,rfl,rfl⟩
     .obtain⟨e,q,h5,h6⟩:=(d y u).1 hs;exact⟨e,.inl q,h5,h6⟩
    .rintro⟨e,q|rfl,rfl,rfl⟩
     .exact .inr ⟨h2 e q,(d _ _).2 ⟨e,q,rfl,rfl⟩⟩
     .exact .inl ⟨rfl,rfl⟩
 .have L:m[j]?=some e:=by simpa using h2
  have p:j<m.size:=by
   rcases aK j m.size with h|h
   .exact h
   .rw[CG h]at L;cases L
  have N:((m[j]?).map (·.key)).getD x=x:=by rw[L];simpa using h3
  have A:(m.modify j fun e=>{ e with key:=x,val:=v }).toList=m.toList.set j { e with key:=x,val:=v }:=by
   apply List.ext_getElem?;intro i;simp only[Array.getElem?_toList,Array.getElem?_modify,wO,ot];by_cases hi:j=i
   .subst hi;have W:m[j]=e:=by rw[sW p]at L;exact cX L
    simp[L,p,W]
   .simp[hi]
  refine⟨{ w with heap:=w.heap.setIfInBounds r (.map (m.modify j fun e=>{ e with key:=x,val:=v }) g) },_,.map (m.modify j fun e=>{ e with key:=x,val:=v }) g,?_,rfl,step (.map (m.modify j fun e=>{ e with key:=x,val:=v }) g),?_⟩
  .have V:(Instr.keyThatStays (((m[j]?).map (·.key)).getD x) x).run P w=.ok x w:=by rw[N];exact K.stays w I
   have X:=K.check w false I;simp[Instr.mapUpdate,fe hm,Result.andThen,t,X,h1,V];exact s _
  .have fP:∀i Q,m.toList[i]?=some Q->i≠j->Q.key≠x:=by
    intro i Q hi n J;have F:i<m.toList.length:=by
     rcases aK i m.toList.length with h|h
     .exact h
     .rw[fp h]at hi;cases hi
    have e1:m.toList[i]=Q:=by rw[aY F]at hi;exact cX hi
    have e2:m.toList[j]'(by simpa using p)=e:=by rw[aY (by simpa using p)]at h2;exact cX h2
    rcases aK i j with h|h
    .exact List.pairwise_iff_getElem.1 c i j F (by simpa using p) h (by rw[e1,e2,J,h3])
    .exact List.pairwise_iff_getElem.1 c j i (by simpa using p) F O (by rw[e1,e2,J,h3])
   have mem:∀f,f∈m.toList.set j { e with key:=x,val:=v }<->f={ e with key:=x,val:=v }\/∃i,i≠j/\m.toList[i]?=some f:=by
    intro f;rw[List.mem_iff_getElem?];constructor
    .rintro⟨i,hi⟩;rw[wO]at hi;split at hi
     .split at hi
      .cases hi;exact .inl rfl
      .cases hi
     .rename_i n;exact .inr ⟨i,Ne.symm n,hi⟩
    .rintro(rfl|⟨i,n,hi⟩)
     .exact⟨j,by rw[wO];simp[p]⟩
     .exact⟨i,by rw[wO,ab (Ne.symm n)];exact hi⟩
   refine⟨_,_,ah rfl,?_,?_,?_⟩
   .rw[A];intro f hf;rcases(mem f).1 hf with rfl|⟨i,_,hi⟩
    .exact⟨l,I⟩
    .exact b f (db hi)
   .rw[A,List.pairwise_iff_getElem];intro U i2 T R B;simp only[lJ]at T R;rw[List.getElem_set,List.getElem_set];by_cases e1:j=U<;>by_cases e2:j=i2
    .omega
    .subst e1;rw[ah rfl,ab e2];exact fun J=>fP i2 _ (aY R) (Ne.symm e2) J.symm
    .subst e2;rw[ah rfl,ab e1];exact fun J=>fP U _ (aY T) (Ne.symm e1) J
    .rw[ab e1,ab e2];exact List.pairwise_iff_getElem.1 c U i2 T R B
   .intro y u;rw[A];constructor
    .rintro(⟨rfl,rfl⟩|⟨n,hs⟩)
     .exact⟨_,(mem _).2 (.inl rfl),rfl,rfl⟩
     .obtain⟨f,hf,h5,h6⟩:=(d y u).1 hs;obtain⟨i,hi⟩:=List.mem_iff_getElem?.1 hf;refine⟨f,(mem f).2 (.inr ⟨i,fun ei=>?_,hi⟩),h5,h6⟩;subst ei;rw[h2]at hi;cases hi;exact n (h5.symm.trans h3)
    .rintro⟨f,hf,rfl,rfl⟩;rcases(mem f).1 hf with rfl|⟨i,n,hi⟩
     .exact .inl ⟨rfl,rfl⟩
     .exact .inr ⟨fP i f hi n,(d _ _).2 ⟨f,db hi,rfl,rfl⟩⟩
end
open Go
section
variable {C:Cx} {P:Program} {k:List Item} {σ:St} {H:PH}
variable{v key z:Value}{S:Value->Value->Prop}{x y:Operand}{mt kt et:TypeId}
def J7{o:Oper}(K:Maps.Keyed P kt)(hm:P.underlying mt=some (.map kt et))(f:br P et=some z){r:Nat}(aa:o.op=.lookup mt x y true)
  (c:ev σ x=.v (.map (some r))) (b:ev σ y=.v key) (h:eW P H r kt S) (e:fq P kt key)  {is:Bool} (hs:is=true/\S key v\/is=false/\v=z/\∀u,¬S key u) :
  bR σ o.op=true/\∀w,Sub H w->(execOp (bp σ) o).run P w=.ok (.value (.tuple #[v,.bool is])) w:=by
 constructor
 .simp[bR,aa,fx,Op.operands,c,b,fN]
 .intro w d;have a:(Instr.lookup mt (.map (some r)) key true).run P w=.ok (.tuple #[v,.bool is]) w:=by
   rcases hs with ⟨rfl,hs⟩|⟨rfl,rfl,hs⟩
   .exact UQ K hm h e hs w d
   .exact UP K hm f h e hs w d
  simp[execOp,aa,bp,c,b,a,Result.andThen]
variable{rem:Zq}
def xg{ol:Zq}{o:Oper}(K:Maps.Keyed C.P kt)(hm:C.P.underlying mt=some (.map kt et))(a:br C.P et=some z){r:Nat}(d:bH ol σ o=some true)(aa:o.op=.lookup mt x y true)
  (c:ev σ x=.v (.map (some r))) (b:ev σ y=.v key) (h:eW C.P H r kt S) (e:fq C.P kt key) (v:Value) (is:Bool) (hs:is=true/\S key v\/is=false/\v=z/\∀u,¬S key u)
  (f:RC C (.op ol rem k) (σ.put o.dst (.v (.tuple #[v,.bool is]))) H):RC C (.op ol (o::rem) k) σ H:=by
 obtain⟨h1,h2⟩:=J7 K hm a aa c b h e hs;exact uJ _ d h1 h2 f
variable{i:Nat}
def zJ{ol:Zq}{fr:cw}{str:cC}{l:List (Nat×Oper)}{o:Oper}(K:Maps.Keyed C.P kt)(hm:C.P.underlying mt=some (.map kt et))(a:br C.P et=some z){r:Nat}(hf:fr.h.contains i=true)(d:bH ol σ o=some true)(aa:o.op=.lookup mt x y true)
  (c:ev σ x=.v (.map (some r))) (b:ev σ y=.v key) (h:eW C.P H r kt S) (e:fq C.P kt key) (v:Value) (is:Bool) (hs:is=true/\S key v\/is=false/\v=z/\∀u,¬S key u)
  (f:RD C ol fr str l k (σ.put o.dst (.v (.tuple #[v,.bool is]))) H):RD C ol fr str ((i,o)::l) k σ H:=by
 obtain⟨h1,h2⟩:=J7 K hm a aa c b h e hs;exact uN _ hf d h1 (by rw[aa];rfl) h2 f
def LL{o:Oper}(K:Maps.Keyed P kt)(hm:P.underlying mt=some (.map kt et)){z:Operand}{r:Nat}(aa:o.op=.mapUpdate mt x y z\/o.op=.insert mt x y z)
  (f:ev σ x=.v (.map (some r))) (d:ev σ y=.v key) (c:ev σ z=.v v) (h:eW P H r kt S) (i:fq P kt key) :
  bR σ o.op=true/\eJ P (execOp (bp σ) o) H fun sv H2=>sv=.u/\∃ob,H2=H.put r ob/\eW P H2 r kt (fun y u=>(y=key/\u=v)\/(y≠key/\S y u)):=by
 constructor
 .rcases aa with aa|aa<;>simp[bR,aa,fx,Op.operands,f,d,c,fN]
 .intro w g;obtain⟨w2,H2,ob,a,e,st,b⟩:=YJ (v:=v) K hm h i w g;have:(execOp (bp σ) o).run P w=.ok .skip w2:=by rcases aa with aa|aa<;>simp[execOp,aa,bp,f,d,c,a,Result.andThen]
  rw[this];exact⟨H2,st,rfl,ob,e,b⟩
def Nj{ol:Zq}{o:Oper}(K:Maps.Keyed C.P kt)(hm:C.P.underlying mt=some (.map kt et)){z:Operand}{r:Nat}(g:bH ol σ o=some true)(aa:o.op=.mapUpdate mt x y z\/o.op=.insert mt x y z)
  (f:ev σ x=.v (.map (some r))) (e:ev σ y=.v key) (d:ev σ z=.v v) (h:eW C.P H r kt S) (i:fq C.P kt key)
  (j:∀ob,eW C.P (H.put r ob) r kt (fun y u=>(y=key/\u=v)\/(y≠key/\S y u))->RC C (.op ol rem k) (σ.put o.dst .u) (H.put r ob)):RC C (.op ol (o::rem) k) σ H:=by
 obtain⟨h1,h2⟩:=LL K hm aa f e d h i;exact jE g h1 (h2.mono fun sv H2 ⟨a,ob,b,c⟩=>by subst a;subst b;exact j ob c)
def Nw{ol:Zq}{fr:cw}{str:cC}{l:List (Nat×Oper)}{o:Oper}(K:Maps.Keyed C.P kt)(hm:C.P.underlying mt=some (.map kt et)){z:Operand}{r:Nat}(hs:str.h.contains i=false)(d:str.j.contains i=false)(m:bH ol σ o=some true)(aa:o.op=.mapUpdate mt x y z\/o.op=.insert mt x y z)
  (g:ev σ x=.v (.map (some r))) (f:ev σ y=.v key) (e:ev σ z=.v v) (h:eW C.P H r kt S) (n:fq C.P kt key)
  (p:∀ob,eW C.P (H.put r ob) r kt (fun y u=>(y=key/\u=v)\/(y≠key/\S y u))->RD C ol fr str l k (σ.put o.dst .u) (H.put r ob)):RD C ol fr str ((i,o)::l) k σ H:=by
 obtain⟨h1,h2⟩:=LL K hm aa g f e h n;exact uM m h1 (by rcases aa with aa|aa<;>rw[aa]<;>rfl) (h2.mono fun sv H2 ⟨a,ob,b,c⟩=>by subst a;subst b;exact⟨kY.non hs d,p ob c⟩)
def Xl{o:Oper}(aa:o.op=.makeMap mt none):
  bR σ o.op=true/\eJ P (execOp (bp σ) o) H fun sv H2=>∃r,H r=none/\sv=.v (.map (some r))/\H2=H.put r (.map #[] 0):=by
 constructor
 .simp[bR,aa,fx,Op.operands]
 .intro w d;obtain⟨c,b⟩:=cP.new d (.map #[] 0);have a:(execOp (bp σ) o).run P w=.ok (.value (.map (some w.heap.size))) { w with heap:=w.heap.push (.map #[] 0) }:=by simp[execOp,aa,Instr.makeMap,newObj,Sem.run,Result.andThen]
  rw[a];exact⟨_,b,w.heap.size,c,rfl,rfl⟩
def eW.empty{r:Nat}(h:H r=some (.map #[] 0)):eW P H r kt (fun _ _=>False):=
 ⟨#[],0,h,fun e a=>by simp at a,by simp,fun y u=>by simp⟩
def Nb{ol:Zq}{o:Oper}(d:bH ol σ o=some true)(aa:o.op=.makeMap mt none)
  (e:∀r,H r=none->RC C (.op ol rem k) (σ.put o.dst (.v (.map (some r)))) (H.put r (.map #[] 0))):RC C (.op ol (o::rem) k) σ H:=by
 obtain⟨h1,h2⟩:=Xl (σ:=σ) (H:=H) (P:=C.P) aa;exact jE d h1 (h2.mono fun sv H2 ⟨r,a,b,c⟩=>by subst b;subst c;exact e r a)
def Np{ol:Zq}{fr:cw}{str:cC}{l:List (Nat×Oper)}{o:Oper}(a:bH ol σ o=some true)(aa:o.op=.makeMap mt none)
  (b:∀r,H r=none->RD C ol fr str l k (σ.put o.dst (.v (.map (some r)))) (H.put r (.map #[] 0))):RD C ol fr str ((i,o)::l) k σ H:=
 .inr ⟨a,by rw[aa];exact b⟩
theorem g9.cells{e:TypeId}{size:Nat}{n:Nat}{xs:Zo}(h:g9 H e size v n xs)(j:0<n):∃g cap,v=.slice (some ⟨g,0,none⟩) n cap/\a8 H g 0 xs:=by
 obtain⟨i,⟨_,l⟩|⟨g,cap,cur,a,b,c,d,f,k'⟩⟩:=h
 .omega
 .refine⟨g,cap,a,cur,e,(0,0),b,?_,?_⟩
  .rw[i,f,g8];exact cv _ c
  .rw[io,i];exact k'
def a8.sub{b off:Nat}{l:Zo}(h:a8 H b off l)(i n:Nat)(hi:i+n<=l.length):a8 H b (off+i) ((l.drop i).take n):=by
 obtain⟨cs,ty,e,a,b',c⟩:=h;have d:((l.drop i).take n).length=n:=by simp;omega
 refine⟨cs,ty,e,a,by rw[d];omega,?_⟩;rw[d];have:l=(cs.toList.drop off).take l.length:=c.symm
 conv=>rhs;rw[this]
 rw[List.drop_take,lI,ou,jB O]
end
open Go
def PH.no:PH:=fun _=>none
def PH.uni(A B:PH):PH:=fun b=>match A b with
 |some o=>some o
 |none=>B b
def PH.disj(A B:PH):Prop:=∀b,A b=none\/B b=none
variable{A B:PH}
def PH.disj.symm(h:A.disj B):B.disj A:=fun b=>(h b).symm
variable{b:Nat}
def PH.disj.left(h:A.disj B){o:Obj}(hb:A b=some o):B b=none:=by
 rcases h b with e|e
 .rw[e]at hb;cases hb
 .exact e
def PH.uni_no(A:PH):A.uni PH.no=A:=by funext b;simp only[PH.uni,PH.no];split<;>simp_all
def PH.uni_some {A B : PH} (h : A.disj B) {b : Nat} {o : Obj} : (A.uni B) b = some o ↔ A b = some o ∨ B b = some o := by
  unfold PH.uni
  cases hA : A b with
  | some x => simp only; constructor
              · exact .inl
              · rintro (e | e)
                · exact e
                · rw [h.left hA] at e; cases e
  | none => simp
def PH.uni_none:(A.uni B) b=none<->A b=none/\B b=none:=by unfold PH.uni;cases A b<;>simp
def PH.le_uni(A B:PH):A.le (A.uni B):=fun b o h=>by simp[PH.uni,h]
def PH.le_uni_r(h:A.disj B):B.le (A.uni B):=fun b o hb=>(PH.uni_some h).2 (.inr hb)
def PH.ext_some(h:∀b o,A b=some o<->B b=some o):A=B:=by
 funext b;cases a:A b with
 |some o=>exact((h b o).1 a).symm
 |none=>cases c:B b with
  |none=>rfl
  |some o=>rw[(h b o).2 c]at a;cases a
def U:Zt->PH
 | []=>PH.no
 |A::l=>A.uni (U l)
def Dj(l:Zt):Prop:=l.Pairwise PH.disj
def pU{l:Zt}:U l b=none<->∀A∈l,A b=none:=by
 induction l with
 |nil=>simp[U,PH.no]
 |cons A l a=>simp only[U,PH.uni_none,a,ku,forall_eq_or_imp]
def Dj.head{l:Zt}(h:Dj (A::l)):A.disj (U l):=fun b=>by
 cases c:A b with
 |none=>exact .inl rfl
 |some o=>exact .inr (pU.2 fun B a=>((List.pairwise_cons.1 h).1 B a).left c)
def Dj.tail{l:Zt}(h:Dj (A::l)):Dj l:=(List.pairwise_cons.1 h).2
def Dj.cons{l:Zt}(h:Dj l)(ha:A.disj (U l)):Dj (A::l):=
 List.pairwise_cons.2 ⟨fun B a b=>by
  rcases ha b with e|e
  .exact .inl e
  .exact .inr (pU.1 e B a),h⟩
def pW{l:Zt}(hd:Dj l){o:Obj}:U l b=some o<->∃A∈l,A b=some o:=by
 induction l with
 |nil=>simp[U,PH.no]
 |cons A l a=>simp only[U,PH.uni_some hd.head,a hd.tail,ku,exists_eq_or_imp]
def pV{l m:Zt}(hp:l.Perm m)(hd:Dj l):U l=U m/\Dj m:=by have hm:Dj m:=(hp.pairwise_iff (fun{a b} h=>PH.disj.symm h)).1 hd;exact⟨PH.ext_some fun b o=>by rw[pW hd,pW hm];exact⟨fun⟨A,a,c⟩=>⟨A,hp.mem_iff.1 a,c⟩,fun⟨A,a,c⟩=>⟨A,hp.mem_iff.2 a,c⟩⟩,hm⟩
def rM(l m:Zt):U (l++m)=(U l).uni (U m):=by
 induction l with
 |nil=>funext b;simp[U,PH.no,PH.uni]
 |cons A l a=>rw[aU,U,U,a];funext b;simp only[PH.uni];cases A b<;>rfl
def ow{l m:Zt}:Dj (l++m)<->Dj l/\Dj m/\(U l).disj (U m):=by
 unfold Dj;rw[List.pairwise_append];constructor
 .rintro⟨a,b,c⟩;refine⟨a,b,fun k=>?_⟩;cases h:U l k with
  |none=>exact .inl rfl
  |some o=>obtain⟨A,f,g⟩:=(pW a).1 h;exact .inr (pU.2 fun B d=>(c A f B d).left g)
 .rintro⟨a,b,c⟩;refine⟨a,b,fun A f B d k=>?_⟩;rcases c k with e|e
  .exact .inl (pU.1 e A f)
  .exact .inr (pU.1 e B d)
def tS{l:Zt}(hd:Dj l)(h:A∈l):A.le (U l):=fun b o hb=>(pW hd).2 ⟨A,h,hb⟩
def gA(l:Zt):Zp->Zt
 | []=>[]
 |i::is=>l.getD i PH.no::gA l is
def yJ{l:Zt}{is:Zp}(h:is.isPerm (List.range l.length)=true):l.Perm (gA l is):=by
 have h2:=List.isPerm_iff.1 h;have e:∀is:Zp,gA l is=is.map fun i=>l.getD i PH.no:=by
  intro is;induction is with
  |nil=>rfl
  |cons i is a=>simp[gA,a]
 rw[e];refine List.Perm.trans ?_ (h2.map _).symm;have:(List.range l.length).map (fun i=>l.getD i PH.no)=l:=by
  apply List.ext_getElem
  .simp
  .intro i h1 h2;simp at h1;simp[List.getD,aY h1]
 rw[this]
variable{Φ:Value->PH->Prop}{args:Array Value}{f:FuncId}
def bh.frame{P:Program}{F:PH}(hd:A.disj F)(h:bh P f args A Φ):bh P f args (A.uni F) fun v H2=>∃a,H2=a.uni F/\a.disj F/\Φ v a:=by
 intro w s;refine(h w (s.of_le (PH.le_uni A F))).mono fun e w2 j=>?_;cases e with
 |outgrown=>exact j
 |panicked c=>exact j
 |returned v=>
  obtain⟨a,st,hp⟩:=j;have d:∀b o,F b=some o->w.heap[b]?=some o/\A b=none:=fun b o hb=>⟨s _ _ ((PH.uni_some hd).2 (.inr hb)),hd.symm.left hb⟩;have g:a.disj F:=fun b=>by
   cases l:F b with
   |none=>exact .inr rfl
   |some o=>obtain⟨h1,h2⟩:=d b o l;exact .inl (st.dom b (lw h1) h2)
  refine⟨a.uni F,⟨fun b o hb=>?_,st.size,fun b hb i=>st.priv b hb (PH.uni_none.1 i).1,fun b hb i=>PH.uni_none.2 ⟨st.dom b hb (PH.uni_none.1 i).1,(PH.uni_none.1 i).2⟩,st.os,st.tape,st.out⟩,a,rfl,g,hp⟩;rcases(PH.uni_some g).1 hb with e|e
  .exact st.sub _ _ e
  .obtain⟨h1,h2⟩:=d b o e;rw[st.priv b (lw h1) h2];exact h1
def aT(P:Program)(f:FuncId)(args:Array Value)(I:PH)(ps:Zt)(Ψ:Value->PH->Zt->Prop):Prop:=
 Dj (I::ps)->bh P f args (U (I::ps)) fun v H2=>∃a b,H2=U (a::b)/\Dj (a::b)/\I.le a/\Ψ v a b
variable{Ψ:Value->PH->Zt->Prop}{I:PH}
def aT.mono{P:Program}{ps:Zt}{Ψ':Value->PH->Zt->Prop}(h:aT P f args I ps Ψ)(k:∀v e g,I.le e->Ψ v e g->Ψ' v e g):aT P f args I ps Ψ':=
 fun hd=>(h hd).mono fun v H2 ⟨e,g,a,b,c,d⟩=>⟨e,g,a,b,c,k _ _ _ c d⟩
def bh.toI{P:Program}(h:bh P f args I fun v c=>I.le c/\Φ v c):aT P f args I [] fun v c d=>d=[]/\Φ v c:=by intro _;rw[show U [I]=I from PH.uni_no I];exact h.mono fun v H2 ⟨a,b⟩=>⟨H2,[],(PH.uni_no H2).symm,s0 _ _,a,rfl,b⟩
def aT.frame{P:Program}{ps F:Zt}(h:aT P f args I ps Ψ)(hd:Dj (I::ps++F)):
  bh P f args (U (I::ps++F)) fun v H2=>∃g i,H2=U (g::i++F)/\Dj (g::i++F)/\I.le g/\Ψ v g i:=by
 obtain⟨m,l,j⟩:=ow.1 hd;rw[rM];refine((h m).frame j).mono fun v H2 ⟨n,e,dd,g,i,a,b,c,d⟩=>?_;subst a;exact⟨g,i,by rw[e,rM],ow.2 ⟨b,l,dd⟩,c,d⟩
section
variable {C:Cx} {P:Program} {k:List Item} {σ:St} {H:PH}
variable{Ψ:Value->PH->Zt->Prop}{ps F:Zt}{I:PH}{first cap:Array Value}{vs:Zo}{f:FuncId}{Z:Array TypeId}{aq:Array Operand}{x:Operand}
def gp{ol rem:Zq}{o:Oper}{l:Zt}(hd:Dj (I::l))(is:Zp)(m:bH ol σ o=some true)(aa:o.op=.call ⟨.value x,aq,Z⟩)
  (j:ev σ x=.v (.func (.func f) first cap)) (ha:fY (ev σ) aq.toList=some vs) (q:ay C.P f) (hi:is.isPerm (List.range l.length)=true) (n:gA l is=ps++F) (h:aT C.P f (first++vs.toArray++cap) I ps Ψ)
  (p:∀v g i,Dj (g::i++F)->I.le g->Ψ v g i->RC C (.op ol rem k) (σ.put o.dst (.v v)) (U (g::i++F))):RC C (.op ol (o::rem) k) σ (U (I::l)):=by
 obtain⟨e,d⟩:=pV ((yJ hi).cons I) hd;rw[n]at e d;rw[e];exact bF m aa j ha q (h.frame d) fun v H2 ⟨g,i,a,b,c,d⟩=>by subst a;exact p v g i b c d
def GH{ol rem:Zq}{o:Oper}{l:Zt}(hd:Dj (I::l))(is:Zp)(a:(bH ol σ o,o.op,ev σ x,fY (ev σ) aq.toList)=(some true,Op.call ⟨.value x,aq,Z⟩,SV.v (.func (.func f) first cap),some vs))(g:ay C.P f)(hi:is.isPerm (List.range l.length)=true)(d:gA l is=ps++F)(h:aT C.P f (first++vs.toArray++cap) I ps Ψ)
  (e:∀v b c,Dj (b::c++F)->I.le b->Ψ v b c->RC C (.op ol rem k) (σ.put o.dst (.v v)) (U (b::c++F))):RC C (.op ol (o::rem) k) σ (U (I::l)):=by
 simp only[gN]at a;exact gp hd is a.1 a.2.1 a.2.2.1 a.2.2.2 g hi d h e
def ll{ol:Zq}{fr:cw}{str:cC}{i:Nat}{lo:List (Nat×Oper)}{o:Oper}{l:Zt}(hd:Dj (I::l))(is:Zp)(hs:str.h.contains i=false)(n:str.j.contains i=true->fr.J.le I)(q:bH ol σ o=some true)(aa:o.op=.call ⟨.value x,aq,Z⟩)
  (p:ev σ x=.v (.func (.func f) first cap)) (ha:fY (ev σ) aq.toList=some vs) (w:ay C.P f) (hi:is.isPerm (List.range l.length)=true) (r:gA l is=ps++F) (h:aT C.P f (first++vs.toArray++cap) I ps Ψ)
  (s:∀v g m,Dj (g::m++F)->I.le g->Ψ v g m->RD C ol fr str lo k (σ.put o.dst (.v v)) (U (g::m++F))):RD C ol fr str ((i,o)::lo) k σ (U (I::l)):=by
 obtain⟨e,d⟩:=pV ((yJ hi).cons I) hd;rw[r]at e d;rw[e];exact xj q aa p ha w (h.frame d) fun v H2 ⟨g,m,a,b,c,d⟩=>⟨⟨fun u=>Bool.noConfusion (hs.symm.trans u),fun t _=>by subst a;exact D (n t) (D c (tS b (.head _)))⟩,by subst a;exact s v g m b c d⟩
def GL{ol:Zq}{fr:cw}{str:cC}{i:Nat}{lo:List (Nat×Oper)}{o:Oper}{l:Zt}(hd:Dj (I::l))(is:Zp)(hs:str.h.contains i=false)(d:str.j.contains i=true->fr.J.le I)(a:(bH ol σ o,o.op,ev σ x,fY (ev σ) aq.toList)=(some true,Op.call ⟨.value x,aq,Z⟩,SV.v (.func (.func f) first cap),some vs))(m:ay C.P f)(hi:is.isPerm (List.range l.length)=true)(e:gA l is=ps++F)(h:aT C.P f (first++vs.toArray++cap) I ps Ψ)
  (g:∀v b c,Dj (b::c++F)->I.le b->Ψ v b c->RD C ol fr str lo k (σ.put o.dst (.v v)) (U (b::c++F))):RD C ol fr str ((i,o)::lo) k σ (U (I::l)):=by
 simp only[gN]at a;exact ll hd is hs d a.1 a.2.1 a.2.2.1 a.2.2.2 m hi e h g
def az{r:Zo}{I2:PH}{qs:Zt}(a:C.post=fun v H2=>∃I2 qs,H2=U (I2::qs)/\Dj (I2::qs)/\I.le I2/\Ψ v I2 qs)(hd:Dj (I2::qs))(h:n6 C.P σ C.fn.results.toList=some r)(b:I.le I2)(hp:Ψ (dY r) I2 qs):R C (.code .ret::k) σ (U (I2::qs)):=
 aX h (by rw[a];exact⟨I2,qs,rfl,hd,b,hp⟩)
end
def sg(b:Nat)(o:Obj):PH:=fun c=>if c=b then some o else none
def WT{b c:Nat}{o x:Obj}:sg b o c=some x<->c=b/\o=x:=by unfold sg;split<;>simp_all
def gZ(b:Nat)(o:Obj):sg b o b=some o:=by simp[sg]
def Wh{l:Zt}(hd:Dj l){b:Nat}{o:Obj}(h:U l b=none):(U l).put b o=U (sg b o::l)/\Dj (sg b o::l):=by
 constructor
 .funext c;simp only[PH.put,U,PH.uni,sg];split<;>simp
 .exact hd.cons fun c=>by
   by_cases e:c=b
   .subst e;exact .inr h
   .exact .inl (by simp[sg,e])
variable{I A:PH}
theorem freeze{l:Zt}(hd:Dj (I::A::l)):U (I::A::l)=U (I.uni A::l)/\Dj (I.uni A::l):=by
 constructor
 .funext c;simp only[U,PH.uni];cases I c<;>rfl
 .refine hd.tail.tail.cons fun c=>?_;rcases hd.head c with h1|h1
  .rcases hd.tail.head c with h2|h2
   .exact .inl (PH.uni_none.2 ⟨h1,h2⟩)
   .exact .inr h2
  .exact .inr (PH.uni_none.1 h1).2
def u8{l:Zt}(hd:Dj (I::l))(h:A∈l):I.disj A:=(List.pairwise_cons.1 hd).1 A h
def iL{l:Zt}(hd:Dj (I::l)):I.le (U (I::l)):=tS hd (.head _)
def ju{l:Zt}(hd:Dj (I::A::l)):A.le (U (I::A::l)):=tS hd (.tail _ (.head _))
def NX{ps:Zt}{H2:PH}(hd:Dj (I::ps))(a:(U (I::ps)).le H2):∃d,H2=U (d::ps)/\Dj (d::ps)/\I.le d:=by
 refine⟨fun b=>if (U ps b).isSome then none else H2 b,?_,hd.tail.cons fun b=>?_,fun b o hb=>?_⟩
 .funext b;simp only[U,PH.uni];cases c:U ps b with
  |none=>simp;cases H2 b<;>rfl
  |some o=>simp;exact a b o (PH.le_uni_r hd.head b o c)
 .cases c:U ps b with
  |none=>exact .inr rfl
  |some o=>exact .inl (by simp[c])
 .have:=hd.head.left hb;simp only[this,Option.isSome_none,dO,dG];exact a b o (PH.le_uni I _ b o hb)
open Go
variable{n size:Nat}{v:Value}{e:TypeId}
def g9.le{H:PH}{xs:Zo}(h:g9 A e size v n xs)(d:A.le H):g9 H e size v n xs:=by
 obtain⟨h1,h2|⟨g,cap,cur,a,b,c⟩⟩:=h
 .exact⟨h1,.inl h2⟩
 .exact⟨h1,.inr ⟨g,cap,cur,a,d _ _ b,c⟩⟩
theorem yp(g off n c:Nat):(Value.slice (some ⟨g,off,none⟩) n c).ownBlock=some g:=rfl
def dH(A:PH)(e:TypeId)(size:Nat)(v:Value)(n:Nat)(xs:Zo):Prop:=g9 A e size v n xs/\∀b,v.ownBlock≠some b->A b=none
def dH.nil(e:TypeId)(size:Nat):dH PH.no e size (.slice none 0 0) 0 []:=⟨g9.nil _ e size,fun _ _=>rfl⟩
def dH.own_some{xs:Zo}(h:dH A e size v n xs){g:Nat}(d:v.ownBlock=some g):∃o,A g=some o:=by
 obtain⟨⟨h1,⟨h2,_⟩|⟨g',cap,cur,a,b,c⟩⟩,_⟩:=h
 .subst h2;cases d
 .subst a;cases d;exact⟨_,b⟩
def Fs{l:Zt}{v':Value}{n':Nat}{xs xs':Zo}{H2:PH}(hd:Dj (I::A::l))(hr:dH A e size v n xs)(p:g9 H2 e size v' n' xs')(z:rp v.ownBlock (U (I::A::l)) H2)
  (hf:v'.ownBlock=v.ownBlock\/∀g,v'.ownBlock=some g->U (I::A::l) g=none):∃m d,H2=U (m::d::l)/\Dj (m::d::l)/\I.le m/\dH d e size v' n' xs':=by
 have key:∃d:PH,dH d e size v' n' xs'/\d.le H2/\d.disj I/\d.disj (U l):=by
  obtain⟨h1,⟨h2,h3⟩|⟨g,cap,cur,a,b,c⟩⟩:=p
  .exact⟨PH.no,⟨⟨h1,.inl ⟨h2,h3⟩⟩,fun _ _=>rfl⟩,(fun b o h=>by cases h),(fun _=>.inl rfl),(fun _=>.inl rfl)⟩
  .subst a;have out:I g=none/\U l g=none:=by
    rcases hf with hf|hf
    .obtain⟨o,p⟩:=hr.own_some (hf.symm.trans (yp g 0 n' cap));exact⟨(u8 hd (.head _)).symm.left p,hd.tail.head.left p⟩
    .have:=pU.1 (hf g rfl);exact⟨this I (.head _),pU.2 fun B f=>this B (.tail _ (.tail _ f))⟩
   have w:∀X:PH,X g=none->(sg g (.cells cur e (0,0))).disj X:=fun X hX c=>by
    by_cases u:c=g
    .subst u;exact .inr hX
    .exact .inl (by simp[sg,u])
   exact⟨sg g (.cells cur e (0,0)),⟨⟨h1,.inr ⟨g,cap,cur,rfl,gZ _ _,c⟩⟩,fun b' hb=>by simp only[yp,ne_eq,bf]at hb;simp[sg,Ne.symm hb]⟩,fun b' o' hb=>by obtain⟨rfl,rfl⟩:=WT.1 hb;exact b,w I out.1,w _ out.2⟩
 obtain⟨d,y,q,J,G⟩:=key;have F:Dj (d::l):=hd.tail.tail.cons G;have x:Dj (I::d::l):=F.cons fun b=>by
  rcases J b with e1|e1
  .rcases hd.head b with e2|e2
   .exact .inl e2
   .exact .inr (PH.uni_none.2 ⟨e1,(PH.uni_none.1 e2).2⟩)
  .exact .inl e1
 have r:(U (I::d::l)).le H2:=by
  intro b o hb;obtain⟨B,f,j⟩:=(pW x).1 hb;have keep:∀B∈I::l,B b=some o->H2 b=some o:=by
   intro B f i;have s:B∈I::A::l:=by
    rcases List.mem_cons.1 f with rfl|h
    .exact .head _
    .exact .tail _ (.tail _ h)
   refine z b o (fun e=>?_) ((pW hd).2 ⟨B,s,i⟩);obtain⟨K,t⟩:=hr.own_some e.symm;rcases List.mem_cons.1 f with rfl|h
   .rw[(u8 hd (.head _)).left i]at t;cases t
   .rw[(u8 hd.tail h).left t]at i;cases i
  rcases List.mem_cons.1 f with rfl|f
  .exact keep _ (.head _) j
  .rcases List.mem_cons.1 f with rfl|f
   .exact q b o j
   .exact keep _ (.tail _ f) j
 obtain⟨m,a,b,c⟩:=NX x r;exact⟨m,d,a,b,c,y⟩
section
variable {C:Cx} {P:Program} {k:List Item} {σ:St} {H:PH}
variable{I A:PH}{news:Zo}{v:Value}{x y:Operand}{size bytes:Nat}{e:TypeId}{rem:Zq}
def oB{ol:Zq}{o:Oper}{t:TypeId}{n xb xo m c:Nat}{xs:Zo}{l:Zt}(hd:Dj (I::A::l))(ht:cO C.P t e size bytes)(d:dH A e size v n xs)(q:bH ol σ o=some true)(aa:o.op=.call ⟨.builtin .append,#[x,y],#[t,t]⟩)(p:ev σ x=.v v)(j:ev σ y=.v (.slice (some ⟨xb,xo,none⟩) m c))
  (r:a8 (U (I::A::l)) xb xo news) (s:news.length=m*size) (h1:news.all one=true) (hb:(n+m)*bytes<=140737488355328) (i:n+m<=maxLen)
  (u:∀h f g,Dj (f::g::l)->I.le f->dH g e size h (n+m) (xs++news)->RC C (.op ol rem k) (σ.put o.dst (.v h)) (U (f::g::l))):RC C (.op ol (o::rem) k) σ (U (I::A::l)):=
 MU ht (d.1.le (ju hd)) q aa p j r s h1 hb i fun h H2 a b c=>by obtain⟨f,g,e1,e2,z,w⟩:=Fs hd d a b c;subst e1;exact u h f g e2 z w
variable{i:Nat}
def xi{ol:Zq}{fr:cw}{str:cC}{lo:List (Nat×Oper)}{o:Oper}{t:TypeId}{n xb xo m c:Nat}{xs:Zo}{l:Zt}(hd:Dj (I::A::l))(ht:cO C.P t e size bytes)(d:dH A e size v n xs)(hs:str.h.contains i=false)(q:str.j.contains i=false)(w:bH ol σ o=some true)(aa:o.op=.call ⟨.builtin .append,#[x,y],#[t,t]⟩)(u:ev σ x=.v v)(s:ev σ y=.v (.slice (some ⟨xb,xo,none⟩) m c))
  (z:a8 (U (I::A::l)) xb xo news) (B:news.length=m*size) (h1:news.all one=true) (hb:(n+m)*bytes<=140737488355328) (r:n+m<=maxLen)
  (F:∀p f g,Dj (f::g::l)->I.le f->dH g e size p (n+m) (xs++news)->RD C ol fr str lo k (σ.put o.dst (.v p)) (U (f::g::l))):RD C ol fr str ((i,o)::lo) k σ (U (I::A::l)):=
 Nl ht (d.1.le (ju hd)) hs q w aa u s z B h1 hb r fun p H2 a b c=>by obtain⟨f,g,e1,e2,J,G⟩:=Fs hd d a b c;subst e1;exact F p f g e2 J G
variable{b:Nat}
def Fp{l:Zt}(hd:Dj (I::l)){o:Obj}(h:U (I::l) b=none):(U (I::l)).put b o=U (I.put b o::l)/\Dj (I.put b o::l)/\I.le (I.put b o)/\I.put b o b=some o:=by
 have hI:=pU.1 h;refine⟨?_,hd.tail.cons fun c=>?_,PH.le_put (hI I (.head _)),by simp[PH.put]⟩
 .funext c;simp only[PH.put,U,PH.uni];split<;>simp
 .by_cases e:c=b
  .subst e;exact .inr (pU.2 fun B d=>hI B (.tail _ d))
  .rcases hd.head c with a|a
   .exact .inl (by simp[PH.put,e,a])
   .exact .inr a
variable{ps:List (Nat×Value)}{parts:Array (Nat×Operand)}
def cI{ol:Zq}{o:Oper}{t:TypeId}{len:Nat}{l:Zt}(hd:Dj (I::l))(ht:cO C.P t e size bytes)(f:bH ol σ o=some true)(aa:o.op=.buildSlice t len parts)(ha:je (ev σ) parts.toList=some ps)
  (hp:nh size 0 ps=true) (a:ps.length=len) (c:len*size<=16777216)
  (g:∀b d,Dj (d::l)->I.le d->d b=some (.cells (ax ps).toArray e (0,0))->RC C (.op ol rem k) (σ.put o.dst (.v (.slice (some ⟨b,0,none⟩) len len))) (U (d::l))):RC C (.op ol (o::rem) k) σ (U (I::l)):=
 GG ht f aa ha hp a c fun b hb=>by obtain⟨e1,e2,i,h⟩:=Fp hd (o:=.cells (ax ps).toArray e (0,0)) hb;rw[e1];exact g b _ e2 i h
def iu{ol:Zq}{fr:cw}{str:cC}{lo:List (Nat×Oper)}{o:Oper}{t:TypeId}{len:Nat}{l:Zt}(hd:Dj (I::l))(ht:cO C.P t e size bytes)(f:bH ol σ o=some true)(aa:o.op=.buildSlice t len parts)(ha:je (ev σ) parts.toList=some ps)
  (hp:nh size 0 ps=true) (a:ps.length=len) (c:len*size<=16777216)
  (g:∀b d,Dj (d::l)->I.le d->d b=some (.cells (ax ps).toArray e (0,0))->RD C ol fr str lo k (σ.put o.dst (.v (.slice (some ⟨b,0,none⟩) len len))) (U (d::l))):RD C ol fr str ((i,o)::lo) k σ (U (I::l)):=
 Nm ht f aa ha hp a c fun b hb=>by obtain⟨e1,e2,j,h⟩:=Fp hd (o:=.cells (ax ps).toArray e (0,0)) hb;rw[e1];exact g b _ e2 j h
def uI{c:Cf}{l:Zt}(hd:Dj (I::l))(is:Zp)(hi:is.isPerm (List.range l.length)=true)(h:Dj (I::gA l is)->RC C c σ (U (I::gA l is))):RC C c σ (U (I::l)):=by obtain⟨e,d⟩:=pV ((yJ hi).cons I) hd;rw[e];exact h d
def Ns{ol:Zq}{fr:cw}{str:cC}{lo:List (Nat×Oper)}{l:Zt}(hd:Dj (I::l))(is:Zp)(hi:is.isPerm (List.range l.length)=true)(h:Dj (I::gA l is)->RD C ol fr str lo k σ (U (I::gA l is))):RD C ol fr str lo k σ (U (I::l)):=by obtain⟨e,d⟩:=pV ((yJ hi).cons I) hd;rw[e];exact h d
def Z3:(∀{α:Type} (a:α) (s t:List α),a::s++t=a::(s++t))/\(∀{α:Type} (t:List α),[]++t=t)/\(∀{α:Type} (t:List α),t++[]=t):=⟨fun _ _ _=>rfl,fun _=>rfl,fun t=>Y t⟩
def Z4:(∀l:Zt,gA l []=[])/\(∀(l:Zt) i is,gA l (i::is)=l.getD i PH.no::gA l is)/\(∀(a:PH) l d,(a::l).getD 0 d=a)/\(∀(a:PH) l n d,(a::l).getD (n+1) d=l.getD n d):=⟨fun _=>rfl,fun _ _ _=>rfl,fun _ _ _=>zq,fun _ _ _ _=>zp⟩
def tY{l:Zt}{o o':Obj}(hd:Dj (I::sg b o::l)):(U (I::sg b o::l)).put b o'=U (I::sg b o'::l)/\Dj (I::sg b o'::l):=by
 have hI:I b=none:=(u8 hd (.head _)).symm.left (gZ b o);have d:=hd.tail.head.left (gZ b o);constructor
 .funext c;simp only[PH.put,U,PH.uni,sg];by_cases e:c=b
  .subst e;simp[hI]
  .simp[e]
 .refine(hd.tail.tail.cons fun c=>?_).cons fun c=>?_
  .by_cases e:c=b
   .subst e;exact .inr d
   .exact .inl (by simp[sg,e])
  .by_cases e:c=b
   .subst e;exact .inl hI
   .rcases hd.head c with a|a
    .exact .inl a
    .exact .inr (PH.uni_none.2 ⟨by simp[sg,e],(PH.uni_none.1 a).2⟩)
variable{ty:TypeId}
def k0{ol:Zq}{o:Oper}{T:TypeId}{off:Nat}{cells:Array Value}{cs:Zo}{l:Zt}(hd:Dj (I::sg b (.cells cells ty (0,0))::l))(e:bH ol σ o=some true)(aa:o.op=.store T x y)(d:ev σ x=.v (.pointer (some ⟨b,off,none⟩)))(c:ev σ y=.v v)
  (g:mL v=some cs) (hs:bE C.P T=some cs.length) (a:off+cs.length<=cells.size)
  (f:Dj (I::sg b (.cells (bN cells.toList off cs).toArray ty (0,0))::l)->RC C (.op ol rem k) (σ.put o.dst .u) (U (I::sg b (.cells (bN cells.toList off cs).toArray ty (0,0))::l))):RC C (.op ol (o::rem) k) σ (U (I::sg b (.cells cells ty (0,0))::l)):=by
 refine Nh (ju hd _ _ (gZ _ _)) e aa d c g hs a ?_;obtain⟨e1,e2⟩:=tY (o':=.cells (bN cells.toList off cs).toArray ty (0,0)) hd;rw[e1];exact f e2
def cY{ol:Zq}{fr:cw}{str:cC}{lo:List (Nat×Oper)}{o:Oper}{T:TypeId}{off:Nat}{cells:Array Value}{cs:Zo}{l:Zt}(hd:Dj (I::sg b (.cells cells ty (0,0))::l))(a:gJ str.k i=false)(f:bH ol σ o=some true)(aa:o.op=.store T x y)(e:ev σ x=.v (.pointer (some ⟨b,off,none⟩)))(d:ev σ y=.v v)
  (h:mL v=some cs) (hs:bE C.P T=some cs.length) (c:off+cs.length<=cells.size)
  (g:Dj (I::sg b (.cells (bN cells.toList off cs).toArray ty (0,0))::l)->RD C ol fr str lo k (σ.put o.dst .u) (U (I::sg b (.cells (bN cells.toList off cs).toArray ty (0,0))::l))):RD C ol fr str ((i,o)::lo) k σ (U (I::sg b (.cells cells ty (0,0))::l)):=by
 refine Nt (ju hd _ _ (gZ _ _)) a f aa e d h hs c ?_;obtain⟨e1,e2⟩:=tY (o':=.cells (bN cells.toList off cs).toArray ty (0,0)) hd;rw[e1];exact g e2
def jD(P:Program)(A:PH)(r:Nat)(a:TypeId)(S:Value->Value->Prop):Prop:=∃o,A=sg r o/\eW P A r a S
variable{S:Value->Value->Prop}{mt:TypeId}
def zH{ol:Zq}{o:Oper}{kt et:TypeId}(K:Maps.Keyed C.P kt)(hm:C.P.underlying mt=some (.map kt et)){z:Operand}{r:Nat}{key:Value}{l:Zt}(hd:Dj (I::A::l))(f:bH ol σ o=some true)(aa:o.op=.mapUpdate mt x y z\/o.op=.insert mt x y z)
  (e:ev σ x=.v (.map (some r))) (d:ev σ y=.v key) (c:ev σ z=.v v) (h:jD C.P A r kt S) (g:fq C.P kt key)
  (i:∀b,Dj (I::b::l)->jD C.P b r kt (fun y u=>(y=key/\u=v)\/(y≠key/\S y u))->RC C (.op ol rem k) (σ.put o.dst .u) (U (I::b::l))):RC C (.op ol (o::rem) k) σ (U (I::A::l)):=by
 obtain⟨ob,rfl,j⟩:=h;refine Nj K hm f aa e d c (j.le (ju hd)) g fun a h2=>?_;obtain⟨e1,e2⟩:=tY (o':=a) hd;rw[e1];exact i _ e2 ⟨a,rfl,h2.of_eq (by simp[gZ,PH.put])⟩
def CW{ol:Zq}{fr:cw}{str:cC}{lo:List (Nat×Oper)}{o:Oper}{kt et:TypeId}(K:Maps.Keyed C.P kt)(hm:C.P.underlying mt=some (.map kt et)){z:Operand}{r:Nat}{key:Value}{l:Zt}(hd:Dj (I::A::l))(hs:str.h.contains i=false)(b:str.j.contains i=false)(g:bH ol σ o=some true)(aa:o.op=.mapUpdate mt x y z\/o.op=.insert mt x y z)
  (f:ev σ x=.v (.map (some r))) (e:ev σ y=.v key) (d:ev σ z=.v v) (h:jD C.P A r kt S) (m:fq C.P kt key)
  (n:∀c,Dj (I::c::l)->jD C.P c r kt (fun y u=>(y=key/\u=v)\/(y≠key/\S y u))->RD C ol fr str lo k (σ.put o.dst .u) (U (I::c::l))):RD C ol fr str ((i,o)::lo) k σ (U (I::A::l)):=by
 obtain⟨ob,rfl,p⟩:=h;refine Nw K hm hs b g aa f e d (p.le (ju hd)) m fun a h2=>?_;obtain⟨e1,e2⟩:=tY (o':=a) hd;rw[e1];exact n _ e2 ⟨a,rfl,h2.of_eq (by simp[gZ,PH.put])⟩
def wg{l:Zt}(hd:Dj (I::l)){o:Obj}(h:U (I::l) b=none):(U (I::l)).put b o=U (I::sg b o::l)/\Dj (I::sg b o::l):=by obtain⟨e1,e2⟩:=Wh hd (o:=o) h;obtain⟨c,a⟩:=pV (List.Perm.swap I (sg b o) l) e2;exact⟨e1.trans c,a⟩
def CT{ol:Zq}{o:Oper}{l:Zt}(a:TypeId)(hd:Dj (I::l))(b:bH ol σ o=some true)(aa:o.op=.makeMap mt none)
  (c:∀r A,Dj (I::A::l)->jD C.P A r a (fun _ _=>False)->RC C (.op ol rem k) (σ.put o.dst (.v (.map (some r)))) (U (I::A::l))):RC C (.op ol (o::rem) k) σ (U (I::l)):=
 Nb b aa fun r hr=>by obtain⟨e1,e2⟩:=wg hd (o:=.map #[] 0) hr;rw[e1];exact c r _ e2 ⟨_,rfl,eW.empty (gZ _ _)⟩
def CV{ol:Zq}{fr:cw}{str:cC}{lo:List (Nat×Oper)}{o:Oper}{l:Zt}(a:TypeId)(hd:Dj (I::l))(b:bH ol σ o=some true)(aa:o.op=.makeMap mt none)
  (c:∀r A,Dj (I::A::l)->jD C.P A r a (fun _ _=>False)->RD C ol fr str lo k (σ.put o.dst (.v (.map (some r)))) (U (I::A::l))):RD C ol fr str ((i,o)::lo) k σ (U (I::l)):=
 Np b aa fun r hr=>by obtain⟨e1,e2⟩:=wg hd (o:=.map #[] 0) hr;rw[e1];exact c r _ e2 ⟨_,rfl,eW.empty (gZ _ _)⟩
def NH(key:Nat){B:cM}{l:Zt}(hd:Dj (I::l))(a:eS σ.bx key=some B)(h:∀b,Dj (I::sg b (.cells B.cs.toArray B.ty (0,0))::l)->R C k ⟨σ.tm.map (iR key b),ep σ.bx key⟩ (U (I::sg b (.cells B.cs.toArray B.ty (0,0))::l))):R C k σ (U (I::l)):=
 NG key a fun b hb=>by obtain⟨e1,e2⟩:=wg hd (o:=.cells B.cs.toArray B.ty (0,0)) hb;rw[e1];exact h b e2
end
open Go
variable{off:Nat}{A:PH}
theorem cellsU{ps:Zt}{b:Nat}{l:Zo}(hd:Dj ps)(a:A∈ps)(h:a8 A b off l):a8 (U ps) b off l:=h.le (tS hd a)
variable{fz:Nat×Nat}{ty:TypeId}{cs:Array Value}
def dz{b:Nat}{l:Zo}(h1:off+l.length<=cs.size)(h2:(cs.toList.drop off).take l.length=l):a8 (sg b (.cells cs ty fz)) b off l:=
 ⟨cs,ty,fz,gZ _ _,h1,h2⟩
def bA{b:Nat}{l:Zo}(h:A b=some (.cells cs ty fz))(h1:off+l.length<=cs.size)(h2:(cs.toList.drop off).take l.length=l):a8 A b off l:=
 ⟨cs,ty,fz,h,h1,h2⟩
variable{S:Value->Value->Prop}{kt:TypeId}
def jD.atU{P:Program}{r:Nat}(h:jD P A r kt S){ps:Zt}(hd:Dj ps)(a:A∈ps):eW P (U ps) r kt S:=by obtain⟨o,e,m⟩:=h;exact m.le (tS hd a)
def jD.congr{P:Program}{r:Nat}{S':Value->Value->Prop}(h:jD P A r kt S)(hs:∀y u,S' y u<->S y u):jD P A r kt S':=by obtain⟨o,e,m⟩:=h;exact⟨o,e,m.congr hs⟩
variable{v:Value}{size:Nat}{e:TypeId}
def dH.xs{n n':Nat}{xs xs':Zo}(h:dH A e size v n xs)(b:n=n')(a:xs=xs'):dH A e size v n' xs':=by subst b;subst a;exact h
def dH.slice{n:Nat}{xs:Zo}(h:dH A e size v n xs):∃a c,v=.slice a n c:=by
 obtain⟨⟨_,⟨a,b⟩|⟨g,cap,cur,a,_⟩⟩,_⟩:=h
 .subst b;exact⟨_,_,a⟩
 .exact⟨_,_,a⟩
def N0{I:PH}{l:Zt}(hd:Dj (I::l)):U (I::l)=U (I::PH.no::l)/\Dj (I::PH.no::l):=by
 constructor
 .funext c;simp only[U,PH.uni,PH.no]
 .refine(hd.tail.cons fun b=>.inl rfl).cons fun b=>?_;rcases hd.head b with h|h
  .exact .inl h
  .exact .inr (PH.uni_none.2 ⟨rfl,h⟩)
section
variable {C:Cx} {k:List Item} {σ:St}
variable{I:PH}
def de{c:Cf}{l:Zt}(hd:Dj (I::l))(h:Dj (I::PH.no::l)->RC C c σ (U (I::PH.no::l))):RC C c σ (U (I::l)):=by obtain⟨e,d⟩:=N0 hd;rw[e];exact h d
def jW(key:Nat){B:cM}{l:Zt}(hd:Dj (I::l))(a:eS σ.bx key=some B)(h:∀b,Dj (I::sg b (.cells B.cs.toArray B.ty (0,0))::l)->RC C (.st k) ⟨σ.tm.map (iR key b),ep σ.bx key⟩ (U (I::sg b (.cells B.cs.toArray B.ty (0,0))::l))):RC C (.st k) σ (U (I::l)):=NH key hd a h
def aJ{c:Cf}{A:PH}{l:Zt}(hd:Dj (I::A::l))(h:∀a,Dj (a::l)->I.le a->A.le a->RC C c σ (U (a::l))):RC C c σ (U (I::A::l)):=by obtain⟨e,d⟩:=freeze hd;rw[e];exact h _ d (PH.le_uni I A) (PH.le_uni_r (u8 hd (.head _)))
end
open Go
attribute [go_sem] undef fS ig xv uU kb l6 gJ
attribute [go_sem] Bool.false_and Bool.and_false bH jT NN NM pv yD
attribute [go_sem] BI BK yC BJ qQ mX fY je
attribute [go_sem] AT Af tW Bb Al z7 Cs ev
attribute [go_sem] jJ gY St.put St.newBox St.store d8 ep eS
attribute [go_sem] kW bN dl List.map_cons List.map_nil j0 np mL
attribute [go_sem] one iS Ad oK Fg exitTo sm Value.cells
attribute [go_sem] List.toList_toArray List.cons_append List.nil_append List.replicate List.length_cons List.length_nil ite_true ite_false
attribute [go_sem] if_true if_false Option.map_some Option.map_none true_and and_true List.drop_zero List.drop_succ_cons
attribute [go_sem] List.take_succ_cons List.take_zero List.getElem?_cons_zero List.getElem?_cons_succ List.set_cons_zero List.set_cons_succ List.all_cons List.all_nil
attribute [go_sem] Bool.and_self Bool.true_and Bool.and_true beq_self_eq_true Array.toList List.size_toArray Nat.zero_add Nat.add_zero
attribute [go_sem] and_self beq_true beq_false Bool.not_true Bool.not_false Int.toNat_natCast decide_true decide_false
attribute [go_sem] pick vj n6 iR gJ sK jI Nat.sub_zero
attribute [go_sem] Int.cast_ofNat_Int
attribute [go_sem] Nat.reduceAdd Nat.reduceSub Nat.reduceLT Nat.reduceLeDiff Nat.reduceEqDiff Nat.reduceBEq Nat.reduceMul reduceIte
attribute [go_sem] reduceCtorEq Int.reduceToNat Int.reduceLE Int.reduceLT Int.reduceBEq Int.reduceBNe Int.reduceEq
def ai{C:Cx}{σ:St}{H:PH}{c:Cf}{Q:Prop}(h:Q)(e:aA C H (fS C.P 500 c σ [])=Q:=by simp only[go_sem];rfl):RC C c σ H:=jV 500 (e.mpr h)
def eo{C:Cx}{k:List Item}{σ:St}{H:PH}{ol:Zq}{fr:cw}{str:cC}{l:List (Nat×Oper)}{Q:Prop}(h:Q)(e:pP C ol fr str k H (ig C.P ol fr.k str.k fr.kp l σ [])=Q:=by simp only[go_sem];rfl):RD C ol fr str l k σ H:=bo (e.mpr h)
def jS(C:Cx)(c:Cf)(σ:St)(H:PH)(Q:Prop):Prop:=aA C H (fS C.P 500 c σ [])=Q
def ro(C:Cx)(ol:Zq)(fr:cw)(str:cC)(l:List (Nat×Oper))(k:List Item)(σ:St)(H:PH)(Q:Prop):Prop:=pP C ol fr str k H (ig C.P ol fr.k str.k fr.kp l σ [])=Q
section
variable {C:Cx} {σ:St} {H:PH} {c:Cf} {k:List Item} {ol:Zq} {fr:cw} {str:cC} {l:List (Nat×Oper)} {Q p q r s t o:Prop}
def dB(x:p)(h:Q)(e:p->jS C c σ H Q:=by intro x;simp only[jS,go_sem,x];rfl):RC C c σ H:=jV 500 ((e x).mpr h)
def lR(x:p)(y:q)(h:Q)(e:p->q->jS C c σ H Q:=by intro x y;simp only[jS,go_sem,x,y];rfl):RC C c σ H:=jV 500 ((e x y).mpr h)
end
variable{I:PH}
def ak{C:Cx}{σ:St}{c:Cf}{l L:Zt}(hd:Dj (I::l))(is:Zp)(h:Dj L->RC C c σ (U L))(hi:is.isPerm (List.range l.length)=true:=by rfl)(e:I::gA l is=L:=by simp only[Z4];rfl):RC C c σ (U (I::l)):=uI hd is hi (e▸h)
def i8{C:Cx}{k:List Item}{σ:St}{ol:Zq}{fr:cw}{str:cC}{lo:List (Nat×Oper)}{l L:Zt}(hd:Dj (I::l))(is:Zp)(h:Dj L->RD C ol fr str lo k σ (U L))(hi:is.isPerm (List.range l.length)=true:=by rfl)(e:I::gA l is=L:=by simp only[Z4];rfl):RD C ol fr str lo k σ (U (I::l)):=Ns hd is hi (e▸h)
variable{Ψ:Value->PH->Zt->Prop}{first cap:Array Value}{vs:Zo}{f:FuncId}{Z:Array TypeId}{aq:Array Operand}{x:Operand}
def eG{C:Cx}{k:List Item}{σ:St}{ol rem:Zq}{o:Oper}(hd:Dj [I])(g:(bH ol σ o,o.op,ev σ x,fY (ev σ) aq.toList)=(some true,Op.call ⟨.value x,aq,Z⟩,SV.v (.func (.func f) first cap),some vs))(j:ay C.P f)(h:aT C.P f (first++vs.toArray++cap) I [] Ψ)
  (i:∀v a b,Dj (a::b)->I.le a->Ψ v a b->RC C (.op ol rem k) (σ.put o.dst (.v v)) (U (a::b))):RC C (.op ol (o::rem) k) σ (U [I]):=
 GH (F:=[]) hd [] g j rfl rfl h fun v a b d e hp=>by rw[Y]at d |-;exact i v a b d e hp
def av{C:Cx}{k:List Item}{σ:St}{ol rem:Zq}{o:Oper}{l:Zt}(hd:Dj (I::l))(is:Zp)(ps F:Zt)(d:(bH ol σ o,o.op,ev σ x,fY (ev σ) aq.toList)=(some true,Op.call ⟨.value x,aq,Z⟩,SV.v (.func (.func f) first cap),some vs))(i:ay C.P f)(e:gA l is=ps++F)(h:aT C.P f (first++vs.toArray++cap) I ps Ψ)
  (g:∀v a b,Dj (a::b++F)->I.le a->Ψ v a b->RC C (.op ol rem k) (σ.put o.dst (.v v)) (U (a::b++F))) (hi:is.isPerm (List.range l.length)=true:=by rfl):RC C (.op ol (o::rem) k) σ (U (I::l)):=GH hd is d i hi e h g
def dU{C:Cx}{k:List Item}{σ:St}{ol:Zq}{fr:cw}{str:cC}{i:Nat}{lo:List (Nat×Oper)}{o:Oper}(hd:Dj [I])(m:(bH ol σ o,o.op,ev σ x,fY (ev σ) aq.toList)=(some true,Op.call ⟨.value x,aq,Z⟩,SV.v (.func (.func f) first cap),some vs))(u:ay C.P f)(h:aT C.P f (first++vs.toArray++cap) I [] Ψ)
  (n:∀v a b,Dj (a::b)->I.le a->Ψ v a b->RD C ol fr str lo k (σ.put o.dst (.v v)) (U (a::b))) (hs:str.h.contains i=false:=by exact rfl) (e:str.j.contains i=true->fr.J.le I:=by exact fun h=>by cases h):RD C ol fr str ((i,o)::lo) k σ (U [I]):=
 GL (F:=[]) hd [] hs e m u rfl rfl h fun v a b d g hp=>by rw[Y]at d |-;exact n v a b d g hp
def cH{C:Cx}{k:List Item}{σ:St}{ol:Zq}{fr:cw}{str:cC}{i:Nat}{lo:List (Nat×Oper)}{o:Oper}{l:Zt}(hd:Dj (I::l))(is:Zp)(ps F:Zt)(e:(bH ol σ o,o.op,ev σ x,fY (ev σ) aq.toList)=(some true,Op.call ⟨.value x,aq,Z⟩,SV.v (.func (.func f) first cap),some vs))(n:ay C.P f)(g:gA l is=ps++F)(h:aT C.P f (first++vs.toArray++cap) I ps Ψ)
  (m:∀v a b,Dj (a::b++F)->I.le a->Ψ v a b->RD C ol fr str lo k (σ.put o.dst (.v v)) (U (a::b++F))) (hi:is.isPerm (List.range l.length)=true:=by rfl) (hs:str.h.contains i=false:=by exact rfl) (d:str.j.contains i=true->fr.J.le I:=by exact fun h=>by cases h):RD C ol fr str ((i,o)::lo) k σ (U (I::l)):=GL hd is hs d e n hi g h m
open Go
attribute [go_sem] sp iT kS
section
variable {C:Cx} {k:List Item} {σ:St} {H:PH}
def bV{α:Type}{c:Code}(μ:α->Nat)(S:α->St)(Q:α->PH->Prop)(a0:α)(hs:iT (S a0).tm σ.tm)(hb:kS (S a0).bx σ.bx)(e:Q a0 H)
  (h:∀a H,Q a H->(∀b d H',μ b<μ a->iT (S b).tm d.tm->kS (S b).bx d.bx->Q b H'->RC C (.st (.inLoop c::k)) d H')->RC C (.st (.code c::.inLoop c::k)) (S a) H) :
  RC C (.st (.code (.loop c)::k)) σ H:=by
 refine zL hs hb ?_;refine NE (fun n σ H=>∃a,σ=S a/\μ a=n/\Q a H) (μ a0) ⟨a0,rfl,rfl,e⟩ ?_;rintro n σ H ⟨a,rfl,rfl,e⟩ g;exact h a H e fun b d H' f h1 h2 h3=>zL h1 h2 (g _ f _ _ ⟨b,rfl,rfl,h3⟩)
def gP{σ':St}(ht:iT σ'.tm σ.tm)(hb:kS σ'.bx σ.bx)(h:RC C (.st k) σ' H):RC C (.st k) σ H:=zL ht hb h
def H8{size:Nat}:∀{ps:List (Nat×Value)} {j:Nat},nh size j ps=true->(ax ps).length=ps.length*size
 | [],_,_=>by simp[ax]
 |(i,v)::l,j,h=>by simp only[nh,cZ,dE]at h;have:=H8 h.2;simp only[ax,aH,h.1.2,this,bl];rw[ir];omega
variable{size:Nat}{e:TypeId}
def yG{len b:Nat}{xs:Zo}(h:xs.length=len*size)(d:len<=maxLen):dH (sg b (.cells xs.toArray e (0,0))) e size (.slice (some ⟨b,0,none⟩) len len) len xs:=
 ⟨⟨h,.inr ⟨b,len,xs.toArray,rfl,gZ _ _,aR _,d,by simpa using h,by rw[<-h];simp⟩⟩,fun c a=>by simp only[yp,ne_eq,bf]at a;simp[sg,Ne.symm a]⟩
def rG{ol rem:Zq}{o:Oper}{t:TypeId}{len bytes:Nat}{parts:Array (Nat×Operand)}{ps:List (Nat×Value)}{I:PH}{l:Zt}(hd:Dj (I::l))(ht:cO C.P t e size bytes)(d:bH ol σ o=some true)(aa:o.op=.buildSlice t len parts)(ha:je (ev σ) parts.toList=some ps)
  (hp:nh size 0 ps=true) (a:ps.length=len) (c:len*size<=16777216)
  (f:∀b A,Dj (I::A::l)->dH A e size (.slice (some ⟨b,0,none⟩) len len) len (ax ps)->RC C (.op ol rem k) (σ.put o.dst (.v (.slice (some ⟨b,0,none⟩) len len))) (U (I::A::l))):RC C (.op ol (o::rem) k) σ (U (I::l)):=
 GG ht d aa ha hp a c fun b hb=>by obtain⟨e1,e2⟩:=wg hd (o:=.cells (ax ps).toArray e (0,0)) hb;rw[e1];refine f b _ e2 (yG (by rw[H8 hp,a]) ?_);obtain⟨_,_,_,_,_,_,_,_,g⟩:=ht;have:len*1<=len*size:=Nat.mul_le_mul_left _ g;unfold maxLen;omega
theorem dH.cellsU{ps:Zt}{A:PH}{v:Value}{n:Nat}{xs:Zo}(hd:Dj ps)(d:A∈ps)(h:dH A e size v n xs)(c:0<n):∃g cap,v=.slice (some ⟨g,0,none⟩) n cap/\a8 (U ps) g 0 xs:=by obtain⟨g,cap,a,b⟩:=h.1.cells c;exact⟨g,cap,a,b.le (tS hd d)⟩
end
open Go
def Ag{H:PH}{b off:Nat}{l:Zo}(h:a8 H b off l){w:World}(s:Sub H w):∀j v,l[j]?=some v->w.cell? ((⟨b,off,none⟩:Addr).add j)=some v:=by
 obtain⟨cs,ty,c,h1,h2,h3⟩:=h;intro j v a;have hb:=s _ _ h1;rw[show cs=cs.toList.toArray from by simp]at hb;rw[nE,xB hb];rw[<-h3]at a;rw[CI]at a;split at a
 .rw[zu]at a;exact a
 .cases a
section
variable {C:Cx} {P:Program} {k:List Item} {σ:St} {H:PH}
variable{ys:Zo}{cur:Array Value}{dLen dCap b sLen sCap:Nat}{i:TypeInfo}{dT sT e:TypeId}
def Pj{ty:TypeId}(x:P.underlying dT=some (.slice e))(hi:P.info? e=some i){g o so:Nat}
  (l:H g=some (.cells cur e (0,0))) (u:a8 H b so ys) (y:ys.length=min sLen dLen*i.size) (f:o+ys.length<=cur.size) (h1:ys.all one=true) (w:World) (j:Sub H w) :
  ∃w2,(Builtin.copy_ #[dT,sT] ty #[.slice (some ⟨g,o,none⟩) dLen dCap,.slice (some ⟨b,so,none⟩) sLen sCap]).run P w=.ok (.int .i64 (min sLen dLen:Nat)) w2/\cP H w (H.put g (.cells (bN cur.toList o ys).toArray e (0,0))) w2:=by
 have hf:=run_firstCells_some (P:=P) (w:=w) i.size (min sLen dLen) ⟨b,so,none⟩ sLen sCap ys y (Ag u j);have d:=j _ _ l;rw[show cur=cur.toList.toArray from by simp]at d;obtain⟨w2,t,s,n,z,r,q,p⟩:=yH (P:=P) g e ys 0 o cur.toList w d (by simpa using f) fun v hv=>List.all_eq_true.1 h1 v hv;refine⟨w2,?_,?_⟩
 .simp[Builtin.copy_,fe x,Result.andThen,Builtin.lenOf,sizeOf,typeInfo,program,Sem.run,hi,goInt];rw[show Nat.min sLen dLen=min sLen dLen from rfl,hf];simp[t,Nat.min_def]
 .refine⟨fun c o' h=>?_,O,fun c m a=>n c (fun e=>by subst e;rw[l]at a;cases a),fun c m a=>?_,r,q,p⟩
  .by_cases e:c=g
   .subst e;simp only[PH.put,cu]at h;cases h;simpa using s
   .simp only[PH.put,ab e]at h;rw[n c e];exact j _ _ h
  .have:c≠g:=fun e=>by subst e;rw[l]at a;cases a
   simp[PH.put,this,a]
variable{off:Nat}{x y:Operand}
def LI{o:Oper}(j:P.underlying dT=some (.slice e))(hi:P.info? e=some i){g so:Nat}(aa:o.op=.call ⟨.builtin .copy,#[x,y],#[dT,sT]⟩)
  (f:ev σ x=.v (.slice (some ⟨g,off,none⟩) dLen dCap)) (d:ev σ y=.v (.slice (some ⟨b,so,none⟩) sLen sCap)) (m:H g=some (.cells cur e (0,0))) (n:a8 H b so ys) (l:ys.length=min sLen dLen*i.size) (c:off+ys.length<=cur.size) (h1:ys.all one=true) :
  bR σ o.op=true/\eJ P (execOp (bp σ) o) H fun sv H2=>sv=.v (.int .i64 (min sLen dLen:Nat))/\H2=H.put g (.cells (bN cur.toList off ys).toArray e (0,0)):=by
 constructor
 .simp[bR,aa,fx,Op.operands,Call.operands,f,d,fN]
 .intro w h;obtain⟨w2,a,st⟩:=Pj (sT:=sT) (ty:=o.type) (dCap:=dCap) (sCap:=sCap) j hi m n l c h1 w h;have:(execOp (bp σ) o).run P w=.ok (.value (.int .i64 (min sLen dLen:Nat))) w2:=by simp[execOp,aa,resolve,bp,f,d,invoke,builtin,Result.andThen,a]
  rw[this];exact⟨_,st,rfl,rfl⟩
variable{I:PH}{rem:Zq}
def GI{ol:Zq}{o:Oper}{g so:Nat}{l:Zt}(hd:Dj (I::sg g (.cells cur e (0,0))::l))(m:C.P.underlying dT=some (.slice e))(hi:C.P.info? e=some i)(j:bH ol σ o=some true)(aa:o.op=.call ⟨.builtin .copy,#[x,y],#[dT,sT]⟩)
  (h:ev σ x=.v (.slice (some ⟨g,off,none⟩) dLen dCap)) (f:ev σ y=.v (.slice (some ⟨b,so,none⟩) sLen sCap)) (q:a8 (U (I::sg g (.cells cur e (0,0))::l)) b so ys) (n:ys.length=min sLen dLen*i.size) (d:off+ys.length<=cur.size) (h1:ys.all one=true)
  (p:Dj (I::sg g (.cells (bN cur.toList off ys).toArray e (0,0))::l)->RC C (.op ol rem k) (σ.put o.dst (.v (.int .i64 (min sLen dLen:Nat)))) (U (I::sg g (.cells (bN cur.toList off ys).toArray e (0,0))::l))):RC C (.op ol (o::rem) k) σ (U (I::sg g (.cells cur e (0,0))::l)):=by
 obtain⟨a,c⟩:=LI (σ:=σ) m hi aa h f (ju hd _ _ (gZ _ _)) q n d h1;refine jE j a (c.mono fun sv H2 ⟨e1,e2⟩=>?_);subst e1;subst e2;obtain⟨e1,e2⟩:=tY (o':=.cells (bN cur.toList off ys).toArray e (0,0)) hd;rw[e1];exact p e2
def GM{ol:Zq}{fr:cw}{str:cC}{j:Nat}{lo:List (Nat×Oper)}{o:Oper}{g so:Nat}{l:Zt}(hd:Dj (I::sg g (.cells cur e (0,0))::l))(q:C.P.underlying dT=some (.slice e))(hi:C.P.info? e=some i)(hs:str.h.contains j=false)(f:str.j.contains j=false)(p:bH ol σ o=some true)(aa:o.op=.call ⟨.builtin .copy,#[x,y],#[dT,sT]⟩)
  (n:ev σ x=.v (.slice (some ⟨g,off,none⟩) dLen dCap)) (m:ev σ y=.v (.slice (some ⟨b,so,none⟩) sLen sCap)) (t:a8 (U (I::sg g (.cells cur e (0,0))::l)) b so ys) (r:ys.length=min sLen dLen*i.size) (d:off+ys.length<=cur.size) (h1:ys.all one=true)
  (s:Dj (I::sg g (.cells (bN cur.toList off ys).toArray e (0,0))::l)->RD C ol fr str lo k (σ.put o.dst (.v (.int .i64 (min sLen dLen:Nat)))) (U (I::sg g (.cells (bN cur.toList off ys).toArray e (0,0))::l))):RD C ol fr str ((j,o)::lo) k σ (U (I::sg g (.cells cur e (0,0))::l)):=by
 obtain⟨a,c⟩:=LI (σ:=σ) q hi aa n m (ju hd _ _ (gZ _ _)) t r d h1;refine uM p a (by rw[aa];rfl) (c.mono fun sv H2 ⟨e1,e2⟩=>⟨kY.non hs f,?_⟩);subst e1;subst e2;obtain⟨e1,e2⟩:=tY (o':=.cells (bN cur.toList off ys).toArray e (0,0)) hd;rw[e1];exact s e2
variable{w:World}{n:Nat}
def Og{t t' ty e':TypeId}{jH:Option Addr}{c:Nat}{x:Value}(h:P.underlying t=some (.slice e))(a:P.underlying t'=some (.slice e')):(Builtin.append_ #[t,t'] ty #[.slice jH n c,x]).run P w=(Builtin.append_ #[t,t] ty #[.slice jH n c,x]).run P w:=by simp[Builtin.append_,fe h,fe a,Result.andThen]
variable{news:Zo}{v:Value}{size bytes:Nat}
def Xe{o:Oper}{t t' e':TypeId}{xb xo m c:Nat}{xs:Zo}(ht:cO P t e size bytes)(h:P.underlying t'=some (.slice e'))(aa:o.op=.call ⟨.builtin .append,#[x,y],#[t,t']⟩)(B:ev σ x=.v v)(A:ev σ y=.v (.slice (some ⟨xb,xo,none⟩) m c))
  (b:g9 H e size v n xs) (J:a8 H xb xo news) (K:news.length=m*size) (h1:news.all one=true) (hb:(n+m)*bytes<=140737488355328) (p:n+m<=maxLen) :
  bR σ o.op=true/\eJ P (execOp (bp σ) o) H fun sv H2=>∃d,sv=.v d/\g9 H2 e size d (n+m) (xs++news)/\rp v.ownBlock H H2/\(d.ownBlock=v.ownBlock\/∀g,d.ownBlock=some g->H g=none):=by
 constructor
 .simp[bR,aa,fx,Op.operands,Call.operands,B,A,fN]
 .intro w G;obtain⟨d,F,H2,a,st,f,l,j⟩:=Hg (ty:=o.type) (c:=c) ht b J K (fun u I=>List.all_eq_true.1 h1 u I) hb p w G;obtain⟨i,z,L,_⟩:=ht;obtain⟨s,r,vc,rfl⟩:∃s r vc,v=.slice s r vc:=by
   rcases b.2 with ⟨q,_⟩|⟨g,cap,cur,q,_⟩
   .exact⟨_,_,_,q⟩
   .exact⟨_,_,_,q⟩
  rw[<-Og L h]at a;have:(execOp (bp σ) o).run P w=.ok (.value d) F:=by simp[execOp,aa,resolve,bp,B,A,invoke,builtin,Result.andThen,a]
  rw[this];exact⟨H2,st,d,rfl,f,l,j⟩
def MW{ol:Zq}{o:Oper}{t t' e':TypeId}{xb xo m c:Nat}{xs:Zo}{A:PH}{l:Zt}(hd:Dj (I::A::l))(ht:cO C.P t e size bytes)(i:C.P.underlying t'=some (.slice e'))(d:dH A e size v n xs)(r:bH ol σ o=some true)(aa:o.op=.call ⟨.builtin .append,#[x,y],#[t,t']⟩)(q:ev σ x=.v v)(p:ev σ y=.v (.slice (some ⟨xb,xo,none⟩) m c))
  (s:a8 (U (I::A::l)) xb xo news) (u:news.length=m*size) (h1:news.all one=true) (hb:(n+m)*bytes<=140737488355328) (j:n+m<=maxLen)
  (w:∀h f g,Dj (f::g::l)->I.le f->dH g e size h (n+m) (xs++news)->RC C (.op ol rem k) (σ.put o.dst (.v h)) (U (f::g::l))):RC C (.op ol (o::rem) k) σ (U (I::A::l)):=by
 obtain⟨a,b⟩:=Xe (σ:=σ) ht i aa q p (d.1.le (ju hd)) s u h1 hb j;refine jE r a (b.mono fun sv H2 ⟨h,e1,e2,J,G⟩=>?_);subst e1;obtain⟨f,g,e1,F,B,z⟩:=Fs hd d e2 J G;subst e1;exact w h f g F B z
variable{tn:TypeId}
def DT{o:Oper}{t:TypeId}{vx vy:Value}{w':World}(aa:o.op=.call ⟨.builtin .append,#[x,y],#[t,tn]⟩)(b:ev σ x=.v vx)(a:ev σ y=.v vy)(hr:(Builtin.append_ #[t,tn] o.type #[vx,vy]).run P w=.ok v w'):
  (execOp (bp σ) o).run P w=.ok (.value v) w':=by
 simp[execOp,aa,resolve,bp,b,a,invoke,builtin,Result.andThen,hr]
def cP.newD{H:PH}(s:Sub H w)(o:Obj):H w.heap.size=none/\cP H w (H.put w.heap.size o) (w.drew.alloc o):=by obtain⟨a,b⟩:=cP.new s o;exact⟨a,b.sub,b.size,b.priv,b.dom,rfl,rfl,rfl⟩
variable{olds:Zo}
def Xg{o:Oper}{t:TypeId}{kq kn:IntKind}(ht:cO P t e size bytes)(j:P.underlying tn=some (.int kn)){m:Nat}(aa:o.op=.call ⟨.builtin .append,#[x,y],#[t,tn]⟩)
  (r:ev σ x=.v (.slice (some ⟨b,off,none⟩) sLen sCap)) (q:ev σ y=.v (.int kq m)) (I:a8 H b off olds) (G:olds.length=sLen*size) (h0:0<m) (u:sCap<sLen+m) (f:sLen+m<=maxLen) (hb:(sLen+m)*bytes<=140737488355328) :
  bR σ o.op=true/\eJ P (execOp (bp σ) o) H fun sv H2=>∃g cap zs,H g=none/\zs.length=(cap-sLen)*size/\sLen+m<=cap/\cap<=maxLen/\sv=.v (.slice (some ⟨g,0,none⟩) (sLen+m) cap)/\H2=H.put g (.cells (olds++zs).toArray e (0,0)):=by
 constructor
 .simp[bR,aa,fx,Op.operands,Call.operands,r,q,fN]
 .intro w s;obtain⟨i,z,L,a2,a3,a4,a5,K,J⟩:=ht;subst a4;subst a5;have d:=run_firstCells_some (P:=P) (w:=w.drew) i.size sLen ⟨b,off,none⟩ sLen sCap olds G (Ag I (w:=w.drew) s);have h:sLen+m<=9223372036854775807:=by simp only[maxLen]at f;omega
  have hm:m*i.bytes<=(sLen+m)*i.bytes:=cv _ O;have c:=Lib.run_append_grow_zeros (P:=P) w t tn o.type e i z kq kn L j a2 a3 (some ⟨b,off,none⟩) sLen sCap olds d m h0 J u O O (growslice_fits u hb);have p:=grownCap_ge w (sLen+m) sCap e;have l:=grownCap_le_maxLen w (sLen+m) sCap e f;have F:∀n,(Builtin.zeroCells z.cells n).size=n*i.size:=by intro n;rw[size_zeroCells,K]
  have a:(execOp (bp σ) o).run P w=.ok (.value (.slice (some ⟨w.heap.size,0,none⟩) (sLen+m) (grownCap w (sLen+m) sCap e))) (w.drew.alloc (.cells (olds.toArray++Builtin.zeroCells z.cells m++Builtin.zeroCells z.cells (grownCap w (sLen+m) sCap e-(sLen+m))) e)):=by exact DT aa r q c
  rw[a];obtain⟨B,A⟩:=cP.newD s (.cells (olds.toArray++Builtin.zeroCells z.cells m++Builtin.zeroCells z.cells (grownCap w (sLen+m) sCap e-(sLen+m))) e (0,0));refine⟨_,A,w.heap.size,grownCap w (sLen+m) sCap e,(Builtin.zeroCells z.cells m++Builtin.zeroCells z.cells (grownCap w (sLen+m) sCap e-(sLen+m))).toList,B,?_,p,l,rfl,?_⟩
  .simp only[ot,Array.size_append,F,<-ir];congr 1;omega
  .congr 2;rw[<-ns];simp
def MX{ol:Zq}{o:Oper}{t:TypeId}{kq kn:IntKind}{m:Nat}{l:Zt}(hd:Dj (I::l))(ht:cO C.P t e size bytes)(d:C.P.underlying tn=some (.int kn))(p:bH ol σ o=some true)(aa:o.op=.call ⟨.builtin .append,#[x,y],#[t,tn]⟩)
  (n:ev σ x=.v (.slice (some ⟨b,off,none⟩) sLen sCap)) (j:ev σ y=.v (.int kq m)) (u:a8 (U (I::l)) b off olds) (q:olds.length=sLen*size) (h0:0<m) (s:sCap<sLen+m) (f:sLen+m<=maxLen) (hb:(sLen+m)*bytes<=140737488355328)
  (r:∀g cap zs,zs.length=(cap-sLen)*size->sLen+m<=cap->cap<=maxLen->Dj (I::sg g (.cells (olds++zs).toArray e (0,0))::l)->RC C (.op ol rem k) (σ.put o.dst (.v (.slice (some ⟨g,0,none⟩) (sLen+m) cap))) (U (I::sg g (.cells (olds++zs).toArray e (0,0))::l))):RC C (.op ol (o::rem) k) σ (U (I::l)):=by
 obtain⟨a,c⟩:=Xg (σ:=σ) ht d aa n j u q h0 s f hb;refine jE p a (c.mono fun sv H2 ⟨g,cap,zs,e1,e2,z,w,i,h⟩=>?_);subst i;subst h;obtain⟨i,h⟩:=wg hd (o:=.cells (olds++zs).toArray e (0,0)) e1;rw[i];exact r g cap zs e2 z w h
def Nf {ol:Zq} {o:Oper}  {f:FuncId} {fn:Func} {t tR:TypeId} {Z:Array TypeId}  {a la ca lb cb oa ob:Nat} {cA cB:Array Value} {tA tB:TypeId} (ht:cO C.P t e size bytes) (hf:C.P.funcs[f]?=some fn) (d:(fn.name == "runtime.NumGoroutine")=false) (g:fn.body.isNone=true) (B:Extern.findNext fn=none) (G:Extern.find fn=some (Extern.SlicesOverlaps.overlaps #[t,t] #[tR]))
  (A:bH ol σ o=some true) (aa:o.op=.call ⟨.value (.func f),#[x,y],Z⟩) (r:ev σ x=.v (.slice (some ⟨a,oa,none⟩) la ca)) (q:ev σ y=.v (.slice (some ⟨b,ob,none⟩) lb cb)) (J:H a=some (.cells cA tA (0,0))) (I:H b=some (.cells cB tB (0,0))) (m:a≠b) (n:cB.size≠0)
  (F:RC C (.op ol rem k) (σ.put o.dst (.v (.bool false))) H):RC C (.op ol (o::rem) k) σ H:=by
 have l:ev σ (.func f)=.v (.func (.func f) #[] #[]):=rfl;refine uJ (.bool false) A ?_ (fun w s=>?_) F
 .simp[bR,aa,fx,Op.operands,Call.operands,r,q,fN,l]
 .obtain⟨i,z,K,a2,a3,a4,a5,N,L⟩:=ht;have h:=s _ _ J;have p:=s _ _ I;have u:∀w,(Go.sizeOf e).run C.P w=.ok size w:=fun w=>by simp[sizeOf,typeInfo,program,Sem.run,a2,a4]
  have j:=Lib.run_overlaps_apart (P:=C.P) w t tR e K size u ⟨a,oa,none⟩ ⟨b,ob,none⟩ la ca lb cb m tA tB cA.size cB.size (by simp[World.shape?,h]) (by simp[World.shape?,p]) n (by simp[World.frozen?,h]) (by simp[World.frozen?,h]);have c:=run_callFunc_extern hf d g B G #[.slice (some ⟨a,oa,none⟩) la ca,.slice (some ⟨b,ob,none⟩) lb cb] w;rw[j]at c;simp only[Result.andThen]at c;simp only[execOp,aa,resolve,ew];simp[bp,l,r,q,Deferred.ofValue,Result.andThen,invoke,c]
theorem dH.sg{A:PH}{xs:Zo}(h:dH A e size v n xs)(l:0<n):∃g cap cur,v=.slice (some ⟨g,0,none⟩) n cap/\A=Sx.sg g (.cells cur e (0,0))/\n<=cap/\cap<=maxLen/\cur.size=cap*size/\cur.toList.take (n*size)=xs:=by
 obtain⟨⟨m,⟨_,o⟩|⟨g,cap,cur,a,b,c,d,f,k'⟩⟩,j⟩:=h
 .omega
 .refine⟨g,cap,cur,a,?_,c,d,f,k'⟩;funext b';by_cases i:b'=g
  .subst i;rw[b,gZ]
  .rw[j b' (by subst a;simp[yp];exact fun e=>i e.symm)];simp[Sx.sg,i]
def dH.of_sg{g cap:Nat}{xs:Zo}(b:xs.length=n*size)(h1:n<=cap)(h2:cap<=maxLen)(h3:cur.size=cap*size)(h4:cur.toList.take (n*size)=xs):dH (Sx.sg g (.cells cur e (0,0))) e size (.slice (some ⟨g,0,none⟩) n cap) n xs:=
 ⟨⟨b,.inr ⟨g,cap,cur,rfl,gZ _ _,h1,h2,h3,h4⟩⟩,fun c a=>by simp only[yp,ne_eq,bf]at a;simp[Sx.sg,Ne.symm a]⟩
def BR(l cs:Zo)(off m:Nat)(h:off+cs.length<=m):(bN l off cs).take m=bN (l.take m) off cs:=by
 induction cs generalizing l off with
 |nil=>rfl
 |cons c cs a=>simp only[bl]at h;simp only[bN];rw[a _ _ O,List.take_set]
end
end Go.Sx
namespace Go.Proofs.YtfaclfkpnmcmlaaGreatDoor
open Go Go.Sx
theorem eR:Sx.bu prog 3=some none:=by kernel_rfl
theorem sQ:Sx.bE prog 3=some 1:=by kernel_rfl
theorem pB:Sx.br prog 3=some (.int .i64 0):=by kernel_rfl
theorem G6:Sx.bu prog 4=some none:=by kernel_rfl
theorem tu:Sx.bu prog 5=some none:=by kernel_rfl
theorem gF:Sx.bu prog 9=some none:=by kernel_rfl
theorem mJ:Sx.bu prog 23=some none:=by kernel_rfl
theorem lU:Sx.bu prog 24=some none:=by kernel_rfl
theorem zV:Sx.bu prog 33=some none:=by kernel_rfl
theorem y6:Sx.bE prog 33=some 1:=by kernel_rfl
theorem Dk:Sx.bu prog 34=some none:=by kernel_rfl
theorem Ma:Sx.bE prog 34=some 1:=by kernel_rfl
theorem G5:Sx.bu prog 36=some (some 2):=by kernel_rfl
theorem xw:Sx.bu prog 46=some none:=by kernel_rfl
theorem rU:Sx.bu prog 48=some none:=by kernel_rfl
theorem FR:Sx.bE prog 48=some 1:=by kernel_rfl
theorem jG:Sx.bu prog 50=some (some 2):=by kernel_rfl
theorem qW:Sx.bE prog 50=some 2:=by kernel_rfl
theorem CF:Sx.br prog 50=some (.agg #[.slice none 0 0,.int .i64 0]):=by kernel_rfl
theorem b9:Sx.bu prog 60=some (some 7):=by kernel_rfl
theorem eM:Sx.bE prog 60=some 7:=by kernel_rfl
theorem gh:Sx.bu prog 80=some (some 4):=by kernel_rfl
theorem pp:Sx.bE prog 80=some 4:=by kernel_rfl
theorem ML:Sx.br prog 80=some (.agg #[.int .u8 0,.int .i64 0,.slice none 0 0,.int .i64 0]):=by kernel_rfl
theorem G7:Sx.bu prog 83=some (some 7):=by kernel_rfl
theorem uV:Sx.bu prog 152=some none:=by kernel_rfl
theorem G2:Sx.bu prog 158=some none:=by kernel_rfl
theorem rS:Sx.bu prog 169=some (some 3):=by kernel_rfl
theorem L8:Sx.bE prog 169=some 3:=by kernel_rfl
theorem pX:Sx.bu prog 181=some (some 3):=by kernel_rfl
theorem zS:Sx.bu prog 217=some none:=by kernel_rfl
theorem gv:Sx.bu prog 227=some (some 5):=by kernel_rfl
theorem De:Sx.bu prog 260=some none:=by kernel_rfl
theorem Dh:Sx.bu prog 298=some none:=by kernel_rfl
theorem zT:Sx.bu prog 301=some none:=by kernel_rfl
theorem zU:Sx.bu prog 302=some none:=by kernel_rfl
theorem L9:Sx.bE prog 302=some 1:=by kernel_rfl
theorem Di:Sx.bu prog 315=some none:=by kernel_rfl
theorem G3:Sx.bu prog 316=some none:=by kernel_rfl
theorem G4:Sx.bu prog 317=some (some 22):=by kernel_rfl
theorem rT:Sx.bu prog 377=some none:=by kernel_rfl
theorem Cg:Sx.bE prog 377=some 1:=by kernel_rfl
def yL:Sx.cO prog 24 83 7 96:=cO.of (by kernel_rfl) (by kernel_rfl) O
def FH:Sx.cO prog 28 136 6 88:=cO.of (by kernel_rfl) (by kernel_rfl) O
def dr:Sx.cO prog 33 60 7 96:=cO.of (by kernel_rfl) (by kernel_rfl) O
def nn:Sx.cO prog 34 80 4 48:=cO.of (by kernel_rfl) (by kernel_rfl) O
def yM:Sx.cO prog 43 23 1 4:=cO.of (by kernel_rfl) (by kernel_rfl) O
def BX:Sx.cO prog 48 181 3 24:=cO.of (by kernel_rfl) (by kernel_rfl) O
def kl:Sx.cO prog 81 3 1 8:=cO.of (by kernel_rfl) (by kernel_rfl) O
def W2:Sx.cO prog 88 36 2 48:=cO.of (by kernel_rfl) (by kernel_rfl) O
def Ly:Sx.cO prog 154 169 3 40:=cO.of (by kernel_rfl) (by kernel_rfl) O
def jw:Sx.cO prog 155 169 3 40:=cO.of (by kernel_rfl) (by kernel_rfl) O
def Lz:Sx.cO prog 158 4 1 1:=cO.of (by kernel_rfl) (by kernel_rfl) O
def FG:Sx.cO prog 159 50 2 32:=cO.of (by kernel_rfl) (by kernel_rfl) O
theorem EG:prog.underlying 197=some (.map 3 50):=by kernel_rfl
theorem EH:prog.underlying 238=some (.map 240 3):=by kernel_rfl
theorem EI:prog.underlying 260=some (.map 335 3):=by kernel_rfl
def od:Sx.cO prog 268 5 1 1:=cO.of (by kernel_rfl) (by kernel_rfl) O
theorem EJ:prog.underlying 298=some (.map 181 3):=by kernel_rfl
theorem vA:prog.underlying 301=some (.map 3 3):=by kernel_rfl
def sO:Sx.cO prog 306 227 5 64:=cO.of (by kernel_rfl) (by kernel_rfl) O
def W1:Sx.cO prog 319 316 1 8:=cO.of (by kernel_rfl) (by kernel_rfl) O
theorem Y4:Sx.bI prog 3=.none/\Sx.bD prog 3=.int .i64/\Sx.bO prog 3=true/\Sx.bE prog 4=some 1/\Sx.br prog 4=some (.bool false)/\Sx.bI prog 4=.none/\Sx.bD prog 4=.other/\Sx.bO prog 4=true/\Sx.bE prog 5=some 1/\Sx.br prog 5=some (.int .u8 0)/\Sx.bI prog 5=.none/\Sx.bD prog 5=.int .u8/\Sx.bO prog 5=true/\Sx.bE prog 9=some 1/\Sx.br prog 9=some (.string ⟨#[]⟩)/\Sx.bI prog 9=.none/\Sx.bD prog 9=.str/\Sx.bO prog 9=true/\Sx.bu prog 22=some none/\Sx.bE prog 22=some 1/\Sx.br prog 22=some (.slice none 0 0)/\Sx.bI prog 22=.sl 3/\Sx.bD prog 22=.sl/\Sx.bO prog 22=true/\Sx.bE prog 23=some 1/\Sx.br prog 23=some (.int .u32 0)/\Sx.bI prog 23=.none/\Sx.bD prog 23=.int .u32/\Sx.bO prog 23=true/\Sx.bE prog 24=some 1/\Sx.br prog 24=some (.slice none 0 0)/\Sx.bI prog 24=.sl 7/\Sx.bD prog 24=.sl/\Sx.bO prog 24=true/\Sx.bu prog 27=some (some 2)/\Sx.bE prog 27=some 2/\Sx.br prog 27=some (.agg #[.slice none 0 0,.slice none 0 0])/\Sx.bw prog 27 0=some (0,24)/\Sx.bw prog 27 1=some (1,25)/\Sx.fd prog 27=true/\Sx.bI prog 27=.none/\Sx.bD prog 27=.other/\Sx.bO prog 27=true/\Sx.bu prog 28=some none/\Sx.bE prog 28=some 1/\Sx.br prog 28=some (.slice none 0 0)/\Sx.bI prog 28=.sl 6/\Sx.bD prog 28=.sl/\Sx.bO prog 28=true/\Sx.br prog 33=some (.slice none 0 0)/\Sx.bI prog 33=.sl 7/\Sx.bD prog 33=.sl/\Sx.bO prog 33=true/\Sx.br prog 34=some (.slice none 0 0)/\Sx.bI prog 34=.sl 4/\Sx.bD prog 34=.sl/\Sx.bO prog 34=true/\Sx.bE prog 36=some 2/\Sx.br prog 36=some (.agg #[.slice none 0 0,.slice none 0 0])/\Sx.bw prog 36 0=some (0,33):=by and_intros<;>kernel_rfl
theorem Y5:Sx.bw prog 36 1=some (1,34)/\Sx.fd prog 36=true/\Sx.bI prog 36=.none/\Sx.bD prog 36=.other/\Sx.bO prog 36=true/\Sx.bu prog 38=some none/\Sx.bE prog 38=some 1/\Sx.br prog 38=some (.slice none 0 0)/\Sx.bI prog 38=.sl 6/\Sx.bD prog 38=.sl/\Sx.bO prog 38=true/\Sx.bu prog 39=some none/\Sx.bE prog 39=some 1/\Sx.br prog 39=some (.slice none 0 0)/\Sx.bI prog 39=.sl 3/\Sx.bD prog 39=.sl/\Sx.bO prog 39=true/\Sx.bu prog 41=some (some 2)/\Sx.bE prog 41=some 2/\Sx.br prog 41=some (.agg #[.slice none 0 0,.slice none 0 0])/\Sx.bw prog 41 0=some (0,38)/\Sx.bw prog 41 1=some (1,39)/\Sx.fd prog 41=true/\Sx.bI prog 41=.none/\Sx.bD prog 41=.other/\Sx.bO prog 41=true/\Sx.bu prog 43=some none/\Sx.bE prog 43=some 1/\Sx.br prog 43=some (.slice none 0 0)/\Sx.bI prog 43=.sl 1/\Sx.bD prog 43=.sl/\Sx.bO prog 43=true/\Sx.bE prog 46=some 1/\Sx.br prog 46=some (.slice none 0 0)/\Sx.bI prog 46=.sl 2/\Sx.bD prog 46=.sl/\Sx.bO prog 46=true/\Sx.br prog 48=some (.slice none 0 0)/\Sx.bI prog 48=.sl 3/\Sx.bD prog 48=.sl/\Sx.bO prog 48=true/\Sx.bw prog 50 0=some (0,48)/\Sx.bw prog 50 1=some (1,3)/\Sx.fd prog 50=true/\Sx.bI prog 50=.none/\Sx.bD prog 50=.other/\Sx.bO prog 50=true/\Sx.br prog 60=some (.agg #[.int .u8 0,.string ⟨#[]⟩,.int .i64 0,.int .i64 0,.slice none 0 0,.slice none 0 0,.int .i64 0])/\Sx.bw prog 60 0=some (0,5)/\Sx.bw prog 60 1=some (1,9)/\Sx.bw prog 60 2=some (2,3)/\Sx.bw prog 60 3=some (3,3)/\Sx.bw prog 60 4=some (4,33)/\Sx.bw prog 60 5=some (5,50)/\Sx.fd prog 60=true/\Sx.bI prog 60=.none/\Sx.bD prog 60=.other/\Sx.bO prog 60=true/\Sx.bu prog 61=some none/\Sx.bE prog 61=some 1:=by and_intros<;>kernel_rfl
theorem Y6:Sx.br prog 61=some (.int .i64 0)/\Sx.bI prog 61=.none/\Sx.bD prog 61=.int .i64/\Sx.bO prog 61=true/\Sx.bu prog 67=some (some 6)/\Sx.bE prog 67=some 6/\Sx.br prog 67=some (.agg #[.int .u8 0,.string ⟨#[]⟩,.int .i64 0,.int .i64 0,.slice none 0 0,.slice none 0 0])/\Sx.bw prog 67 0=some (0,5)/\Sx.bw prog 67 1=some (1,9)/\Sx.bw prog 67 2=some (2,3)/\Sx.bw prog 67 3=some (3,3)/\Sx.bw prog 67 4=some (4,38)/\Sx.bw prog 67 5=some (5,43)/\Sx.fd prog 67=true/\Sx.bI prog 67=.none/\Sx.bD prog 67=.other/\Sx.bO prog 67=true/\Sx.bu prog 78=some none/\Sx.bE prog 78=some 1/\Sx.br prog 78=some (.int .u8 0)/\Sx.bI prog 78=.none/\Sx.bD prog 78=.int .u8/\Sx.bO prog 78=true/\Sx.bw prog 80 0=some (0,78)/\Sx.bw prog 80 1=some (1,3)/\Sx.bw prog 80 2=some (2,50)/\Sx.fd prog 80=true/\Sx.bI prog 80=.none/\Sx.bD prog 80=.other/\Sx.bO prog 80=true/\Sx.bu prog 81=some none/\Sx.bE prog 81=some 1/\Sx.br prog 81=some (.slice none 0 0)/\Sx.bI prog 81=.sl 1/\Sx.bD prog 81=.sl/\Sx.bO prog 81=true/\Sx.bE prog 83=some 7/\Sx.br prog 83=some (.agg #[.int .u8 0,.string ⟨#[]⟩,.slice none 0 0,.int .i64 0,.int .i64 0,.slice none 0 0,.int .i64 0])/\Sx.bw prog 83 0=some (0,5)/\Sx.bw prog 83 1=some (1,9)/\Sx.bw prog 83 2=some (2,81)/\Sx.bw prog 83 3=some (3,3)/\Sx.bw prog 83 4=some (4,3)/\Sx.bw prog 83 5=some (5,50)/\Sx.fd prog 83=true/\Sx.bI prog 83=.none/\Sx.bD prog 83=.other/\Sx.bO prog 83=true/\Sx.bu prog 88=some none/\Sx.bE prog 88=some 1/\Sx.br prog 88=some (.slice none 0 0)/\Sx.bI prog 88=.sl 2/\Sx.bD prog 88=.sl/\Sx.bO prog 88=true/\Sx.bu prog 91=some none/\Sx.bE prog 91=some 1/\Sx.br prog 91=some (.slice none 0 0)/\Sx.bI prog 91=.sl 6/\Sx.bD prog 91=.sl/\Sx.bO prog 91=true:=by and_intros<;>kernel_rfl
theorem Y7:Sx.bu prog 92=some none/\Sx.bE prog 92=some 1/\Sx.br prog 92=some (.slice none 0 0)/\Sx.bI prog 92=.sl 3/\Sx.bD prog 92=.sl/\Sx.bO prog 92=true/\Sx.bu prog 94=some (some 2)/\Sx.bE prog 94=some 2/\Sx.br prog 94=some (.agg #[.slice none 0 0,.slice none 0 0])/\Sx.bw prog 94 0=some (0,91)/\Sx.bw prog 94 1=some (1,92)/\Sx.fd prog 94=true/\Sx.bI prog 94=.none/\Sx.bD prog 94=.other/\Sx.bO prog 94=true/\Sx.bu prog 97=some none/\Sx.bE prog 97=some 1/\Sx.br prog 97=some (.slice none 0 0)/\Sx.bI prog 97=.sl 2/\Sx.bD prog 97=.sl/\Sx.bO prog 97=true/\Sx.bu prog 102=some (some 3)/\Sx.bE prog 102=some 3/\Sx.br prog 102=some (.agg #[.int .u8 0,.int .i64 0,.slice none 0 0])/\Sx.bw prog 102 0=some (0,78)/\Sx.bw prog 102 1=some (1,3)/\Sx.bw prog 102 2=some (2,43)/\Sx.fd prog 102=true/\Sx.bI prog 102=.none/\Sx.bD prog 102=.other/\Sx.bO prog 102=true/\Sx.bu prog 104=some none/\Sx.bE prog 104=some 1/\Sx.br prog 104=some (.slice none 0 0)/\Sx.bI prog 104=.sl 7/\Sx.bD prog 104=.sl/\Sx.bO prog 104=true/\Sx.bu prog 111=some (some 7)/\Sx.bE prog 111=some 7/\Sx.br prog 111=some (.agg #[.slice none 0 0,.int .u8 0,.string ⟨#[]⟩,.int .i64 0,.int .i64 0,.slice none 0 0,.slice none 0 0])/\Sx.bw prog 111 0=some (0,81)/\Sx.bw prog 111 1=some (1,67)/\Sx.fd prog 111=true/\Sx.bI prog 111=.none/\Sx.bD prog 111=.other/\Sx.bO prog 111=true/\Sx.bu prog 118=some none/\Sx.bE prog 118=some 1/\Sx.br prog 118=some (.slice none 0 0)/\Sx.bI prog 118=.sl 2/\Sx.bD prog 118=.sl/\Sx.bO prog 118=true/\Sx.bu prog 134=some (some 3)/\Sx.bE prog 134=some 3/\Sx.br prog 134=some (.agg #[.int .u8 0,.string ⟨#[]⟩,.slice none 0 0])/\Sx.bw prog 134 0=some (0,5)/\Sx.bw prog 134 1=some (1,9)/\Sx.bw prog 134 2=some (2,46)/\Sx.fd prog 134=true/\Sx.bI prog 134=.none:=by and_intros<;>kernel_rfl
theorem Y8:Sx.bD prog 134=.other/\Sx.bO prog 134=true/\Sx.bu prog 136=some (some 6)/\Sx.bE prog 136=some 6/\Sx.br prog 136=some (.agg #[.int .u8 0,.string ⟨#[]⟩,.slice none 0 0,.int .i64 0,.int .i64 0,.slice none 0 0])/\Sx.bw prog 136 0=some (0,5)/\Sx.bw prog 136 1=some (1,9)/\Sx.bw prog 136 2=some (2,81)/\Sx.bw prog 136 3=some (3,3)/\Sx.bw prog 136 4=some (4,3)/\Sx.bw prog 136 5=some (5,43)/\Sx.fd prog 136=true/\Sx.bI prog 136=.none/\Sx.bD prog 136=.other/\Sx.bO prog 136=true/\Sx.bu prog 150=some (some 8)/\Sx.bE prog 150=some 8/\Sx.br prog 150=some (.agg #[.slice none 0 0,.slice none 0 0,.int .i64 0,.int .i64 0,.int .i64 0,.bool false,.int .u8 0,.int .i64 0])/\Sx.bw prog 150 0=some (0,28)/\Sx.bw prog 150 1=some (1,81)/\Sx.bw prog 150 2=some (2,3)/\Sx.bw prog 150 3=some (3,3)/\Sx.bw prog 150 4=some (4,3)/\Sx.bw prog 150 5=some (5,4)/\Sx.bw prog 150 6=some (6,78)/\Sx.bw prog 150 7=some (7,3)/\Sx.fd prog 150=true/\Sx.bI prog 150=.none/\Sx.bD prog 150=.other/\Sx.bO prog 150=true/\Sx.bE prog 152=some 1/\Sx.br prog 152=some (.pointer none)/\Sx.bI prog 152=.none/\Sx.bD prog 152=.other/\Sx.bO prog 152=true/\Sx.bu prog 154=some none/\Sx.bE prog 154=some 1/\Sx.br prog 154=some (.slice none 0 0)/\Sx.bI prog 154=.sl 3/\Sx.bD prog 154=.sl/\Sx.bO prog 154=true/\Sx.bu prog 155=some none/\Sx.bE prog 155=some 1/\Sx.br prog 155=some (.slice none 0 0)/\Sx.bI prog 155=.sl 3/\Sx.bD prog 155=.sl/\Sx.bO prog 155=true/\Sx.bE prog 158=some 1/\Sx.br prog 158=some (.slice none 0 0)/\Sx.bI prog 158=.sl 1/\Sx.bD prog 158=.sl/\Sx.bO prog 158=true/\Sx.bu prog 159=some none/\Sx.bE prog 159=some 1/\Sx.br prog 159=some (.slice none 0 0)/\Sx.bI prog 159=.sl 2/\Sx.bD prog 159=.sl/\Sx.bO prog 159=true/\Sx.bu prog 161=some (some 5)/\Sx.bE prog 161=some 5:=by and_intros<;>kernel_rfl
theorem Y9:Sx.br prog 161=some (.agg #[.slice none 0 0,.slice none 0 0,.slice none 0 0,.int .i64 0,.slice none 0 0])/\Sx.bw prog 161 0=some (0,24)/\Sx.bw prog 161 1=some (1,158)/\Sx.bw prog 161 2=some (2,159)/\Sx.bw prog 161 3=some (3,3)/\Sx.bw prog 161 4=some (4,34)/\Sx.fd prog 161=true/\Sx.bI prog 161=.none/\Sx.bD prog 161=.other/\Sx.bO prog 161=true/\Sx.bu prog 164=some (some 2)/\Sx.bE prog 164=some 2/\Sx.br prog 164=some (.agg #[.int .u32 0,.int .u32 0])/\Sx.bw prog 164 0=some (0,23)/\Sx.bw prog 164 1=some (1,23)/\Sx.fd prog 164=true/\Sx.bI prog 164=.none/\Sx.bD prog 164=.other/\Sx.bO prog 164=true/\Sx.br prog 169=some (.agg #[.int .i64 0,.slice none 0 0,.int .i64 0])/\Sx.bw prog 169 0=some (0,3)/\Sx.bw prog 169 1=some (1,50)/\Sx.fd prog 169=true/\Sx.bI prog 169=.none/\Sx.bD prog 169=.other/\Sx.bO prog 169=true/\Sx.bE prog 181=some 3/\Sx.br prog 181=some (.agg #[.int .i64 0,.int .i64 0,.int .i64 0])/\Sx.bw prog 181 0=some (0,3)/\Sx.bw prog 181 1=some (1,3)/\Sx.bw prog 181 2=some (2,3)/\Sx.fd prog 181=true/\Sx.bI prog 181=.none/\Sx.bD prog 181=.other/\Sx.bO prog 181=true/\Sx.bu prog 187=some (some 3)/\Sx.bE prog 187=some 3/\Sx.br prog 187=some (.agg #[.int .u8 0,.int .i64 0,.slice none 0 0])/\Sx.bw prog 187 0=some (0,78)/\Sx.bw prog 187 1=some (1,3)/\Sx.bw prog 187 2=some (2,46)/\Sx.fd prog 187=true/\Sx.bI prog 187=.none/\Sx.bD prog 187=.other/\Sx.bO prog 187=true/\Sx.bu prog 192=some none/\Sx.bE prog 192=some 1/\Sx.br prog 192=some (.nilFunc)/\Sx.bI prog 192=.none/\Sx.bD prog 192=.other/\Sx.bO prog 192=true/\Sx.bu prog 197=some none/\Sx.bE prog 197=some 1/\Sx.br prog 197=some (.map none)/\Sx.bI prog 197=.none/\Sx.bD prog 197=.other/\Sx.bO prog 197=true/\Sx.bE prog 217=some 1/\Sx.br prog 217=some (.pointer none)/\Sx.bI prog 217=.none:=by and_intros<;>kernel_rfl
theorem Za:Sx.bD prog 217=.other/\Sx.bO prog 217=true/\Sx.bE prog 227=some 5/\Sx.br prog 227=some (.agg #[.int .i64 0,.slice none 0 0,.int .i64 0,.int .u8 0,.string ⟨#[]⟩])/\Sx.bw prog 227 0=some (0,3)/\Sx.bw prog 227 1=some (1,50)/\Sx.bw prog 227 2=some (3,5)/\Sx.bw prog 227 3=some (4,9)/\Sx.fd prog 227=true/\Sx.bI prog 227=.none/\Sx.bD prog 227=.other/\Sx.bO prog 227=true/\Sx.bu prog 238=some none/\Sx.bE prog 238=some 1/\Sx.br prog 238=some (.map none)/\Sx.bI prog 238=.none/\Sx.bD prog 238=.other/\Sx.bO prog 238=true/\Sx.bu prog 240=some (some 4)/\Sx.bE prog 240=some 4/\Sx.br prog 240=some (.agg #[.int .i64 0,.int .i64 0,.int .u8 0,.string ⟨#[]⟩])/\Sx.bw prog 240 0=some (0,3)/\Sx.bw prog 240 1=some (1,3)/\Sx.bw prog 240 2=some (2,5)/\Sx.bw prog 240 3=some (3,9)/\Sx.fd prog 240=true/\Sx.bI prog 240=.none/\Sx.bD prog 240=.other/\Sx.bO prog 240=true/\Sx.bE prog 260=some 1/\Sx.br prog 260=some (.map none)/\Sx.bI prog 260=.none/\Sx.bD prog 260=.other/\Sx.bO prog 260=true/\Sx.bu prog 262=some (some 6)/\Sx.bE prog 262=some 6/\Sx.br prog 262=some (.agg #[.pointer none,.slice none 0 0,.int .i64 0,.slice none 0 0,.int .i64 0,.map none])/\Sx.bw prog 262 0=some (0,217)/\Sx.bw prog 262 1=some (1,50)/\Sx.bw prog 262 2=some (3,50)/\Sx.bw prog 262 3=some (5,260)/\Sx.fd prog 262=true/\Sx.bI prog 262=.none/\Sx.bD prog 262=.other/\Sx.bO prog 262=true/\Sx.bu prog 265=some (some 6)/\Sx.bE prog 265=some 6/\Sx.br prog 265=some (.agg #[.int .u8 0,.string ⟨#[]⟩,.int .i64 0,.int .i64 0,.slice none 0 0,.slice none 0 0])/\Sx.bw prog 265 0=some (0,5)/\Sx.bw prog 265 1=some (1,9)/\Sx.bw prog 265 2=some (2,3)/\Sx.bw prog 265 3=some (3,3)/\Sx.bw prog 265 4=some (4,91)/\Sx.bw prog 265 5=some (5,46)/\Sx.fd prog 265=true/\Sx.bI prog 265=.none/\Sx.bD prog 265=.other/\Sx.bO prog 265=true/\Sx.bu prog 268=some none/\Sx.bE prog 268=some 1:=by and_intros<;>kernel_rfl
theorem Zb:Sx.br prog 268=some (.slice none 0 0)/\Sx.bI prog 268=.sl 1/\Sx.bD prog 268=.sl/\Sx.bO prog 268=true/\Sx.bu prog 282=some none/\Sx.bE prog 282=some 1/\Sx.br prog 282=some (.slice none 0 0)/\Sx.bI prog 282=.sl 1/\Sx.bD prog 282=.sl/\Sx.bO prog 282=true/\Sx.bu prog 284=some none/\Sx.bE prog 284=some 1/\Sx.br prog 284=some (.nilIface)/\Sx.bI prog 284=.none/\Sx.bD prog 284=.other/\Sx.bO prog 284=true/\Sx.bE prog 298=some 1/\Sx.br prog 298=some (.map none)/\Sx.bI prog 298=.none/\Sx.bD prog 298=.other/\Sx.bO prog 298=true/\Sx.bu prog 300=some (some 2)/\Sx.bE prog 300=some 2/\Sx.br prog 300=some (.agg #[.slice none 0 0,.map none])/\Sx.bw prog 300 0=some (0,48)/\Sx.bw prog 300 1=some (1,298)/\Sx.fd prog 300=true/\Sx.bI prog 300=.none/\Sx.bD prog 300=.other/\Sx.bO prog 300=true/\Sx.bE prog 301=some 1/\Sx.br prog 301=some (.map none)/\Sx.bI prog 301=.none/\Sx.bD prog 301=.other/\Sx.bO prog 301=true/\Sx.br prog 302=some (.nilFunc)/\Sx.bI prog 302=.none/\Sx.bD prog 302=.other/\Sx.bO prog 302=true/\Sx.bu prog 306=some none/\Sx.bE prog 306=some 1/\Sx.br prog 306=some (.slice none 0 0)/\Sx.bI prog 306=.sl 5/\Sx.bD prog 306=.sl/\Sx.bO prog 306=true/\Sx.bE prog 315=some 1/\Sx.br prog 315=some (.nilFunc)/\Sx.bI prog 315=.none/\Sx.bD prog 315=.other/\Sx.bO prog 315=true/\Sx.bE prog 316=some 1/\Sx.br prog 316=some (.nilFunc)/\Sx.bI prog 316=.none/\Sx.bD prog 316=.other/\Sx.bO prog 316=true/\Sx.bE prog 317=some 22/\Sx.br prog 317=some (.agg #[.string ⟨#[]⟩,.string ⟨#[]⟩,.string ⟨#[]⟩,.string ⟨#[]⟩,.string ⟨#[]⟩,.string ⟨#[]⟩,.string ⟨#[]⟩,.string ⟨#[]⟩,.string ⟨#[]⟩,.string ⟨#[]⟩,.string ⟨#[]⟩,.string ⟨#[]⟩,.string ⟨#[]⟩,.string ⟨#[]⟩,.string ⟨#[]⟩,.string ⟨#[]⟩,.string ⟨#[]⟩,.string ⟨#[]⟩,.string ⟨#[]⟩,.string ⟨#[]⟩,.string ⟨#[]⟩,.string ⟨#[]⟩])/\Sx.bI prog 317=.arr 22 1/\Sx.bD prog 317=.other/\Sx.bO prog 317=true:=by and_intros<;>kernel_rfl
theorem Zc:Sx.bu prog 319=some none/\Sx.bE prog 319=some 1/\Sx.br prog 319=some (.slice none 0 0)/\Sx.bI prog 319=.sl 1/\Sx.bD prog 319=.sl/\Sx.bO prog 319=true/\Sx.bu prog 325=some none/\Sx.bE prog 325=some 1/\Sx.br prog 325=some (.int .u64 0)/\Sx.bI prog 325=.none/\Sx.bD prog 325=.int .u64/\Sx.bO prog 325=true/\Sx.bu prog 329=some none/\Sx.bE prog 329=some 1/\Sx.br prog 329=some (.slice none 0 0)/\Sx.bI prog 329=.sl 1/\Sx.bD prog 329=.sl/\Sx.bO prog 329=true/\Sx.bu prog 335=some (some 2)/\Sx.bE prog 335=some 2/\Sx.br prog 335=some (.agg #[.int .i64 0,.int .i64 0])/\Sx.bI prog 335=.arr 2 1/\Sx.bD prog 335=.other/\Sx.bO prog 335=true/\Sx.bu prog 358=some none/\Sx.bE prog 358=some 1/\Sx.br prog 358=some (.int .i64 0)/\Sx.bI prog 358=.none/\Sx.bD prog 358=.int .i64/\Sx.bO prog 358=true/\Sx.bu prog 366=some none/\Sx.bE prog 366=some 1/\Sx.br prog 366=some (.int .u64 0)/\Sx.bI prog 366=.none/\Sx.bD prog 366=.int .u64/\Sx.bO prog 366=true/\Sx.br prog 377=some (.int .u64 0)/\Sx.bI prog 377=.none/\Sx.bD prog 377=.int .u64/\Sx.bO prog 377=true/\Sx.bu prog 403=some none/\Sx.bE prog 403=some 1/\Sx.br prog 403=some (.pointer none)/\Sx.bI prog 403=.none/\Sx.bD prog 403=.other/\Sx.bO prog 403=true/\Sx.bu prog 405=some (some 1)/\Sx.bE prog 405=some 1/\Sx.br prog 405=some (.agg #[.string ⟨#[]⟩])/\Sx.bw prog 405 0=some (0,9)/\Sx.fd prog 405=true/\Sx.bI prog 405=.none/\Sx.bD prog 405=.other/\Sx.bO prog 405=true/\Sx.bu prog 408=some (some 32)/\Sx.bE prog 408=some 32/\Sx.br prog 408=some (.agg #[.int .u8 0,.int .u8 0,.int .u8 0,.int .u8 0,.int .u8 0,.int .u8 0,.int .u8 0,.int .u8 0,.int .u8 0,.int .u8 0,.int .u8 0,.int .u8 0,.int .u8 0,.int .u8 0,.int .u8 0,.int .u8 0,.int .u8 0,.int .u8 0,.int .u8 0,.int .u8 0,.int .u8 0,.int .u8 0,.int .u8 0,.int .u8 0,.int .u8 0,.int .u8 0,.int .u8 0,.int .u8 0,.int .u8 0,.int .u8 0,.int .u8 0,.int .u8 0])/\Sx.bI prog 408=.arr 32 1/\Sx.bD prog 408=.other/\Sx.bO prog 408=true:=by and_intros<;>kernel_rfl
theorem Zd:Sx.bu prog 409=some (some 64)/\Sx.bE prog 409=some 64/\Sx.br prog 409=some (.agg #[.int .u8 0,.int .u8 0,.int .u8 0,.int .u8 0,.int .u8 0,.int .u8 0,.int .u8 0,.int .u8 0,.int .u8 0,.int .u8 0,.int .u8 0,.int .u8 0,.int .u8 0,.int .u8 0,.int .u8 0,.int .u8 0,.int .u8 0,.int .u8 0,.int .u8 0,.int .u8 0,.int .u8 0,.int .u8 0,.int .u8 0,.int .u8 0,.int .u8 0,.int .u8 0,.int .u8 0,.int .u8 0,.int .u8 0,.int .u8 0,.int .u8 0,.int .u8 0,.int .u8 0,.int .u8 0,.int .u8 0,.int .u8 0,.int .u8 0,.int .u8 0,.int .u8 0,.int .u8 0,.int .u8 0,.int .u8 0,.int .u8 0,.int .u8 0,.int .u8 0,.int .u8 0,.int .u8 0,.int .u8 0,.int .u8 0,.int .u8 0,.int .u8 0,.int .u8 0,.int .u8 0,.int .u8 0,.int .u8 0,.int .u8 0,.int .u8 0,.int .u8 0,.int .u8 0,.int .u8 0,.int .u8 0,.int .u8 0,.int .u8 0,.int .u8 0])/\Sx.bI prog 409=.arr 64 1/\Sx.bD prog 409=.other/\Sx.bO prog 409=true:=by and_intros<;>kernel_rfl
attribute [go_sem] Y4 Y5 Y6 Y7 Y8 Y9 Za Zb Zc Zd eR sQ pB G6 tu gF mJ lU zV y6 Dk Ma G5 xw rU FR jG qW CF b9 eM gh pp ML G7 uV G2 rS L8 pX zS gv De Dh zT zU L9 Di G3 G4 rT Cg
end Go.Proofs.YtfaclfkpnmcmlaaGreatDoor
namespace Dg
abbrev aF:=Nat->Bool
def jr(c:aF)(j:Nat)(x:Bool):aF:=fun i=>if i=j then x else c i
inductive T where
 |lf (b:Bool)
 |nd (v:Nat) (l h:T)
deriving DecidableEq
abbrev _root_.Zr:=List T
namespace T
def at'(c:aF):T->Bool
 |lf b=>b
 |nd v l h=>if c v then h.at' c else l.at' c
def ok:Nat->T->Prop
 |_,lf _=>True
 |k,nd v l h=>k<=v/\v<24/\l≠h/\ok (v+1) l/\ok (v+1) h
def ok.mono{t:T}{k j:Nat}(a:j<=k)(h:t.ok k):t.ok j:=by
 cases t with
 |lf b=>trivial
 |nd v l r=>exact⟨fJ a h.1,h.2⟩
def qt{t:T}:∀{k:Nat},t.ok k->∀{j:Nat},j<k->∀(c:aF) (x:Bool),t.at' (jr c j x)=t.at' c:=by
 induction t with
 |lf b=>intros;rfl
 |nd v l h d e=>
  intro k a j f c x;have hv:jr c j x v=c v:=by unfold jr;rw[ab];have:=a.1;omega
  simp only[at',hv,d a.2.2.2.1 (show j<v+1 by have:=a.1;omega),e a.2.2.2.2 (show j<v+1 by have:=a.1;omega)]
variable{h:T}{v:Nat}
def uY{l:T}{k:Nat}(a:(nd v l h).ok k)(c:aF):(nd v l h).at' (jr c v false)=l.at' c:=by simp only[at',jr,cu,dO,dG];exact qt a.2.2.2.1 (eF v) c false
def uX{l:T}{k:Nat}(a:(nd v l h).ok k)(c:aF):(nd v l h).at' (jr c v true)=h.at' c:=by simp only[at',jr,cu];exact qt a.2.2.2.2 (eF v) c true
def sz:T->Nat
 |lf _=>1
 |nd _ l h=>l.sz+h.sz+1
def OM:∀(n:Nat) (a b:T) (k j:Nat),a.sz+b.sz<=n->a.ok k->b.ok j->(∀c,a.at' c=b.at' c)->a=b:=by
 intro n
 induction n with
 |zero=>intro a b k j o;cases a<;>simp[sz]at o
 |succ n e=>
  intro a b k j o ha hb d;cases a with
  |lf x=>
   cases b with
   |lf y=>have:=d (fun _=>false);simp only[at']at this;rw[this]
   |nd v l h=>exfalso;simp only[sz]at o;have e1:lf x=l:=e (lf x) l 0 _ (by simp only[sz];omega) trivial hb.2.2.2.1 (fun c=>by rw[<-uY hb c,<-d];rfl);have e2:lf x=h:=e (lf x) h 0 _ (by simp only[sz];omega) trivial hb.2.2.2.2 (fun c=>by rw[<-uX hb c,<-d];rfl);exact hb.2.2.1 (e1.symm.trans e2)
  |nd v l h=>
   cases b with
   |lf y=>exfalso;simp only[sz]at o;have e1:l=lf y:=e l (lf y) _ 0 (by simp only[sz];omega) ha.2.2.2.1 trivial (fun c=>by rw[<-uY ha c,d];rfl);have e2:h=lf y:=e h (lf y) _ 0 (by simp only[sz];omega) ha.2.2.2.2 trivial (fun c=>by rw[<-uX ha c,d];rfl);exact ha.2.2.1 (e1.trans e2.symm)
   |nd i l' m=>
    simp only[sz]at o;rcases s6 v i with hv|hv|hv
    .exfalso;have f:(nd i l' m).ok (v+1):=⟨hv,hb.2⟩;have e1:l=nd i l' m:=e l _ _ _ (by simp only[sz];omega) ha.2.2.2.1 f (fun c=>by rw[<-uY ha c,d,qt f (eF v)]);have e2:h=nd i l' m:=e h _ _ _ (by simp only[sz];omega) ha.2.2.2.2 f (fun c=>by rw[<-uX ha c,d,qt f (eF v)]);exact ha.2.2.1 (e1.trans e2.symm)
    .subst hv;have e1:l=l':=e l l' _ _ O ha.2.2.2.1 hb.2.2.2.1 (fun c=>by rw[<-uY ha c,d,uY hb c]);have e2:h=m:=e h m _ _ O ha.2.2.2.2 hb.2.2.2.2 (fun c=>by rw[<-uX ha c,d,uX hb c]);rw[e1,e2]
    .exfalso;have g:(nd v l h).ok (i+1):=⟨hv,ha.2⟩;have e1:nd v l h=l':=e _ l' _ _ (by simp only[sz];omega) g hb.2.2.2.1 (fun c=>by rw[<-uY hb c,<-d,qt g (eF i)]);have e2:nd v l h=m:=e _ m _ _ (by simp only[sz];omega) g hb.2.2.2.2 (fun c=>by rw[<-uX hb c,<-d,qt g (eF i)]);exact hb.2.2.1 (e1.symm.trans e2)
variable{a b:T}
theorem ext{k j:Nat}(ha:a.ok k)(hb:b.ok j)(h:∀c,a.at' c=b.at' c):a=b:=OM _ a b k j (aR _) ha hb h
def mk(v:Nat)(l h:T):T:=if l=h then l else nd v l h
theorem mk_ok{k:Nat}{l:T}(b:k<=v)(hv:v<24)(a:l.ok (v+1))(c:h.ok (v+1)):(mk v l h).ok k:=by
 unfold mk;split
 .exact a.mono O
 .exact⟨b,hv,by assumption,a,c⟩
theorem mk_at(v:Nat)(l h:T)(c:aF):(mk v l h).at' c=if c v then h.at' c else l.at' c:=by
 unfold mk;split
 .subst_vars;simp
 .rfl
def var:T->Nat
 |lf _=>24
 |nd v _ _=>v
def lo(i:Nat):T->T
 |nd v l h=>if v=i then l else nd v l h
 |lf b=>lf b
def hi(i:Nat):T->T
 |nd v l h=>if v=i then h else nd v l h
 |lf b=>lf b
theorem var_ge{t:T}{k:Nat}(h:t.ok k)(a:k<=24):k<=t.var:=by
 cases t with
 |lf b=>exact a
 |nd v l r=>exact h.1
theorem var_le{t:T}{k:Nat}(h:t.ok k):t.var<=24:=by
 cases t with
 |lf b=>exact aR _
 |nd v l r=>exact lM h.2.1
theorem lo_ok{t:T}{k i:Nat}(h:t.ok k)(hi:i<=t.var):(lo i t).ok (i+1):=by
 cases t with
 |lf b=>trivial
 |nd v l r=>
  simp only[lo,var]at *;split
  .subst_vars;exact h.2.2.2.1
  .exact⟨O,h.2⟩
theorem hi_ok{t:T}{k i:Nat}(h:t.ok k)(a:i<=t.var):(hi i t).ok (i+1):=by
 cases t with
 |lf b=>trivial
 |nd v l r=>
  simp only[hi,var]at *;split
  .subst_vars;exact h.2.2.2.2
  .exact⟨O,h.2⟩
def zY(i:Nat)(t:T)(c:aF):t.at' c=if c i then (hi i t).at' c else (lo i t).at' c:=by
 cases t with
 |lf b=>simp[lo,hi,at']
 |nd v l r=>
  simp only[lo,hi];by_cases e:v=i
  .subst e;simp[at']
  .simp[e]
def op(f:Bool->Bool->Bool):Nat->T->T->T
 |0,a,b=>lf (f (a.at' fun _=>false) (b.at' fun _=>false))
 |n+1,a,b=>match a,b with
  |lf x,lf y=>lf (f x y)
  |a,b=>mk (min a.var b.var) (op f n (lo (min a.var b.var) a) (lo (min a.var b.var) b)) (op f n (hi (min a.var b.var) a) (hi (min a.var b.var) b))
theorem is_lf{t:T}(h:t.ok 24):∃b,t=lf b:=by
 cases t with
 |lf b=>exact⟨b,rfl⟩
 |nd v l r=>exact absurd h.1 (by have:=h.2.1;omega)
def vS(f:Bool->Bool->Bool):∀(n k:Nat) (a b:T),24<=n+k->k<=24->a.ok k->b.ok k->(op f n a b).ok k/\∀c,(op f n a b).at' c=f (a.at' c) (b.at' c):=by
 intro n
 induction n with
 |zero=>intro k a b s h ha hb;have:k=24:=O;subst this;obtain⟨x,rfl⟩:=is_lf ha;obtain⟨y,rfl⟩:=is_lf hb;exact⟨trivial,fun c=>rfl⟩
 |succ n j=>
  intro k a b s h ha hb;have d:∀i,i=min a.var b.var->i<24->(mk i (op f n (lo i a) (lo i b)) (op f n (hi i a) (hi i b))).ok k/\∀c,(mk i (op f n (lo i a) (lo i b)) (op f n (hi i a) (hi i b))).at' c=f (a.at' c) (b.at' c):=by intro i t g;have h1:=var_ge ha h;have h2:=var_ge hb h;obtain⟨q,p⟩:=j (i+1) (lo i a) (lo i b) O O (lo_ok ha O) (lo_ok hb O);obtain⟨o,m⟩:=j (i+1) (hi i a) (hi i b) O O (hi_ok ha O) (hi_ok hb O);refine⟨mk_ok O g q o,fun c=>?_⟩;rw[mk_at,p,m,zY i a c,zY i b c];split<;>rfl
  unfold op;split
  .exact⟨trivial,fun c=>rfl⟩
  .rename_i e;refine d _ rfl ?_;cases a with
   |nd v l r=>have:=ha.2.1;simp only[var];omega
   |lf x=>
    cases b with
    |nd v l r=>have:=hb.2.1;simp only[var];omega
    |lf y=>exact(e x y rfl rfl).elim
def and(a b:T):T:=op (· && ·) 24 a b
def or(a b:T):T:=op (· || ·) 24 a b
def not:T->T
 |lf b=>lf (!b)
 |nd v l h=>nd v l.not h.not
theorem and_ok(ha:a.ok 0)(hb:b.ok 0):(and a b).ok 0:=(vS _ 24 0 a b O O ha hb).1
theorem or_ok(ha:a.ok 0)(hb:b.ok 0):(or a b).ok 0:=(vS _ 24 0 a b O O ha hb).1
theorem and_at(ha:a.ok 0)(hb:b.ok 0)(c:aF):(and a b).at' c=(a.at' c && b.at' c):=(vS _ 24 0 a b O O ha hb).2 c
theorem or_at(ha:a.ok 0)(hb:b.ok 0)(c:aF):(or a b).at' c=(a.at' c || b.at' c):=(vS _ 24 0 a b O O ha hb).2 c
theorem not_not(t:T):t.not.not=t:=by
 induction t with
 |lf b=>simp[not]
 |nd v l h a c=>simp[not,a,c]
theorem not_ok{t:T}:∀{k:Nat},t.ok k->t.not.ok k:=by
 induction t with
 |lf b=>intros;trivial
 |nd v l h c d=>intro k a;refine⟨a.1,a.2.1,fun e=>a.2.2.1 ?_,c a.2.2.2.1,d a.2.2.2.2⟩;rw[<-not_not l,e,not_not]
theorem not_at(t:T)(c:aF):t.not.at' c=!t.at' c:=by
 induction t with
 |lf b=>rfl
 |nd v l h a d=>simp only[not,at',a,d];split<;>rfl
def PD{t:T}{k:Nat}(h:t.ok k):t=lf false<->∀c,t.at' c=false:=
 ⟨fun e c=>by rw[e];rfl,fun a=>ext h (show (lf false).ok 0 from trivial) fun c=>by rw[a c];rfl⟩
theorem some_of_ne{t:T}{k:Nat}(h:t.ok k)(b:t≠lf false):∃c,t.at' c=true:=by
 apply Classical.byContradiction;intro a;refine b ((PD h).2 fun c=>?_);cases d:t.at' c with
 |false=>rfl
 |true=>exact absurd ⟨c,d⟩ a
def vis:T->Zr->Zr
 |lf _,Z=>Z
 |nd v l h,Z=>if nd v l h∈Z then Z else h.vis (l.vis Z)++[nd v l h]
def plc(Z:Zr):T->Nat
 |lf b=>if b then 1 else 0
 |nd v l h=>Z.idxOf (nd v l h)+2
def isIn(Z:Zr):T->Prop
 |lf _=>True
 |nd v l h=>nd v l h∈Z
def Seq(Z:Zr):Prop:=Z.Nodup/\∀(i:Nat) (t:T),Z[i]?=some t->∃v l h,t=nd v l h/\t.ok 0/\isIn (Z.take i) l/\isIn (Z.take i) h
variable{Z us:Zr}
def isIn.mono{t:T}(h:isIn Z t)(hs:∀x∈Z,x∈us):isIn us t:=by
 cases t with
 |lf b=>trivial
 |nd v l r=>exact hs _ h
def isIn.app{t:T}(h:isIn Z t):isIn (Z++us) t:=h.mono fun x a=>gm _ a
theorem plc_app{t:T}(h:isIn Z t):plc (Z++us) t=plc Z t:=by
 cases t with
 |lf b=>rfl
 |nd v l r=>have hm:nd v l r∈Z:=h;simp only[plc];rw[List.idxOf_append,ah hm]
theorem plc_inj(ha:isIn Z a)(hb:isIn Z b)(h:plc Z a=plc Z b):a=b:=by
 cases a with
 |lf x=>cases b with
  |lf y=>cases x<;>cases y<;>simp[plc]at h<;>rfl
  |nd v l r=>simp only[plc]at h;split at h<;>omega
 |nd v l r=>cases b with
  |lf y=>simp only[plc]at h;split at h<;>omega
  |nd c l' d=>
   have h1:nd v l r∈Z:=ha;have h2:nd c l' d∈Z:=hb;simp only[plc]at h;have e:Z.idxOf (nd v l r)=Z.idxOf (nd c l' d):=O;have g1:Z[Z.idxOf (nd v l r)]?=some (nd v l r):=by rw[aY (ux h1)];simp
   have g2:Z[Z.idxOf (nd c l' d)]?=some (nd c l' d):=by rw[aY (ux h2)];simp
   rw[e,g2]at g1;exact(cX g1).symm
theorem plc_get{l r:T}(h:nd v l r∈Z):Z[plc Z (nd v l r)-2]?=some (nd v l r):=by simp only[plc,uz];rw[aY (ux h)];simp
theorem plc_lt{t:T}(h:isIn Z t):plc Z t<Z.length+2:=by
 cases t with
 |lf b=>simp only[plc];split<;>omega
 |nd v l r=>have:=ux (show nd v l r∈Z from h);simp only[plc];omega
def Seq.nil:Seq []:=⟨List.nodup_nil,fun i t h=>by simp at h⟩
def Seq.snoc{l:T}(s:Seq Z)(g:(nd v l h).ok 0)(o:isIn Z l)(p:isIn Z h)(k:nd v l h∉Z):Seq (Z++[nd v l h]):=by
 refine⟨?_,fun i t hi=>?_⟩
 .rw[List.nodup_append];refine⟨s.1,by simp,fun a ha b hb=>?_⟩;simp at hb;subst hb;intro e;subst e;exact k ha
 .rcases s6 i Z.length with f|rfl|m
  .rw[wK f]at hi;obtain⟨j,l',n,a,b,c,d⟩:=s.2 i t hi;refine⟨j,l',n,a,b,?_,?_⟩<;>rw[CJ (lM f)]<;>assumption
  .rw[zr (aR _)]at hi;simp at hi;subst hi;refine⟨v,l,h,rfl,g,?_,?_⟩<;>rw[CJ (aR _),dK]<;>assumption
  .rw[fp (by simp;omega)]at hi;cases hi
theorem vis_spec(t:T):∀{k:Nat},t.ok k->k<=24->∀(Z:Zr),Seq Z->Seq (t.vis Z)/\isIn (t.vis Z) t/\(∃us,t.vis Z=Z++us/\us.length+1<=2^(24-k)/\∀x∈us,x.sz<=t.sz):=by
 induction t with
 |lf b=>intro k c j Z s;exact⟨s,trivial,[],by simp[vis],by simpa using Nat.one_le_two_pow,fun x a=>absurd a dJ⟩
 |nd v l h g i=>
  intro k c j Z s;unfold vis;split
  .rename_i hm;exact⟨s,hm,[],by simp,by simpa using Nat.one_le_two_pow,fun x a=>absurd a dJ⟩
  .rename_i hm;obtain⟨o,p,f,e1,r,m⟩:=g c.2.2.2.1 (by have:=c.2.1;omega) Z s;obtain⟨n,i2,e,e2,q,z2⟩:=i c.2.2.2.2 (by have:=c.2.1;omega) _ o;have d:nd v l h∉h.vis (l.vis Z):=by
    rw[e2,e1];simp only[jR];rintro((a|a)|a)
    .exact hm a
    .have:=m _ a;simp only[sz]at this;omega
    .have:=z2 _ a;simp only[sz]at this;omega
   refine⟨n.snoc ⟨aE _,c.2⟩ ?_ i2 d,?_,f++e++[nd v l h],?_,?_,?_⟩
   .rw[e2];exact p.app
   .show nd v l h∈_;simp
   .rw[e2,e1];simp
   .have hp:2^(24-(v+1))+2^(24-(v+1))<=2^(24-k):=by
     have h1:=c.1;have h2:=c.2.1;have:2^(24-(v+1))+2^(24-(v+1))=2^(24-v):=by rw[show 24-v=(24-(v+1))+1 by omega,uA];omega
     rw[this];exact wS O O
    simp;omega
   .intro x a;simp only[jR,List.mem_singleton]at a;rcases a with (a|a)|rfl
    .have:=m _ a;simp only[sz];omega
    .have:=z2 _ a;simp only[sz];omega
    .exact aR _
def subs(t:T):Zr:=t.vis []
theorem subs_seq{t:T}(h:t.ok 0):Seq (subs t):=(vis_spec t h O [] Seq.nil).1
theorem subs_in{t:T}(h:t.ok 0):isIn (subs t) t:=(vis_spec t h O [] Seq.nil).2.1
theorem subs_len{t:T}(h:t.ok 0):(subs t).length<2^24:=by obtain⟨us,e,n,_⟩:=(vis_spec t h O [] Seq.nil).2.2;unfold subs;rw[e];simp only[aQ];omega
def dec(Z:Zr):T->Nat×Nat×Nat
 |lf b=>(24,if b then 1 else 0,if b then 1 else 0)
 |nd v l h=>(v,plc Z l,plc Z h)
theorem dec_app(s:Seq Z){t:T}(h:isIn Z t):dec (Z++us) t=dec Z t:=by
 cases t with
 |lf b=>rfl
 |nd v l r=>
  have hm:nd v l r∈Z:=h;obtain⟨i,hi⟩:=List.mem_iff_getElem?.1 hm;obtain⟨d,l',f,e,_,c,hr⟩:=s.2 i _ hi;cases e
  have sub:∀x∈Z.take i,x∈Z:=fun x a=>lL a;simp only[dec,plc_app (c.mono sub),plc_app (hr.mono sub)]
def Seq.kids(s:Seq Z){l:T}(hm:nd v l h∈Z):isIn Z l/\isIn Z h:=by
 obtain⟨i,hi⟩:=List.mem_iff_getElem?.1 hm;obtain⟨c,l',d,e,_,b,hr⟩:=s.2 i _ hi;cases e
 have sub:∀x∈Z.take i,x∈Z:=fun x a=>lL a;exact⟨b.mono sub,hr.mono sub⟩
def Seq.okk(s:Seq Z){t:T}(h:isIn Z t):t.ok 0:=by
 cases t with
 |lf b=>trivial
 |nd v l r=>obtain⟨i,hi⟩:=List.mem_iff_getElem?.1 (show nd v l r∈Z from h);exact(s.2 i _ hi).choose_spec.choose_spec.choose_spec.2.1
end T
def jh(S:aF->Bool):Nat->aF->Nat
 |0,c=>(S c).toNat
 |n+1,c=>jh S n (jr c n false)+jh S n (jr c n true)
def HG{A B S:aF->Bool}(h:∀c,(S c).toNat=(A c).toNat+(B c).toNat):∀(n:Nat) (c:aF),jh S n c=jh A n c+jh B n c
 |0,c=>h c
 |n+1,c=>by simp only[jh,HG h n];omega
def DF{A B:aF->Bool}(h:∀c,A c=true->B c=true):∀(n:Nat) (c:aF),jh A n c<=jh B n c
 |0,c=>by
  simp only[jh];cases ha:A c
  .simp
  .rw[h c ha];exact aR _
 |n+1,c=>by simp only[jh];have:=DF h n (jr c n false);have:=DF h n (jr c n true);omega
def DE(S:aF->Bool):∀(n:Nat) (c:aF),jh S n c<=2^n
 |0,c=>by simp only[jh];cases S c<;>simp
 |n+1,c=>by simp only[jh];have:=DE S n (jr c n false);have:=DE S n (jr c n true);rw[uA];omega
def HH{S:aF->Bool}{c0:aF}(hs:S c0=true):∀(n:Nat) (c:aF),(∀i,n<=i->c i=c0 i)->1<=jh S n c
 |0,c,h=>by have:c=c0:=funext fun i=>h i (aE i);subst this;simp[jh,hs]
 |n+1,c,h=>by
  simp only[jh];have:=HH hs n (jr c n (c0 n)) (fun i hi=>by
   unfold jr;split
   .subst_vars;rfl
   .exact h i O)
  cases a:c0 n<;>rw[a]at this<;>omega
def T.card(t:T):Nat:=jh t.at' 24 (fun _=>false)
def T.card_le(t:T):t.card<=2^24:=DE _ _ _
def T.at_cut{t:T}:∀{k:Nat},t.ok k->∀{c d:aF},(∀i,i<24->c i=d i)->t.at' c=t.at' d:=by
 induction t with
 |lf b=>intros;rfl
 |nd v l h e f=>intro k g c d a;simp only[T.at',a v g.2.1,e g.2.2.2.1 a,f g.2.2.2.2 a]
def T.card_pos{t:T}(h:t.ok 0)(a:t≠.lf false):1<=t.card:=by
 obtain⟨c,b⟩:=T.some_of_ne h a;have:t.at' (fun i=>if i<24 then c i else false)=true:=by rw[T.at_cut h (d:=c) (fun i hi=>by simp[hi])];exact b
 exact HH this 24 _ fun i hi=>by simp[Nat.not_lt.2 hi]
def T.card_add{a b s:T}(h:∀c,(s.at' c).toNat=(a.at' c).toNat+(b.at' c).toNat):s.card=a.card+b.card:=HG h _ _
def T.card_mono{a b:T}(h:∀c,a.at' c=true->b.at' c=true):a.card<=b.card:=DF h _ _
end Dg
namespace Go.Proofs.YtfaclfkpnmcmlaaGreatDoor
open Go Go.Sx Dg
def E(n:Nat):Value:=.int .i64 n
abbrev _root_.Zu:=@aT prog
abbrev _root_.Zv:=@bh prog
def dV(d:Nat×Nat×Nat):Value:=.agg #[E d.1,E d.2.1,E d.2.2]
def ii(d:Nat×Nat×Nat):Zo:=[E d.1,E d.2.1,E d.2.2]
def ko(Z:Zr):Zo:=Z.flatMap fun t=>ii (T.dec Z t)
def pt(b:Nat):Value:=.pointer (some ⟨b,0,none⟩)
def Ie{f:T->Zo}{n:Nat}(hf:∀t,(f t).length=n):∀(l:Zr),(l.flatMap f).length=l.length*n
 | []=>by simp
 |t::l=>by simp only[pC,aH,hf,Ie hf l,bl];rw[ir];omega
def H9{f:T->Zo}{n:Nat}(hf:∀t,(f t).length=n):∀(l:Zr) (i:Nat) (t:T),l[i]?=some t->((l.flatMap f).drop (i*n)).take n=f t
 | [],i,t,h=>by simp at h
 |x::l,0,t,h=>by simp only[zt,bf]at h;subst h;simp only[pC,Nat.zero_mul,io];exact List.take_left' (hf x)
 |x::l,i+1,t,h=>by simp only[wM]at h;rw[pC,ir,rf,Nat.add_comm,<-lI,List.drop_left' (hf x)];exact H9 hf l i t h
theorem wB(Z:Zr):(ko Z).length=Z.length*3:=Ie (f:=fun t=>ii (T.dec Z t)) (fun _=>rfl) Z
variable{i:Nat}{Z:Zr}
def wA{t:T}(h:Z[i]?=some t):((ko Z).drop (i*3)).take 3=ii (T.dec Z t):=H9 (f:=fun t=>ii (T.dec Z t)) (fun _=>rfl) Z i t h
variable{h:T}{v:Nat}
def Mt(s:T.Seq Z){l:T}(a:T.isIn Z l)(b:T.isIn Z h):ko (Z++[.nd v l h])=ko Z++ii (v,T.plc Z l,T.plc Z h):=by
 unfold ko;rw[zo];congr 1
 .rw[List.flatMap_def,List.flatMap_def];congr 1;refine nu fun t ht=>?_;obtain⟨i,hi⟩:=List.mem_iff_getElem?.1 ht;obtain⟨c,l',d,e,_⟩:=s.2 i t hi;rw[T.dec_app s (show T.isIn Z t by subst e;exact ht)]
 .simp[ii,T.dec,T.plc_app a,T.plc_app b]
def x0(ms:Zr)(y u:Value):Prop:=∃t∈ms,y=dV (T.dec ms t)/\u=E (T.plc ms t)
def pJ(mb:Nat)(ms:Zr)(a:Zt):Prop:=∃A sv r Z,a=[A,sg mb (.cells #[sv,.map (some r)] 300 (0,0)),Z]/\dH A 181 3 sv ms.length (ko ms)/\jD prog Z r 181 (x0 ms)/\T.Seq ms
def FD:1<prog.types.size:=lN ae
def Cq:prog.underlying 181=some (.struct #[⟨ "Var",3,0,false,"","",0⟩,⟨ "Low",3,1,false,"","",8⟩,⟨ "High",3,2,false,"","",16⟩]):=ae
def T5:prog.keyTypeAt 3 181=true:=ae
def XW:prog.tiled 3 181=true:=ae
def CN:Maps.Keyed prog 181:=by refine Maps.Keyed.of_law (deep_law (m:=3) O T5 XW ?_);rw[Cq]
def TP:prog.keyType 181=true:=ae
def OT:prog.cellsOf 181=3:=ae
def Dy:prog.cellsOf 3=1:=ae
variable{n:Nat}
def wI(h:n<2^62):(Lit.int .i64 n).wf=true:=by
 have h1:IntKind.min .i64=-9223372036854775808:=by decide
 have h2:IntKind.max .i64=9223372036854775807:=by decide
 simp only[Lit.wf,h1,h2,cZ,dE];omega
def TT {P:Program} {k t:TypeId} {a b c:Nat} (e:P.underlying k=some (.struct #[⟨ "Var",t,0,false,"","",0⟩,⟨ "Low",t,1,false,"","",8⟩,⟨ "High",t,2,false,"","",16⟩])) (h1:P.keyType k=true) (h2:P.cellsOf k=3) (h3:P.cellsOf t=1) (h4:P.underlying t=some (.int .i64)) (h5:1<P.types.size)
  (ha:a<2^62) (hb:b<2^62) (f:c<2^62):fq P k (dV (a,b,c)):=by
 obtain⟨n,d⟩:∃n,P.types.size=n+1:=⟨P.types.size-1,O⟩;unfold fq keyOf;rw[h1];simp[e,Value.formed,dV,d,Program.keyLits,h2,h3,h4,Value.cells,wI ha,wI hb,wI f,E]
def py:prog.underlying 3=some (.int .i64):=ae
def TL{a b c:Nat}(ha:a<2^62)(hb:b<2^62)(d:c<2^62):fq prog 181 (dV (a,b,c)):=TT (t:=3) Cq TP OT Dy py FD ha hb d
theorem mixed:prog.follows .mixedOrders=true:=ae
def AB:ay prog 125:=⟨_,func125,rfl,rfl⟩
def EM{a b:Nat}(h:E a=E b):a=b:=by simp[E]at h;omega
def Po{a b:Nat×Nat×Nat}(h:dV a=dV b):a=b:=by obtain⟨f,a2,a3⟩:=a;obtain⟨e,d,c⟩:=b;simp[dV,E]at h;obtain⟨h1,h2,h3⟩:=h;rw[Int.ofNat.inj h1,Int.ofNat.inj h2,Int.ofNat.inj h3]
variable{u:Value}{ms:Zr}
def EP(s:T.Seq ms){lo hi:T}(e:T.isIn ms lo)(g:T.isIn ms hi):x0 ms (dV (i,T.plc ms lo,T.plc ms hi)) u<->T.nd i lo hi∈ms/\u=E (T.plc ms (.nd i lo hi)):=by
 constructor
 .rintro⟨t,ht,e1,e2⟩;obtain⟨j,f⟩:=List.mem_iff_getElem?.1 ht;obtain⟨v,l,h,rfl,_⟩:=s.2 j t f;have:=Po e1;simp only[T.dec,gN]at this;obtain⟨rfl,b,c⟩:=this;have d:=s.kids ht;rw[T.plc_inj e d.1 b,T.plc_inj g d.2 c];exact⟨ht,e2⟩
 .rintro⟨a,b⟩;exact⟨_,a,rfl,b⟩
def T4(s:T.Seq ms){lo hi:T}(c:T.isIn ms lo)(d:T.isIn ms hi)(b:T.nd i lo hi∉ms)(y u:Value):
  x0 (ms++[.nd i lo hi]) y u<->(y=dV (i,T.plc ms lo,T.plc ms hi)/\u=E (ms.length+2))\/(y≠dV (i,T.plc ms lo,T.plc ms hi)/\x0 ms y u):=by
 have a:∀t∈ms,T.isIn ms t:=fun t ht=>by obtain⟨j,f⟩:=List.mem_iff_getElem?.1 ht;obtain⟨v,l,h,rfl,_⟩:=s.2 j t f;exact ht
 have new:T.dec (ms++[.nd i lo hi]) (.nd i lo hi)=(i,T.plc ms lo,T.plc ms hi)/\T.plc (ms++[.nd i lo hi]) (.nd i lo hi)=ms.length+2:=by refine⟨by simp[T.dec,T.plc_app c,T.plc_app d],?_⟩;simp only[T.plc];rw[List.idxOf_append,ab b];simp
 unfold x0;constructor
 .rintro⟨t,ht,e1,e2⟩;rcases List.mem_append.1 ht with h|h
  .rw[T.dec_app s (a t h)]at e1;rw[T.plc_app (a t h)]at e2;refine .inr ⟨fun e=>?_,t,h,e1,e2⟩;exact b ((EP s c d (u:=u)).1 ⟨t,h,e▸e1,e2⟩).1
  .simp at h;subst h;rw[new.1]at e1;rw[new.2]at e2;exact .inl ⟨e1,e2⟩
 .rintro(⟨e1,e2⟩|⟨_,t,h,e1,e2⟩)
  .exact⟨_,gD _ (.head _),by rw[new.1];exact e1,by rw[new.2];exact e2⟩
  .exact⟨t,gm _ h,by rw[T.dec_app s (a t h)];exact e1,by rw[T.plc_app (a t h)];exact e2⟩
theorem wrap64(h:n<2^62):IntKind.i64.wrap (n:Int)=(n:Int):=by have h1:(n:Int) % (2^64:Int)=n:=uw O O;simp only[IntKind.wrap,show IntKind.bits .i64=64 from rfl,show IntKind.signed .i64=true from rfl,h1];rw[ab];simp;omega
theorem Z7(i:Nat)(h:i+1<2^62:=by omega):IntKind.i64.wrap ((i:Int)+1)=((i+1:Nat):Int):=by rw[<-wrap64 (n:=i+1) h];congr 1
variable{I:PH}{mb:Nat}
def Bm{ps:Zt}(h:pJ mb ms ps){lo hi:T}(q:i<24)(z:lo.ok (i+1))(B:hi.ok (i+1))(f:T.isIn ms lo)(g:T.isIn ms hi)(S:ms.length<2^30):
  Zu 125 #[pt mb,E i,E (T.plc ms lo),E (T.plc ms hi)] I ps fun v I2 W=>∃us,pJ mb (ms++us) W/\us.length<=1/\T.isIn (ms++us) (T.mk i lo hi)/\v=E (T.plc (ms++us) (T.mk i lo hi)):=by
 intro hd;obtain⟨A,sv,r,Z,rfl,Q,x,sq⟩:=h;have pl:=T.plc_lt f;have ph:=T.plc_lt g;refine fj func125 rfl (by simp[ntmps125]) fun w0=>?_;simp only[ntmps125,pt,E];by_cases e:T.plc ms lo=T.plc ms hi
 .have e':=T.plc_inj f g e;subst e';have k:((T.plc ms lo:Int) == (T.plc ms lo:Int))=true:=ao;refine dB k ?_;refine az rfl hd (r:=[_]) rfl (aD _) ⟨[],?_,by simp,?_,?_⟩
  .rw[Y];exact⟨A,sv,r,Z,rfl,Q,x,sq⟩
  .rw[Y];simp only[T.mk,cu];exact f
  .simp[T.mk,dY,E]
 .have c:¬lo=hi:=fun e2=>e (by rw[e2]);have k:((T.plc ms lo:Int) == (T.plc ms hi:Int))=false:=by simp;omega
  refine dB k ?_;refine iH mixed [0,1,2,3,4,5,6,7,8,9,10] [3,5] [] rfl rfl ?_;refine eo ?_;refine Zn (l:=[_]) rfl (cellsU hd (.tail _ (.tail _ (.head _))) (dz ao rfl)) (.inr ⟨Dh,rfl⟩) ?_;refine eo ?_;have t:=x.atU hd ao;have d:fq prog 181 (dV (i,T.plc ms lo,T.plc ms hi)):=TL O O O;by_cases a:T.nd i lo hi∈ms
  .refine zJ CN EJ pB (key:=dV (i,T.plc ms lo,T.plc ms hi)) rfl rfl rfl rfl rfl t d (E (T.plc ms (.nd i lo hi))) true (.inl ⟨rfl,(EP sq f g).2 ⟨a,rfl⟩⟩) ?_;refine eo ?_;apply aN;refine ai ?_;refine az rfl hd (r:=[_]) rfl (aD _) ⟨[],?_,by simp,?_,?_⟩
   .rw[Y];exact⟨A,sv,r,Z,rfl,Q,x,sq⟩
   .rw[Y];simp only[T.mk,ab c];exact a
   .rw[Y];simp only[T.mk,ab c];rfl
  .refine zJ CN EJ pB (key:=dV (i,T.plc ms lo,T.plc ms hi)) rfl rfl rfl rfl rfl t d (E 0) false (.inr ⟨rfl,rfl,fun u hu=>a ((EP sq f g).1 hu).1⟩) ?_;refine eo ?_;apply aN;refine ai ?_;refine iH mixed [0,1,2,3,4,5,6,7,8,9,10] [4] [6] rfl rfl ?_;refine eo ?_;refine Zn (l:=[_]) rfl (cellsU hd (.tail _ (.tail _ (.head _))) (dz ao rfl)) (.inr ⟨rU,rfl⟩) ?_;refine eo ?_;refine iu hd BX rfl rfl rfl rfl rfl af fun b I2 s p hb=>?_;refine xi (m:=1) s BX Q rfl rfl rfl rfl rfl rfl (cellsU s (.head _) (bA (l:=ii (i,T.plc ms lo,T.plc ms hi)) hb (by simp[ii,ax,Value.cells]) (by simp[ii,ax,Value.cells,E]))) rfl rfl O (by unfold maxLen;omega) fun v' V R N o w=>?_;obtain⟨a3,c3,rfl⟩:=w.slice;refine eo ?_;refine i8 N [1,0,2] fun L=>?_;refine cY L rfl rfl rfl rfl rfl rfl FR ao fun K=>?_;apply aN;have j:Dj [V,sg mb (.cells #[.slice a3 (ms.length+1) c3,.map (some r)] 300 (0,0)),R,Z]:=K;show RC _ _ _ (U [V,sg mb (.cells #[.slice a3 (ms.length+1) c3,.map (some r)] 300 (0,0)),R,Z]);refine ai ?_;refine Zm (l:=[_]) rfl (cellsU j (.tail _ (.head _)) (dz ao rfl)) (.inr ⟨rU,rfl⟩) ?_;have X:IntKind.i64.wrap (((ms.length+1:Nat):Int)+1)=((ms.length+2:Nat):Int):=by have:=wrap64 (n:=ms.length+2) O;rw[<-this];congr 1
   refine dB X ?_;refine iH mixed [0,1,2,3,4,5,6] [3] [] rfl rfl ?_;refine eo ?_;refine Zn (l:=[_]) rfl (cellsU j (.tail _ (.head _)) (dz ao rfl)) (.inr ⟨Dh,rfl⟩) ?_;refine eo ?_;refine i8 j [2,0,1] fun J=>?_;refine CW (by exact CN) (by exact EJ) (key:=dV (i,T.plc ms lo,T.plc ms hi)) (v:=E (ms.length+2)) J rfl rfl rfl (.inl rfl) rfl rfl rfl x d fun M2 H P=>?_;apply aN;refine ai ?_;refine ak H [2,1,0] fun G=>?_;have F:(T.nd i lo hi).ok 0:=⟨aE _,q,c,z,B⟩;have C:T.plc (ms++[.nd i lo hi]) (.nd i lo hi)=ms.length+2:=by simp only[T.plc];rw[List.idxOf_append,ab a];simp
   refine az rfl G (r:=[_]) rfl (D p o) ⟨[.nd i lo hi],⟨R,.slice a3 (ms.length+1) c3,r,M2,rfl,w.xs ao (Mt sq f g).symm,P.congr fun y u=>T4 sq f g a y u,sq.snoc F f g a⟩,by simp,?_,?_⟩
   .simp only[T.mk,ab c];show T.nd i lo hi∈_;simp
   .simp only[T.mk,ab c,C];rfl
def E3(I:PH):Zu 124 #[] I [] fun v f d=>∃mb,v=pt mb/\pJ mb [] d:=by intro hd;refine fj func124 rfl (by simp[ntmps124]) fun w0=>?_;simp only[ntmps124];refine ai ?_;refine CT 181 hd rfl rfl fun r Z c e=>?_;refine ai ?_;refine jW 3 c rfl fun mb b=>?_;refine de b fun a=>?_;refine az rfl a (r:=[_]) rfl (aD _) ⟨mb,rfl,PH.no,.slice none 0 0,r,Z,rfl,dH.nil _ _,e.congr fun y u=>⟨fun⟨t,h,_⟩=>(by simp at h),fun h=>h.elim⟩,T.Seq.nil⟩
def kA(I:PH)(sl:Value)(Z:Zr):Prop:=∃a c,sl=.slice a Z.length c/\(Z=[]\/∃b,a=some ⟨b,0,none⟩/\a8 I b 0 (ko Z))
variable{J:PH}
def kA.le{sl:Value}(h:kA I sl Z)(d:I.le J):kA J sl Z:=by obtain⟨a,c,e,h⟩:=h;exact⟨a,c,e,h.imp id fun⟨b,e1,e2⟩=>⟨b,e1,e2.le d⟩⟩
def bW(I:PH)(v:Value)(t:T):Prop:=t.ok 0/\∃sl,v=.agg #[sl,E (T.plc (T.subs t) t)]/\kA I sl (T.subs t)
def bW.le{v:Value}{t:T}(h:bW I v t)(b:I.le J):bW J v t:=by obtain⟨a,sl,e,h⟩:=h;exact⟨a,sl,e,h.le b⟩
def Hi{H:PH}{sl rv:Value}{t:T}(k:kA H sl Z)(sq:T.Seq Z)(ht:T.isIn Z t)(g:Z.length<2^40):
  Zv 236 #[.agg #[sl,rv],E (T.plc Z t)] H fun v H2=>v=dV (T.dec Z t)/\H2=H:=by
 obtain⟨a,c,rfl,e⟩:=k;refine fj func236 rfl (by simp[ntmps236]) fun w0=>?_;simp only[ntmps236,E];cases t with
 |lf b=>
  have h6:decide (((T.plc Z (.lf b):Nat):Int)<2)=true:=by simp only[T.plc];split<;>simp
  refine dB h6 ?_;refine aX (r:=[.agg #[.int .i64 24,.int .i64 (T.plc Z (.lf b):Nat),.int .i64 (T.plc Z (.lf b):Nat)]]) (by simp only[results236,go_sem]) ⟨?_,rfl⟩;simp only[dY,dV,T.dec,T.plc,E];cases b<;>rfl
 |nd v l h=>
  have hm:T.nd v l h∈Z:=ht;have hi:=ux hm;have hp:T.plc Z (.nd v l h)=Z.idxOf (.nd v l h)+2:=rfl;have h6:decide (((T.plc Z (.nd v l h):Nat):Int)<2)=false:=by rw[hp];simp;omega
  have f:IntKind.i64.wrap (((T.plc Z (.nd v l h):Nat):Int)-2)=((Z.idxOf (.nd v l h):Nat):Int):=by rw[<-wrap64 (n:=Z.idxOf (.nd v l h)) O,hp];congr 1;omega
  rcases e with rfl|⟨b,rfl,e⟩
  .simp at hm
  .refine lR h6 f ?_;refine⟨⟨O,O⟩,?_⟩;have i:=T.plc_get hm;rw[hp,uz]at i;have j:(ko Z).length=Z.length*3:=wB Z;have d:=e.sub (Z.idxOf (.nd v l h)*3) 3 O;rw[wA i,g8]at d;refine Zm (l:=ii (T.dec Z (.nd v l h))) (v:=dV (T.dec Z (.nd v l h))) rfl d (.inl ⟨pX,rfl⟩) ?_;apply RG;simp only[go_sem,dV,E];refine aX (r:=[dV (T.dec Z (.nd v l h))]) (by simp only[results236,go_sem,dV,E]) ⟨rfl,rfl⟩
def K3:Maps.Keyed prog 3:=Maps.int_keyed py
def AN(h:n<2^62):fq prog 3 (E n):=⟨_,Maps.keyOf_int_mk py (wI h)⟩
def Ep:ay prog 189:=⟨_,func189,rfl,rfl⟩
def yv(ms us:Zr)(y u:Value):Prop:=∃t,T.isIn ms t/\T.isIn us t/\y=E (T.plc ms t)/\u=E (T.plc us t)
variable{us:Zr}
def Ff{t:T}(ht:T.isIn ms t):yv ms us (E (T.plc ms t)) u<->T.isIn us t/\u=E (T.plc us t):=by
 constructor
 .rintro⟨t',h1,h2,h3,h4⟩;have:=T.plc_inj ht h1 (EM h3);subst this;exact⟨h2,h4⟩
 .rintro⟨a,b⟩;exact⟨t,ht,a,rfl,b⟩
def SR(s:T.Seq us){t:T}(ht:t∈us):T.isIn us t:=by obtain⟨j,a⟩:=List.mem_iff_getElem?.1 ht;obtain⟨v,l,h,rfl,_⟩:=s.2 j t a;exact ht
def Fj{l:T}(a:T.nd v l h∉us):T.plc (us++[.nd v l h]) (.nd v l h)=us.length+2:=by simp only[T.plc];rw[List.idxOf_append,ab a];simp
def AK{l t:T}:T.isIn (us++[.nd v l h]) t<->T.isIn us t\/t=.nd v l h:=by
 cases t with
 |lf b=>simp[T.isIn]
 |nd a l' c=>simp[T.isIn]
def VU{l:T}(a:T.isIn ms (.nd v l h))(b:T.nd v l h∉us)(y u:Value):
  yv ms (us++[.nd v l h]) y u<->(y=E (T.plc ms (.nd v l h))/\u=E (us.length+2))\/(y≠E (T.plc ms (.nd v l h))/\yv ms us y u):=by
 constructor
 .rintro⟨t,h1,h2,rfl,rfl⟩;rcases AK.1 h2 with h3|rfl
  .refine .inr ⟨fun e=>?_,t,h1,h3,rfl,by rw[T.plc_app h3]⟩;have:=T.plc_inj h1 a (EM e);subst this;exact b h3
  .exact .inl ⟨rfl,by rw[Fj b]⟩
 .rintro(⟨rfl,rfl⟩|⟨_,t,h1,h2,rfl,rfl⟩)
  .exact⟨_,a,AK.2 (.inr rfl),rfl,by rw[Fj b]⟩
  .exact⟨t,h1,AK.2 (.inl h2),rfl,by rw[T.plc_app h2]⟩
def Aw(pb tb vb ob:Nat):Value:=.func (.func 189) #[] #[pt pb,pt tb,pt vb,pt ob]
structure xu(I:PH)(pb tb vb ob mb r:Nat)(ms:Zr):Prop where
 hp:I pb=some (.cells #[.map (some r)] 301 (0,0))
 ht:I tb=some (.cells #[pt mb] 217 (0,0))
 hv:I vb=some (.cells #[Aw pb tb vb ob] 302 (0,0))
 hm:∃slv m,I mb=some (.cells #[slv,m] 300 (0,0))/\kA I slv ms
 sq:T.Seq ms
 len:ms.length<2^30
def xu.le{pb tb vb ob r:Nat}(h:xu I pb tb vb ob mb r ms)(e:I.le J):xu J pb tb vb ob mb r ms:=
 ⟨e _ _ h.hp,e _ _ h.ht,e _ _ h.hv,let ⟨a,b,c,d⟩:=h.hm;⟨a,b,e _ _ c,d.le e⟩,h.sq,h.len⟩
def Db(ob r:Nat)(ms us:Zr)(a:Zt):Prop:=∃A sv Z,a=[A,sg ob (.cells #[sv] 48 (0,0)),Z]/\dH A 181 3 sv us.length (ko us)/\jD prog Z r 3 (yv ms us)/\T.Seq us
def YS{pb tb vb ob r:Nat}(t:T):∀{k:Nat} {us:Zr} {I:PH} {ps:Zt},t.ok k->k<=24->T.isIn ms t->xu I pb tb vb ob mb r ms->Db ob r ms us ps->us.length+2^(24-k)<=2^30->
  Zu 189 #[E (T.plc ms t),pt pb,pt tb,pt vb,pt ob] I ps fun v I2 qs=>Db ob r ms (t.vis us) qs/\v=E (T.plc (t.vis us) t):=by
 induction t with
 |lf x=>intro k us I ps G p c hI hP P hd;obtain⟨A,sv,Z,rfl,V,B,sq⟩:=hP;refine fj func189 rfl (by simp[ntmps189]) fun w0=>?_;simp only[ntmps189,pt,E];refine ai ?_;refine Zm (l:=[_]) rfl (cellsU hd (.head _) (bA hI.hp ao rfl)) (.inr ⟨zT,rfl⟩) ?_;refine ai ?_;refine xg (by exact K3) (by exact vA) (by exact pB) (key:=E (T.plc ms (.lf x))) rfl rfl rfl rfl (B.atU hd ao) (by exact AN (by simp only[T.plc];split<;>omega)) (E (T.plc us (.lf x))) true (.inl ⟨rfl,(Ff c).2 ⟨trivial,rfl⟩⟩) ?_;refine ai ?_;exact az rfl hd (r:=[_]) rfl (aD _) ⟨⟨A,sv,Z,rfl,V,B,sq⟩,rfl⟩
 |nd v l h ihl ihh=>
  intro k us I ps G p c hI hP P hd;obtain⟨A,sv,Z,rfl,V,B,sq⟩:=hP;have bs:=T.plc_lt c;have b0:=hI.len;have d:fq prog 3 (E (T.plc ms (.nd v l h))):=AN O;refine fj func189 rfl (by simp[ntmps189]) fun w0=>?_;simp only[ntmps189,pt,E];refine ai ?_;refine Zm (l:=[_]) rfl (cellsU hd (.head _) (bA hI.hp ao rfl)) (.inr ⟨zT,rfl⟩) ?_;refine ai ?_;by_cases b:T.nd v l h∈us
  .refine xg (by exact K3) (by exact vA) (by exact pB) (key:=E (T.plc ms (.nd v l h))) rfl rfl rfl rfl (B.atU hd ao) (by exact d) (E (T.plc us (.nd v l h))) true (.inl ⟨rfl,(Ff c).2 ⟨b,rfl⟩⟩) ?_;refine ai ?_;refine az rfl hd (r:=[_]) rfl (aD _) ⟨?_,?_⟩
   .simp only[T.vis,ah b];exact⟨A,sv,Z,rfl,V,B,sq⟩
   .simp only[T.vis,ah b];rfl
  .refine xg (by exact K3) (by exact vA) (by exact pB) (key:=E (T.plc ms (.nd v l h))) rfl rfl rfl rfl (B.atU hd ao) (by exact d) (E 0) false (.inr ⟨rfl,rfl,fun u hu=>b ((Ff c).1 hu).1⟩) ?_;refine ai ?_;refine Zm (l:=[_]) rfl (cellsU hd (.head _) (bA hI.ht ao rfl)) (.inr ⟨zS,rfl⟩) ?_;apply RG;simp only[go_sem,pt];obtain⟨slv,mm,an,am,cm,rfl,a6⟩:=hI.hm;refine Zm (l:=[_]) rfl (cellsU hd (.head _) (bA an ao rfl)) (.inr ⟨rU,rfl⟩) ?_;have hm:T.nd v l h∈ms:=c;have hi:=ux hm;have hp:T.plc ms (.nd v l h)=ms.idxOf (.nd v l h)+2:=rfl;have bc:IntKind.i64.wrap (((T.plc ms (.nd v l h):Nat):Int)-2)=((ms.idxOf (.nd v l h):Nat):Int):=by rw[<-wrap64 (n:=ms.idxOf (.nd v l h)) O,hp];congr 1;omega
   rcases a6 with rfl|⟨lb,rfl,hc⟩
   .simp at hm
   .refine dB bc ?_;refine⟨⟨O,O⟩,?_⟩;have hg:=T.plc_get hm;rw[hp,uz]at hg;have b3:(ko ms).length=ms.length*3:=wB ms;have e:=hc.sub (ms.idxOf (.nd v l h)*3) 3 O;rw[wA hg,g8]at e;refine Zm (l:=ii (T.dec ms (.nd v l h))) (v:=dV (T.dec ms (.nd v l h))) rfl (cellsU hd (.head _) e) (.inl ⟨pX,rfl⟩) ?_;apply RG;simp only[go_sem,dV,E,T.dec];refine Zm (l:=[_]) rfl (cellsU hd (.head _) (bA hI.hv ao rfl)) (.inr ⟨zU,rfl⟩) ?_;apply RG;simp only[go_sem,dV,E,T.dec,Aw];have H:=G.2.2.2.1;have J:=G.2.2.2.2;have aa:=G.2.1;have b4:=G.1;have K:=hI.sq.kids hm;have bx:2^(24-(v+1))+2^(24-(v+1))<=2^(24-k):=by
     have:2^(24-(v+1))+2^(24-(v+1))=2^(24-v):=by rw[show 24-v=(24-(v+1))+1 by omega,uA];omega
     rw[this];exact wS O O
    obtain⟨s1,i1,X,e1,n1,_⟩:=T.vis_spec l H O us sq;obtain⟨s2,i2,W,e2,n2,_⟩:=T.vis_spec h J O _ s1;have len1:(l.vis us).length=us.length+X.length:=by rw[e1];simp
    have len2:(h.vis (l.vis us)).length=(l.vis us).length+W.length:=by rw[e2];simp
    have a:(T.nd v l h).vis us=h.vis (l.vis us)++[.nd v l h]:=by simp only[T.vis,ab b]
    have s3:T.Seq ((T.nd v l h).vis us):=(T.vis_spec _ G p us sq).1;have f:T.nd v l h∉h.vis (l.vis us):=by rw[a]at s3;intro a1;exact(List.nodup_append.1 s3.1).2.2 _ a1 _ (.head _) rfl
    have pl1:T.plc (h.vis (l.vis us)) l=T.plc (l.vis us) l:=by rw[e2];exact T.plc_app i1
    have i1':T.isIn (h.vis (l.vis us)) l:=by rw[e2];exact i1.app
    have b1:=T.plc_lt i1;have b2:=T.plc_lt i2;refine GH hd [0,1,2] rfl Ep rfl (F:=[]) rfl (ihl H O K.1 hI ⟨A,sv,Z,rfl,V,B,sq⟩ O) ?_;rintro v1 I2 qs z o⟨⟨A2,sv2,M2,rfl,bb,a4,sq2⟩,rfl⟩;simp only[Y]at z |-;have C:=hI.le o;apply RG;simp only[go_sem,E];refine Zm (l:=[_]) rfl (cellsU z (.head _) (bA C.hv ao rfl)) (.inr ⟨zU,rfl⟩) ?_;apply RG;simp only[go_sem,E,Aw];refine GH z [0,1,2] rfl Ep rfl (F:=[]) rfl (ihh J O K.2 C ⟨A2,sv2,M2,rfl,bb,a4,sq2⟩ O) ?_;rintro v2 I3 qs w j⟨⟨A3,sv3,M3,rfl,ba,a3,sq3⟩,rfl⟩;simp only[Y]at w |-;have a9:=C.le j;apply RG;simp only[go_sem,E];refine Zm (l:=[_]) rfl (cellsU w (.tail _ (.tail _ (.head _))) (dz ao rfl)) (.inr ⟨rU,rfl⟩) ?_;apply RG;simp only[go_sem,E];refine cI w (by exact BX) rfl rfl rfl rfl rfl af fun nb I4 Q i ac=>?_;apply RG;simp only[go_sem,E];refine oB (m:=1) Q (by exact BX) ba rfl rfl rfl rfl (cellsU Q (.head _) (bA (l:=ii (v,T.plc (l.vis us) l,T.plc (h.vis (l.vis us)) h)) ac (by simp[ii,ax,Value.cells]) (by simp[ii,ax,Value.cells,E]))) rfl rfl O (by unfold maxLen;omega) fun v' I5 A5 a0 g S=>?_;obtain⟨a5,c5,rfl⟩:=S.slice;apply RG;simp only[go_sem,E];refine ak a0 [1,0,2] fun aS=>?_;refine k0 aS rfl rfl rfl rfl rfl (by exact FR) ao fun aq=>?_;have s:Dj [I5,sg ob (.cells #[.slice a5 ((h.vis (l.vis us)).length+1) c5] 48 (0,0)),A5,M3]:=aq;show RC _ _ _ (U [I5,sg ob (.cells #[.slice a5 ((h.vis (l.vis us)).length+1) c5] 48 (0,0)),A5,M3]);have a7:=(a9.le i).le g;apply RG;simp only[go_sem,E];refine Zm (l:=[_]) rfl (cellsU s (.head _) (bA a7.hp ao rfl)) (.inr ⟨zT,rfl⟩) ?_;apply RG;simp only[go_sem,E];refine Zm (l:=[_]) rfl (cellsU s (.tail _ (.head _)) (dz ao rfl)) (.inr ⟨rU,rfl⟩) ?_
    have hw:IntKind.i64.wrap ((((h.vis (l.vis us)).length+1:Nat):Int)+1)=(((h.vis (l.vis us)).length+2:Nat):Int):=by have:=wrap64 (n:=(h.vis (l.vis us)).length+2) O;rw[<-this];congr 1
    apply RG;simp only[go_sem,E,hw];refine ak s [2,0,1] fun ap=>?_;refine zH (by exact K3) (by exact vA) (key:=E (T.plc ms (.nd v l h))) (v:=E ((h.vis (l.vis us)).length+2)) ap rfl (.inl rfl) rfl rfl rfl a3 (by exact d) fun M6 q a2=>?_;apply RG;simp only[go_sem,E];refine Zm (l:=[_]) rfl (cellsU q (.tail _ (.tail _ (.head _))) (dz ao rfl)) (.inr ⟨rU,rfl⟩) ?_;apply RG;simp only[go_sem,E,hw];refine ak q [2,1,0] fun R=>?_;refine az rfl R (r:=[_]) rfl (D o (D j (D i g))) ⟨?_,?_⟩
    .refine⟨A5,_,M6,rfl,S.xs (by rw[a];simp) ?_,a2.congr fun y u=>by rw[a];exact VU c f y u,s3⟩;rw[a,Mt s2 i1' i2,pl1]
    .rw[a,Fj f];rfl
def Ei:ay prog 124:=⟨_,func124,rfl,rfl⟩
def Ej:ay prog 126:=⟨_,func126,rfl,rfl⟩
def dH.lst{A:PH}{sv:Value}(h:dH A 181 3 sv Z.length (ko Z))(b:A.le J):kA J sv Z:=by
 obtain⟨a,c,e⟩:=h.slice;rcases jA Z.length with d|hp
 .subst e;exact⟨a,c,rfl,.inl (List.length_eq_zero_iff.1 d)⟩
 .obtain⟨g,cap,e2,f⟩:=h.1.cells hp;exact⟨_,cap,e2,.inr ⟨g,rfl,f.le b⟩⟩
def VS {ms : Zr} (y u : Value) : yv ms [] y u ↔ (y = E 1 ∧ u = E 1) ∨ (y ≠ E 1 ∧ ((y = E 0 ∧ u = E 0) ∨ (y ≠ E 0 ∧ False))) := by
  have aa : E 0 ≠ E 1 := fun e => absurd (EM e) O
  constructor
  · rintro ⟨t, h1, h2, rfl, rfl⟩
    cases t with
    | lf b => cases b
              · exact .inr ⟨aa, .inl ⟨rfl, rfl⟩⟩
              · exact .inl ⟨rfl, rfl⟩
    | nd v l h => exact absurd h2 (by simp [T.isIn])
  · rintro (⟨rfl, rfl⟩ | ⟨_, ⟨rfl, rfl⟩ | ⟨_, h⟩⟩)
    · exact ⟨.lf true, trivial, trivial, rfl, rfl⟩
    · exact ⟨.lf false, trivial, trivial, rfl, rfl⟩
    · exact h.elim
def DP{ps:Zt}{t:T}(h:pJ mb ms ps)(ht:T.isIn ms t)(o:t.ok 0)(aa:ms.length<2^29):
  Zu 126 #[pt mb,E (T.plc ms t)] I ps fun v I2 qs=>qs=[]/\bW I2 v t:=by
 intro hd;obtain⟨A,sv,r,Z,rfl,hA,hM,sq⟩:=h;refine fj func126 rfl (by simp[ntmps126]) fun w0=>?_;simp only[ntmps126,pt,E];refine aJ (c:=.st _) hd fun I1 aS Q N=>?_;refine aJ (c:=.st _) aS fun I2 aq k L=>?_;refine aJ (c:=.st _) aq fun I3 ap i leC=>?_;refine ai ?_;refine CT 3 ap rfl rfl fun q M1 an a2=>?_;refine ai ?_;refine zH (by exact K3) (by exact vA) (key:=E 0) (v:=E 0) an rfl (.inr rfl) rfl rfl rfl a2 (by exact AN O) fun M2 am a1=>?_;refine ai ?_;refine zH (by exact K3) (by exact vA) (key:=E 1) (v:=E 1) am rfl (.inr rfl) rfl rfl rfl a1 (by exact AN O) fun M3 ac a0=>?_;apply cE 9;simp only[go_sem];refine jW 6 ac rfl fun pb X=>?_;refine aJ X fun I4 W g K=>?_;refine jW 2 W rfl fun tb V=>?_;refine aJ V fun I5 C d J=>?_;refine jW 5 C rfl fun ob B=>?_;refine de B fun z=>?_;refine jW 7 z rfl fun vb y=>?_;apply RG;simp only[go_sem,iR,List.map];refine k0 y rfl rfl rfl rfl rfl (by exact L9) ao fun x=>?_;refine aJ x fun I6 f a H=>?_;have n:xu I6 pb tb vb ob mb q ms:=by
  refine⟨a _ _ (d _ _ (K _ _ (gZ _ _))),a _ _ (J _ _ (gZ _ _)),H _ _ (gZ _ _),⟨sv,.map (some r),?_,?_⟩,sq,O⟩
  .exact a _ _ (d _ _ (g _ _ (i _ _ (L _ _ (gZ _ _)))))
  .exact dH.lst hA (D N (D k (D i (D g (D d a)))))
 refine ai ?_;refine Zm (l:=[_]) rfl (cellsU f (.head _) (bA n.hv ao rfl)) (.inr ⟨zU,rfl⟩) ?_;apply RG;simp only[go_sem,Aw];have S:Db ob q ms [] [PH.no,sg ob (.cells #[.slice none 0 0] 48 (0,0)),M3]:=⟨PH.no,_,M3,rfl,dH.nil _ _,a0.congr VS,T.Seq.nil⟩;refine GH f [0,1,2] rfl Ep rfl (F:=[]) rfl (YS t o O ht n S af) ?_;rintro v1 I7 qs b p⟨⟨A2,sv2,M4,rfl,G,a4,sq2⟩,rfl⟩;simp only[Y]at b |-;obtain⟨sa,sc,rfl⟩:=G.slice;apply RG;simp only[go_sem,E];refine Zm (l:=[_]) rfl (cellsU b (.tail _ (.tail _ (.head _))) (dz ao rfl)) (.inr ⟨rU,rfl⟩) ?_;apply RG;simp only[go_sem,E];refine aJ b fun I8 w P R=>?_;refine aJ w fun I9 u j _=>?_;refine aJ u fun a3 s e _=>?_;have m:I.le a3:=D Q (D k (D i (D g (D d (D a (D p (D P (D j e))))))));refine az (r:=[.agg #[.slice sa (t.vis []).length sc,E (T.plc (t.vis []) t)]]) rfl s (by simp only[results126,go_sem,E]) m ⟨rfl,o,_,rfl,?_⟩;exact dH.lst G (D R (D j e))
def sj(a b:Nat):((a:Int) == (b:Int))=decide (a=b):=by
 by_cases h:a=b
 .subst h;simp
 .have:¬(a:Int)=b:=by omega
  simp[h,this]
def lY(a:Nat):((a:Int) == 0)=decide (a=0):=sj a 0
def lZ(a:Nat):((a:Int) == 1)=decide (a=1):=sj a 1
def yw{t:T}:T.plc Z t=0<->t=.lf false:=by
 cases t with
 |lf b=>cases b<;>simp[T.plc]
 |nd v l h=>simp[T.plc]
def yx{t:T}:T.plc Z t=1<->t=.lf true:=by
 cases t with
 |lf b=>cases b<;>simp[T.plc]
 |nd v l h=>simp[T.plc]
def ji{H:PH}{v:Value}{t:T}(h:bW I v t):Zv 50 #[v] H fun v H2=>v=.bool (decide (t=.lf false))/\H2=H:=by obtain⟨b,sl,rfl,d⟩:=h;obtain⟨a,c,rfl,_⟩:=d;refine fj func50 rfl (by simp[ntmps50]) fun w0=>?_;simp only[ntmps50,E];apply RG;simp only[go_sem,lY];exact aX (r:=[_]) rfl ⟨by simp[dY,yw],rfl⟩
def Ij{H:PH}{v:Value}{t:T}(h:bW I v t):Zv 68 #[v] H fun v H2=>v=.bool (decide (t=.lf true))/\H2=H:=by obtain⟨b,sl,rfl,d⟩:=h;obtain⟨a,c,rfl,_⟩:=d;refine fj func68 rfl (by simp[ntmps68]) fun w0=>?_;simp only[ntmps68,E];apply RG;simp only[go_sem,lZ];exact aX (r:=[_]) rfl ⟨by simp[dY,yx],rfl⟩
def pd(I:PH)(b:Bool):bW I (.agg #[.slice none 0 0,E (if b then 1 else 0)]) (.lf b):=⟨trivial,_,rfl,none,0,rfl,.inl rfl⟩
def zf(H:PH):Zv 27 #[] H fun v H2=>v=.agg #[.slice none 0 0,E 1]/\H2=H:=by refine fj func27 rfl (by simp[ntmps27]) fun w0=>?_;simp only[ntmps27];refine ai ?_;exact aX (r:=[.agg #[.slice none 0 0,E 1]]) (by simp only[results27,go_sem,E,dP]) ⟨rfl,rfl⟩
def tG(H:PH):Zv 80 #[] H fun v H2=>v=.agg #[.slice none 0 0,E 0]/\H2=H:=by refine fj func80 rfl (by simp[ntmps80]) fun w0=>?_;simp only[ntmps80];refine ai ?_;exact aX (r:=[.agg #[.slice none 0 0,E 0]]) (by simp only[results80,go_sem,E,dP]) ⟨rfl,rfl⟩
def pY(x y:Nat):Option Bool:=if x=0\/y=0 then some false else if x=1/\y=1 then some true else none
def qF(x y:Nat):Option Bool:=if x=1\/y=1 then some true else if x=0/\y=0 then some false else none
def bn(b:Bool):Nat:=if b then 1 else 0
def zD(f:FuncId)(S:Nat->Nat->Option Bool):Prop:=∀(x y:Nat) (H:PH),Zv f #[E x,E y] H fun v H2=>H2=H/\∃r,v=.tuple #[E r,.bool (S x y).isSome]/\∀b,S x y=some b->r=bn b
def Px:zD 97 qF:=by
 intro x y H;refine fj func97 rfl (by simp[ntmps97]) fun w0=>?_;simp only[ntmps97,E];have e1:((x:Int) == 1)=decide (x=1):=lZ x;cases h1:decide (x=1)
 .cases h2:decide (y=1)
  .cases h3:decide (x=0)
   .apply RG;simp only[go_sem,lZ,lY,h1,h2,h3];refine aX (r:=[_,_]) rfl ⟨rfl,0,?_,?_⟩<;>simp_all[dY,qF,E]
   .apply RG;simp only[go_sem,lZ,lY,h1,h2,h3];refine aX (r:=[_,_]) rfl ⟨rfl,0,?_,?_⟩
    .by_cases a:y=0<;>simp_all[dY,qF,E,bn]
    .intro b hb;simp_all[qF,bn]
  .apply RG;simp only[go_sem,lZ,lY,h1,h2];refine aX (r:=[_,_]) rfl ⟨rfl,1,?_,?_⟩<;>simp_all[dY,qF,E,bn]
 .apply RG;simp only[go_sem,lZ,lY,h1];refine aX (r:=[_,_]) rfl ⟨rfl,1,?_,?_⟩<;>simp_all[dY,qF,E,bn]
def Kf(x y:Nat):tW (.int .i64 x) (.int .i64 y)=some (.int .i64 ((min x y:Nat):Int)):=by simp only[tW,bf,Value.int.injEq,fg];split<;>omega
def U3(x:Nat):tW (.int .i64 x) (.int .i64 1)=some (.int .i64 ((min x 1:Nat):Int)):=Kf x 1
def OA:zD 163 pY:=by
 intro x y H;refine fj func163 rfl (by simp[ntmps163]) fun w0=>?_;simp only[ntmps163,E];apply RG;simp only[go_sem,lZ,lY];refine uJ (E (min (min x y) 1)) rfl rfl (fun w _=>?_) ?_
 .simp only[execOp,resolve,bp,ev,jJ,invoke,builtin,Builtin.min_,ew];simp[Result.andThen,List.foldlM,resolve,bp,ev,jJ,invoke,builtin,Builtin.min_,-Nat.min_assoc];rw[Fv (Kf x y)];simp only[];rw[Fv (U3 _)];simp[E,Nat.min_assoc]
 cases h1:decide (x=0)
 .cases h2:decide (y=0)
  .cases h3:decide (x=1)
   .apply RG;simp only[go_sem,lZ,lY,h1,h2,h3];refine aX (r:=[_,_]) rfl ⟨rfl,min (min x y) 1,?_,?_⟩<;>simp_all[dY,pY,E]
   .apply RG;simp only[go_sem,lZ,lY,h1,h2,h3];refine aX (r:=[_,_]) rfl ⟨rfl,min (min x y) 1,?_,?_⟩
    .by_cases a:y=1<;>simp_all[dY,pY,E,bn]
    .intro b hb;simp_all[pY,bn]
  .apply RG;simp only[go_sem,lZ,lY,h1,h2];apply RG;simp only[go_sem,lZ,lY,h1,h2];refine aX (r:=[_,_]) rfl ⟨rfl,min (min x y) 1,?_,?_⟩<;>simp_all[dY,pY,E,bn]
 .apply RG;simp only[go_sem,lZ,lY,h1];apply RG;simp only[go_sem,lZ,lY,h1];refine aX (r:=[_,_]) rfl ⟨rfl,min (min x y) 1,?_,?_⟩<;>simp_all[dY,pY,E,bn]
end Go.Proofs.YtfaclfkpnmcmlaaGreatDoor
namespace Dg.T
open Dg
def opT(f:Bool->Bool->Bool)(s t:T):T:=op f 24 s t
variable{f:Bool->Bool->Bool}
theorem opT_ok{s t:T}{k:Nat}(hs:s.ok k)(ht:t.ok k)(a:k<=24):(opT f s t).ok k:=(vS f 24 k s t O a hs ht).1
def Bu{s t:T}(hs:s.ok 0)(ht:t.ok 0)(c:aF):(opT f s t).at' c=f (s.at' c) (t.at' c):=(vS f 24 0 s t O O hs ht).2 c
theorem opT_rec{s t:T}{i:Nat}(hs:s.ok 0)(ht:t.ok 0)(hi:i=min s.var t.var)(a:i<24):opT f s t=mk i (opT f (lo i s) (lo i t)) (opT f (T.hi i s) (T.hi i t)):=by have g:=lo_ok hs (show i<=s.var by omega);have e:=lo_ok ht (show i<=t.var by omega);have d:=hi_ok hs (show i<=s.var by omega);have b:=hi_ok ht (show i<=t.var by omega);refine ext (opT_ok hs ht O) (mk_ok (k:=0) (aE i) a (opT_ok g e O) (opT_ok d b O)) fun c=>?_;rw[Bu hs ht,mk_at,Bu (g.mono (aE _)) (e.mono (aE _)),Bu (d.mono (aE _)) (b.mono (aE _)),zY i s c,zY i t c];split<;>rfl
theorem opT_lf{s t:T}{b:Bool}(hs:s.ok 0)(ht:t.ok 0)(h:∀c,f (s.at' c) (t.at' c)=b):opT f s t=lf b:=
 ext (opT_ok hs ht O) (show (lf b).ok 0 from trivial) fun c=>by rw[Bu hs ht,h];rfl
theorem and_eq(s t:T):and s t=opT (· && ·) s t:=rfl
theorem or_eq(s t:T):or s t=opT (· || ·) s t:=rfl
theorem dec_var(Z:Zr)(t:T):(dec Z t).1=t.var:=by cases t<;>rfl
theorem dec_lo (Z : Zr) (t : T) {i : Nat} (hi : i ≤ t.var) (aa : i < 24) : (if (dec Z t).1 = i then (dec Z t).2.1 else plc Z t) = plc Z (lo i t) := by
  cases t with
  | lf b => have e : ¬ (24 = i) := by omega
            simp [dec, lo, e]
  | nd v l h => by_cases e : v = i <;> simp [dec, lo, e]
theorem dec_hi (Z : Zr) (t : T) {i : Nat} (hi : i ≤ t.var) (aa : i < 24) : (if (dec Z t).1 = i then (dec Z t).2.2 else plc Z t) = plc Z (T.hi i t) := by
  cases t with
  | lf b => have e : ¬ (24 = i) := by omega
            simp [dec, T.hi, e]
  | nd v l h => by_cases e : v = i <;> simp [dec, T.hi, e]
theorem isIn_lo {Z : Zr} (s : Seq Z) {t : T} (h : isIn Z t) (i : Nat) : isIn Z (lo i t) := by
  cases t with
  | lf b => trivial
  | nd v l r => simp only [lo]; split
                · exact (s.kids h).1
                · exact h
theorem isIn_hi {Z : Zr} (s : Seq Z) {t : T} (h : isIn Z t) (i : Nat) : isIn Z (T.hi i t) := by
  cases t with
  | lf b => trivial
  | nd v l r => simp only [T.hi]; split
                · exact (s.kids h).2
                · exact h
end Dg.T
namespace Go.Proofs.YtfaclfkpnmcmlaaGreatDoor
open Go Go.Sx Dg
def MC:prog.underlying 335=some (.array 2 3):=ae
def T7:prog.keyTypeAt 3 335=true:=ae
def XY:prog.tiled 3 335=true:=ae
def CP:Maps.Keyed prog 335:=by refine Maps.Keyed.of_law (deep_law (m:=3) O T7 XY ?_);rw[MC]
def TR:prog.keyType 335=true:=ae
def OV:prog.cellsOf 335=2:=ae
def kV(x y:Nat):Value:=.agg #[E x,E y]
def TS{P:Program}{k t:TypeId}{a b:Nat}(d:P.underlying k=some (.array 2 t))(h1:P.keyType k=true)(h2:P.cellsOf k=2)(h3:P.cellsOf t=1)(h4:P.underlying t=some (.int .i64))(h5:1<P.types.size)
  (ha:a<2^62) (hb:b<2^62):fq P k (kV a b):=by
 obtain⟨n,c⟩:∃n,P.types.size=n+1:=⟨P.types.size-1,O⟩;unfold fq keyOf;rw[h1];simp[d,Value.formed,kV,c,Program.keyLits,h2,h3,h4,Value.cells,wI ha,wI hb,E,List.range,List.range.loop]
def TN{a b:Nat}(ha:a<2^62)(hb:b<2^62):fq prog 335 (kV a b):=TS MC TR OV Dy py FD ha hb
def JB{a b c d:Nat}(h:kV a b=kV c d):a=c/\b=d:=by simp[kV,E]at h;exact⟨Int.ofNat.inj h.1,Int.ofNat.inj h.2⟩
def wv(f:Bool->Bool->Bool)(ta tb ms:Zr)(L:List (T×T))(y u:Value):Prop:=∃s t,(s,t)∈L/\y=kV (T.plc ta s) (T.plc tb t)/\u=E (T.plc ms (T.opT f s t))
def rE(f:Bool->Bool->Bool)(ta tb ms:Zr)(L:List (T×T)):Prop:=∀s t,(s,t)∈L->T.isIn ta s/\T.isIn tb t/\T.isIn ms (T.opT f s t)
variable{L:List (T×T)}{ta tb:Zr}{f:Bool->Bool->Bool}
def rE.app{ms us:Zr}(h:rE f ta tb ms L):rE f ta tb (ms++us) L:=fun s t hm=>⟨(h s t hm).1,(h s t hm).2.1,(h s t hm).2.2.app⟩
def W6{ms us:Zr}(h:rE f ta tb ms L)(y u:Value):wv f ta tb (ms++us) L y u<->wv f ta tb ms L y u:=by
 constructor
 .rintro⟨s,t,hm,a,b⟩;exact⟨s,t,hm,a,by rw[b,T.plc_app (h s t hm).2.2]⟩
 .rintro⟨s,t,hm,a,b⟩;exact⟨s,t,hm,a,by rw[b,T.plc_app (h s t hm).2.2]⟩
def LA{ms:Zr}(h:rE f ta tb ms L){s t:T}(hs:T.isIn ta s)(ht:T.isIn tb t){u:Value}:wv f ta tb ms L (kV (T.plc ta s) (T.plc tb t)) u<->(s,t)∈L/\u=E (T.plc ms (T.opT f s t)):=by
 constructor
 .rintro⟨s',t',hm,a,b⟩;obtain⟨e1,e2⟩:=JB a;have h1:=T.plc_inj hs (h s' t' hm).1 e1;have h2:=T.plc_inj ht (h s' t' hm).2.1 e2;subst h1;subst h2;exact⟨hm,b⟩
 .rintro⟨a,b⟩;exact⟨s,t,a,rfl,b⟩
def W7{ms:Zr}(h:rE f ta tb ms L){s t:T}(hs:T.isIn ta s)(ht:T.isIn tb t)(y u:Value):
  wv f ta tb ms ((s,t)::L) y u<->(y=kV (T.plc ta s) (T.plc tb t)/\u=E (T.plc ms (T.opT f s t)))\/(y≠kV (T.plc ta s) (T.plc tb t)/\wv f ta tb ms L y u):=by
 constructor
 .rintro⟨s',t',hm,rfl,rfl⟩;rcases List.mem_cons.1 hm with e|a
  .cases e;exact .inl ⟨rfl,rfl⟩
  .by_cases e:kV (T.plc ta s') (T.plc tb t')=kV (T.plc ta s) (T.plc tb t)
   .obtain⟨e1,e2⟩:=JB e;have h1:=T.plc_inj (h s' t' a).1 hs e1;have h2:=T.plc_inj (h s' t' a).2.1 ht e2;subst h1;subst h2;exact .inl ⟨rfl,rfl⟩
   .exact .inr ⟨e,s',t',a,rfl,rfl⟩
 .rintro(⟨rfl,rfl⟩|⟨_,s',t',hm,rfl,rfl⟩)
  .exact⟨s,t,.head _,rfl,rfl⟩
  .exact⟨s',t',.tail _ hm,rfl,rfl⟩
structure xd(I:PH)(pb mb q:Nat)(sla ra slb rb:Value)(ta tb:Zr):Prop where
 hp:I pb=some (.cells #[pt mb,sla,ra,slb,rb,.map (some q)] 262 (0,0))
 ha:kA I sla ta
 hb:kA I slb tb
 sa:T.Seq ta
 sb:T.Seq tb
 la:ta.length<2^30
 lb:tb.length<2^30
def xd.le{I J:PH}{pb mb q:Nat}{sla ra slb rb:Value}(h:xd I pb mb q sla ra slb rb ta tb)(a:I.le J):xd J pb mb q sla ra slb rb ta tb:=
 ⟨a _ _ h.hp,h.ha.le a,h.hb.le a,h.sa,h.sb,h.la,h.lb⟩
def GC(f:Bool->Bool->Bool)(mb q:Nat)(ta tb ms:Zr)(L:List (T×T))(a:Zt):Prop:=∃mk N,a=mk++[N]/\pJ mb ms mk/\jD prog N q 335 (wv f ta tb ms L)/\rE f ta tb ms L
structure zM(S:Nat->Nat->Option Bool)(f:Bool->Bool->Bool):Prop where
 yes:∀{ta tb:Zr} {s t:T} {b:Bool},S (T.plc ta s) (T.plc tb t)=some b->∀c,f (s.at' c) (t.at' c)=b
 no:∀{x y:Nat},S x y=none->¬(x<2/\y<2)
def WV:zM pY (· && ·):=by
 refine⟨fun{ta tb s t b} h c=>?_,fun{x y} h=>?_⟩
 .unfold pY at h;split at h
  .rename_i h0;cases h
   rcases h0 with h0|h0
   .rw[yw.1 h0];rfl
   .rw[yw.1 h0];simp[T.at']
  .split at h
   .rename_i h1;cases h;rw[yx.1 h1.1,yx.1 h1.2];rfl
   .cases h
 .unfold pY at h;split at h
  .cases h
  .split at h
   .cases h
   .omega
def WW:zM qF (· || ·):=by
 refine⟨fun{ta tb s t b} h c=>?_,fun{x y} h=>?_⟩
 .unfold qF at h;split at h
  .rename_i h0;cases h
   rcases h0 with h0|h0
   .rw[yx.1 h0];rfl
   .rw[yx.1 h0];simp[T.at']
  .split at h
   .rename_i h1;cases h;rw[yw.1 h1.1,yw.1 h1.2];rfl
   .cases h
 .unfold qF at h;split at h
  .cases h
  .split at h
   .cases h
   .omega
def Eo:ay prog 168:=⟨_,func168,rfl,rfl⟩
def IQ:ay prog 236:=⟨_,func236,rfl,rfl⟩
variable{fid:FuncId}{S:Nat->Nat->Option Bool}
def TI(a9:zD fid S)(ba:ay prog fid)(hS:zM S f){pb mb q:Nat}{sla ra slb rb:Value}:
  ∀(n:Nat) {k:Nat} {s t:T} {ms:Zr} {L:List (T×T)} {I:PH} {ps:Zt},24<=n+k->k<=24->s.ok k->t.ok k->T.isIn ta s->T.isIn tb t->xd I pb mb q sla ra slb rb ta tb->GC f mb q ta tb ms L ps->ms.length+2^n<=2^28->
  Zu 168 #[pt pb,E (T.plc ta s),E (T.plc tb t),.func (.func fid) #[] #[]] I ps fun v I2 qs=>∃us L2,GC f mb q ta tb (ms++us) L2 qs/\us.length+1<=2^n/\T.isIn (ms++us) (T.opT f s t)/\v=E (T.plc (ms++us) (T.opT f s t)):=by
 intro n
 induction n with
 |zero=>
  intro k s t ms L I ps hn K hs ht j g hI hP a1 hd;have hk:k=24:=O;subst hk;obtain⟨x,rfl⟩:=T.is_lf hs;obtain⟨y,rfl⟩:=T.is_lf ht;refine fj func168 rfl (by simp[ntmps168]) fun w0=>?_;simp only[ntmps168,pt,E];refine ai ?_;refine Zl rfl ba (a9 _ _ _) ?_;rintro v H2⟨rfl,r,rfl,hr⟩;have w:(S (T.plc ta (.lf x)) (T.plc tb (.lf y))).isSome=true:=by
   cases h:S (T.plc ta (.lf x)) (T.plc tb (.lf y))with
   |none=>exact absurd ⟨by simp only[T.plc];split<;>omega,by simp only[T.plc];split<;>omega⟩ (hS.no h)
   |some b=>rfl
  obtain⟨b,hb⟩:=Option.isSome_iff_exists.1 w;have a0:=hr b hb;have H:T.opT f (.lf x) (.lf y)=.lf b:=T.opT_lf trivial trivial (hS.yes hb);refine dB w ?_;refine az rfl hd (r:=[_]) rfl (aD _) ⟨[],L,by rw[Y];exact hP,by simp,?_,?_⟩
  .rw[H];trivial
  .rw[H,a0];rfl
 |succ n ih=>
  intro k s t ms L I ps hn K hs ht j g hI hP a1 hd;have aq:=hs.mono (aE k);have ap:=ht.mono (aE k);refine fj func168 rfl (by simp[ntmps168]) fun w0=>?_;simp only[ntmps168,pt,E];refine ai ?_;refine Zl rfl ba (a9 _ _ _) ?_;rintro v H2⟨rfl,r,rfl,hr⟩;cases z:S (T.plc ta s) (T.plc tb t)with
  |some b=>
   have a0:=hr b z;have H:T.opT f s t=.lf b:=T.opT_lf aq ap (hS.yes z);apply RG;simp only[go_sem,z,Option.isSome_some];refine az rfl hd (r:=[_]) rfl (aD _) ⟨[],L,by rw[Y];exact hP,by simp[Nat.one_le_two_pow],?_,?_⟩
   .rw[H];trivial
   .rw[H,a0];rfl
  |none=>
   have b2:=hS.no z;have p:=T.plc_lt j;have cn:=T.plc_lt g;have cy:=hI.la;have cx:=hI.lb;obtain⟨mk,N,rfl,hM,hN,B⟩:=hP;obtain⟨A,sv,r',Z,rfl,hA,bs,sq⟩:=hM;apply RG;simp only[go_sem,z,Option.isSome_none];refine iH mixed [0,1,2,3,4,5,6,7,8,9,10] [3,5] [] rfl rfl ?_;refine eo ?_;refine Zn (l:=[_]) rfl (cellsU hd (.head _) (bA hI.hp ao rfl)) (.inr ⟨De,rfl⟩) ?_;refine eo ?_;have J:fq prog 335 (kV (T.plc ta s) (T.plc tb t)):=TN O O;by_cases G:(s,t)∈L
   .refine zJ (by exact CP) (by exact EI) (by exact pB) (key:=kV (T.plc ta s) (T.plc tb t)) rfl rfl rfl rfl rfl (hN.atU hd ao) (by exact J) (E (T.plc ms (T.opT f s t))) true (.inl ⟨rfl,(LA B j g).2 ⟨G,rfl⟩⟩) ?_;refine eo ?_;apply aN;refine ai ?_;refine az rfl hd (r:=[_]) rfl (aD _) ⟨[],L,?_,by simp[Nat.one_le_two_pow],?_,?_⟩
    .rw[Y];exact⟨_,N,rfl,⟨A,sv,r',Z,rfl,hA,bs,sq⟩,hN,B⟩
    .rw[Y];exact(B s t G).2.2
    .rw[Y];rfl
   .refine zJ (by exact CP) (by exact EI) (by exact pB) (key:=kV (T.plc ta s) (T.plc tb t)) rfl rfl rfl rfl rfl (hN.atU hd ao) (by exact J) (E 0) false (.inr ⟨rfl,rfl,fun u hu=>G ((LA B j g).1 hu).1⟩) ?_;refine eo ?_;apply aN;refine ai ?_;refine iH mixed [12,13,0,1,2,3,4,6,7,8,9,10,5,11,14,15] [3,9] [5] rfl rfl ?_;refine eo ?_;refine Zn (l:=[sla,ra]) (v:=.agg #[sla,ra]) rfl (cellsU hd (.head _) (bA hI.hp ao rfl)) (.inl ⟨jG,rfl⟩) ?_;refine eo ?_;refine Zn (l:=[slb,rb]) (v:=.agg #[slb,rb]) rfl (cellsU hd (.head _) (bA hI.hp ao rfl)) (.inl ⟨jG,rfl⟩) ?_;refine eo ?_;refine xj rfl rfl rfl rfl IQ (Hi (hI.ha.le (iL hd)) hI.sa j O) ?_;rintro v1 H3⟨rfl,rfl⟩;refine⟨kY.le (aD _),?_⟩;refine eo ?_;refine xj rfl rfl rfl rfl IQ (Hi (hI.hb.le (iL hd)) hI.sb g O) ?_;rintro v2 H3⟨rfl,rfl⟩;refine⟨kY.le (aD _),?_⟩;apply bo;simp only[go_sem,dV,E,T.dec_var];apply aN;obtain⟨i,hi⟩:∃i,i=min s.var t.var:=⟨_,rfl⟩;have C:(if ((t.var:Nat):Int)<((s.var:Nat):Int)then ((t.var:Nat):Int)else ((s.var:Nat):Int))=((i:Nat):Int):=by split<;>omega
    have d:i<24:=by
     rcases aK i 24 with h|h
     .exact h
     .exfalso;have h1:=T.var_le aq;have h2:=T.var_le ap;have h3:s.ok 24:=by cases s with
       |lf b=>trivial
       |nd v l r=>exact absurd hs.2.1 (by simp only[T.var]at *;omega)
      have h4:t.ok 24:=by cases t with
       |lf b=>trivial
       |nd v l r=>exact absurd ht.2.1 (by simp only[T.var]at *;omega)
      obtain⟨x,rfl⟩:=T.is_lf h3;obtain⟨y,rfl⟩:=T.is_lf h4;exact b2 ⟨by simp only[T.plc];split<;>omega,by simp only[T.plc];split<;>omega⟩
    have o:i<=s.var:=O;have m:i<=t.var:=O;have cA:k<=i:=by have:=T.var_ge hs K;have:=T.var_ge ht K;omega
    have pn:2^(n+1)=2^n+2^n:=by rw[uA];omega
    have pnn:0<2^n:=Nat.two_pow_pos n;have R:=T.dec_lo ta s o d;have V:=T.dec_hi ta s o d;have gI:=T.dec_lo tb t m d;have U:=T.dec_hi tb t m d;rw[T.dec_var]at R V gI U;cases c:decide (s.var=i)<;>cases a:decide (t.var=i)
    .simp only[CK]at c a;omega
    have els:T.plc ta (T.lo i s)=T.plc ta s:=by rw[<-R,ab (by simpa using c)]
    have ehs:T.plc ta (T.hi i s)=T.plc ta s:=by rw[<-V,ab (by simpa using c)]
    have elt:T.plc tb (T.lo i t)=(T.dec tb t).2.1:=by rw[<-gI,ah (by simpa using a)]
    have eht:T.plc tb (T.hi i t)=(T.dec tb t).2.2:=by rw[<-U,ah (by simpa using a)]
    apply RG;simp only[go_sem,dV,E,T.dec_var,C,sj,c,a]
    rotate_left
    have els:T.plc ta (T.lo i s)=(T.dec ta s).2.1:=by rw[<-R,ah (by simpa using c)]
    have ehs:T.plc ta (T.hi i s)=(T.dec ta s).2.2:=by rw[<-V,ah (by simpa using c)]
    have elt:T.plc tb (T.lo i t)=T.plc tb t:=by rw[<-gI,ab (by simpa using a)]
    have eht:T.plc tb (T.hi i t)=T.plc tb t:=by rw[<-U,ab (by simpa using a)]
    apply RG;simp only[go_sem,dV,E,T.dec_var,C,sj,c,a]
    rotate_left
    have els:T.plc ta (T.lo i s)=(T.dec ta s).2.1:=by rw[<-R,ah (by simpa using c)]
    have ehs:T.plc ta (T.hi i s)=(T.dec ta s).2.2:=by rw[<-V,ah (by simpa using c)]
    have elt:T.plc tb (T.lo i t)=(T.dec tb t).2.1:=by rw[<-gI,ah (by simpa using a)]
    have eht:T.plc tb (T.hi i t)=(T.dec tb t).2.2:=by rw[<-U,ah (by simpa using a)]
    apply RG;simp only[go_sem,dV,E,T.dec_var,C,sj,c,a];refine CZ mixed [0,1,2,3,4,5,6,7] [] [] [3] [5] [14,15] rfl rfl ?_;refine eo ?_;apply aN;apply RG;simp only[go_sem,sj,a]
    all_goals
     refine CZ mixed [0,1,2,3,4,5,6,7] [] [] [3] [5] [14,15] rfl rfl ?_;refine eo ?_;apply aN;apply RG;simp only[go_sem,sj,a];have c1:=ih (k:=i+1) (I:=I) (ms:=ms) (L:=L) O O (T.lo_ok hs O) (T.lo_ok ht O) (T.isIn_lo hI.sa j i) (T.isIn_lo hI.sb g i) hI ⟨_,N,rfl,⟨A,sv,r',Z,rfl,hA,bs,sq⟩,hN,B⟩ O;rw[els,elt]at c1;refine GH hd [0,1,2,3] rfl Eo rfl (F:=[]) rfl c1 ?_;rintro v1 I2 qs a4 am⟨Q,L1,bc,cs,an,rfl⟩;have a7:=hI.le am;simp only[Y]at a4 |-;apply RG;simp only[go_sem,E];refine rK mixed [0,1,2,3,4,5,6,7,8,9,10,11,12,13,14] [] [] [3] [12] I2 rfl rfl ?_;apply bo;simp only[go_sem,E];refine rI (l:=[_]) rfl (iL a4) rfl rfl rfl (bA a7.hp ao rfl) (.inr ⟨zS,rfl⟩) ?_;apply bo;simp only[go_sem,E];have c2:=ih (k:=i+1) (I:=I2) (ms:=ms++Q) (L:=L1) O O (T.hi_ok hs O) (T.hi_ok ht O) (T.isIn_hi hI.sa j i) (T.isIn_hi hI.sb g i) a7 bc (by simp only[aH];omega);rw[ehs,eht]at c2;obtain⟨E0,N1,rfl,cf,c0,b1⟩:=bc;obtain⟨A1,sv1,r1',M1,rfl,c4,ca,sq1⟩:=cf;refine GL a4 [0,1,2,3] rfl (fun _=>aD _) rfl Eo rfl (F:=[]) rfl c2 ?_;rintro v2 I3 qs bb ac⟨us2,L2,b6,cr,a2,rfl⟩;have cj:=a7.le ac;obtain⟨mk2,N2,rfl,cc,b8,X⟩:=b6;obtain⟨A2,sv2,r2',M2,rfl,cm,a6,sq2⟩:=cc;simp only[Y,aU,aQ]at bb |-;apply bo;simp only[go_sem,E];have c3:=Bm (mb:=mb) (I:=I3) (i:=i) ⟨A2,sv2,r2',M2,rfl,cm,a6,sq2⟩ d (T.opT_ok (f:=f) (T.lo_ok hs o) (T.lo_ok ht m) O) (T.opT_ok (f:=f) (T.hi_ok hs o) (T.hi_ok ht m) O) an.app a2 (by simp only[aH];omega);rw[T.plc_app an]at c3;refine GL bb [0,1,2,3] rfl (fun h=>by cases h) rfl AB rfl (F:=[N2]) rfl c3 ?_;rintro v3 I4 qs a3 aa⟨us3,cb,cp,P,rfl⟩;have ci:=cj.le aa
     obtain⟨A3,sv3,r3',M3,rfl,cl,a5,sq3⟩:=cb;simp only[aU,aQ]at a3 |-;apply bo;simp only[go_sem,E];apply aN;apply RG;simp only[go_sem,E];refine iH mixed [0,1,2,3,4,5,6] [3] [] rfl rfl ?_;apply bo;simp only[go_sem,E];refine Zn (l:=[_]) rfl (cellsU a3 (.head _) (bA ci.hp ao rfl)) (.inr ⟨De,rfl⟩) ?_;apply bo;simp only[go_sem,E];have aS:T.mk i (T.opT f (T.lo i s) (T.lo i t)) (T.opT f (T.hi i s) (T.hi i t))=T.opT f s t:=(T.opT_rec aq ap hi d).symm;rw[aS]at P |-;refine i8 a3 [3,0,1,2] fun b5=>?_;refine CW (by exact CP) (by exact EI) (key:=kV (T.plc ta s) (T.plc tb t)) (v:=E (T.plc (ms++Q++us2++us3) (T.opT f s t))) b5 rfl rfl rfl (.inl rfl) rfl rfl rfl b8 (by exact J) fun N3 b4 b7=>?_;apply aN;apply RG;simp only[go_sem,E];refine ak b4 [1,2,3,0] fun b3=>?_;have W:rE f ta tb (ms++Q++us2++us3) L2:=X.app;refine az rfl b3 (r:=[_]) rfl (D am (D ac aa)) ⟨Q++us2++us3,(s,t)::L2,?_,?_,?_,?_⟩
     .refine⟨_,N3,rfl,⟨A3,sv3,r3',M3,rfl,?_,?_,?_⟩,?_,?_⟩
      .simpa[cD]using cl
      .simpa[cD]using a5
      .simpa[cD]using sq3
      .refine b7.congr fun y u=>?_;have e1:=W7 W j g y u;rw[W6 X]at e1;simpa[cD]using e1
      .intro s' t' hm;rcases List.mem_cons.1 hm with e|hm
       .cases e;exact⟨j,g,by simpa[cD]using P⟩
       .simpa[cD]using W s' t' hm
     .simp only[aH];omega
     .simpa[cD]using P
     .simp[dY,E,cD]
def MJ(aa:zD fid S)(U:ay prog fid)(hS:zM S f){I:PH}{va vb:Value}{a b:T}(ha:bW I va a)(hb:bW I vb b):
  Zu 96 #[va,vb,.func (.func fid) #[] #[]] I [] fun v I2 G=>G=[]/\bW I2 v (T.opT f a b):=by
 intro hd;obtain⟨e,sla,rfl,R⟩:=ha;obtain⟨d,slb,rfl,Q⟩:=hb;refine fj func96 rfl (by simp[ntmps96]) fun w0=>?_;simp only[ntmps96,pt,E];apply RG;simp only[go_sem,E];refine iH mixed [1,2,0,3,4,5,6] [] [] rfl rfl ?_;apply bo;simp only[go_sem,E];refine GL hd [] rfl (fun h=>by cases h) rfl Ei rfl (F:=[]) rfl (E3 I) ?_;rintro v I2 G B i⟨mb,rfl,A,sv,r,Z,rfl,hA,hM,sq⟩;simp only[Y]at B |-;apply bo;simp only[go_sem,E,pt];refine CV 335 B rfl rfl fun q N ac hN=>?_;apply bo;simp only[go_sem,E,pt];apply aN;apply RG;simp only[go_sem,E,pt];refine jW 13 ac rfl fun pb X=>?_;refine aJ X fun I3 z g P=>?_;have hI:xd I3 pb mb q sla (E (T.plc (T.subs a) a)) slb (E (T.plc (T.subs b) b)) (T.subs a) (T.subs b):=
  ⟨P _ _ (gZ _ _),(R.le i).le g,(Q.le i).le g,T.subs_seq e,T.subs_seq d,by have:=T.subs_len e;omega,by have:=T.subs_len d;omega⟩
 apply RG;simp only[go_sem,E,pt];refine rK mixed [0,1,2,3,4,5,6,7,8,9,10,11,12] [] [] [3] [10] I3 rfl rfl ?_;apply bo;simp only[go_sem,E,pt];refine rI (l:=[_]) rfl (iL z) rfl rfl rfl (bA hI.hp ao rfl) (.inr ⟨zS,rfl⟩) ?_;apply bo;simp only[go_sem,E,pt];refine i8 z [1,2,3,0] fun W=>?_;have c1:=TI aa U hS (pb:=pb) (mb:=mb) (q:=q) 24 (k:=0) (s:=a) (t:=b) (ms:=[]) (L:=[]) (I:=I3) O O e d (T.subs_in e) (T.subs_in d) hI ⟨_,N,rfl,⟨A,sv,r,Z,rfl,hA,hM,sq⟩,hN.congr fun y u=>⟨fun⟨_,_,h,_⟩=>absurd h dJ,fun h=>h.elim⟩,fun s t h=>absurd h dJ⟩ ao;refine GL W [0,1,2,3] rfl (fun _=>aD _) rfl Eo rfl (F:=[]) rfl c1 ?_;rintro v1 I4 G x o⟨us,L2,hP,hn,p,rfl⟩;obtain⟨mk,N2,rfl,am,ap,_⟩:=hP;obtain⟨A2,H,r2,M2,rfl,an,C,J⟩:=am;simp only[Y,aQ,aU]at x p |-;apply bo;simp only[go_sem,E,pt];have c2:=DP (mb:=mb) (I:=I4) ⟨A2,H,r2,M2,rfl,an,C,J⟩ p (T.opT_ok e d O) (by simp only[aQ];omega);refine GL x [0,1,2,3] rfl (fun h=>by cases h) rfl Ej rfl (F:=[N2]) rfl c2 ?_;rintro v2 I5 G w n⟨rfl,hr⟩;simp only[aQ]at w |-;obtain⟨K,slr,rfl,⟨za,zc,rfl,hz⟩⟩:=hr;apply bo;simp only[go_sem,E,pt];apply aN;apply RG;simp only[go_sem,E,pt];refine aJ (c:=.st _) w fun I6 V j _=>?_;refine az rfl V (r:=[.agg #[.slice za (T.subs (T.opT f a b)).length zc,E (T.plc (T.subs (T.opT f a b)) (T.opT f a b))]]) (by simp only[results96,go_sem,E]) (D i (D g (D o (D n j)))) ⟨rfl,K,_,rfl,kA.le ⟨za,zc,rfl,hz⟩ j⟩
def Qt:ay prog 127:=⟨_,func127,rfl,rfl⟩
end Go.Proofs.YtfaclfkpnmcmlaaGreatDoor
namespace Go.Sx
def a8.get{H:PH}{b off:Nat}{l:Zo}(h:a8 H b off l){i:Nat}{x:Value}(a:l[i]?=some x):a8 H b (off+i) [x]:=by
 have hi:i<l.length:=by
  rcases aK i l.length with h|h
  .exact h
  .rw[fp h]at a;cases a
 have:=h.sub i 1 O;have e:(l.drop i).take 1=[x]:=by rw[jz hi];rw[aY hi]at a;simp[cX a]
 rw[e]at this;exact this
end Go.Sx
namespace Go.Proofs.YtfaclfkpnmcmlaaGreatDoor
open Go Go.Sx Dg
variable{Z:Zr}
def Oc{t:T}(h:T.isIn Z t):(T.lf false::T.lf true::Z)[T.plc Z t]?=some t:=by
 cases t with
 |lf b=>cases b<;>rfl
 |nd v l r=>have hm:T.nd v l r∈Z:=h;simp only[T.plc,wM];rw[aY (ux hm)];simp
def vT(ms Z:Zr):Zo:=(T.lf false::T.lf true::Z).map fun t=>E (T.plc ms t.not)
def E8{ms:Zr}{t:T}(h:T.isIn Z t):(vT ms Z)[T.plc Z t]?=some (E (T.plc ms t.not)):=by unfold vT;rw[iZ,Oc h];rfl
def KP{j:Nat}{t:T}(h:T.isIn (Z.take j) t):T.plc Z t=T.plc (Z.take j) t:=by
 have:=T.plc_app (us:=Z.drop j) h
 rwa [pG]at this
def SQ{ms us:Zr}(h:∀t,T.isIn us t->T.isIn ms t.not){v:Nat}{l r:T}(a:T.isIn ms (T.nd v l r).not)(t:T)(ht:T.isIn (us++[.nd v l r]) t):T.isIn ms t.not:=by
 rcases AK.1 ht with h1|rfl
 .exact h t h1
 .exact a
def vh(mb:Nat)(sl b:Value)(n:Nat)(a:Nat×Value):St:=
 ⟨sp 0 45 [(3,.v (.func (.func 125) #[pt mb] #[])),(4,.p 4 0),(9,.v a.2),(16,.v sl),(17,.v (.int .i64 n)),(18,.v (.int .i64 a.1))],[⟨4,50,[sl,b]⟩]⟩
def Qi(mb:Nat)(Z:Zr)(b:PH)(a:Nat×Value)(H:PH):Prop:=
 ∃I A mk ms,H=U (I::A::mk)/\Dj (I::A::mk)/\b.le I/\a.1<=Z.length/\dH A 3 1 a.2 (a.1+2) (vT ms (Z.take a.1))/\pJ mb ms mk/\ms.length<=a.1/\∀t,T.isIn (Z.take a.1) t->T.isIn ms t.not
variable{I:PH}
def Qj{mb:Nat}{ps:Zt}{t:T}{sl:Value}(G:t.ok 0)(hL:kA I sl (T.subs t))(hM:pJ mb [] ps):
  Zu 127 #[.agg #[sl,E (T.plc (T.subs t) t)],.int .i64 1,.int .i64 0,.func (.func 125) #[pt mb] #[]] I ps fun v I2 qs=>∃ms,pJ mb ms qs/\T.isIn ms t.not/\v=E (T.plc ms t.not)/\ms.length<2^24:=by
 intro hd;obtain⟨za,zc,rfl,hz⟩:=hL;have bb:=T.subs_len G;have C:=T.subs_seq G;have K:=T.subs_in G;refine fj func127 rfl (by simp[ntmps127]) fun w0=>?_;simp only[ntmps127,pt,E];refine ai ?_;refine rG hd kl rfl rfl rfl rfl rfl af fun b A b1 hA=>?_;refine ai ?_;refine bV (fun a=>(T.subs t).length-a.1) (vh mb (.slice za (T.subs t).length zc) (E (T.plc (T.subs t) t)) (T.subs t).length) (Qi mb (T.subs t) I) (0,.slice (some ⟨b,0,none⟩) 2 2) (by simp only[go_sem,Y,vh,E,pt]) (by simp only[go_sem,Y,vh,E]) ?_ ?_
 .exact⟨I,A,ps,[],rfl,b1,aD _,aE _,hA,hM,by simp,fun t ht=>by cases t<;>simp_all[T.isIn,T.not]⟩
 rintro⟨j,sv⟩ H ⟨I1,A1,mk,ms,rfl,o,k,hj,q,L,ba,d⟩ J;simp only at hj q ba d;simp only[vh];rcases aK j (T.subs t).length with f|b8
 .have N:decide ((j:Int)<((T.subs t).length:Int))=true:=by simp;omega
  rcases hz with h0|⟨lb,rfl,hc⟩
  .rw[h0]at f;simp at f
  obtain⟨u,hu⟩:∃u,(T.subs t)[j]?=some u:=⟨_,aY f⟩;obtain⟨v,l,r,rfl,s,z,y⟩:=C.2 j u hu;apply RG;simp only[go_sem,N,E,pt];refine⟨⟨O,O⟩,?_⟩;have p:=hc.sub (j*3) 3 (by have:=wB (T.subs t);omega);rw[wA hu,g8]at p;refine Zm (l:=ii (T.dec (T.subs t) (.nd v l r))) (v:=dV (T.dec (T.subs t) (.nd v l r))) rfl (cellsU o (.head _) (p.le k)) (.inl ⟨pX,rfl⟩) ?_;obtain⟨g,cap,rfl,Z⟩:=q.cellsU o (.tail _ (.head _)) O;apply RG;simp only[go_sem,dV,E,pt,T.dec];refine iH mixed [0,1,2,3,4,5,6,7,8,9,10,11,12,13,14,15,16,17] [8,13] [] rfl rfl ?_;apply bo;simp only[go_sem,E,pt];have pl:=T.plc_lt z;have pr:=T.plc_lt y;have tl:((T.subs t).take j).length=j:=by simp;omega
  rw[tl]at pl pr;have el:=KP z;have er:=KP y;have cl:=Z.get (E8 z);have cr:=Z.get (E8 y);rw[g8,<-el]at cl;rw[g8,<-er]at cr;refine⟨⟨O,O⟩,?_⟩;refine Zn (l:=[E (T.plc ms l.not)]) rfl (by simpa using cl) (.inr ⟨eR,rfl⟩) ?_;apply bo;simp only[go_sem,E,pt];refine⟨⟨O,O⟩,?_⟩;refine Zn (l:=[E (T.plc ms r.not)]) rfl (by simpa using cr) (.inr ⟨eR,rfl⟩) ?_;apply bo;simp only[go_sem,E,pt];have c1:=Bm (mb:=mb) (I:=I1) (i:=v) L s.2.1 (T.not_ok s.2.2.2.1) (T.not_ok s.2.2.2.2) (d l z) (d r y) O;obtain⟨mA,mS,mR,mM,rfl,b7,b6,b5⟩:=L;refine GL o [1,2,3,0] rfl (fun h=>by cases h) rfl AB rfl (F:=[A1]) rfl c1 ?_;rintro v1 I2 qs ac V⟨us,b2,b4,W,rfl⟩;obtain⟨nA,nS,nR,nM,rfl,a9,a0,aS⟩:=b2;simp only[aU,aQ]at ac |-;apply bo;simp only[go_sem,E,pt];refine iu ac kl rfl rfl rfl rfl rfl af fun nb I3 b0 U aq=>?_;apply bo;simp only[go_sem,E,pt];refine i8 b0 [3,0,1,2] fun aa=>?_;have b3:dH A1 3 1 (.slice (some ⟨g,0,none⟩) (j+2) cap) (j+2) (vT (ms++us) ((T.subs t).take j)):=q.xs rfl (by
   unfold vT;refine nu fun x B=>?_;have:T.isIn ms x.not:=by
    rcases List.mem_cons.1 B with rfl|B
    .trivial
    .rcases List.mem_cons.1 B with rfl|B
     .trivial
     .exact d x (SR ⟨(C.1.sublist (List.take_sublist j _)),fun i u w=>by
       rw[CI]at w;split at w
       .obtain⟨a1,a2,a3,a4,a5,a6,a7⟩:=C.2 i u w;rename_i X;exact⟨a1,a2,a3,a4,a5,by rw[ou,jB (lM X)];exact a6,by rw[ou,jB (lM X)];exact a7⟩
       .cases w⟩ B)
   rw[T.plc_app this])
  refine xi (m:=1) aa kl b3 rfl rfl rfl rfl rfl rfl (cellsU aa (.head _) (bA (l:=[E (T.plc (ms++us) (T.mk v l.not r.not))]) aq (by simp[ax,Value.cells]) (by simp[ax,Value.cells,E]))) rfl rfl O (by unfold maxLen;omega) fun v' I4 A4 bx S am=>?_;obtain⟨a4,c4,rfl⟩:=am.slice;apply bo;simp only[go_sem,E,pt];apply aN;have hw:=wrap64 (n:=j+1) O;have an:IntKind.i64.wrap ((j:Int)+1)=((j+1:Nat):Int):=by rw[<-hw];congr 1
  apply RG;simp only[go_sem,E,pt,an];have Q:T.mk v l.not r.not=(T.nd v l r).not:=by simp only[T.mk,T.not];rw[ab];intro e;apply s.2.2.1;rw[<-T.not_not l,e,T.not_not]
  have P:(T.subs t).take (j+1)=(T.subs t).take j++[T.nd v l r]:=by rw[pH f];congr 1;rw[aY f]at hu;rw[cX hu]
  refine J (j+1,.slice a4 (j+2+1) c4) _ _ bi (by simp only[go_sem,Y,vh,E,pt]) (by simp only[go_sem,Y,vh,E]) ⟨I4,A4,_,ms++us,rfl,bx,D k (D V (D U S)),f,am.xs O ?_,⟨nA,nS,nR,nM,rfl,a9,a0,aS⟩,by simp only[aH];omega,?_⟩
  .simp only;rw[P];simp[vT,Q]
  .simp only;rw[P];exact SQ (fun x B=>(d x B).app) (by rw[<-Q];exact W)
 .have N:decide ((j:Int)<((T.subs t).length:Int))=false:=by simp;omega
  obtain⟨g,cap,rfl,Z⟩:=q.cellsU o (.tail _ (.head _)) O;have bc:j=(T.subs t).length:=O;subst bc;rw[dK]at Z d q;have pt':=T.plc_lt K;have ct:=Z.get (E8 K);rw[g8]at ct;apply RG;simp only[go_sem,N,E];refine⟨⟨O,O⟩,?_⟩;refine Zm (l:=[E (T.plc ms t.not)]) rfl (by simpa using ct) (.inr ⟨eR,rfl⟩) ?_;apply RG;simp only[go_sem,E];refine aJ (c:=.st _) (A:=A1) o fun I5 bs R _=>?_;exact az rfl bs (r:=[_]) rfl (D k R) ⟨ms,L,d t K,rfl,O⟩
def Ji:ay prog 96:=⟨_,func96,rfl,rfl⟩
def QD:ay prog 163:=⟨_,func163,rfl,rfl⟩
def RJ:ay prog 97:=⟨_,func97,rfl,rfl⟩
def ls:ay prog 94:=⟨_,func94,rfl,rfl⟩
def qo:ay prog 39:=⟨_,func39,rfl,rfl⟩
def qp:ay prog 71:=⟨_,func71,rfl,rfl⟩
def jj:ay prog 50:=⟨_,func50,rfl,rfl⟩
def Jb:ay prog 68:=⟨_,func68,rfl,rfl⟩
def xP:ay prog 27:=⟨_,func27,rfl,rfl⟩
def tK:ay prog 80:=⟨_,func80,rfl,rfl⟩
def bW.shape{v:Value}{t:T}(h:bW I v t):∃a c,v=.agg #[.slice a (T.subs t).length c,E (T.plc (T.subs t) t)]:=by obtain⟨_,sl,rfl,a,c,rfl,_⟩:=h;exact⟨a,c,rfl⟩
variable{va:Value}
def ln{vb:Value}{a b:T}(ha:bW I va a)(hb:bW I vb b):Zu 94 #[va,vb] I [] fun v f e=>e=[]/\bW f v (a.and b):=by intro hd;obtain⟨k,m,rfl⟩:=ha.shape;obtain⟨j,l,rfl⟩:=hb.shape;refine fj func94 rfl (by simp[ntmps94]) fun w0=>?_;simp only[ntmps94,E];apply RG;simp only[go_sem,E];refine GH hd [] rfl Ji rfl (F:=[]) rfl (MJ OA QD WV ha hb) ?_;rintro v f e d c⟨rfl,hr⟩;obtain⟨g,i,rfl⟩:=hr.shape;simp only[Y]at d |-;apply RG;simp only[go_sem,E];exact az rfl d (r:=[.agg #[.slice g (T.subs (a.and b)).length i,E (T.plc (T.subs (a.and b)) (a.and b))]]) (by simp only[results94,go_sem,E,T.and_eq]) c ⟨rfl,hr⟩
def qG{vb:Value}{a b:T}(ha:bW I va a)(hb:bW I vb b):Zu 39 #[va,vb] I [] fun v f e=>e=[]/\bW f v (a.or b):=by intro hd;obtain⟨k,m,rfl⟩:=ha.shape;obtain⟨j,l,rfl⟩:=hb.shape;refine fj func39 rfl (by simp[ntmps39]) fun w0=>?_;simp only[ntmps39,E];apply RG;simp only[go_sem,E];refine GH hd [] rfl Ji rfl (F:=[]) rfl (MJ Px RJ WW ha hb) ?_;rintro v f e d c⟨rfl,hr⟩;obtain⟨g,i,rfl⟩:=hr.shape;simp only[Y]at d |-;apply RG;simp only[go_sem,E];exact az rfl d (r:=[.agg #[.slice g (T.subs (a.or b)).length i,E (T.plc (T.subs (a.or b)) (a.or b))]]) (by simp only[results39,go_sem,E,T.or_eq]) c ⟨rfl,hr⟩
def qA{a:T}(ha:bW I va a):Zu 71 #[va] I [] fun v q l=>l=[]/\bW q v a.not:=by intro hd;obtain⟨c,sla,rfl,g⟩:=ha;obtain⟨z,J,rfl,G⟩:=id g;refine fj func71 rfl (by simp[ntmps71]) fun w0=>?_;simp only[ntmps71,E];apply RG;simp only[go_sem,E];refine GH hd [] rfl Ei rfl (F:=[]) rfl (E3 I) ?_;rintro v q l j b⟨mb,rfl,p⟩;obtain⟨A,sv,r,Z,rfl,H,w,sq⟩:=id p;simp only[Y]at j |-;apply RG;simp only[go_sem,E,pt];refine GH j [0,1,2] rfl Qt rfl (F:=[]) rfl (Qj (mb:=mb) c (g.le b) p) ?_;rintro B N l i f⟨ms,k,m,rfl,n⟩;obtain⟨P,t,C,K,rfl,x,o,u⟩:=id k;simp only[Y]at i |-;apply RG;simp only[go_sem,E,pt];refine GH i [0,1,2] rfl Ej rfl (F:=[]) rfl (DP (mb:=mb) k m (T.not_ok c) O) ?_;rintro v2 L l h e⟨rfl,hr⟩;obtain⟨s,y,rfl⟩:=hr.shape;simp only[Y]at h |-;apply RG;simp only[go_sem,E];exact az rfl h (r:=[.agg #[.slice s (T.subs a.not).length y,E (T.plc (T.subs a.not) a.not)]]) (by simp only[results71,go_sem,E]) (D b (D f e)) ⟨rfl,hr⟩
end Go.Proofs.YtfaclfkpnmcmlaaGreatDoor
