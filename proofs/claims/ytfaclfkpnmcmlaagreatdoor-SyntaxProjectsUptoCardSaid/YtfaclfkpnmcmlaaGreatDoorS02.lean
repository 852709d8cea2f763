import Derived.Test.YtfaclfkpnmcmlaaGreatDoorS00
import Derived.Test.YtfaclfkpnmcmlaaGreatDoorS01
import Derived.Lib.AppendZerosOnto
import Derived.Lib.Overlaps
import Derived.Laws.CopyRow
import Derived.Laws.AppendOwn
import Derived.Test.YtfaclfkpnmcmlaaGreatDoorProg
import Derived.KernelRfl
import Derived.DeepKeys4
set_option maxHeartbeats 8000000
set_option linter.all false
namespace Go.Sx
open Go
def PH.no:PH:=fun _=>none
def PH.uni(A B:PH):PH:=fun b=>match A b with
 |some o=>some o
 |none=>B b
def PH.disj(A B:PH):Prop:=∀b,A b=none\/B b=none
theorem PH.disj.symm{A B:PH}(h:A.disj B):B.disj A:=fun b=>(h b).symm
theorem PH.disj.left{A B:PH}(h:A.disj B){b:Nat}{o:Obj}(hb:A b=some o):B b=none:=by
 rcases h b with e|e
 ·rw[e]at hb;cases hb
 ·exact e
theorem PH.uni_no(A:PH):A.uni PH.no=A:=by funext b;simp only[PH.uni,PH.no];split<;>simp_all
theorem PH.uni_some {A B : PH} (h : A.disj B) {b : Nat} {o : Obj} : (A.uni B) b = some o ↔ A b = some o ∨ B b = some o := by
  unfold PH.uni
  cases hA : A b with
  | some x => simp only; constructor
              · exact .inl
              · rintro (e | e)
                · exact e
                · rw [h.left hA] at e; cases e
  | none => simp
theorem PH.uni_none{A B:PH}{b:Nat}:(A.uni B) b=none<->A b=none/\B b=none:=by
 unfold PH.uni;cases A b<;>simp
theorem PH.le_uni(A B:PH):A.le (A.uni B):=fun b o h=>by simp[PH.uni,h]
theorem PH.le_uni_r{A B:PH}(h:A.disj B):B.le (A.uni B):=fun b o hb=>(PH.uni_some h).2 (.inr hb)
theorem PH.ext_some{A B:PH}(h:∀b o,A b=some o<->B b=some o):A=B:=by
 funext b;cases hA:A b with
 |some o=>exact((h b o).1 hA).symm
 |none=>cases hB:B b with
  |none=>rfl
  |some o=>rw[(h b o).2 hB]at hA;cases hA
def U:List PH->PH
 | []=>PH.no
 |A::l=>A.uni (U l)
def Dj(l:List PH):Prop:=l.Pairwise PH.disj
theorem ln{l:List PH}{b:Nat}:U l b=none<->∀A∈l,A b=none:=by
 induction l with
 |nil=>simp[U,PH.no]
 |cons A l ih=>simp only[U,PH.uni_none,ih,Su,forall_eq_or_imp]
theorem Dj.head{A:PH}{l:List PH}(h:Dj (A::l)):A.disj (U l):=fun b=>by
 cases hA:A b with
 |none=>exact .inl rfl
 |some o=>exact .inr (ln.2 fun B hB=>((List.pairwise_cons.1 h).1 B hB).left hA)
theorem Dj.tail{A:PH}{l:List PH}(h:Dj (A::l)):Dj l:=(List.pairwise_cons.1 h).2
theorem Dj.cons{A:PH}{l:List PH}(h:Dj l)(ha:A.disj (U l)):Dj (A::l):=
 List.pairwise_cons.2 ⟨fun B hB b=>by
  rcases ha b with e|e
  ·exact .inl e
  ·exact .inr (ln.1 e B hB),h⟩
theorem lw{l:List PH}(hd:Dj l){b:Nat}{o:Obj}:U l b=some o<->∃A∈l,A b=some o:=by
 induction l with
 |nil=>simp[U,PH.no]
 |cons A l ih=>simp only[U,PH.uni_some hd.head,ih hd.tail,Su,exists_eq_or_imp]
theorem lr{l m:List PH}(hp:l.Perm m)(hd:Dj l):U l=U m/\Dj m:=by
 have hm:Dj m:=(hp.pairwise_iff (fun{a b} h=>PH.disj.symm h)).1 hd;exact⟨PH.ext_some fun b o=>by rw[lw hd,lw hm];exact⟨fun⟨A,a,c⟩=>⟨A,hp.mem_iff.1 a,c⟩,fun⟨A,a,c⟩=>⟨A,hp.mem_iff.2 a,c⟩⟩,hm⟩
theorem vG(l m:List PH):U (l++m)=(U l).uni (U m):=by
 induction l with
 |nil=>funext b;simp[U,PH.no,PH.uni]
 |cons A l ih=>rw[SS,U,U,ih];funext b;simp only[PH.uni];cases A b<;>rfl
theorem l9{l m:List PH}:Dj (l++m)<->Dj l/\Dj m/\(U l).disj (U m):=by
 unfold Dj;rw[List.pairwise_append];constructor
 ·rintro⟨a,b,c⟩;refine⟨a,b,fun k=>?_⟩;cases hU:U l k with
  |none=>exact .inl rfl
  |some o=>
   obtain⟨A,hA,hk⟩:=(lw a).1 hU;exact .inr (ln.2 fun B hB=>(c A hA B hB).left hk)
 ·rintro⟨a,b,c⟩;refine⟨a,b,fun A hA B hB k=>?_⟩;rcases c k with e|e
  ·exact .inl (ln.1 e A hA)
  ·exact .inr (ln.1 e B hB)
theorem zM{l:List PH}(hd:Dj l){A:PH}(h:A∈l):A.le (U l):=fun b o hb=>(lw hd).2 ⟨A,h,hb⟩
def uv(l:List PH):List Nat->List PH
 | []=>[]
 |i::is=>l.getD i PH.no::uv l is
theorem lY{l:List PH}{is:List Nat}(h:is.isPerm (List.range l.length)=true):l.Perm (uv l is):=by
 have h2:=List.isPerm_iff.1 h;have e:∀is:List Nat,uv l is=is.map fun i=>l.getD i PH.no:=by
  intro is;induction is with
  |nil=>rfl
  |cons i is ih=>simp[uv,ih]
 rw[e];refine List.Perm.trans ?_ (h2.map _).symm;have:(List.range l.length).map (fun i=>l.getD i PH.no)=l:=by
  apply List.ext_getElem
  ·simp
  ·intro i h1 h2;simp at h1;simp[List.getD,SC h1]
 rw[this]
theorem bv.frame{P:Program}{f:FuncId}{args:Array Value}{A F:PH}{Φ:Value->PH->Prop}(hd:A.disj F)(h:bv P f args A Φ):bv P f args (A.uni F) fun v H2=>∃A2,H2=A2.uni F/\A2.disj F/\Φ v A2:=by
 intro w s;refine(h w (s.of_le (PH.le_uni A F))).mono fun e w2 he=>?_;cases e with
 |outgrown=>exact he
 |panicked c=>exact he
 |returned v=>
  obtain⟨A2,st,hp⟩:=he;have inF:∀b o,F b=some o->w.heap[b]?=some o/\A b=none:=fun b o hb=>⟨s _ _ ((PH.uni_some hd).2 (.inr hb)),hd.symm.left hb⟩;have aa:A2.disj F:=fun b=>by
   cases hF:F b with
   |none=>exact .inr rfl
   |some o=>obtain⟨h1,h2⟩:=inF b o hF;exact .inl (st.dom b (dt h1) h2)
  refine⟨A2.uni F,⟨fun b o hb=>?_,st.size,fun b hb hn=>st.priv b hb (PH.uni_none.1 hn).1,fun b hb hn=>PH.uni_none.2 ⟨st.dom b hb (PH.uni_none.1 hn).1,(PH.uni_none.1 hn).2⟩,st.os,st.tape,st.out⟩,A2,rfl,aa,hp⟩;rcases(PH.uni_some aa).1 hb with e|e
  ·exact st.sub _ _ e
  ·obtain⟨h1,h2⟩:=inF b o e;rw[st.priv b (dt h1) h2];exact h1
def aO(P:Program)(f:FuncId)(args:Array Value)(I:PH)(ps:List PH)(Ψ:Value->PH->List PH->Prop):Prop:=
 Dj (I::ps)->bv P f args (U (I::ps)) fun v H2=>∃I2 qs,H2=U (I2::qs)/\Dj (I2::qs)/\I.le I2/\Ψ v I2 qs
theorem aO.mono{P:Program}{f:FuncId}{args:Array Value}{I:PH}{ps:List PH}{Ψ Ψ':Value->PH->List PH->Prop}(h:aO P f args I ps Ψ)(k:∀v I2 qs,I.le I2->Ψ v I2 qs->Ψ' v I2 qs):aO P f args I ps Ψ':=
 fun hd=>(h hd).mono fun v H2 ⟨I2,qs,a,b,c,d⟩=>⟨I2,qs,a,b,c,k _ _ _ c d⟩
theorem bv.toI{P:Program}{f:FuncId}{args:Array Value}{I:PH}{Φ:Value->PH->Prop}(h:bv P f args I fun v I2=>I.le I2/\Φ v I2):aO P f args I [] fun v I2 qs=>qs=[]/\Φ v I2:=by
 intro _;rw[show U [I]=I from PH.uni_no I];exact h.mono fun v H2 ⟨a,b⟩=>⟨H2,[],(PH.uni_no H2).symm,Th _ _,a,rfl,b⟩
theorem aO.frame{P:Program}{f:FuncId}{args:Array Value}{I:PH}{ps F:List PH}{Ψ:Value->PH->List PH->Prop}(h:aO P f args I ps Ψ)(hd:Dj (I::ps++F)):
  bv P f args (U (I::ps++F)) fun v H2=>∃I2 qs,H2=U (I2::qs++F)/\Dj (I2::qs++F)/\I.le I2/\Ψ v I2 qs:=by
 obtain⟨d1,d2,d3⟩:=l9.1 hd;rw[vG];refine((h d1).frame d3).mono fun v H2 ⟨A2,e,dd,I2,qs,a,b,c,d⟩=>?_;subst a;exact⟨I2,qs,by rw[e,vG],l9.2 ⟨b,d2,dd⟩,c,d⟩
section
variable {C:Cx} {P:Program} {k:List Item} {σ:St} {H:PH}
theorem ad{ol rem:List Oper}{o:Oper}{x:Operand}{aq:Array Operand}{ts:Array TypeId}{f:FuncId}{vs:List Value}{first cap:Array Value}{I:PH}{l ps F:List PH}{Ψ:Value->PH->List PH->Prop}(hd:Dj (I::l))(is:List Nat)(hw:aG ol σ o=some true)(aa:o.op=.call ⟨.value x,aq,ts⟩)
  (hx:ev σ x=.v (.func (.func f) first cap)) (ha:ji (ev σ) aq.toList=some vs) (hg:aP C.P f) (hi:is.isPerm (List.range l.length)=true) (hl:uv l is=ps++F) (h:aO C.P f (first++vs.toArray++cap) I ps Ψ)
  (hk:∀v I2 qs,Dj (I2::qs++F)->I.le I2->Ψ v I2 qs->RC C (.op ol rem k) (σ.put o.dst (.v v)) (U (I2::qs++F))):RC C (.op ol (o::rem) k) σ (U (I::l)):=by
 obtain⟨e,d⟩:=lr ((lY hi).cons I) hd;rw[hl]at e d;rw[e];exact aD hw aa hx ha hg (h.frame d) fun v H2 ⟨I2,qs,a,b,c,d⟩=>by subst a;exact hk v I2 qs b c d
theorem NB{ol rem:List Oper}{o:Oper}{x:Operand}{aq:Array Operand}{ts:Array TypeId}{f:FuncId}{vs:List Value}{first cap:Array Value}{I:PH}{l ps F:List PH}{Ψ:Value->PH->List PH->Prop}(hd:Dj (I::l))(is:List Nat)(hq:(aG ol σ o,o.op,ev σ x,ji (ev σ) aq.toList)=(some true,Op.call ⟨.value x,aq,ts⟩,SV.v (.func (.func f) first cap),some vs))(hg:aP C.P f)(hi:is.isPerm (List.range l.length)=true)(hl:uv l is=ps++F)(h:aO C.P f (first++vs.toArray++cap) I ps Ψ)
  (hk:∀v I2 qs,Dj (I2::qs++F)->I.le I2->Ψ v I2 qs->RC C (.op ol rem k) (σ.put o.dst (.v v)) (U (I2::qs++F))):RC C (.op ol (o::rem) k) σ (U (I::l)):=by
 simp only[S3]at hq;exact ad hd is hq.1 hq.2.1 hq.2.2.1 hq.2.2.2 hg hi hl h hk
theorem ar{ol:List Oper}{fr:gW}{str:gR}{i:Nat}{lo:List (Nat×Oper)}{o:Oper}{x:Operand}{aq:Array Operand}{ts:Array TypeId}{f:FuncId}{vs:List Value}{first cap:Array Value}{I:PH}{l ps F:List PH}{Ψ:Value->PH->List PH->Prop}(hd:Dj (I::l))(is:List Nat)(hs:str.h.contains i=false)(aa:str.j.contains i=true->fr.J.le I)(hw:aG ol σ o=some true)(ac:o.op=.call ⟨.value x,aq,ts⟩)
  (hx:ev σ x=.v (.func (.func f) first cap)) (ha:ji (ev σ) aq.toList=some vs) (hg:aP C.P f) (hi:is.isPerm (List.range l.length)=true) (hl:uv l is=ps++F) (h:aO C.P f (first++vs.toArray++cap) I ps Ψ)
  (hk:∀v I2 qs,Dj (I2::qs++F)->I.le I2->Ψ v I2 qs->RD C ol fr str lo k (σ.put o.dst (.v v)) (U (I2::qs++F))):RD C ol fr str ((i,o)::lo) k σ (U (I::l)):=by
 obtain⟨e,d⟩:=lr ((lY hi).cons I) hd;rw[hl]at e d;rw[e];exact pi hw ac hx ha hg (h.frame d) fun v H2 ⟨I2,qs,a,b,c,d⟩=>⟨⟨fun hh=>Bool.noConfusion (hs.symm.trans hh),fun hj _=>by subst a;exact Ui (aa hj) (Ui c (zM b (.head _)))⟩,by subst a;exact hk v I2 qs b c d⟩
theorem Og{ol:List Oper}{fr:gW}{str:gR}{i:Nat}{lo:List (Nat×Oper)}{o:Oper}{x:Operand}{aq:Array Operand}{ts:Array TypeId}{f:FuncId}{vs:List Value}{first cap:Array Value}{I:PH}{l ps F:List PH}{Ψ:Value->PH->List PH->Prop}(hd:Dj (I::l))(is:List Nat)(hs:str.h.contains i=false)(aa:str.j.contains i=true->fr.J.le I)(hq:(aG ol σ o,o.op,ev σ x,ji (ev σ) aq.toList)=(some true,Op.call ⟨.value x,aq,ts⟩,SV.v (.func (.func f) first cap),some vs))(hg:aP C.P f)(hi:is.isPerm (List.range l.length)=true)(hl:uv l is=ps++F)(h:aO C.P f (first++vs.toArray++cap) I ps Ψ)
  (hk:∀v I2 qs,Dj (I2::qs++F)->I.le I2->Ψ v I2 qs->RD C ol fr str lo k (σ.put o.dst (.v v)) (U (I2::qs++F))):RD C ol fr str ((i,o)::lo) k σ (U (I::l)):=by
 simp only[S3]at hq;exact ar hd is hs aa hq.1 hq.2.1 hq.2.2.1 hq.2.2.2 hg hi hl h hk
theorem ai{r:List Value}{I I2:PH}{qs:List PH}{Ψ:Value->PH->List PH->Prop}(aa:C.post=fun v H2=>∃I2 qs,H2=U (I2::qs)/\Dj (I2::qs)/\I.le I2/\Ψ v I2 qs)(hd:Dj (I2::qs))(h:tW C.P σ C.fn.results.toList=some r)(ac:I.le I2)(hp:Ψ (eN r) I2 qs):R C (.code .ret::k) σ (U (I2::qs)):=
 aK h (by rw[aa];exact⟨I2,qs,rfl,hd,ac,hp⟩)
end
def sg(b:Nat)(o:Obj):PH:=fun c=>if c=b then some o else none
theorem JV{b c:Nat}{o x:Obj}:sg b o c=some x<->c=b/\o=x:=by unfold sg;split<;>simp_all
theorem cP(b:Nat)(o:Obj):sg b o b=some o:=by simp[sg]
theorem Ic{l:List PH}(hd:Dj l){b:Nat}{o:Obj}(h:U l b=none):(U l).put b o=U (sg b o::l)/\Dj (sg b o::l):=by
 constructor
 ·funext c;simp only[PH.put,U,PH.uni,sg];split<;>simp
 ·exact hd.cons fun c=>by
   by_cases e:c=b
   ·subst e;exact .inr h
   ·exact .inl (by simp[sg,e])
theorem freeze{I A:PH}{l:List PH}(hd:Dj (I::A::l)):U (I::A::l)=U (I.uni A::l)/\Dj (I.uni A::l):=by
 constructor
 ·funext c;simp only[U,PH.uni];cases I c<;>rfl
 ·refine hd.tail.tail.cons fun c=>?_;rcases hd.head c with h1|h1
  ·rcases hd.tail.head c with h2|h2
   ·exact .inl (PH.uni_none.2 ⟨h1,h2⟩)
   ·exact .inr h2
  ·exact .inr (PH.uni_none.1 h1).2
theorem mD{I:PH}{l:List PH}(hd:Dj (I::l)){A:PH}(h:A∈l):I.disj A:=(List.pairwise_cons.1 hd).1 A h
theorem cD{I:PH}{l:List PH}(hd:Dj (I::l)):I.le (U (I::l)):=zM hd (.head _)
theorem cw{I A:PH}{l:List PH}(hd:Dj (I::A::l)):A.le (U (I::A::l)):=zM hd (.tail _ (.head _))
theorem MH{I:PH}{ps:List PH}{H2:PH}(hd:Dj (I::ps))(aa:(U (I::ps)).le H2):∃I2,H2=U (I2::ps)/\Dj (I2::ps)/\I.le I2:=by
 refine⟨fun b=>if (U ps b).isSome then none else H2 b,?_,hd.tail.cons fun b=>?_,fun b o hb=>?_⟩
 ·funext b;simp only[U,PH.uni];cases hU:U ps b with
  |none=>simp;cases H2 b<;>rfl
  |some o=>simp;exact aa b o (PH.le_uni_r hd.head b o hU)
 ·cases hU:U ps b with
  |none=>exact .inr rfl
  |some o=>exact .inl (by simp[hU])
 ·have:=hd.head.left hb;simp only[this,Option.isSome_none,Tp,Si];exact aa b o (PH.le_uni I _ b o hb)
open Go
theorem f4.le{A H:PH}{e:TypeId}{size:Nat}{v:Value}{n:Nat}{xs:List Value}(h:f4 A e size v n xs)(aa:A.le H):f4 H e size v n xs:=by
 obtain⟨h1,h2|⟨g,cap,cur,a,b,c⟩⟩:=h
 ·exact⟨h1,.inl h2⟩
 ·exact⟨h1,.inr ⟨g,cap,cur,a,aa _ _ b,c⟩⟩
theorem fK(g off n c:Nat):(Value.slice (some ⟨g,off,none⟩) n c).ownBlock=some g:=rfl
def jF(A:PH)(e:TypeId)(size:Nat)(v:Value)(n:Nat)(xs:List Value):Prop:=f4 A e size v n xs/\∀b,v.ownBlock≠some b->A b=none
theorem jF.nil(e:TypeId)(size:Nat):jF PH.no e size (.slice none 0 0) 0 []:=⟨f4.nil _ e size,fun _ _=>rfl⟩
theorem jF.own_some{A:PH}{e:TypeId}{size:Nat}{v:Value}{n:Nat}{xs:List Value}(h:jF A e size v n xs){g:Nat}(hg:v.ownBlock=some g):∃o,A g=some o:=by
 obtain⟨⟨h1,⟨h2,_⟩|⟨g',cap,cur,a,b,c⟩⟩,_⟩:=h
 ·subst h2;cases hg
 ·subst a;cases hg;exact⟨_,b⟩
theorem pP{I A:PH}{l:List PH}{e:TypeId}{size:Nat}{v v':Value}{n n':Nat}{xs xs':List Value}{H2:PH}(hd:Dj (I::A::l))(hr:jF A e size v n xs)(ho:f4 H2 e size v' n' xs')(hc:Ko v.ownBlock (U (I::A::l)) H2)
  (hf:v'.ownBlock=v.ownBlock\/∀g,v'.ownBlock=some g->U (I::A::l) g=none):∃I2 A2,H2=U (I2::A2::l)/\Dj (I2::A2::l)/\I.le I2/\jF A2 e size v' n' xs':=by
 have key:∃A2:PH,jF A2 e size v' n' xs'/\A2.le H2/\A2.disj I/\A2.disj (U l):=by
  obtain⟨h1,⟨h2,h3⟩|⟨g,cap,cur,a,b,c⟩⟩:=ho
  ·exact⟨PH.no,⟨⟨h1,.inl ⟨h2,h3⟩⟩,fun _ _=>rfl⟩,(fun b o h=>by cases h),(fun _=>.inl rfl),(fun _=>.inl rfl)⟩
  ·subst a;have out:I g=none/\U l g=none:=by
    rcases hf with hf|hf
    ·obtain⟨o,ho⟩:=hr.own_some (hf.symm.trans (fK g 0 n' cap));exact⟨(mD hd (.head _)).symm.left ho,hd.tail.head.left ho⟩
    ·have:=ln.1 (hf g rfl);exact⟨this I (.head _),ln.2 fun B hB=>this B (.tail _ (.tail _ hB))⟩
   have dj:∀X:PH,X g=none->(sg g (.cells cur e (0,0))).disj X:=fun X hX c=>by
    by_cases ec:c=g
    ·subst ec;exact .inr hX
    ·exact .inl (by simp[sg,ec])
   exact⟨sg g (.cells cur e (0,0)),⟨⟨h1,.inr ⟨g,cap,cur,rfl,cP _ _,c⟩⟩,fun b' hb=>by
    simp only[fK,ne_eq,Sc]at hb;simp[sg,Ne.symm hb]⟩,fun b' o' hb=>by obtain⟨rfl,rfl⟩:=JV.1 hb;exact b,dj I out.1,dj _ out.2⟩
 obtain⟨A2,r2,le2,d1,d2⟩:=key;have dA:Dj (A2::l):=hd.tail.tail.cons d2;have dI:Dj (I::A2::l):=dA.cons fun b=>by
  rcases d1 b with e1|e1
  ·rcases hd.head b with e2|e2
   ·exact .inl e2
   ·exact .inr (PH.uni_none.2 ⟨e1,(PH.uni_none.1 e2).2⟩)
  ·exact .inl e1
 have aj:(U (I::A2::l)).le H2:=by
  intro b o hb;obtain⟨B,hB,ac⟩:=(lw dI).1 hb;have keep:∀B∈I::l,B b=some o->H2 b=some o:=by
   intro B hB aa;have ak:B∈I::A::l:=by
    rcases List.mem_cons.1 hB with rfl|h
    ·exact .head _
    ·exact .tail _ (.tail _ h)
   refine hc b o (fun e=>?_) ((lw hd).2 ⟨B,ak,aa⟩);obtain⟨oA,hA⟩:=hr.own_some e.symm;rcases List.mem_cons.1 hB with rfl|h
   ·rw[(mD hd (.head _)).left aa]at hA;cases hA
   ·rw[(mD hd.tail h).left hA]at aa;cases aa
  rcases List.mem_cons.1 hB with rfl|hB
  ·exact keep _ (.head _) ac
  ·rcases List.mem_cons.1 hB with rfl|hB
   ·exact le2 b o ac
   ·exact keep _ (.tail _ hB) ac
 obtain⟨I2,a,b,c⟩:=MH dI aj;exact⟨I2,A2,a,b,c,r2⟩
section
variable {C:Cx} {P:Program} {k:List Item} {σ:St} {H:PH}
theorem dr{ol rem:List Oper}{o:Oper}{t e:TypeId}{size bytes:Nat}{x y:Operand}{v:Value}{n xb xo m c:Nat}{xs news:List Value}{I A:PH}{l:List PH}(hd:Dj (I::A::l))(ht:iw C.P t e size bytes)(aa:jF A e size v n xs)(hw:aG ol σ o=some true)(ac:o.op=.call ⟨.builtin .append,#[x,y],#[t,t]⟩)(hx:ev σ x=.v v)(hy:ev σ y=.v (.slice (some ⟨xb,xo,none⟩) m c))
  (hn:aQ (U (I::A::l)) xb xo news) (hl:news.length=m*size) (h1:news.all one=true) (hb:(n+m)*bytes<=140737488355328) (aj:n+m<=maxLen)
  (hk:∀v' I2 A2,Dj (I2::A2::l)->I.le I2->jF A2 e size v' (n+m) (xs++news)->RC C (.op ol rem k) (σ.put o.dst (.v v')) (U (I2::A2::l))):RC C (.op ol (o::rem) k) σ (U (I::A::l)):=
 El ht (aa.1.le (cw hd)) hw ac hx hy hn hl h1 hb aj fun v' H2 a b c=>by
  obtain⟨I2,A2,e1,e2,e3,e4⟩:=pP hd aa a b c;subst e1;exact hk v' I2 A2 e2 e3 e4
theorem jt{ol:List Oper}{fr:gW}{str:gR}{i:Nat}{lo:List (Nat×Oper)}{o:Oper}{t e:TypeId}{size bytes:Nat}{x y:Operand}{v:Value}{n xb xo m c:Nat}{xs news:List Value}{I A:PH}{l:List PH}(hd:Dj (I::A::l))(ht:iw C.P t e size bytes)(aa:jF A e size v n xs)(hs:str.h.contains i=false)(ac:str.j.contains i=false)(hw:aG ol σ o=some true)(aj:o.op=.call ⟨.builtin .append,#[x,y],#[t,t]⟩)(hx:ev σ x=.v v)(hy:ev σ y=.v (.slice (some ⟨xb,xo,none⟩) m c))
  (hn:aQ (U (I::A::l)) xb xo news) (hl:news.length=m*size) (h1:news.all one=true) (hb:(n+m)*bytes<=140737488355328) (ak:n+m<=maxLen)
  (hk:∀v' I2 A2,Dj (I2::A2::l)->I.le I2->jF A2 e size v' (n+m) (xs++news)->RD C ol fr str lo k (σ.put o.dst (.v v')) (U (I2::A2::l))):RD C ol fr str ((i,o)::lo) k σ (U (I::A::l)):=
 CS ht (aa.1.le (cw hd)) hs ac hw aj hx hy hn hl h1 hb ak fun v' H2 a b c=>by
  obtain⟨I2,A2,e1,e2,e3,e4⟩:=pP hd aa a b c;subst e1;exact hk v' I2 A2 e2 e3 e4
theorem GN{I:PH}{l:List PH}(hd:Dj (I::l)){b:Nat}{o:Obj}(h:U (I::l) b=none):(U (I::l)).put b o=U (I.put b o::l)/\Dj (I.put b o::l)/\I.le (I.put b o)/\I.put b o b=some o:=by
 have hI:=ln.1 h;refine⟨?_,hd.tail.cons fun c=>?_,PH.le_put (hI I (.head _)),by simp[PH.put]⟩
 ·funext c;simp only[PH.put,U,PH.uni];split<;>simp
 ·by_cases e:c=b
  ·subst e;exact .inr (ln.2 fun B hB=>hI B (.tail _ hB))
  ·rcases hd.head c with h'|h'
   ·exact .inl (by simp[PH.put,e,h'])
   ·exact .inr h'
theorem av{ol rem:List Oper}{o:Oper}{t e:TypeId}{len size bytes:Nat}{parts:Array (Nat×Operand)}{ps:List (Nat×Value)}{I:PH}{l:List PH}(hd:Dj (I::l))(ht:iw C.P t e size bytes)(hw:aG ol σ o=some true)(aj:o.op=.buildSlice t len parts)(ha:kY (ev σ) parts.toList=some ps)
  (hp:gA size 0 ps=true) (aa:ps.length=len) (ac:len*size<=16777216)
  (hk:∀b I2,Dj (I2::l)->I.le I2->I2 b=some (.cells (aE ps).toArray e (0,0))->RC C (.op ol rem k) (σ.put o.dst (.v (.slice (some ⟨b,0,none⟩) len len))) (U (I2::l))):RC C (.op ol (o::rem) k) σ (U (I::l)):=
 ns ht hw aj ha hp aa ac fun b hb=>by
  obtain⟨e1,e2,e3,e4⟩:=GN hd (o:=.cells (aE ps).toArray e (0,0)) hb;rw[e1];exact hk b _ e2 e3 e4
theorem aZ{ol:List Oper}{fr:gW}{str:gR}{i:Nat}{lo:List (Nat×Oper)}{o:Oper}{t e:TypeId}{len size bytes:Nat}{parts:Array (Nat×Operand)}{ps:List (Nat×Value)}{I:PH}{l:List PH}(hd:Dj (I::l))(ht:iw C.P t e size bytes)(hw:aG ol σ o=some true)(aj:o.op=.buildSlice t len parts)(ha:kY (ev σ) parts.toList=some ps)
  (hp:gA size 0 ps=true) (aa:ps.length=len) (ac:len*size<=16777216)
  (hk:∀b I2,Dj (I2::l)->I.le I2->I2 b=some (.cells (aE ps).toArray e (0,0))->RD C ol fr str lo k (σ.put o.dst (.v (.slice (some ⟨b,0,none⟩) len len))) (U (I2::l))):RD C ol fr str ((i,o)::lo) k σ (U (I::l)):=
 uA ht hw aj ha hp aa ac fun b hb=>by
  obtain⟨e1,e2,e3,e4⟩:=GN hd (o:=.cells (aE ps).toArray e (0,0)) hb;rw[e1];exact hk b _ e2 e3 e4
theorem ab{c:Cf}{I:PH}{l:List PH}(hd:Dj (I::l))(is:List Nat)(hi:is.isPerm (List.range l.length)=true)(h:Dj (I::uv l is)->RC C c σ (U (I::uv l is))):RC C c σ (U (I::l)):=by
 obtain⟨e,d⟩:=lr ((lY hi).cons I) hd;rw[e];exact h d
theorem cq{ol:List Oper}{fr:gW}{str:gR}{lo:List (Nat×Oper)}{I:PH}{l:List PH}(hd:Dj (I::l))(is:List Nat)(hi:is.isPerm (List.range l.length)=true)(h:Dj (I::uv l is)->RD C ol fr str lo k σ (U (I::uv l is))):RD C ol fr str lo k σ (U (I::l)):=by
 obtain⟨e,d⟩:=lr ((lY hi).cons I) hd;rw[e];exact h d
theorem Z3:(∀{α:Type} (a:α) (s t:List α),a::s++t=a::(s++t))/\(∀{α:Type} (t:List α),[]++t=t)/\(∀{α:Type} (t:List α),t++[]=t):=⟨fun _ _ _=>rfl,fun _=>rfl,fun t=>Tq t⟩
theorem Z4:(∀l:List PH,uv l []=[])/\(∀(l:List PH) i is,uv l (i::is)=l.getD i PH.no::uv l is)/\(∀(a:PH) l d,(a::l).getD 0 d=a)/\(∀(a:PH) l n d,(a::l).getD (n+1) d=l.getD n d):=⟨fun _=>rfl,fun _ _ _=>rfl,fun _ _ _=>Ts,fun _ _ _ _=>Tt⟩
theorem nX{I:PH}{l:List PH}{b:Nat}{o o':Obj}(hd:Dj (I::sg b o::l)):(U (I::sg b o::l)).put b o'=U (I::sg b o'::l)/\Dj (I::sg b o'::l):=by
 have hI:I b=none:=(mD hd (.head _)).symm.left (cP b o);have hL:=hd.tail.head.left (cP b o);constructor
 ·funext c;simp only[PH.put,U,PH.uni,sg];by_cases e:c=b
  ·subst e;simp[hI]
  ·simp[e]
 ·refine(hd.tail.tail.cons fun c=>?_).cons fun c=>?_
  ·by_cases e:c=b
   ·subst e;exact .inr hL
   ·exact .inl (by simp[sg,e])
  ·by_cases e:c=b
   ·subst e;exact .inl hI
   ·rcases hd.head c with h'|h'
    ·exact .inl h'
    ·exact .inr (PH.uni_none.2 ⟨by simp[sg,e],(PH.uni_none.1 h').2⟩)
theorem cG{ol rem:List Oper}{o:Oper}{T ty:TypeId}{x y:Operand}{b off:Nat}{v:Value}{cells:Array Value}{cs:List Value}{I:PH}{l:List PH}(hd:Dj (I::sg b (.cells cells ty (0,0))::l))(hw:aG ol σ o=some true)(aa:o.op=.store T x y)(hx:ev σ x=.v (.pointer (some ⟨b,off,none⟩)))(hy:ev σ y=.v v)
  (hc:iB v=some cs) (hs:bB C.P T=some cs.length) (ac:off+cs.length<=cells.size)
  (hk:Dj (I::sg b (.cells (be cells.toList off cs).toArray ty (0,0))::l)->RC C (.op ol rem k) (σ.put o.dst .u) (U (I::sg b (.cells (be cells.toList off cs).toArray ty (0,0))::l))):RC C (.op ol (o::rem) k) σ (U (I::sg b (.cells cells ty (0,0))::l)):=by
 refine Hh (cw hd _ _ (cP _ _)) hw aa hx hy hc hs ac ?_;obtain⟨e1,e2⟩:=nX (o':=.cells (be cells.toList off cs).toArray ty (0,0)) hd;rw[e1];exact hk e2
theorem aH{ol:List Oper}{fr:gW}{str:gR}{i:Nat}{lo:List (Nat×Oper)}{o:Oper}{T ty:TypeId}{x y:Operand}{b off:Nat}{v:Value}{cells:Array Value}{cs:List Value}{I:PH}{l:List PH}(hd:Dj (I::sg b (.cells cells ty (0,0))::l))(aa:iR str.k i=false)(hw:aG ol σ o=some true)(ac:o.op=.store T x y)(hx:ev σ x=.v (.pointer (some ⟨b,off,none⟩)))(hy:ev σ y=.v v)
  (hc:iB v=some cs) (hs:bB C.P T=some cs.length) (aj:off+cs.length<=cells.size)
  (hk:Dj (I::sg b (.cells (be cells.toList off cs).toArray ty (0,0))::l)->RD C ol fr str lo k (σ.put o.dst .u) (U (I::sg b (.cells (be cells.toList off cs).toArray ty (0,0))::l))):RD C ol fr str ((i,o)::lo) k σ (U (I::sg b (.cells cells ty (0,0))::l)):=by
 refine Eb (cw hd _ _ (cP _ _)) aa hw ac hx hy hc hs aj ?_;obtain⟨e1,e2⟩:=nX (o':=.cells (be cells.toList off cs).toArray ty (0,0)) hd;rw[e1];exact hk e2
def jh(P:Program)(A:PH)(r:Nat)(kt:TypeId)(S:Value->Value->Prop):Prop:=∃o,A=sg r o/\eM P A r kt S
theorem kM{ol rem:List Oper}{o:Oper}{mt kt et:TypeId}(K:Maps.Keyed C.P kt)(hm:C.P.underlying mt=some (.map kt et)){x y z:Operand}{r:Nat}{S:Value->Value->Prop}{key v:Value}{I A:PH}{l:List PH}(hd:Dj (I::A::l))(hw:aG ol σ o=some true)(aa:o.op=.mapUpdate mt x y z\/o.op=.insert mt x y z)
  (hx:ev σ x=.v (.map (some r))) (hy:ev σ y=.v key) (hz:ev σ z=.v v) (h:jh C.P A r kt S) (hk:iD C.P kt key)
  (hg:∀A2,Dj (I::A2::l)->jh C.P A2 r kt (fun y u=>(y=key/\u=v)\/(y≠key/\S y u))->RC C (.op ol rem k) (σ.put o.dst .u) (U (I::A2::l))):RC C (.op ol (o::rem) k) σ (U (I::A::l)):=by
 obtain⟨ob,rfl,hM⟩:=h;refine Ef K hm hw aa hx hy hz (hM.le (cw hd)) hk fun ob2 h2=>?_;obtain⟨e1,e2⟩:=nX (o':=ob2) hd;rw[e1];exact hg _ e2 ⟨ob2,rfl,h2.of_eq (by simp[cP,PH.put])⟩
theorem kP{ol:List Oper}{fr:gW}{str:gR}{i:Nat}{lo:List (Nat×Oper)}{o:Oper}{mt kt et:TypeId}(K:Maps.Keyed C.P kt)(hm:C.P.underlying mt=some (.map kt et)){x y z:Operand}{r:Nat}{S:Value->Value->Prop}{key v:Value}{I A:PH}{l:List PH}(hd:Dj (I::A::l))(hs:str.h.contains i=false)(aa:str.j.contains i=false)(hw:aG ol σ o=some true)(ac:o.op=.mapUpdate mt x y z\/o.op=.insert mt x y z)
  (hx:ev σ x=.v (.map (some r))) (hy:ev σ y=.v key) (hz:ev σ z=.v v) (h:jh C.P A r kt S) (hk:iD C.P kt key)
  (hg:∀A2,Dj (I::A2::l)->jh C.P A2 r kt (fun y u=>(y=key/\u=v)\/(y≠key/\S y u))->RD C ol fr str lo k (σ.put o.dst .u) (U (I::A2::l))):RD C ol fr str ((i,o)::lo) k σ (U (I::A::l)):=by
 obtain⟨ob,rfl,hM⟩:=h;refine DI K hm hs aa hw ac hx hy hz (hM.le (cw hd)) hk fun ob2 h2=>?_;obtain⟨e1,e2⟩:=nX (o':=ob2) hd;rw[e1];exact hg _ e2 ⟨ob2,rfl,h2.of_eq (by simp[cP,PH.put])⟩
theorem lN{I:PH}{l:List PH}(hd:Dj (I::l)){b:Nat}{o:Obj}(h:U (I::l) b=none):(U (I::l)).put b o=U (I::sg b o::l)/\Dj (I::sg b o::l):=by
 obtain⟨e1,e2⟩:=Ic hd (o:=o) h;obtain⟨e3,e4⟩:=lr (List.Perm.swap I (sg b o) l) e2;exact⟨e1.trans e3,e4⟩
theorem lW{ol rem:List Oper}{o:Oper}{mt:TypeId}{I:PH}{l:List PH}(kt:TypeId)(hd:Dj (I::l))(hw:aG ol σ o=some true)(aa:o.op=.makeMap mt none)
  (hg:∀r A,Dj (I::A::l)->jh C.P A r kt (fun _ _=>False)->RC C (.op ol rem k) (σ.put o.dst (.v (.map (some r)))) (U (I::A::l))):RC C (.op ol (o::rem) k) σ (U (I::l)):=
 Ag hw aa fun r hr=>by
  obtain⟨e1,e2⟩:=lN hd (o:=.map #[] 0) hr;rw[e1];exact hg r _ e2 ⟨_,rfl,eM.empty (cP _ _)⟩
theorem yh{ol:List Oper}{fr:gW}{str:gR}{i:Nat}{lo:List (Nat×Oper)}{o:Oper}{mt:TypeId}{I:PH}{l:List PH}(kt:TypeId)(hd:Dj (I::l))(hw:aG ol σ o=some true)(aa:o.op=.makeMap mt none)
  (hg:∀r A,Dj (I::A::l)->jh C.P A r kt (fun _ _=>False)->RD C ol fr str lo k (σ.put o.dst (.v (.map (some r)))) (U (I::A::l))):RD C ol fr str ((i,o)::lo) k σ (U (I::l)):=
 zK hw aa fun r hr=>by
  obtain⟨e1,e2⟩:=lN hd (o:=.map #[] 0) hr;rw[e1];exact hg r _ e2 ⟨_,rfl,eM.empty (cP _ _)⟩
theorem MA(key:Nat){B:gF}{I:PH}{l:List PH}(hd:Dj (I::l))(hB:dq σ.bx key=some B)(h:∀b,Dj (I::sg b (.cells B.cs.toArray B.ty (0,0))::l)->R C k ⟨σ.tm.map (kE key b),cU σ.bx key⟩ (U (I::sg b (.cells B.cs.toArray B.ty (0,0))::l))):R C k σ (U (I::l)):=
 NC key hB fun b hb=>by
  obtain⟨e1,e2⟩:=lN hd (o:=.cells B.cs.toArray B.ty (0,0)) hb;rw[e1];exact h b e2
end
open Go
theorem cellsU{ps:List PH}{A:PH}{b off:Nat}{l:List Value}(hd:Dj ps)(hA:A∈ps)(h:aQ A b off l):aQ (U ps) b off l:=h.le (zM hd hA)
theorem aU{b off:Nat}{cs:Array Value}{ty:TypeId}{fz:Nat×Nat}{l:List Value}(h1:off+l.length<=cs.size)(h2:(cs.toList.drop off).take l.length=l):aQ (sg b (.cells cs ty fz)) b off l:=
 ⟨cs,ty,fz,cP _ _,h1,h2⟩
theorem az{A:PH}{b off:Nat}{cs:Array Value}{ty:TypeId}{fz:Nat×Nat}{l:List Value}(h:A b=some (.cells cs ty fz))(h1:off+l.length<=cs.size)(h2:(cs.toList.drop off).take l.length=l):aQ A b off l:=
 ⟨cs,ty,fz,h,h1,h2⟩
theorem jh.atU{P:Program}{A:PH}{r:Nat}{kt:TypeId}{S:Value->Value->Prop}(h:jh P A r kt S){ps:List PH}(hd:Dj ps)(hA:A∈ps):eM P (U ps) r kt S:=by
 obtain⟨o,e,m⟩:=h;exact m.le (zM hd hA)
theorem jh.congr{P:Program}{A:PH}{r:Nat}{kt:TypeId}{S S':Value->Value->Prop}(h:jh P A r kt S)(hs:∀y u,S' y u<->S y u):jh P A r kt S':=by
 obtain⟨o,e,m⟩:=h;exact⟨o,e,m.congr hs⟩
theorem jF.xs{A:PH}{e:TypeId}{size:Nat}{v:Value}{n n':Nat}{xs xs':List Value}(h:jF A e size v n xs)(hn:n=n')(hx:xs=xs'):jF A e size v n' xs':=by subst hn;subst hx;exact h
theorem jF.slice{A:PH}{e:TypeId}{size:Nat}{v:Value}{n:Nat}{xs:List Value}(h:jF A e size v n xs):∃a c,v=.slice a n c:=by
 obtain⟨⟨_,⟨a,b⟩|⟨g,cap,cur,a,_⟩⟩,_⟩:=h
 ·subst b;exact⟨_,_,a⟩
 ·exact⟨_,_,a⟩
theorem Ln{I:PH}{l:List PH}(hd:Dj (I::l)):U (I::l)=U (I::PH.no::l)/\Dj (I::PH.no::l):=by
 constructor
 ·funext c;simp only[U,PH.uni,PH.no]
 ·refine(hd.tail.cons fun b=>.inl rfl).cons fun b=>?_;rcases hd.head b with h|h
  ·exact .inl h
  ·exact .inr (PH.uni_none.2 ⟨rfl,h⟩)
section
variable {C:Cx} {k:List Item} {σ:St}
theorem aT{c:Cf}{I:PH}{l:List PH}(hd:Dj (I::l))(h:Dj (I::PH.no::l)->RC C c σ (U (I::PH.no::l))):RC C c σ (U (I::l)):=by
 obtain⟨e,d⟩:=Ln hd;rw[e];exact h d
theorem eP(key:Nat){B:gF}{I:PH}{l:List PH}(hd:Dj (I::l))(hB:dq σ.bx key=some B)(h:∀b,Dj (I::sg b (.cells B.cs.toArray B.ty (0,0))::l)->RC C (.st k) ⟨σ.tm.map (kE key b),cU σ.bx key⟩ (U (I::sg b (.cells B.cs.toArray B.ty (0,0))::l))):RC C (.st k) σ (U (I::l)):=MA key hd hB h
theorem ag{c:Cf}{I A:PH}{l:List PH}(hd:Dj (I::A::l))(h:∀I2,Dj (I2::l)->I.le I2->A.le I2->RC C c σ (U (I2::l))):RC C c σ (U (I::A::l)):=by
 obtain⟨e,d⟩:=freeze hd;rw[e];exact h _ d (PH.le_uni I A) (PH.le_uni_r (mD hd (.head _)))
end
open Go
attribute [go_sem] undef un oh ED vI kb jZ iR
attribute [go_sem] Bool.false_and Bool.and_false aG m7 LA Ip pv t8
attribute [go_sem] IQ Cg G7 rQ lu Et ji kY
attribute [go_sem] Ji HC Af Ii Cq HD Po ev
attribute [go_sem] lV jm St.put St.newBox St.store ft cU dq
attribute [go_sem] nv be iG List.map_cons List.map_nil m8 qW iB
attribute [go_sem] one eD we nj xi exitTo qB Value.cells
attribute [go_sem] List.toList_toArray List.cons_append List.nil_append List.replicate List.length_cons List.length_nil ite_true ite_false
attribute [go_sem] if_true if_false Option.map_some Option.map_none true_and and_true List.drop_zero List.drop_succ_cons
attribute [go_sem] List.take_succ_cons List.take_zero List.getElem?_cons_zero List.getElem?_cons_succ List.set_cons_zero List.set_cons_succ List.all_cons List.all_nil
attribute [go_sem] Bool.and_self Bool.true_and Bool.and_true beq_self_eq_true Array.toList List.size_toArray Nat.zero_add Nat.add_zero
attribute [go_sem] and_self beq_true beq_false Bool.not_true Bool.not_false Int.toNat_natCast decide_true decide_false
attribute [go_sem] pick DW tW kE iR jG mq Nat.sub_zero
attribute [go_sem] Int.cast_ofNat_Int
attribute [go_sem] Nat.reduceAdd Nat.reduceSub Nat.reduceLT Nat.reduceLeDiff Nat.reduceEqDiff Nat.reduceBEq Nat.reduceMul reduceIte
attribute [go_sem] reduceCtorEq Int.reduceToNat Int.reduceLE Int.reduceLT Int.reduceBEq Int.reduceBNe Int.reduceEq
theorem Un{C:Cx}{σ:St}{H:PH}{c:Cf}{Q:Prop}(h:Q)(e:bE C H (un C.P 500 c σ [])=Q:=by simp only[go_sem];rfl):RC C c σ H:=EA 500 (e.mpr h)
theorem Ux{C:Cx}{k:List Item}{σ:St}{H:PH}{ol:List Oper}{fr:gW}{str:gR}{l:List (Nat×Oper)}{Q:Prop}(h:Q)(e:O3 C ol fr str k H (oh C.P ol fr.k str.k fr.kp l σ [])=Q:=by simp only[go_sem];rfl):RD C ol fr str l k σ H:=af (e.mpr h)
theorem Um{C:Cx}{σ:St}{c:Cf}{I:PH}{l L:List PH}(hd:Dj (I::l))(is:List Nat)(h:Dj L->RC C c σ (U L))(hi:is.isPerm (List.range l.length)=true:=by rfl)(e:I::uv l is=L:=by simp only[Z4];rfl):RC C c σ (U (I::l)):=ab hd is hi (e▸h)
theorem UT{C:Cx}{k:List Item}{σ:St}{ol:List Oper}{fr:gW}{str:gR}{lo:List (Nat×Oper)}{I:PH}{l L:List PH}(hd:Dj (I::l))(is:List Nat)(h:Dj L->RD C ol fr str lo k σ (U L))(hi:is.isPerm (List.range l.length)=true:=by rfl)(e:I::uv l is=L:=by simp only[Z4];rfl):RD C ol fr str lo k σ (U (I::l)):=cq hd is hi (e▸h)
theorem V7{C:Cx}{k:List Item}{σ:St}{ol rem:List Oper}{o:Oper}{x:Operand}{aq:Array Operand}{ts:Array TypeId}{f:FuncId}{vs:List Value}{first cap:Array Value}{I:PH}{Ψ:Value->PH->List PH->Prop}(hd:Dj [I])(hq:(aG ol σ o,o.op,ev σ x,ji (ev σ) aq.toList)=(some true,Op.call ⟨.value x,aq,ts⟩,SV.v (.func (.func f) first cap),some vs))(hg:aP C.P f)(h:aO C.P f (first++vs.toArray++cap) I [] Ψ)
  (hk:∀v I2 qs,Dj (I2::qs)->I.le I2->Ψ v I2 qs->RC C (.op ol rem k) (σ.put o.dst (.v v)) (U (I2::qs))):RC C (.op ol (o::rem) k) σ (U [I]):=
 NB (F:=[]) hd [] hq hg rfl rfl h fun v I2 qs aa ac hp=>by rw[Tq]at aa |-;exact hk v I2 qs aa ac hp
theorem f6{C:Cx}{k:List Item}{σ:St}{ol rem:List Oper}{o:Oper}{x:Operand}{aq:Array Operand}{ts:Array TypeId}{f:FuncId}{vs:List Value}{first cap:Array Value}{I:PH}{l:List PH}{Ψ:Value->PH->List PH->Prop}(hd:Dj (I::l))(is:List Nat)(ps F:List PH)(hq:(aG ol σ o,o.op,ev σ x,ji (ev σ) aq.toList)=(some true,Op.call ⟨.value x,aq,ts⟩,SV.v (.func (.func f) first cap),some vs))(hg:aP C.P f)(hl:uv l is=ps++F)(h:aO C.P f (first++vs.toArray++cap) I ps Ψ)
  (hk:∀v I2 qs,Dj (I2::qs++F)->I.le I2->Ψ v I2 qs->RC C (.op ol rem k) (σ.put o.dst (.v v)) (U (I2::qs++F))) (hi:is.isPerm (List.range l.length)=true:=by rfl):RC C (.op ol (o::rem) k) σ (U (I::l)):=NB hd is hq hg hi hl h hk
theorem IR{C:Cx}{k:List Item}{σ:St}{ol:List Oper}{fr:gW}{str:gR}{i:Nat}{lo:List (Nat×Oper)}{o:Oper}{x:Operand}{aq:Array Operand}{ts:Array TypeId}{f:FuncId}{vs:List Value}{first cap:Array Value}{I:PH}{Ψ:Value->PH->List PH->Prop}(hd:Dj [I])(hq:(aG ol σ o,o.op,ev σ x,ji (ev σ) aq.toList)=(some true,Op.call ⟨.value x,aq,ts⟩,SV.v (.func (.func f) first cap),some vs))(hg:aP C.P f)(h:aO C.P f (first++vs.toArray++cap) I [] Ψ)
  (hk:∀v I2 qs,Dj (I2::qs)->I.le I2->Ψ v I2 qs->RD C ol fr str lo k (σ.put o.dst (.v v)) (U (I2::qs))) (hs:str.h.contains i=false:=by exact rfl) (ac:str.j.contains i=true->fr.J.le I:=by exact fun h=>by cases h):RD C ol fr str ((i,o)::lo) k σ (U [I]):=
 Og (F:=[]) hd [] hs ac hq hg rfl rfl h fun v I2 qs aa aj hp=>by rw[Tq]at aa |-;exact hk v I2 qs aa aj hp
theorem i7{C:Cx}{k:List Item}{σ:St}{ol:List Oper}{fr:gW}{str:gR}{i:Nat}{lo:List (Nat×Oper)}{o:Oper}{x:Operand}{aq:Array Operand}{ts:Array TypeId}{f:FuncId}{vs:List Value}{first cap:Array Value}{I:PH}{l:List PH}{Ψ:Value->PH->List PH->Prop}(hd:Dj (I::l))(is:List Nat)(ps F:List PH)(hq:(aG ol σ o,o.op,ev σ x,ji (ev σ) aq.toList)=(some true,Op.call ⟨.value x,aq,ts⟩,SV.v (.func (.func f) first cap),some vs))(hg:aP C.P f)(hl:uv l is=ps++F)(h:aO C.P f (first++vs.toArray++cap) I ps Ψ)
  (hk:∀v I2 qs,Dj (I2::qs++F)->I.le I2->Ψ v I2 qs->RD C ol fr str lo k (σ.put o.dst (.v v)) (U (I2::qs++F))) (hi:is.isPerm (List.range l.length)=true:=by rfl) (hs:str.h.contains i=false:=by exact rfl) (aa:str.j.contains i=true->fr.J.le I:=by exact fun h=>by cases h):RD C ol fr str ((i,o)::lo) k σ (U (I::l)):=Og hd is hs aa hq hg hi hl h hk
attribute [go_sem] sp nh od
section
variable {C:Cx} {k:List Item} {σ:St} {H:PH}
theorem aB{α:Type}{c:Code}(μ:α->Nat)(S:α->St)(Q:α->PH->Prop)(a0:α)(hs:nh (S a0).tm σ.tm)(hb:od (S a0).bx σ.bx)(hq:Q a0 H)
  (h:∀a H,Q a H->(∀a' σ1 H',μ a'<μ a->nh (S a').tm σ1.tm->od (S a').bx σ1.bx->Q a' H'->RC C (.st (.inLoop c::k)) σ1 H')->RC C (.st (.code c::.inLoop c::k)) (S a) H) :
  RC C (.st (.code (.loop c)::k)) σ H:=by
 refine BS hs hb ?_;refine LH (fun n σ H=>∃a,σ=S a/\μ a=n/\Q a H) (μ a0) ⟨a0,rfl,rfl,hq⟩ ?_;rintro n σ H ⟨a,rfl,rfl,hq⟩ hn;exact h a H hq fun a' σ1 H' aa h1 h2 h3=>BS h1 h2 (hn _ aa _ _ ⟨a',rfl,rfl,h3⟩)
theorem dK{σ':St}(ht:nh σ'.tm σ.tm)(hb:od σ'.bx σ.bx)(h:RC C (.st k) σ' H):RC C (.st k) σ H:=BS ht hb h
theorem uR{size:Nat}:∀{ps:List (Nat×Value)} {j:Nat},gA size j ps=true->(aE ps).length=ps.length*size
 | [],_,_=>by simp[aE]
 |(i,v)::l,j,h=>by
  simp only[gA,SG,SX]at h;have:=uR h.2;simp only[aE,Tu,h.1.2,this,SB];rw[Ta];omega
theorem H5{e:TypeId}{size len b:Nat}{xs:List Value}(h:xs.length=len*size)(hl:len<=maxLen):jF (sg b (.cells xs.toArray e (0,0))) e size (.slice (some ⟨b,0,none⟩) len len) len xs:=
 ⟨⟨h,.inr ⟨b,len,xs.toArray,rfl,cP _ _,R7 _,hl,by simpa using h,by rw[<-h];simp⟩⟩,fun c hc=>by
  simp only[fK,ne_eq,Sc]at hc;simp[sg,Ne.symm hc]⟩
theorem dP{ol rem:List Oper}{o:Oper}{t e:TypeId}{len size bytes:Nat}{parts:Array (Nat×Operand)}{ps:List (Nat×Value)}{I:PH}{l:List PH}(hd:Dj (I::l))(ht:iw C.P t e size bytes)(hw:aG ol σ o=some true)(aj:o.op=.buildSlice t len parts)(ha:kY (ev σ) parts.toList=some ps)
  (hp:gA size 0 ps=true) (aa:ps.length=len) (ac:len*size<=16777216)
  (hk:∀b A,Dj (I::A::l)->jF A e size (.slice (some ⟨b,0,none⟩) len len) len (aE ps)->RC C (.op ol rem k) (σ.put o.dst (.v (.slice (some ⟨b,0,none⟩) len len))) (U (I::A::l))):RC C (.op ol (o::rem) k) σ (U (I::l)):=
 ns ht hw aj ha hp aa ac fun b hb=>by
  obtain⟨e1,e2⟩:=lN hd (o:=.cells (aE ps).toArray e (0,0)) hb;rw[e1];refine hk b _ e2 (H5 (by rw[uR hp,aa]) ?_);obtain⟨_,_,_,_,_,_,_,_,a7⟩:=ht;have:len*1<=len*size:=Nat.mul_le_mul_left _ a7;unfold maxLen;omega
theorem jF.cellsU{ps:List PH}{A:PH}{e:TypeId}{size:Nat}{v:Value}{n:Nat}{xs:List Value}(hd:Dj ps)(hA:A∈ps)(h:jF A e size v n xs)(hn:0<n):∃g cap,v=.slice (some ⟨g,0,none⟩) n cap/\aQ (U ps) g 0 xs:=by
 obtain⟨g,cap,a,b⟩:=h.1.cells hn;exact⟨g,cap,a,b.le (zM hd hA)⟩
end
open Go
theorem lB{H:PH}{b off:Nat}{l:List Value}(h:aQ H b off l){w:World}(s:Sub H w):∀j v,l[j]?=some v->w.cell? ((⟨b,off,none⟩:Addr).add j)=some v:=by
 obtain⟨cs,ty,fz,h1,h2,h3⟩:=h;intro j v hj;have hb:=s _ _ h1;rw[show cs=cs.toList.toArray from by simp]at hb;rw[eT,oW hb];rw[<-h3]at hj;rw[Sg]at hj;split at hj
 ·rw[Sh]at hj;exact hj
 ·cases hj
section
variable {C:Cx} {P:Program} {k:List Item} {σ:St} {H:PH}
theorem De{dT sT ty e:TypeId}{i:TypeInfo}(hu:P.underlying dT=some (.slice e))(hi:P.info? e=some i){g o dLen dCap b so sLen sCap:Nat}{cur:Array Value}{ys:List Value}
  (hg:H g=some (.cells cur e (0,0))) (hy:aQ H b so ys) (hl:ys.length=min sLen dLen*i.size) (aa:o+ys.length<=cur.size) (h1:ys.all one=true) (w:World) (hw:Sub H w) :
  ∃w2,(Builtin.copy_ #[dT,sT] ty #[.slice (some ⟨g,o,none⟩) dLen dCap,.slice (some ⟨b,so,none⟩) sLen sCap]).run P w=.ok (.int .i64 (min sLen dLen:Nat)) w2/\cS H w (H.put g (.cells (be cur.toList o ys).toArray e (0,0))) w2:=by
 have hf:=run_firstCells_some (P:=P) (w:=w) i.size (min sLen dLen) ⟨b,so,none⟩ sLen sCap ys hl (lB hy hw);have ac:=hw _ _ hg;rw[show cur=cur.toList.toArray from by simp]at ac;obtain⟨w2,r1,r2,r3,r4,r5,r6,r7⟩:=fM (P:=P) g e ys 0 o cur.toList w ac (by simpa using aa) fun v hv=>List.all_eq_true.1 h1 v hv;refine⟨w2,?_,?_⟩
 ·simp[Builtin.copy_,bf hu,Result.andThen,Builtin.lenOf,sizeOf,typeInfo,program,Sem.run,hi,goInt];rw[show Nat.min sLen dLen=min sLen dLen from rfl,hf];simp[r1,Nat.min_def]
 ·refine⟨fun c o' h=>?_,Vi,fun c aj hn=>r3 c (fun e=>by subst e;rw[hg]at hn;cases hn),fun c aj hn=>?_,r5,r6,r7⟩
  ·by_cases e:c=g
   ·subst e;simp only[PH.put,R9]at h;cases h;simpa using r2
   ·simp only[PH.put,Sb e]at h;rw[r3 c e];exact hw _ _ h
  ·have:c≠g:=fun e=>by subst e;rw[hg]at hn;cases hn
   simp[PH.put,this,hn]
theorem uM{o:Oper}{dT sT e:TypeId}{i:TypeInfo}(hu:P.underlying dT=some (.slice e))(hi:P.info? e=some i){x y:Operand}{g off dLen dCap b so sLen sCap:Nat}{cur:Array Value}{ys:List Value}(aj:o.op=.call ⟨.builtin .copy,#[x,y],#[dT,sT]⟩)
  (hx:ev σ x=.v (.slice (some ⟨g,off,none⟩) dLen dCap)) (hy:ev σ y=.v (.slice (some ⟨b,so,none⟩) sLen sCap)) (hg:H g=some (.cells cur e (0,0))) (hc:aQ H b so ys) (hl:ys.length=min sLen dLen*i.size) (ac:off+ys.length<=cur.size) (h1:ys.all one=true) :
  aR σ o.op=true/\co P (execOp (bp σ) o) H fun sv H2=>sv=.v (.int .i64 (min sLen dLen:Nat))/\H2=H.put g (.cells (be cur.toList off ys).toArray e (0,0)):=by
 constructor
 ·simp[aR,aj,eL,Op.operands,Call.operands,hx,hy,qy]
 ·intro w hw;obtain⟨w2,aa,st⟩:=De (sT:=sT) (ty:=o.type) (dCap:=dCap) (sCap:=sCap) hu hi hg hc hl ac h1 w hw;have:(execOp (bp σ) o).run P w=.ok (.value (.int .i64 (min sLen dLen:Nat))) w2:=by
   simp[execOp,aj,resolve,bp,hx,hy,invoke,builtin,Result.andThen,aa]
  rw[this];exact⟨_,st,rfl,rfl⟩
theorem yb{ol rem:List Oper}{o:Oper}{dT sT e:TypeId}{i:TypeInfo}{x y:Operand}{g off dLen dCap b so sLen sCap:Nat}{cur:Array Value}{ys:List Value}{I:PH}{l:List PH}(hd:Dj (I::sg g (.cells cur e (0,0))::l))(hu:C.P.underlying dT=some (.slice e))(hi:C.P.info? e=some i)(hw:aG ol σ o=some true)(ac:o.op=.call ⟨.builtin .copy,#[x,y],#[dT,sT]⟩)
  (hx:ev σ x=.v (.slice (some ⟨g,off,none⟩) dLen dCap)) (hy:ev σ y=.v (.slice (some ⟨b,so,none⟩) sLen sCap)) (hc:aQ (U (I::sg g (.cells cur e (0,0))::l)) b so ys) (hl:ys.length=min sLen dLen*i.size) (aa:off+ys.length<=cur.size) (h1:ys.all one=true)
  (hk:Dj (I::sg g (.cells (be cur.toList off ys).toArray e (0,0))::l)->RC C (.op ol rem k) (σ.put o.dst (.v (.int .i64 (min sLen dLen:Nat)))) (U (I::sg g (.cells (be cur.toList off ys).toArray e (0,0))::l))):RC C (.op ol (o::rem) k) σ (U (I::sg g (.cells cur e (0,0))::l)):=by
 obtain⟨a,c⟩:=uM (σ:=σ) hu hi ac hx hy (cw hd _ _ (cP _ _)) hc hl aa h1;refine f9 hw a (c.mono fun sv H2 ⟨e1,e2⟩=>?_);subst e1;subst e2;obtain⟨e1,e2⟩:=nX (o':=.cells (be cur.toList off ys).toArray e (0,0)) hd;rw[e1];exact hk e2
theorem zI{ol:List Oper}{fr:gW}{str:gR}{j:Nat}{lo:List (Nat×Oper)}{o:Oper}{dT sT e:TypeId}{i:TypeInfo}{x y:Operand}{g off dLen dCap b so sLen sCap:Nat}{cur:Array Value}{ys:List Value}{I:PH}{l:List PH}(hd:Dj (I::sg g (.cells cur e (0,0))::l))(hu:C.P.underlying dT=some (.slice e))(hi:C.P.info? e=some i)(hs:str.h.contains j=false)(aj:str.j.contains j=false)(hw:aG ol σ o=some true)(ac:o.op=.call ⟨.builtin .copy,#[x,y],#[dT,sT]⟩)
  (hx:ev σ x=.v (.slice (some ⟨g,off,none⟩) dLen dCap)) (hy:ev σ y=.v (.slice (some ⟨b,so,none⟩) sLen sCap)) (hc:aQ (U (I::sg g (.cells cur e (0,0))::l)) b so ys) (hl:ys.length=min sLen dLen*i.size) (aa:off+ys.length<=cur.size) (h1:ys.all one=true)
  (hk:Dj (I::sg g (.cells (be cur.toList off ys).toArray e (0,0))::l)->RD C ol fr str lo k (σ.put o.dst (.v (.int .i64 (min sLen dLen:Nat)))) (U (I::sg g (.cells (be cur.toList off ys).toArray e (0,0))::l))):RD C ol fr str ((j,o)::lo) k σ (U (I::sg g (.cells cur e (0,0))::l)):=by
 obtain⟨a,c⟩:=uM (σ:=σ) hu hi ac hx hy (cw hd _ _ (cP _ _)) hc hl aa h1;refine pX hw a (by rw[ac];rfl) (c.mono fun sv H2 ⟨e1,e2⟩=>⟨jB.non hs aj,?_⟩);subst e1;subst e2;obtain⟨e1,e2⟩:=nX (o':=.cells (be cur.toList off ys).toArray e (0,0)) hd;rw[e1];exact hk e2
theorem xJ{t t' ty e e':TypeId}{lO:Option Addr}{n c:Nat}{x:Value}{w:World}(h:P.underlying t=some (.slice e))(h':P.underlying t'=some (.slice e')):(Builtin.append_ #[t,t'] ty #[.slice lO n c,x]).run P w=(Builtin.append_ #[t,t] ty #[.slice lO n c,x]).run P w:=by
 simp[Builtin.append_,bf h,bf h',Result.andThen]
theorem xO{o:Oper}{t t' e e':TypeId}{size bytes:Nat}{x y:Operand}{v:Value}{n xb xo m c:Nat}{xs news:List Value}(ht:iw P t e size bytes)(am:P.underlying t'=some (.slice e'))(ak:o.op=.call ⟨.builtin .append,#[x,y],#[t,t']⟩)(hx:ev σ x=.v v)(hy:ev σ y=.v (.slice (some ⟨xb,xo,none⟩) m c))
  (aj:f4 H e size v n xs) (hn:aQ H xb xo news) (hl:news.length=m*size) (h1:news.all one=true) (hb:(n+m)*bytes<=140737488355328) (ap:n+m<=maxLen) :
  aR σ o.op=true/\co P (execOp (bp σ) o) H fun sv H2=>∃v',sv=.v v'/\f4 H2 e size v' (n+m) (xs++news)/\Ko v.ownBlock H H2/\(v'.ownBlock=v.ownBlock\/∀g,v'.ownBlock=some g->H g=none):=by
 constructor
 ·simp[aR,ak,eL,Op.operands,Call.operands,hx,hy,qy]
 ·intro w hw;obtain⟨v',w',H2,aa,st,ac,ao,an⟩:=ql (ty:=o.type) (c:=c) ht aj hn hl (fun u hu=>List.all_eq_true.1 h1 u hu) hb ap w hw;obtain⟨i,z,a1,_⟩:=ht;obtain⟨va,vn,vc,rfl⟩:∃va vn vc,v=.slice va vn vc:=by
   rcases aj.2 with ⟨e0,_⟩|⟨g,cap,cur,e0,_⟩
   ·exact⟨_,_,_,e0⟩
   ·exact⟨_,_,_,e0⟩
  rw[<-xJ a1 am]at aa;have:(execOp (bp σ) o).run P w=.ok (.value v') w':=by
   simp[execOp,ak,resolve,bp,hx,hy,invoke,builtin,Result.andThen,aa]
  rw[this];exact⟨H2,st,v',rfl,ac,ao,an⟩
theorem yp{ol rem:List Oper}{o:Oper}{t t' e e':TypeId}{size bytes:Nat}{x y:Operand}{v:Value}{n xb xo m c:Nat}{xs news:List Value}{I A:PH}{l:List PH}(hd:Dj (I::A::l))(ht:iw C.P t e size bytes)(ac:C.P.underlying t'=some (.slice e'))(aa:jF A e size v n xs)(hw:aG ol σ o=some true)(aj:o.op=.call ⟨.builtin .append,#[x,y],#[t,t']⟩)(hx:ev σ x=.v v)(hy:ev σ y=.v (.slice (some ⟨xb,xo,none⟩) m c))
  (hn:aQ (U (I::A::l)) xb xo news) (hl:news.length=m*size) (h1:news.all one=true) (hb:(n+m)*bytes<=140737488355328) (ak:n+m<=maxLen)
  (hk:∀v' I2 A2,Dj (I2::A2::l)->I.le I2->jF A2 e size v' (n+m) (xs++news)->RC C (.op ol rem k) (σ.put o.dst (.v v')) (U (I2::A2::l))):RC C (.op ol (o::rem) k) σ (U (I::A::l)):=by
 obtain⟨a,b⟩:=xO (σ:=σ) ht ac aj hx hy (aa.1.le (cw hd)) hn hl h1 hb ak;refine f9 hw a (b.mono fun sv H2 ⟨v',e1,e2,e3,e4⟩=>?_);subst e1;obtain⟨I2,A2,e1,e5,e6,e7⟩:=pP hd aa e2 e3 e4;subst e1;exact hk v' I2 A2 e5 e6 e7
theorem lL{o:Oper}{t tn:TypeId}{x y:Operand}{vx vy v:Value}{w w':World}(aa:o.op=.call ⟨.builtin .append,#[x,y],#[t,tn]⟩)(hx:ev σ x=.v vx)(hy:ev σ y=.v vy)(hr:(Builtin.append_ #[t,tn] o.type #[vx,vy]).run P w=.ok v w'):
  (execOp (bp σ) o).run P w=.ok (.value v) w':=by
 simp[execOp,aa,resolve,bp,hx,hy,invoke,builtin,Result.andThen,hr]
theorem cS.newD{H:PH}{w:World}(s:Sub H w)(o:Obj):H w.heap.size=none/\cS H w (H.put w.heap.size o) (w.drew.alloc o):=by
 obtain⟨a,b⟩:=cS.new s o;exact⟨a,b.sub,b.size,b.priv,b.dom,rfl,rfl,rfl⟩
theorem xK{o:Oper}{t tn e:TypeId}{kq kn:IntKind}{size bytes:Nat}(ht:iw P t e size bytes)(ao:P.underlying tn=some (.int kn)){x y:Operand}{b off sLen sCap m:Nat}{olds:List Value}(am:o.op=.call ⟨.builtin .append,#[x,y],#[t,tn]⟩)
  (hx:ev σ x=.v (.slice (some ⟨b,off,none⟩) sLen sCap)) (hy:ev σ y=.v (.int kq m)) (hc:aQ H b off olds) (hl:olds.length=sLen*size) (h0:0<m) (hg:sCap<sLen+m) (an:sLen+m<=maxLen) (hb:(sLen+m)*bytes<=140737488355328) :
  aR σ o.op=true/\co P (execOp (bp σ) o) H fun sv H2=>∃g cap zs,H g=none/\zs.length=(cap-sLen)*size/\sLen+m<=cap/\cap<=maxLen/\sv=.v (.slice (some ⟨g,0,none⟩) (sLen+m) cap)/\H2=H.put g (.cells (olds++zs).toArray e (0,0)):=by
 constructor
 ·simp[aR,am,eL,Op.operands,Call.operands,hx,hy,qy]
 ·intro w hw;obtain⟨i,z,a1,a2,a3,a4,a5,a6,a7⟩:=ht;subst a4;subst a5;have ak:=run_firstCells_some (P:=P) (w:=w.drew) i.size sLen ⟨b,off,none⟩ sLen sCap olds hl (lB hc (w:=w.drew) hw);have ac:sLen+m<=9223372036854775807:=by simp only[maxLen]at an;omega
  have hm:m*i.bytes<=(sLen+m)*i.bytes:=Tb _ Vi;have aj:=Lib.run_append_grow_zeros (P:=P) w t tn o.type e i z kq kn a1 ao a2 a3 (some ⟨b,off,none⟩) sLen sCap olds ak m h0 a7 hg Vi Vi (growslice_fits hg hb);have aS:=grownCap_ge w (sLen+m) sCap e;have ap:=grownCap_le_maxLen w (sLen+m) sCap e an;have hz:∀n,(Builtin.zeroCells z.cells n).size=n*i.size:=by intro n;rw[size_zeroCells,a6]
  have aa:(execOp (bp σ) o).run P w=.ok (.value (.slice (some ⟨w.heap.size,0,none⟩) (sLen+m) (grownCap w (sLen+m) sCap e))) (w.drew.alloc (.cells (olds.toArray++Builtin.zeroCells z.cells m++Builtin.zeroCells z.cells (grownCap w (sLen+m) sCap e-(sLen+m))) e)):=by
   exact lL am hx hy aj
  rw[aa];obtain⟨n1,n2⟩:=cS.newD hw (.cells (olds.toArray++Builtin.zeroCells z.cells m++Builtin.zeroCells z.cells (grownCap w (sLen+m) sCap e-(sLen+m))) e (0,0));refine⟨_,n2,w.heap.size,grownCap w (sLen+m) sCap e,(Builtin.zeroCells z.cells m++Builtin.zeroCells z.cells (grownCap w (sLen+m) sCap e-(sLen+m))).toList,n1,?_,aS,ap,rfl,?_⟩
  ·simp only[Sk,Array.size_append,hz,<-Ta];congr 1;omega
  ·congr 2;rw[<-Sq];simp
theorem Am{ol rem:List Oper}{o:Oper}{t tn e:TypeId}{kq kn:IntKind}{size bytes:Nat}{x y:Operand}{b off sLen sCap m:Nat}{olds:List Value}{I:PH}{l:List PH}(hd:Dj (I::l))(ht:iw C.P t e size bytes)(aa:C.P.underlying tn=some (.int kn))(hw:aG ol σ o=some true)(ac:o.op=.call ⟨.builtin .append,#[x,y],#[t,tn]⟩)
  (hx:ev σ x=.v (.slice (some ⟨b,off,none⟩) sLen sCap)) (hy:ev σ y=.v (.int kq m)) (hc:aQ (U (I::l)) b off olds) (hl:olds.length=sLen*size) (h0:0<m) (hg:sCap<sLen+m) (aj:sLen+m<=maxLen) (hb:(sLen+m)*bytes<=140737488355328)
  (hk:∀g cap zs,zs.length=(cap-sLen)*size->sLen+m<=cap->cap<=maxLen->Dj (I::sg g (.cells (olds++zs).toArray e (0,0))::l)->RC C (.op ol rem k) (σ.put o.dst (.v (.slice (some ⟨g,0,none⟩) (sLen+m) cap))) (U (I::sg g (.cells (olds++zs).toArray e (0,0))::l))):RC C (.op ol (o::rem) k) σ (U (I::l)):=by
 obtain⟨a,c⟩:=xK (σ:=σ) ht aa ac hx hy hc hl h0 hg aj hb;refine f9 hw a (c.mono fun sv H2 ⟨g,cap,zs,e1,e2,e3,e4,e5,e6⟩=>?_);subst e5;subst e6;obtain⟨e5,e6⟩:=lN hd (o:=.cells (olds++zs).toArray e (0,0)) e1;rw[e5];exact hk g cap zs e2 e3 e4 e6
theorem yF {ol rem:List Oper} {o:Oper} {x y:Operand} {f:FuncId} {fn:Func} {t e tR:TypeId} {ts:Array TypeId} {size bytes:Nat} {a b la ca lb cb oa ob:Nat} {cA cB:Array Value} {tA tB:TypeId} (ht:iw C.P t e size bytes) (hf:C.P.funcs[f]?=some fn) (ac:(fn.name == "runtime.NumGoroutine")=false) (aj:fn.body.isNone=true) (hn:Extern.findNext fn=none) (he:Extern.find fn=some (Extern.SlicesOverlaps.overlaps #[t,t] #[tR]))
  (hw:aG ol σ o=some true) (an:o.op=.call ⟨.value (.func f),#[x,y],ts⟩) (hx:ev σ x=.v (.slice (some ⟨a,oa,none⟩) la ca)) (hy:ev σ y=.v (.slice (some ⟨b,ob,none⟩) lb cb)) (hA:H a=some (.cells cA tA (0,0))) (hB:H b=some (.cells cB tB (0,0))) (ap:a≠b) (aS:cB.size≠0)
  (hk:RC C (.op ol rem k) (σ.put o.dst (.v (.bool false))) H):RC C (.op ol (o::rem) k) σ H:=by
 have ao:ev σ (.func f)=.v (.func (.func f) #[] #[]):=rfl;refine rI (.bool false) hw ?_ (fun w s=>?_) hk
 ·simp[aR,an,eL,Op.operands,Call.operands,hx,hy,qy,ao]
 ·obtain⟨i,z,a1,a2,a3,a4,a5,a6,a7⟩:=ht;have am:=s _ _ hA;have a0:=s _ _ hB;have hz:∀w,(Go.sizeOf e).run C.P w=.ok size w:=fun w=>by simp[sizeOf,typeInfo,program,Sem.run,a2,a4]
  have ak:=Lib.run_overlaps_apart (P:=C.P) w t tR e a1 size hz ⟨a,oa,none⟩ ⟨b,ob,none⟩ la ca lb cb ap tA tB cA.size cB.size (by simp[World.shape?,am]) (by simp[World.shape?,a0]) aS (by simp[World.frozen?,am]) (by simp[World.frozen?,am]);have aa:=run_callFunc_extern hf ac aj hn he #[.slice (some ⟨a,oa,none⟩) la ca,.slice (some ⟨b,ob,none⟩) lb cb] w;rw[ak]at aa;simp only[Result.andThen]at aa;simp only[execOp,an,resolve,Se];simp[bp,ao,hx,hy,Deferred.ofValue,Result.andThen,invoke,aa]
theorem jF.sg{A:PH}{e:TypeId}{size:Nat}{v:Value}{n:Nat}{xs:List Value}(h:jF A e size v n xs)(hn:0<n):∃g cap cur,v=.slice (some ⟨g,0,none⟩) n cap/\A=Sx.sg g (.cells cur e (0,0))/\n<=cap/\cap<=maxLen/\cur.size=cap*size/\cur.toList.take (n*size)=xs:=by
 obtain⟨⟨hl,⟨_,e0⟩|⟨g,cap,cur,a,b,c,d,f,k'⟩⟩,hA⟩:=h
 ·omega
 ·refine⟨g,cap,cur,a,?_,c,d,f,k'⟩;funext b';by_cases eb:b'=g
  ·subst eb;rw[b,cP]
  ·rw[hA b' (by subst a;simp[fK];exact fun e=>eb e.symm)];simp[Sx.sg,eb]
theorem jF.of_sg{g cap n size:Nat}{cur:Array Value}{e:TypeId}{xs:List Value}(hl:xs.length=n*size)(h1:n<=cap)(h2:cap<=maxLen)(h3:cur.size=cap*size)(h4:cur.toList.take (n*size)=xs):jF (Sx.sg g (.cells cur e (0,0))) e size (.slice (some ⟨g,0,none⟩) n cap) n xs:=
 ⟨⟨hl,.inr ⟨g,cap,cur,rfl,cP _ _,h1,h2,h3,h4⟩⟩,fun c hc=>by
  simp only[fK,ne_eq,Sc]at hc;simp[Sx.sg,Ne.symm hc]⟩
theorem kT(l cs:List Value)(off m:Nat)(h:off+cs.length<=m):(be l off cs).take m=be (l.take m) off cs:=by
 induction cs generalizing l off with
 |nil=>rfl
 |cons c cs ih=>
  simp only[SB]at h;simp only[be];rw[ih _ _ Vi,List.take_set]
end
end Go.Sx
namespace Go.Proofs.YtfaclfkpnmcmlaaGreatDoor
open Go Go.Sx
theorem mF:Sx.aV Tryz.prog 3=some none:=by kernel_rfl
theorem Gn:Sx.bB Tryz.prog 3=some 1:=by kernel_rfl
theorem Hw:Sx.aI Tryz.prog 3=some (.int .i64 0):=by kernel_rfl
theorem Q7:Sx.aV Tryz.prog 4=some none:=by kernel_rfl
theorem MR:Sx.aV Tryz.prog 5=some none:=by kernel_rfl
theorem rz:Sx.aV Tryz.prog 9=some none:=by kernel_rfl
theorem qZ:Sx.aV Tryz.prog 23=some none:=by kernel_rfl
theorem pH:Sx.aV Tryz.prog 24=some none:=by kernel_rfl
theorem IF:Sx.aV Tryz.prog 33=some none:=by kernel_rfl
theorem GF:Sx.bB Tryz.prog 33=some 1:=by kernel_rfl
theorem LF:Sx.aV Tryz.prog 34=some none:=by kernel_rfl
theorem Nw:Sx.bB Tryz.prog 34=some 1:=by kernel_rfl
theorem NP:Sx.aV Tryz.prog 36=some (some 2):=by kernel_rfl
theorem Gq:Sx.aV Tryz.prog 46=some none:=by kernel_rfl
theorem yW:Sx.aV Tryz.prog 48=some none:=by kernel_rfl
theorem Mi:Sx.bB Tryz.prog 48=some 1:=by kernel_rfl
theorem oQ:Sx.aV Tryz.prog 50=some (some 2):=by kernel_rfl
theorem zp:Sx.bB Tryz.prog 50=some 2:=by kernel_rfl
theorem bT:Sx.aV Tryz.prog 60=some (some 7):=by kernel_rfl
theorem fx:Sx.bB Tryz.prog 60=some 7:=by kernel_rfl
theorem V1:Sx.aV Tryz.prog 78=some none:=by kernel_rfl
theorem iQ:Sx.aV Tryz.prog 80=some (some 4):=by kernel_rfl
theorem um:Sx.bB Tryz.prog 80=some 4:=by kernel_rfl
theorem Nh:Sx.aI Tryz.prog 80=some (.agg #[.int .u8 0,.int .i64 0,.slice none 0 0,.int .i64 0]):=by kernel_rfl
theorem Oy:Sx.aV Tryz.prog 83=some (some 7):=by kernel_rfl
theorem uI:Sx.aV Tryz.prog 152=some none:=by kernel_rfl
theorem Kt:Sx.aV Tryz.prog 158=some none:=by kernel_rfl
theorem oN:Sx.aV Tryz.prog 169=some (some 3):=by kernel_rfl
theorem KI:Sx.bB Tryz.prog 169=some 3:=by kernel_rfl
theorem ti:Sx.aV Tryz.prog 181=some (some 3):=by kernel_rfl
theorem uX:Sx.aV Tryz.prog 217=some none:=by kernel_rfl
theorem eS:Sx.aV Tryz.prog 227=some (some 5):=by kernel_rfl
theorem zw:Sx.aV Tryz.prog 260=some none:=by kernel_rfl
theorem G6:Sx.aV Tryz.prog 298=some none:=by kernel_rfl
theorem Bt:Sx.aV Tryz.prog 301=some none:=by kernel_rfl
theorem Ci:Sx.aV Tryz.prog 302=some none:=by kernel_rfl
theorem KY:Sx.bB Tryz.prog 302=some 1:=by kernel_rfl
theorem Fu:Sx.aV Tryz.prog 315=some none:=by kernel_rfl
theorem Kp:Sx.aV Tryz.prog 316=some none:=by kernel_rfl
theorem Kv:Sx.aV Tryz.prog 317=some (some 22):=by kernel_rfl
theorem qA:Sx.aV Tryz.prog 377=some none:=by kernel_rfl
theorem BK:Sx.bB Tryz.prog 377=some 1:=by kernel_rfl
theorem DN:Sx.iw Tryz.prog 24 83 7 96:=iw.of (by kernel_rfl) (by kernel_rfl) Vi
theorem HQ:Sx.iw Tryz.prog 28 136 6 88:=iw.of (by kernel_rfl) (by kernel_rfl) Vi
theorem cT:Sx.iw Tryz.prog 33 60 7 96:=iw.of (by kernel_rfl) (by kernel_rfl) Vi
theorem qR:Sx.iw Tryz.prog 34 80 4 48:=iw.of (by kernel_rfl) (by kernel_rfl) Vi
theorem Ev:Sx.iw Tryz.prog 43 23 1 4:=iw.of (by kernel_rfl) (by kernel_rfl) Vi
theorem VL:Sx.iw Tryz.prog 46 164 2 8:=iw.of (by kernel_rfl) (by kernel_rfl) Vi
theorem Jc:Sx.iw Tryz.prog 48 181 3 24:=iw.of (by kernel_rfl) (by kernel_rfl) Vi
theorem qX:Sx.iw Tryz.prog 81 3 1 8:=iw.of (by kernel_rfl) (by kernel_rfl) Vi
theorem PU:Sx.iw Tryz.prog 88 36 2 48:=iw.of (by kernel_rfl) (by kernel_rfl) Vi
theorem KC:Sx.iw Tryz.prog 154 169 3 40:=iw.of (by kernel_rfl) (by kernel_rfl) Vi
theorem gY:Sx.iw Tryz.prog 155 169 3 40:=iw.of (by kernel_rfl) (by kernel_rfl) Vi
theorem KS:Sx.iw Tryz.prog 158 4 1 1:=iw.of (by kernel_rfl) (by kernel_rfl) Vi
theorem Gr:Tryz.prog.underlying 238=some (.map 240 3):=by kernel_rfl
theorem yG:Tryz.prog.underlying 260=some (.map 335 3):=by kernel_rfl
theorem Fa:Tryz.prog.underlying 298=some (.map 181 3):=by kernel_rfl
theorem uF:Tryz.prog.underlying 301=some (.map 3 3):=by kernel_rfl
theorem qk:Sx.iw Tryz.prog 306 227 5 64:=iw.of (by kernel_rfl) (by kernel_rfl) Vi
theorem NQ:Sx.iw Tryz.prog 319 316 1 8:=iw.of (by kernel_rfl) (by kernel_rfl) Vi
theorem PM:Sx.bF Tryz.prog 3=.none/\Sx.aL Tryz.prog 3=.int .i64/\Sx.bO Tryz.prog 3=true/\Sx.bB Tryz.prog 4=some 1/\Sx.aI Tryz.prog 4=some (.bool false)/\Sx.bF Tryz.prog 4=.none/\Sx.aL Tryz.prog 4=.other/\Sx.bO Tryz.prog 4=true/\Sx.bB Tryz.prog 5=some 1/\Sx.aI Tryz.prog 5=some (.int .u8 0)/\Sx.bF Tryz.prog 5=.none/\Sx.aL Tryz.prog 5=.int .u8/\Sx.bO Tryz.prog 5=true/\Sx.bB Tryz.prog 9=some 1/\Sx.aI Tryz.prog 9=some (.string ⟨#[]⟩)/\Sx.bF Tryz.prog 9=.none/\Sx.aL Tryz.prog 9=.str/\Sx.bO Tryz.prog 9=true/\Sx.aV Tryz.prog 22=some none/\Sx.bB Tryz.prog 22=some 1/\Sx.aI Tryz.prog 22=some (.slice none 0 0)/\Sx.bF Tryz.prog 22=.sl 3/\Sx.aL Tryz.prog 22=.sl/\Sx.bO Tryz.prog 22=true/\Sx.bB Tryz.prog 23=some 1/\Sx.aI Tryz.prog 23=some (.int .u32 0)/\Sx.bF Tryz.prog 23=.none/\Sx.aL Tryz.prog 23=.int .u32/\Sx.bO Tryz.prog 23=true/\Sx.bB Tryz.prog 24=some 1/\Sx.aI Tryz.prog 24=some (.slice none 0 0)/\Sx.bF Tryz.prog 24=.sl 7/\Sx.aL Tryz.prog 24=.sl/\Sx.bO Tryz.prog 24=true/\Sx.aV Tryz.prog 27=some (some 2)/\Sx.bB Tryz.prog 27=some 2/\Sx.aI Tryz.prog 27=some (.agg #[.slice none 0 0,.slice none 0 0])/\Sx.aA Tryz.prog 27 0=some (0,24)/\Sx.aA Tryz.prog 27 1=some (1,25)/\Sx.gD Tryz.prog 27=true/\Sx.bF Tryz.prog 27=.none/\Sx.aL Tryz.prog 27=.other/\Sx.bO Tryz.prog 27=true/\Sx.aV Tryz.prog 28=some none/\Sx.bB Tryz.prog 28=some 1/\Sx.aI Tryz.prog 28=some (.slice none 0 0)/\Sx.bF Tryz.prog 28=.sl 6/\Sx.aL Tryz.prog 28=.sl/\Sx.bO Tryz.prog 28=true/\Sx.aI Tryz.prog 33=some (.slice none 0 0)/\Sx.bF Tryz.prog 33=.sl 7/\Sx.aL Tryz.prog 33=.sl/\Sx.bO Tryz.prog 33=true/\Sx.aI Tryz.prog 34=some (.slice none 0 0)/\Sx.bF Tryz.prog 34=.sl 4/\Sx.aL Tryz.prog 34=.sl/\Sx.bO Tryz.prog 34=true/\Sx.bB Tryz.prog 36=some 2/\Sx.aI Tryz.prog 36=some (.agg #[.slice none 0 0,.slice none 0 0])/\Sx.aA Tryz.prog 36 0=some (0,33):=by and_intros<;>kernel_rfl
theorem Qx:Sx.aA Tryz.prog 36 1=some (1,34)/\Sx.gD Tryz.prog 36=true/\Sx.bF Tryz.prog 36=.none/\Sx.aL Tryz.prog 36=.other/\Sx.bO Tryz.prog 36=true/\Sx.aV Tryz.prog 38=some none/\Sx.bB Tryz.prog 38=some 1/\Sx.aI Tryz.prog 38=some (.slice none 0 0)/\Sx.bF Tryz.prog 38=.sl 6/\Sx.aL Tryz.prog 38=.sl/\Sx.bO Tryz.prog 38=true/\Sx.aV Tryz.prog 39=some none/\Sx.bB Tryz.prog 39=some 1/\Sx.aI Tryz.prog 39=some (.slice none 0 0)/\Sx.bF Tryz.prog 39=.sl 3/\Sx.aL Tryz.prog 39=.sl/\Sx.bO Tryz.prog 39=true/\Sx.aV Tryz.prog 41=some (some 2)/\Sx.bB Tryz.prog 41=some 2/\Sx.aI Tryz.prog 41=some (.agg #[.slice none 0 0,.slice none 0 0])/\Sx.aA Tryz.prog 41 0=some (0,38)/\Sx.aA Tryz.prog 41 1=some (1,39)/\Sx.gD Tryz.prog 41=true/\Sx.bF Tryz.prog 41=.none/\Sx.aL Tryz.prog 41=.other/\Sx.bO Tryz.prog 41=true/\Sx.aV Tryz.prog 43=some none/\Sx.bB Tryz.prog 43=some 1/\Sx.aI Tryz.prog 43=some (.slice none 0 0)/\Sx.bF Tryz.prog 43=.sl 1/\Sx.aL Tryz.prog 43=.sl/\Sx.bO Tryz.prog 43=true/\Sx.bB Tryz.prog 46=some 1/\Sx.aI Tryz.prog 46=some (.slice none 0 0)/\Sx.bF Tryz.prog 46=.sl 2/\Sx.aL Tryz.prog 46=.sl/\Sx.bO Tryz.prog 46=true/\Sx.aI Tryz.prog 48=some (.slice none 0 0)/\Sx.bF Tryz.prog 48=.sl 3/\Sx.aL Tryz.prog 48=.sl/\Sx.bO Tryz.prog 48=true/\Sx.aI Tryz.prog 50=some (.agg #[.slice none 0 0,.int .i64 0])/\Sx.aA Tryz.prog 50 0=some (0,48)/\Sx.aA Tryz.prog 50 1=some (1,3)/\Sx.gD Tryz.prog 50=true/\Sx.bF Tryz.prog 50=.none/\Sx.aL Tryz.prog 50=.other/\Sx.bO Tryz.prog 50=true/\Sx.aI Tryz.prog 60=some (.agg #[.int .u8 0,.string ⟨#[]⟩,.int .i64 0,.int .i64 0,.slice none 0 0,.slice none 0 0,.int .i64 0])/\Sx.aA Tryz.prog 60 0=some (0,5)/\Sx.aA Tryz.prog 60 1=some (1,9)/\Sx.aA Tryz.prog 60 2=some (2,3)/\Sx.aA Tryz.prog 60 3=some (3,3)/\Sx.aA Tryz.prog 60 4=some (4,33)/\Sx.aA Tryz.prog 60 5=some (5,50)/\Sx.gD Tryz.prog 60=true/\Sx.bF Tryz.prog 60=.none/\Sx.aL Tryz.prog 60=.other/\Sx.bO Tryz.prog 60=true/\Sx.aV Tryz.prog 61=some none:=by and_intros<;>kernel_rfl
theorem PK:Sx.bB Tryz.prog 61=some 1/\Sx.aI Tryz.prog 61=some (.int .i64 0)/\Sx.bF Tryz.prog 61=.none/\Sx.aL Tryz.prog 61=.int .i64/\Sx.bO Tryz.prog 61=true/\Sx.aV Tryz.prog 67=some (some 6)/\Sx.bB Tryz.prog 67=some 6/\Sx.aI Tryz.prog 67=some (.agg #[.int .u8 0,.string ⟨#[]⟩,.int .i64 0,.int .i64 0,.slice none 0 0,.slice none 0 0])/\Sx.aA Tryz.prog 67 0=some (0,5)/\Sx.aA Tryz.prog 67 1=some (1,9)/\Sx.aA Tryz.prog 67 2=some (2,3)/\Sx.aA Tryz.prog 67 3=some (3,3)/\Sx.aA Tryz.prog 67 4=some (4,38)/\Sx.aA Tryz.prog 67 5=some (5,43)/\Sx.gD Tryz.prog 67=true/\Sx.bF Tryz.prog 67=.none/\Sx.aL Tryz.prog 67=.other/\Sx.bO Tryz.prog 67=true/\Sx.bB Tryz.prog 78=some 1/\Sx.aI Tryz.prog 78=some (.int .u8 0)/\Sx.bF Tryz.prog 78=.none/\Sx.aL Tryz.prog 78=.int .u8/\Sx.bO Tryz.prog 78=true/\Sx.aA Tryz.prog 80 0=some (0,78)/\Sx.aA Tryz.prog 80 1=some (1,3)/\Sx.aA Tryz.prog 80 2=some (2,50)/\Sx.gD Tryz.prog 80=true/\Sx.bF Tryz.prog 80=.none/\Sx.aL Tryz.prog 80=.other/\Sx.bO Tryz.prog 80=true/\Sx.aV Tryz.prog 81=some none/\Sx.bB Tryz.prog 81=some 1/\Sx.aI Tryz.prog 81=some (.slice none 0 0)/\Sx.bF Tryz.prog 81=.sl 1/\Sx.aL Tryz.prog 81=.sl/\Sx.bO Tryz.prog 81=true/\Sx.bB Tryz.prog 83=some 7/\Sx.aI Tryz.prog 83=some (.agg #[.int .u8 0,.string ⟨#[]⟩,.slice none 0 0,.int .i64 0,.int .i64 0,.slice none 0 0,.int .i64 0])/\Sx.aA Tryz.prog 83 0=some (0,5)/\Sx.aA Tryz.prog 83 1=some (1,9)/\Sx.aA Tryz.prog 83 2=some (2,81)/\Sx.aA Tryz.prog 83 3=some (3,3)/\Sx.aA Tryz.prog 83 4=some (4,3)/\Sx.aA Tryz.prog 83 5=some (5,50)/\Sx.gD Tryz.prog 83=true/\Sx.bF Tryz.prog 83=.none/\Sx.aL Tryz.prog 83=.other/\Sx.bO Tryz.prog 83=true/\Sx.aV Tryz.prog 88=some none/\Sx.bB Tryz.prog 88=some 1/\Sx.aI Tryz.prog 88=some (.slice none 0 0)/\Sx.bF Tryz.prog 88=.sl 2/\Sx.aL Tryz.prog 88=.sl/\Sx.bO Tryz.prog 88=true/\Sx.aV Tryz.prog 91=some none/\Sx.bB Tryz.prog 91=some 1/\Sx.aI Tryz.prog 91=some (.slice none 0 0)/\Sx.bF Tryz.prog 91=.sl 6/\Sx.aL Tryz.prog 91=.sl/\Sx.bO Tryz.prog 91=true:=by and_intros<;>kernel_rfl
theorem Qh:Sx.aV Tryz.prog 92=some none/\Sx.bB Tryz.prog 92=some 1/\Sx.aI Tryz.prog 92=some (.slice none 0 0)/\Sx.bF Tryz.prog 92=.sl 3/\Sx.aL Tryz.prog 92=.sl/\Sx.bO Tryz.prog 92=true/\Sx.aV Tryz.prog 94=some (some 2)/\Sx.bB Tryz.prog 94=some 2/\Sx.aI Tryz.prog 94=some (.agg #[.slice none 0 0,.slice none 0 0])/\Sx.aA Tryz.prog 94 0=some (0,91)/\Sx.aA Tryz.prog 94 1=some (1,92)/\Sx.gD Tryz.prog 94=true/\Sx.bF Tryz.prog 94=.none/\Sx.aL Tryz.prog 94=.other/\Sx.bO Tryz.prog 94=true/\Sx.aV Tryz.prog 97=some none/\Sx.bB Tryz.prog 97=some 1/\Sx.aI Tryz.prog 97=some (.slice none 0 0)/\Sx.bF Tryz.prog 97=.sl 2/\Sx.aL Tryz.prog 97=.sl/\Sx.bO Tryz.prog 97=true/\Sx.aV Tryz.prog 102=some (some 3)/\Sx.bB Tryz.prog 102=some 3/\Sx.aI Tryz.prog 102=some (.agg #[.int .u8 0,.int .i64 0,.slice none 0 0])/\Sx.aA Tryz.prog 102 0=some (0,78)/\Sx.aA Tryz.prog 102 1=some (1,3)/\Sx.aA Tryz.prog 102 2=some (2,43)/\Sx.gD Tryz.prog 102=true/\Sx.bF Tryz.prog 102=.none/\Sx.aL Tryz.prog 102=.other/\Sx.bO Tryz.prog 102=true/\Sx.aV Tryz.prog 104=some none/\Sx.bB Tryz.prog 104=some 1/\Sx.aI Tryz.prog 104=some (.slice none 0 0)/\Sx.bF Tryz.prog 104=.sl 7/\Sx.aL Tryz.prog 104=.sl/\Sx.bO Tryz.prog 104=true/\Sx.aV Tryz.prog 111=some (some 7)/\Sx.bB Tryz.prog 111=some 7/\Sx.aI Tryz.prog 111=some (.agg #[.slice none 0 0,.int .u8 0,.string ⟨#[]⟩,.int .i64 0,.int .i64 0,.slice none 0 0,.slice none 0 0])/\Sx.aA Tryz.prog 111 0=some (0,81)/\Sx.aA Tryz.prog 111 1=some (1,67)/\Sx.gD Tryz.prog 111=true/\Sx.bF Tryz.prog 111=.none/\Sx.aL Tryz.prog 111=.other/\Sx.bO Tryz.prog 111=true/\Sx.aV Tryz.prog 118=some none/\Sx.bB Tryz.prog 118=some 1/\Sx.aI Tryz.prog 118=some (.slice none 0 0)/\Sx.bF Tryz.prog 118=.sl 2/\Sx.aL Tryz.prog 118=.sl/\Sx.bO Tryz.prog 118=true/\Sx.aV Tryz.prog 134=some (some 3)/\Sx.bB Tryz.prog 134=some 3/\Sx.aI Tryz.prog 134=some (.agg #[.int .u8 0,.string ⟨#[]⟩,.slice none 0 0])/\Sx.aA Tryz.prog 134 0=some (0,5)/\Sx.aA Tryz.prog 134 1=some (1,9)/\Sx.aA Tryz.prog 134 2=some (2,46)/\Sx.gD Tryz.prog 134=true/\Sx.bF Tryz.prog 134=.none:=by and_intros<;>kernel_rfl
theorem Qg:Sx.aL Tryz.prog 134=.other/\Sx.bO Tryz.prog 134=true/\Sx.aV Tryz.prog 136=some (some 6)/\Sx.bB Tryz.prog 136=some 6/\Sx.aI Tryz.prog 136=some (.agg #[.int .u8 0,.string ⟨#[]⟩,.slice none 0 0,.int .i64 0,.int .i64 0,.slice none 0 0])/\Sx.aA Tryz.prog 136 0=some (0,5)/\Sx.aA Tryz.prog 136 1=some (1,9)/\Sx.aA Tryz.prog 136 2=some (2,81)/\Sx.aA Tryz.prog 136 3=some (3,3)/\Sx.aA Tryz.prog 136 4=some (4,3)/\Sx.aA Tryz.prog 136 5=some (5,43)/\Sx.gD Tryz.prog 136=true/\Sx.bF Tryz.prog 136=.none/\Sx.aL Tryz.prog 136=.other/\Sx.bO Tryz.prog 136=true/\Sx.aV Tryz.prog 150=some (some 8)/\Sx.bB Tryz.prog 150=some 8/\Sx.aI Tryz.prog 150=some (.agg #[.slice none 0 0,.slice none 0 0,.int .i64 0,.int .i64 0,.int .i64 0,.bool false,.int .u8 0,.int .i64 0])/\Sx.aA Tryz.prog 150 0=some (0,28)/\Sx.aA Tryz.prog 150 1=some (1,81)/\Sx.aA Tryz.prog 150 2=some (2,3)/\Sx.aA Tryz.prog 150 3=some (3,3)/\Sx.aA Tryz.prog 150 4=some (4,3)/\Sx.aA Tryz.prog 150 5=some (5,4)/\Sx.aA Tryz.prog 150 6=some (6,78)/\Sx.aA Tryz.prog 150 7=some (7,3)/\Sx.gD Tryz.prog 150=true/\Sx.bF Tryz.prog 150=.none/\Sx.aL Tryz.prog 150=.other/\Sx.bO Tryz.prog 150=true/\Sx.bB Tryz.prog 152=some 1/\Sx.aI Tryz.prog 152=some (.pointer none)/\Sx.bF Tryz.prog 152=.none/\Sx.aL Tryz.prog 152=.other/\Sx.bO Tryz.prog 152=true/\Sx.aV Tryz.prog 154=some none/\Sx.bB Tryz.prog 154=some 1/\Sx.aI Tryz.prog 154=some (.slice none 0 0)/\Sx.bF Tryz.prog 154=.sl 3/\Sx.aL Tryz.prog 154=.sl/\Sx.bO Tryz.prog 154=true/\Sx.aV Tryz.prog 155=some none/\Sx.bB Tryz.prog 155=some 1/\Sx.aI Tryz.prog 155=some (.slice none 0 0)/\Sx.bF Tryz.prog 155=.sl 3/\Sx.aL Tryz.prog 155=.sl/\Sx.bO Tryz.prog 155=true/\Sx.bB Tryz.prog 158=some 1/\Sx.aI Tryz.prog 158=some (.slice none 0 0)/\Sx.bF Tryz.prog 158=.sl 1/\Sx.aL Tryz.prog 158=.sl/\Sx.bO Tryz.prog 158=true/\Sx.aV Tryz.prog 159=some none/\Sx.bB Tryz.prog 159=some 1/\Sx.aI Tryz.prog 159=some (.slice none 0 0)/\Sx.bF Tryz.prog 159=.sl 2/\Sx.aL Tryz.prog 159=.sl/\Sx.bO Tryz.prog 159=true/\Sx.aV Tryz.prog 161=some (some 5)/\Sx.bB Tryz.prog 161=some 5:=by and_intros<;>kernel_rfl
theorem QN:Sx.aI Tryz.prog 161=some (.agg #[.slice none 0 0,.slice none 0 0,.slice none 0 0,.int .i64 0,.slice none 0 0])/\Sx.aA Tryz.prog 161 0=some (0,24)/\Sx.aA Tryz.prog 161 1=some (1,158)/\Sx.aA Tryz.prog 161 2=some (2,159)/\Sx.aA Tryz.prog 161 3=some (3,3)/\Sx.aA Tryz.prog 161 4=some (4,34)/\Sx.gD Tryz.prog 161=true/\Sx.bF Tryz.prog 161=.none/\Sx.aL Tryz.prog 161=.other/\Sx.bO Tryz.prog 161=true/\Sx.aV Tryz.prog 164=some (some 2)/\Sx.bB Tryz.prog 164=some 2/\Sx.aI Tryz.prog 164=some (.agg #[.int .u32 0,.int .u32 0])/\Sx.aA Tryz.prog 164 0=some (0,23)/\Sx.aA Tryz.prog 164 1=some (1,23)/\Sx.gD Tryz.prog 164=true/\Sx.bF Tryz.prog 164=.none/\Sx.aL Tryz.prog 164=.other/\Sx.bO Tryz.prog 164=true/\Sx.aI Tryz.prog 169=some (.agg #[.int .i64 0,.slice none 0 0,.int .i64 0])/\Sx.aA Tryz.prog 169 0=some (0,3)/\Sx.aA Tryz.prog 169 1=some (1,50)/\Sx.gD Tryz.prog 169=true/\Sx.bF Tryz.prog 169=.none/\Sx.aL Tryz.prog 169=.other/\Sx.bO Tryz.prog 169=true/\Sx.bB Tryz.prog 181=some 3/\Sx.aI Tryz.prog 181=some (.agg #[.int .i64 0,.int .i64 0,.int .i64 0])/\Sx.aA Tryz.prog 181 0=some (0,3)/\Sx.aA Tryz.prog 181 1=some (1,3)/\Sx.aA Tryz.prog 181 2=some (2,3)/\Sx.gD Tryz.prog 181=true/\Sx.bF Tryz.prog 181=.none/\Sx.aL Tryz.prog 181=.other/\Sx.bO Tryz.prog 181=true/\Sx.aV Tryz.prog 187=some (some 3)/\Sx.bB Tryz.prog 187=some 3/\Sx.aI Tryz.prog 187=some (.agg #[.int .u8 0,.int .i64 0,.slice none 0 0])/\Sx.aA Tryz.prog 187 0=some (0,78)/\Sx.aA Tryz.prog 187 1=some (1,3)/\Sx.aA Tryz.prog 187 2=some (2,46)/\Sx.gD Tryz.prog 187=true/\Sx.bF Tryz.prog 187=.none/\Sx.aL Tryz.prog 187=.other/\Sx.bO Tryz.prog 187=true/\Sx.aV Tryz.prog 192=some none/\Sx.bB Tryz.prog 192=some 1/\Sx.aI Tryz.prog 192=some (.nilFunc)/\Sx.bF Tryz.prog 192=.none/\Sx.aL Tryz.prog 192=.other/\Sx.bO Tryz.prog 192=true/\Sx.aV Tryz.prog 197=some none/\Sx.bB Tryz.prog 197=some 1/\Sx.aI Tryz.prog 197=some (.map none)/\Sx.bF Tryz.prog 197=.none/\Sx.aL Tryz.prog 197=.other/\Sx.bO Tryz.prog 197=true/\Sx.bB Tryz.prog 217=some 1/\Sx.aI Tryz.prog 217=some (.pointer none)/\Sx.bF Tryz.prog 217=.none:=by and_intros<;>kernel_rfl
theorem QG:Sx.aL Tryz.prog 217=.other/\Sx.bO Tryz.prog 217=true/\Sx.bB Tryz.prog 227=some 5/\Sx.aI Tryz.prog 227=some (.agg #[.int .i64 0,.slice none 0 0,.int .i64 0,.int .u8 0,.string ⟨#[]⟩])/\Sx.aA Tryz.prog 227 0=some (0,3)/\Sx.aA Tryz.prog 227 1=some (1,50)/\Sx.aA Tryz.prog 227 2=some (3,5)/\Sx.aA Tryz.prog 227 3=some (4,9)/\Sx.gD Tryz.prog 227=true/\Sx.bF Tryz.prog 227=.none/\Sx.aL Tryz.prog 227=.other/\Sx.bO Tryz.prog 227=true/\Sx.aV Tryz.prog 238=some none/\Sx.bB Tryz.prog 238=some 1/\Sx.aI Tryz.prog 238=some (.map none)/\Sx.bF Tryz.prog 238=.none/\Sx.aL Tryz.prog 238=.other/\Sx.bO Tryz.prog 238=true/\Sx.aV Tryz.prog 240=some (some 4)/\Sx.bB Tryz.prog 240=some 4/\Sx.aI Tryz.prog 240=some (.agg #[.int .i64 0,.int .i64 0,.int .u8 0,.string ⟨#[]⟩])/\Sx.aA Tryz.prog 240 0=some (0,3)/\Sx.aA Tryz.prog 240 1=some (1,3)/\Sx.aA Tryz.prog 240 2=some (2,5)/\Sx.aA Tryz.prog 240 3=some (3,9)/\Sx.gD Tryz.prog 240=true/\Sx.bF Tryz.prog 240=.none/\Sx.aL Tryz.prog 240=.other/\Sx.bO Tryz.prog 240=true/\Sx.bB Tryz.prog 260=some 1/\Sx.aI Tryz.prog 260=some (.map none)/\Sx.bF Tryz.prog 260=.none/\Sx.aL Tryz.prog 260=.other/\Sx.bO Tryz.prog 260=true/\Sx.aV Tryz.prog 262=some (some 6)/\Sx.bB Tryz.prog 262=some 6/\Sx.aI Tryz.prog 262=some (.agg #[.pointer none,.slice none 0 0,.int .i64 0,.slice none 0 0,.int .i64 0,.map none])/\Sx.aA Tryz.prog 262 0=some (0,217)/\Sx.aA Tryz.prog 262 1=some (1,50)/\Sx.aA Tryz.prog 262 2=some (3,50)/\Sx.aA Tryz.prog 262 3=some (5,260)/\Sx.gD Tryz.prog 262=true/\Sx.bF Tryz.prog 262=.none/\Sx.aL Tryz.prog 262=.other/\Sx.bO Tryz.prog 262=true/\Sx.aV Tryz.prog 265=some (some 6)/\Sx.bB Tryz.prog 265=some 6/\Sx.aI Tryz.prog 265=some (.agg #[.int .u8 0,.string ⟨#[]⟩,.int .i64 0,.int .i64 0,.slice none 0 0,.slice none 0 0])/\Sx.aA Tryz.prog 265 0=some (0,5)/\Sx.aA Tryz.prog 265 1=some (1,9)/\Sx.aA Tryz.prog 265 2=some (2,3)/\Sx.aA Tryz.prog 265 3=some (3,3)/\Sx.aA Tryz.prog 265 4=some (4,91)/\Sx.aA Tryz.prog 265 5=some (5,46)/\Sx.gD Tryz.prog 265=true/\Sx.bF Tryz.prog 265=.none/\Sx.aL Tryz.prog 265=.other/\Sx.bO Tryz.prog 265=true/\Sx.aV Tryz.prog 268=some none/\Sx.bB Tryz.prog 268=some 1:=by and_intros<;>kernel_rfl
theorem P1:Sx.aI Tryz.prog 268=some (.slice none 0 0)/\Sx.bF Tryz.prog 268=.sl 1/\Sx.aL Tryz.prog 268=.sl/\Sx.bO Tryz.prog 268=true/\Sx.aV Tryz.prog 282=some none/\Sx.bB Tryz.prog 282=some 1/\Sx.aI Tryz.prog 282=some (.slice none 0 0)/\Sx.bF Tryz.prog 282=.sl 1/\Sx.aL Tryz.prog 282=.sl/\Sx.bO Tryz.prog 282=true/\Sx.aV Tryz.prog 284=some none/\Sx.bB Tryz.prog 284=some 1/\Sx.aI Tryz.prog 284=some (.nilIface)/\Sx.bF Tryz.prog 284=.none/\Sx.aL Tryz.prog 284=.other/\Sx.bO Tryz.prog 284=true/\Sx.bB Tryz.prog 298=some 1/\Sx.aI Tryz.prog 298=some (.map none)/\Sx.bF Tryz.prog 298=.none/\Sx.aL Tryz.prog 298=.other/\Sx.bO Tryz.prog 298=true/\Sx.aV Tryz.prog 300=some (some 2)/\Sx.bB Tryz.prog 300=some 2/\Sx.aI Tryz.prog 300=some (.agg #[.slice none 0 0,.map none])/\Sx.aA Tryz.prog 300 0=some (0,48)/\Sx.aA Tryz.prog 300 1=some (1,298)/\Sx.gD Tryz.prog 300=true/\Sx.bF Tryz.prog 300=.none/\Sx.aL Tryz.prog 300=.other/\Sx.bO Tryz.prog 300=true/\Sx.bB Tryz.prog 301=some 1/\Sx.aI Tryz.prog 301=some (.map none)/\Sx.bF Tryz.prog 301=.none/\Sx.aL Tryz.prog 301=.other/\Sx.bO Tryz.prog 301=true/\Sx.aI Tryz.prog 302=some (.nilFunc)/\Sx.bF Tryz.prog 302=.none/\Sx.aL Tryz.prog 302=.other/\Sx.bO Tryz.prog 302=true/\Sx.aV Tryz.prog 306=some none/\Sx.bB Tryz.prog 306=some 1/\Sx.aI Tryz.prog 306=some (.slice none 0 0)/\Sx.bF Tryz.prog 306=.sl 5/\Sx.aL Tryz.prog 306=.sl/\Sx.bO Tryz.prog 306=true/\Sx.bB Tryz.prog 315=some 1/\Sx.aI Tryz.prog 315=some (.nilFunc)/\Sx.bF Tryz.prog 315=.none/\Sx.aL Tryz.prog 315=.other/\Sx.bO Tryz.prog 315=true/\Sx.bB Tryz.prog 316=some 1/\Sx.aI Tryz.prog 316=some (.nilFunc)/\Sx.bF Tryz.prog 316=.none/\Sx.aL Tryz.prog 316=.other/\Sx.bO Tryz.prog 316=true/\Sx.bB Tryz.prog 317=some 22/\Sx.aI Tryz.prog 317=some (.agg #[.string ⟨#[]⟩,.string ⟨#[]⟩,.string ⟨#[]⟩,.string ⟨#[]⟩,.string ⟨#[]⟩,.string ⟨#[]⟩,.string ⟨#[]⟩,.string ⟨#[]⟩,.string ⟨#[]⟩,.string ⟨#[]⟩,.string ⟨#[]⟩,.string ⟨#[]⟩,.string ⟨#[]⟩,.string ⟨#[]⟩,.string ⟨#[]⟩,.string ⟨#[]⟩,.string ⟨#[]⟩,.string ⟨#[]⟩,.string ⟨#[]⟩,.string ⟨#[]⟩,.string ⟨#[]⟩,.string ⟨#[]⟩])/\Sx.bF Tryz.prog 317=.arr 22 1/\Sx.aL Tryz.prog 317=.other/\Sx.bO Tryz.prog 317=true:=by and_intros<;>kernel_rfl
theorem Qy:Sx.aV Tryz.prog 319=some none/\Sx.bB Tryz.prog 319=some 1/\Sx.aI Tryz.prog 319=some (.slice none 0 0)/\Sx.bF Tryz.prog 319=.sl 1/\Sx.aL Tryz.prog 319=.sl/\Sx.bO Tryz.prog 319=true/\Sx.aV Tryz.prog 325=some none/\Sx.bB Tryz.prog 325=some 1/\Sx.aI Tryz.prog 325=some (.int .u64 0)/\Sx.bF Tryz.prog 325=.none/\Sx.aL Tryz.prog 325=.int .u64/\Sx.bO Tryz.prog 325=true/\Sx.aV Tryz.prog 329=some none/\Sx.bB Tryz.prog 329=some 1/\Sx.aI Tryz.prog 329=some (.slice none 0 0)/\Sx.bF Tryz.prog 329=.sl 1/\Sx.aL Tryz.prog 329=.sl/\Sx.bO Tryz.prog 329=true/\Sx.aV Tryz.prog 335=some (some 2)/\Sx.bB Tryz.prog 335=some 2/\Sx.aI Tryz.prog 335=some (.agg #[.int .i64 0,.int .i64 0])/\Sx.bF Tryz.prog 335=.arr 2 1/\Sx.aL Tryz.prog 335=.other/\Sx.bO Tryz.prog 335=true/\Sx.aV Tryz.prog 358=some none/\Sx.bB Tryz.prog 358=some 1/\Sx.aI Tryz.prog 358=some (.int .i64 0)/\Sx.bF Tryz.prog 358=.none/\Sx.aL Tryz.prog 358=.int .i64/\Sx.bO Tryz.prog 358=true/\Sx.aV Tryz.prog 366=some none/\Sx.bB Tryz.prog 366=some 1/\Sx.aI Tryz.prog 366=some (.int .u64 0)/\Sx.bF Tryz.prog 366=.none/\Sx.aL Tryz.prog 366=.int .u64/\Sx.bO Tryz.prog 366=true/\Sx.aI Tryz.prog 377=some (.int .u64 0)/\Sx.bF Tryz.prog 377=.none/\Sx.aL Tryz.prog 377=.int .u64/\Sx.bO Tryz.prog 377=true/\Sx.aV Tryz.prog 403=some none/\Sx.bB Tryz.prog 403=some 1/\Sx.aI Tryz.prog 403=some (.pointer none)/\Sx.bF Tryz.prog 403=.none/\Sx.aL Tryz.prog 403=.other/\Sx.bO Tryz.prog 403=true/\Sx.aV Tryz.prog 405=some (some 1)/\Sx.bB Tryz.prog 405=some 1/\Sx.aI Tryz.prog 405=some (.agg #[.string ⟨#[]⟩])/\Sx.aA Tryz.prog 405 0=some (0,9)/\Sx.gD Tryz.prog 405=true/\Sx.bF Tryz.prog 405=.none/\Sx.aL Tryz.prog 405=.other/\Sx.bO Tryz.prog 405=true/\Sx.aV Tryz.prog 408=some (some 32)/\Sx.bB Tryz.prog 408=some 32/\Sx.aI Tryz.prog 408=some (.agg #[.int .u8 0,.int .u8 0,.int .u8 0,.int .u8 0,.int .u8 0,.int .u8 0,.int .u8 0,.int .u8 0,.int .u8 0,.int .u8 0,.int .u8 0,.int .u8 0,.int .u8 0,.int .u8 0,.int .u8 0,.int .u8 0,.int .u8 0,.int .u8 0,.int .u8 0,.int .u8 0,.int .u8 0,.int .u8 0,.int .u8 0,.int .u8 0,.int .u8 0,.int .u8 0,.int .u8 0,.int .u8 0,.int .u8 0,.int .u8 0,.int .u8 0,.int .u8 0])/\Sx.bF Tryz.prog 408=.arr 32 1/\Sx.aL Tryz.prog 408=.other/\Sx.bO Tryz.prog 408=true:=by and_intros<;>kernel_rfl
theorem PY:Sx.aV Tryz.prog 409=some (some 64)/\Sx.bB Tryz.prog 409=some 64/\Sx.aI Tryz.prog 409=some (.agg #[.int .u8 0,.int .u8 0,.int .u8 0,.int .u8 0,.int .u8 0,.int .u8 0,.int .u8 0,.int .u8 0,.int .u8 0,.int .u8 0,.int .u8 0,.int .u8 0,.int .u8 0,.int .u8 0,.int .u8 0,.int .u8 0,.int .u8 0,.int .u8 0,.int .u8 0,.int .u8 0,.int .u8 0,.int .u8 0,.int .u8 0,.int .u8 0,.int .u8 0,.int .u8 0,.int .u8 0,.int .u8 0,.int .u8 0,.int .u8 0,.int .u8 0,.int .u8 0,.int .u8 0,.int .u8 0,.int .u8 0,.int .u8 0,.int .u8 0,.int .u8 0,.int .u8 0,.int .u8 0,.int .u8 0,.int .u8 0,.int .u8 0,.int .u8 0,.int .u8 0,.int .u8 0,.int .u8 0,.int .u8 0,.int .u8 0,.int .u8 0,.int .u8 0,.int .u8 0,.int .u8 0,.int .u8 0,.int .u8 0,.int .u8 0,.int .u8 0,.int .u8 0,.int .u8 0,.int .u8 0,.int .u8 0,.int .u8 0,.int .u8 0,.int .u8 0])/\Sx.bF Tryz.prog 409=.arr 64 1/\Sx.aL Tryz.prog 409=.other/\Sx.bO Tryz.prog 409=true:=by and_intros<;>kernel_rfl
attribute [go_sem] PM Qx PK Qh Qg QN QG P1 Qy PY mF Gn Hw Q7 MR rz qZ pH IF GF LF Nw NP Gq yW Mi oQ zp bT fx V1 iQ um Nh Oy uI Kt oN KI ti uX eS zw G6 Bt Ci KY Fu Kp Kv qA BK
end Go.Proofs.YtfaclfkpnmcmlaaGreatDoor
namespace Dg
abbrev cg:=Nat->Bool
def wz(c:cg)(j:Nat)(x:Bool):cg:=fun i=>if i=j then x else c i
inductive T where
 |lf (b:Bool)
 |nd (v:Nat) (l h:T)
deriving DecidableEq
namespace T
def at'(c:cg):T->Bool
 |lf b=>b
 |nd v l h=>if c v then h.at' c else l.at' c
def ok:Nat->T->Prop
 |_,lf _=>True
 |k,nd v l h=>k<=v/\v<24/\l≠h/\ok (v+1) l/\ok (v+1) h
theorem ok.mono{t:T}{k j:Nat}(hj:j<=k)(h:t.ok k):t.ok j:=by
 cases t with
 |lf b=>trivial
 |nd v l r=>exact⟨R8 hj h.1,h.2⟩
theorem oq{t:T}:∀{k:Nat},t.ok k->∀{j:Nat},j<k->∀(c:cg) (x:Bool),t.at' (wz c j x)=t.at' c:=by
 induction t with
 |lf b=>intros;rfl
 |nd v l h ihl ihh=>
  intro k hk j hj c x;have hv:wz c j x v=c v:=by unfold wz;rw[Sb];have:=hk.1;omega
  simp only[at',hv,ihl hk.2.2.2.1 (show j<v+1 by have:=hk.1;omega),ihh hk.2.2.2.2 (show j<v+1 by have:=hk.1;omega)]
theorem uG{v:Nat}{l h:T}{k:Nat}(hk:(nd v l h).ok k)(c:cg):(nd v l h).at' (wz c v false)=l.at' c:=by
 simp only[at',wz,R9,Tp,Si];exact oq hk.2.2.2.1 (Tv v) c false
theorem vv{v:Nat}{l h:T}{k:Nat}(hk:(nd v l h).ok k)(c:cg):(nd v l h).at' (wz c v true)=h.at' c:=by
 simp only[at',wz,R9];exact oq hk.2.2.2.2 (Tv v) c true
def sz:T->Nat
 |lf _=>1
 |nd _ l h=>l.sz+h.sz+1
theorem NK:∀(n:Nat) (a b:T) (k j:Nat),a.sz+b.sz<=n->a.ok k->b.ok j->(∀c,a.at' c=b.at' c)->a=b:=by
 intro n
 induction n with
 |zero=>intro a b k j hn;cases a<;>simp[sz]at hn
 |succ n ih=>
  intro a b k j hn ha hb he;cases a with
  |lf x=>
   cases b with
   |lf y=>have:=he (fun _=>false);simp only[at']at this;rw[this]
   |nd v l h=>
    exfalso;simp only[sz]at hn;have e1:lf x=l:=ih (lf x) l 0 _ (by simp only[sz];omega) trivial hb.2.2.2.1 (fun c=>by rw[<-uG hb c,<-he];rfl);have e2:lf x=h:=ih (lf x) h 0 _ (by simp only[sz];omega) trivial hb.2.2.2.2 (fun c=>by rw[<-vv hb c,<-he];rfl);exact hb.2.2.1 (e1.symm.trans e2)
  |nd v l h=>
   cases b with
   |lf y=>
    exfalso;simp only[sz]at hn;have e1:l=lf y:=ih l (lf y) _ 0 (by simp only[sz];omega) ha.2.2.2.1 trivial (fun c=>by rw[<-uG ha c,he];rfl);have e2:h=lf y:=ih h (lf y) _ 0 (by simp only[sz];omega) ha.2.2.2.2 trivial (fun c=>by rw[<-vv ha c,he];rfl);exact ha.2.2.1 (e1.trans e2.symm)
   |nd v' l' h'=>
    simp only[sz]at hn;rcases SD v v' with hv|hv|hv
    ·exfalso;have aa:(nd v' l' h').ok (v+1):=⟨hv,hb.2⟩;have e1:l=nd v' l' h':=ih l _ _ _ (by simp only[sz];omega) ha.2.2.2.1 aa (fun c=>by rw[<-uG ha c,he,oq aa (Tv v)]);have e2:h=nd v' l' h':=ih h _ _ _ (by simp only[sz];omega) ha.2.2.2.2 aa (fun c=>by rw[<-vv ha c,he,oq aa (Tv v)]);exact ha.2.2.1 (e1.trans e2.symm)
    ·subst hv;have e1:l=l':=ih l l' _ _ Vi ha.2.2.2.1 hb.2.2.2.1 (fun c=>by rw[<-uG ha c,he,uG hb c]);have e2:h=h':=ih h h' _ _ Vi ha.2.2.2.2 hb.2.2.2.2 (fun c=>by rw[<-vv ha c,he,vv hb c]);rw[e1,e2]
    ·exfalso;have ac:(nd v l h).ok (v'+1):=⟨hv,ha.2⟩;have e1:nd v l h=l':=ih _ l' _ _ (by simp only[sz];omega) ac hb.2.2.2.1 (fun c=>by rw[<-uG hb c,<-he,oq ac (Tv v')]);have e2:nd v l h=h':=ih _ h' _ _ (by simp only[sz];omega) ac hb.2.2.2.2 (fun c=>by rw[<-vv hb c,<-he,oq ac (Tv v')]);exact hb.2.2.1 (e1.symm.trans e2)
theorem ext{a b:T}{k j:Nat}(ha:a.ok k)(hb:b.ok j)(h:∀c,a.at' c=b.at' c):a=b:=NK _ a b k j (R7 _) ha hb h
def mk(v:Nat)(l h:T):T:=if l=h then l else nd v l h
theorem mk_ok{v k:Nat}{l h:T}(hk:k<=v)(hv:v<24)(hl:l.ok (v+1))(hh:h.ok (v+1)):(mk v l h).ok k:=by
 unfold mk;split
 ·exact hl.mono Vi
 ·exact⟨hk,hv,by assumption,hl,hh⟩
theorem mk_at(v:Nat)(l h:T)(c:cg):(mk v l h).at' c=if c v then h.at' c else l.at' c:=by
 unfold mk;split
 ·subst_vars;simp
 ·rfl
def var:T->Nat
 |lf _=>24
 |nd v _ _=>v
def lo(i:Nat):T->T
 |nd v l h=>if v=i then l else nd v l h
 |lf b=>lf b
def hi(i:Nat):T->T
 |nd v l h=>if v=i then h else nd v l h
 |lf b=>lf b
theorem var_ge{t:T}{k:Nat}(h:t.ok k)(hk:k<=24):k<=t.var:=by
 cases t with
 |lf b=>exact hk
 |nd v l r=>exact h.1
theorem var_le{t:T}{k:Nat}(h:t.ok k):t.var<=24:=by
 cases t with
 |lf b=>exact R7 _
 |nd v l r=>exact SJ h.2.1
theorem lo_ok{t:T}{k i:Nat}(h:t.ok k)(hi:i<=t.var):(lo i t).ok (i+1):=by
 cases t with
 |lf b=>trivial
 |nd v l r=>
  simp only[lo,var]at *;split
  ·subst_vars;exact h.2.2.2.1
  ·exact⟨Vi,h.2⟩
theorem hi_ok{t:T}{k i:Nat}(h:t.ok k)(aa:i<=t.var):(hi i t).ok (i+1):=by
 cases t with
 |lf b=>trivial
 |nd v l r=>
  simp only[hi,var]at *;split
  ·subst_vars;exact h.2.2.2.2
  ·exact⟨Vi,h.2⟩
theorem ou(i:Nat)(t:T)(c:cg):t.at' c=if c i then (hi i t).at' c else (lo i t).at' c:=by
 cases t with
 |lf b=>simp[lo,hi,at']
 |nd v l r=>
  simp only[lo,hi];by_cases e:v=i
  ·subst e;simp[at']
  ·simp[e]
def op(f:Bool->Bool->Bool):Nat->T->T->T
 |0,a,b=>lf (f (a.at' fun _=>false) (b.at' fun _=>false))
 |n+1,a,b=>match a,b with
  |lf x,lf y=>lf (f x y)
  |a,b=>mk (min a.var b.var) (op f n (lo (min a.var b.var) a) (lo (min a.var b.var) b)) (op f n (hi (min a.var b.var) a) (hi (min a.var b.var) b))
theorem is_lf{t:T}(h:t.ok 24):∃b,t=lf b:=by
 cases t with
 |lf b=>exact⟨b,rfl⟩
 |nd v l r=>exact absurd h.1 (by have:=h.2.1;omega)
theorem mG(f:Bool->Bool->Bool):∀(n k:Nat) (a b:T),24<=n+k->k<=24->a.ok k->b.ok k->(op f n a b).ok k/\∀c,(op f n a b).at' c=f (a.at' c) (b.at' c):=by
 intro n
 induction n with
 |zero=>
  intro k a b hn hk ha hb;have:k=24:=by omega
  subst this;obtain⟨x,rfl⟩:=is_lf ha;obtain⟨y,rfl⟩:=is_lf hb;exact⟨trivial,fun c=>rfl⟩
 |succ n ih=>
  intro k a b hn hk ha hb;have main:∀i,i=min a.var b.var->i<24->(mk i (op f n (lo i a) (lo i b)) (op f n (hi i a) (hi i b))).ok k/\∀c,(mk i (op f n (lo i a) (lo i b)) (op f n (hi i a) (hi i b))).at' c=f (a.at' c) (b.at' c):=by
   intro i aj ac;have h1:=var_ge ha hk;have h2:=var_ge hb hk;obtain⟨l1,l2⟩:=ih (i+1) (lo i a) (lo i b) Vi Vi (lo_ok ha Vi) (lo_ok hb Vi);obtain⟨r1,r2⟩:=ih (i+1) (hi i a) (hi i b) Vi Vi (hi_ok ha Vi) (hi_ok hb Vi);refine⟨mk_ok Vi ac l1 r1,fun c=>?_⟩;rw[mk_at,l2,r2,ou i a c,ou i b c];split<;>rfl
  unfold op;split
  ·exact⟨trivial,fun c=>rfl⟩
  ·rename_i aa;refine main _ rfl ?_;cases a with
   |nd v l r=>have:=ha.2.1;simp only[var];omega
   |lf x=>
    cases b with
    |nd v l r=>have:=hb.2.1;simp only[var];omega
    |lf y=>exact(aa x y rfl rfl).elim
def and(a b:T):T:=op (· && ·) 24 a b
def or(a b:T):T:=op (· || ·) 24 a b
def not:T->T
 |lf b=>lf (!b)
 |nd v l h=>nd v l.not h.not
theorem and_ok{a b:T}(ha:a.ok 0)(hb:b.ok 0):(and a b).ok 0:=(mG _ 24 0 a b Vi Vi ha hb).1
theorem or_ok{a b:T}(ha:a.ok 0)(hb:b.ok 0):(or a b).ok 0:=(mG _ 24 0 a b Vi Vi ha hb).1
theorem and_at{a b:T}(ha:a.ok 0)(hb:b.ok 0)(c:cg):(and a b).at' c=(a.at' c && b.at' c):=(mG _ 24 0 a b Vi Vi ha hb).2 c
theorem or_at{a b:T}(ha:a.ok 0)(hb:b.ok 0)(c:cg):(or a b).at' c=(a.at' c || b.at' c):=(mG _ 24 0 a b Vi Vi ha hb).2 c
theorem not_not(t:T):t.not.not=t:=by
 induction t with
 |lf b=>simp[not]
 |nd v l h ihl ihh=>simp[not,ihl,ihh]
theorem not_ok{t:T}:∀{k:Nat},t.ok k->t.not.ok k:=by
 induction t with
 |lf b=>intros;trivial
 |nd v l h ihl ihh=>
  intro k hk;refine⟨hk.1,hk.2.1,fun e=>hk.2.2.1 ?_,ihl hk.2.2.2.1,ihh hk.2.2.2.2⟩;rw[<-not_not l,e,not_not]
theorem not_at(t:T)(c:cg):t.not.at' c=!t.at' c:=by
 induction t with
 |lf b=>rfl
 |nd v l h ihl ihh=>simp only[not,at',ihl,ihh];split<;>rfl
theorem DX{t:T}{k:Nat}(h:t.ok k):t=lf false<->∀c,t.at' c=false:=
 ⟨fun e c=>by rw[e];rfl,fun he=>ext h (show (lf false).ok 0 from trivial) fun c=>by rw[he c];rfl⟩
theorem some_of_ne{t:T}{k:Nat}(h:t.ok k)(ac:t≠lf false):∃c,t.at' c=true:=by
 apply Classical.byContradiction;intro aa;refine ac ((DX h).2 fun c=>?_);cases hc:t.at' c with
 |false=>rfl
 |true=>exact absurd ⟨c,hc⟩ aa
def vis:T->List T->List T
 |lf _,ts=>ts
 |nd v l h,ts=>if nd v l h∈ts then ts else h.vis (l.vis ts)++[nd v l h]
def plc(ts:List T):T->Nat
 |lf b=>if b then 1 else 0
 |nd v l h=>ts.idxOf (nd v l h)+2
def isIn(ts:List T):T->Prop
 |lf _=>True
 |nd v l h=>nd v l h∈ts
def Seq(ts:List T):Prop:=ts.Nodup/\∀(i:Nat) (t:T),ts[i]?=some t->∃v l h,t=nd v l h/\t.ok 0/\isIn (ts.take i) l/\isIn (ts.take i) h
theorem isIn.mono{ts us:List T}{t:T}(h:isIn ts t)(hs:∀x∈ts,x∈us):isIn us t:=by
 cases t with
 |lf b=>trivial
 |nd v l r=>exact hs _ h
theorem isIn.app{ts us:List T}{t:T}(h:isIn ts t):isIn (ts++us) t:=h.mono fun x hx=>SM _ hx
theorem plc_app{ts us:List T}{t:T}(h:isIn ts t):plc (ts++us) t=plc ts t:=by
 cases t with
 |lf b=>rfl
 |nd v l r=>
  have hm:nd v l r∈ts:=h;simp only[plc];rw[List.idxOf_append,SI hm]
theorem plc_inj{ts:List T}{a b:T}(ha:isIn ts a)(hb:isIn ts b)(h:plc ts a=plc ts b):a=b:=by
 cases a with
 |lf x=>cases b with
  |lf y=>cases x<;>cases y<;>simp[plc]at h<;>rfl
  |nd v l r=>simp only[plc]at h;split at h<;>omega
 |nd v l r=>cases b with
  |lf y=>simp only[plc]at h;split at h<;>omega
  |nd v' l' r'=>
   have h1:nd v l r∈ts:=ha;have h2:nd v' l' r'∈ts:=hb;simp only[plc]at h;have e:ts.idxOf (nd v l r)=ts.idxOf (nd v' l' r'):=by omega
   have g1:ts[ts.idxOf (nd v l r)]?=some (nd v l r):=by
    rw[SC (Tw h1)];simp
   have g2:ts[ts.idxOf (nd v' l' r')]?=some (nd v' l' r'):=by
    rw[SC (Tw h2)];simp
   rw[e,g2]at g1;exact(Tk g1).symm
theorem plc_get{ts:List T}{v:Nat}{l r:T}(h:nd v l r∈ts):ts[plc ts (nd v l r)-2]?=some (nd v l r):=by
 simp only[plc,Tx];rw[SC (Tw h)];simp
theorem plc_lt{ts:List T}{t:T}(h:isIn ts t):plc ts t<ts.length+2:=by
 cases t with
 |lf b=>simp only[plc];split<;>omega
 |nd v l r=>have:=Tw (show nd v l r∈ts from h);simp only[plc];omega
theorem Seq.nil:Seq []:=⟨List.nodup_nil,fun i t h=>by simp at h⟩
theorem Seq.snoc{ts:List T}{v:Nat}{l h:T}(s:Seq ts)(ac:(nd v l h).ok 0)(hl:isIn ts l)(hh:isIn ts h)(hn:nd v l h∉ts):Seq (ts++[nd v l h]):=by
 refine⟨?_,fun i t hi=>?_⟩
 ·rw[List.nodup_append];refine⟨s.1,by simp,fun a ha b hb=>?_⟩;simp at hb;subst hb;intro e;subst e;exact hn ha
 ·rcases SD i ts.length with aa|rfl|aj
  ·rw[S1 aa]at hi;obtain⟨v',l',h',a,b,c,d⟩:=s.2 i t hi;refine⟨v',l',h',a,b,?_,?_⟩<;>rw[Tc (SJ aa)]<;>assumption
  ·rw[S2 (R7 _)]at hi;simp at hi;subst hi;refine⟨v,l,h,rfl,ac,?_,?_⟩<;>rw[Tc (R7 _),Td]<;>assumption
  ·rw[SF (by simp;omega)]at hi;cases hi
theorem vis_spec(t:T):∀{k:Nat},t.ok k->k<=24->∀(ts:List T),Seq ts->Seq (t.vis ts)/\isIn (t.vis ts) t/\(∃us,t.vis ts=ts++us/\us.length+1<=2^(24-k)/\∀x∈us,x.sz<=t.sz):=by
 induction t with
 |lf b=>
  intro k hk ac ts s;exact⟨s,trivial,[],by simp[vis],by simpa using Nat.one_le_two_pow,fun x hx=>absurd hx SW⟩
 |nd v l h ihl ihh=>
  intro k hk ac ts s;unfold vis;split
  ·rename_i hm;exact⟨s,hm,[],by simp,by simpa using Nat.one_le_two_pow,fun x hx=>absurd hx SW⟩
  ·rename_i hm;obtain⟨s1,i1,us1,e1,n1,z1⟩:=ihl hk.2.2.2.1 (by have:=hk.2.1;omega) ts s;obtain⟨s2,i2,us2,e2,n2,z2⟩:=ihh hk.2.2.2.2 (by have:=hk.2.1;omega) _ s1;have aa:nd v l h∉h.vis (l.vis ts):=by
    rw[e2,e1];simp only[Ti];rintro((hx|hx)|hx)
    ·exact hm hx
    ·have:=z1 _ hx;simp only[sz]at this;omega
    ·have:=z2 _ hx;simp only[sz]at this;omega
   refine⟨s2.snoc ⟨S6 _,hk.2⟩ ?_ i2 aa,?_,us1++us2++[nd v l h],?_,?_,?_⟩
   ·rw[e2];exact i1.app
   ·show nd v l h∈_;simp
   ·rw[e2,e1];simp
   ·have hp:2^(24-(v+1))+2^(24-(v+1))<=2^(24-k):=by
     have h1:=hk.1;have h2:=hk.2.1;have:2^(24-(v+1))+2^(24-(v+1))=2^(24-v):=by rw[show 24-v=(24-(v+1))+1 by omega,Ty];omega
     rw[this];exact Tz Vi Vi
    simp;omega
   ·intro x hx;simp only[Ti,List.mem_singleton]at hx;rcases hx with (hx|hx)|rfl
    ·have:=z1 _ hx;simp only[sz];omega
    ·have:=z2 _ hx;simp only[sz];omega
    ·exact R7 _
def subs(t:T):List T:=t.vis []
theorem subs_seq{t:T}(h:t.ok 0):Seq (subs t):=(vis_spec t h Vi [] Seq.nil).1
theorem subs_in{t:T}(h:t.ok 0):isIn (subs t) t:=(vis_spec t h Vi [] Seq.nil).2.1
theorem subs_len{t:T}(h:t.ok 0):(subs t).length<2^24:=by
 obtain⟨us,e,n,_⟩:=(vis_spec t h Vi [] Seq.nil).2.2;unfold subs;rw[e];simp only[SU];omega
def dec(ts:List T):T->Nat×Nat×Nat
 |lf b=>(24,if b then 1 else 0,if b then 1 else 0)
 |nd v l h=>(v,plc ts l,plc ts h)
theorem dec_app{ts us:List T}(s:Seq ts){t:T}(h:isIn ts t):dec (ts++us) t=dec ts t:=by
 cases t with
 |lf b=>rfl
 |nd v l r=>
  have hm:nd v l r∈ts:=h;obtain⟨i,hi⟩:=List.mem_iff_getElem?.1 hm;obtain⟨v',l',r',e,_,hl,hr⟩:=s.2 i _ hi;cases e
  have sub:∀x∈ts.take i,x∈ts:=fun x hx=>TA hx;simp only[dec,plc_app (hl.mono sub),plc_app (hr.mono sub)]
theorem Seq.kids{ts:List T}(s:Seq ts){v:Nat}{l h:T}(hm:nd v l h∈ts):isIn ts l/\isIn ts h:=by
 obtain⟨i,hi⟩:=List.mem_iff_getElem?.1 hm;obtain⟨v',l',r',e,_,hl,hr⟩:=s.2 i _ hi;cases e
 have sub:∀x∈ts.take i,x∈ts:=fun x hx=>TA hx;exact⟨hl.mono sub,hr.mono sub⟩
theorem Seq.okk{ts:List T}(s:Seq ts){t:T}(h:isIn ts t):t.ok 0:=by
 cases t with
 |lf b=>trivial
 |nd v l r=>
  obtain⟨i,hi⟩:=List.mem_iff_getElem?.1 (show nd v l r∈ts from h);exact(s.2 i _ hi).choose_spec.choose_spec.choose_spec.2.1
end T
def wx(S:cg->Bool):Nat->cg->Nat
 |0,c=>(S c).toNat
 |n+1,c=>wx S n (wz c n false)+wx S n (wz c n true)
theorem Cc{A B S:cg->Bool}(h:∀c,(S c).toNat=(A c).toNat+(B c).toNat):∀(n:Nat) (c:cg),wx S n c=wx A n c+wx B n c
 |0,c=>h c
 |n+1,c=>by simp only[wx,Cc h n];omega
theorem rU{A B:cg->Bool}(h:∀c,A c=true->B c=true):∀(n:Nat) (c:cg),wx A n c<=wx B n c
 |0,c=>by
  simp only[wx];cases ha:A c
  ·simp
  ·rw[h c ha];exact R7 _
 |n+1,c=>by simp only[wx];have:=rU h n (wz c n false);have:=rU h n (wz c n true);omega
theorem AN(S:cg->Bool):∀(n:Nat) (c:cg),wx S n c<=2^n
 |0,c=>by simp only[wx];cases S c<;>simp
 |n+1,c=>by simp only[wx];have:=AN S n (wz c n false);have:=AN S n (wz c n true);rw[Ty];omega
theorem BL{S:cg->Bool}{c0:cg}(hs:S c0=true):∀(n:Nat) (c:cg),(∀i,n<=i->c i=c0 i)->1<=wx S n c
 |0,c,h=>by
  have:c=c0:=funext fun i=>h i (S6 i);subst this;simp[wx,hs]
 |n+1,c,h=>by
  simp only[wx];have:=BL hs n (wz c n (c0 n)) (fun i hi=>by
   unfold wz;split
   ·subst_vars;rfl
   ·exact h i Vi)
  cases hc:c0 n<;>rw[hc]at this<;>omega
def T.card(t:T):Nat:=wx t.at' 24 (fun _=>false)
theorem T.card_le(t:T):t.card<=2^24:=AN _ _ _
theorem T.at_cut{t:T}:∀{k:Nat},t.ok k->∀{c d:cg},(∀i,i<24->c i=d i)->t.at' c=t.at' d:=by
 induction t with
 |lf b=>intros;rfl
 |nd v l h ihl ihh=>
  intro k hk c d aa;simp only[T.at',aa v hk.2.1,ihl hk.2.2.2.1 aa,ihh hk.2.2.2.2 aa]
theorem T.card_pos{t:T}(h:t.ok 0)(aa:t≠.lf false):1<=t.card:=by
 obtain⟨c,hc⟩:=T.some_of_ne h aa;have:t.at' (fun i=>if i<24 then c i else false)=true:=by rw[T.at_cut h (d:=c) (fun i hi=>by simp[hi])];exact hc
 exact BL this 24 _ fun i hi=>by simp[Nat.not_lt.2 hi]
theorem T.card_add{a b s:T}(h:∀c,(s.at' c).toNat=(a.at' c).toNat+(b.at' c).toNat):s.card=a.card+b.card:=Cc h _ _
theorem T.card_mono{a b:T}(h:∀c,a.at' c=true->b.at' c=true):a.card<=b.card:=rU h _ _
end Dg
namespace Go.Proofs.YtfaclfkpnmcmlaaGreatDoor
open Go Go.Sx Dg
def iv(n:Nat):Value:=.int .i64 n
def fG(d:Nat×Nat×Nat):Value:=.agg #[iv d.1,iv d.2.1,iv d.2.2]
def lm(d:Nat×Nat×Nat):List Value:=[iv d.1,iv d.2.1,iv d.2.2]
def BD(ts:List T):List Value:=ts.flatMap fun t=>lm (T.dec ts t)
def pt(b:Nat):Value:=.pointer (some ⟨b,0,none⟩)
theorem x7{f:T->List Value}{n:Nat}(hf:∀t,(f t).length=n):∀(l:List T),(l.flatMap f).length=l.length*n
 | []=>by simp
 |t::l=>by simp only[TB,Tu,hf,x7 hf l,SB];rw[Ta];omega
theorem yN{f:T->List Value}{n:Nat}(hf:∀t,(f t).length=n):∀(l:List T) (i:Nat) (t:T),l[i]?=some t->((l.flatMap f).drop (i*n)).take n=f t
 | [],i,t,h=>by simp at h
 |x::l,0,t,h=>by
  simp only[TC,Sc]at h;subst h;simp only[TB,Nat.zero_mul,Tm];exact List.take_left' (hf x)
 |x::l,i+1,t,h=>by
  simp only[TD]at h;rw[TB,Ta,TE,Nat.add_comm,<-Tn,List.drop_left' (hf x)];exact yN hf l i t h
theorem oG(ts:List T):(BD ts).length=ts.length*3:=x7 (f:=fun t=>lm (T.dec ts t)) (fun _=>rfl) ts
theorem oJ{ts:List T}{i:Nat}{t:T}(h:ts[i]?=some t):((BD ts).drop (i*3)).take 3=lm (T.dec ts t):=yN (f:=fun t=>lm (T.dec ts t)) (fun _=>rfl) ts i t h
theorem zG{ts:List T}(s:T.Seq ts){v:Nat}{l h:T}(hl:T.isIn ts l)(hh:T.isIn ts h):BD (ts++[.nd v l h])=BD ts++lm (v,T.plc ts l,T.plc ts h):=by
 unfold BD;rw[TF];congr 1
 ·rw[List.flatMap_def,List.flatMap_def];congr 1;refine SL fun t ht=>?_;obtain⟨i,hi⟩:=List.mem_iff_getElem?.1 ht;obtain⟨v',l',h',e,_⟩:=s.2 i t hi;rw[T.dec_app s (show T.isIn ts t by subst e;exact ht)]
 ·simp[lm,T.dec,T.plc_app hl,T.plc_app hh]
def OH(ms:List T)(y u:Value):Prop:=∃t∈ms,y=fG (T.dec ms t)/\u=iv (T.plc ms t)
def wP(mb:Nat)(ms:List T)(qs:List PH):Prop:=∃A sv r M,qs=[A,sg mb (.cells #[sv,.map (some r)] 300 (0,0)),M]/\jF A 181 3 sv ms.length (BD ms)/\jh Tryz.prog M r 181 (OH ms)/\T.Seq ms
theorem FT:1<Tryz.prog.types.size:=TG (by kernel_rfl)
theorem Fq:Tryz.prog.underlying 181=some (.struct #[⟨ "Var",3,0,false,"","",0⟩,⟨ "Low",3,1,false,"","",8⟩,⟨ "High",3,2,false,"","",16⟩]):=by kernel_rfl
theorem Ol:Tryz.prog.keyTypeAt 3 181=true:=by kernel_rfl
theorem Ou:Tryz.prog.tiled 3 181=true:=by kernel_rfl
theorem LK:Maps.Keyed Tryz.prog 181:=by
 refine Maps.Keyed.of_law (deep_law (m:=3) Vi Ol Ou ?_);rw[Fq]
theorem Io:Tryz.prog.keyType 181=true:=by kernel_rfl
theorem FZ:Tryz.prog.cellsOf 181=3:=by kernel_rfl
theorem Bg:Tryz.prog.cellsOf 3=1:=by kernel_rfl
theorem Ek{n:Nat}(h:n<2^62):(Lit.int .i64 n).wf=true:=by
 have h1:IntKind.min .i64=-9223372036854775808:=by decide
 have h2:IntKind.max .i64=9223372036854775807:=by decide
 simp only[Lit.wf,h1,h2,SG,SX];omega
theorem Ny {P:Program} {k t:TypeId} {a b c:Nat} (hk:P.underlying k=some (.struct #[⟨ "Var",t,0,false,"","",0⟩,⟨ "Low",t,1,false,"","",8⟩,⟨ "High",t,2,false,"","",16⟩])) (h1:P.keyType k=true) (h2:P.cellsOf k=3) (h3:P.cellsOf t=1) (h4:P.underlying t=some (.int .i64)) (h5:1<P.types.size)
  (ha:a<2^62) (hb:b<2^62) (hc:c<2^62):iD P k (fG (a,b,c)):=by
 obtain⟨n,hn⟩:∃n,P.types.size=n+1:=⟨P.types.size-1,Vi⟩;unfold iD keyOf;rw[h1];simp[hk,Value.formed,fG,hn,Program.keyLits,h2,h3,h4,Value.cells,Ek ha,Ek hb,Ek hc,iv]
theorem Kw:Tryz.prog.underlying 3=some (.int .i64):=by kernel_rfl
theorem Ml{a b c:Nat}(ha:a<2^62)(hb:b<2^62)(hc:c<2^62):iD Tryz.prog 181 (fG (a,b,c)):=Ny (t:=3) Fq Io FZ Bg Kw FT ha hb hc
end Go.Proofs.YtfaclfkpnmcmlaaGreatDoor
