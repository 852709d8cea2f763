import Derived.Test.YtfaclfkpnmcmlaaGreatDoorH02
import Derived.Lib.AppendZerosOnto
import Derived.Lib.Overlaps
import Derived.Laws.CopyRow
import Derived.Laws.AppendOwn
set_option maxHeartbeats 8000000
set_option linter.all false
namespace Go.Sx
open Go
def PH.no:PH:=fun _=>none
def PH.uni(A B:PH):PH:=fun b=>match A b with
 |some o=>some o
 |none=>B b
def PH.disj(A B:PH):Prop:=∀b,A b=none\/B b=none
variable{A B:PH}
def PH.disj.symm(h:A.disj B):B.disj A:=fun b=>(h b).symm
variable{b:Nat}
def PH.disj.left(h:A.disj B){o:Obj}(hb:A b=some o):B b=none:=by
 rcases h b with e|e
 ·rw[e]at hb;cases hb
 ·exact e
def PH.uni_no(A:PH):A.uni PH.no=A:=by funext b;simp only[PH.uni,PH.no];split<;>simp_all
def PH.uni_some {A B : PH} (h : A.disj B) {b : Nat} {o : Obj} : (A.uni B) b = some o ↔ A b = some o ∨ B b = some o := by
  unfold PH.uni
  cases hA : A b with
  | some x => simp only; constructor
              · exact .inl
              · rintro (e | e)
                · exact e
                · rw [h.left hA] at e; cases e
  | none => simp
def PH.uni_none:(A.uni B) b=none<->A b=none/\B b=none:=by
 unfold PH.uni;cases A b<;>simp
def PH.le_uni(A B:PH):A.le (A.uni B):=fun b o h=>by simp[PH.uni,h]
def PH.le_uni_r(h:A.disj B):B.le (A.uni B):=fun b o hb=>(PH.uni_some h).2 (.inr hb)
def PH.ext_some(h:∀b o,A b=some o<->B b=some o):A=B:=by
 funext b;cases hA:A b with
 |some o=>exact((h b o).1 hA).symm
 |none=>cases hB:B b with
  |none=>rfl
  |some o=>rw[(h b o).2 hB]at hA;cases hA
def U:List PH->PH
 | []=>PH.no
 |A::l=>A.uni (U l)
def Dj(l:List PH):Prop:=l.Pairwise PH.disj
variable{l:List PH}
def oL:U l b=none<->∀A∈l,A b=none:=by
 induction l with
 |nil=>simp[U,PH.no]
 |cons A l ih=>simp only[U,PH.uni_none,ih,aad,forall_eq_or_imp]
def Dj.head(h:Dj (A::l)):A.disj (U l):=fun b=>by
 cases hA:A b with
 |none=>exact .inl rfl
 |some o=>exact .inr (oL.2 fun B hB=>((List.pairwise_cons.1 h).1 B hB).left hA)
def Dj.tail(h:Dj (A::l)):Dj l:=(List.pairwise_cons.1 h).2
def Dj.cons(h:Dj l)(ha:A.disj (U l)):Dj (A::l):=
 List.pairwise_cons.2 ⟨fun B hB b=>by
  rcases ha b with e|e
  ·exact .inl e
  ·exact .inr (oL.1 e B hB),h⟩
def nU(hd:Dj l){o:Obj}:U l b=some o<->∃A∈l,A b=some o:=by
 induction l with
 |nil=>simp[U,PH.no]
 |cons A l ih=>simp only[U,PH.uni_some hd.head,ih hd.tail,aad,exists_eq_or_imp]
def oz{m:List PH}(hp:l.Perm m)(hd:Dj l):U l=U m/\Dj m:=by
 have hm:Dj m:=(hp.pairwise_iff (fun{a b} h=>PH.disj.symm h)).1 hd;exact⟨PH.ext_some fun b o=>by rw[nU hd,nU hm];exact⟨fun⟨A,a,c⟩=>⟨A,hp.mem_iff.1 a,c⟩,fun⟨A,a,c⟩=>⟨A,hp.mem_iff.2 a,c⟩⟩,hm⟩
def zX(l m:List PH):U (l++m)=(U l).uni (U m):=by
 induction l with
 |nil=>funext b;simp[U,PH.no,PH.uni]
 |cons A l ih=>rw[aaz,U,U,ih];funext b;simp only[PH.uni];cases A b<;>rfl
def o3{m:List PH}:Dj (l++m)<->Dj l/\Dj m/\(U l).disj (U m):=by
 unfold Dj;rw[List.pairwise_append];constructor
 ·rintro⟨a,b,c⟩;refine⟨a,b,fun k=>?_⟩;cases hU:U l k with
  |none=>exact .inl rfl
  |some o=>
   obtain⟨A,hA,hk⟩:=(nU a).1 hU;exact .inr (oL.2 fun B hB=>(c A hA B hB).left hk)
 ·rintro⟨a,b,c⟩;refine⟨a,b,fun A hA B hB k=>?_⟩;rcases c k with e|e
  ·exact .inl (oL.1 e A hA)
  ·exact .inr (oL.1 e B hB)
def FV(hd:Dj l)(h:A∈l):A.le (U l):=fun b o hb=>(nU hd).2 ⟨A,h,hb⟩
def vG(l:List PH):List Nat->List PH
 | []=>[]
 |i::is=>l.getD i PH.no::vG l is
def o5{is:List Nat}(h:is.isPerm (List.range l.length)=true):l.Perm (vG l is):=by
 have h2:=List.isPerm_iff.1 h;have e:∀is:List Nat,vG l is=is.map fun i=>l.getD i PH.no:=by
  intro is;induction is with
  |nil=>rfl
  |cons i is ih=>simp[vG,ih]
 rw[e];refine List.Perm.trans ?_ (h2.map _).symm;have:(List.range l.length).map (fun i=>l.getD i PH.no)=l:=by
  apply List.ext_getElem
  ·simp
  ·intro i h1 h2;simp at h1;simp[List.getD,aak h1]
 rw[this]
variable{Φ:Value->PH->Prop}{args:Array Value}{f:FuncId}
def bO.frame{P:Program}{F:PH}(hd:A.disj F)(h:bO P f args A Φ):bO P f args (A.uni F) fun v H2=>∃A2,H2=A2.uni F/\A2.disj F/\Φ v A2:=by
 intro w s;refine(h w (s.of_le (PH.le_uni A F))).mono fun e w2 he=>?_;cases e with
 |outgrown=>exact he
 |panicked c=>exact he
 |returned v=>
  obtain⟨A2,st,hp⟩:=he;have inF:∀b o,F b=some o->w.heap[b]?=some o/\A b=none:=fun b o hb=>⟨s _ _ ((PH.uni_some hd).2 (.inr hb)),hd.symm.left hb⟩;have aa:A2.disj F:=fun b=>by
   cases hF:F b with
   |none=>exact .inr rfl
   |some o=>obtain⟨h1,h2⟩:=inF b o hF;exact .inl (st.dom b (eO h1) h2)
  refine⟨A2.uni F,⟨fun b o hb=>?_,st.size,fun b hb hn=>st.priv b hb (PH.uni_none.1 hn).1,fun b hb hn=>PH.uni_none.2 ⟨st.dom b hb (PH.uni_none.1 hn).1,(PH.uni_none.1 hn).2⟩,st.os,st.tape,st.out⟩,A2,rfl,aa,hp⟩;rcases(PH.uni_some aa).1 hb with e|e
  ·exact st.sub _ _ e
  ·obtain⟨h1,h2⟩:=inF b o e;rw[st.priv b (eO h1) h2];exact h1
def aK(P:Program)(f:FuncId)(args:Array Value)(I:PH)(ps:List PH)(Ψ:Value->PH->List PH->Prop):Prop:=
 Dj (I::ps)->bO P f args (U (I::ps)) fun v H2=>∃I2 qs,H2=U (I2::qs)/\Dj (I2::qs)/\I.le I2/\Ψ v I2 qs
variable{Ψ:Value->PH->List PH->Prop}{I:PH}
def aK.mono{P:Program}{ps:List PH}{Ψ':Value->PH->List PH->Prop}(h:aK P f args I ps Ψ)(k:∀v I2 qs,I.le I2->Ψ v I2 qs->Ψ' v I2 qs):aK P f args I ps Ψ':=
 fun hd=>(h hd).mono fun v H2 ⟨I2,qs,a,b,c,d⟩=>⟨I2,qs,a,b,c,k _ _ _ c d⟩
def bO.toI{P:Program}(h:bO P f args I fun v I2=>I.le I2/\Φ v I2):aK P f args I [] fun v I2 qs=>qs=[]/\Φ v I2:=by
 intro _;rw[show U [I]=I from PH.uni_no I];exact h.mono fun v H2 ⟨a,b⟩=>⟨H2,[],(PH.uni_no H2).symm,aaW _ _,a,rfl,b⟩
def aK.frame{P:Program}{ps F:List PH}(h:aK P f args I ps Ψ)(hd:Dj (I::ps++F)):
  bO P f args (U (I::ps++F)) fun v H2=>∃I2 qs,H2=U (I2::qs++F)/\Dj (I2::qs++F)/\I.le I2/\Ψ v I2 qs:=by
 obtain⟨d1,d2,d3⟩:=o3.1 hd;rw[zX];refine((h d1).frame d3).mono fun v H2 ⟨A2,e,dd,I2,qs,a,b,c,d⟩=>?_;subst a;exact⟨I2,qs,by rw[e,zX],o3.2 ⟨b,d2,dd⟩,c,d⟩
section
variable {C:Cx} {P:Program} {k:List Item} {σ:St} {H:PH}
variable{Ψ:Value->PH->List PH->Prop}{ps:List PH}{I:PH}{first cap:Array Value}{vs:List Value}{f:FuncId}{ts:Array TypeId}{aq:Array Operand}{x:Operand}{o:Oper}{ol:List Oper}
def cz{rem:List Oper}{l F:List PH}(hd:Dj (I::l))(is:List Nat)(hw:aH ol σ o=some true)(aa:o.op=.call ⟨.value x,aq,ts⟩)
  (hx:ev σ x=.v (.func (.func f) first cap)) (ha:j8 (ev σ) aq.toList=some vs) (hg:aO C.P f) (hi:is.isPerm (List.range l.length)=true) (hl:vG l is=ps++F) (h:aK C.P f (first++vs.toArray++cap) I ps Ψ)
  (hk:∀v I2 qs,Dj (I2::qs++F)->I.le I2->Ψ v I2 qs->RC C (.op ol rem k) (σ.put o.dst (.v v)) (U (I2::qs++F))):RC C (.op ol (o::rem) k) σ (U (I::l)):=by
 obtain⟨e,d⟩:=oz ((o5 hi).cons I) hd;rw[hl]at e d;rw[e];exact aF hw aa hx ha hg (h.frame d) fun v H2 ⟨I2,qs,a,b,c,d⟩=>by subst a;exact hk v I2 qs b c d
def DY{rem:List Oper}{l F:List PH}(hd:Dj (I::l))(is:List Nat)(hq:(aH ol σ o,o.op,ev σ x,j8 (ev σ) aq.toList)=(some true,Op.call ⟨.value x,aq,ts⟩,SV.v (.func (.func f) first cap),some vs))(hg:aO C.P f)(hi:is.isPerm (List.range l.length)=true)(hl:vG l is=ps++F)(h:aK C.P f (first++vs.toArray++cap) I ps Ψ)
  (hk:∀v I2 qs,Dj (I2::qs++F)->I.le I2->Ψ v I2 qs->RC C (.op ol rem k) (σ.put o.dst (.v v)) (U (I2::qs++F))):RC C (.op ol (o::rem) k) σ (U (I::l)):=by
 simp only[aaI]at hq;exact cz hd is hq.1 hq.2.1 hq.2.2.1 hq.2.2.2 hg hi hl h hk
def dV{fr:iK}{str:ip}{i:Nat}{lo:List (Nat×Oper)}{l F:List PH}(hd:Dj (I::l))(is:List Nat)(hs:str.h.contains i=false)(aa:str.j.contains i=true->fr.J.le I)(hw:aH ol σ o=some true)(ac:o.op=.call ⟨.value x,aq,ts⟩)
  (hx:ev σ x=.v (.func (.func f) first cap)) (ha:j8 (ev σ) aq.toList=some vs) (hg:aO C.P f) (hi:is.isPerm (List.range l.length)=true) (hl:vG l is=ps++F) (h:aK C.P f (first++vs.toArray++cap) I ps Ψ)
  (hk:∀v I2 qs,Dj (I2::qs++F)->I.le I2->Ψ v I2 qs->RD C ol fr str lo k (σ.put o.dst (.v v)) (U (I2::qs++F))):RD C ol fr str ((i,o)::lo) k σ (U (I::l)):=by
 obtain⟨e,d⟩:=oz ((o5 hi).cons I) hd;rw[hl]at e d;rw[e];exact tH hw ac hx ha hg (h.frame d) fun v H2 ⟨I2,qs,a,b,c,d⟩=>⟨⟨fun hh=>Bool.noConfusion (hs.symm.trans hh),fun hj _=>by subst a;exact abV (aa hj) (abV c (FV b (.head _)))⟩,by subst a;exact hk v I2 qs b c d⟩
def DX{fr:iK}{str:ip}{i:Nat}{lo:List (Nat×Oper)}{l F:List PH}(hd:Dj (I::l))(is:List Nat)(hs:str.h.contains i=false)(aa:str.j.contains i=true->fr.J.le I)(hq:(aH ol σ o,o.op,ev σ x,j8 (ev σ) aq.toList)=(some true,Op.call ⟨.value x,aq,ts⟩,SV.v (.func (.func f) first cap),some vs))(hg:aO C.P f)(hi:is.isPerm (List.range l.length)=true)(hl:vG l is=ps++F)(h:aK C.P f (first++vs.toArray++cap) I ps Ψ)
  (hk:∀v I2 qs,Dj (I2::qs++F)->I.le I2->Ψ v I2 qs->RD C ol fr str lo k (σ.put o.dst (.v v)) (U (I2::qs++F))):RD C ol fr str ((i,o)::lo) k σ (U (I::l)):=by
 simp only[aaI]at hq;exact dV hd is hs aa hq.1 hq.2.1 hq.2.2.1 hq.2.2.2 hg hi hl h hk
def af{r:List Value}{I2:PH}{qs:List PH}(aa:C.post=fun v H2=>∃I2 qs,H2=U (I2::qs)/\Dj (I2::qs)/\I.le I2/\Ψ v I2 qs)(hd:Dj (I2::qs))(h:xx C.P σ C.fn.results.toList=some r)(ac:I.le I2)(hp:Ψ (gv r) I2 qs):R C (.code .ret::k) σ (U (I2::qs)):=
 aJ h (by rw[aa];exact⟨I2,qs,rfl,hd,ac,hp⟩)
end
def sg(b:Nat)(o:Obj):PH:=fun c=>if c=b then some o else none
def NY{b c:Nat}{o x:Obj}:sg b o c=some x<->c=b/\o=x:=by unfold sg;split<;>simp_all
def dL(b:Nat)(o:Obj):sg b o b=some o:=by simp[sg]
variable{l:List PH}
def PF(hd:Dj l){b:Nat}{o:Obj}(h:U l b=none):(U l).put b o=U (sg b o::l)/\Dj (sg b o::l):=by
 constructor
 ·funext c;simp only[PH.put,U,PH.uni,sg];split<;>simp
 ·exact hd.cons fun c=>by
   by_cases e:c=b
   ·subst e;exact .inr h
   ·exact .inl (by simp[sg,e])
variable{I A:PH}
theorem freeze(hd:Dj (I::A::l)):U (I::A::l)=U (I.uni A::l)/\Dj (I.uni A::l):=by
 constructor
 ·funext c;simp only[U,PH.uni];cases I c<;>rfl
 ·refine hd.tail.tail.cons fun c=>?_;rcases hd.head c with h1|h1
  ·rcases hd.tail.head c with h2|h2
   ·exact .inl (PH.uni_none.2 ⟨h1,h2⟩)
   ·exact .inr h2
  ·exact .inr (PH.uni_none.1 h1).2
def qF(hd:Dj (I::l))(h:A∈l):I.disj A:=(List.pairwise_cons.1 hd).1 A h
def cP(hd:Dj (I::l)):I.le (U (I::l)):=FV hd (.head _)
def di(hd:Dj (I::A::l)):A.le (U (I::A::l)):=FV hd (.tail _ (.head _))
def SS{ps:List PH}{H2:PH}(hd:Dj (I::ps))(aa:(U (I::ps)).le H2):∃I2,H2=U (I2::ps)/\Dj (I2::ps)/\I.le I2:=by
 refine⟨fun b=>if (U ps b).isSome then none else H2 b,?_,hd.tail.cons fun b=>?_,fun b o hb=>?_⟩
 ·funext b;simp only[U,PH.uni];cases hU:U ps b with
  |none=>simp;cases H2 b<;>rfl
  |some o=>simp;exact aa b o (PH.le_uni_r hd.head b o hU)
 ·cases hU:U ps b with
  |none=>exact .inr rfl
  |some o=>exact .inl (by simp[hU])
 ·have:=hd.head.left hb;simp only[this,Option.isSome_none,aa5,Z2];exact aa b o (PH.le_uni I _ b o hb)
open Go
variable{n size:Nat}{v:Value}{e:TypeId}
def iT.le{H:PH}{xs:List Value}(h:iT A e size v n xs)(aa:A.le H):iT H e size v n xs:=by
 obtain⟨h1,h2|⟨g,cap,cur,a,b,c⟩⟩:=h
 ·exact⟨h1,.inl h2⟩
 ·exact⟨h1,.inr ⟨g,cap,cur,a,aa _ _ b,c⟩⟩
theorem iw(g off n c:Nat):(Value.slice (some ⟨g,off,none⟩) n c).ownBlock=some g:=rfl
def mh(A:PH)(e:TypeId)(size:Nat)(v:Value)(n:Nat)(xs:List Value):Prop:=iT A e size v n xs/\∀b,v.ownBlock≠some b->A b=none
def mh.nil(e:TypeId)(size:Nat):mh PH.no e size (.slice none 0 0) 0 []:=⟨iT.nil _ e size,fun _ _=>rfl⟩
def mh.own_some{xs:List Value}(h:mh A e size v n xs){g:Nat}(hg:v.ownBlock=some g):∃o,A g=some o:=by
 obtain⟨⟨h1,⟨h2,_⟩|⟨g',cap,cur,a,b,c⟩⟩,_⟩:=h
 ·subst h2;cases hg
 ·subst a;cases hg;exact⟨_,b⟩
def ui{v':Value}{n':Nat}{xs xs':List Value}{H2:PH}(hd:Dj (I::A::l))(hr:mh A e size v n xs)(ho:iT H2 e size v' n' xs')(hc:RH v.ownBlock (U (I::A::l)) H2)
  (hf:v'.ownBlock=v.ownBlock\/∀g,v'.ownBlock=some g->U (I::A::l) g=none):∃I2 A2,H2=U (I2::A2::l)/\Dj (I2::A2::l)/\I.le I2/\mh A2 e size v' n' xs':=by
 have key:∃A2:PH,mh A2 e size v' n' xs'/\A2.le H2/\A2.disj I/\A2.disj (U l):=by
  obtain⟨h1,⟨h2,h3⟩|⟨g,cap,cur,a,b,c⟩⟩:=ho
  ·exact⟨PH.no,⟨⟨h1,.inl ⟨h2,h3⟩⟩,fun _ _=>rfl⟩,(fun b o h=>by cases h),(fun _=>.inl rfl),(fun _=>.inl rfl)⟩
  ·subst a;have out:I g=none/\U l g=none:=by
    rcases hf with hf|hf
    ·obtain⟨o,ho⟩:=hr.own_some (hf.symm.trans (iw g 0 n' cap));exact⟨(qF hd (.head _)).symm.left ho,hd.tail.head.left ho⟩
    ·have:=oL.1 (hf g rfl);exact⟨this I (.head _),oL.2 fun B hB=>this B (.tail _ (.tail _ hB))⟩
   have dj:∀X:PH,X g=none->(sg g (.cells cur e (0,0))).disj X:=fun X hX c=>by
    by_cases ec:c=g
    ·subst ec;exact .inr hX
    ·exact .inl (by simp[sg,ec])
   exact⟨sg g (.cells cur e (0,0)),⟨⟨h1,.inr ⟨g,cap,cur,rfl,dL _ _,c⟩⟩,fun b' hb=>by
    simp only[iw,ne_eq,ZW]at hb;simp[sg,Ne.symm hb]⟩,fun b' o' hb=>by obtain⟨rfl,rfl⟩:=NY.1 hb;exact b,dj I out.1,dj _ out.2⟩
 obtain⟨A2,r2,le2,d1,d2⟩:=key;have dA:Dj (A2::l):=hd.tail.tail.cons d2;have dI:Dj (I::A2::l):=dA.cons fun b=>by
  rcases d1 b with e1|e1
  ·rcases hd.head b with e2|e2
   ·exact .inl e2
   ·exact .inr (PH.uni_none.2 ⟨e1,(PH.uni_none.1 e2).2⟩)
  ·exact .inl e1
 have aj:(U (I::A2::l)).le H2:=by
  intro b o hb;obtain⟨B,hB,ac⟩:=(nU dI).1 hb;have keep:∀B∈I::l,B b=some o->H2 b=some o:=by
   intro B hB aa;have ak:B∈I::A::l:=by
    rcases List.mem_cons.1 hB with rfl|h
    ·exact .head _
    ·exact .tail _ (.tail _ h)
   refine hc b o (fun e=>?_) ((nU hd).2 ⟨B,ak,aa⟩);obtain⟨oA,hA⟩:=hr.own_some e.symm;rcases List.mem_cons.1 hB with rfl|h
   ·rw[(qF hd (.head _)).left aa]at hA;cases hA
   ·rw[(qF hd.tail h).left hA]at aa;cases aa
  rcases List.mem_cons.1 hB with rfl|hB
  ·exact keep _ (.head _) ac
  ·rcases List.mem_cons.1 hB with rfl|hB
   ·exact le2 b o ac
   ·exact keep _ (.tail _ hB) ac
 obtain⟨I2,a,b,c⟩:=SS dI aj;exact⟨I2,A2,a,b,c,r2⟩
section
variable {C:Cx} {P:Program} {k:List Item} {σ:St} {H:PH}
variable{l:List PH}{I A:PH}{news:List Value}{v:Value}{x y:Operand}{size bytes:Nat}{t e:TypeId}{o:Oper}{ol rem:List Oper}
def dZ{n xb xo m c:Nat}{xs:List Value}(hd:Dj (I::A::l))(ht:jv C.P t e size bytes)(aa:mh A e size v n xs)(hw:aH ol σ o=some true)(ac:o.op=.call ⟨.builtin .append,#[x,y],#[t,t]⟩)(hx:ev σ x=.v v)(hy:ev σ y=.v (.slice (some ⟨xb,xo,none⟩) m c))
  (hn:aP (U (I::A::l)) xb xo news) (hl:news.length=m*size) (h1:news.all one=true) (hb:(n+m)*bytes<=140737488355328) (aj:n+m<=maxLen)
  (hk:∀v' I2 A2,Dj (I2::A2::l)->I.le I2->mh A2 e size v' (n+m) (xs++news)->RC C (.op ol rem k) (σ.put o.dst (.v v')) (U (I2::A2::l))):RC C (.op ol (o::rem) k) σ (U (I::A::l)):=
 IR ht (aa.1.le (di hd)) hw ac hx hy hn hl h1 hb aj fun v' H2 a b c=>by
  obtain⟨I2,A2,e1,e2,e3,e4⟩:=ui hd aa a b c;subst e1;exact hk v' I2 A2 e2 e3 e4
variable{i:Nat}{str:ip}{fr:iK}
def j3{lo:List (Nat×Oper)}{n xb xo m c:Nat}{xs:List Value}(hd:Dj (I::A::l))(ht:jv C.P t e size bytes)(aa:mh A e size v n xs)(hs:str.h.contains i=false)(ac:str.j.contains i=false)(hw:aH ol σ o=some true)(aj:o.op=.call ⟨.builtin .append,#[x,y],#[t,t]⟩)(hx:ev σ x=.v v)(hy:ev σ y=.v (.slice (some ⟨xb,xo,none⟩) m c))
  (hn:aP (U (I::A::l)) xb xo news) (hl:news.length=m*size) (h1:news.all one=true) (hb:(n+m)*bytes<=140737488355328) (ak:n+m<=maxLen)
  (hk:∀v' I2 A2,Dj (I2::A2::l)->I.le I2->mh A2 e size v' (n+m) (xs++news)->RD C ol fr str lo k (σ.put o.dst (.v v')) (U (I2::A2::l))):RD C ol fr str ((i,o)::lo) k σ (U (I::A::l)):=
 IV ht (aa.1.le (di hd)) hs ac hw aj hx hy hn hl h1 hb ak fun v' H2 a b c=>by
  obtain⟨I2,A2,e1,e2,e3,e4⟩:=ui hd aa a b c;subst e1;exact hk v' I2 A2 e2 e3 e4
variable{b:Nat}
def La(hd:Dj (I::l)){o:Obj}(h:U (I::l) b=none):(U (I::l)).put b o=U (I.put b o::l)/\Dj (I.put b o::l)/\I.le (I.put b o)/\I.put b o b=some o:=by
 have hI:=oL.1 h;refine⟨?_,hd.tail.cons fun c=>?_,PH.le_put (hI I (.head _)),by simp[PH.put]⟩
 ·funext c;simp only[PH.put,U,PH.uni];split<;>simp
 ·by_cases e:c=b
  ·subst e;exact .inr (oL.2 fun B hB=>hI B (.tail _ hB))
  ·rcases hd.head c with h'|h'
   ·exact .inl (by simp[PH.put,e,h'])
   ·exact .inr h'
variable{ps:List (Nat×Value)}{parts:Array (Nat×Operand)}
def ax{len:Nat}(hd:Dj (I::l))(ht:jv C.P t e size bytes)(hw:aH ol σ o=some true)(aj:o.op=.buildSlice t len parts)(ha:mH (ev σ) parts.toList=some ps)
  (hp:iF size 0 ps=true) (aa:ps.length=len) (ac:len*size<=16777216)
  (hk:∀b I2,Dj (I2::l)->I.le I2->I2 b=some (.cells (aD ps).toArray e (0,0))->RC C (.op ol rem k) (σ.put o.dst (.v (.slice (some ⟨b,0,none⟩) len len))) (U (I2::l))):RC C (.op ol (o::rem) k) σ (U (I::l)):=
 qW ht hw aj ha hp aa ac fun b hb=>by
  obtain⟨e1,e2,e3,e4⟩:=La hd (o:=.cells (aD ps).toArray e (0,0)) hb;rw[e1];exact hk b _ e2 e3 e4
def bj{lo:List (Nat×Oper)}{len:Nat}(hd:Dj (I::l))(ht:jv C.P t e size bytes)(hw:aH ol σ o=some true)(aj:o.op=.buildSlice t len parts)(ha:mH (ev σ) parts.toList=some ps)
  (hp:iF size 0 ps=true) (aa:ps.length=len) (ac:len*size<=16777216)
  (hk:∀b I2,Dj (I2::l)->I.le I2->I2 b=some (.cells (aD ps).toArray e (0,0))->RD C ol fr str lo k (σ.put o.dst (.v (.slice (some ⟨b,0,none⟩) len len))) (U (I2::l))):RD C ol fr str ((i,o)::lo) k σ (U (I::l)):=
 yW ht hw aj ha hp aa ac fun b hb=>by
  obtain⟨e1,e2,e3,e4⟩:=La hd (o:=.cells (aD ps).toArray e (0,0)) hb;rw[e1];exact hk b _ e2 e3 e4
def nr{c:Cf}(hd:Dj (I::l))(is:List Nat)(hi:is.isPerm (List.range l.length)=true)(h:Dj (I::vG l is)->RC C c σ (U (I::vG l is))):RC C c σ (U (I::l)):=by
 obtain⟨e,d⟩:=oz ((o5 hi).cons I) hd;rw[e];exact h d
def Kf{lo:List (Nat×Oper)}(hd:Dj (I::l))(is:List Nat)(hi:is.isPerm (List.range l.length)=true)(h:Dj (I::vG l is)->RD C ol fr str lo k σ (U (I::vG l is))):RD C ol fr str lo k σ (U (I::l)):=by
 obtain⟨e,d⟩:=oz ((o5 hi).cons I) hd;rw[e];exact h d
def Z3:(∀{α:Type} (a:α) (s t:List α),a::s++t=a::(s++t))/\(∀{α:Type} (t:List α),[]++t=t)/\(∀{α:Type} (t:List α),t++[]=t):=⟨fun _ _ _=>rfl,fun _=>rfl,fun t=>aa6 t⟩
def Z4:(∀l:List PH,vG l []=[])/\(∀(l:List PH) i is,vG l (i::is)=l.getD i PH.no::vG l is)/\(∀(a:PH) l d,(a::l).getD 0 d=a)/\(∀(a:PH) l n d,(a::l).getD (n+1) d=l.getD n d):=⟨fun _=>rfl,fun _ _ _=>rfl,fun _ _ _=>aa7,fun _ _ _ _=>aa8⟩
def rR{o o':Obj}(hd:Dj (I::sg b o::l)):(U (I::sg b o::l)).put b o'=U (I::sg b o'::l)/\Dj (I::sg b o'::l):=by
 have hI:I b=none:=(qF hd (.head _)).symm.left (dL b o);have hL:=hd.tail.head.left (dL b o);constructor
 ·funext c;simp only[PH.put,U,PH.uni,sg];by_cases e:c=b
  ·subst e;simp[hI]
  ·simp[e]
 ·refine(hd.tail.tail.cons fun c=>?_).cons fun c=>?_
  ·by_cases e:c=b
   ·subst e;exact .inr hL
   ·exact .inl (by simp[sg,e])
  ·by_cases e:c=b
   ·subst e;exact .inl hI
   ·rcases hd.head c with h'|h'
    ·exact .inl h'
    ·exact .inr (PH.uni_none.2 ⟨by simp[sg,e],(PH.uni_none.1 h').2⟩)
variable{cs:List Value}{cells:Array Value}{ty:TypeId}
def bw{T:TypeId}{off:Nat}(hd:Dj (I::sg b (.cells cells ty (0,0))::l))(hw:aH ol σ o=some true)(aa:o.op=.store T x y)(hx:ev σ x=.v (.pointer (some ⟨b,off,none⟩)))(hy:ev σ y=.v v)
  (hc:kI v=some cs) (hs:bY C.P T=some cs.length) (ac:off+cs.length<=cells.size)
  (hk:Dj (I::sg b (.cells (br cells.toList off cs).toArray ty (0,0))::l)->RC C (.op ol rem k) (σ.put o.dst .u) (U (I::sg b (.cells (br cells.toList off cs).toArray ty (0,0))::l))):RC C (.op ol (o::rem) k) σ (U (I::sg b (.cells cells ty (0,0))::l)):=by
 refine L0 (di hd _ _ (dL _ _)) hw aa hx hy hc hs ac ?_;obtain⟨e1,e2⟩:=rR (o':=.cells (br cells.toList off cs).toArray ty (0,0)) hd;rw[e1];exact hk e2
def aQ{lo:List (Nat×Oper)}{T:TypeId}{off:Nat}(hd:Dj (I::sg b (.cells cells ty (0,0))::l))(aa:lx str.k i=false)(hw:aH ol σ o=some true)(ac:o.op=.store T x y)(hx:ev σ x=.v (.pointer (some ⟨b,off,none⟩)))(hy:ev σ y=.v v)
  (hc:kI v=some cs) (hs:bY C.P T=some cs.length) (aj:off+cs.length<=cells.size)
  (hk:Dj (I::sg b (.cells (br cells.toList off cs).toArray ty (0,0))::l)->RD C ol fr str lo k (σ.put o.dst .u) (U (I::sg b (.cells (br cells.toList off cs).toArray ty (0,0))::l))):RD C ol fr str ((i,o)::lo) k σ (U (I::sg b (.cells cells ty (0,0))::l)):=by
 refine HM (di hd _ _ (dL _ _)) aa hw ac hx hy hc hs aj ?_;obtain⟨e1,e2⟩:=rR (o':=.cells (br cells.toList off cs).toArray ty (0,0)) hd;rw[e1];exact hk e2
def lO(P:Program)(A:PH)(r:Nat)(kt:TypeId)(S:Value->Value->Prop):Prop:=∃o,A=sg r o/\gp P A r kt S
variable{S:Value->Value->Prop}{mt:TypeId}
def nZ{kt et:TypeId}(K:Maps.Keyed C.P kt)(hm:C.P.underlying mt=some (.map kt et)){z:Operand}{r:Nat}{key:Value}(hd:Dj (I::A::l))(hw:aH ol σ o=some true)(aa:o.op=.mapUpdate mt x y z\/o.op=.insert mt x y z)
  (hx:ev σ x=.v (.map (some r))) (hy:ev σ y=.v key) (hz:ev σ z=.v v) (h:lO C.P A r kt S) (hk:kN C.P kt key)
  (hg:∀A2,Dj (I::A2::l)->lO C.P A2 r kt (fun y u=>(y=key/\u=v)\/(y≠key/\S y u))->RC C (.op ol rem k) (σ.put o.dst .u) (U (I::A2::l))):RC C (.op ol (o::rem) k) σ (U (I::A::l)):=by
 obtain⟨ob,rfl,hM⟩:=h;refine Jt K hm hw aa hx hy hz (hM.le (di hd)) hk fun ob2 h2=>?_;obtain⟨e1,e2⟩:=rR (o':=ob2) hd;rw[e1];exact hg _ e2 ⟨ob2,rfl,h2.of_eq (by simp[dL,PH.put])⟩
def nT{lo:List (Nat×Oper)}{kt et:TypeId}(K:Maps.Keyed C.P kt)(hm:C.P.underlying mt=some (.map kt et)){z:Operand}{r:Nat}{key:Value}(hd:Dj (I::A::l))(hs:str.h.contains i=false)(aa:str.j.contains i=false)(hw:aH ol σ o=some true)(ac:o.op=.mapUpdate mt x y z\/o.op=.insert mt x y z)
  (hx:ev σ x=.v (.map (some r))) (hy:ev σ y=.v key) (hz:ev σ z=.v v) (h:lO C.P A r kt S) (hk:kN C.P kt key)
  (hg:∀A2,Dj (I::A2::l)->lO C.P A2 r kt (fun y u=>(y=key/\u=v)\/(y≠key/\S y u))->RD C ol fr str lo k (σ.put o.dst .u) (U (I::A2::l))):RD C ol fr str ((i,o)::lo) k σ (U (I::A::l)):=by
 obtain⟨ob,rfl,hM⟩:=h;refine Jn K hm hs aa hw ac hx hy hz (hM.le (di hd)) hk fun ob2 h2=>?_;obtain⟨e1,e2⟩:=rR (o':=ob2) hd;rw[e1];exact hg _ e2 ⟨ob2,rfl,h2.of_eq (by simp[dL,PH.put])⟩
def pu(hd:Dj (I::l)){o:Obj}(h:U (I::l) b=none):(U (I::l)).put b o=U (I::sg b o::l)/\Dj (I::sg b o::l):=by
 obtain⟨e1,e2⟩:=PF hd (o:=o) h;obtain⟨e3,e4⟩:=oz (List.Perm.swap I (sg b o) l) e2;exact⟨e1.trans e3,e4⟩
def pM(kt:TypeId)(hd:Dj (I::l))(hw:aH ol σ o=some true)(aa:o.op=.makeMap mt none)
  (hg:∀r A,Dj (I::A::l)->lO C.P A r kt (fun _ _=>False)->RC C (.op ol rem k) (σ.put o.dst (.v (.map (some r)))) (U (I::A::l))):RC C (.op ol (o::rem) k) σ (U (I::l)):=
 Ey hw aa fun r hr=>by
  obtain⟨e1,e2⟩:=pu hd (o:=.map #[] 0) hr;rw[e1];exact hg r _ e2 ⟨_,rfl,gp.empty (dL _ _)⟩
def Cn{lo:List (Nat×Oper)}(kt:TypeId)(hd:Dj (I::l))(hw:aH ol σ o=some true)(aa:o.op=.makeMap mt none)
  (hg:∀r A,Dj (I::A::l)->lO C.P A r kt (fun _ _=>False)->RD C ol fr str lo k (σ.put o.dst (.v (.map (some r)))) (U (I::A::l))):RD C ol fr str ((i,o)::lo) k σ (U (I::l)):=
 ER hw aa fun r hr=>by
  obtain⟨e1,e2⟩:=pu hd (o:=.map #[] 0) hr;rw[e1];exact hg r _ e2 ⟨_,rfl,gp.empty (dL _ _)⟩
def Sh(key:Nat){B:js}(hd:Dj (I::l))(hB:eJ σ.bx key=some B)(h:∀b,Dj (I::sg b (.cells B.cs.toArray B.ty (0,0))::l)->R C k ⟨σ.tm.map (mF key b),dR σ.bx key⟩ (U (I::sg b (.cells B.cs.toArray B.ty (0,0))::l))):R C k σ (U (I::l)):=
 Wg key hB fun b hb=>by
  obtain⟨e1,e2⟩:=pu hd (o:=.cells B.cs.toArray B.ty (0,0)) hb;rw[e1];exact h b e2
end
open Go
variable{l:List Value}{off:Nat}{A:PH}{ps:List PH}
theorem cellsU{b:Nat}(hd:Dj ps)(hA:A∈ps)(h:aP A b off l):aP (U ps) b off l:=h.le (FV hd hA)
variable{fz:Nat×Nat}{ty:TypeId}{cs:Array Value}
def ay{b:Nat}(h1:off+l.length<=cs.size)(h2:(cs.toList.drop off).take l.length=l):aP (sg b (.cells cs ty fz)) b off l:=
 ⟨cs,ty,fz,dL _ _,h1,h2⟩
def az{b:Nat}(h:A b=some (.cells cs ty fz))(h1:off+l.length<=cs.size)(h2:(cs.toList.drop off).take l.length=l):aP A b off l:=
 ⟨cs,ty,fz,h,h1,h2⟩
variable{S:Value->Value->Prop}{kt:TypeId}
def lO.atU{P:Program}{r:Nat}(h:lO P A r kt S)(hd:Dj ps)(hA:A∈ps):gp P (U ps) r kt S:=by
 obtain⟨o,e,m⟩:=h;exact m.le (FV hd hA)
def lO.congr{P:Program}{r:Nat}{S':Value->Value->Prop}(h:lO P A r kt S)(hs:∀y u,S' y u<->S y u):lO P A r kt S':=by
 obtain⟨o,e,m⟩:=h;exact⟨o,e,m.congr hs⟩
variable{v:Value}{size:Nat}{e:TypeId}
def mh.xs{n n':Nat}{xs xs':List Value}(h:mh A e size v n xs)(hn:n=n')(hx:xs=xs'):mh A e size v n' xs':=by subst hn;subst hx;exact h
def mh.slice{n:Nat}{xs:List Value}(h:mh A e size v n xs):∃a c,v=.slice a n c:=by
 obtain⟨⟨_,⟨a,b⟩|⟨g,cap,cur,a,_⟩⟩,_⟩:=h
 ·subst b;exact⟨_,_,a⟩
 ·exact⟨_,_,a⟩
def SG{I:PH}{l:List PH}(hd:Dj (I::l)):U (I::l)=U (I::PH.no::l)/\Dj (I::PH.no::l):=by
 constructor
 ·funext c;simp only[U,PH.uni,PH.no]
 ·refine(hd.tail.cons fun b=>.inl rfl).cons fun b=>?_;rcases hd.head b with h|h
  ·exact .inl h
  ·exact .inr (PH.uni_none.2 ⟨rfl,h⟩)
section
variable {C:Cx} {k:List Item} {σ:St}
variable{l:List PH}{I:PH}
def aR{c:Cf}(hd:Dj (I::l))(h:Dj (I::PH.no::l)->RC C c σ (U (I::PH.no::l))):RC C c σ (U (I::l)):=by
 obtain⟨e,d⟩:=SG hd;rw[e];exact h d
def fV(key:Nat){B:js}(hd:Dj (I::l))(hB:eJ σ.bx key=some B)(h:∀b,Dj (I::sg b (.cells B.cs.toArray B.ty (0,0))::l)->RC C (.st k) ⟨σ.tm.map (mF key b),dR σ.bx key⟩ (U (I::sg b (.cells B.cs.toArray B.ty (0,0))::l))):RC C (.st k) σ (U (I::l)):=Sh key hd hB h
def ae{c:Cf}{A:PH}(hd:Dj (I::A::l))(h:∀I2,Dj (I2::l)->I.le I2->A.le I2->RC C c σ (U (I2::l))):RC C c σ (U (I::A::l)):=by
 obtain⟨e,d⟩:=freeze hd;rw[e];exact h _ d (PH.le_uni I A) (PH.le_uni_r (qF hd (.head _)))
end
open Go
attribute [go_sem] undef nF my MT Ac kb mX lx
attribute [go_sem] Bool.false_and Bool.and_false aH qS S7 NW pv yF
attribute [go_sem] Pw HD Ko wj nV JD j8 mH
attribute [go_sem] P6 QI Eu QR Hh Qf Wz ev
attribute [go_sem] oY lN St.put St.newBox St.store gU dR eJ
attribute [go_sem] rz br kQ List.map_cons List.map_nil qM vD kI
attribute [go_sem] one iR AD ru BO exitTo uC Value.cells
attribute [go_sem] List.toList_toArray List.cons_append List.nil_append List.replicate List.length_cons List.length_nil ite_true ite_false
attribute [go_sem] if_true if_false Option.map_some Option.map_none true_and and_true List.drop_zero List.drop_succ_cons
attribute [go_sem] List.take_succ_cons List.take_zero List.getElem?_cons_zero List.getElem?_cons_succ List.set_cons_zero List.set_cons_succ List.all_cons List.all_nil
attribute [go_sem] Bool.and_self Bool.true_and Bool.and_true beq_self_eq_true Array.toList List.size_toArray Nat.zero_add Nat.add_zero
attribute [go_sem] and_self beq_true beq_false Bool.not_true Bool.not_false Int.toNat_natCast decide_true decide_false
attribute [go_sem] pick Jr xx mF lx mg o9 Nat.sub_zero
attribute [go_sem] Int.cast_ofNat_Int
attribute [go_sem] Nat.reduceAdd Nat.reduceSub Nat.reduceLT Nat.reduceLeDiff Nat.reduceEqDiff Nat.reduceBEq Nat.reduceMul reduceIte
attribute [go_sem] reduceCtorEq Int.reduceToNat Int.reduceLE Int.reduceLT Int.reduceBEq Int.reduceBNe Int.reduceEq
def aT{C:Cx}{σ:St}{H:PH}{c:Cf}{Q:Prop}(h:Q)(e:bW C H (nF C.P 500 c σ [])=Q:=by simp only[go_sem];rfl):RC C c σ H:=pX 500 (e.mpr h)
variable{str:ip}{fr:iK}{ol:List Oper}
def gw{C:Cx}{k:List Item}{σ:St}{H:PH}{l:List (Nat×Oper)}{Q:Prop}(h:Q)(e:CI C ol fr str k H (my C.P ol fr.k str.k fr.kp l σ [])=Q:=by simp only[go_sem];rfl):RD C ol fr str l k σ H:=au (e.mpr h)
variable{l:List PH}{I:PH}
def bf{C:Cx}{σ:St}{c:Cf}{L:List PH}(hd:Dj (I::l))(is:List Nat)(h:Dj L->RC C c σ (U L))(hi:is.isPerm (List.range l.length)=true:=by rfl)(e:I::vG l is=L:=by simp only[Z4];rfl):RC C c σ (U (I::l)):=nr hd is hi (e▸h)
def nI{C:Cx}{k:List Item}{σ:St}{lo:List (Nat×Oper)}{L:List PH}(hd:Dj (I::l))(is:List Nat)(h:Dj L->RD C ol fr str lo k σ (U L))(hi:is.isPerm (List.range l.length)=true:=by rfl)(e:I::vG l is=L:=by simp only[Z4];rfl):RD C ol fr str lo k σ (U (I::l)):=Kf hd is hi (e▸h)
variable{Ψ:Value->PH->List PH->Prop}{first cap:Array Value}{vs:List Value}{f:FuncId}{ts:Array TypeId}{aq:Array Operand}{x:Operand}{o:Oper}
def bV{C:Cx}{k:List Item}{σ:St}{rem:List Oper}(hd:Dj [I])(hq:(aH ol σ o,o.op,ev σ x,j8 (ev σ) aq.toList)=(some true,Op.call ⟨.value x,aq,ts⟩,SV.v (.func (.func f) first cap),some vs))(hg:aO C.P f)(h:aK C.P f (first++vs.toArray++cap) I [] Ψ)
  (hk:∀v I2 qs,Dj (I2::qs)->I.le I2->Ψ v I2 qs->RC C (.op ol rem k) (σ.put o.dst (.v v)) (U (I2::qs))):RC C (.op ol (o::rem) k) σ (U [I]):=
 DY (F:=[]) hd [] hq hg rfl rfl h fun v I2 qs aa ac hp=>by rw[aa6]at aa |-;exact hk v I2 qs aa ac hp
def ad{C:Cx}{k:List Item}{σ:St}{rem:List Oper}(hd:Dj (I::l))(is:List Nat)(ps F:List PH)(hq:(aH ol σ o,o.op,ev σ x,j8 (ev σ) aq.toList)=(some true,Op.call ⟨.value x,aq,ts⟩,SV.v (.func (.func f) first cap),some vs))(hg:aO C.P f)(hl:vG l is=ps++F)(h:aK C.P f (first++vs.toArray++cap) I ps Ψ)
  (hk:∀v I2 qs,Dj (I2::qs++F)->I.le I2->Ψ v I2 qs->RC C (.op ol rem k) (σ.put o.dst (.v v)) (U (I2::qs++F))) (hi:is.isPerm (List.range l.length)=true:=by rfl):RC C (.op ol (o::rem) k) σ (U (I::l)):=DY hd is hq hg hi hl h hk
def cv{C:Cx}{k:List Item}{σ:St}{i:Nat}{lo:List (Nat×Oper)}(hd:Dj [I])(hq:(aH ol σ o,o.op,ev σ x,j8 (ev σ) aq.toList)=(some true,Op.call ⟨.value x,aq,ts⟩,SV.v (.func (.func f) first cap),some vs))(hg:aO C.P f)(h:aK C.P f (first++vs.toArray++cap) I [] Ψ)
  (hk:∀v I2 qs,Dj (I2::qs)->I.le I2->Ψ v I2 qs->RD C ol fr str lo k (σ.put o.dst (.v v)) (U (I2::qs))) (hs:str.h.contains i=false:=by exact rfl) (ac:str.j.contains i=true->fr.J.le I:=by exact fun h=>by cases h):RD C ol fr str ((i,o)::lo) k σ (U [I]):=
 DX (F:=[]) hd [] hs ac hq hg rfl rfl h fun v I2 qs aa aj hp=>by rw[aa6]at aa |-;exact hk v I2 qs aa aj hp
def aE{C:Cx}{k:List Item}{σ:St}{i:Nat}{lo:List (Nat×Oper)}(hd:Dj (I::l))(is:List Nat)(ps F:List PH)(hq:(aH ol σ o,o.op,ev σ x,j8 (ev σ) aq.toList)=(some true,Op.call ⟨.value x,aq,ts⟩,SV.v (.func (.func f) first cap),some vs))(hg:aO C.P f)(hl:vG l is=ps++F)(h:aK C.P f (first++vs.toArray++cap) I ps Ψ)
  (hk:∀v I2 qs,Dj (I2::qs++F)->I.le I2->Ψ v I2 qs->RD C ol fr str lo k (σ.put o.dst (.v v)) (U (I2::qs++F))) (hi:is.isPerm (List.range l.length)=true:=by rfl) (hs:str.h.contains i=false:=by exact rfl) (aa:str.j.contains i=true->fr.J.le I:=by exact fun h=>by cases h):RD C ol fr str ((i,o)::lo) k σ (U (I::l)):=DX hd is hs aa hq hg hi hl h hk
attribute [go_sem] sp nm rN
section
variable {C:Cx} {k:List Item} {σ:St} {H:PH}
def aA{α:Type}{c:Code}(μ:α->Nat)(S:α->St)(Q:α->PH->Prop)(a0:α)(hs:nm (S a0).tm σ.tm)(hb:rN (S a0).bx σ.bx)(hq:Q a0 H)
  (h:∀a H,Q a H->(∀a' σ1 H',μ a'<μ a->nm (S a').tm σ1.tm->rN (S a').bx σ1.bx->Q a' H'->RC C (.st (.inLoop c::k)) σ1 H')->RC C (.st (.code c::.inLoop c::k)) (S a) H) :
  RC C (.st (.code (.loop c)::k)) σ H:=by
 refine Gc hs hb ?_;refine TS (fun n σ H=>∃a,σ=S a/\μ a=n/\Q a H) (μ a0) ⟨a0,rfl,rfl,hq⟩ ?_;rintro n σ H ⟨a,rfl,rfl,hq⟩ hn;exact h a H hq fun a' σ1 H' aa h1 h2 h3=>Gc h1 h2 (hn _ aa _ _ ⟨a',rfl,rfl,h3⟩)
def fD{σ':St}(ht:nm σ'.tm σ.tm)(hb:rN σ'.bx σ.bx)(h:RC C (.st k) σ' H):RC C (.st k) σ H:=Gc ht hb h
def zO{size:Nat}:∀{ps:List (Nat×Value)} {j:Nat},iF size j ps=true->(aD ps).length=ps.length*size
 | [],_,_=>by simp[aD]
 |(i,v)::l,j,h=>by
  simp only[iF,aao,aaC]at h;have:=zO h.2;simp only[aD,aa9,h.1.2,this,aaj];rw[aaP];omega
variable{size:Nat}{e:TypeId}
def Qv{len b:Nat}{xs:List Value}(h:xs.length=len*size)(hl:len<=maxLen):mh (sg b (.cells xs.toArray e (0,0))) e size (.slice (some ⟨b,0,none⟩) len len) len xs:=
 ⟨⟨h,.inr ⟨b,len,xs.toArray,rfl,dL _ _,ZR _,hl,by simpa using h,by rw[<-h];simp⟩⟩,fun c hc=>by
  simp only[iw,ne_eq,ZW]at hc;simp[sg,Ne.symm hc]⟩
def fx{ol rem:List Oper}{o:Oper}{t:TypeId}{len bytes:Nat}{parts:Array (Nat×Operand)}{ps:List (Nat×Value)}{I:PH}{l:List PH}(hd:Dj (I::l))(ht:jv C.P t e size bytes)(hw:aH ol σ o=some true)(aj:o.op=.buildSlice t len parts)(ha:mH (ev σ) parts.toList=some ps)
  (hp:iF size 0 ps=true) (aa:ps.length=len) (ac:len*size<=16777216)
  (hk:∀b A,Dj (I::A::l)->mh A e size (.slice (some ⟨b,0,none⟩) len len) len (aD ps)->RC C (.op ol rem k) (σ.put o.dst (.v (.slice (some ⟨b,0,none⟩) len len))) (U (I::A::l))):RC C (.op ol (o::rem) k) σ (U (I::l)):=
 qW ht hw aj ha hp aa ac fun b hb=>by
  obtain⟨e1,e2⟩:=pu hd (o:=.cells (aD ps).toArray e (0,0)) hb;rw[e1];refine hk b _ e2 (Qv (by rw[zO hp,aa]) ?_);obtain⟨_,_,_,_,_,_,_,_,a7⟩:=ht;have:len*1<=len*size:=Nat.mul_le_mul_left _ a7;unfold maxLen;omega
theorem mh.cellsU{ps:List PH}{A:PH}{v:Value}{n:Nat}{xs:List Value}(hd:Dj ps)(hA:A∈ps)(h:mh A e size v n xs)(hn:0<n):∃g cap,v=.slice (some ⟨g,0,none⟩) n cap/\aP (U ps) g 0 xs:=by
 obtain⟨g,cap,a,b⟩:=h.1.cells hn;exact⟨g,cap,a,b.le (FV hd hA)⟩
end
open Go
def oK{H:PH}{b off:Nat}{l:List Value}(h:aP H b off l){w:World}(s:Sub H w):∀j v,l[j]?=some v->w.cell? ((⟨b,off,none⟩:Addr).add j)=some v:=by
 obtain⟨cs,ty,fz,h1,h2,h3⟩:=h;intro j v hj;have hb:=s _ _ h1;rw[show cs=cs.toList.toArray from by simp]at hb;rw[gG,sQ hb];rw[<-h3]at hj;rw[Z0]at hj;split at hj
 ·rw[Z1]at hj;exact hj
 ·cases hj
section
variable {C:Cx} {P:Program} {k:List Item} {σ:St} {H:PH}
variable{ys:List Value}{cur:Array Value}{dLen dCap b sLen sCap:Nat}{i:TypeInfo}{dT sT e:TypeId}
def Jh{ty:TypeId}(hu:P.underlying dT=some (.slice e))(hi:P.info? e=some i){g o so:Nat}
  (hg:H g=some (.cells cur e (0,0))) (hy:aP H b so ys) (hl:ys.length=min sLen dLen*i.size) (aa:o+ys.length<=cur.size) (h1:ys.all one=true) (w:World) (hw:Sub H w) :
  ∃w2,(Builtin.copy_ #[dT,sT] ty #[.slice (some ⟨g,o,none⟩) dLen dCap,.slice (some ⟨b,so,none⟩) sLen sCap]).run P w=.ok (.int .i64 (min sLen dLen:Nat)) w2/\dM H w (H.put g (.cells (br cur.toList o ys).toArray e (0,0))) w2:=by
 have hf:=run_firstCells_some (P:=P) (w:=w) i.size (min sLen dLen) ⟨b,so,none⟩ sLen sCap ys hl (oK hy hw);have ac:=hw _ _ hg;rw[show cur=cur.toList.toArray from by simp]at ac;obtain⟨w2,r1,r2,r3,r4,r5,r6,r7⟩:=iu (P:=P) g e ys 0 o cur.toList w ac (by simpa using aa) fun v hv=>List.all_eq_true.1 h1 v hv;refine⟨w2,?_,?_⟩
 ·simp[Builtin.copy_,bt hu,Result.andThen,Builtin.lenOf,sizeOf,typeInfo,program,Sem.run,hi,goInt];rw[show Nat.min sLen dLen=min sLen dLen from rfl,hf];simp[r1,Nat.min_def]
 ·refine⟨fun c o' h=>?_,ab,fun c aj hn=>r3 c (fun e=>by subst e;rw[hg]at hn;cases hn),fun c aj hn=>?_,r5,r6,r7⟩
  ·by_cases e:c=g
   ·subst e;simp only[PH.put,ZT]at h;cases h;simpa using r2
   ·simp only[PH.put,ZV e]at h;rw[r3 c e];exact hw _ _ h
  ·have:c≠g:=fun e=>by subst e;rw[hg]at hn;cases hn
   simp[PH.put,this,hn]
variable{off:Nat}{x y:Operand}{o:Oper}
def zB(hu:P.underlying dT=some (.slice e))(hi:P.info? e=some i){g so:Nat}(aj:o.op=.call ⟨.builtin .copy,#[x,y],#[dT,sT]⟩)
  (hx:ev σ x=.v (.slice (some ⟨g,off,none⟩) dLen dCap)) (hy:ev σ y=.v (.slice (some ⟨b,so,none⟩) sLen sCap)) (hg:H g=some (.cells cur e (0,0))) (hc:aP H b so ys) (hl:ys.length=min sLen dLen*i.size) (ac:off+ys.length<=cur.size) (h1:ys.all one=true) :
  bh σ o.op=true/\de P (execOp (bN σ) o) H fun sv H2=>sv=.v (.int .i64 (min sLen dLen:Nat))/\H2=H.put g (.cells (br cur.toList off ys).toArray e (0,0)):=by
 constructor
 ·simp[bh,aj,fT,Op.operands,Call.operands,hx,hy,ul]
 ·intro w hw;obtain⟨w2,aa,st⟩:=Jh (sT:=sT) (ty:=o.type) (dCap:=dCap) (sCap:=sCap) hu hi hg hc hl ac h1 w hw;have:(execOp (bN σ) o).run P w=.ok (.value (.int .i64 (min sLen dLen:Nat))) w2:=by
   simp[execOp,aj,resolve,bN,hx,hy,invoke,builtin,Result.andThen,aa]
  rw[this];exact⟨_,st,rfl,rfl⟩
variable{l:List PH}{I:PH}{ol rem:List Oper}
def CY{g so:Nat}(hd:Dj (I::sg g (.cells cur e (0,0))::l))(hu:C.P.underlying dT=some (.slice e))(hi:C.P.info? e=some i)(hw:aH ol σ o=some true)(ac:o.op=.call ⟨.builtin .copy,#[x,y],#[dT,sT]⟩)
  (hx:ev σ x=.v (.slice (some ⟨g,off,none⟩) dLen dCap)) (hy:ev σ y=.v (.slice (some ⟨b,so,none⟩) sLen sCap)) (hc:aP (U (I::sg g (.cells cur e (0,0))::l)) b so ys) (hl:ys.length=min sLen dLen*i.size) (aa:off+ys.length<=cur.size) (h1:ys.all one=true)
  (hk:Dj (I::sg g (.cells (br cur.toList off ys).toArray e (0,0))::l)->RC C (.op ol rem k) (σ.put o.dst (.v (.int .i64 (min sLen dLen:Nat)))) (U (I::sg g (.cells (br cur.toList off ys).toArray e (0,0))::l))):RC C (.op ol (o::rem) k) σ (U (I::sg g (.cells cur e (0,0))::l)):=by
 obtain⟨a,c⟩:=zB (σ:=σ) hu hi ac hx hy (di hd _ _ (dL _ _)) hc hl aa h1;refine iU hw a (c.mono fun sv H2 ⟨e1,e2⟩=>?_);subst e1;subst e2;obtain⟨e1,e2⟩:=rR (o':=.cells (br cur.toList off ys).toArray e (0,0)) hd;rw[e1];exact hk e2
def Dc{fr:iK}{str:ip}{j:Nat}{lo:List (Nat×Oper)}{g so:Nat}(hd:Dj (I::sg g (.cells cur e (0,0))::l))(hu:C.P.underlying dT=some (.slice e))(hi:C.P.info? e=some i)(hs:str.h.contains j=false)(aj:str.j.contains j=false)(hw:aH ol σ o=some true)(ac:o.op=.call ⟨.builtin .copy,#[x,y],#[dT,sT]⟩)
  (hx:ev σ x=.v (.slice (some ⟨g,off,none⟩) dLen dCap)) (hy:ev σ y=.v (.slice (some ⟨b,so,none⟩) sLen sCap)) (hc:aP (U (I::sg g (.cells cur e (0,0))::l)) b so ys) (hl:ys.length=min sLen dLen*i.size) (aa:off+ys.length<=cur.size) (h1:ys.all one=true)
  (hk:Dj (I::sg g (.cells (br cur.toList off ys).toArray e (0,0))::l)->RD C ol fr str lo k (σ.put o.dst (.v (.int .i64 (min sLen dLen:Nat)))) (U (I::sg g (.cells (br cur.toList off ys).toArray e (0,0))::l))):RD C ol fr str ((j,o)::lo) k σ (U (I::sg g (.cells cur e (0,0))::l)):=by
 obtain⟨a,c⟩:=zB (σ:=σ) hu hi ac hx hy (di hd _ _ (dL _ _)) hc hl aa h1;refine uB hw a (by rw[ac];rfl) (c.mono fun sv H2 ⟨e1,e2⟩=>⟨l9.non hs aj,?_⟩);subst e1;subst e2;obtain⟨e1,e2⟩:=rR (o':=.cells (br cur.toList off ys).toArray e (0,0)) hd;rw[e1];exact hk e2
variable{w:World}{n:Nat}{t:TypeId}
def Bp{t' ty e':TypeId}{qg:Option Addr}{c:Nat}{x:Value}(h:P.underlying t=some (.slice e))(h':P.underlying t'=some (.slice e')):(Builtin.append_ #[t,t'] ty #[.slice qg n c,x]).run P w=(Builtin.append_ #[t,t] ty #[.slice qg n c,x]).run P w:=by
 simp[Builtin.append_,bt h,bt h',Result.andThen]
variable{news:List Value}{v:Value}{size bytes:Nat}
def BQ{t' e':TypeId}{xb xo m c:Nat}{xs:List Value}(ht:jv P t e size bytes)(am:P.underlying t'=some (.slice e'))(ak:o.op=.call ⟨.builtin .append,#[x,y],#[t,t']⟩)(hx:ev σ x=.v v)(hy:ev σ y=.v (.slice (some ⟨xb,xo,none⟩) m c))
  (aj:iT H e size v n xs) (hn:aP H xb xo news) (hl:news.length=m*size) (h1:news.all one=true) (hb:(n+m)*bytes<=140737488355328) (aq:n+m<=maxLen) :
  bh σ o.op=true/\de P (execOp (bN σ) o) H fun sv H2=>∃v',sv=.v v'/\iT H2 e size v' (n+m) (xs++news)/\RH v.ownBlock H H2/\(v'.ownBlock=v.ownBlock\/∀g,v'.ownBlock=some g->H g=none):=by
 constructor
 ·simp[bh,ak,fT,Op.operands,Call.operands,hx,hy,ul]
 ·intro w hw;obtain⟨v',w',H2,aa,st,ac,ao,an⟩:=uS (ty:=o.type) (c:=c) ht aj hn hl (fun u hu=>List.all_eq_true.1 h1 u hu) hb aq w hw;obtain⟨i,z,a1,_⟩:=ht;obtain⟨va,vn,vc,rfl⟩:∃va vn vc,v=.slice va vn vc:=by
   rcases aj.2 with ⟨e0,_⟩|⟨g,cap,cur,e0,_⟩
   ·exact⟨_,_,_,e0⟩
   ·exact⟨_,_,_,e0⟩
  rw[<-Bp a1 am]at aa;have:(execOp (bN σ) o).run P w=.ok (.value v') w':=by
   simp[execOp,ak,resolve,bN,hx,hy,invoke,builtin,Result.andThen,aa]
  rw[this];exact⟨H2,st,v',rfl,ac,ao,an⟩
def Dz{t' e':TypeId}{xb xo m c:Nat}{xs:List Value}{A:PH}(hd:Dj (I::A::l))(ht:jv C.P t e size bytes)(ac:C.P.underlying t'=some (.slice e'))(aa:mh A e size v n xs)(hw:aH ol σ o=some true)(aj:o.op=.call ⟨.builtin .append,#[x,y],#[t,t']⟩)(hx:ev σ x=.v v)(hy:ev σ y=.v (.slice (some ⟨xb,xo,none⟩) m c))
  (hn:aP (U (I::A::l)) xb xo news) (hl:news.length=m*size) (h1:news.all one=true) (hb:(n+m)*bytes<=140737488355328) (ak:n+m<=maxLen)
  (hk:∀v' I2 A2,Dj (I2::A2::l)->I.le I2->mh A2 e size v' (n+m) (xs++news)->RC C (.op ol rem k) (σ.put o.dst (.v v')) (U (I2::A2::l))):RC C (.op ol (o::rem) k) σ (U (I::A::l)):=by
 obtain⟨a,b⟩:=BQ (σ:=σ) ht ac aj hx hy (aa.1.le (di hd)) hn hl h1 hb ak;refine iU hw a (b.mono fun sv H2 ⟨v',e1,e2,e3,e4⟩=>?_);subst e1;obtain⟨I2,A2,e1,e5,e6,e7⟩:=ui hd aa e2 e3 e4;subst e1;exact hk v' I2 A2 e5 e6 e7
def pF{tn:TypeId}{vx vy:Value}{w':World}(aa:o.op=.call ⟨.builtin .append,#[x,y],#[t,tn]⟩)(hx:ev σ x=.v vx)(hy:ev σ y=.v vy)(hr:(Builtin.append_ #[t,tn] o.type #[vx,vy]).run P w=.ok v w'):
  (execOp (bN σ) o).run P w=.ok (.value v) w':=by
 simp[execOp,aa,resolve,bN,hx,hy,invoke,builtin,Result.andThen,hr]
def dM.newD{H:PH}(s:Sub H w)(o:Obj):H w.heap.size=none/\dM H w (H.put w.heap.size o) (w.drew.alloc o):=by
 obtain⟨a,b⟩:=dM.new s o;exact⟨a,b.sub,b.size,b.priv,b.dom,rfl,rfl,rfl⟩
variable{olds:List Value}
def AO{tn:TypeId}{kq kn:IntKind}(ht:jv P t e size bytes)(ao:P.underlying tn=some (.int kn)){m:Nat}(am:o.op=.call ⟨.builtin .append,#[x,y],#[t,tn]⟩)
  (hx:ev σ x=.v (.slice (some ⟨b,off,none⟩) sLen sCap)) (hy:ev σ y=.v (.int kq m)) (hc:aP H b off olds) (hl:olds.length=sLen*size) (h0:0<m) (hg:sCap<sLen+m) (an:sLen+m<=maxLen) (hb:(sLen+m)*bytes<=140737488355328) :
  bh σ o.op=true/\de P (execOp (bN σ) o) H fun sv H2=>∃g cap zs,H g=none/\zs.length=(cap-sLen)*size/\sLen+m<=cap/\cap<=maxLen/\sv=.v (.slice (some ⟨g,0,none⟩) (sLen+m) cap)/\H2=H.put g (.cells (olds++zs).toArray e (0,0)):=by
 constructor
 ·simp[bh,am,fT,Op.operands,Call.operands,hx,hy,ul]
 ·intro w hw;obtain⟨i,z,a1,a2,a3,a4,a5,a6,a7⟩:=ht;subst a4;subst a5;have ak:=run_firstCells_some (P:=P) (w:=w.drew) i.size sLen ⟨b,off,none⟩ sLen sCap olds hl (oK hc (w:=w.drew) hw);have ac:sLen+m<=9223372036854775807:=by simp only[maxLen]at an;omega
  have hm:m*i.bytes<=(sLen+m)*i.bytes:=aaQ _ ab;have aj:=Lib.run_append_grow_zeros (P:=P) w t tn o.type e i z kq kn a1 ao a2 a3 (some ⟨b,off,none⟩) sLen sCap olds ak m h0 a7 hg ab ab (growslice_fits hg hb);have aS:=grownCap_ge w (sLen+m) sCap e;have aq:=grownCap_le_maxLen w (sLen+m) sCap e an;have hz:∀n,(Builtin.zeroCells z.cells n).size=n*i.size:=by intro n;rw[size_zeroCells,a6]
  have aa:(execOp (bN σ) o).run P w=.ok (.value (.slice (some ⟨w.heap.size,0,none⟩) (sLen+m) (grownCap w (sLen+m) sCap e))) (w.drew.alloc (.cells (olds.toArray++Builtin.zeroCells z.cells m++Builtin.zeroCells z.cells (grownCap w (sLen+m) sCap e-(sLen+m))) e)):=by
   exact pF am hx hy aj
  rw[aa];obtain⟨n1,n2⟩:=dM.newD hw (.cells (olds.toArray++Builtin.zeroCells z.cells m++Builtin.zeroCells z.cells (grownCap w (sLen+m) sCap e-(sLen+m))) e (0,0));refine⟨_,n2,w.heap.size,grownCap w (sLen+m) sCap e,(Builtin.zeroCells z.cells m++Builtin.zeroCells z.cells (grownCap w (sLen+m) sCap e-(sLen+m))).toList,n1,?_,aS,aq,rfl,?_⟩
  ·simp only[hZ,Array.size_append,hz,<-aaP];congr 1;omega
  ·congr 2;rw[<-aaa];simp
def F3{tn:TypeId}{kq kn:IntKind}{m:Nat}(hd:Dj (I::l))(ht:jv C.P t e size bytes)(aa:C.P.underlying tn=some (.int kn))(hw:aH ol σ o=some true)(ac:o.op=.call ⟨.builtin .append,#[x,y],#[t,tn]⟩)
  (hx:ev σ x=.v (.slice (some ⟨b,off,none⟩) sLen sCap)) (hy:ev σ y=.v (.int kq m)) (hc:aP (U (I::l)) b off olds) (hl:olds.length=sLen*size) (h0:0<m) (hg:sCap<sLen+m) (aj:sLen+m<=maxLen) (hb:(sLen+m)*bytes<=140737488355328)
  (hk:∀g cap zs,zs.length=(cap-sLen)*size->sLen+m<=cap->cap<=maxLen->Dj (I::sg g (.cells (olds++zs).toArray e (0,0))::l)->RC C (.op ol rem k) (σ.put o.dst (.v (.slice (some ⟨g,0,none⟩) (sLen+m) cap))) (U (I::sg g (.cells (olds++zs).toArray e (0,0))::l))):RC C (.op ol (o::rem) k) σ (U (I::l)):=by
 obtain⟨a,c⟩:=AO (σ:=σ) ht aa ac hx hy hc hl h0 hg aj hb;refine iU hw a (c.mono fun sv H2 ⟨g,cap,zs,e1,e2,e3,e4,e5,e6⟩=>?_);subst e5;subst e6;obtain⟨e5,e6⟩:=pu hd (o:=.cells (olds++zs).toArray e (0,0)) e1;rw[e5];exact hk g cap zs e2 e3 e4 e6
def Dt    {f:FuncId} {fn:Func} {tR:TypeId} {ts:Array TypeId}  {a la ca lb cb oa ob:Nat} {cA cB:Array Value} {tA tB:TypeId} (ht:jv C.P t e size bytes) (hf:C.P.funcs[f]?=some fn) (ac:(fn.name == "runtime.NumGoroutine")=false) (aj:fn.body.isNone=true) (hn:Extern.findNext fn=none) (he:Extern.find fn=some (Extern.SlicesOverlaps.overlaps #[t,t] #[tR]))
  (hw:aH ol σ o=some true) (an:o.op=.call ⟨.value (.func f),#[x,y],ts⟩) (hx:ev σ x=.v (.slice (some ⟨a,oa,none⟩) la ca)) (hy:ev σ y=.v (.slice (some ⟨b,ob,none⟩) lb cb)) (hA:H a=some (.cells cA tA (0,0))) (hB:H b=some (.cells cB tB (0,0))) (aq:a≠b) (aS:cB.size≠0)
  (hk:RC C (.op ol rem k) (σ.put o.dst (.v (.bool false))) H):RC C (.op ol (o::rem) k) σ H:=by
 have ao:ev σ (.func f)=.v (.func (.func f) #[] #[]):=rfl;refine vZ (.bool false) hw ?_ (fun w s=>?_) hk
 ·simp[bh,an,fT,Op.operands,Call.operands,hx,hy,ul,ao]
 ·obtain⟨i,z,a1,a2,a3,a4,a5,a6,a7⟩:=ht;have am:=s _ _ hA;have a0:=s _ _ hB;have hz:∀w,(Go.sizeOf e).run C.P w=.ok size w:=fun w=>by simp[sizeOf,typeInfo,program,Sem.run,a2,a4]
  have ak:=Lib.run_overlaps_apart (P:=C.P) w t tR e a1 size hz ⟨a,oa,none⟩ ⟨b,ob,none⟩ la ca lb cb aq tA tB cA.size cB.size (by simp[World.shape?,am]) (by simp[World.shape?,a0]) aS (by simp[World.frozen?,am]) (by simp[World.frozen?,am]);have aa:=run_callFunc_extern hf ac aj hn he #[.slice (some ⟨a,oa,none⟩) la ca,.slice (some ⟨b,ob,none⟩) lb cb] w;rw[ak]at aa;simp only[Result.andThen]at aa;simp only[execOp,an,resolve,ZY];simp[bN,ao,hx,hy,Deferred.ofValue,Result.andThen,invoke,aa]
theorem mh.sg{A:PH}{xs:List Value}(h:mh A e size v n xs)(hn:0<n):∃g cap cur,v=.slice (some ⟨g,0,none⟩) n cap/\A=Sx.sg g (.cells cur e (0,0))/\n<=cap/\cap<=maxLen/\cur.size=cap*size/\cur.toList.take (n*size)=xs:=by
 obtain⟨⟨hl,⟨_,e0⟩|⟨g,cap,cur,a,b,c,d,f,k'⟩⟩,hA⟩:=h
 ·omega
 ·refine⟨g,cap,cur,a,?_,c,d,f,k'⟩;funext b';by_cases eb:b'=g
  ·subst eb;rw[b,dL]
  ·rw[hA b' (by subst a;simp[iw];exact fun e=>eb e.symm)];simp[Sx.sg,eb]
def mh.of_sg{g cap:Nat}{xs:List Value}(hl:xs.length=n*size)(h1:n<=cap)(h2:cap<=maxLen)(h3:cur.size=cap*size)(h4:cur.toList.take (n*size)=xs):mh (Sx.sg g (.cells cur e (0,0))) e size (.slice (some ⟨g,0,none⟩) n cap) n xs:=
 ⟨⟨hl,.inr ⟨g,cap,cur,rfl,dL _ _,h1,h2,h3,h4⟩⟩,fun c hc=>by
  simp only[iw,ne_eq,ZW]at hc;simp[Sx.sg,Ne.symm hc]⟩
def oC(l cs:List Value)(off m:Nat)(h:off+cs.length<=m):(br l off cs).take m=br (l.take m) off cs:=by
 induction cs generalizing l off with
 |nil=>rfl
 |cons c cs ih=>
  simp only[aaj]at h;simp only[br];rw[ih _ _ ab,List.take_set]
end
end Go.Sx
