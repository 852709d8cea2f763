import Derived.Test.YtfaclfkpnmcmlaaGreatDoorJ02
import Derived.Lib.AppendZerosOnto
import Derived.Lib.Overlaps
import Derived.Laws.CopyRow
import Derived.Laws.AppendOwn
set_option maxHeartbeats 8000000
set_option linter.all false
namespace Go.Sx
open Go
def PH.no:PH:=fun _=>none
def PH.uni(A B:PH):PH:=fun b=>match A b with
 |some o=>some o
 |none=>B b
def PH.disj(A B:PH):Prop:=∀b,A b=none\/B b=none
variable{A B:PH}
def PH.disj.symm(h:A.disj B):B.disj A:=fun b=>(h b).symm
variable{b:Nat}
def PH.disj.left(h:A.disj B){o:Obj}(hb:A b=some o):B b=none:=by
 rcases h b with e|e
 .rw[e]at hb;cases hb
 .exact e
def PH.uni_no(A:PH):A.uni PH.no=A:=by funext b;simp only[PH.uni,PH.no];split<;>simp_all
def PH.uni_some {A B : PH} (h : A.disj B) {b : Nat} {o : Obj} : (A.uni B) b = some o ↔ A b = some o ∨ B b = some o := by
  unfold PH.uni
  cases hA : A b with
  | some x => simp only; constructor
              · exact .inl
              · rintro (e | e)
                · exact e
                · rw [h.left hA] at e; cases e
  | none => simp
def PH.uni_none:(A.uni B) b=none<->A b=none/\B b=none:=by unfold PH.uni;cases A b<;>simp
def PH.le_uni(A B:PH):A.le (A.uni B):=fun b o h=>by simp[PH.uni,h]
def PH.le_uni_r(h:A.disj B):B.le (A.uni B):=fun b o hb=>(PH.uni_some h).2 (.inr hb)
def PH.ext_some(h:∀b o,A b=some o<->B b=some o):A=B:=by
 funext b;cases a:A b with
 |some o=>exact((h b o).1 a).symm
 |none=>cases c:B b with
  |none=>rfl
  |some o=>rw[(h b o).2 c]at a;cases a
def U:List PH->PH
 | []=>PH.no
 |A::l=>A.uni (U l)
def Dj(l:List PH):Prop:=l.Pairwise PH.disj
def pB{l:List PH}:U l b=none<->∀A∈l,A b=none:=by
 induction l with
 |nil=>simp[U,PH.no]
 |cons A l a=>simp only[U,PH.uni_none,a,jY,forall_eq_or_imp]
def Dj.head{l:List PH}(h:Dj (A::l)):A.disj (U l):=fun b=>by
 cases c:A b with
 |none=>exact .inl rfl
 |some o=>exact .inr (pB.2 fun B a=>((List.pairwise_cons.1 h).1 B a).left c)
def Dj.tail{l:List PH}(h:Dj (A::l)):Dj l:=(List.pairwise_cons.1 h).2
def Dj.cons{l:List PH}(h:Dj l)(ha:A.disj (U l)):Dj (A::l):=
 List.pairwise_cons.2 ⟨fun B a b=>by
  rcases ha b with e|e
  .exact .inl e
  .exact .inr (pB.1 e B a),h⟩
def pD{l:List PH}(hd:Dj l){o:Obj}:U l b=some o<->∃A∈l,A b=some o:=by
 induction l with
 |nil=>simp[U,PH.no]
 |cons A l a=>simp only[U,PH.uni_some hd.head,a hd.tail,jY,exists_eq_or_imp]
variable{m:List PH}
def pC{l:List PH}(hp:l.Perm m)(hd:Dj l):U l=U m/\Dj m:=by have hm:Dj m:=(hp.pairwise_iff (fun{a b} h=>PH.disj.symm h)).1 hd;exact⟨PH.ext_some fun b o=>by rw[pD hd,pD hm];exact⟨fun⟨A,a,c⟩=>⟨A,hp.mem_iff.1 a,c⟩,fun⟨A,a,c⟩=>⟨A,hp.mem_iff.2 a,c⟩⟩,hm⟩
def uh(l m:List PH):U (l++m)=(U l).uni (U m):=by
 induction l with
 |nil=>funext b;simp[U,PH.no,PH.uni]
 |cons A l a=>rw[aN,U,U,a];funext b;simp only[PH.uni];cases A b<;>rfl
def qN{l:List PH}:Dj (l++m)<->Dj l/\Dj m/\(U l).disj (U m):=by
 unfold Dj;rw[List.pairwise_append];constructor
 .rintro⟨a,b,c⟩;refine⟨a,b,fun k=>?_⟩;cases h:U l k with
  |none=>exact .inl rfl
  |some o=>obtain⟨A,f,g⟩:=(pD a).1 h;exact .inr (pB.2 fun B d=>(c A f B d).left g)
 .rintro⟨a,b,c⟩;refine⟨a,b,fun A f B d k=>?_⟩;rcases c k with e|e
  .exact .inl (pB.1 e A f)
  .exact .inr (pB.1 e B d)
def s8{l:List PH}(hd:Dj l)(h:A∈l):A.le (U l):=fun b o hb=>(pD hd).2 ⟨A,h,hb⟩
def gw(l:List PH):List Nat->List PH
 | []=>[]
 |i::is=>l.getD i PH.no::gw l is
def yd{l:List PH}{is:List Nat}(h:is.isPerm (List.range l.length)=true):l.Perm (gw l is):=by
 have h2:=List.isPerm_iff.1 h;have e:∀is:List Nat,gw l is=is.map fun i=>l.getD i PH.no:=by
  intro is;induction is with
  |nil=>rfl
  |cons i is a=>simp[gw,a]
 rw[e];refine List.Perm.trans ?_ (h2.map _).symm;have:(List.range l.length).map (fun i=>l.getD i PH.no)=l:=by
  apply List.ext_getElem
  .simp
  .intro i h1 h2;simp at h1;simp[List.getD,aZ h1]
 rw[this]
variable{Φ:Value->PH->Prop}{args:Array Value}{f:FuncId}
def br.frame{P:Program}{F:PH}(hd:A.disj F)(h:br P f args A Φ):br P f args (A.uni F) fun v H2=>∃a,H2=a.uni F/\a.disj F/\Φ v a:=by
 intro w s;refine(h w (s.of_le (PH.le_uni A F))).mono fun e w2 j=>?_;cases e with
 |outgrown=>exact j
 |panicked c=>exact j
 |returned v=>
  obtain⟨a,st,hp⟩:=j;have d:∀b o,F b=some o->w.heap[b]?=some o/\A b=none:=fun b o hb=>⟨s _ _ ((PH.uni_some hd).2 (.inr hb)),hd.symm.left hb⟩;have g:a.disj F:=fun b=>by
   cases l:F b with
   |none=>exact .inr rfl
   |some o=>obtain⟨h1,h2⟩:=d b o l;exact .inl (st.dom b (mI h1) h2)
  refine⟨a.uni F,⟨fun b o hb=>?_,st.size,fun b hb i=>st.priv b hb (PH.uni_none.1 i).1,fun b hb i=>PH.uni_none.2 ⟨st.dom b hb (PH.uni_none.1 i).1,(PH.uni_none.1 i).2⟩,st.os,st.tape,st.out⟩,a,rfl,g,hp⟩;rcases(PH.uni_some g).1 hb with e|e
  .exact st.sub _ _ e
  .obtain⟨h1,h2⟩:=d b o e;rw[st.priv b (mI h1) h2];exact h1
def aT(P:Program)(f:FuncId)(args:Array Value)(I:PH)(ps:List PH)(Ψ:Value->PH->List PH->Prop):Prop:=
 Dj (I::ps)->br P f args (U (I::ps)) fun v H2=>∃a b,H2=U (a::b)/\Dj (a::b)/\I.le a/\Ψ v a b
variable{Ψ:Value->PH->List PH->Prop}{I:PH}
def aT.mono{P:Program}{ps:List PH}{Ψ':Value->PH->List PH->Prop}(h:aT P f args I ps Ψ)(k:∀v e g,I.le e->Ψ v e g->Ψ' v e g):aT P f args I ps Ψ':=
 fun hd=>(h hd).mono fun v H2 ⟨e,g,a,b,c,d⟩=>⟨e,g,a,b,c,k _ _ _ c d⟩
def br.toI{P:Program}(h:br P f args I fun v c=>I.le c/\Φ v c):aT P f args I [] fun v c d=>d=[]/\Φ v c:=by intro _;rw[show U [I]=I from PH.uni_no I];exact h.mono fun v H2 ⟨a,b⟩=>⟨H2,[],(PH.uni_no H2).symm,su _ _,a,rfl,b⟩
def aT.frame{P:Program}{ps F:List PH}(h:aT P f args I ps Ψ)(hd:Dj (I::ps++F)):
  br P f args (U (I::ps++F)) fun v H2=>∃g i,H2=U (g::i++F)/\Dj (g::i++F)/\I.le g/\Ψ v g i:=by
 obtain⟨m,l,j⟩:=qN.1 hd;rw[uh];refine((h m).frame j).mono fun v H2 ⟨n,e,dd,g,i,a,b,c,d⟩=>?_;subst a;exact⟨g,i,by rw[e,uh],qN.2 ⟨b,l,dd⟩,c,d⟩
section
variable {C:Cx} {P:Program} {k:List Item} {σ:St} {H:PH}
variable{Ψ:Value->PH->List PH->Prop}{ps F:List PH}{I:PH}{first cap:Array Value}{vs:List Value}{f:FuncId}{Z:Array TypeId}{aq:Array Operand}{x:Operand}{rem:List Oper}
def gj{ol:List Oper}{o:Oper}{l:List PH}(hd:Dj (I::l))(is:List Nat)(m:bH ol σ o=some true)(aa:o.op=.call ⟨.value x,aq,Z⟩)
  (j:ev σ x=.v (.func (.func f) first cap)) (ha:fU (ev σ) aq.toList=some vs) (q:ax C.P f) (hi:is.isPerm (List.range l.length)=true) (n:gw l is=ps++F) (h:aT C.P f (first++vs.toArray++cap) I ps Ψ)
  (p:∀v g i,Dj (g::i++F)->I.le g->Ψ v g i->RC C (.op ol rem k) (σ.put o.dst (.v v)) (U (g::i++F))):RC C (.op ol (o::rem) k) σ (U (I::l)):=by
 obtain⟨e,d⟩:=pC ((yd hi).cons I) hd;rw[n]at e d;rw[e];exact bC m aa j ha q (h.frame d) fun v H2 ⟨g,i,a,b,c,d⟩=>by subst a;exact p v g i b c d
def F2{ol:List Oper}{o:Oper}{l:List PH}(hd:Dj (I::l))(is:List Nat)(a:(bH ol σ o,o.op,ev σ x,fU (ev σ) aq.toList)=(some true,Op.call ⟨.value x,aq,Z⟩,SV.v (.func (.func f) first cap),some vs))(g:ax C.P f)(hi:is.isPerm (List.range l.length)=true)(d:gw l is=ps++F)(h:aT C.P f (first++vs.toArray++cap) I ps Ψ)
  (e:∀v b c,Dj (b::c++F)->I.le b->Ψ v b c->RC C (.op ol rem k) (σ.put o.dst (.v v)) (U (b::c++F))):RC C (.op ol (o::rem) k) σ (U (I::l)):=by
 simp only[ij]at a;exact gj hd is a.1 a.2.1 a.2.2.1 a.2.2.2 g hi d h e
def kN{ol:List Oper}{fr:cu}{str:cw}{i:Nat}{lo:List (Nat×Oper)}{o:Oper}{l:List PH}(hd:Dj (I::l))(is:List Nat)(hs:str.h.contains i=false)(n:str.j.contains i=true->fr.J.le I)(q:bH ol σ o=some true)(aa:o.op=.call ⟨.value x,aq,Z⟩)
  (p:ev σ x=.v (.func (.func f) first cap)) (ha:fU (ev σ) aq.toList=some vs) (w:ax C.P f) (hi:is.isPerm (List.range l.length)=true) (r:gw l is=ps++F) (h:aT C.P f (first++vs.toArray++cap) I ps Ψ)
  (s:∀v g m,Dj (g::m++F)->I.le g->Ψ v g m->RD C ol fr str lo k (σ.put o.dst (.v v)) (U (g::m++F))):RD C ol fr str ((i,o)::lo) k σ (U (I::l)):=by
 obtain⟨e,d⟩:=pC ((yd hi).cons I) hd;rw[r]at e d;rw[e];exact wy q aa p ha w (h.frame d) fun v H2 ⟨g,m,a,b,c,d⟩=>⟨⟨fun u=>Bool.noConfusion (hs.symm.trans u),fun t _=>by subst a;exact D (n t) (D c (s8 b (.head _)))⟩,by subst a;exact s v g m b c d⟩
def F6{ol:List Oper}{fr:cu}{str:cw}{i:Nat}{lo:List (Nat×Oper)}{o:Oper}{l:List PH}(hd:Dj (I::l))(is:List Nat)(hs:str.h.contains i=false)(d:str.j.contains i=true->fr.J.le I)(a:(bH ol σ o,o.op,ev σ x,fU (ev σ) aq.toList)=(some true,Op.call ⟨.value x,aq,Z⟩,SV.v (.func (.func f) first cap),some vs))(m:ax C.P f)(hi:is.isPerm (List.range l.length)=true)(e:gw l is=ps++F)(h:aT C.P f (first++vs.toArray++cap) I ps Ψ)
  (g:∀v b c,Dj (b::c++F)->I.le b->Ψ v b c->RD C ol fr str lo k (σ.put o.dst (.v v)) (U (b::c++F))):RD C ol fr str ((i,o)::lo) k σ (U (I::l)):=by
 simp only[ij]at a;exact kN hd is hs d a.1 a.2.1 a.2.2.1 a.2.2.2 m hi e h g
def az{r:List Value}{I2:PH}{qs:List PH}(a:C.post=fun v H2=>∃I2 qs,H2=U (I2::qs)/\Dj (I2::qs)/\I.le I2/\Ψ v I2 qs)(hd:Dj (I2::qs))(h:nN C.P σ C.fn.results.toList=some r)(b:I.le I2)(hp:Ψ (dS r) I2 qs):R C (.code .ret::k) σ (U (I2::qs)):=
 aU h (by rw[a];exact⟨I2,qs,rfl,hd,b,hp⟩)
end
def sg(b:Nat)(o:Obj):PH:=fun c=>if c=b then some o else none
def VA{b c:Nat}{o x:Obj}:sg b o c=some x<->c=b/\o=x:=by unfold sg;split<;>simp_all
def gT(b:Nat)(o:Obj):sg b o b=some o:=by simp[sg]
def U1{l:List PH}(hd:Dj l){b:Nat}{o:Obj}(h:U l b=none):(U l).put b o=U (sg b o::l)/\Dj (sg b o::l):=by
 constructor
 .funext c;simp only[PH.put,U,PH.uni,sg];split<;>simp
 .exact hd.cons fun c=>by
   by_cases e:c=b
   .subst e;exact .inr h
   .exact .inl (by simp[sg,e])
variable{I A:PH}
theorem freeze{l:List PH}(hd:Dj (I::A::l)):U (I::A::l)=U (I.uni A::l)/\Dj (I.uni A::l):=by
 constructor
 .funext c;simp only[U,PH.uni];cases I c<;>rfl
 .refine hd.tail.tail.cons fun c=>?_;rcases hd.head c with h1|h1
  .rcases hd.tail.head c with h2|h2
   .exact .inl (PH.uni_none.2 ⟨h1,h2⟩)
   .exact .inr h2
  .exact .inr (PH.uni_none.1 h1).2
def uB{l:List PH}(hd:Dj (I::l))(h:A∈l):I.disj A:=(List.pairwise_cons.1 hd).1 A h
def iH{l:List PH}(hd:Dj (I::l)):I.le (U (I::l)):=s8 hd (.head _)
def jn{l:List PH}(hd:Dj (I::A::l)):A.le (U (I::A::l)):=s8 hd (.tail _ (.head _))
def MR{ps:List PH}{H2:PH}(hd:Dj (I::ps))(a:(U (I::ps)).le H2):∃d,H2=U (d::ps)/\Dj (d::ps)/\I.le d:=by
 refine⟨fun b=>if (U ps b).isSome then none else H2 b,?_,hd.tail.cons fun b=>?_,fun b o hb=>?_⟩
 .funext b;simp only[U,PH.uni];cases c:U ps b with
  |none=>simp;cases H2 b<;>rfl
  |some o=>simp;exact a b o (PH.le_uni_r hd.head b o c)
 .cases c:U ps b with
  |none=>exact .inr rfl
  |some o=>exact .inl (by simp[c])
 .have:=hd.head.left hb;simp only[this,Option.isSome_none,dK,dD];exact a b o (PH.le_uni I _ b o hb)
open Go
variable{n size:Nat}{v:Value}{e:TypeId}
def gX.le{H:PH}{xs:List Value}(h:gX A e size v n xs)(d:A.le H):gX H e size v n xs:=by
 obtain⟨h1,h2|⟨g,cap,cur,a,b,c⟩⟩:=h
 .exact⟨h1,.inl h2⟩
 .exact⟨h1,.inr ⟨g,cap,cur,a,d _ _ b,c⟩⟩
theorem xO(g off n c:Nat):(Value.slice (some ⟨g,off,none⟩) n c).ownBlock=some g:=rfl
def dE(A:PH)(e:TypeId)(size:Nat)(v:Value)(n:Nat)(xs:List Value):Prop:=gX A e size v n xs/\∀b,v.ownBlock≠some b->A b=none
def dE.nil(e:TypeId)(size:Nat):dE PH.no e size (.slice none 0 0) 0 []:=⟨gX.nil _ e size,fun _ _=>rfl⟩
def dE.own_some{xs:List Value}(h:dE A e size v n xs){g:Nat}(d:v.ownBlock=some g):∃o,A g=some o:=by
 obtain⟨⟨h1,⟨h2,_⟩|⟨g',cap,cur,a,b,c⟩⟩,_⟩:=h
 .subst h2;cases d
 .subst a;cases d;exact⟨_,b⟩
def ER{l:List PH}{v':Value}{n':Nat}{xs xs':List Value}{H2:PH}(hd:Dj (I::A::l))(hr:dE A e size v n xs)(p:gX H2 e size v' n' xs')(z:qM v.ownBlock (U (I::A::l)) H2)
  (hf:v'.ownBlock=v.ownBlock\/∀g,v'.ownBlock=some g->U (I::A::l) g=none):∃m d,H2=U (m::d::l)/\Dj (m::d::l)/\I.le m/\dE d e size v' n' xs':=by
 have key:∃d:PH,dE d e size v' n' xs'/\d.le H2/\d.disj I/\d.disj (U l):=by
  obtain⟨h1,⟨h2,h3⟩|⟨g,cap,cur,a,b,c⟩⟩:=p
  .exact⟨PH.no,⟨⟨h1,.inl ⟨h2,h3⟩⟩,fun _ _=>rfl⟩,(fun b o h=>by cases h),(fun _=>.inl rfl),(fun _=>.inl rfl)⟩
  .subst a;have out:I g=none/\U l g=none:=by
    rcases hf with hf|hf
    .obtain⟨o,p⟩:=hr.own_some (hf.symm.trans (xO g 0 n' cap));exact⟨(uB hd (.head _)).symm.left p,hd.tail.head.left p⟩
    .have:=pB.1 (hf g rfl);exact⟨this I (.head _),pB.2 fun B f=>this B (.tail _ (.tail _ f))⟩
   have w:∀X:PH,X g=none->(sg g (.cells cur e (0,0))).disj X:=fun X hX c=>by
    by_cases u:c=g
    .subst u;exact .inr hX
    .exact .inl (by simp[sg,u])
   exact⟨sg g (.cells cur e (0,0)),⟨⟨h1,.inr ⟨g,cap,cur,rfl,gT _ _,c⟩⟩,fun b' hb=>by simp only[xO,ne_eq,a8]at hb;simp[sg,Ne.symm hb]⟩,fun b' o' hb=>by obtain⟨rfl,rfl⟩:=VA.1 hb;exact b,w I out.1,w _ out.2⟩
 obtain⟨d,y,q,J,G⟩:=key;have F:Dj (d::l):=hd.tail.tail.cons G;have x:Dj (I::d::l):=F.cons fun b=>by
  rcases J b with e1|e1
  .rcases hd.head b with e2|e2
   .exact .inl e2
   .exact .inr (PH.uni_none.2 ⟨e1,(PH.uni_none.1 e2).2⟩)
  .exact .inl e1
 have r:(U (I::d::l)).le H2:=by
  intro b o hb;obtain⟨B,f,j⟩:=(pD x).1 hb;have keep:∀B∈I::l,B b=some o->H2 b=some o:=by
   intro B f i;have s:B∈I::A::l:=by
    rcases List.mem_cons.1 f with rfl|h
    .exact .head _
    .exact .tail _ (.tail _ h)
   refine z b o (fun e=>?_) ((pD hd).2 ⟨B,s,i⟩);obtain⟨K,t⟩:=hr.own_some e.symm;rcases List.mem_cons.1 f with rfl|h
   .rw[(uB hd (.head _)).left i]at t;cases t
   .rw[(uB hd.tail h).left t]at i;cases i
  rcases List.mem_cons.1 f with rfl|f
  .exact keep _ (.head _) j
  .rcases List.mem_cons.1 f with rfl|f
   .exact q b o j
   .exact keep _ (.tail _ f) j
 obtain⟨m,a,b,c⟩:=MR x r;exact⟨m,d,a,b,c,y⟩
section
variable {C:Cx} {P:Program} {k:List Item} {σ:St} {H:PH}
variable{I A:PH}{news:List Value}{v:Value}{x y:Operand}{size bytes:Nat}{e:TypeId}{rem:List Oper}
def ni{ol:List Oper}{o:Oper}{t:TypeId}{n xb xo m c:Nat}{xs:List Value}{l:List PH}(hd:Dj (I::A::l))(ht:cL C.P t e size bytes)(d:dE A e size v n xs)(q:bH ol σ o=some true)(aa:o.op=.call ⟨.builtin .append,#[x,y],#[t,t]⟩)(p:ev σ x=.v v)(j:ev σ y=.v (.slice (some ⟨xb,xo,none⟩) m c))
  (r:aX (U (I::A::l)) xb xo news) (s:news.length=m*size) (h1:news.all one=true) (hb:(n+m)*bytes<=140737488355328) (i:n+m<=maxLen)
  (u:∀h f g,Dj (f::g::l)->I.le f->dE g e size h (n+m) (xs++news)->RC C (.op ol rem k) (σ.put o.dst (.v h)) (U (f::g::l))):RC C (.op ol (o::rem) k) σ (U (I::A::l)):=
 LX ht (d.1.le (jn hd)) q aa p j r s h1 hb i fun h H2 a b c=>by obtain⟨f,g,e1,e2,z,w⟩:=ER hd d a b c;subst e1;exact u h f g e2 z w
variable{i:Nat}
def wx{ol:List Oper}{fr:cu}{str:cw}{lo:List (Nat×Oper)}{o:Oper}{t:TypeId}{n xb xo m c:Nat}{xs:List Value}{l:List PH}(hd:Dj (I::A::l))(ht:cL C.P t e size bytes)(d:dE A e size v n xs)(hs:str.h.contains i=false)(q:str.j.contains i=false)(w:bH ol σ o=some true)(aa:o.op=.call ⟨.builtin .append,#[x,y],#[t,t]⟩)(u:ev σ x=.v v)(s:ev σ y=.v (.slice (some ⟨xb,xo,none⟩) m c))
  (z:aX (U (I::A::l)) xb xo news) (B:news.length=m*size) (h1:news.all one=true) (hb:(n+m)*bytes<=140737488355328) (r:n+m<=maxLen)
  (F:∀p f g,Dj (f::g::l)->I.le f->dE g e size p (n+m) (xs++news)->RD C ol fr str lo k (σ.put o.dst (.v p)) (U (f::g::l))):RD C ol fr str ((i,o)::lo) k σ (U (I::A::l)):=
 Mg ht (d.1.le (jn hd)) hs q w aa u s z B h1 hb r fun p H2 a b c=>by obtain⟨f,g,e1,e2,J,G⟩:=ER hd d a b c;subst e1;exact F p f g e2 J G
variable{b:Nat}
def EO{l:List PH}(hd:Dj (I::l)){o:Obj}(h:U (I::l) b=none):(U (I::l)).put b o=U (I.put b o::l)/\Dj (I.put b o::l)/\I.le (I.put b o)/\I.put b o b=some o:=by
 have hI:=pB.1 h;refine⟨?_,hd.tail.cons fun c=>?_,PH.le_put (hI I (.head _)),by simp[PH.put]⟩
 .funext c;simp only[PH.put,U,PH.uni];split<;>simp
 .by_cases e:c=b
  .subst e;exact .inr (pB.2 fun B d=>hI B (.tail _ d))
  .rcases hd.head c with a|a
   .exact .inl (by simp[PH.put,e,a])
   .exact .inr a
variable{ps:List (Nat×Value)}{parts:Array (Nat×Operand)}
def cH{ol:List Oper}{o:Oper}{t:TypeId}{len:Nat}{l:List PH}(hd:Dj (I::l))(ht:cL C.P t e size bytes)(f:bH ol σ o=some true)(aa:o.op=.buildSlice t len parts)(ha:iZ (ev σ) parts.toList=some ps)
  (hp:mP size 0 ps=true) (a:ps.length=len) (c:len*size<=16777216)
  (g:∀b d,Dj (d::l)->I.le d->d b=some (.cells (av ps).toArray e (0,0))->RC C (.op ol rem k) (σ.put o.dst (.v (.slice (some ⟨b,0,none⟩) len len))) (U (d::l))):RC C (.op ol (o::rem) k) σ (U (I::l)):=
 F1 ht f aa ha hp a c fun b hb=>by obtain⟨e1,e2,i,h⟩:=EO hd (o:=.cells (av ps).toArray e (0,0)) hb;rw[e1];exact g b _ e2 i h
def im{ol:List Oper}{fr:cu}{str:cw}{lo:List (Nat×Oper)}{o:Oper}{t:TypeId}{len:Nat}{l:List PH}(hd:Dj (I::l))(ht:cL C.P t e size bytes)(f:bH ol σ o=some true)(aa:o.op=.buildSlice t len parts)(ha:iZ (ev σ) parts.toList=some ps)
  (hp:mP size 0 ps=true) (a:ps.length=len) (c:len*size<=16777216)
  (g:∀b d,Dj (d::l)->I.le d->d b=some (.cells (av ps).toArray e (0,0))->RD C ol fr str lo k (σ.put o.dst (.v (.slice (some ⟨b,0,none⟩) len len))) (U (d::l))):RD C ol fr str ((i,o)::lo) k σ (U (I::l)):=
 Mh ht f aa ha hp a c fun b hb=>by obtain⟨e1,e2,j,h⟩:=EO hd (o:=.cells (av ps).toArray e (0,0)) hb;rw[e1];exact g b _ e2 j h
def tW{c:Cf}{l:List PH}(hd:Dj (I::l))(is:List Nat)(hi:is.isPerm (List.range l.length)=true)(h:Dj (I::gw l is)->RC C c σ (U (I::gw l is))):RC C c σ (U (I::l)):=by obtain⟨e,d⟩:=pC ((yd hi).cons I) hd;rw[e];exact h d
def Ml{ol:List Oper}{fr:cu}{str:cw}{lo:List (Nat×Oper)}{l:List PH}(hd:Dj (I::l))(is:List Nat)(hi:is.isPerm (List.range l.length)=true)(h:Dj (I::gw l is)->RD C ol fr str lo k σ (U (I::gw l is))):RD C ol fr str lo k σ (U (I::l)):=by obtain⟨e,d⟩:=pC ((yd hi).cons I) hd;rw[e];exact h d
def Z3:(∀{α:Type} (a:α) (s t:List α),a::s++t=a::(s++t))/\(∀{α:Type} (t:List α),[]++t=t)/\(∀{α:Type} (t:List α),t++[]=t):=⟨fun _ _ _=>rfl,fun _=>rfl,fun t=>Y t⟩
def Z4:(∀l:List PH,gw l []=[])/\(∀(l:List PH) i is,gw l (i::is)=l.getD i PH.no::gw l is)/\(∀(a:PH) l d,(a::l).getD 0 d=a)/\(∀(a:PH) l n d,(a::l).getD (n+1) d=l.getD n d):=⟨fun _=>rfl,fun _ _ _=>rfl,fun _ _ _=>yO,fun _ _ _ _=>yN⟩
def ti{l:List PH}{o o':Obj}(hd:Dj (I::sg b o::l)):(U (I::sg b o::l)).put b o'=U (I::sg b o'::l)/\Dj (I::sg b o'::l):=by
 have hI:I b=none:=(uB hd (.head _)).symm.left (gT b o);have d:=hd.tail.head.left (gT b o);constructor
 .funext c;simp only[PH.put,U,PH.uni,sg];by_cases e:c=b
  .subst e;simp[hI]
  .simp[e]
 .refine(hd.tail.tail.cons fun c=>?_).cons fun c=>?_
  .by_cases e:c=b
   .subst e;exact .inr d
   .exact .inl (by simp[sg,e])
  .by_cases e:c=b
   .subst e;exact .inl hI
   .rcases hd.head c with a|a
    .exact .inl a
    .exact .inr (PH.uni_none.2 ⟨by simp[sg,e],(PH.uni_none.1 a).2⟩)
variable{cs:List Value}{cells:Array Value}{ty:TypeId}
def kK{ol:List Oper}{o:Oper}{T:TypeId}{off:Nat}{l:List PH}(hd:Dj (I::sg b (.cells cells ty (0,0))::l))(e:bH ol σ o=some true)(aa:o.op=.store T x y)(d:ev σ x=.v (.pointer (some ⟨b,off,none⟩)))(c:ev σ y=.v v)
  (g:mB v=some cs) (hs:bD C.P T=some cs.length) (a:off+cs.length<=cells.size)
  (f:Dj (I::sg b (.cells (bL cells.toList off cs).toArray ty (0,0))::l)->RC C (.op ol rem k) (σ.put o.dst .u) (U (I::sg b (.cells (bL cells.toList off cs).toArray ty (0,0))::l))):RC C (.op ol (o::rem) k) σ (U (I::sg b (.cells cells ty (0,0))::l)):=by
 refine Ma (jn hd _ _ (gT _ _)) e aa d c g hs a ?_;obtain⟨e1,e2⟩:=ti (o':=.cells (bL cells.toList off cs).toArray ty (0,0)) hd;rw[e1];exact f e2
def cT{ol:List Oper}{fr:cu}{str:cw}{lo:List (Nat×Oper)}{o:Oper}{T:TypeId}{off:Nat}{l:List PH}(hd:Dj (I::sg b (.cells cells ty (0,0))::l))(a:gE str.k i=false)(f:bH ol σ o=some true)(aa:o.op=.store T x y)(e:ev σ x=.v (.pointer (some ⟨b,off,none⟩)))(d:ev σ y=.v v)
  (h:mB v=some cs) (hs:bD C.P T=some cs.length) (c:off+cs.length<=cells.size)
  (g:Dj (I::sg b (.cells (bL cells.toList off cs).toArray ty (0,0))::l)->RD C ol fr str lo k (σ.put o.dst .u) (U (I::sg b (.cells (bL cells.toList off cs).toArray ty (0,0))::l))):RD C ol fr str ((i,o)::lo) k σ (U (I::sg b (.cells cells ty (0,0))::l)):=by
 refine Mn (jn hd _ _ (gT _ _)) a f aa e d h hs c ?_;obtain⟨e1,e2⟩:=ti (o':=.cells (bL cells.toList off cs).toArray ty (0,0)) hd;rw[e1];exact g e2
def jv(P:Program)(A:PH)(r:Nat)(a:TypeId)(S:Value->Value->Prop):Prop:=∃o,A=sg r o/\eQ P A r a S
variable{S:Value->Value->Prop}{mt:TypeId}
def zb{ol:List Oper}{o:Oper}{kt et:TypeId}(K:Maps.Keyed C.P kt)(hm:C.P.underlying mt=some (.map kt et)){z:Operand}{r:Nat}{key:Value}{l:List PH}(hd:Dj (I::A::l))(f:bH ol σ o=some true)(aa:o.op=.mapUpdate mt x y z\/o.op=.insert mt x y z)
  (e:ev σ x=.v (.map (some r))) (d:ev σ y=.v key) (c:ev σ z=.v v) (h:jv C.P A r kt S) (g:fg C.P kt key)
  (i:∀b,Dj (I::b::l)->jv C.P b r kt (fun y u=>(y=key/\u=v)\/(y≠key/\S y u))->RC C (.op ol rem k) (σ.put o.dst .u) (U (I::b::l))):RC C (.op ol (o::rem) k) σ (U (I::A::l)):=by
 obtain⟨ob,rfl,j⟩:=h;refine Me K hm f aa e d c (j.le (jn hd)) g fun a h2=>?_;obtain⟨e1,e2⟩:=ti (o':=a) hd;rw[e1];exact i _ e2 ⟨a,rfl,h2.of_eq (by simp[gT,PH.put])⟩
def Ct{ol:List Oper}{fr:cu}{str:cw}{lo:List (Nat×Oper)}{o:Oper}{kt et:TypeId}(K:Maps.Keyed C.P kt)(hm:C.P.underlying mt=some (.map kt et)){z:Operand}{r:Nat}{key:Value}{l:List PH}(hd:Dj (I::A::l))(hs:str.h.contains i=false)(b:str.j.contains i=false)(g:bH ol σ o=some true)(aa:o.op=.mapUpdate mt x y z\/o.op=.insert mt x y z)
  (f:ev σ x=.v (.map (some r))) (e:ev σ y=.v key) (d:ev σ z=.v v) (h:jv C.P A r kt S) (m:fg C.P kt key)
  (n:∀c,Dj (I::c::l)->jv C.P c r kt (fun y u=>(y=key/\u=v)\/(y≠key/\S y u))->RD C ol fr str lo k (σ.put o.dst .u) (U (I::c::l))):RD C ol fr str ((i,o)::lo) k σ (U (I::A::l)):=by
 obtain⟨ob,rfl,p⟩:=h;refine Mq K hm hs b g aa f e d (p.le (jn hd)) m fun a h2=>?_;obtain⟨e1,e2⟩:=ti (o':=a) hd;rw[e1];exact n _ e2 ⟨a,rfl,h2.of_eq (by simp[gT,PH.put])⟩
def vu{l:List PH}(hd:Dj (I::l)){o:Obj}(h:U (I::l) b=none):(U (I::l)).put b o=U (I::sg b o::l)/\Dj (I::sg b o::l):=by obtain⟨e1,e2⟩:=U1 hd (o:=o) h;obtain⟨c,a⟩:=pC (List.Perm.swap I (sg b o) l) e2;exact⟨e1.trans c,a⟩
def Cq{ol:List Oper}{o:Oper}{l:List PH}(a:TypeId)(hd:Dj (I::l))(b:bH ol σ o=some true)(aa:o.op=.makeMap mt none)
  (c:∀r A,Dj (I::A::l)->jv C.P A r a (fun _ _=>False)->RC C (.op ol rem k) (σ.put o.dst (.v (.map (some r)))) (U (I::A::l))):RC C (.op ol (o::rem) k) σ (U (I::l)):=
 L6 b aa fun r hr=>by obtain⟨e1,e2⟩:=vu hd (o:=.map #[] 0) hr;rw[e1];exact c r _ e2 ⟨_,rfl,eQ.empty (gT _ _)⟩
def Cs{ol:List Oper}{fr:cu}{str:cw}{lo:List (Nat×Oper)}{o:Oper}{l:List PH}(a:TypeId)(hd:Dj (I::l))(b:bH ol σ o=some true)(aa:o.op=.makeMap mt none)
  (c:∀r A,Dj (I::A::l)->jv C.P A r a (fun _ _=>False)->RD C ol fr str lo k (σ.put o.dst (.v (.map (some r)))) (U (I::A::l))):RD C ol fr str ((i,o)::lo) k σ (U (I::l)):=
 Mj b aa fun r hr=>by obtain⟨e1,e2⟩:=vu hd (o:=.map #[] 0) hr;rw[e1];exact c r _ e2 ⟨_,rfl,eQ.empty (gT _ _)⟩
def MB(key:Nat){B:cK}{l:List PH}(hd:Dj (I::l))(a:eJ σ.bx key=some B)(h:∀b,Dj (I::sg b (.cells B.cs.toArray B.ty (0,0))::l)->R C k ⟨σ.tm.map (iN key b),d8 σ.bx key⟩ (U (I::sg b (.cells B.cs.toArray B.ty (0,0))::l))):R C k σ (U (I::l)):=
 MA key a fun b hb=>by obtain⟨e1,e2⟩:=vu hd (o:=.cells B.cs.toArray B.ty (0,0)) hb;rw[e1];exact h b e2
end
open Go
variable{off:Nat}{A:PH}{ps:List PH}
theorem cellsU{b:Nat}{l:List Value}(hd:Dj ps)(a:A∈ps)(h:aX A b off l):aX (U ps) b off l:=h.le (s8 hd a)
variable{fz:Nat×Nat}{ty:TypeId}{cs:Array Value}
def dt{b:Nat}{l:List Value}(h1:off+l.length<=cs.size)(h2:(cs.toList.drop off).take l.length=l):aX (sg b (.cells cs ty fz)) b off l:=
 ⟨cs,ty,fz,gT _ _,h1,h2⟩
def bz{b:Nat}{l:List Value}(h:A b=some (.cells cs ty fz))(h1:off+l.length<=cs.size)(h2:(cs.toList.drop off).take l.length=l):aX A b off l:=
 ⟨cs,ty,fz,h,h1,h2⟩
variable{S:Value->Value->Prop}{kt:TypeId}
def jv.atU{P:Program}{r:Nat}(h:jv P A r kt S)(hd:Dj ps)(a:A∈ps):eQ P (U ps) r kt S:=by obtain⟨o,e,m⟩:=h;exact m.le (s8 hd a)
def jv.congr{P:Program}{r:Nat}{S':Value->Value->Prop}(h:jv P A r kt S)(hs:∀y u,S' y u<->S y u):jv P A r kt S':=by obtain⟨o,e,m⟩:=h;exact⟨o,e,m.congr hs⟩
variable{v:Value}{size:Nat}{e:TypeId}
def dE.xs{n n':Nat}{xs xs':List Value}(h:dE A e size v n xs)(b:n=n')(a:xs=xs'):dE A e size v n' xs':=by subst b;subst a;exact h
def dE.slice{n:Nat}{xs:List Value}(h:dE A e size v n xs):∃a c,v=.slice a n c:=by
 obtain⟨⟨_,⟨a,b⟩|⟨g,cap,cur,a,_⟩⟩,_⟩:=h
 .subst b;exact⟨_,_,a⟩
 .exact⟨_,_,a⟩
def MU{I:PH}{l:List PH}(hd:Dj (I::l)):U (I::l)=U (I::PH.no::l)/\Dj (I::PH.no::l):=by
 constructor
 .funext c;simp only[U,PH.uni,PH.no]
 .refine(hd.tail.cons fun b=>.inl rfl).cons fun b=>?_;rcases hd.head b with h|h
  .exact .inl h
  .exact .inr (PH.uni_none.2 ⟨rfl,h⟩)
section
variable {C:Cx} {k:List Item} {σ:St}
variable{I:PH}
def dg{c:Cf}{l:List PH}(hd:Dj (I::l))(h:Dj (I::PH.no::l)->RC C c σ (U (I::PH.no::l))):RC C c σ (U (I::l)):=by obtain⟨e,d⟩:=MU hd;rw[e];exact h d
def jL(key:Nat){B:cK}{l:List PH}(hd:Dj (I::l))(a:eJ σ.bx key=some B)(h:∀b,Dj (I::sg b (.cells B.cs.toArray B.ty (0,0))::l)->RC C (.st k) ⟨σ.tm.map (iN key b),d8 σ.bx key⟩ (U (I::sg b (.cells B.cs.toArray B.ty (0,0))::l))):RC C (.st k) σ (U (I::l)):=MB key hd a h
def aH{c:Cf}{A:PH}{l:List PH}(hd:Dj (I::A::l))(h:∀a,Dj (a::l)->I.le a->A.le a->RC C c σ (U (a::l))):RC C c σ (U (I::A::l)):=by obtain⟨e,d⟩:=freeze hd;rw[e];exact h _ d (PH.le_uni I A) (PH.le_uni_r (uB hd (.head _)))
end
open Go
attribute [go_sem] undef fN g7 wG un kb lS gE
attribute [go_sem] Bool.false_and Bool.and_false bH jI MH MG pv x4
attribute [go_sem] Bj Bl x0 Bk qw mK fU iZ
attribute [go_sem] As zI tg AC zO zC BP ev
attribute [go_sem] jA gS St.put St.newBox St.store dX d8 eJ
attribute [go_sem] kF bL dh List.map_cons List.map_nil jP mW mB
attribute [go_sem] one l6 zG ou EH exitTo rI Value.cells
attribute [go_sem] List.toList_toArray List.cons_append List.nil_append List.replicate List.length_cons List.length_nil ite_true ite_false
attribute [go_sem] if_true if_false Option.map_some Option.map_none true_and and_true List.drop_zero List.drop_succ_cons
attribute [go_sem] List.take_succ_cons List.take_zero List.getElem?_cons_zero List.getElem?_cons_succ List.set_cons_zero List.set_cons_succ List.all_cons List.all_nil
attribute [go_sem] Bool.and_self Bool.true_and Bool.and_true beq_self_eq_true Array.toList List.size_toArray Nat.zero_add Nat.add_zero
attribute [go_sem] and_self beq_true beq_false Bool.not_true Bool.not_false Int.toNat_natCast decide_true decide_false
attribute [go_sem] pick uF nN iN gE rW jz Nat.sub_zero
attribute [go_sem] Int.cast_ofNat_Int
attribute [go_sem] Nat.reduceAdd Nat.reduceSub Nat.reduceLT Nat.reduceLeDiff Nat.reduceEqDiff Nat.reduceBEq Nat.reduceMul reduceIte
attribute [go_sem] reduceCtorEq Int.reduceToNat Int.reduceLE Int.reduceLT Int.reduceBEq Int.reduceBNe Int.reduceEq
def ai{C:Cx}{σ:St}{H:PH}{c:Cf}{Q:Prop}(h:Q)(e:aw C H (fN C.P 500 c σ [])=Q:=by simp only[go_sem];rfl):RC C c σ H:=jK 500 (e.mpr h)
def d6{C:Cx}{k:List Item}{σ:St}{H:PH}{ol:List Oper}{fr:cu}{str:cw}{l:List (Nat×Oper)}{Q:Prop}(h:Q)(e:pw C ol fr str k H (g7 C.P ol fr.k str.k fr.kp l σ [])=Q:=by simp only[go_sem];rfl):RD C ol fr str l k σ H:=bd (e.mpr h)
def jH(C:Cx)(c:Cf)(σ:St)(H:PH)(Q:Prop):Prop:=aw C H (fN C.P 500 c σ [])=Q
def tP(C:Cx)(ol:List Oper)(fr:cu)(str:cw)(l:List (Nat×Oper))(k:List Item)(σ:St)(H:PH)(Q:Prop):Prop:=pw C ol fr str k H (g7 C.P ol fr.k str.k fr.kp l σ [])=Q
section
variable {C:Cx} {σ:St} {H:PH} {c:Cf} {k:List Item} {ol:List Oper} {fr:cu} {str:cw} {l:List (Nat×Oper)} {Q p q r s t o:Prop}
def dq(x:p)(h:Q)(e:p->jH C c σ H Q:=by intro x;simp only[jH,go_sem,x];rfl):RC C c σ H:=jK 500 ((e x).mpr h)
def lI(x:p)(y:q)(h:Q)(e:p->q->jH C c σ H Q:=by intro x y;simp only[jH,go_sem,x,y];rfl):RC C c σ H:=jK 500 ((e x y).mpr h)
end
variable{L:List PH}{I:PH}
def aj{C:Cx}{σ:St}{c:Cf}{l:List PH}(hd:Dj (I::l))(is:List Nat)(h:Dj L->RC C c σ (U L))(hi:is.isPerm (List.range l.length)=true:=by rfl)(e:I::gw l is=L:=by simp only[Z4];rfl):RC C c σ (U (I::l)):=tW hd is hi (e▸h)
def iV{C:Cx}{k:List Item}{σ:St}{ol:List Oper}{fr:cu}{str:cw}{lo:List (Nat×Oper)}{l:List PH}(hd:Dj (I::l))(is:List Nat)(h:Dj L->RD C ol fr str lo k σ (U L))(hi:is.isPerm (List.range l.length)=true:=by rfl)(e:I::gw l is=L:=by simp only[Z4];rfl):RD C ol fr str lo k σ (U (I::l)):=Ml hd is hi (e▸h)
variable{Ψ:Value->PH->List PH->Prop}{first cap:Array Value}{vs:List Value}{f:FuncId}{Z:Array TypeId}{aq:Array Operand}{x:Operand}{rem:List Oper}
def fF{C:Cx}{k:List Item}{σ:St}{ol:List Oper}{o:Oper}(hd:Dj [I])(g:(bH ol σ o,o.op,ev σ x,fU (ev σ) aq.toList)=(some true,Op.call ⟨.value x,aq,Z⟩,SV.v (.func (.func f) first cap),some vs))(j:ax C.P f)(h:aT C.P f (first++vs.toArray++cap) I [] Ψ)
  (i:∀v a b,Dj (a::b)->I.le a->Ψ v a b->RC C (.op ol rem k) (σ.put o.dst (.v v)) (U (a::b))):RC C (.op ol (o::rem) k) σ (U [I]):=
 F2 (F:=[]) hd [] g j rfl rfl h fun v a b d e hp=>by rw[Y]at d |-;exact i v a b d e hp
def au{C:Cx}{k:List Item}{σ:St}{ol:List Oper}{o:Oper}{l:List PH}(hd:Dj (I::l))(is:List Nat)(ps F:List PH)(d:(bH ol σ o,o.op,ev σ x,fU (ev σ) aq.toList)=(some true,Op.call ⟨.value x,aq,Z⟩,SV.v (.func (.func f) first cap),some vs))(i:ax C.P f)(e:gw l is=ps++F)(h:aT C.P f (first++vs.toArray++cap) I ps Ψ)
  (g:∀v a b,Dj (a::b++F)->I.le a->Ψ v a b->RC C (.op ol rem k) (σ.put o.dst (.v v)) (U (a::b++F))) (hi:is.isPerm (List.range l.length)=true:=by rfl):RC C (.op ol (o::rem) k) σ (U (I::l)):=F2 hd is d i hi e h g
def eY{C:Cx}{k:List Item}{σ:St}{ol:List Oper}{fr:cu}{str:cw}{i:Nat}{lo:List (Nat×Oper)}{o:Oper}(hd:Dj [I])(m:(bH ol σ o,o.op,ev σ x,fU (ev σ) aq.toList)=(some true,Op.call ⟨.value x,aq,Z⟩,SV.v (.func (.func f) first cap),some vs))(u:ax C.P f)(h:aT C.P f (first++vs.toArray++cap) I [] Ψ)
  (n:∀v a b,Dj (a::b)->I.le a->Ψ v a b->RD C ol fr str lo k (σ.put o.dst (.v v)) (U (a::b))) (hs:str.h.contains i=false:=by exact rfl) (e:str.j.contains i=true->fr.J.le I:=by exact fun h=>by cases h):RD C ol fr str ((i,o)::lo) k σ (U [I]):=
 F6 (F:=[]) hd [] hs e m u rfl rfl h fun v a b d g hp=>by rw[Y]at d |-;exact n v a b d g hp
def cE{C:Cx}{k:List Item}{σ:St}{ol:List Oper}{fr:cu}{str:cw}{i:Nat}{lo:List (Nat×Oper)}{o:Oper}{l:List PH}(hd:Dj (I::l))(is:List Nat)(ps F:List PH)(e:(bH ol σ o,o.op,ev σ x,fU (ev σ) aq.toList)=(some true,Op.call ⟨.value x,aq,Z⟩,SV.v (.func (.func f) first cap),some vs))(n:ax C.P f)(g:gw l is=ps++F)(h:aT C.P f (first++vs.toArray++cap) I ps Ψ)
  (m:∀v a b,Dj (a::b++F)->I.le a->Ψ v a b->RD C ol fr str lo k (σ.put o.dst (.v v)) (U (a::b++F))) (hi:is.isPerm (List.range l.length)=true:=by rfl) (hs:str.h.contains i=false:=by exact rfl) (d:str.j.contains i=true->fr.J.le I:=by exact fun h=>by cases h):RD C ol fr str ((i,o)::lo) k σ (U (I::l)):=F6 hd is hs d e n hi g h m
open Go
attribute [go_sem] sp iO kC
section
variable {C:Cx} {k:List Item} {σ:St} {H:PH}
def bY{α:Type}{c:Code}(μ:α->Nat)(S:α->St)(Q:α->PH->Prop)(a0:α)(hs:iO (S a0).tm σ.tm)(hb:kC (S a0).bx σ.bx)(e:Q a0 H)
  (h:∀a H,Q a H->(∀b d H',μ b<μ a->iO (S b).tm d.tm->kC (S b).bx d.bx->Q b H'->RC C (.st (.inLoop c::k)) d H')->RC C (.st (.code c::.inLoop c::k)) (S a) H) :
  RC C (.st (.code (.loop c)::k)) σ H:=by
 refine zh hs hb ?_;refine My (fun n σ H=>∃a,σ=S a/\μ a=n/\Q a H) (μ a0) ⟨a0,rfl,rfl,e⟩ ?_;rintro n σ H ⟨a,rfl,rfl,e⟩ g;exact h a H e fun b d H' f h1 h2 h3=>zh h1 h2 (g _ f _ _ ⟨b,rfl,rfl,h3⟩)
def gI{σ':St}(ht:iO σ'.tm σ.tm)(hb:kC σ'.bx σ.bx)(h:RC C (.st k) σ' H):RC C (.st k) σ H:=zh ht hb h
def Ho{size:Nat}:∀{ps:List (Nat×Value)} {j:Nat},mP size j ps=true->(av ps).length=ps.length*size
 | [],_,_=>by simp[av]
 |(i,v)::l,j,h=>by simp only[mP,cX,dA]at h;have:=Ho h.2;simp only[av,aE,h.1.2,this,bm];rw[ig];omega
variable{size:Nat}{e:TypeId}
def x7{len b:Nat}{xs:List Value}(h:xs.length=len*size)(d:len<=maxLen):dE (sg b (.cells xs.toArray e (0,0))) e size (.slice (some ⟨b,0,none⟩) len len) len xs:=
 ⟨⟨h,.inr ⟨b,len,xs.toArray,rfl,gT _ _,aR _,d,by simpa using h,by rw[<-h];simp⟩⟩,fun c a=>by simp only[xO,ne_eq,a8]at a;simp[sg,Ne.symm a]⟩
def sJ{ol rem:List Oper}{o:Oper}{t:TypeId}{len bytes:Nat}{parts:Array (Nat×Operand)}{ps:List (Nat×Value)}{I:PH}{l:List PH}(hd:Dj (I::l))(ht:cL C.P t e size bytes)(d:bH ol σ o=some true)(aa:o.op=.buildSlice t len parts)(ha:iZ (ev σ) parts.toList=some ps)
  (hp:mP size 0 ps=true) (a:ps.length=len) (c:len*size<=16777216)
  (f:∀b A,Dj (I::A::l)->dE A e size (.slice (some ⟨b,0,none⟩) len len) len (av ps)->RC C (.op ol rem k) (σ.put o.dst (.v (.slice (some ⟨b,0,none⟩) len len))) (U (I::A::l))):RC C (.op ol (o::rem) k) σ (U (I::l)):=
 F1 ht d aa ha hp a c fun b hb=>by obtain⟨e1,e2⟩:=vu hd (o:=.cells (av ps).toArray e (0,0)) hb;rw[e1];refine f b _ e2 (x7 (by rw[Ho hp,a]) ?_);obtain⟨_,_,_,_,_,_,_,_,g⟩:=ht;have:len*1<=len*size:=Nat.mul_le_mul_left _ g;unfold maxLen;omega
theorem dE.cellsU{ps:List PH}{A:PH}{v:Value}{n:Nat}{xs:List Value}(hd:Dj ps)(d:A∈ps)(h:dE A e size v n xs)(c:0<n):∃g cap,v=.slice (some ⟨g,0,none⟩) n cap/\aX (U ps) g 0 xs:=by obtain⟨g,cap,a,b⟩:=h.1.cells c;exact⟨g,cap,a,b.le (s8 hd d)⟩
end
open Go
def zJ{H:PH}{b off:Nat}{l:List Value}(h:aX H b off l){w:World}(s:Sub H w):∀j v,l[j]?=some v->w.cell? ((⟨b,off,none⟩:Addr).add j)=some v:=by
 obtain⟨cs,ty,c,h1,h2,h3⟩:=h;intro j v a;have hb:=s _ _ h1;rw[show cs=cs.toList.toArray from by simp]at hb;rw[nq,wP hb];rw[<-h3]at a;rw[Cc]at a;split at a
 .rw[yR]at a;exact a
 .cases a
section
variable {C:Cx} {P:Program} {k:List Item} {σ:St} {H:PH}
variable{ys:List Value}{cur:Array Value}{dLen dCap b sLen sCap:Nat}{i:TypeInfo}{dT sT e:TypeId}
def Oi{ty:TypeId}(x:P.underlying dT=some (.slice e))(hi:P.info? e=some i){g o so:Nat}
  (l:H g=some (.cells cur e (0,0))) (u:aX H b so ys) (y:ys.length=min sLen dLen*i.size) (f:o+ys.length<=cur.size) (h1:ys.all one=true) (w:World) (j:Sub H w) :
  ∃w2,(Builtin.copy_ #[dT,sT] ty #[.slice (some ⟨g,o,none⟩) dLen dCap,.slice (some ⟨b,so,none⟩) sLen sCap]).run P w=.ok (.int .i64 (min sLen dLen:Nat)) w2/\cM H w (H.put g (.cells (bL cur.toList o ys).toArray e (0,0))) w2:=by
 have hf:=run_firstCells_some (P:=P) (w:=w) i.size (min sLen dLen) ⟨b,so,none⟩ sLen sCap ys y (zJ u j);have d:=j _ _ l;rw[show cur=cur.toList.toArray from by simp]at d;obtain⟨w2,t,s,n,z,r,q,p⟩:=x9 (P:=P) g e ys 0 o cur.toList w d (by simpa using f) fun v hv=>List.all_eq_true.1 h1 v hv;refine⟨w2,?_,?_⟩
 .simp[Builtin.copy_,eV x,Result.andThen,Builtin.lenOf,sizeOf,typeInfo,program,Sem.run,hi,goInt];rw[show Nat.min sLen dLen=min sLen dLen from rfl,hf];simp[t,Nat.min_def]
 .refine⟨fun c o' h=>?_,O,fun c m a=>n c (fun e=>by subst e;rw[l]at a;cases a),fun c m a=>?_,r,q,p⟩
  .by_cases e:c=g
   .subst e;simp only[PH.put,co]at h;cases h;simpa using s
   .simp only[PH.put,ab e]at h;rw[n c e];exact j _ _ h
  .have:c≠g:=fun e=>by subst e;rw[l]at a;cases a
   simp[PH.put,this,a]
variable{off:Nat}{x y:Operand}
def KH{o:Oper}(j:P.underlying dT=some (.slice e))(hi:P.info? e=some i){g so:Nat}(aa:o.op=.call ⟨.builtin .copy,#[x,y],#[dT,sT]⟩)
  (f:ev σ x=.v (.slice (some ⟨g,off,none⟩) dLen dCap)) (d:ev σ y=.v (.slice (some ⟨b,so,none⟩) sLen sCap)) (m:H g=some (.cells cur e (0,0))) (n:aX H b so ys) (l:ys.length=min sLen dLen*i.size) (c:off+ys.length<=cur.size) (h1:ys.all one=true) :
  bQ σ o.op=true/\eD P (execOp (bf σ) o) H fun sv H2=>sv=.v (.int .i64 (min sLen dLen:Nat))/\H2=H.put g (.cells (bL cur.toList off ys).toArray e (0,0)):=by
 constructor
 .simp[bQ,aa,fB,Op.operands,Call.operands,f,d,fO]
 .intro w h;obtain⟨w2,a,st⟩:=Oi (sT:=sT) (ty:=o.type) (dCap:=dCap) (sCap:=sCap) j hi m n l c h1 w h;have:(execOp (bf σ) o).run P w=.ok (.value (.int .i64 (min sLen dLen:Nat))) w2:=by simp[execOp,aa,resolve,bf,f,d,invoke,builtin,Result.andThen,a]
  rw[this];exact⟨_,st,rfl,rfl⟩
variable{I:PH}{rem:List Oper}
def F3{ol:List Oper}{o:Oper}{g so:Nat}{l:List PH}(hd:Dj (I::sg g (.cells cur e (0,0))::l))(m:C.P.underlying dT=some (.slice e))(hi:C.P.info? e=some i)(j:bH ol σ o=some true)(aa:o.op=.call ⟨.builtin .copy,#[x,y],#[dT,sT]⟩)
  (h:ev σ x=.v (.slice (some ⟨g,off,none⟩) dLen dCap)) (f:ev σ y=.v (.slice (some ⟨b,so,none⟩) sLen sCap)) (q:aX (U (I::sg g (.cells cur e (0,0))::l)) b so ys) (n:ys.length=min sLen dLen*i.size) (d:off+ys.length<=cur.size) (h1:ys.all one=true)
  (p:Dj (I::sg g (.cells (bL cur.toList off ys).toArray e (0,0))::l)->RC C (.op ol rem k) (σ.put o.dst (.v (.int .i64 (min sLen dLen:Nat)))) (U (I::sg g (.cells (bL cur.toList off ys).toArray e (0,0))::l))):RC C (.op ol (o::rem) k) σ (U (I::sg g (.cells cur e (0,0))::l)):=by
 obtain⟨a,c⟩:=KH (σ:=σ) m hi aa h f (jn hd _ _ (gT _ _)) q n d h1;refine jw j a (c.mono fun sv H2 ⟨e1,e2⟩=>?_);subst e1;subst e2;obtain⟨e1,e2⟩:=ti (o':=.cells (bL cur.toList off ys).toArray e (0,0)) hd;rw[e1];exact p e2
def F7{ol:List Oper}{fr:cu}{str:cw}{j:Nat}{lo:List (Nat×Oper)}{o:Oper}{g so:Nat}{l:List PH}(hd:Dj (I::sg g (.cells cur e (0,0))::l))(q:C.P.underlying dT=some (.slice e))(hi:C.P.info? e=some i)(hs:str.h.contains j=false)(f:str.j.contains j=false)(p:bH ol σ o=some true)(aa:o.op=.call ⟨.builtin .copy,#[x,y],#[dT,sT]⟩)
  (n:ev σ x=.v (.slice (some ⟨g,off,none⟩) dLen dCap)) (m:ev σ y=.v (.slice (some ⟨b,so,none⟩) sLen sCap)) (t:aX (U (I::sg g (.cells cur e (0,0))::l)) b so ys) (r:ys.length=min sLen dLen*i.size) (d:off+ys.length<=cur.size) (h1:ys.all one=true)
  (s:Dj (I::sg g (.cells (bL cur.toList off ys).toArray e (0,0))::l)->RD C ol fr str lo k (σ.put o.dst (.v (.int .i64 (min sLen dLen:Nat)))) (U (I::sg g (.cells (bL cur.toList off ys).toArray e (0,0))::l))):RD C ol fr str ((j,o)::lo) k σ (U (I::sg g (.cells cur e (0,0))::l)):=by
 obtain⟨a,c⟩:=KH (σ:=σ) q hi aa n m (jn hd _ _ (gT _ _)) t r d h1;refine t8 p a (by rw[aa];rfl) (c.mono fun sv H2 ⟨e1,e2⟩=>⟨kI.non hs f,?_⟩);subst e1;subst e2;obtain⟨e1,e2⟩:=ti (o':=.cells (bL cur.toList off ys).toArray e (0,0)) hd;rw[e1];exact s e2
variable{w:World}{n:Nat}
def Ng{t t' ty e':TypeId}{jy:Option Addr}{c:Nat}{x:Value}(h:P.underlying t=some (.slice e))(a:P.underlying t'=some (.slice e')):(Builtin.append_ #[t,t'] ty #[.slice jy n c,x]).run P w=(Builtin.append_ #[t,t] ty #[.slice jy n c,x]).run P w:=by simp[Builtin.append_,eV h,eV a,Result.andThen]
variable{news:List Value}{v:Value}{size bytes:Nat}
def V0{o:Oper}{t t' e':TypeId}{xb xo m c:Nat}{xs:List Value}(ht:cL P t e size bytes)(h:P.underlying t'=some (.slice e'))(aa:o.op=.call ⟨.builtin .append,#[x,y],#[t,t']⟩)(B:ev σ x=.v v)(A:ev σ y=.v (.slice (some ⟨xb,xo,none⟩) m c))
  (b:gX H e size v n xs) (J:aX H xb xo news) (K:news.length=m*size) (h1:news.all one=true) (hb:(n+m)*bytes<=140737488355328) (p:n+m<=maxLen) :
  bQ σ o.op=true/\eD P (execOp (bf σ) o) H fun sv H2=>∃d,sv=.v d/\gX H2 e size d (n+m) (xs++news)/\qM v.ownBlock H H2/\(d.ownBlock=v.ownBlock\/∀g,d.ownBlock=some g->H g=none):=by
 constructor
 .simp[bQ,aa,fB,Op.operands,Call.operands,B,A,fO]
 .intro w G;obtain⟨d,F,H2,a,st,f,l,j⟩:=GC (ty:=o.type) (c:=c) ht b J K (fun u I=>List.all_eq_true.1 h1 u I) hb p w G;obtain⟨i,z,L,_⟩:=ht;obtain⟨s,r,vc,rfl⟩:∃s r vc,v=.slice s r vc:=by
   rcases b.2 with ⟨q,_⟩|⟨g,cap,cur,q,_⟩
   .exact⟨_,_,_,q⟩
   .exact⟨_,_,_,q⟩
  rw[<-Ng L h]at a;have:(execOp (bf σ) o).run P w=.ok (.value d) F:=by simp[execOp,aa,resolve,bf,B,A,invoke,builtin,Result.andThen,a]
  rw[this];exact⟨H2,st,d,rfl,f,l,j⟩
def LZ{ol:List Oper}{o:Oper}{t t' e':TypeId}{xb xo m c:Nat}{xs:List Value}{A:PH}{l:List PH}(hd:Dj (I::A::l))(ht:cL C.P t e size bytes)(i:C.P.underlying t'=some (.slice e'))(d:dE A e size v n xs)(r:bH ol σ o=some true)(aa:o.op=.call ⟨.builtin .append,#[x,y],#[t,t']⟩)(q:ev σ x=.v v)(p:ev σ y=.v (.slice (some ⟨xb,xo,none⟩) m c))
  (s:aX (U (I::A::l)) xb xo news) (u:news.length=m*size) (h1:news.all one=true) (hb:(n+m)*bytes<=140737488355328) (j:n+m<=maxLen)
  (w:∀h f g,Dj (f::g::l)->I.le f->dE g e size h (n+m) (xs++news)->RC C (.op ol rem k) (σ.put o.dst (.v h)) (U (f::g::l))):RC C (.op ol (o::rem) k) σ (U (I::A::l)):=by
 obtain⟨a,b⟩:=V0 (σ:=σ) ht i aa q p (d.1.le (jn hd)) s u h1 hb j;refine jw r a (b.mono fun sv H2 ⟨h,e1,e2,J,G⟩=>?_);subst e1;obtain⟨f,g,e1,F,B,z⟩:=ER hd d e2 J G;subst e1;exact w h f g F B z
variable{tn:TypeId}
def Dp{o:Oper}{t:TypeId}{vx vy:Value}{w':World}(aa:o.op=.call ⟨.builtin .append,#[x,y],#[t,tn]⟩)(b:ev σ x=.v vx)(a:ev σ y=.v vy)(hr:(Builtin.append_ #[t,tn] o.type #[vx,vy]).run P w=.ok v w'):
  (execOp (bf σ) o).run P w=.ok (.value v) w':=by
 simp[execOp,aa,resolve,bf,b,a,invoke,builtin,Result.andThen,hr]
def cM.newD{H:PH}(s:Sub H w)(o:Obj):H w.heap.size=none/\cM H w (H.put w.heap.size o) (w.drew.alloc o):=by obtain⟨a,b⟩:=cM.new s o;exact⟨a,b.sub,b.size,b.priv,b.dom,rfl,rfl,rfl⟩
variable{olds:List Value}
def V3{o:Oper}{t:TypeId}{kq kn:IntKind}(ht:cL P t e size bytes)(j:P.underlying tn=some (.int kn)){m:Nat}(aa:o.op=.call ⟨.builtin .append,#[x,y],#[t,tn]⟩)
  (r:ev σ x=.v (.slice (some ⟨b,off,none⟩) sLen sCap)) (q:ev σ y=.v (.int kq m)) (I:aX H b off olds) (G:olds.length=sLen*size) (h0:0<m) (u:sCap<sLen+m) (f:sLen+m<=maxLen) (hb:(sLen+m)*bytes<=140737488355328) :
  bQ σ o.op=true/\eD P (execOp (bf σ) o) H fun sv H2=>∃g cap zs,H g=none/\zs.length=(cap-sLen)*size/\sLen+m<=cap/\cap<=maxLen/\sv=.v (.slice (some ⟨g,0,none⟩) (sLen+m) cap)/\H2=H.put g (.cells (olds++zs).toArray e (0,0)):=by
 constructor
 .simp[bQ,aa,fB,Op.operands,Call.operands,r,q,fO]
 .intro w s;obtain⟨i,z,L,a2,a3,a4,a5,K,J⟩:=ht;subst a4;subst a5;have d:=run_firstCells_some (P:=P) (w:=w.drew) i.size sLen ⟨b,off,none⟩ sLen sCap olds G (zJ I (w:=w.drew) s);have h:sLen+m<=9223372036854775807:=by simp only[maxLen]at f;omega
  have hm:m*i.bytes<=(sLen+m)*i.bytes:=ch _ O;have c:=Lib.run_append_grow_zeros (P:=P) w t tn o.type e i z kq kn L j a2 a3 (some ⟨b,off,none⟩) sLen sCap olds d m h0 J u O O (growslice_fits u hb);have p:=grownCap_ge w (sLen+m) sCap e;have l:=grownCap_le_maxLen w (sLen+m) sCap e f;have F:∀n,(Builtin.zeroCells z.cells n).size=n*i.size:=by intro n;rw[size_zeroCells,K]
  have a:(execOp (bf σ) o).run P w=.ok (.value (.slice (some ⟨w.heap.size,0,none⟩) (sLen+m) (grownCap w (sLen+m) sCap e))) (w.drew.alloc (.cells (olds.toArray++Builtin.zeroCells z.cells m++Builtin.zeroCells z.cells (grownCap w (sLen+m) sCap e-(sLen+m))) e)):=by exact Dp aa r q c
  rw[a];obtain⟨B,A⟩:=cM.newD s (.cells (olds.toArray++Builtin.zeroCells z.cells m++Builtin.zeroCells z.cells (grownCap w (sLen+m) sCap e-(sLen+m))) e (0,0));refine⟨_,A,w.heap.size,grownCap w (sLen+m) sCap e,(Builtin.zeroCells z.cells m++Builtin.zeroCells z.cells (grownCap w (sLen+m) sCap e-(sLen+m))).toList,B,?_,p,l,rfl,?_⟩
  .simp only[n8,Array.size_append,F,<-ig];congr 1;omega
  .congr 2;rw[<-mY];simp
def L0{ol:List Oper}{o:Oper}{t:TypeId}{kq kn:IntKind}{m:Nat}{l:List PH}(hd:Dj (I::l))(ht:cL C.P t e size bytes)(d:C.P.underlying tn=some (.int kn))(p:bH ol σ o=some true)(aa:o.op=.call ⟨.builtin .append,#[x,y],#[t,tn]⟩)
  (n:ev σ x=.v (.slice (some ⟨b,off,none⟩) sLen sCap)) (j:ev σ y=.v (.int kq m)) (u:aX (U (I::l)) b off olds) (q:olds.length=sLen*size) (h0:0<m) (s:sCap<sLen+m) (f:sLen+m<=maxLen) (hb:(sLen+m)*bytes<=140737488355328)
  (r:∀g cap zs,zs.length=(cap-sLen)*size->sLen+m<=cap->cap<=maxLen->Dj (I::sg g (.cells (olds++zs).toArray e (0,0))::l)->RC C (.op ol rem k) (σ.put o.dst (.v (.slice (some ⟨g,0,none⟩) (sLen+m) cap))) (U (I::sg g (.cells (olds++zs).toArray e (0,0))::l))):RC C (.op ol (o::rem) k) σ (U (I::l)):=by
 obtain⟨a,c⟩:=V3 (σ:=σ) ht d aa n j u q h0 s f hb;refine jw p a (c.mono fun sv H2 ⟨g,cap,zs,e1,e2,z,w,i,h⟩=>?_);subst i;subst h;obtain⟨i,h⟩:=vu hd (o:=.cells (olds++zs).toArray e (0,0)) e1;rw[i];exact r g cap zs e2 z w h
def L8 {ol:List Oper} {o:Oper}  {f:FuncId} {fn:Func} {t tR:TypeId} {Z:Array TypeId}  {a la ca lb cb oa ob:Nat} {cA cB:Array Value} {tA tB:TypeId} (ht:cL C.P t e size bytes) (hf:C.P.funcs[f]?=some fn) (d:(fn.name == "runtime.NumGoroutine")=false) (g:fn.body.isNone=true) (B:Extern.findNext fn=none) (G:Extern.find fn=some (Extern.SlicesOverlaps.overlaps #[t,t] #[tR]))
  (A:bH ol σ o=some true) (aa:o.op=.call ⟨.value (.func f),#[x,y],Z⟩) (r:ev σ x=.v (.slice (some ⟨a,oa,none⟩) la ca)) (q:ev σ y=.v (.slice (some ⟨b,ob,none⟩) lb cb)) (J:H a=some (.cells cA tA (0,0))) (I:H b=some (.cells cB tB (0,0))) (m:a≠b) (n:cB.size≠0)
  (F:RC C (.op ol rem k) (σ.put o.dst (.v (.bool false))) H):RC C (.op ol (o::rem) k) σ H:=by
 have l:ev σ (.func f)=.v (.func (.func f) #[] #[]):=rfl;refine tX (.bool false) A ?_ (fun w s=>?_) F
 .simp[bQ,aa,fB,Op.operands,Call.operands,r,q,fO,l]
 .obtain⟨i,z,K,a2,a3,a4,a5,N,L⟩:=ht;have h:=s _ _ J;have p:=s _ _ I;have u:∀w,(Go.sizeOf e).run C.P w=.ok size w:=fun w=>by simp[sizeOf,typeInfo,program,Sem.run,a2,a4]
  have j:=Lib.run_overlaps_apart (P:=C.P) w t tR e K size u ⟨a,oa,none⟩ ⟨b,ob,none⟩ la ca lb cb m tA tB cA.size cB.size (by simp[World.shape?,h]) (by simp[World.shape?,p]) n (by simp[World.frozen?,h]) (by simp[World.frozen?,h]);have c:=run_callFunc_extern hf d g B G #[.slice (some ⟨a,oa,none⟩) la ca,.slice (some ⟨b,ob,none⟩) lb cb] w;rw[j]at c;simp only[Result.andThen]at c;simp only[execOp,aa,resolve,eI];simp[bf,l,r,q,Deferred.ofValue,Result.andThen,invoke,c]
theorem dE.sg{A:PH}{xs:List Value}(h:dE A e size v n xs)(l:0<n):∃g cap cur,v=.slice (some ⟨g,0,none⟩) n cap/\A=Sx.sg g (.cells cur e (0,0))/\n<=cap/\cap<=maxLen/\cur.size=cap*size/\cur.toList.take (n*size)=xs:=by
 obtain⟨⟨m,⟨_,o⟩|⟨g,cap,cur,a,b,c,d,f,k'⟩⟩,j⟩:=h
 .omega
 .refine⟨g,cap,cur,a,?_,c,d,f,k'⟩;funext b';by_cases i:b'=g
  .subst i;rw[b,gT]
  .rw[j b' (by subst a;simp[xO];exact fun e=>i e.symm)];simp[Sx.sg,i]
def dE.of_sg{g cap:Nat}{xs:List Value}(b:xs.length=n*size)(h1:n<=cap)(h2:cap<=maxLen)(h3:cur.size=cap*size)(h4:cur.toList.take (n*size)=xs):dE (Sx.sg g (.cells cur e (0,0))) e size (.slice (some ⟨g,0,none⟩) n cap) n xs:=
 ⟨⟨b,.inr ⟨g,cap,cur,rfl,gT _ _,h1,h2,h3,h4⟩⟩,fun c a=>by simp only[xO,ne_eq,a8]at a;simp[Sx.sg,Ne.symm a]⟩
def Br(l cs:List Value)(off m:Nat)(h:off+cs.length<=m):(bL l off cs).take m=bL (l.take m) off cs:=by
 induction cs generalizing l off with
 |nil=>rfl
 |cons c cs a=>simp only[bm]at h;simp only[bL];rw[a _ _ O,List.take_set]
end
end Go.Sx
