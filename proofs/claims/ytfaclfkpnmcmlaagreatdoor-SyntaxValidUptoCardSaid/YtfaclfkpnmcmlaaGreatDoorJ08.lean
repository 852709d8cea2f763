import Derived.Test.YtfaclfkpnmcmlaaGreatDoorJ06
import Derived.Test.YtfaclfkpnmcmlaaGreatDoorJ07
set_option maxHeartbeats 8000000
set_option linter.all false
namespace Syn
open Dg
structure SO{K:Type}(lt:K->K->Bool):Prop where
 irr:∀a,lt a a=false
 tr:∀a b c,lt a b=true->lt b c=true->lt a c=true
 tri:∀a b,lt a b=false->lt b a=false->a=b
section
variable {K:Type} {lt:K->K->Bool}
def mT(lt:K->K->Bool)(k:K):List K->List K
 | []=>[k]
 |x::l=>if lt k x then k::x::l else if lt x k then x::mT lt k l else x::l
def nO(lt:K->K->Bool)(l:List K):List K:=l.foldr (mT lt) []
def EV(so:SO lt){k x:K}:∀{l:List K},x∈mT lt k l<->x=k\/x∈l
 | []=>by simp[mT]
 |y::l=>by
  simp only[mT];split
  .simp
  .split
   .rw[jY,EV so,jY];constructor
    .rintro(h|h|h)
     .exact .inr (.inl h)
     .exact .inl h
     .exact .inr (.inr h)
    .rintro(h|h|h)
     .exact .inr (.inl h)
     .exact .inl h
     .exact .inr (.inr h)
   .rename_i h1 h2;have:=so.tri k y (by simpa using h1) (by simpa using h2);subst this;simp
def Km(so:SO lt){k:K}:∀{l:List K},l.Pairwise (fun a b=>lt a b=true)->(mT lt k l).Pairwise (fun a b=>lt a b=true)
 | [],_=>by simp[mT]
 |y::l,h=>by
  rw[mh]at h;simp only[mT];split
  .rename_i h1;refine List.pairwise_cons.2 ⟨fun z c=>?_,List.pairwise_cons.2 h⟩;rcases List.mem_cons.1 c with e|e
   .subst e;exact h1
   .exact so.tr _ _ _ h1 (h.1 z e)
  .split
   .rename_i h1 h2;refine List.pairwise_cons.2 ⟨fun z c=>?_,Km so h.2⟩;rcases(EV so).1 c with e|e
    .subst e;exact h2
    .exact h.1 z e
   .exact List.pairwise_cons.2 h
def vB(so:SO lt){x:K}:∀{l:List K},x∈nO lt l<->x∈l
 | []=>Iff.rfl
 |y::l=>by show x∈mT lt y (nO lt l)<->_;rw[EV so,vB so,jY]
def oW(so:SO lt):∀(l:List K),(nO lt l).Pairwise (fun a b=>lt a b=true)
 | []=>List.Pairwise.nil
 |_::l=>Km so (oW so l)
def yj(so:SO lt):∀{l m:List K},l.Pairwise (fun a b=>lt a b=true)->m.Pairwise (fun a b=>lt a b=true)->(∀x,x∈l<->x∈m)->l=m
 | [],[],_,_,_=>rfl
 | [],y::m,_,_,h=>absurd ((h y).2 (.head _)) dH
 |x::l,[],_,_,h=>absurd ((h x).1 (.head _)) dH
 |x::l,y::m,h1,h2,h=>by
  rw[mh]at h1 h2;have e:x=y:=by
   rcases List.mem_cons.1 ((h x).1 (.head _))with e|e
   .exact e
   .rcases List.mem_cons.1 ((h y).2 (.head _))with e2|e2
    .exact e2.symm
    .have:=so.tr _ _ _ (h1.1 y e2) (h2.1 x e);rw[so.irr]at this;cases this
  subst e;congr 1;refine yj so h1.2 h2.2 fun z=>?_;constructor
  .intro c;rcases List.mem_cons.1 ((h z).1 (.tail _ c))with e|e
   .subst e;have:=h1.1 z c;rw[so.irr]at this;cases this
   .exact e
  .intro c;rcases List.mem_cons.1 ((h z).2 (.tail _ c))with e|e
   .subst e;have:=h2.1 z c;rw[so.irr]at this;cases this
   .exact e
end
structure eP where
 slot:Int
 tok:Int
 kind:Nat
 text:al
deriving DecidableEq
def M.key(n:M):eP:=⟨n.slot,n.tok,n.kind,n.text⟩
def iT:al->al->Bool
 |_,[]=>false
 | [],_::_=>true
 |a::l,b::m=>if a.toNat<b.toNat then true else if b.toNat<a.toNat then false else iT l m
def yE:SO iT where
 irr:=by
  intro a
  induction a with
  |nil=>rfl
  |cons x a d=>simp[iT,d]
 tr:=by
  intro a
  induction a with
  |nil=>
   intro b c h1 h2;cases c with
   |nil=>cases b<;>simp[iT]at h2
   |cons z c=>rfl
  |cons x a d=>
   intro b c h1 h2;cases b with
   |nil=>simp[iT]at h1
   |cons y b=>
    cases c with
    |nil=>simp[iT]at h2
    |cons z c=>
     simp only[iT]at h1 h2 |-;by_cases e1:x.toNat<y.toNat
     .by_cases e2:y.toNat<z.toNat
      .rw[ag O]
      .rw[ab e2]at h2;by_cases e:z.toNat<y.toNat
       .rw[ag e]at h2;cases h2
       .rw[ag O]
     .rw[ab e1]at h1;by_cases f:y.toNat<x.toNat
      .rw[ag f]at h1;cases h1
      .rw[ab f]at h1;by_cases e2:y.toNat<z.toNat
       .rw[ag O]
       .rw[ab e2]at h2;by_cases e:z.toNat<y.toNat
        .rw[ag e]at h2;cases h2
        .rw[ab e]at h2;rw[ab O,ab O];exact d b c h1 h2
 tri:=by
  intro a
  induction a with
  |nil=>
   intro b h1 h2;cases b with
   |nil=>rfl
   |cons y b=>simp[iT]at h1
  |cons x a d=>
   intro b h1 h2;cases b with
   |nil=>simp[iT]at h2
   |cons y b=>
    simp only[iT]at h1 h2;by_cases e1:x.toNat<y.toNat
    .rw[ag e1]at h1;cases h1
    .by_cases e2:y.toNat<x.toNat
     .rw[ag e2]at h2;cases h2
     .rw[ab e1,ab e2]at h1;rw[ab e2,ab e1]at h2;have:x=y:=UInt8.toNat_inj.1 O;rw[this,d b h1 h2]
def jU(a b:eP):Bool:=
 if a.slot<b.slot then true else if b.slot<a.slot then false else
 if a.tok<b.tok then true else if b.tok<a.tok then false else
 if a.kind<b.kind then true else if b.kind<a.kind then false else iT a.text b.text
def mH:SO jU where
 irr:=by intro a;simp[jU,yE.irr]
 tr:=by
  intro a b c;unfold jU;have ht:=yE.tr a.text b.text c.text;intro h1 h2;by_cases s:a.slot<c.slot
  .rw[ag s]
  .rw[ab s];by_cases i:a.slot<b.slot
   .by_cases a2:b.slot<c.slot
    .omega
    .rw[ab a2,ag (show c.slot<b.slot by omega)]at h2;cases h2
   .rw[ab i]at h1;by_cases a2:b.slot<a.slot
    .rw[ag a2]at h1;cases h1
    .rw[ab a2]at h1;by_cases a3:b.slot<c.slot
     .omega
     .rw[ab a3]at h2;by_cases a4:c.slot<b.slot
      .rw[ag a4]at h2;cases h2
      .rw[ab a4]at h2;rw[ab (show ¬c.slot<a.slot by omega)];by_cases t:a.tok<c.tok
       .rw[ag t]
       .rw[ab t];by_cases g:a.tok<b.tok
        .by_cases d:b.tok<c.tok
         .omega
         .rw[ab d,ag (show c.tok<b.tok by omega)]at h2;cases h2
        .rw[ab g]at h1;by_cases d:b.tok<a.tok
         .rw[ag d]at h1;cases h1
         .rw[ab d]at h1;by_cases f:b.tok<c.tok
          .omega
          .rw[ab f]at h2;by_cases e:c.tok<b.tok
           .rw[ag e]at h2;cases h2
           .rw[ab e]at h2;rw[ab (show ¬c.tok<a.tok by omega)];by_cases k:a.kind<c.kind
            .rw[ag k]
            .rw[ab k];by_cases c1:a.kind<b.kind
             .by_cases c2:b.kind<c.kind
              .omega
              .rw[ab c2,ag (show c.kind<b.kind by omega)]at h2;cases h2
             .rw[ab c1]at h1;by_cases c2:b.kind<a.kind
              .rw[ag c2]at h1;cases h1
              .rw[ab c2]at h1;by_cases c3:b.kind<c.kind
               .omega
               .rw[ab c3]at h2;by_cases c4:c.kind<b.kind
                .rw[ag c4]at h2;cases h2
                .rw[ab c4]at h2;rw[ab (show ¬c.kind<a.kind by omega)];exact ht h1 h2
 tri:=by
  intro a b h1 h2;unfold jU at h1 h2;have s:a.slot=b.slot:=by
   rcases Int.lt_trichotomy a.slot b.slot with h|h|h
   .rw[ag h]at h1;cases h1
   .exact h
   .rw[ag h]at h2;cases h2
  rw[ab O,ab O]at h1 h2;have t:a.tok=b.tok:=by
   rcases Int.lt_trichotomy a.tok b.tok with h|h|h
   .rw[ag h]at h1;cases h1
   .exact h
   .rw[ag h]at h2;cases h2
  rw[ab O,ab O]at h1 h2;have k:a.kind=b.kind:=by
   rcases sx a.kind b.kind with h|h|h
   .rw[ag h]at h1;cases h1
   .exact h
   .rw[ag h]at h2;cases h2
  rw[ab O,ab O]at h1 h2;have x:=yE.tri _ _ h1 h2;cases a;cases b;simp_all
def gD(a b:Int×Nat):Bool:=if a.1<b.1 then true else if b.1<a.1 then false else decide (a.2<b.2)
def jR:SO gD where
 irr:=by intro a;simp[gD]
 tr:=by
  intro a b c;unfold gD;intro h1 h2;by_cases s:a.1<c.1
  .rw[ag s]
  .rw[ab s];by_cases d:a.1<b.1
   .rw[ab (show ¬b.1<c.1 by omega),ag (show c.1<b.1 by omega)]at h2;cases h2
   .rw[ab d]at h1;by_cases a2:b.1<a.1
    .rw[ag a2]at h1;cases h1
    .rw[ab a2]at h1;rw[ab (show ¬b.1<c.1 by omega)]at h2;by_cases a4:c.1<b.1
     .rw[ag a4]at h2;cases h2
     .rw[ab a4]at h2;rw[ab (show ¬c.1<a.1 by omega)];simp only[dA]at *;omega
 tri:=by
  intro a b h1 h2;unfold gD at h1 h2;have s:a.1=b.1:=by
   rcases Int.lt_trichotomy a.1 b.1 with h|h|h
   .rw[ag h]at h1;cases h1
   .exact h
   .rw[ag h]at h2;cases h2
  rw[ab O,ab O]at h1 h2;simp only[Ce]at h1 h2;exact Prod.ext s O
def dG(k:eP)(n:M):Bool:=decide (n.key=k) && decide (n.cond≠ff)
def ks(l:List M):List eP:=nO jU ((l.filter fun n=>decide (n.cond≠ff)).map M.key)
def en(l:List M)(k:eP):List M:=(l.filter (dG k)).flatMap (·.kids)
def iC(l:List M)(k:eP):T:=(l.filter (dG k)).foldl (fun d n=>d.or n.cond) ff
def cO:Nat->List M->List M
 |0,_=>[]
 |d+1,l=>(ks l).map fun k=>⟨k.kind,k.text,k.tok,k.slot,cO d (en l k),iC l k⟩
mutual
def mD:M->Nat
 |⟨_,_,_,_,ks,_⟩=>cG ks+1
def cG:List M->Nat
 | []=>0
 |n::l=>max (mD n) (cG l)
end
def pJ(n:M):mD n=cG n.kids+1:=by cases n;rfl
def ry{n:M}:∀{l:List M},n∈l->mD n<=cG l
 | [],h=>(dH h).elim
 |m::l,h=>by
  simp only[cG];rcases List.mem_cons.1 h with e|e
  .subst e;omega
  .have:=ry e;omega
def G9{b:Nat}:∀{l:List M},(∀n∈l,mD n<=b)->cG l<=b
 | [],_=>aF _
 |m::l,h=>by have h1:=h m (.head _);have h2:=G9 fun n a=>h n (.tail _ a);simp only[cG];omega
variable{k:eP}{l:List M}
def uT{x:M}(h:x∈en l k):∃n∈l,n.key=k/\n.cond≠ff/\x∈n.kids:=by obtain⟨n,b,a⟩:=List.mem_flatMap.1 h;obtain⟨h1,h2⟩:=List.mem_filter.1 b;simp only[dG,cX,dA]at h2;exact⟨n,h1,h2.1,h2.2,a⟩
def Ha{d:Nat}(h:cG l<=d+1):cG (en l k)<=d:=G9 fun x a=>by obtain⟨n,b,_,_,a⟩:=uT a;have h1:=ry b;rw[pJ]at h1;have h2:=ry a;omega
def Ej(h:cG l=0):l=[]:=by
 cases l with
 |nil=>rfl
 |cons n l=>simp only[cG,pJ]at h;omega
def xz(d:Nat):cO d []=[]:=by cases d<;>rfl
def AH:∀{d e:Nat} {l:List M},cG l<=d->d<=e->cO e l=cO d l
 |0,e,l,h,_=>by rw[Ej (Nat.le_zero.1 h),xz,xz]
 |d+1,0,l,h,h2=>by omega
 |d+1,e+1,l,h,h2=>by simp only[cO];refine m0 fun k _=>?_;rw[AH (Ha h) O]
def te:k∈ks l<->∃n∈l,n.key=k/\n.cond≠ff:=by
 unfold ks;rw[vB mH];simp only[mg,jZ,dA];constructor
 .rintro⟨n,⟨h1,h2⟩,h3⟩;exact⟨n,h1,h3,h2⟩
 .rintro⟨n,h1,h3,h2⟩;exact⟨n,⟨h1,h2⟩,h3⟩
def np(a b:T):Prop:=∀c,a.at' c=true->b.at' c=true
mutual
def wN:M->Prop
 |⟨_,_,_,_,ks,d⟩=>wL d ks
def wL:T->List M->Prop
 |_,[]=>True
 |d,n::l=>(np n.cond d/\wN n)/\wL d l
end
def BU{d:T}:wL d l<->∀n∈l,np n.cond d/\wN n:=by
 induction l with
 |nil=>simp[wL]
 |cons n l a=>simp[wL,a]
def FM(n:M):wN n<->wL n.cond n.kids:=by cases n;rfl
def DA{c:aD}:∀{l:List M} {z:T},z.ok 0->(∀n∈l,n.cond.ok 0)->(l.foldl (fun d n=>d.or n.cond) z).ok 0/\(l.foldl (fun d n=>d.or n.cond) z).at' c=(z.at' c || l.any fun n=>n.cond.at' c)
 | [],z,a,_=>⟨a,by simp⟩
 |n::l,z,a,h=>by have b:=h n (.head _);have:=DA (c:=c) (l:=l) (z:=z.or n.cond) (T.or_ok a b) fun m hm=>h m (.tail _ hm);refine⟨this.1,?_⟩;simp only[gW,List.any_cons];rw[this.2,T.or_at a b,Bool.or_assoc]
def Of(h:cz l):(iC l k).ok 0:=(DA (c:=fun _=>false) (z:=ff) trivial fun n a=>(jd.1 (jV.1 h n (List.mem_filter.1 a).1)).1).1
variable{c:aD}
def zN(h:cz l):(iC l k).at' c=true<->∃n∈l,n.key=k/\n.cond.at' c=true:=by
 have h1:=(DA (c:=c) (l:=l.filter (dG k)) (z:=ff) trivial fun n a=>(jd.1 (jV.1 h n (List.mem_filter.1 a).1)).1).2;unfold iC;rw[h1,CA,me,List.any_eq_true];simp only[jZ,dG,cX,dA];constructor
 .rintro⟨n,⟨h1,h2,_⟩,h3⟩;exact⟨n,h1,h2,h3⟩
 .rintro⟨n,h1,h2,h3⟩;exact⟨n,⟨h1,h2,fun e=>by rw[e]at h3;cases h3⟩,h3⟩
def kX{c:aD}{m:M}:∀{l:List M},m∈pL c l<->∃n∈l,n.cond.at' c=true/\m={ n with kids:=pL c n.kids,cond:=tt }
 | []=>by simp[pL]
 |n::l=>by
  rw[eF];split
  .rename_i h;simp only[jY,kX (l:=l)];constructor
   .rintro(e|⟨x,h1,h2,h3⟩)
    .exact⟨n,.inl rfl,h,e⟩
    .exact⟨x,.inr h1,h2,h3⟩
   .rintro⟨x,e|h1,h2,h3⟩
    .subst e;exact .inl h3
    .exact .inr ⟨x,h1,h2,h3⟩
  .rename_i h;simp only[kX (l:=l),jY];constructor
   .rintro⟨x,h1,h2,h3⟩;exact⟨x,.inr h1,h2,h3⟩
   .rintro⟨x,e|h1,h2,h3⟩
    .subst e;exact absurd h2 h
    .exact⟨x,h1,h2,h3⟩
def FA:tt≠ff:=by decide
def ve{c:aD}:∀{l:List M},(∀n∈l,n.cond.at' c=false)->pL c l=[]
 | [],_=>rfl
 |n::l,h=>by rw[eF,h n (.head _),ab af,ve fun m hm=>h m (.tail _ hm)]
def SL(f:∀n∈l,wN n):pL c (en l k)=en (pL c l) k:=by
 unfold en
 induction l with
 |nil=>rfl
 |cons n l g=>
  have h:=(FM n).1 (f n (.head _));have h2:=g fun m hm=>f m (.tail _ hm);rw[eF];by_cases a:n.cond.at' c=true
  .rw[ag a];have d:n.cond≠ff:=fun e=>by rw[e]at a;cases a
   by_cases b:n.key=k
   .have e1:dG k n=true:=by simp[dG,b,d]
    have e2:dG k { n with kids:=pL c n.kids,cond:=tt }=true:=by have:M.key { n with kids:=pL c n.kids,cond:=tt }=n.key:=rfl;simp[dG,this,b,FA]
    rw[List.filter_cons_of_pos e1,List.filter_cons_of_pos e2,pf,pf,gQ,h2]
   .have e1:¬dG k n=true:=by simp[dG,b]
    have e2:¬dG k { n with kids:=pL c n.kids,cond:=tt }=true:=by have:M.key { n with kids:=pL c n.kids,cond:=tt }=n.key:=rfl;simp[dG,this,b]
    rw[List.filter_cons_of_neg e1,List.filter_cons_of_neg e2,h2]
  .rw[ab a];by_cases e1:dG k n=true
   .rw[List.filter_cons_of_pos e1,pf,gQ,h2,ve,aM];intro m hm;cases e:m.cond.at' c with
    |false=>rfl
    |true=>exact absurd ((BU.1 h m hm).1 c e) a
   .rw[List.filter_cons_of_neg e1,h2]
def Hm{K:Type}{R:K->K->Prop}{p:K->Bool}{l:List K}(h:l.Pairwise R):(l.filter p).Pairwise R:=h.sublist List.filter_sublist
def IK(a:cz l):(ks l).filter (fun k=>(iC l k).at' c)=ks (pL c l):=by
 refine yj mH (Hm (oW mH _)) (oW mH _) fun k=>?_;rw[jZ,zN a,te,te];constructor
 .rintro⟨_,n,h1,h2,h3⟩;exact⟨_,kX.2 ⟨n,h1,h3,rfl⟩,h2,FA⟩
 .rintro⟨m,h1,h2,h3⟩;obtain⟨n,h4,h5,e⟩:=kX.1 h1;have h6:n.key=k:=by rw[<-h2,e];rfl
  exact⟨⟨n,h4,h6,fun e=>by rw[e]at h5;cases h5⟩,n,h4,h6,h5⟩
def xG(h:cz l):cz (en l k):=jV.2 fun x a=>by obtain⟨n,b,_,_,a⟩:=uT a;exact jV.1 (jd.1 (jV.1 h n b)).2 x a
def Og(g:cz l)(h:(iC l k).at' c=true):iC (pL c l) k=tt:=by
 have key:∀(m:List M),(∀n∈m,n.cond=tt)->∀z:T,(z=tt\/m≠[])->(z=tt\/z=ff)->m.foldl (fun d n=>d.or n.cond) z=tt:=by
  intro m
  induction m with
  |nil=>intro _ z h _;exact h.resolve_right fun h=>h rfl
  |cons n m a=>
   intro hm z _ b;simp only[gW];have e:z.or n.cond=tt:=by rw[hm n (.head _)];rcases b with e|e<;>subst e<;>rfl
   exact a (fun x f=>hm x (.tail _ f)) _ (.inl e) (.inl e)
 obtain⟨n,h1,h2,h3⟩:=(zN g).1 h;refine key _ (fun m hm=>?_) ff (.inr fun e=>?_) (.inr rfl)
 .obtain⟨x,_,_,e⟩:=kX.1 (List.mem_filter.1 hm).1;rw[e]
 .have:({ n with kids:=pL c n.kids,cond:=tt }:M)∈(pL c l).filter (dG k):=List.mem_filter.2 ⟨kX.2 ⟨n,h1,h3,rfl⟩,by have:M.key { n with kids:=pL c n.kids,cond:=tt }=n.key:=rfl;simp[dG,this,h2,FA]⟩
  rw[e]at this;exact dH this
def JS{α:Type}{c:aD}{g:α->M}:∀(l:List α),pL c (l.map g)=(l.filter fun a=>(g a).cond.at' c).map fun a=>{ g a with kids:=pL c (g a).kids,cond:=tt }
 | []=>rfl
 |a::l=>by rw[ib,eF,JS l,hZ];split<;>rfl
def FO(h:∀n∈l,wN n):∀n∈en l k,wN n:=fun x a=>by obtain⟨n,b,_,_,a⟩:=uT a;exact(BU.1 ((FM n).1 (h n b)) x a).2
def AG(c:aD):∀(d:Nat) {l:List M},cz l->(∀n∈l,wN n)->pL c (cO d l)=cO d (pL c l)
 |0,_,_,_=>rfl
 |d+1,l,a,b=>by simp only[cO];rw[JS,IK a];refine m0 fun k e=>?_;rw[<-IK a,jZ]at e;rw[Og a e.2];show (⟨k.kind,k.text,k.tok,k.slot,pL c (cO d (en l k)),tt⟩:M)=_;rw[AG c d (xG a) (FO b),SL b]
mutual
def dZ(d:T):List M->List M
 | []=>[]
 |n::l=>match KT d n with
  |some m=>m::dZ d l
  |none=>dZ d l
def KT (d:T):M->Option M
 |⟨k,t,o,s,ks,c⟩=>if c.and d=ff then none else some ⟨k,t,o,s,dZ (c.and d) ks,c.and d⟩
end
def yr(d:T)(n:M)(l:List M):dZ d (n::l)=if n.cond.and d=ff then dZ d l else { n with kids:=dZ (n.cond.and d) n.kids,cond:=n.cond.and d }::dZ d l:=by cases n;simp only[dZ,KT];split<;>rename_i h<;>split at h<;>simp_all
def vI:∀(l:List M) (d:T),d.ok 0->cz l->cz (dZ d l)/\wL d (dZ d l)/\(∀n∈dZ d l,n.cond≠ff)/\∀c,pL c (dZ d l)=if d.at' c then pL c l else []
 | [],d,hd,i=>⟨trivial,trivial,fun n h=>(dH h).elim,fun c=>by simp[dZ,pL]⟩
 |⟨k,t,o,s,ks,e⟩::l,d,hd,i=>by
  have f:=i.1;have g:e.ok 0:=f.1;have a:(e.and d).ok 0:=T.and_ok g hd;obtain⟨m,a2,a3,a4⟩:=vI l d hd i.2;rw[yr];show cz (if e.and d=ff then _ else _)/\_;by_cases hf:e.and d=ff
  .rw[ag hf];refine⟨m,a2,a3,fun c=>?_⟩;rw[a4,eF];split
   .rename_i b;have:(e.and d).at' c=false:=by rw[hf];rfl
    rw[T.and_at g hd,b,qI]at this;show _=if e.at' c then _ else _
    rw[this];rfl
   .rfl
  .rw[ab hf];obtain⟨u,r,v,q⟩:=vI ks (e.and d) a f.2;refine⟨⟨⟨a,u⟩,m⟩,⟨⟨fun c j=>?_,r⟩,a2⟩,fun n f=>?_,fun c=>?_⟩
   .rw[T.and_at g hd,cX]at j;exact j.2
   .rcases List.mem_cons.1 f with x|x
    .subst x;exact hf
    .exact a3 n x
   .rw[eF,eF,a4,q];show (if (e.and d).at' c then _ else _)=if d.at' c then (if e.at' c then _ else _)else []
    rw[T.and_at g hd];cases b:d.at' c<;>cases p:e.at' c<;>simp
 termination_by l=>sizeOf l
def pM(e:List aG):List (Int×Nat):=nO gD ((e.filter fun d=>decide (d.cond≠ff)).map fun d=>(d.tok,d.code))
def Df(k:Int×Nat)(d:aG):Bool:=decide ((d.tok,d.code)=k) && decide (d.cond≠ff)
def pI(e:List aG)(k:Int×Nat):T:=(e.filter (Df k)).foldl (fun t d=>t.or d.cond) ff
def it(e:List aG):List aG:=(pM e).map fun k=>⟨k.2,k.1,pI e k⟩
def Dy{c:aD}:∀{l:List aG} {z:T},z.ok 0->(∀n∈l,n.cond.ok 0)->(l.foldl (fun t d=>t.or d.cond) z).ok 0/\(l.foldl (fun t d=>t.or d.cond) z).at' c=(z.at' c || l.any fun n=>n.cond.at' c)
 | [],z,a,_=>⟨a,by simp⟩
 |n::l,z,a,h=>by have b:=h n (.head _);have:=Dy (c:=c) (l:=l) (z:=z.or n.cond) (T.or_ok a b) fun m hm=>h m (.tail _ hm);refine⟨this.1,?_⟩;simp only[gW,List.any_cons];rw[this.2,T.or_at a b,Bool.or_assoc]
variable{e:List aG}
def G8{k:Int×Nat}(h:jb e):(pI e k).ok 0:=(Dy (c:=fun _=>false) (z:=ff) trivial fun n a=>h n (List.mem_filter.1 a).1).1
def De{k:Int×Nat}(h:jb e):(pI e k).at' c=true<->∃d∈e,(d.tok,d.code)=k/\d.cond.at' c=true:=by
 have h1:=(Dy (c:=c) (l:=e.filter (Df k)) (z:=ff) trivial fun n a=>h n (List.mem_filter.1 a).1).2;unfold pI;rw[h1,CA,me,List.any_eq_true];simp only[jZ,Df,cX,dA];constructor
 .rintro⟨n,⟨h1,h2,_⟩,h3⟩;exact⟨n,h1,h2,h3⟩
 .rintro⟨n,h1,h2,h3⟩;exact⟨n,⟨h1,h2,fun e=>by rw[e]at h3;cases h3⟩,h3⟩
def jD(c:aD)(e:List aG):List aG:=(e.filter fun d=>d.cond.at' c).map fun d=>{ d with cond:=tt }
def Jj(c:aD)(h:jb e):jD c (it e)=(nO gD ((pE c e).map fun x=>(x.2,x.1))).map fun k=>⟨k.2,k.1,tt⟩:=by
 unfold jD it;rw[List.filter_map,pi];show ((pM e).filter fun k=>(pI e k).at' c).map (fun k=>(⟨k.2,k.1,tt⟩:aG))=_;congr 1;refine yj jR (Hm (oW jR _)) (oW jR _) fun k=>?_;rw[jZ,De h,vB jR];unfold pM;rw[vB jR];simp only[pE,pi,mg,jZ,dA,Function.comp];constructor
 .rintro⟨_,d,h1,h2,h3⟩;exact⟨d,⟨h1,h3⟩,h2⟩
 .rintro⟨d,⟨h1,h3⟩,h2⟩;exact⟨⟨d,⟨h1,fun e=>by rw[e]at h3;cases h3⟩,h2⟩,d,h1,h2,h3⟩
open Dg
structure Tr where
 kids:List M
 diags:List aG
def prj(c:aD)(t:Tr):Tr:=⟨pL c t.kids,jD c t.diags⟩
def eo(r:aw):List M:=[⟨1,[],-1,0,dZ (gB r.f) r.l,gB r.f⟩]
def eU:Nat:=2^50
def ml(Z:List Tok)(w:T)(t:Tr):Prop:=
 w=ff/\t=⟨[],[]⟩\/w≠ff/\∃r,run Z eU (.seqL true 0 [(0,w)] [] [])=some r/\t=⟨cO (cG (eo r)) (eo r),it r.e⟩
def zw{f:ad}(hf:aA f):(gB f).ok 0/\(gB f).at' c=!(di c f).isEmpty:=by
 have key:∀(f:ad) (z:T),(∀s∈f,s.2.ok 0)->z.ok 0->(f.foldl (fun d s=>d.or s.2) z).ok 0/\(f.foldl (fun d s=>d.or s.2) z).at' c=(z.at' c || !(di c f).isEmpty):=by
  intro f
  induction f with
  |nil=>intro z _ a;exact⟨a,by simp[di]⟩
  |cons s f b=>intro z h a;have hs:=h s (.head _);obtain⟨h1,h2⟩:=b (z.or s.2) (fun t ht=>h t (.tail _ ht)) (T.or_ok a hs);refine⟨h1,?_⟩;simp only[gW];rw[h2,T.or_at a hs,l4];cases z.at' c<;>cases s.2.at' c<;>simp
 obtain⟨h1,h2⟩:=key f ff (fun s hs=>(hf.1 s hs).1) trivial;exact⟨h1,by show (f.foldl _ ff).at' c=_;rw[h2];rfl⟩
variable{r:aw}
def xS(hf:aA r.f)(b:cz r.l):cz (eo r)/\∀n∈eo r,wN n:=by have h1:=(zw (c:=fun _=>false) hf).1;obtain⟨d,a2,_,_⟩:=vI r.l _ h1 b;refine⟨⟨⟨h1,d⟩,trivial⟩,fun n a=>?_⟩;simp only[eo,List.mem_singleton]at a;subst a;exact a2
def EF{p:Option Nat}(hf:aA r.f)(a:cz r.l)(hp:At c r.f p):pL c (eo r)=if p.isSome then [⟨1,[],-1,0,pL c r.l,tt⟩]else []:=by
 obtain⟨h1,h2⟩:=zw (c:=c) hf;unfold eo;rw[iu];have e:(gB r.f).at' c=p.isSome:=by rw[h2,show di c r.f=p.toList from hp];cases p<;>rfl
 show (if (gB r.f).at' c=true then _ else _)=_;rw[e,(vI r.l _ h1 a).2.2.2 c,e];cases p<;>rfl
variable{w:T}
def KU(b:w.ok 0)(a:w≠ff):aA [(0,w)]:=⟨fun s hs=>by simp at hs;subst hs;exact⟨b,a⟩,by simp⟩
def Wl(c:aD)(w:T):At c [(0,w)] (if w.at' c then some 0 else none):=At.one c 0 w
variable{Z:List Tok}
def qB(a:bw Z)(d:w.ok 0)(b:w≠ff){n:Nat}(e:run Z n (.seqL true 0 [(0,w)] [] [])=some r)(c:aD):
  ∃q,PV c Z (.seqL true 0 (if w.at' c then some 0 else none) [] none) q/\RR c r q:=
 Kf a n _ _ e _ (.seqL (KU d b) (Wl c w) trivial rfl aA.nil (At.nil c) (.inr rfl))
def ED(c:aD):∀(l:List M),cG (pL c l)<=cG l
 | []=>aR _
 |⟨k,t,o,s,ks,d⟩::l=>by
  have h1:=ED c ks;have h2:=ED c l;rw[eF];split
  .simp only[cG,mD];omega
  .simp only[cG,mD];omega
def EI(q:PR):Tr:=⟨cO (cG q.l+1) (if q.p.isSome then [⟨1,[],-1,0,q.l,tt⟩]else []),(nO gD (q.e.map fun x=>(x.2,x.1))).map fun k=>⟨k.2,k.1,tt⟩⟩
variable{t:Tr}
def Dq(a:bw Z)(m:w.ok 0)(h:ml Z w t)(d:w.at' c=true):∃q,PV c Z (.seqL true 0 (some 0) [] none) q/\prj c t=EI q:=by
 rcases h with ⟨e,_⟩|⟨b,r,o,n⟩
 .rw[e]at d;cases d
 .obtain⟨q,g,R⟩:=qB a m b o c;rw[d]at g;refine⟨q,g,?_⟩;subst n;unfold prj EI;obtain⟨j,i⟩:=xS R.fok R.lok;have e1:pL c (cO (cG (eo r)) (eo r))=cO (cG q.l+1) (if q.p.isSome then [⟨1,[],-1,0,q.l,tt⟩]else []):=by rw[AG c _ j i];have hd:=ED c (eo r);rw[EF R.fok R.lok R.f,R.l]at hd |-;generalize cG (eo r)=X at hd;rw[AH (aR _) hd];refine(AH (aR _) ?_).symm;split<;>simp[cG,mD]
  have e2:jD c (it r.e)=(nO gD (q.e.map fun x=>(x.2,x.1))).map fun k=>⟨k.2,k.1,tt⟩:=by rw[Jj c R.eok,R.e]
  show (⟨pL c (cO (cG (eo r)) (eo r)),jD c (it r.e)⟩:Tr)=_;rw[e1,e2]
def OS(a:bw Z){v:T}(e:w.ok 0)(hv:v.ok 0){u:Tr}(h:ml Z w t)(k:ml Z v u)(f:w.at' c=true)(hd:v.at' c=true):prj c t=prj c u:=by obtain⟨q,h1,h2⟩:=Dq a e h f;obtain⟨s,d,b⟩:=Dq a hv k hd;rw[h2,b,h1.det d]
def PV.noneSeq{top:Bool}{o:Nat}{out:Option Nat}{q:PR}(h:PV c Z (.seqL top o none l out) q):q=⟨l,out,[]⟩:=by refine h.det (PV.step0 fun r=>?_);rfl
def OR(a:bw Z)(j:w.ok 0)(h:ml Z w t)(k:w.at' c=false):prj c t=⟨[],[]⟩:=by
 rcases h with ⟨_,e⟩|⟨b,r,m,l⟩
 .subst e;rfl
 .obtain⟨q,d,R⟩:=qB a j b m c;rw[k]at d;have:=d.noneSeq;subst this;subst l;obtain⟨i,g⟩:=xS R.fok R.lok;show (⟨pL c (cO (cG (eo r)) (eo r)),jD c (it r.e)⟩:Tr)=_;rw[AG c _ i g,EF R.fok R.lok R.f,Jj c R.eok,R.e];show (⟨cO _ [],_⟩:Tr)=_;rw[xz];rfl
def Wo(b:w.ok 0)(a:w≠ff):g6 Z (.seqL true 0 [(0,w)] [] []):=
 ⟨⟨KU b a,fun s hs=>by simp at hs;subst hs;exact aF _⟩,FN.nil _⟩
def Wm(w:T)(a:Z.length<=16384):aK Z (.seqL true 0 [(0,w)] [] [])<=ao:=by have h:=w.card_le;have:w.card*(Z.length+1)<=2^24*16385:=Nat.mul_le_mul h O;simp only[aK,kZ,gR,lp,bo,Nat.sub_zero];unfold ao;omega
def Wn(w:T)(a:Z.length<=16384):mu Z (.seqL true 0 [(0,w)] [] [])<eU:=by have h:=w.card_le;have:w.card*(Z.length+1)<=2^24*16385:=Nat.mul_le_mul h O;simp only[mu,kZ,gR,lp,Nat.sub_zero];unfold eU;omega
def Wp(a:bw Z)(g:w.ok 0)(b:w≠ff)(c:Z.length<=16384):∃r,run Z eU (.seqL true 0 [(0,w)] [] [])=some r/\FN Z.length r.f/\r.e.length<=ao/\r.l.length<=ao:=by have hb:=Wm w c;obtain⟨r,h,d,i⟩:=Kh a eU _ (Wo g b) hb (Wn w c);exact⟨r,h,d,O,O⟩
def AA(l:List Tr):Tr:=⟨cO (cG (l.flatMap (·.kids))) (l.flatMap (·.kids)),it (l.flatMap (·.diags))⟩
def aG.key(d:aG):Int×Nat:=(d.tok,d.code)
end Syn
