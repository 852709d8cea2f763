import Derived.Test.YtfaclfkpnmcmlaaGreatDoorQ07
import Derived.Test.YtfaclfkpnmcmlaaGreatDoorQ08
set_option maxHeartbeats 8000000
set_option linter.all false
namespace Syn
open Dg
structure SO{K:Type}(lt:K->K->Bool):Prop where
 irr:∀a,lt a a=false
 tr:∀a b c,lt a b=true->lt b c=true->lt a c=true
 tri:∀a b,lt a b=false->lt b a=false->a=b
section
variable {K:Type} {lt:K->K->Bool}
def qT(lt:K->K->Bool)(k:K):List K->List K
 | []=>[k]
 |x::l=>if lt k x then k::x::l else if lt x k then x::qT lt k l else x::l
def lM(lt:K->K->Bool)(l:List K):List K:=l.foldr (qT lt) []
theorem sO(so:SO lt){k x:K}:∀{l:List K},x∈qT lt k l<->x=k\/x∈l
 | []=>by simp[qT]
 |y::l=>by
  simp only[qT];split
  ·simp
  ·split
   ·rw[Su,sO so,Su];constructor
    ·rintro(h|h|h)
     ·exact .inr (.inl h)
     ·exact .inl h
     ·exact .inr (.inr h)
    ·rintro(h|h|h)
     ·exact .inr (.inl h)
     ·exact .inl h
     ·exact .inr (.inr h)
   ·rename_i h1 h2;have:=so.tri k y (by simpa using h1) (by simpa using h2);subst this;simp
theorem qp(so:SO lt){k:K}:∀{l:List K},l.Pairwise (fun a b=>lt a b=true)->(qT lt k l).Pairwise (fun a b=>lt a b=true)
 | [],_=>by simp[qT]
 |y::l,h=>by
  rw[Sv]at h;simp only[qT];split
  ·rename_i h1;refine List.pairwise_cons.2 ⟨fun z hz=>?_,List.pairwise_cons.2 h⟩;rcases List.mem_cons.1 hz with e|e
   ·subst e;exact h1
   ·exact so.tr _ _ _ h1 (h.1 z e)
  ·split
   ·rename_i h1 h2;refine List.pairwise_cons.2 ⟨fun z hz=>?_,qp so h.2⟩;rcases(sO so).1 hz with e|e
    ·subst e;exact h2
    ·exact h.1 z e
   ·exact List.pairwise_cons.2 h
theorem j4(so:SO lt){x:K}:∀{l:List K},x∈lM lt l<->x∈l
 | []=>Iff.rfl
 |y::l=>by
  show x∈qT lt y (lM lt l)<->_;rw[sO so,j4 so,Su]
theorem eE(so:SO lt):∀(l:List K),(lM lt l).Pairwise (fun a b=>lt a b=true)
 | []=>List.Pairwise.nil
 |_::l=>qp so (eE so l)
theorem kF(so:SO lt):∀{l m:List K},l.Pairwise (fun a b=>lt a b=true)->m.Pairwise (fun a b=>lt a b=true)->(∀x,x∈l<->x∈m)->l=m
 | [],[],_,_,_=>rfl
 | [],y::m,_,_,h=>absurd ((h y).2 (.head _)) SW
 |x::l,[],_,_,h=>absurd ((h x).1 (.head _)) SW
 |x::l,y::m,h1,h2,h=>by
  rw[Sv]at h1 h2;have e:x=y:=by
   rcases List.mem_cons.1 ((h x).1 (.head _))with e|e
   ·exact e
   ·rcases List.mem_cons.1 ((h y).2 (.head _))with e2|e2
    ·exact e2.symm
    ·have:=so.tr _ _ _ (h1.1 y e2) (h2.1 x e);rw[so.irr]at this;cases this
  subst e;congr 1;refine kF so h1.2 h2.2 fun z=>?_;constructor
  ·intro hz;rcases List.mem_cons.1 ((h z).1 (.tail _ hz))with e|e
   ·subst e;have:=h1.1 z hz;rw[so.irr]at this;cases this
   ·exact e
  ·intro hz;rcases List.mem_cons.1 ((h z).2 (.tail _ hz))with e|e
   ·subst e;have:=h2.1 z hz;rw[so.irr]at this;cases this
   ·exact e
end
structure nL where
 slot:Int
 tok:Int
 kind:Nat
 text:bM
deriving DecidableEq
def Nd.key(n:Nd):nL:=⟨n.slot,n.tok,n.kind,n.text⟩
def vj:bM->bM->Bool
 |_,[]=>false
 | [],_::_=>true
 |a::l,b::m=>if a.toNat<b.toNat then true else if b.toNat<a.toNat then false else vj l m
theorem tp:SO vj where
 irr:=by
  intro a
  induction a with
  |nil=>rfl
  |cons x a ih=>simp[vj,ih]
 tr:=by
  intro a
  induction a with
  |nil=>
   intro b c h1 h2;cases c with
   |nil=>cases b<;>simp[vj]at h2
   |cons z c=>rfl
  |cons x a ih=>
   intro b c h1 h2;cases b with
   |nil=>simp[vj]at h1
   |cons y b=>
    cases c with
    |nil=>simp[vj]at h2
    |cons z c=>
     simp only[vj]at h1 h2 |-;by_cases e1:x.toNat<y.toNat
     ·by_cases e2:y.toNat<z.toNat
      ·rw[SI (by omega)]
      ·rw[Sb e2]at h2;by_cases e3:z.toNat<y.toNat
       ·rw[SI e3]at h2;cases h2
       ·rw[SI (by omega)]
     ·rw[Sb e1]at h1;by_cases e4:y.toNat<x.toNat
      ·rw[SI e4]at h1;cases h1
      ·rw[Sb e4]at h1;by_cases e2:y.toNat<z.toNat
       ·rw[SI (by omega)]
       ·rw[Sb e2]at h2;by_cases e3:z.toNat<y.toNat
        ·rw[SI e3]at h2;cases h2
        ·rw[Sb e3]at h2;rw[Sb (by omega),Sb (by omega)];exact ih b c h1 h2
 tri:=by
  intro a
  induction a with
  |nil=>
   intro b h1 h2;cases b with
   |nil=>rfl
   |cons y b=>simp[vj]at h1
  |cons x a ih=>
   intro b h1 h2;cases b with
   |nil=>simp[vj]at h2
   |cons y b=>
    simp only[vj]at h1 h2;by_cases e1:x.toNat<y.toNat
    ·rw[SI e1]at h1;cases h1
    ·by_cases e2:y.toNat<x.toNat
     ·rw[SI e2]at h2;cases h2
     ·rw[Sb e1,Sb e2]at h1;rw[Sb e2,Sb e1]at h2;have:x=y:=UInt8.toNat_inj.1 (by omega);rw[this,ih b h1 h2]
def E4(a b:nL):Bool:=
 if a.slot<b.slot then true else if b.slot<a.slot then false else
 if a.tok<b.tok then true else if b.tok<a.tok then false else
 if a.kind<b.kind then true else if b.kind<a.kind then false else vj a.text b.text
theorem jN:SO E4 where
 irr:=by intro a;simp[E4,tp.irr]
 tr:=by
  intro a b c;unfold E4;have ht:=tp.tr a.text b.text c.text;intro h1 h2;by_cases s:a.slot<c.slot
  ·rw[SI s]
  ·rw[Sb s];by_cases a1:a.slot<b.slot
   ·by_cases a2:b.slot<c.slot
    ·omega
    ·rw[Sb a2,SI (show c.slot<b.slot by omega)]at h2;cases h2
   ·rw[Sb a1]at h1;by_cases a2:b.slot<a.slot
    ·rw[SI a2]at h1;cases h1
    ·rw[Sb a2]at h1;by_cases a3:b.slot<c.slot
     ·omega
     ·rw[Sb a3]at h2;by_cases a4:c.slot<b.slot
      ·rw[SI a4]at h2;cases h2
      ·rw[Sb a4]at h2;rw[Sb (show ¬c.slot<a.slot by omega)];by_cases t:a.tok<c.tok
       ·rw[SI t]
       ·rw[Sb t];by_cases b1:a.tok<b.tok
        ·by_cases b2:b.tok<c.tok
         ·omega
         ·rw[Sb b2,SI (show c.tok<b.tok by omega)]at h2;cases h2
        ·rw[Sb b1]at h1;by_cases b2:b.tok<a.tok
         ·rw[SI b2]at h1;cases h1
         ·rw[Sb b2]at h1;by_cases b3:b.tok<c.tok
          ·omega
          ·rw[Sb b3]at h2;by_cases b4:c.tok<b.tok
           ·rw[SI b4]at h2;cases h2
           ·rw[Sb b4]at h2;rw[Sb (show ¬c.tok<a.tok by omega)];by_cases k:a.kind<c.kind
            ·rw[SI k]
            ·rw[Sb k];by_cases c1:a.kind<b.kind
             ·by_cases c2:b.kind<c.kind
              ·omega
              ·rw[Sb c2,SI (show c.kind<b.kind by omega)]at h2;cases h2
             ·rw[Sb c1]at h1;by_cases c2:b.kind<a.kind
              ·rw[SI c2]at h1;cases h1
              ·rw[Sb c2]at h1;by_cases c3:b.kind<c.kind
               ·omega
               ·rw[Sb c3]at h2;by_cases c4:c.kind<b.kind
                ·rw[SI c4]at h2;cases h2
                ·rw[Sb c4]at h2;rw[Sb (show ¬c.kind<a.kind by omega)];exact ht h1 h2
 tri:=by
  intro a b h1 h2;unfold E4 at h1 h2;have s:a.slot=b.slot:=by
   rcases Int.lt_trichotomy a.slot b.slot with h|h|h
   ·rw[SI h]at h1;cases h1
   ·exact h
   ·rw[SI h]at h2;cases h2
  rw[Sb (by omega),Sb (by omega)]at h1 h2;have t:a.tok=b.tok:=by
   rcases Int.lt_trichotomy a.tok b.tok with h|h|h
   ·rw[SI h]at h1;cases h1
   ·exact h
   ·rw[SI h]at h2;cases h2
  rw[Sb (by omega),Sb (by omega)]at h1 h2;have k:a.kind=b.kind:=by
   rcases SD a.kind b.kind with h|h|h
   ·rw[SI h]at h1;cases h1
   ·exact h
   ·rw[SI h]at h2;cases h2
  rw[Sb (by omega),Sb (by omega)]at h1 h2;have x:=tp.tri _ _ h1 h2;cases a;cases b;simp_all
def tS(a b:Int×Nat):Bool:=if a.1<b.1 then true else if b.1<a.1 then false else decide (a.2<b.2)
theorem gQ:SO tS where
 irr:=by intro a;simp[tS]
 tr:=by
  intro a b c;unfold tS;intro h1 h2;by_cases s:a.1<c.1
  ·rw[SI s]
  ·rw[Sb s];by_cases a1:a.1<b.1
   ·rw[Sb (show ¬b.1<c.1 by omega),SI (show c.1<b.1 by omega)]at h2;cases h2
   ·rw[Sb a1]at h1;by_cases a2:b.1<a.1
    ·rw[SI a2]at h1;cases h1
    ·rw[Sb a2]at h1;rw[Sb (show ¬b.1<c.1 by omega)]at h2;by_cases a4:c.1<b.1
     ·rw[SI a4]at h2;cases h2
     ·rw[Sb a4]at h2;rw[Sb (show ¬c.1<a.1 by omega)];simp only[SX]at *;omega
 tri:=by
  intro a b h1 h2;unfold tS at h1 h2;have s:a.1=b.1:=by
   rcases Int.lt_trichotomy a.1 b.1 with h|h|h
   ·rw[SI h]at h1;cases h1
   ·exact h
   ·rw[SI h]at h2;cases h2
  rw[Sb (by omega),Sb (by omega)]at h1 h2;simp only[TK]at h1 h2;exact Prod.ext s (by omega)
def eY(k:nL)(n:Nd):Bool:=decide (n.key=k) && decide (n.cond≠ff)
def ks(l:List Nd):List nL:=lM E4 ((l.filter fun n=>decide (n.cond≠ff)).map Nd.key)
def cF(l:List Nd)(k:nL):List Nd:=(l.filter (eY k)).flatMap (·.kids)
def gH(l:List Nd)(k:nL):T:=(l.filter (eY k)).foldl (fun d n=>d.or n.cond) ff
def kH:Nat->List Nd->List Nd
 |0,_=>[]
 |d+1,l=>(ks l).map fun k=>⟨k.kind,k.text,k.tok,k.slot,kH d (cF l k),gH l k⟩
mutual
def Aq:Nd->Nat
 |⟨_,_,_,_,ks,_⟩=>eX ks+1
def eX:List Nd->Nat
 | []=>0
 |n::l=>max (Aq n) (eX l)
end
theorem wi(n:Nd):Aq n=eX n.kids+1:=by cases n;rfl
theorem o4{n:Nd}:∀{l:List Nd},n∈l->Aq n<=eX l
 | [],h=>(SW h).elim
 |m::l,h=>by
  simp only[eX];rcases List.mem_cons.1 h with e|e
  ·subst e;omega
  ·have:=o4 e;omega
theorem BI{b:Nat}:∀{l:List Nd},(∀n∈l,Aq n<=b)->eX l<=b
 | [],_=>S6 _
 |m::l,h=>by
  have h1:=h m (.head _);have h2:=BI fun n hn=>h n (.tail _ hn);simp only[eX];omega
theorem js{l:List Nd}{k:nL}{x:Nd}(h:x∈cF l k):∃n∈l,n.key=k/\n.cond≠ff/\x∈n.kids:=by
 obtain⟨n,hn,hx⟩:=List.mem_flatMap.1 h;obtain⟨h1,h2⟩:=List.mem_filter.1 hn;simp only[eY,SG,SX]at h2;exact⟨n,h1,h2.1,h2.2,hx⟩
theorem tT{l:List Nd}{k:nL}{d:Nat}(h:eX l<=d+1):eX (cF l k)<=d:=BI fun x hx=>by
 obtain⟨n,hn,_,_,hx⟩:=js hx;have h1:=o4 hn;rw[wi]at h1;have h2:=o4 hx;omega
theorem uq{l:List Nd}(h:eX l=0):l=[]:=by
 cases l with
 |nil=>rfl
 |cons n l=>simp only[eX,wi]at h;omega
theorem xD(d:Nat):kH d []=[]:=by cases d<;>rfl
theorem o8:∀{d e:Nat} {l:List Nd},eX l<=d->d<=e->kH e l=kH d l
 |0,e,l,h,_=>by rw[uq (Nat.le_zero.1 h),xD,xD]
 |d+1,0,l,h,h2=>by omega
 |d+1,e+1,l,h,h2=>by
  simp only[kH];refine SL fun k _=>?_;rw[o8 (tT h) (by omega)]
theorem s6{l:List Nd}{k:nL}:k∈ks l<->∃n∈l,n.key=k/\n.cond≠ff:=by
 unfold ks;rw[j4 jN];simp only[SZ,SY,SX];constructor
 ·rintro⟨n,⟨h1,h2⟩,h3⟩;exact⟨n,h1,h3,h2⟩
 ·rintro⟨n,h1,h3,h2⟩;exact⟨n,⟨h1,h2⟩,h3⟩
def Qw(a b:T):Prop:=∀c,a.at' c=true->b.at' c=true
mutual
def wN:Nd->Prop
 |⟨_,_,_,_,ks,d⟩=>wL d ks
def wL:T->List Nd->Prop
 |_,[]=>True
 |d,n::l=>(Qw n.cond d/\wN n)/\wL d l
end
theorem AR{d:T}{l:List Nd}:wL d l<->∀n∈l,Qw n.cond d/\wN n:=by
 induction l with
 |nil=>simp[wL]
 |cons n l ih=>simp[wL,ih]
theorem KR(n:Nd):wN n<->wL n.cond n.kids:=by cases n;rfl
theorem rY{c:cg}:∀{l:List Nd} {z:T},z.ok 0->(∀n∈l,n.cond.ok 0)->(l.foldl (fun d n=>d.or n.cond) z).ok 0/\(l.foldl (fun d n=>d.or n.cond) z).at' c=(z.at' c || l.any fun n=>n.cond.at' c)
 | [],z,hz,_=>⟨hz,by simp⟩
 |n::l,z,hz,h=>by
  have hn:=h n (.head _);have:=rY (c:=c) (l:=l) (z:=z.or n.cond) (T.or_ok hz hn) fun m hm=>h m (.tail _ hm);refine⟨this.1,?_⟩;simp only[Sj,List.any_cons];rw[this.2,T.or_at hz hn,Bool.or_assoc]
theorem vC{l:List Nd}{k:nL}{c:cg}(h:fX l):(gH l k).at' c=true<->∃n∈l,n.key=k/\n.cond.at' c=true:=by
 have h1:=(rY (c:=c) (l:=l.filter (eY k)) (z:=ff) trivial fun n hn=>(eC.1 (fD.1 h n (List.mem_filter.1 hn).1)).1).2;unfold gH;rw[h1,xz,TS,List.any_eq_true];simp only[SY,eY,SG,SX];constructor
 ·rintro⟨n,⟨h1,h2,_⟩,h3⟩;exact⟨n,h1,h2,h3⟩
 ·rintro⟨n,h1,h2,h3⟩;exact⟨n,⟨h1,h2,fun e=>by rw[e]at h3;cases h3⟩,h3⟩
theorem qg{c:cg}{m:Nd}:∀{l:List Nd},m∈pL c l<->∃n∈l,n.cond.at' c=true/\m={ n with kids:=pL c n.kids,cond:=tt }
 | []=>by simp[pL]
 |n::l=>by
  rw[bV];split
  ·rename_i h;simp only[Su,qg (l:=l)];constructor
   ·rintro(e|⟨x,h1,h2,h3⟩)
    ·exact⟨n,.inl rfl,h,e⟩
    ·exact⟨x,.inr h1,h2,h3⟩
   ·rintro⟨x,e|h1,h2,h3⟩
    ·subst e;exact .inl h3
    ·exact .inr ⟨x,h1,h2,h3⟩
  ·rename_i h;simp only[qg (l:=l),Su];constructor
   ·rintro⟨x,h1,h2,h3⟩;exact⟨x,.inr h1,h2,h3⟩
   ·rintro⟨x,e|h1,h2,h3⟩
    ·subst e;exact absurd h2 h
    ·exact⟨x,h1,h2,h3⟩
theorem EK:tt≠ff:=by decide
theorem wJ{c:cg}:∀{l:List Nd},(∀n∈l,n.cond.at' c=false)->pL c l=[]
 | [],_=>rfl
 |n::l,h=>by
  rw[bV,h n (.head _),Sb (by decide),wJ fun m hm=>h m (.tail _ hm)]
theorem Ed{c:cg}{l:List Nd}{k:nL}(hw:∀n∈l,wN n):pL c (cF l k)=cF (pL c l) k:=by
 unfold cF
 induction l with
 |nil=>rfl
 |cons n l ih=>
  have hn:=(KR n).1 (hw n (.head _));have h2:=ih fun m hm=>hw m (.tail _ hm);rw[bV];by_cases hc:n.cond.at' c=true
  ·rw[SI hc];have aa:n.cond≠ff:=fun e=>by rw[e]at hc;cases hc
   by_cases hk:n.key=k
   ·have e1:eY k n=true:=by simp[eY,hk,aa]
    have e2:eY k { n with kids:=pL c n.kids,cond:=tt }=true:=by
     have:Nd.key { n with kids:=pL c n.kids,cond:=tt }=n.key:=rfl;simp[eY,this,hk,EK]
    rw[List.filter_cons_of_pos e1,List.filter_cons_of_pos e2,TB,TB,dO,h2]
   ·have e1:¬eY k n=true:=by simp[eY,hk]
    have e2:¬eY k { n with kids:=pL c n.kids,cond:=tt }=true:=by
     have:Nd.key { n with kids:=pL c n.kids,cond:=tt }=n.key:=rfl;simp[eY,this,hk]
    rw[List.filter_cons_of_neg e1,List.filter_cons_of_neg e2,h2]
  ·rw[Sb hc];by_cases e1:eY k n=true
   ·rw[List.filter_cons_of_pos e1,TB,dO,h2,wJ,SU];intro m hm;cases e:m.cond.at' c with
    |false=>rfl
    |true=>exact absurd ((AR.1 hn m hm).1 c e) hc
   ·rw[List.filter_cons_of_neg e1,h2]
theorem qC{K:Type}{R:K->K->Prop}{p:K->Bool}{l:List K}(h:l.Pairwise R):(l.filter p).Pairwise R:=h.sublist List.filter_sublist
theorem KV{c:cg}{l:List Nd}(ho:fX l):(ks l).filter (fun k=>(gH l k).at' c)=ks (pL c l):=by
 refine kF jN (qC (eE jN _)) (eE jN _) fun k=>?_;rw[SY,vC ho,s6,s6];constructor
 ·rintro⟨_,n,h1,h2,h3⟩;exact⟨_,qg.2 ⟨n,h1,h3,rfl⟩,h2,EK⟩
 ·rintro⟨m,h1,h2,h3⟩;obtain⟨n,h4,h5,e⟩:=qg.1 h1;have h6:n.key=k:=by rw[<-h2,e];rfl
  exact⟨⟨n,h4,h6,fun e=>by rw[e]at h5;cases h5⟩,n,h4,h6,h5⟩
theorem nZ{l:List Nd}{k:nL}(h:fX l):fX (cF l k):=fD.2 fun x hx=>by
 obtain⟨n,hn,_,_,hx⟩:=js hx;exact fD.1 (eC.1 (fD.1 h n hn)).2 x hx
theorem Ea{l:List Nd}{k:nL}{c:cg}(ho:fX l)(h:(gH l k).at' c=true):gH (pL c l) k=tt:=by
 have key:∀(m:List Nd),(∀n∈m,n.cond=tt)->∀z:T,(z=tt\/m≠[])->(z=tt\/z=ff)->m.foldl (fun d n=>d.or n.cond) z=tt:=by
  intro m
  induction m with
  |nil=>intro _ z h _;exact h.resolve_right fun h=>h rfl
  |cons n m ih=>
   intro hm z _ hz;simp only[Sj];have e:z.or n.cond=tt:=by rw[hm n (.head _)];rcases hz with e|e<;>subst e<;>rfl
   exact ih (fun x hx=>hm x (.tail _ hx)) _ (.inl e) (.inl e)
 obtain⟨n,h1,h2,h3⟩:=(vC ho).1 h;refine key _ (fun m hm=>?_) ff (.inr fun e=>?_) (.inr rfl)
 ·obtain⟨x,_,_,e⟩:=qg.1 (List.mem_filter.1 hm).1;rw[e]
 ·have:({ n with kids:=pL c n.kids,cond:=tt }:Nd)∈(pL c l).filter (eY k):=List.mem_filter.2 ⟨qg.2 ⟨n,h1,h3,rfl⟩,by
   have:Nd.key { n with kids:=pL c n.kids,cond:=tt }=n.key:=rfl;simp[eY,this,h2,EK]⟩
  rw[e]at this;exact SW this
theorem GP{α:Type}{c:cg}{g:α->Nd}:∀(l:List α),pL c (l.map g)=(l.filter fun a=>(g a).cond.at' c).map fun a=>{ g a with kids:=pL c (g a).kids,cond:=tt }
 | []=>rfl
 |a::l=>by
  rw[Tf,bV,GP l,TU];split<;>rfl
theorem CR{l:List Nd}{k:nL}(h:∀n∈l,wN n):∀n∈cF l k,wN n:=fun x hx=>by
 obtain⟨n,hn,_,_,hx⟩:=js hx;exact(AR.1 ((KR n).1 (h n hn)) x hx).2
theorem Bp(c:cg):∀(d:Nat) {l:List Nd},fX l->(∀n∈l,wN n)->pL c (kH d l)=kH d (pL c l)
 |0,_,_,_=>rfl
 |d+1,l,ho,hw=>by
  simp only[kH];rw[GP,KV ho];refine SL fun k hk=>?_;rw[<-KV ho,SY]at hk;rw[Ea ho hk.2];show (⟨k.kind,k.text,k.tok,k.slot,pL c (kH d (cF l k)),tt⟩:Nd)=_;rw[Bp c d (nZ ho) (CR hw),Ed hw]
mutual
def ll(d:T):List Nd->List Nd
 | []=>[]
 |n::l=>match QR d n with
  |some m=>m::ll d l
  |none=>ll d l
def QR (d:T):Nd->Option Nd
 |⟨k,t,o,s,ks,c⟩=>if c.and d=ff then none else some ⟨k,t,o,s,ll (c.and d) ks,c.and d⟩
end
theorem lQ(d:T)(n:Nd)(l:List Nd):ll d (n::l)=if n.cond.and d=ff then ll d l else { n with kids:=ll (n.cond.and d) n.kids,cond:=n.cond.and d }::ll d l:=by
 cases n;simp only[ll,QR];split<;>rename_i h<;>split at h<;>simp_all
theorem ky:∀(l:List Nd) (d:T),d.ok 0->fX l->fX (ll d l)/\wL d (ll d l)/\(∀n∈ll d l,n.cond≠ff)/\∀c,pL c (ll d l)=if d.at' c then pL c l else []
 | [],d,hd,ho=>⟨trivial,trivial,fun n h=>(SW h).elim,fun c=>by simp[ll,pL]⟩
 |⟨k,t,o,s,ks,e⟩::l,d,hd,ho=>by
  have hn:=ho.1;have he:e.ok 0:=hn.1;have aa:(e.and d).ok 0:=T.and_ok he hd;obtain⟨a1,a2,a3,a4⟩:=ky l d hd ho.2;rw[lQ];show fX (if e.and d=ff then _ else _)/\_;by_cases hf:e.and d=ff
  ·rw[SI hf];refine⟨a1,a2,a3,fun c=>?_⟩;rw[a4,bV];split
   ·rename_i ac;have:(e.and d).at' c=false:=by rw[hf];rfl
    rw[T.and_at he hd,ac,TR]at this;show _=if e.at' c then _ else _
    rw[this];rfl
   ·rfl
  ·rw[Sb hf];obtain⟨b1,b2,b3,b4⟩:=ky ks (e.and d) aa hn.2;refine⟨⟨⟨aa,b1⟩,a1⟩,⟨⟨fun c hc=>?_,b2⟩,a2⟩,fun n hn=>?_,fun c=>?_⟩
   ·rw[T.and_at he hd,SG]at hc;exact hc.2
   ·rcases List.mem_cons.1 hn with x|x
    ·subst x;exact hf
    ·exact a3 n x
   ·rw[bV,bV,a4,b4];show (if (e.and d).at' c then _ else _)=if d.at' c then (if e.at' c then _ else _)else []
    rw[T.and_at he hd];cases ac:d.at' c<;>cases aj:e.at' c<;>simp
 termination_by l=>sizeOf l
def MT(e:List bX):List (Int×Nat):=lM tS ((e.filter fun d=>decide (d.cond≠ff)).map fun d=>(d.tok,d.code))
def Gc(k:Int×Nat)(d:bX):Bool:=decide ((d.tok,d.code)=k) && decide (d.cond≠ff)
def qM(e:List bX)(k:Int×Nat):T:=(e.filter (Gc k)).foldl (fun t d=>t.or d.cond) ff
def yA(e:List bX):List bX:=(MT e).map fun k=>⟨k.2,k.1,qM e k⟩
theorem rX{c:cg}:∀{l:List bX} {z:T},z.ok 0->(∀n∈l,n.cond.ok 0)->(l.foldl (fun t d=>t.or d.cond) z).ok 0/\(l.foldl (fun t d=>t.or d.cond) z).at' c=(z.at' c || l.any fun n=>n.cond.at' c)
 | [],z,hz,_=>⟨hz,by simp⟩
 |n::l,z,hz,h=>by
  have hn:=h n (.head _);have:=rX (c:=c) (l:=l) (z:=z.or n.cond) (T.or_ok hz hn) fun m hm=>h m (.tail _ hm);refine⟨this.1,?_⟩;simp only[Sj,List.any_cons];rw[this.2,T.or_at hz hn,Bool.or_assoc]
theorem Hf{e:List bX}{k:Int×Nat}(h:xQ e):(qM e k).ok 0:=(rX (c:=fun _=>false) (z:=ff) trivial fun n hn=>h n (List.mem_filter.1 hn).1).1
theorem xU{e:List bX}{k:Int×Nat}{c:cg}(h:xQ e):(qM e k).at' c=true<->∃d∈e,(d.tok,d.code)=k/\d.cond.at' c=true:=by
 have h1:=(rX (c:=c) (l:=e.filter (Gc k)) (z:=ff) trivial fun n hn=>h n (List.mem_filter.1 hn).1).2;unfold qM;rw[h1,xz,TS,List.any_eq_true];simp only[SY,Gc,SG,SX];constructor
 ·rintro⟨n,⟨h1,h2,_⟩,h3⟩;exact⟨n,h1,h2,h3⟩
 ·rintro⟨n,h1,h2,h3⟩;exact⟨n,⟨h1,h2,fun e=>by rw[e]at h3;cases h3⟩,h3⟩
def JP(c:cg)(e:List bX):List bX:=(e.filter fun d=>d.cond.at' c).map fun d=>{ d with cond:=tt }
theorem Fc(c:cg){e:List bX}(h:xQ e):JP c (yA e)=(lM tS ((pE c e).map fun x=>(x.2,x.1))).map fun k=>⟨k.2,k.1,tt⟩:=by
 unfold JP yA;rw[List.filter_map,SK];show ((MT e).filter fun k=>(qM e k).at' c).map (fun k=>(⟨k.2,k.1,tt⟩:bX))=_;congr 1;refine kF gQ (qC (eE gQ _)) (eE gQ _) fun k=>?_;rw[SY,xU h,j4 gQ];unfold MT;rw[j4 gQ];simp only[pE,SK,SZ,SY,SX,Function.comp];constructor
 ·rintro⟨_,d,h1,h2,h3⟩;exact⟨d,⟨h1,h3⟩,h2⟩
 ·rintro⟨d,⟨h1,h3⟩,h2⟩;exact⟨⟨d,⟨h1,fun e=>by rw[e]at h3;cases h3⟩,h2⟩,d,h1,h2,h3⟩
open Dg
structure Tr where
 kids:List Nd
 diags:List bX
def prj(c:cg)(t:Tr):Tr:=⟨pL c t.kids,JP c t.diags⟩
def lI(r:bE):List Nd:=[⟨1,[],-1,0,ll (fE r.f) r.l,fE r.f⟩]
def fR:Nat:=2^50
def Jk(ts:List Tok)(w:T)(t:Tr):Prop:=
 w=ff/\t=⟨[],[]⟩\/w≠ff/\∃r,run ts fR (.seqL true 0 [(0,w)] [] [])=some r/\t=⟨kH (eX (lI r)) (lI r),yA r.e⟩
theorem oP{c:cg}{f:ah}(hf:bG f):(fE f).ok 0/\(fE f).at' c=!(dC c f).isEmpty:=by
 have key:∀(f:ah) (z:T),(∀s∈f,s.2.ok 0)->z.ok 0->(f.foldl (fun d s=>d.or s.2) z).ok 0/\(f.foldl (fun d s=>d.or s.2) z).at' c=(z.at' c || !(dC c f).isEmpty):=by
  intro f
  induction f with
  |nil=>intro z _ hz;exact⟨hz,by simp[dC]⟩
  |cons s f ih=>
   intro z h hz;have hs:=h s (.head _);obtain⟨h1,h2⟩:=ih (z.or s.2) (fun t ht=>h t (.tail _ ht)) (T.or_ok hz hs);refine⟨h1,?_⟩;simp only[Sj];rw[h2,T.or_at hz hs,dG];cases z.at' c<;>cases s.2.at' c<;>simp
 obtain⟨h1,h2⟩:=key f ff (fun s hs=>(hf.1 s hs).1) trivial;exact⟨h1,by show (f.foldl _ ff).at' c=_;rw[h2];rfl⟩
theorem xu{r:bE}(hf:bG r.f)(hl:fX r.l):fX (lI r)/\∀n∈lI r,wN n:=by
 have h1:=(oP (c:=fun _=>false) hf).1;obtain⟨a1,a2,_,_⟩:=ky r.l _ h1 hl;refine⟨⟨⟨h1,a1⟩,trivial⟩,fun n hn=>?_⟩;simp only[lI,List.mem_singleton]at hn;subst hn;exact a2
theorem Bb{r:bE}{c:cg}{p:Option Nat}(hf:bG r.f)(hl:fX r.l)(hp:At c r.f p):pL c (lI r)=if p.isSome then [⟨1,[],-1,0,pL c r.l,tt⟩]else []:=by
 obtain⟨h1,h2⟩:=oP (c:=c) hf;unfold lI;rw[eJ];have e:(fE r.f).at' c=p.isSome:=by
  rw[h2,show dC c r.f=p.toList from hp];cases p<;>rfl
 show (if (fE r.f).at' c=true then _ else _)=_;rw[e,(ky r.l _ h1 hl).2.2.2 c,e];cases p<;>rfl
theorem zB{w:T}(hw:w.ok 0)(aa:w≠ff):bG [(0,w)]:=⟨fun s hs=>by simp at hs;subst hs;exact⟨hw,aa⟩,by simp⟩
theorem Ez(c:cg)(w:T):At c [(0,w)] (if w.at' c then some 0 else none):=At.one c 0 w
theorem gG{ts:List Tok}(aa:bu ts){w:T}(hw:w.ok 0)(ac:w≠ff){n:Nat}{r:bE}(e:run ts n (.seqL true 0 [(0,w)] [] [])=some r)(c:cg):
  ∃q,PV c ts (.seqL true 0 (if w.at' c then some 0 else none) [] none) q/\RR c r q:=
 x4 aa n _ _ e _ (.seqL (zB hw ac) (Ez c w) trivial rfl bG.nil (At.nil c) (.inr rfl))
theorem Av(c:cg):∀(l:List Nd),eX (pL c l)<=eX l
 | []=>R7 _
 |⟨k,t,o,s,ks,d⟩::l=>by
  have h1:=Av c ks;have h2:=Av c l;rw[bV];split
  ·simp only[eX,Aq];omega
  ·simp only[eX,Aq];omega
def uL(q:PR):Tr:=⟨kH (eX q.l+1) (if q.p.isSome then [⟨1,[],-1,0,q.l,tt⟩]else []),(lM tS (q.e.map fun x=>(x.2,x.1))).map fun k=>⟨k.2,k.1,tt⟩⟩
theorem u7{ts:List Tok}(aa:bu ts){w:T}(hw:w.ok 0){t:Tr}(h:Jk ts w t){c:cg}(hc:w.at' c=true):∃q,PV c ts (.seqL true 0 (some 0) [] none) q/\prj c t=uL q:=by
 rcases h with ⟨e,_⟩|⟨ac,r,er,et⟩
 ·rw[e]at hc;cases hc
 ·obtain⟨q,hq,R⟩:=gG aa hw ac er c;rw[hc]at hq;refine⟨q,hq,?_⟩;subst et;unfold prj uL;obtain⟨o1,o2⟩:=xu R.fok R.lok;have e1:pL c (kH (eX (lI r)) (lI r))=kH (eX q.l+1) (if q.p.isSome then [⟨1,[],-1,0,q.l,tt⟩]else []):=by
   rw[Bp c _ o1 o2];have hd:=Av c (lI r);rw[Bb R.fok R.lok R.f,R.l]at hd |-;generalize eX (lI r)=D at hd;rw[o8 (R7 _) hd];refine(o8 (R7 _) ?_).symm;split<;>simp[eX,Aq]
  have e2:JP c (yA r.e)=(lM tS (q.e.map fun x=>(x.2,x.1))).map fun k=>⟨k.2,k.1,tt⟩:=by
   rw[Fc c R.eok,R.e]
  show (⟨pL c (kH (eX (lI r)) (lI r)),JP c (yA r.e)⟩:Tr)=_;rw[e1,e2]
theorem BH{ts:List Tok}(aa:bu ts){w v:T}(hw:w.ok 0)(hv:v.ok 0){t u:Tr}(h:Jk ts w t)(k:Jk ts v u){c:cg}(hc:w.at' c=true)(hd:v.at' c=true):prj c t=prj c u:=by
 obtain⟨q,h1,h2⟩:=u7 aa hw h hc;obtain⟨s,k1,k2⟩:=u7 aa hv k hd;rw[h2,k2,h1.det k1]
theorem PV.noneSeq{c:cg}{ts:List Tok}{top:Bool}{o:Nat}{l:List Nd}{out:Option Nat}{q:PR}(h:PV c ts (.seqL top o none l out) q):q=⟨l,out,[]⟩:=by
 refine h.det (PV.step0 fun r=>?_);rfl
theorem IC{ts:List Tok}(aa:bu ts){w:T}(hw:w.ok 0){t:Tr}(h:Jk ts w t){c:cg}(hc:w.at' c=false):prj c t=⟨[],[]⟩:=by
 rcases h with ⟨_,e⟩|⟨ac,r,er,et⟩
 ·subst e;rfl
 ·obtain⟨q,hq,R⟩:=gG aa hw ac er c;rw[hc]at hq;have:=hq.noneSeq;subst this;subst et;obtain⟨o1,o2⟩:=xu R.fok R.lok;show (⟨pL c (kH (eX (lI r)) (lI r)),JP c (yA r.e)⟩:Tr)=_;rw[Bp c _ o1 o2,Bb R.fok R.lok R.f,Fc c R.eok,R.e];show (⟨kH _ [],_⟩:Tr)=_;rw[xD];rfl
theorem AA{ts:List Tok}{w:T}(hw:w.ok 0)(aa:w≠ff):jx ts (.seqL true 0 [(0,w)] [] []):=
 ⟨⟨zB hw aa,fun s hs=>by simp at hs;subst hs;exact S6 _⟩,FN.nil _⟩
theorem Ec{ts:List Tok}(w:T)(hl:ts.length<=16384):b8 ts (.seqL true 0 [(0,w)] [] [])<=aF:=by
 have h:=w.card_le;have:w.card*(ts.length+1)<=2^24*16385:=Nat.mul_le_mul h (by omega);simp only[b8,eG,cQ,lp,S9,Nat.sub_zero];unfold aF;omega
theorem Gj{ts:List Tok}(w:T)(hl:ts.length<=16384):mu ts (.seqL true 0 [(0,w)] [] [])<fR:=by
 have h:=w.card_le;have:w.card*(ts.length+1)<=2^24*16385:=Nat.mul_le_mul h (by omega);simp only[mu,eG,cQ,lp,Nat.sub_zero];unfold fR;omega
theorem Dk{ts:List Tok}(aa:bu ts){w:T}(hw:w.ok 0)(ac:w≠ff)(hl:ts.length<=16384):∃r,run ts fR (.seqL true 0 [(0,w)] [] [])=some r/\FN ts.length r.f/\r.e.length<=aF/\r.l.length<=aF:=by
 have hb:=Ec w hl;obtain⟨r,er,q1,q2⟩:=Ce aa fR _ (AA hw ac) hb (Gj w hl);exact⟨r,er,q1,by omega,by omega⟩
end Syn
namespace Go.Proofs.YtfaclfkpnmcmlaaGreatDoor
open Go Go.Sx Dg Syn
theorem yM{I A:PH}{v:Value}{n:Nd}{l:List Nd}(h:br I A v (n::l)):∃g cap cur a k,v=.slice (some ⟨g,0,none⟩) (l.length+1) cap/\A=sg g (.cells cur 60 (0,0))/\7<=cur.size/\aQ A g 5 [sD a k n.cond,rD n.cond]/\cu I (.agg #[sD a k n.cond,rD n.cond]) n.cond/\
  ∀(J:PH) (b:Option Addr) (c:Nat) (d:T),I.le J->cu J (.agg #[sD b c d,rD d]) d->br J (sg g (.cells (be cur.toList 5 [sD b c d,rD d]).toArray 60 (0,0))) v ({ n with cond:=d }::l):=by
 obtain⟨g,cap,cur,xs,ev,rfl,c1,c2,c3,c4,c5,ak⟩:=h.open' (by simp) aW.len;simp only[SB]at ev c1 c4 c5;have am:=ak.get aW.len (i:=0) (a:=n) rfl;obtain⟨kv,na,nk,ap,aj,ac,an⟩:=am.shape;have aS:(l.length+1)*7<=cap*7:=Tb _ c1;have aa:=fp (k:=5) (m:=2) (e:=60) (g:=g) (cur:=cur) aW.len ak (i:=0) (by simp) (by simp;omega) (by simpa using c4) ap (by omega);simp only[TT,Tm,TW,TV,Nat.zero_mul,Sf]at aa;refine⟨g,cap,cur,na,nk,ev,rfl,by omega,aa,aj,fun J b c d ao hr=>?_⟩;have e:=lz aW.len (ak.mono fun _ _ h=>aW.le h ao) (i:=0) (by simp) ap (k:=5) (cs:=[sD b c d,rD d]) (a:={ n with cond:=d }) (by simp) (aW.mk (n:={ n with cond:=d }) hr (db.le ac ao) an);simp only[Nat.zero_mul,Sf,Ue]at e;refine⟨_,?_,e⟩;rw[ev];exact kI (by simpa using c5) c1 c2 c3 c4 (by simp;omega)
theorem uJ(n:Nd)(l:List Nd)(d:T):iA (n::l) d={ n with cond:=n.cond.and d.not }::l:=rfl
section
variable {pb:Nat} {ts:List Tok} {lv fv ov:Value}
def si(ts:List Tok)(o:Nat)(h:ay)(r:Syn.bE)(m:Nat)(xs:List ay)(l:List Nd)(g:ah)(ee:List bX):Prop:=
 ∃b,Syn.run ts m (.sCalls o h xs l g)=some b/\b.l=r.l/\b.f=r.f/\ee++b.e=r.e
theorem C6{o m:Nat}{h:ay}{r:Syn.bE}{l:List Nd}{g:ah}{ee:List bX}(k:si ts o h r m [] l g ee):l=r.l/\g=r.f/\ee=r.e:=by
 obtain⟨b,hb,h1,h2,h3⟩:=k;obtain⟨m',rfl,ac⟩:=bt hb;have aa:Syn.sCalls (Syn.run ts m') o h [] l g=some b:=ac;unfold Syn.sCalls at aa;simp only at aa;cases aa
 exact⟨h1,h2,by simpa using h3⟩
theorem zR{o m:Nat}{h:ay}{r:Syn.bE}{x:ay}{xs:List ay}{l:List Nd}{g:ah}{ee:List bX}(k:si ts o h r m (x::xs) l g ee):∃m' a,m=m'+1/\
  Syn.run ts m' (.listed false o (bA x))=some a/\l.length+1<=aF/\si ts o h r m' xs (iA (l++[⟨19,h.text,h.at',0,a.l,x.cond⟩]) x.cond) (Syn.joinAll g a.f) (ee++a.e):=by
 obtain⟨b0,hb,h1,h2,h3⟩:=k;obtain⟨m',rfl,am⟩:=bt hb;have aa:Syn.sCalls (Syn.run ts m') o h (x::xs) l g=some b0:=am;unfold Syn.sCalls at aa;simp only at aa;obtain⟨a,ha,ak⟩:=bw aa;obtain⟨_,an,aj⟩:=bw ak;obtain⟨b,ao,ac⟩:=bw aj;cases ac
 have:=m0 an;simp only[Tu,S4]at this;exact⟨m',a,rfl,ha,this,b,ao,h1,h2,by simpa[Te]using h3⟩
theorem si.le{o m:Nat}{h:ay}{r:Syn.bE}{xs:List ay}{l:List Nd}{g:ah}{ee:List bX}(k:si ts o h r m xs l g ee):ee.length<=r.e.length:=by
 obtain⟨b,_,_,_,h⟩:=k;rw[<-h];simp
theorem mI{I:PH}{nb a:Nat}{d:T}{b:Option Addr}{k:Nat}(h:aQ I nb 0 [iv a,sD b k d,rD d])(hr:cu I (.agg #[sD b k d,rD d]) d):du I (.slice (some ⟨nb,0,none⟩) 1 1) [(a,d)]:=
 ⟨_,_,rfl,.inr ⟨nb,0,[iv a,sD b k d,rD d],rfl,h,.one ⟨_,_,rfl,hr⟩⟩⟩
def O9(pb hb:Nat)(vc:Value)(vl vh:Value)(n:Nat)(tx:bM)(x:Nat×Value):St:=⟨dn 216 [(0,.v (pt pb)),(3,.v (pt hb)),(6,.v vc),(11,.v x.2),(12,.v vl),(94,.v vh),(95,.v (iv n)),(96,.v (iv x.1))],[]⟩
def Rn(pb:Nat)(ts:List Tok)(rc:Obj)(D:PH)(fin:List ay)(f0:ah)(I0:PH)(x:Nat×Value)(H:PH):Prop:=
 ∃I B,H=U [I,sg pb rc,D,B]/\Dj [I,sg pb rc,D,B]/\I0.le I/\x.1<=fin.length/\gP I B x.2 ((fin.take x.1).foldl joinH f0)
def Pg(pb hb:Nat)(vc:Value)(vh:Value)(n:Nat)(x:Nat×Nat×Value×Value×Value):St:=⟨dn 216 [(0,.v (pt pb)),(3,.v (pt hb)),(18,.v x.2.2.1),(19,.v x.2.2.2.1),(167,.v vh),(168,.v (iv n)),(169,.v (iv x.1))],[]⟩
def Rf(pb:Nat)(ts:List Tok)(lv fv ov:Value)(o M:Nat)(h:ay)(xs:List ay)(r:Syn.bE)(e:List bX)(I0:PH)(x:Nat×Nat×Value×Value×Value)(H:PH):Prop:=
 ∃I D A B l g ee,H=U [I,sg pb (bD lv fv ov x.2.2.2.2 o),D,A,B]/\Dj [I,sg pb (bD lv fv ov x.2.2.2.2 o),D,A,B]/\I0.le I/\x.1<=xs.length/\x.2.1<=M/\si ts o h r x.2.1 (xs.drop x.1) l g ee/\
  br I A x.2.2.1 l/\l≠[]/\l.length<=aF/\gP I B x.2.2.2.1 g/\FN ts.length g/\dl I D x.2.2.2.2 (e++ee)
theorem L8{n:Nat}(ih:iE pb ts lv fv ov n){o:Nat}{h0:ay}{r:Syn.bE}(hr:Syn.run ts n (.stmt o h0)=some r):qS pb ts lv fv ov (.stmt o h0) r:=by
 obtain⟨m,rfl,hs⟩:=bt hr;have a7:Syn.stmt ts (Syn.run ts m) o h0=some r:=hs;clear hs hr;intro ho I D dv xa xk e h hx g6 he hm hd;have hl:=h.len;unfold Syn.stmt at a7;have d7:∀s:bM,h0.text≠s->(h0.text == s)=false:=fun s k=>beq_eq_false_iff_ne.2 k;refine Ot Tryz.func264 rfl fun w0=>?_;simp only[Tryz.ntmps264,iv,pt,uh,sD,rD];apply bq 5;simp only[go_sem];refine eP 3 hd rfl fun hb jd=>?_;refine ag (c:=.st _) jd fun I2 ca bx jo=>?_;have hc:aQ I2 hb 0 [iv h0.at',sD xa xk h0.cond,rD h0.cond,.int .u8 h0.kind,.string ⟨⟨h0.text⟩⟩]:=(aU (by simp) rfl:aQ (sg hb (.cells [iv h0.at',sD xa xk h0.cond,rD h0.cond,.int .u8 h0.kind,.string ⟨⟨h0.text⟩⟩].toArray 227 (0,0))) hb 0 _).le jo;have gs:=hc.sub 0 1 (by simp);have hw:=hc.sub 1 2 (by simp);have fC:=hc.sub 4 1 (by simp);simp only[TT,Tm,TW,TV,Sf]at gs hw fC;have h2:=h.le bx;have d3:=dl.le he bx;have a0:=g6.le bx;apply RG;simp only[go_sem,kE,List.map,pt];refine Qz (l:=[.string ⟨⟨h0.text⟩⟩]) rfl (cellsU ca (.head _) fC) (.inr ⟨rz,rfl⟩) ?_;by_cases e1:h0.text=rg
 ·rw[SI e1]at a7;have q1:(h0.text == [118,97,114])=true:=by rw[e1];decide
  have cp:=hx.lt2 (s:=rg) (by decide) e1;apply RG;simp only[go_sem,q1,pt];refine Qz (l:=[iv h0.at',sD xa xk h0.cond,rD h0.cond,.int .u8 h0.kind,.string ⟨⟨h0.text⟩⟩]) (v:=.agg #[iv h0.at',sD xa xk h0.cond,rD h0.cond,.int .u8 h0.kind,.string ⟨⟨h0.text⟩⟩]) rfl (cellsU ca (.head _) hc) (.inl ⟨eS,rfl⟩) ?_;apply RG;simp only[go_sem,iv,pt,sD,rD];refine NB ca [0,1] rfl gC (by rfl) (ps:=[]) (F:=[sg pb _,D]) rfl (gx (h:=h0) (by omega) a0) fun v I4 qs cf am hq=>?_;obtain⟨rfl,c2⟩:=hq;simp only[Z3]at cf |-;apply RG;simp only[go_sem,iv,pt,sD,rD];refine NB cf [0,1] rfl Bv (by rfl) (ps:=[sg pb _,D]) (F:=[]) rfl (ih m (Tv m) (.vrb o (bh h0)) r a7 ho (h2.le am) c2 (bm hx cp) (d3.le am) hm) fun v I5 qs cc a6 hq=>?_;obtain⟨dv5,D5,rs,rfl,dA,⟨A5,B5,va5,vb5,rfl,rfl,c6,d1⟩,d5,d0⟩:=hq;simp only[Z3]at cc |-;apply RG;simp only[go_sem,iv,pt,sD,rD];exact ai rfl cc (r:=[va5,vb5]) rfl (Ui bx (Ui am a6)) ⟨dv5,D5,[A5,B5],rfl,dA,⟨A5,B5,va5,vb5,rfl,rfl,c6,d1⟩,d5,d0⟩
 rw[Sb e1]at a7;have q1:(h0.text == [118,97,114])=false:=d7 _ e1;by_cases e2:h0.text=ny
 ·rw[SI e2]at a7;have q2:(h0.text == [105,102])=true:=by rw[e2];decide
  apply RG;simp only[go_sem,q1,q2,pt];refine Qz (l:=[iv h0.at',sD xa xk h0.cond,rD h0.cond,.int .u8 h0.kind,.string ⟨⟨h0.text⟩⟩]) (v:=.agg #[iv h0.at',sD xa xk h0.cond,rD h0.cond,.int .u8 h0.kind,.string ⟨⟨h0.text⟩⟩]) rfl (cellsU ca (.head _) hc) (.inl ⟨eS,rfl⟩) ?_;apply RG;simp only[go_sem,iv,pt,sD,rD];refine NB ca [0,1] rfl BP (by rfl) (ps:=[sg pb _,D]) (F:=[]) rfl (ih m (Tv m) (.branch o h0 0) r a7 ho (by rw[e2];decide) h2 hx a0 d3 hm) fun v I5 qs cc a6 hq=>?_;obtain⟨dv5,D5,rs,rfl,dA,⟨A5,B5,va5,vb5,rfl,rfl,c6,d1⟩,d5,d0⟩:=hq;simp only[Z3]at cc |-;apply RG;simp only[go_sem,iv,pt,sD,rD];exact ai rfl cc (r:=[va5,vb5]) rfl (Ui bx a6) ⟨dv5,D5,[A5,B5],rfl,dA,⟨A5,B5,va5,vb5,rfl,rfl,c6,d1⟩,d5,d0⟩
 rw[Sb e2]at a7;have q2:(h0.text == [105,102])=false:=d7 _ e2;by_cases e3:h0.text=nK
 ·rw[SI e3]at a7;obtain⟨a,ha,ef⟩:=bw a7;obtain⟨b,hC,c7⟩:=bw ef;obtain⟨l1,ds,fa⟩:=bw c7;obtain⟨l2,ia,i4⟩:=bw fa;cases i4
  have b6:=ce ds;have hk:=ce ia;obtain rfl:=bg ds;obtain rfl:=bg ia;simp only[Tu]at hm;have q3:(h0.text == [119,104,105,108,101])=true:=by rw[e3];decide
  have cp:=hx.lt2 (s:=nK) (by decide) e3;apply RG;simp only[go_sem,q1,q2,q3,pt];refine Qz (l:=[iv h0.at',sD xa xk h0.cond,rD h0.cond,.int .u8 h0.kind,.string ⟨⟨h0.text⟩⟩]) (v:=.agg #[iv h0.at',sD xa xk h0.cond,rD h0.cond,.int .u8 h0.kind,.string ⟨⟨h0.text⟩⟩]) rfl (cellsU ca (.head _) hc) (.inl ⟨eS,rfl⟩) ?_;apply RG;simp only[go_sem,iv,pt,sD,rD];refine NB ca [0,1] rfl gC (by rfl) (ps:=[]) (F:=[sg pb _,D]) rfl (gx (h:=h0) (by omega) a0) fun v I4 qs cf am hq=>?_;obtain⟨rfl,c2⟩:=hq;simp only[Z3]at cf |-;apply RG;simp only[go_sem,iv,pt,sD,rD];refine NB cf [0,1] rfl wA (by rfl) (ps:=[sg pb _,D]) (F:=[]) rfl (ih m (Tv m) (.inside o (bh h0) 0) a ha ho (h2.le am) c2 (bm hx cp) (d3.le am) (by omega)) fun v I5 qs cc a6 hq=>?_;obtain⟨dv5,D5,rs,rfl,dA,⟨A5,B5,va5,vb5,rfl,rfl,c6,d1⟩,d5,d0⟩:=hq;simp only[Z3]at cc |-;apply RG;simp only[go_sem,iv,pt,sD,rD];refine ab cc [2,0,1,3] rfl fun cn=>?_;simp only[Z4]at cn |-;refine ag cn fun I6 cn b5 es=>?_;have j9:db I6 va5 a.l:=c6.sl b5 es;refine ab cn [2,0,1] rfl fun cm=>?_;simp only[Z4]at cm |-;refine ag cm fun I7 cm bd kn=>?_;have ez:=Ui b5 bd;have ki:du I7 vb5 a.f:=d1.sl ez kn;have e8:=Ui am (Ui a6 ez);refine NB cm [0,1] rfl pp (by rfl) (ps:=[sg pb _,D5]) (F:=[]) rfl (ih m (Tv m) (.block o a.f 1) b hC ho (h2.le e8) ki d5 (dA.le ez) (by simp only[Tu];omega)) fun v I8 qs c5 cr hq=>?_;obtain⟨dv8,D8,rs,rfl,kl,⟨A8,B8,va8,vb8,rfl,rfl,eH,eq⟩,kk,k1⟩:=hq;simp only[Z3]at c5 |-;apply RG;simp only[go_sem,iv,pt,sD,rD];refine ab c5 [2,0,1,3] rfl fun cb=>?_;simp only[Z4]at cb |-;refine ag cb fun I9 cb a9 d6=>?_;have j7:db I9 va8 b.l:=eH.sl a9 d6
  have h8:=Ui cr a9;have g0:=Ui e8 h8;refine NB cb [0,1,2] rfl rh (by rfl) (ps:=[]) (F:=[sg pb _,D8,B8]) rfl (wj (kind:=9) (h:=h0) (hc.le g0) (a0.le g0)) fun v d2 qs ao aj hq=>?_;obtain⟨A10,rfl,cA⟩:=hq;simp only[Z3]at ao |-;apply RG;simp only[go_sem,iv,pt,sD,rD];refine NB ao [0,1,2,3] rfl eQ (by rfl) (ps:=[A10]) (F:=[sg pb _,D8,B8]) rfl (ge cA (db.le j9 (Ui bd (Ui h8 aj))) (by simp[aF]) b6) fun v e0 qs aS ak hq=>?_;obtain⟨A11,rfl,h3⟩:=hq;simp only[Z3]at aS |-;apply RG;simp only[go_sem,iv,pt,sD,rD];refine NB aS [0,1,2,3] rfl eQ (by rfl) (ps:=[A11]) (F:=[sg pb _,D8,B8]) rfl (ge h3 (db.le j7 (Ui aj ak)) (by rw[bI];simp[aF]) hk) fun v12 ey qs ap an hq=>?_;obtain⟨A12,rfl,cy⟩:=hq;simp only[Z3]at ap |-;apply RG;simp only[go_sem,iv,pt,sD,rD];refine ab ap [1,2,0,3] rfl fun a2=>?_;simp only[Z4]at a2 |-;have k912:=Ui a9 (Ui aj (Ui ak an));exact ai rfl a2 (r:=[v12,vb8]) rfl (Ui bx (Ui g0 (Ui aj (Ui ak an)))) ⟨dv8,D8,[A12,B8],rfl,by simpa[Te]using kl.le k912,⟨A12,B8,v12,vb8,rfl,rfl,cy,eq.le k912⟩,kk,by simp only[bI];simp[aF]⟩
 rw[Sb e3]at a7;have q3:(h0.text == [119,104,105,108,101])=false:=d7 _ e3;by_cases e4:h0.text=Ky
 ·rw[SI e4]at a7;have q4:(h0.text == [123])=true:=by rw[e4];decide
  apply RG;simp only[go_sem,q1,q2,q3,q4,pt];refine Qz (l:=[iv h0.at']) rfl (cellsU ca (.head _) gs) (.inr ⟨mF,rfl⟩) ?_;apply RG;simp only[go_sem,iv,pt,sD,rD];refine Qz (l:=[sD xa xk h0.cond,rD h0.cond]) (v:=.agg #[sD xa xk h0.cond,rD h0.cond]) rfl (cellsU ca (.head _) hw) (.inl ⟨oQ,rfl⟩) ?_;apply RG;simp only[go_sem,iv,pt,sD,rD];refine av ca (by exact gY) rfl rfl rfl rfl rfl (by decide) fun nb I4 cf am hg=>?_;have c2:du I4 (.slice (some ⟨nb,0,none⟩) 1 1) (bA h0):=mI (az hg (by simp[aE,Value.cells]) (by simp[aE,Value.cells,iv,sD,rD])) (a0.le am);apply RG;simp only[go_sem,iv,pt,sD,rD];refine NB cf [0,1] rfl pp (by rfl) (ps:=[sg pb _,D]) (F:=[]) rfl (ih m (Tv m) (.block o (bA h0) 0) r a7 ho (h2.le am) c2 (gB hx) (d3.le am) hm) fun v I5 qs cc a6 hq=>?_;obtain⟨dv5,D5,rs,rfl,dA,⟨A5,B5,va5,vb5,rfl,rfl,c6,d1⟩,d5,d0⟩:=hq;simp only[Z3]at cc |-;apply RG;simp only[go_sem,iv,pt,sD,rD];exact ai rfl cc (r:=[va5,vb5]) rfl (Ui bx (Ui am a6)) ⟨dv5,D5,[A5,B5],rfl,dA,⟨A5,B5,va5,vb5,rfl,rfl,c6,d1⟩,d5,d0⟩
 rw[Sb e4]at a7;have q4:(h0.text == [123])=false:=d7 _ e4;by_cases e5:h0.text=lh
 ·rw[SI e5]at a7;obtain⟨fin,g,ed⟩:∃yes g,aC ts (bh h0) (bj bl)=(yes,g):=⟨_,_,rfl⟩;rw[ed]at a7;simp only at a7;obtain⟨a,ha,ef⟩:=bw a7;obtain⟨l1,ds,c7⟩:=bw ef;obtain⟨f2,ee2,ht⟩:∃g e1,Syn.take ts (fin.foldl joinH a.f) bl=(g,e1):=⟨_,_,rfl⟩;rw[ht]at c7;simp only at c7;cases c7
  have b6:=ce ds;obtain rfl:=bg ds;simp only[Tu]at hm;have q5:(h0.text == [114,101,116,117,114,110])=true:=by rw[e5];decide
  have cp:=hx.lt2 (s:=lh) (by decide) e5;have ea:=dH h.ok (bm hx cp) (is:=bj bl);have f5:=eR h.ok (bm hx cp) (bj bl);have eb:=cI h.ok (bm hx cp) (bj bl);rw[ed]at ea f5 eb;simp only at ea f5 eb;apply RG;simp only[go_sem,q1,q2,q3,q4,q5,pt];refine Qz (l:=[iv h0.at',sD xa xk h0.cond,rD h0.cond,.int .u8 h0.kind,.string ⟨⟨h0.text⟩⟩]) (v:=.agg #[iv h0.at',sD xa xk h0.cond,rD h0.cond,.int .u8 h0.kind,.string ⟨⟨h0.text⟩⟩]) rfl (cellsU ca (.head _) hc) (.inl ⟨eS,rfl⟩) ?_;apply RG;simp only[go_sem,iv,pt,sD,rD];refine NB ca [0,1] rfl gC (by rfl) (ps:=[]) (F:=[sg pb _,D]) rfl (gx (h:=h0) (by omega) a0) fun v I4 qs cf am hq=>?_;obtain⟨rfl,c2⟩:=hq;simp only[Z3]at cf |-;apply RG;simp only[go_sem,iv,pt,sD,rD];refine NB cf [0,1] rfl gy (by rfl) (ps:=[]) (F:=[sg pb _,D]) rfl (iz (s:=bl)) fun vi I5 qs cc a6 hq=>?_;obtain⟨rfl,ga⟩:=hq;simp only[Z3]at cc |-;obtain⟨fi,first,cap,rfl,gi,ci⟩:=id ga;apply RG;simp only[go_sem,iv,pt,sD,rD];refine NB cc [0,1] rfl gX (by rfl) (ps:=[sg pb _]) (F:=[D]) rfl (gT (h2.le (Ui am a6)) (c2.le a6) (bm hx cp) ga) fun v I6 qs cn b5 hq=>?_;obtain⟨A6,B6,va6,vb6,rfl,rfl,es,gj⟩:=hq;rw[ed]at es gj;simp only at es gj;obtain⟨xsa,xsc,rfl⟩:=es.shape;simp only[Z3]at cn |-;apply RG;simp only[go_sem,iv,pt,sD,rD];refine ab cn [1,0,2,3] rfl fun cm=>?_;simp only[Z4]at cm |-;refine ag cm fun I7 cm bd ie=>?_;have hD:m9 I7 (.slice xsa fin.length xsc) fin:=es.sl bd ie;refine ab cm [1,0,2] rfl fun c5=>?_;simp only[Z4]at c5 |-;refine ag c5 fun I8 c5 cr eq=>?_;have kd:du I8 vb6 g:=gj.sl (Ui bd cr) eq;have g2:=Ui am (Ui a6 (Ui b5 (Ui bd cr)))
  refine NB c5 [0,1] rfl nU (by rfl) (ps:=[sg pb _,D]) (F:=[]) rfl (n9 (ih m (Tv m) (.line 0 o g 0) a ha) ho (h2.le g2) kd eb (d3.le g2) (by omega)) fun v I9 qs cb a9 hq=>?_;obtain⟨dv9,D9,rs,rfl,gc,⟨A9,B9,va9,vb9,rfl,rfl,d6,gf⟩,eo,ic⟩:=hq;simp only[Z3]at cb |-;apply RG;simp only[go_sem,iv,pt,sD,rD];refine ab cb [2,0,1,3] rfl fun ao=>?_;simp only[Z4]at ao |-;refine ag ao fun d2 ao aj cA=>?_;have dy:db d2 va9 a.l:=d6.sl aj cA;have f3:=hD.le (Ui cr (Ui a9 aj));have k210:=Ui g2 (Ui a9 aj);refine aB (fun x=>fin.length-x.1) (O9 pb hb (.func (.func 291) #[] #[pt hb]) va9 (.slice xsa fin.length xsc) fin.length h0.text) (Rn pb ts (bD lv fv ov dv9 o) D9 fin a.f d2) (0,vb9) (ae (by simp only[go_sem,Tq,iv,pt])) (by simp only[go_sem,Tq,O9]) ?_ ?_
  ·exact⟨d2,B9,rfl,ao,Uj _,S6 _,gf.le aj⟩
  rintro⟨i,vb⟩ H ⟨e0,B11,rfl,aS,ak,hj,b0⟩ c9;simp only at hj b0;simp only[O9];have eA:=jp (ts:=ts) (hs:=fin.take i) (fun y hy=>(ea y (TA hy)).1) eo;rcases Sw i fin.length with fk|i9
  ·have h4:decide ((i:Int)<(fin.length:Int))=true:=by simp;omega
   have f1:=wrap64 (n:=i+1) (by omega);have f1':IntKind.i64.wrap ((i:Int)+1)=((i+1:Nat):Int):=by rw[<-f1];congr 1
   obtain⟨y,g4⟩:∃y,fin[i]?=some y:=⟨_,SC fk⟩;have i2:=(ea y (Tg g4)).1;obtain⟨bc,off2,cs2,rfl,hv,el⟩:=(f3.le ak).load jA.len g4;obtain⟨ya,yk,rfl,fb⟩:=hv;have e9:=cE (g:=joinH) (z:=a.f) g4;have i1:=i2.le;apply RG;simp only[go_sem,h4,iv,pt];refine⟨by omega,?_⟩;refine Qz (l:=[iv y.at',sD ya yk y.cond,rD y.cond,.int .u8 y.kind,.string ⟨⟨y.text⟩⟩]) (v:=.agg #[iv y.at',sD ya yk y.cond,rD y.cond,.int .u8 y.kind,.string ⟨⟨y.text⟩⟩]) rfl (cellsU aS (.head _) el) (.inl ⟨eS,rfl⟩) ?_;apply RG;simp only[go_sem,iv,pt,sD,rD];refine NB aS [2,0,1] rfl df (by rfl) (ps:=[B11]) (F:=[sg pb _,D9]) rfl (bo (a:=y.at') b0 fb eA.ok.2 (fun t ht=>by have:=eA.le t ht;omega) (by omega) (by have:=eA.len;omega)) fun v12 ey qs ap an hq=>?_;obtain⟨B12,rfl,er⟩:=hq;simp only[Z3]at ap |-;apply RG;simp only[go_sem,iv,pt,sD,rD,f1'];refine ab ap [1,2,0] rfl fun a2=>?_;simp only[Z4]at a2 |-;exact c9 (i+1,v12) _ _ (by simp only;omega) (ae (by simp only[go_sem,Tq,iv,pt])) (by simp only[go_sem,Tq,O9]) ⟨ey,B12,rfl,a2,Ui ak an,fk,by simp only;rw[e9];exact er⟩
  ·have hh:i=fin.length:=by omega
   subst hh;have h4:=Z6 fin.length;rw[Td]at b0 eA;apply RG;simp only[go_sem,h4,iv,pt];have k211:=Ui k210 ak;refine NB aS [0,1,2] rfl rh (by rfl) (ps:=[]) (F:=[sg pb _,D9,B11]) rfl (wj (kind:=10) (h:=h0) (hc.le k211) (a0.le k211)) fun v ey qs ap an hq=>?_;obtain⟨A12,rfl,cy⟩:=hq;simp only[Z3]at ap |-;apply RG;simp only[go_sem,iv,pt,sD,rD];refine NB ap [0,1,2,3] rfl eQ (by rfl) (ps:=[A12]) (F:=[sg pb _,D9,B11]) rfl (ge cy (db.le dy (Ui ak an)) (by simp[aF]) b6) fun v13 h7 qs a2 a4 hq=>?_;obtain⟨A13,rfl,cx⟩:=hq;simp only[Z3]at a2 |-;apply RG;simp only[go_sem,iv,pt,sD,rD];refine ab a2 [3,0,1,2] rfl fun cj=>?_;simp only[Z4]at cj |-;refine ag cj fun h6 cj ba hU=>?_;have k1114:=Ui an (Ui a4 ba);have hK:du h6 vb (fin.foldl joinH a.f):=gP.sl (b0.le (Ui an a4)) ba hU;have k914:=Ui aj (Ui ak k1114);refine NB cj [1,2,0] rfl fQ (by rfl) (ps:=[sg pb _,D9]) (F:=[A13]) rfl (ii (s:=bl) (h2.le (Ui k211 k1114)) hK eA (by decide) (gc.le k914) (by rw[ht];simp only[Tu];omega)) fun v15 gn qs b2 a1 hq=>?_;obtain⟨dv15,D15,rs,rfl,b3,B15,rfl,b4⟩:=hq;rw[ht]at b3 b4;have tf:=cN h.ok eA (s:=bl) (by decide);rw[ht]at tf;simp only at b3 b4 tf;simp only[Z3]at b2 |-;apply RG;simp only[go_sem,iv,pt,sD,rD];refine ab b2 [0,1,3,2] rfl fun b1=>?_;simp only[Z4]at b1 |-;exact ai rfl b1 (r:=[v13,v15]) rfl (Ui bx (Ui k211 (Ui k1114 a1))) ⟨dv15,D15,[A13,B15],rfl,by simpa[Te]using b3,⟨A13,B15,v13,v15,rfl,rfl,cx.le (Ui ba a1),b4⟩,tf,by simp only[bI];simp[aF]⟩
 rw[Sb e5]at a7;have q5:(h0.text == [114,101,116,117,114,110])=false:=d7 _ e5;by_cases e6:h0.text=n8\/h0.text=fe
 ·rw[SI e6]at a7;obtain⟨a,ha,ef⟩:=bw a7;obtain⟨l1,ds,c7⟩:=bw ef;obtain⟨f2,ee2,ht⟩:∃g e1,Syn.take ts a.f bl=(g,e1):=⟨_,_,rfl⟩;rw[ht]at c7;simp only at c7;cases c7
  have b6:=ce ds;obtain rfl:=bg ds;simp only[Tu]at hm;have cp:h0.at'<ts.length:=e6.elim (hx.lt2 (s:=n8) (by decide)) (hx.lt2 (s:=fe) (by decide));by_cases e7:h0.text=fe
  ·have q6:(h0.text == [112,114,105,110,116])=false:=by rw[e7];decide
   have q7:(h0.text == [97,115,115,101,114,116])=true:=by rw[e7];decide
   rw[SI e7]at b6 |-;apply RG;simp only[go_sem,q1,q2,q3,q4,q5,q6,q7,pt];refine Qz (l:=[.string ⟨⟨h0.text⟩⟩]) rfl (cellsU ca (.head _) fC) (.inr ⟨rz,rfl⟩) ?_;apply RG;simp only[go_sem,q7,pt];refine Qz (l:=[iv h0.at',sD xa xk h0.cond,rD h0.cond,.int .u8 h0.kind,.string ⟨⟨h0.text⟩⟩]) (v:=.agg #[iv h0.at',sD xa xk h0.cond,rD h0.cond,.int .u8 h0.kind,.string ⟨⟨h0.text⟩⟩]) rfl (cellsU ca (.head _) hc) (.inl ⟨eS,rfl⟩) ?_;apply RG;simp only[go_sem,iv,pt,sD,rD];refine NB ca [0,1] rfl gC (by rfl) (ps:=[]) (F:=[sg pb _,D]) rfl (gx (h:=h0) (by omega) a0) fun v I4 qs cf am hq=>?_;obtain⟨rfl,c2⟩:=hq;simp only[Z3]at cf |-;apply RG;simp only[go_sem,iv,pt,sD,rD];refine NB cf [0,1] rfl nU (by rfl) (ps:=[sg pb _,D]) (F:=[]) rfl (n9 (ih m (Tv m) (.line 0 o (bh h0) 0) a ha) ho (h2.le am) c2 (bm hx cp) (d3.le am) (by omega)) fun v I9 qs cb a9 hq=>?_;obtain⟨dv9,D9,rs,rfl,gc,⟨A9,B9,va9,vb9,rfl,rfl,d6,gf⟩,eo,ic⟩:=hq;simp only[Z3]at cb |-;apply RG;simp only[go_sem,iv,pt,sD,rD];refine ab cb [2,0,1,3] rfl fun ao=>?_;simp only[Z4]at ao |-;refine ag ao fun d2 ao aj cA=>?_;have dy:db d2 va9 a.l:=d6.sl aj cA;refine ab ao [2,0,1] rfl fun aS=>?_;simp only[Z4]at aS |-;refine ag aS fun e0 aS ak b0=>?_;have en:du e0 vb9 a.f:=gf.sl (Ui aj ak) b0;have k211:=Ui am (Ui a9 (Ui aj ak));refine NB aS [0,1] rfl rh (by rfl) (ps:=[]) (F:=[sg pb _,D9]) rfl (wj (kind:=12) (h:=h0) (hc.le k211) (a0.le k211)) fun v ey qs ap an hq=>?_;obtain⟨A12,rfl,cy⟩:=hq;simp only[Z3]at ap |-;apply RG;simp only[go_sem,iv,pt,sD,rD]
   refine NB ap [0,1,2] rfl eQ (by rfl) (ps:=[A12]) (F:=[sg pb _,D9]) rfl (ge cy (db.le dy (Ui ak an)) (by simp[aF]) b6) fun v13 h7 qs a2 a4 hq=>?_;obtain⟨A13,rfl,cx⟩:=hq;simp only[Z3]at a2 |-;apply RG;simp only[go_sem,iv,pt,sD,rD];have k1113:=Ui an a4;refine NB a2 [1,2,0] rfl fQ (by rfl) (ps:=[sg pb _,D9]) (F:=[A13]) rfl (ii (s:=bl) (h2.le (Ui k211 k1113)) (en.le k1113) eo (by decide) (gc.le (Ui aj (Ui ak k1113))) (by rw[ht];simp only[Tu];omega)) fun v15 gn qs b2 a1 hq=>?_;obtain⟨dv15,D15,rs,rfl,b3,B15,rfl,b4⟩:=hq;rw[ht]at b3 b4;have tf:=cN h.ok eo (s:=bl) (by decide);rw[ht]at tf;simp only at b3 b4 tf;simp only[Z3]at b2 |-;apply RG;simp only[go_sem,iv,pt,sD,rD];refine ab b2 [0,1,3,2] rfl fun b1=>?_;simp only[Z4]at b1 |-;exact ai rfl b1 (r:=[v13,v15]) rfl (Ui bx (Ui k211 (Ui k1113 a1))) ⟨dv15,D15,[A13,B15],rfl,by simpa[Te]using b3,⟨A13,B15,v13,v15,rfl,rfl,cx.le a1,b4⟩,tf,by simp only[bI];simp[aF]⟩
  ·have q6:(h0.text == [112,114,105,110,116])=true:=by rw[e6.resolve_right e7];decide
   have q7:(h0.text == [97,115,115,101,114,116])=false:=d7 _ e7;rw[Sb e7]at b6 |-;apply RG;simp only[go_sem,q1,q2,q3,q4,q5,q6,pt];refine Qz (l:=[.string ⟨⟨h0.text⟩⟩]) rfl (cellsU ca (.head _) fC) (.inr ⟨rz,rfl⟩) ?_;apply RG;simp only[go_sem,q7,pt];refine Qz (l:=[iv h0.at',sD xa xk h0.cond,rD h0.cond,.int .u8 h0.kind,.string ⟨⟨h0.text⟩⟩]) (v:=.agg #[iv h0.at',sD xa xk h0.cond,rD h0.cond,.int .u8 h0.kind,.string ⟨⟨h0.text⟩⟩]) rfl (cellsU ca (.head _) hc) (.inl ⟨eS,rfl⟩) ?_;apply RG;simp only[go_sem,iv,pt,sD,rD];refine NB ca [0,1] rfl gC (by rfl) (ps:=[]) (F:=[sg pb _,D]) rfl (gx (h:=h0) (by omega) a0) fun v I4 qs cf am hq=>?_;obtain⟨rfl,c2⟩:=hq;simp only[Z3]at cf |-;apply RG;simp only[go_sem,iv,pt,sD,rD];refine NB cf [0,1] rfl nU (by rfl) (ps:=[sg pb _,D]) (F:=[]) rfl (n9 (ih m (Tv m) (.line 0 o (bh h0) 0) a ha) ho (h2.le am) c2 (bm hx cp) (d3.le am) (by omega)) fun v I9 qs cb a9 hq=>?_;obtain⟨dv9,D9,rs,rfl,gc,⟨A9,B9,va9,vb9,rfl,rfl,d6,gf⟩,eo,ic⟩:=hq;simp only[Z3]at cb |-;apply RG;simp only[go_sem,iv,pt,sD,rD];refine ab cb [2,0,1,3] rfl fun ao=>?_;simp only[Z4]at ao |-;refine ag ao fun d2 ao aj cA=>?_;have dy:db d2 va9 a.l:=d6.sl aj cA;refine ab ao [2,0,1] rfl fun aS=>?_;simp only[Z4]at aS |-;refine ag aS fun e0 aS ak b0=>?_;have en:du e0 vb9 a.f:=gf.sl (Ui aj ak) b0;have k211:=Ui am (Ui a9 (Ui aj ak));refine NB aS [0,1] rfl rh (by rfl) (ps:=[]) (F:=[sg pb _,D9]) rfl (wj (kind:=11) (h:=h0) (hc.le k211) (a0.le k211)) fun v ey qs ap an hq=>?_;obtain⟨A12,rfl,cy⟩:=hq;simp only[Z3]at ap |-;apply RG;simp only[go_sem,iv,pt,sD,rD]
   refine NB ap [0,1,2] rfl eQ (by rfl) (ps:=[A12]) (F:=[sg pb _,D9]) rfl (ge cy (db.le dy (Ui ak an)) (by simp[aF]) b6) fun v13 h7 qs a2 a4 hq=>?_;obtain⟨A13,rfl,cx⟩:=hq;simp only[Z3]at a2 |-;apply RG;simp only[go_sem,iv,pt,sD,rD];have k1113:=Ui an a4;refine NB a2 [1,2,0] rfl fQ (by rfl) (ps:=[sg pb _,D9]) (F:=[A13]) rfl (ii (s:=bl) (h2.le (Ui k211 k1113)) (en.le k1113) eo (by decide) (gc.le (Ui aj (Ui ak k1113))) (by rw[ht];simp only[Tu];omega)) fun v15 gn qs b2 a1 hq=>?_;obtain⟨dv15,D15,rs,rfl,b3,B15,rfl,b4⟩:=hq;rw[ht]at b3 b4;have tf:=cN h.ok eo (s:=bl) (by decide);rw[ht]at tf;simp only at b3 b4 tf;simp only[Z3]at b2 |-;apply RG;simp only[go_sem,iv,pt,sD,rD];refine ab b2 [0,1,3,2] rfl fun b1=>?_;simp only[Z4]at b1 |-;exact ai rfl b1 (r:=[v13,v15]) rfl (Ui bx (Ui k211 (Ui k1113 a1))) ⟨dv15,D15,[A13,B15],rfl,by simpa[Te]using b3,⟨A13,B15,v13,v15,rfl,rfl,cx.le a1,b4⟩,tf,by simp only[bI];simp[aF]⟩
 rw[Sb e6]at a7;have q6:(h0.text == [112,114,105,110,116])=false:=d7 _ fun k=>e6 (.inl k);have q7:(h0.text == [97,115,115,101,114,116])=false:=d7 _ fun k=>e6 (.inr k);simp only at a7;apply RG;simp only[go_sem,q1,q2,q3,q4,q5,q6,q7,pt];refine Qz (l:=[iv h0.at']) rfl (cellsU ca (.head _) gs) (.inr ⟨mF,rfl⟩) ?_;apply RG;simp only[go_sem,iv,pt,sD,rD];refine Qz (l:=[sD xa xk h0.cond,rD h0.cond]) (v:=.agg #[sD xa xk h0.cond,rD h0.cond]) rfl (cellsU ca (.head _) hw) (.inl ⟨oQ,rfl⟩) ?_;apply RG;simp only[go_sem,iv,pt,sD,rD];refine av ca (by exact gY) rfl rfl rfl rfl rfl (by decide) fun nb I4 cf am hg=>?_;have c2:du I4 (.slice (some ⟨nb,0,none⟩) 1 1) (bA h0):=mI (az hg (by simp[aE,Value.cells]) (by simp[aE,Value.cells,iv,sD,rD])) (a0.le am);have fh:=gB hx;have nf:=fL h.ok fh 7 0;have nl:=iU h.ok fh 7 0;apply RG;simp only[go_sem,iv,pt,sD,rD];by_cases e7:(named ts (bA h0) 7 0).l=[]
 ·rw[SI e7]at a7;cases a7
  refine NB cf [0,1] rfl mC (by rfl) (ps:=[sg pb _,D]) (F:=[]) rfl (mQ (kind:=7) (slot:=0) (f:=bA h0) (h2.le am) c2 fh (d3.le am) (by simpa using hm)) fun v I5 qs cc a6 hq=>?_;obtain⟨dv5,D5,rs,rfl,dA,⟨A5,B5,va5,vb5,rfl,rfl,c6,d1⟩,d5,d0⟩:=hq;obtain⟨aa,ac,rfl⟩:=c6.shape;simp only[Z3]at cc |-;have h0l:(((named ts (bA h0) 7 0).l.length:Int) == 0)=true:=by rw[e7];rfl
  apply RG;simp only[go_sem,iv,pt,sD,rD,h0l];refine ab cc [2,0,1,3] rfl fun cn=>?_;simp only[Z4]at cn |-;refine ag cn fun I6 cn b5 es=>?_;refine ab cn [2,0,1] rfl fun cm=>?_;simp only[Z4]at cm |-;refine ag cm fun I7 cm bd ie=>?_;have ez:=Ui b5 bd;refine aT cm fun c5=>?_;refine aT c5 fun cb=>?_;refine ab cb [2,3,0,1] rfl fun ao=>?_;simp only[Z4]at ao |-;exact ai rfl ao (r:=[.slice none 0 0,.slice none 0 0]) rfl (Ui bx (Ui am (Ui a6 ez))) ⟨dv5,D5,[PH.no,PH.no],rfl,dA.le ez,⟨PH.no,PH.no,_,_,rfl,rfl,Ow.nil _ _ _ _,Ow.nil _ _ _ _⟩,FN.nil _,S6 _⟩
 rw[Sb e7]at a7;obtain⟨xs,g,ed⟩:∃yes g,aC ts (named ts (bA h0) 7 0).f (bj hZ)=(yes,g):=⟨_,_,rfl⟩;rw[ed]at a7;simp only at a7;obtain⟨g1,ee1,ht⟩:∃g1 e1,Syn.take ts g zJ=(g1,e1):=⟨_,_,rfl⟩;rw[ht]at a7;simp only at a7;obtain⟨b,hC,ef⟩:=bw a7;obtain⟨l1,ds,c7⟩:=bw ef;obtain⟨c,jg,fa⟩:=bw c7;obtain⟨f2,ee2,gr⟩:∃g e1,Syn.take ts c.f bl=(g,e1):=⟨_,_,rfl⟩;rw[gr]at fa;simp only at fa;cases fa
 have b6:=ce ds;obtain rfl:=bg ds;simp only[Tu]at hm;have ea:=dH h.ok nf (is:=bj hZ);have f5:=eR h.ok nf (bj hZ);have eb:=cI h.ok nf (bj hZ);rw[ed]at ea f5 eb;simp only at ea f5 eb;have tf:=cN h.ok eb (s:=zJ) (by decide);rw[ht]at tf;simp only at tf;refine NB cf [0,1] rfl mC (by rfl) (ps:=[sg pb _,D]) (F:=[]) rfl (mQ (kind:=7) (slot:=0) (f:=bA h0) (h2.le am) c2 fh (d3.le am) (by omega)) fun v I5 qs cc a6 hq=>?_;obtain⟨dv5,D5,rs,rfl,dA,⟨A5,B5,va5,vb5,rfl,rfl,c6,d1⟩,d5,d0⟩:=hq;obtain⟨aa,ac,rfl⟩:=c6.shape;simp only[Z3]at cc |-;have h0l:(((named ts (bA h0) 7 0).l.length:Int) == 0)=false:=by
  rw[Uf];intro k;exact e7 (List.length_eq_zero_iff.1 (by omega))
 apply RG;simp only[go_sem,iv,pt,sD,rD,h0l];refine ab cc [3,0,1,2] rfl fun cn=>?_;simp only[Z4]at cn |-;refine ag cn fun I6 cn b5 gj=>?_;have kj:du I6 vb5 (named ts (bA h0) 7 0).f:=d1.sl b5 gj;refine NB cn [0,1,2] rfl gy (by rfl) (ps:=[]) (F:=[sg pb _,D5,A5]) rfl (iz (s:=hZ)) fun vi I7 qs cm bd hq=>?_;obtain⟨rfl,ga⟩:=hq;simp only[Z3]at cm |-;obtain⟨fi,first,cap,rfl,gi,ci⟩:=id ga;apply RG;simp only[go_sem,iv,pt,sD,rD];have e8:=Ui am (Ui a6 (Ui b5 bd));refine NB cm [0,1,2] rfl gX (by rfl) (ps:=[sg pb _]) (F:=[D5,A5]) rfl (gT (h2.le e8) (kj.le bd) nf ga) fun v I8 qs c5 cr hq=>?_;obtain⟨A8,B8,va8,vb8,rfl,rfl,eH,eq⟩:=hq;rw[ed]at eH eq;simp only at eH eq;obtain⟨xsa,xsc,rfl⟩:=eH.shape;simp only[Z3]at c5 |-;apply RG;simp only[go_sem,iv,pt,sD,rD];refine ab c5 [1,0,2,3,4] rfl fun cb=>?_;simp only[Z4]at cb |-;refine ag cb fun I9 cb a9 d6=>?_;have hD:m9 I9 (.slice xsa xs.length xsc) xs:=eH.sl a9 d6;refine ab cb [1,0,2,3] rfl fun ao=>?_;simp only[Z4]at ao |-;refine ag ao fun d2 ao aj hW=>?_;have hM:du d2 vb8 g:=eq.sl (Ui a9 aj) hW;have k710:=Ui cr (Ui a9 aj);have k510:=Ui b5 (Ui bd k710);have k210:=Ui e8 k710;refine NB ao [0,1,2] rfl fQ (by rfl) (ps:=[sg pb _,D5]) (F:=[A5]) rfl (ii (s:=zJ) (h2.le k210) hM eb (by decide) (dA.le k510) (by rw[ht];simp only[Tu];omega)) fun v e0 qs aS ak hq=>?_;obtain⟨dv11,D11,rs,rfl,ep,B11,rfl,b0⟩:=hq;rw[ht]at ep b0;simp only at ep b0;simp only[Z3]at aS |-;apply RG;simp only[go_sem,iv,pt,sD,rD];refine ab aS [2,0,1,3] rfl fun ap=>?_;simp only[Z4]at ap |-;refine ag ap fun ey ap an er=>?_
 have hL:du ey v g1:=b0.sl an er;have k1012:=Ui ak an;refine NB ap [0,1,2] rfl nU (by rfl) (ps:=[sg pb _,D11]) (F:=[A5]) rfl (n9 (ih m (Tv m) (.line 0 o g1 0) b hC) ho (h2.le (Ui k210 k1012)) hL tf (ep.le an) (by simp only[Tu];omega)) fun v h7 qs a2 a4 hq=>?_;obtain⟨dv13,D13,rs,rfl,hP,⟨A13,B13,va13,vb13,rfl,rfl,cx,hV⟩,hO,j2⟩:=hq;simp only[Z3]at a2 |-;apply RG;simp only[go_sem,iv,pt,sD,rD];refine ab a2 [2,0,1,3,4] rfl fun cj=>?_;simp only[Z4]at cj |-;refine ag cj fun h6 cj ba h1=>?_;have hG:db h6 va13 b.l:=cx.sl ba h1;have k514:=Ui k510 (Ui k1012 (Ui a4 ba));have k214:=Ui k210 (Ui k1012 (Ui a4 ba));refine NB cj [3,0,1,2] rfl eQ (by rfl) (ps:=[A5]) (F:=[sg pb _,D13,B13]) rfl (ge (c6.le k514) hG d0 b6) fun v15 gn qs b2 a1 hq=>?_;obtain⟨A15,rfl,gl⟩:=hq;obtain⟨za,zc,rfl⟩:=gl.shape;simp only[Z3]at b2 |-;apply RG;simp only[go_sem,iv,pt,sD,rD];refine ab b2 [1,2,0,3] rfl fun b1=>?_;simp only[Z4]at b1 |-;have k1315:=Ui ba a1;have j5:si ts o h0 ⟨c.l,c.f,(named ts (bA h0) 7 0).e++ee1++b.e++c.e⟩ m xs (give (named ts (bA h0) 7 0).l b.l) b.f ((named ts (bA h0) 7 0).e++ee1++b.e):=⟨c,jg,rfl,rfl,rfl⟩;have f0:=hD.le (Ui aj (Ui k1012 (Ui a4 k1315)));have k215:=Ui k214 a1
 refine aB (fun x=>xs.length-x.1) (Pg pb hb (.func (.func 291) #[] #[pt hb]) (.slice xsa xs.length xsc) xs.length) (Rf pb ts lv fv ov o m h0 xs ⟨c.l,c.f,(named ts (bA h0) 7 0).e++ee1++b.e++c.e⟩ e gn) (0,m,.slice za (give (named ts (bA h0) 7 0).l b.l).length zc,vb13,dv13) (ae (by simp only[go_sem,Tq,iv,pt])) (by simp only[go_sem,Tq,Pg]) ?_ ?_
 ·exact⟨gn,D13,A15,B13,_,_,_,rfl,b1,Uj _,S6 _,R7 _,j5,gl,fun k=>e7 (by simpa[give]using k),by rw[bI];exact d0,hV.le k1315,hO,by simpa[Te]using hP.le k1315⟩
 rintro⟨i,m',va,vb,dw⟩ H ⟨k4,D17,A17,B17,l,gg,ee,rfl,ei,dk,hj,i5,f7,hA,i6,h9,hB,gt,hE⟩ c9;simp only at hj i5 f7 hA hB hE;simp only[Pg];have g3:=Ui k215 dk;have i0:=h2.le g3;rcases Sw i xs.length with cp|i9
 ·have ex:decide ((i:Int)<(xs.length:Int))=true:=by simp;omega
  have f1:=wrap64 (n:=i+1) (by omega);have f1':IntKind.i64.wrap ((i:Int)+1)=((i+1:Nat):Int):=by rw[<-f1];congr 1
  obtain⟨x,gq⟩:∃x,xs[i]?=some x:=⟨_,SC cp⟩;obtain⟨i3,kO⟩:=ea x (Tg gq);obtain⟨bb,off,cs,rfl,jf,fA⟩:=(f0.le dk).load jA.len gq;obtain⟨ya,yk,rfl,c8⟩:=jf;have ja:xs.drop i=x::xs.drop (i+1):=by
   rw[S5 cp];rw[SC cp]at gq;rw[Tk gq]
  rw[ja]at f7;obtain⟨m'',aa',rfl,j0,fl,d4⟩:=zR f7;have fn:=d4.le;simp only[Tu]at fn;apply RG;simp only[go_sem,ex,iv,pt];refine⟨by omega,?_⟩;refine Qz (l:=[iv x.at',sD ya yk x.cond,rD x.cond,.int .u8 x.kind,.string ⟨⟨x.text⟩⟩]) (v:=.agg #[iv x.at',sD ya yk x.cond,rD x.cond,.int .u8 x.kind,.string ⟨⟨x.text⟩⟩]) rfl (cellsU ei (.head _) fA) (.inl ⟨eS,rfl⟩) ?_;apply RG;simp only[go_sem,iv,pt,sD,rD];refine av ei (by exact gY) rfl rfl rfl rfl rfl (by decide) fun nb2 h5 c4 a3 hf=>?_;have hN:du h5 (.slice (some ⟨nb2,0,none⟩) 1 1) (bA x):=mI (az hf (by simp[aE,Value.cells]) (by simp[aE,Value.cells,iv,sD,rD])) (c8.le a3);apply RG;simp only[go_sem,iv,pt,sD,rD];refine NB c4 [0,1,2,3] rfl wE (by rfl) (ps:=[sg pb _,D17]) (F:=[A17,B17]) rfl (ih m'' (by omega) (.listed false o (bA x)) aa' j0 ho (i0.le a3) hN (gB i3) (hE.le a3) (by simp only[Tu];omega)) fun v kx qs dx cl hq=>?_;obtain⟨dv19,D19,rs,rfl,dI,⟨A19,B19,va19,vb19,rfl,rfl,et,dT⟩,gb,j1⟩:=hq;have em:=et.capN aW.len;obtain⟨ka,kc,rfl⟩:=et.shape;simp only[Z3]at dx |-;apply RG;simp only[go_sem,iv,pt,sD,rD];refine ab dx [2,0,1,3,4,5] rfl fun ct=>?_;simp only[Z4]at ct |-;refine ag ct fun kv ct dj hY=>?_;have hF:db kv (.slice ka aa'.l.length kc) aa'.l:=et.sl dj hY;refine ab ct [2,0,1,3,4] rfl fun c3=>?_;simp only[Z4]at c3 |-;refine ag c3 fun kt c3 dd hS=>?_;have hH:du kt vb19 aa'.f:=dT.sl (Ui dj dd) hS;have k1921:=Ui dj dd;have k1721:=Ui a3 (Ui cl k1921);have k221:=Ui g3 k1721;refine Qz (l:=[.string ⟨⟨h0.text⟩⟩]) rfl (cellsU c3 (.head _) (fC.le k221)) (.inr ⟨rz,rfl⟩) ?_
  apply RG;simp only[go_sem,iv,pt,sD,rD];refine Qz (l:=[iv h0.at']) rfl (cellsU c3 (.head _) (gs.le k221)) (.inr ⟨mF,rfl⟩) ?_;apply RG;simp only[go_sem,iv,pt,sD,rD];refine av c3 (by exact cT) rfl rfl rfl rfl rfl (by decide) fun nb3 k3 hu c1 g8=>?_;apply RG;simp only[go_sem,iv,pt,sD,rD];refine ab hu [2,0,1,3] rfl fun eh=>?_;simp only[Z4]at eh |-;have k1722:=Ui k1721 c1;obtain⟨bs,d9,hz⟩:=hA;obtain⟨wa,wc,rfl⟩:=d9.slice;unfold aF at fl h9;refine dr (m:=1) eh (by exact cT) d9 rfl rfl rfl rfl (cellsU eh (.head _) (az (l:=[.int .u8 19,.string ⟨⟨h0.text⟩⟩,.int .i64 h0.at',.int .i64 0,.slice ka aa'.l.length kc,.slice ya (T.subs x.cond).length yk,iv (T.plc (T.subs x.cond) x.cond)]) g8 (by simp[aE,Value.cells]) (by simp[aE,Value.cells,iv]))) rfl rfl (by omega) (by unfold maxLen;omega) fun v' kr A24 eg c0 gk=>?_;obtain⟨na,nc,rfl⟩:=gk.slice;have k1724:=Ui k1722 c0;have k1824:=Ui cl (Ui k1921 (Ui c1 c0));have ec:br kr A24 (.slice na (l.length+1) nc) (l++[⟨19,h0.text,h0.at',0,aa'.l,x.cond⟩]):=by
   refine⟨_,by rw[Tu];exact gk,LR.app (hz.mono fun _ _ h=>aW.le h k1724) (.one (aW.mk (n:=⟨19,h0.text,h0.at',0,aa'.l,x.cond⟩) (c8.le k1724) (hF.le (Ui dd (Ui c1 c0))) em))⟩
  obtain⟨n1,l1,rfl⟩:∃n1 l1,l=n1::l1:=by
   cases l with
   |nil=>exact absurd rfl i6
   |cons n1 l1=>exact⟨n1,l1,rfl⟩
  rw[SS]at ec d4;rw[uJ]at d4;obtain⟨g5,cap5,cur,a5,k5,ev,rfl,k0,ek,fc,g7⟩:=yM ec;have ev1:na=some ⟨g5,0,none⟩:=by injection ev
  subst ev1;apply RG;simp only[go_sem,iv,pt,sD,rD];refine go mixed [0,1,2,3,4,5,6,7,8,9,10,11] [] [] [4] [7] (sg g5 (.cells cur 60 (0,0))) rfl rfl ?_;apply af;simp only[go_sem,iv,pt,sD,rD];refine⟨by omega,?_⟩;refine gm (l:=[sD a5 k5 n1.cond,rD n1.cond]) (v:=.agg #[sD a5 k5 n1.cond,rD n1.cond]) rfl (cw eg) rfl rfl rfl ek (.inl ⟨oQ,rfl⟩) ?_;apply af;simp only[go_sem,iv,pt,sD,rD];refine pw eg [0,1,2,3] rfl rfl rfl rfl rfl mn (by rfl) (ps:=[]) (F:=[sg g5 _,sg pb _,D19,B17]) rfl (cw eg) (qK (c8.le k1724)) fun v k2 qs fz cB hq=>?_;obtain⟨rfl,fj⟩:=hq;obtain⟨ra,rk,rfl⟩:=fj.shape2;simp only[Z3]at fz |-;apply af;simp only[go_sem,iv,pt,sD,rD];refine Og fz [0,1,2,3] rfl (fun h=>by cases h) rfl iy (by rfl) (ps:=[]) (F:=[sg g5 _,sg pb _,D19,B17]) rfl (lE (fc.le cB) fj) fun v kq qs fs dc hq=>?_;obtain⟨rfl,fg⟩:=hq;obtain⟨ta,tk,rfl⟩:=fg.shape2;simp only[Z3]at fs |-;apply af;simp only[go_sem,iv,pt,sD,rD];refine⟨by omega,?_⟩;refine aH fs rfl rfl rfl rfl rfl rfl (by exact zp) (by simp;omega) fun hn=>?_;refine aw ?_;have hX:=g7 kq ta tk (n1.cond.and x.cond.not) (Ui cB dc) fg;apply RG;simp only[go_sem,iv,pt,sD,rD];have k1726:=Ui k1724 (Ui cB dc);have k2126:=Ui c1 (Ui c0 (Ui cB dc));refine NB hn [3,0,1,2] rfl dp (by rfl) (ps:=[B17]) (F:=[sg g5 _,sg pb _,D19]) rfl (b7 (N:=ts.length) (by omega) (hB.le k1726) gt (hH.le k2126) gb) fun v28 kp qs fr da hq=>?_;obtain⟨B28,rfl,hR⟩:=hq;simp only[Z3]at fr |-;apply RG;simp only[go_sem,iv,pt,sD,rD,f1'];refine ab fr [2,3,1,0] rfl fun fo=>?_;simp only[Z4]at fo |-
  refine c9 (i+1,m'',.slice (some ⟨g5,0,none⟩) (l1.length+1+1) nc,v28,dv19) _ _ (by simp only;omega) (ae (by simp only[go_sem,Tq,iv,pt])) (by simp only[go_sem,Tq,Pg]) ⟨kp,D19,_,B28,_,_,_,rfl,fo,Ui dk (Ui k1726 da),cp,by simp only;omega,d4,br.le hX da,List.cons_ne_nil _ _,?_,hR,gt.joinAll gb,by simpa[Te]using dI.le (Ui k1921 (Ui k2126 da))⟩;simp only[SB,Tu,S9]at fl |-;unfold aF;omega
 ·have hh:i=xs.length:=by omega
  subst hh;have ex:=Z6 xs.length;rw[T4]at f7;obtain⟨rfl,rfl,rfl⟩:=C6 f7;apply RG;simp only[go_sem,ex,iv,pt];refine ab ei [3,0,1,2] rfl fun c4=>?_;simp only[Z4]at c4 |-;refine ag c4 fun h5 c4 a3 hT=>?_;have hJ:du h5 vb c.f:=gP.sl hB a3 hT;refine NB c4 [0,1,2] rfl fQ (by rfl) (ps:=[sg pb _,D17]) (F:=[A17]) rfl (ii (s:=bl) (i0.le a3) hJ gt (by decide) (hE.le a3) (by rw[gr];simp only[Tu];omega)) fun v19 kx qs dx cl hq=>?_;obtain⟨dv19,D19,rs,rfl,dI,B19,rfl,dT⟩:=hq;rw[gr]at dI dT;have tf2:=cN h.ok gt (s:=bl) (by decide);rw[gr]at tf2;simp only at dI dT tf2;simp only[Z3]at dx |-;apply RG;simp only[go_sem,iv,pt,sD,rD];refine ab dx [0,1,3,2] rfl fun ct=>?_;simp only[Z4]at ct |-;exact ai rfl ct (r:=[va,v19]) rfl (Ui bx (Ui g3 (Ui a3 cl))) ⟨dv19,D19,[A17,B19],rfl,by simpa[Te]using dI,⟨A17,B19,va,v19,rfl,rfl,br.le hA (Ui a3 cl),dT⟩,tf2,h9⟩
end
open Go Go.Sx Dg Syn
section
variable {pb:Nat} {ts:List Tok} {lv fv ov:Value}
theorem xe:aP Tryz.prog 220:=⟨_,Tryz.func220,rfl,rfl⟩
def ml(ts:List Tok)(k o slot:Nat)(r:Syn.bE)(m:Nat)(first:Bool)(l:List Nd)(g out:ah)(ee:List bX):Prop:=
 ∃b,Syn.run ts m (.lineL k o slot first l g out)=some b/\b.l=r.l/\b.f=r.f/\ee++b.e=r.e
def nG(ts:List Tok)(k o slot:Nat)(r:Syn.bE)(m:Nat)(ops:List ay)(l:List Nd)(g:ah)(ee:List bX):Prop:=
 ∃b,Syn.run ts m (.lineO k o slot ops l g)=some b/\b.l=r.l/\b.f=r.f/\ee++b.e=r.e
theorem Bj{k o slot m:Nat}{r:Syn.bE}{l:List Nd}{g:ah}{ee:List bX}(h:nG ts k o slot r m [] l g ee):l=r.l/\g=r.f/\ee=r.e:=by
 obtain⟨b,hb,h1,h2,h3⟩:=h;obtain⟨m',rfl,ac⟩:=bt hb;have aa:Syn.lineO (Syn.run ts m') k o slot [] l g=some b:=ac;unfold Syn.lineO at aa;simp only at aa;cases aa
 exact⟨h1,h2,by simpa using h3⟩
theorem zg{k o slot m:Nat}{r:Syn.bE}{x:ay}{xs:List ay}{l:List Nd}{g:ah}{ee:List bX}(h:nG ts k o slot r m (x::xs) l g ee):∃m' a,m=m'+1/\
  Syn.run ts m' (.line (k+1) o (bh x) 1)=some a/\(eF l x.cond).length+a.l.length<=aF/\(cM l x.cond).length+1<=aF/\
  nG ts k o slot r m' xs (cM l x.cond++[⟨13,x.text,x.at',slot,eF l x.cond++a.l,x.cond⟩]) (Syn.joinAll g a.f) (ee++a.e):=by
 obtain⟨b0,hb,h1,h2,h3⟩:=h;obtain⟨m',rfl,ao⟩:=bt hb;have aa:Syn.lineO (Syn.run ts m') k o slot (x::xs) l g=some b0:=ao;unfold Syn.lineO at aa;simp only at aa;obtain⟨a,ha,an⟩:=bw aa;obtain⟨_,ap,am⟩:=bw an;obtain⟨_,ac,ak⟩:=bw am;obtain⟨b,aS,aj⟩:=bw ak;cases aj
 have h4:=m0 ap;have h5:=m0 ac;simp only[Tu,S4]at h4 h5;exact⟨m',a,rfl,ha,h4,h5,b,aS,h1,h2,by simpa[Te]using h3⟩
theorem AT{k o slot m:Nat}{first:Bool}{r:Syn.bE}{l:List Nd}{out:ah}{ee:List bX}(h:ml ts k o slot r m first l [] out ee):l=r.l/\out=r.f/\ee=r.e:=by
 obtain⟨b,hb,h1,h2,h3⟩:=h;obtain⟨m',rfl,ac⟩:=bt hb;have aa:Syn.lineL ts (Syn.run ts m') k o slot first l [] out=some b:=ac;unfold Syn.lineL at aa;rw[SI rfl]at aa;cases aa
 exact⟨h1,h2,by simpa using h3⟩
theorem x9{k o slot m:Nat}{first:Bool}{r:Syn.bE}{l:List Nd}{g out:ah}{ee:List bX}(h:ml ts k o slot r m first l g out ee)(hg:g≠[])(hk:k=2/\first=false):l=r.l/\Syn.joinAll out g=r.f/\ee=r.e:=by
 obtain⟨b,hb,h1,h2,h3⟩:=h;obtain⟨m',rfl,ac⟩:=bt hb;have aa:Syn.lineL ts (Syn.run ts m') k o slot first l g out=some b:=ac;unfold Syn.lineL at aa;rw[Sb hg,SI hk]at aa;cases aa
 exact⟨h1,h2,by simpa using h3⟩
theorem Du{k o slot m:Nat}{first:Bool}{r:Syn.bE}{l:List Nd}{g out:ah}{ee:List bX}(h:ml ts k o slot r m first l g out ee)(hg:g≠[])(hk:¬(k=2/\first=false)):
  ∃m' a,m=m'+1/\nG ts k o slot a m' (aC ts g (i7 k)).1 l [] []/\ml ts k o slot r m' false a.l a.f (Syn.joinAll out (aC ts g (i7 k)).2) (ee++a.e):=by
 obtain⟨b0,hb,h1,h2,h3⟩:=h;obtain⟨m',rfl,am⟩:=bt hb;have aa:Syn.lineL ts (Syn.run ts m') k o slot first l g out=some b0:=am;unfold Syn.lineL at aa;rw[Sb hg,Sb hk]at aa;obtain⟨ops,rest,ac⟩:∃yes no,aC ts g (i7 k)=(yes,no):=⟨_,_,rfl⟩;rw[ac]at aa |-;simp only at aa |-;obtain⟨a,ha,ak⟩:=bw aa;obtain⟨b,an,aj⟩:=bw ak;cases aj
 exact⟨m',a,rfl,⟨a,ha,rfl,rfl,rfl⟩,b,an,h1,h2,by simpa[Te]using h3⟩
theorem ml.le{k o slot m:Nat}{first:Bool}{r:Syn.bE}{l:List Nd}{g out:ah}{ee:List bX}(h:ml ts k o slot r m first l g out ee):ee.length<=r.e.length:=by
 obtain⟨b,_,_,_,h⟩:=h;rw[<-h];simp
theorem nG.le{k o slot m:Nat}{r:Syn.bE}{xs:List ay}{l:List Nd}{g:ah}{ee:List bX}(h:nG ts k o slot r m xs l g ee):ee.length<=r.e.length:=by
 obtain⟨b,_,_,_,h⟩:=h;rw[<-h];simp
theorem kW{l:List Nd}{d:T}{i:Nat}{n:Nd}(h:l[i]?=some n):eF (l.take (i+1)) d=eF (l.take i) d++(if n.cond.and d=ff then []else [{ n with cond:=n.cond.and d,slot:=0 }]):=by
 have aa:i<l.length:=by
  rcases Sw i l.length with h'|h'
  ·exact h'
  ·rw[SF h']at h;cases h
 rw[SC aa]at h;unfold eF;rw[S7 aa,List.filterMap_append,Tk h];congr 1;by_cases hf:n.cond.and d=ff
 ·simp[hf]
 ·simp[hf]
theorem jK{l:List Nd}{d:T}{i:Nat}{n:Nd}(h:l[i]?=some n):cM (l.take (i+1)) d=cM (l.take i) d++(if n.cond.and d.not=ff then []else [{ n with cond:=n.cond.and d.not }]):=by
 have aa:i<l.length:=by
  rcases Sw i l.length with h'|h'
  ·exact h'
  ·rw[SF h']at h;cases h
 rw[SC aa]at h;unfold cM;rw[S7 aa,List.filterMap_append,Tk h];congr 1;by_cases hf:n.cond.and d.not=ff
 ·simp[hf]
 ·simp[hf]
theorem LO{C:Cx}{k:List Item}{σ0:St}{H:PH}{P:Prop}(h1:RC C (.st k) σ0 H->P)(h:RC C (.st k) σ0 H):P:=h1 h
theorem fT{I:PH}{nb:Nat}{cs:List Value}{n:Nd}(h:aQ I nb 0 cs)(hn:aW I cs n):db I (.slice (some ⟨nb,0,none⟩) 1 1) [n]:=⟨_,_,rfl,.inr ⟨nb,0,cs,rfl,h,.one hn⟩⟩
def DU(pb hb slot:Nat)(vl vg vo:Value):St:=⟨dn 139 [(0,.v (pt pb)),(3,.v (iv slot)),(5,.v (pt hb)),(10,.v vl),(11,.v vg),(12,.v vo)],[]⟩
def Jt(pb hb slot:Nat)(x:Nat×Bool×Value×Value×Value×Value):St:=⟨dn 139 [(0,.v (pt pb)),(3,.v (iv slot)),(5,.v (pt hb)),(10,.v x.2.2.1),(11,.v x.2.2.2.1),(12,.v x.2.2.2.2.1),(13,.v (.bool x.2.1))],[]⟩
def PQ(pb:Nat)(ts:List Tok)(lv fv ov:Value)(k o slot M:Nat)(r:Syn.bE)(e:List bX)(I0:PH)(x:Nat×Bool×Value×Value×Value×Value)(H:PH):Prop:=
 ∃I D A B C l g out ee,H=U [I,sg pb (bD lv fv ov x.2.2.2.2.2 o),D,A,B,C]/\Dj [I,sg pb (bD lv fv ov x.2.2.2.2.2 o),D,A,B,C]/\I0.le I/\x.1<=M/\ml ts k o slot r x.1 x.2.1 l g out ee/\
  br I A x.2.2.1 l/\l.length<=aF/\gP I B x.2.2.2.1 g/\FN ts.length g/\gP I C x.2.2.2.2.1 out/\FN ts.length out/\dl I D x.2.2.2.2.2 (e++ee)
def HX(pb hb slot:Nat)(vout vh:Value)(n:Nat)(x:Nat×Nat×Value×Value×Value):St:=⟨dn 139 [(0,.v (pt pb)),(3,.v (iv slot)),(5,.v (pt hb)),(10,.v x.2.2.1),(11,.v x.2.2.2.1),(12,.v vout),(66,.v vh),(67,.v (iv n)),(68,.v (iv x.1))],[]⟩
def Qr(pb:Nat)(ts:List Tok)(lv fv ov:Value)(k o slot M:Nat)(C:PH)(ops:List ay)(r:Syn.bE)(e:List bX)(I0:PH)(x:Nat×Nat×Value×Value×Value)(H:PH):Prop:=
 ∃I D A B l g ee,H=U [I,sg pb (bD lv fv ov x.2.2.2.2 o),D,A,B,C]/\Dj [I,sg pb (bD lv fv ov x.2.2.2.2 o),D,A,B,C]/\I0.le I/\x.1<=ops.length/\x.2.1<=M/\nG ts k o slot r x.2.1 (ops.drop x.1) l g ee/\
  br I A x.2.2.1 l/\l.length<=aF/\gP I B x.2.2.2.1 g/\FN ts.length g/\dl I D x.2.2.2.2 (e++ee)
def AJ(pb hb slot:Nat)(vg vout vh:Value)(n i:Nat)(cs:List Value)(vl:Value)(n2:Nat)(x:Nat×Value×Value):St:=⟨dn 139 [(0,.v (pt pb)),(3,.v (iv slot)),(5,.v (pt hb)),(11,.v vg),(12,.v vout),(17,.p 17 0),(18,.v x.2.1),(19,.v x.2.2),(66,.v vh),(67,.v (iv n)),(68,.v (iv i)),(72,.v vl),(73,.v (iv n2)),(74,.v (iv x.1))],[⟨17,227,cs⟩]⟩
def QJ(pb:Nat)(rc:Obj)(D B C:PH)(l:List Nd)(d:T)(I0:PH)(x:Nat×Value×Value)(H:PH):Prop:=
 ∃I L O,H=U [I,sg pb rc,D,B,C,L,O]/\Dj [I,sg pb rc,D,B,C,L,O]/\I0.le I/\x.1<=l.length/\br I L x.2.1 (eF (l.take x.1) d)/\br I O x.2.2 (cM (l.take x.1) d)
theorem MI{n:Nat}(ih:iE pb ts lv fv ov n){k o:Nat}{f:ah}{slot:Nat}{r:Syn.bE}(hr:Syn.run ts n (.line k o f slot)=some r):qS pb ts lv fv ov (.line k o f slot) r:=by
 obtain⟨m,rfl,hs⟩:=bt hr;have d3:Syn.line (Syn.run ts m) k o f slot=some r:=hs;clear hs hr;intro hk ho I D dv vf e h hf fn he hm hd;have hl:=h.len;unfold Syn.line at d3;refine Ot Tryz.func144 rfl fun w0=>?_;simp only[Tryz.ntmps144,iv,pt];apply bq 5;simp only[go_sem];refine eP 5 hd rfl fun hb i2=>?_;refine ag (c:=.st _) i2 fun I2 e5 cb i4=>?_;have hc:aQ I2 hb 0 [iv k]:=(aU (by simp) rfl:aQ (sg hb (.cells [iv k].toArray 3 (0,0))) hb 0 [iv k]).le i4;have h2:=h.le cb;have hH:=dl.le he cb;have hG:=hf.le cb;apply RG;simp only[go_sem,kE,List.map,pt];refine Qz (l:=[iv k]) rfl (cellsU e5 (.head _) hc) (.inr ⟨mF,rfl⟩) ?_;by_cases h5:k=5
 ·rw[SI h5]at d3;have q5:((k:Int) == 5)=true:=by rw[h5];rfl
  apply RG;simp only[go_sem,iv,pt,q5];refine NB e5 [0,1] rfl xe (by rfl) (ps:=[sg pb _,D]) (F:=[]) rfl (ih m (Tv m) (.unary o f slot) r d3 ho h2 hG fn hH hm) fun v I5 qs ef dd hq=>?_;obtain⟨dv5,D5,rs,rfl,gj,⟨A5,B5,va5,vb5,rfl,rfl,g5,gr⟩,gg,f2⟩:=hq;simp only[Z3]at ef |-;apply RG;simp only[go_sem,iv,pt];exact ai rfl ef (r:=[va5,vb5]) rfl (Ui cb dd) ⟨dv5,D5,[A5,B5],rfl,gj,⟨A5,B5,va5,vb5,rfl,rfl,g5,gr⟩,gg,f2⟩
 rw[Sb h5]at d3;have q5:((k:Int) == 5)=false:=by rw[Uf];omega
 obtain⟨a,ha,hX⟩:=bw d3;obtain⟨b,i5,hW⟩:=bw hX;cases hW
 simp only[Tu]at hm;have w1:=wrap64 (n:=k+1) (by omega);have w1':IntKind.i64.wrap ((k:Int)+1)=((k+1:Nat):Int):=by rw[<-w1];congr 1
 apply RG;simp only[go_sem,iv,pt,q5];refine Qz (l:=[iv k]) rfl (cellsU e5 (.head _) hc) (.inr ⟨mF,rfl⟩) ?_;apply RG;simp only[go_sem,iv,pt,q5,w1'];refine NB e5 [0,1] rfl wQ (by rfl) (ps:=[sg pb _,D]) (F:=[]) rfl (ih m (Tv m) (.line (k+1) o f slot) a ha (by omega) ho h2 hG fn hH (by omega)) fun v I5 qs ef dd hq=>?_;obtain⟨dv5,D5,rs,rfl,gj,⟨A5,B5,va5,vb5,rfl,rfl,g5,gr⟩,gg,f2⟩:=hq;simp only[Z3]at ef |-;apply RG;simp only[go_sem,iv,pt];refine aT ef fun i1=>?_;refine ab i1 [1,2,3,4,0] rfl fun hM=>?_;simp only[Z4]at hM |-;have jf:ml ts k o slot ⟨b.l,b.f,a.e++b.e⟩ m true a.l a.f [] a.e:=⟨b,i5,rfl,rfl,rfl⟩;refine aB (fun x=>x.1) (Jt pb hb slot) (PQ pb ts lv fv ov k o slot m ⟨b.l,b.f,a.e++b.e⟩ e I5) (m,true,va5,vb5,.slice none 0 0,dv5) (ae (by simp only[go_sem,Tq,iv,pt])) (by simp only[go_sem,Tq,Jt]) ?_ ?_
 ·exact⟨I5,D5,A5,B5,PH.no,_,_,_,_,rfl,hM,Uj _,R7 _,jf,g5,f2,gr,gg,Ow.nil _ _ _ _,FN.nil _,gj⟩
 rintro⟨m1,first,vl,vg,vo,dw⟩ H ⟨I8,D8,A8,B8,C8,l,g,out,ee,rfl,e4,d9,h1,e8,hA,fj,hB,d1,hC,et,hE⟩ d5;simp only at h1 e8 hA hB hC hE;simp only[Jt];have k8:=Ui dd d9;obtain⟨ga,gc,rfl⟩:=hB.shape;rcases TI g.length with h0|h0
 ·have q45:decide ((g.length:Int)>0)=false:=Ug (by omega);apply RG;simp only[go_sem,iv,pt,q45];have ic:g=[]:=List.length_eq_zero_iff.1 h0;subst ic;obtain⟨rfl,rfl,rfl⟩:=AT e8;refine ab e4 [0,1,2,4,3] rfl fun ci=>?_;simp only[Z4]at ci |-;refine ab ci [4,0,1,2,3] rfl fun ap=>?_;simp only[Z4]at ap |-;refine ag ap fun hT ap am cA=>?_;exact ai rfl ap (r:=[vl,vo]) rfl (Ui cb (Ui k8 am)) ⟨dw,D8,[A8,C8],rfl,hE.le am,⟨A8,C8,vl,vo,rfl,rfl,br.le hA am,hC.le am⟩,et,fj⟩
 have hg:g≠[]:=fun e=>by rw[e]at h0;exact Nat.lt_irrefl _ h0
 have q45:decide ((g.length:Int)>0)=true:=Uh (by omega);apply RG;simp only[go_sem,iv,pt,q45];refine Qz (l:=[iv k]) rfl (cellsU e4 (.head _) (hc.le k8)) (.inr ⟨mF,rfl⟩) ?_;by_cases b5:k=2/\first=false
 ·obtain⟨rfl,e2,rfl⟩:=x9 e8 hg b5;obtain⟨rfl,rfl⟩:=b5;apply RG;simp only[go_sem,iv,pt,TJ,T7];refine ab e4 [3,0,1,2,4] rfl fun ci=>?_;simp only[Z4]at ci |-;refine ag ci fun I9 ci bc gq=>?_;have gb:du I9 _ g:=gP.sl hB bc gq;refine NB ci [3,0,1,2] rfl dp (by rfl) (ps:=[C8]) (F:=[sg pb _,D8,A8]) rfl (b7 (N:=ts.length) (by omega) (hC.le bc) et gb d1) fun v10 hT qs ap am hq=>?_;obtain⟨C10,rfl,ey⟩:=hq;simp only[Z3]at ap |-;apply RG;simp only[go_sem,iv,pt];refine ab ap [1,2,3,0] rfl fun b4=>?_;simp only[Z4]at b4 |-;have k910:=Ui bc am;exact ai rfl b4 (r:=[vl,v10]) rfl (Ui cb (Ui k8 k910)) ⟨dw,D8,[A8,C10],rfl,hE.le k910,⟨A8,C10,vl,v10,rfl,rfl,br.le hA k910,by rw[e2]at ey;exact ey⟩,by have:=et.joinAll d1;rw[e2]at this;exact this,fj⟩
 obtain⟨m2,a2,rfl,f0,c4⟩:=Du e8 hg b5;have ec:=c4.le;simp only[Tu]at ec;have ia:∀(Φ:Prop),(k=2->first=true->Φ)->(k≠2->Φ)->Φ:=fun Φ p q=>by
  by_cases d0:k=2
  ·cases first with
   |true=>exact p d0 rfl
   |false=>exact absurd ⟨d0,rfl⟩ b5
  ·exact q d0
 obtain⟨ops,rest,hz⟩:∃yes g',aC ts g (i7 k)=(yes,g'):=⟨_,_,rfl⟩;have e6:=dH h.ok d1 (is:=i7 k);have hN:=eR h.ok d1 (i7 k);have e7:=cI h.ok d1 (i7 k);rw[hz]at e6 hN e7 f0 c4;simp only at e6 hN e7 f0 c4;have fz:∀x∈ops,x.at'<ts.length:=fun x hx=>by
  obtain⟨fc,hy⟩:=e6 x hx;refine fc.lt (.inr fun e=>?_);simp[i7,e]at hy
 apply LO (σ0:=DU pb hb slot vl (.slice ga g.length gc) vo)
 ·intro d6;by_cases d0:k=2
  ·have ie:first=true:=ia _ (fun _ p=>p) (fun p=>absurd d0 p);have q47:((k:Int) == 2)=true:=by rw[d0];rfl
   apply bq 9;simp only[go_sem,iv,pt,q47,ie,Ud];refine dK (σ':=DU pb hb slot vl (.slice ga g.length gc) vo) ?_ ?_ ?_
   ·exact(ae (by simp only[go_sem,Tq,iv,pt]))
   ·exact(by simp only[go_sem,Tq,DU])
   ·exact d6
  ·have q47:((k:Int) == 2)=false:=by rw[Uf];omega
   apply bq 9;simp only[go_sem,iv,pt,q47,Ud];refine dK (σ':=DU pb hb slot vl (.slice ga g.length gc) vo) ?_ ?_ ?_
   ·exact(ae (by simp only[go_sem,Tq,iv,pt]))
   ·exact(by simp only[go_sem,Tq,DU])
   ·exact d6
 simp only[DU];refine ab e4 [3,0,1,2,4] rfl fun ci=>?_;simp only[Z4]at ci |-;refine ag ci fun I9 ci bc gq=>?_;have gb:du I9 _ g:=gP.sl hB bc gq;have k9:=Ui k8 bc;have jg:Es I9 (.func (.func 222) #[] #[pt hb]) (i7 k):=⟨222,#[],#[pt hb],rfl,JM,fun J hJ x a c hr=>bv.toI ((EV (H:=J) (b:=hb) (k:=k) ((hc.le k9).le hJ) (by omega)).mono fun v H2 ⟨e1,e2⟩=>⟨by rw[e2];exact Uj _,e1⟩)⟩;apply RG;simp only[go_sem,iv,pt];refine NB ci [0,1,2,3] rfl gX (by rfl) (ps:=[sg pb _]) (F:=[D8,A8,C8]) rfl (gT (h2.le k9) gb d1 jg) fun v hT qs ap am hq=>?_;obtain⟨A10,B10,va10,vb10,rfl,rfl,cA,dT⟩:=hq;rw[hz]at cA dT;simp only at cA dT;obtain⟨xsa,xsc,rfl⟩:=cA.shape;simp only[Z3]at ap |-;apply RG;simp only[go_sem,iv,pt];refine ab ap [1,0,2,3,4,5] rfl fun b4=>?_;simp only[Z4]at b4 |-;refine ag b4 fun j9 b4 ct g8=>?_;have i9:m9 j9 (.slice xsa ops.length xsc) ops:=cA.sl ct g8;refine ab b4 [1,0,2,3,4] rfl fun c3=>?_;simp only[Z4]at c3 |-;refine ag c3 fun j7 c3 cr g4=>?_;have fC:du j7 vb10 rest:=dT.sl (Ui ct cr) g4;have k812:=Ui bc (Ui am (Ui ct cr));refine NB c3 [3,0,1,2] rfl dp (by rfl) (ps:=[C8]) (F:=[sg pb _,D8,A8]) rfl (b7 (N:=ts.length) (by omega) (hC.le k812) et fC e7) fun v13 hS qs ek c6 hq=>?_;obtain⟨C13,rfl,gn⟩:=hq;simp only[Z3]at ek |-;apply RG;simp only[go_sem,iv,pt];refine aT ek fun fo=>?_;refine ab fo [2,3,4,0,1] rfl fun ei=>?_;simp only[Z4]at ei |-;have en:=i9.le (Ui cr c6);have k813:=Ui k812 c6;have hV:=Ui k8 k813
 refine aB (fun x=>ops.length-x.1) (HX pb hb slot v13 (.slice xsa ops.length xsc) ops.length) (Qr pb ts lv fv ov k o slot m2 C13 ops a2 (e++ee) hS) (0,m2,vl,.slice none 0 0,dw) (ae (by simp only[go_sem,Tq,iv,pt])) (by simp only[go_sem,Tq,HX]) ?_ ?_
 ·exact⟨hS,D8,A8,PH.no,_,_,_,rfl,ei,Uj _,S6 _,R7 _,f0,br.le hA k813,fj,Ow.nil _ _ _ _,FN.nil _,by simpa using hE.le k813⟩
 rintro⟨i,m3,vl2,vg2,dx⟩ H ⟨j5,D16,A16,B16,l2,g2,ee2,rfl,dk,a6,h9,fi,cy,e9,d7,g3,dI,gl⟩ c9;simp only at h9 fi cy e9 g3 gl;simp only[HX];have hU:=Ui hV a6;rcases Sw i ops.length with e0|kj
 ·have hj:decide ((i:Int)<(ops.length:Int))=true:=by simp;omega
  have f1:=wrap64 (n:=i+1) (by omega);have f1':IntKind.i64.wrap ((i:Int)+1)=((i+1:Nat):Int):=by rw[<-f1];congr 1
  obtain⟨x,eH⟩:∃x,ops[i]?=some x:=⟨_,SC e0⟩;have hw:=Tg eH;obtain⟨fc,hy⟩:=e6 x hw;have fb:=fz x hw;obtain⟨bb,off,cs,rfl,i3,el⟩:=(en.le a6).load jA.len eH;obtain⟨ya,yk,rfl,d4⟩:=i3;have i0:ops.drop i=x::ops.drop (i+1):=by
   rw[S5 e0];rw[SC e0]at eH;rw[Tk eH]
  rw[i0]at cy;obtain⟨m4,a4,rfl,i6,h4,hF,ep⟩:=zg cy;have ea:=ep.le;simp only[Tu]at ea;apply RG;simp only[go_sem,hj,iv,pt];refine⟨by omega,?_⟩;refine Qz (l:=[iv x.at',sD ya yk x.cond,rD x.cond,.int .u8 x.kind,.string ⟨⟨x.text⟩⟩]) (v:=.agg #[iv x.at',sD ya yk x.cond,rD x.cond,.int .u8 x.kind,.string ⟨⟨x.text⟩⟩]) rfl (cellsU dk (.head _) el) (.inl ⟨eS,rfl⟩) ?_;obtain⟨la,lc,rfl⟩:=e9.shape;apply RG;simp only[go_sem,iv,pt,sD,rD];refine ab dk [2,0,1,3,4] rfl fun c2=>?_;simp only[Z4]at c2 |-;refine ag c2 fun ht c2 b6 g7=>?_;have f5:db ht (.slice la l2.length lc) l2:=br.sl e9 b6 g7;refine aT c2 fun fl=>?_;refine aT fl fun fk=>?_;refine ab fk [2,3,4,5,0,1] rfl fun eh=>?_;simp only[Z4]at eh |-;have an:=d4.le b6;refine aB (fun x=>l2.length-x.1) (AJ pb hb slot vg2 v13 (.slice (some ⟨bb,off,none⟩) ops.length xsc) ops.length i [iv x.at',sD ya yk x.cond,rD x.cond,.int .u8 x.kind,.string ⟨⟨x.text⟩⟩] (.slice la l2.length lc) l2.length) (QJ pb (bD lv fv ov dx o) D16 B16 C13 l2 x.cond ht) (0,.slice none 0 0,.slice none 0 0) (ae (by simp only[go_sem,Tq,iv,pt,sD,rD])) (by simp only[go_sem,Tq,AJ,iv,sD,rD]) ?_ ?_
  ·exact⟨ht,PH.no,PH.no,rfl,eh,Uj _,S6 _,Ow.nil _ _ _ _,Ow.nil _ _ _ _⟩
  rintro⟨j,v18,v19⟩ H ⟨hn,L,O,rfl,c1,ac,h7,hL,hO⟩ a0;simp only at h7 hL hO;simp only[AJ];obtain⟨l0,lc0,rfl⟩:=hL.shape;unfold aF at d7;obtain⟨o0,oc0,rfl⟩:=hO.shape;rcases Sw j l2.length with ed|ki
  ·have hh:decide ((j:Int)<(l2.length:Int))=true:=by simp;omega
   have g1:=wrap64 (n:=j+1) (by omega);have g1':IntKind.i64.wrap ((j:Int)+1)=((j+1:Nat):Int):=by rw[<-g1];congr 1
   obtain⟨nd,cB⟩:∃nd,l2[j]?=some nd:=⟨_,SC ed⟩;obtain⟨b3,off3,cs3,rfl,fr,ds⟩:=Sl.load aW.len (db.le f5 ac) cB;obtain⟨vk,na,nk,rfl,cj,ca,dA⟩:=fr.shape;obtain⟨ka,kc,rfl,_⟩:=id ca;have h3:=Syn.vJ (l2.take j) x.cond;have hY:=Syn.sP (l2.take j) x.cond;have kd:(l2.take j).length=j:=by simp;omega
   apply RG;simp only[go_sem,hh,iv,pt];refine⟨by omega,?_⟩;refine Qz (l:=[.int .u8 nd.kind,.string ⟨⟨nd.text⟩⟩,.int .i64 nd.tok,.int .i64 nd.slot,.slice ka nd.kids.length kc,sD na nk nd.cond,rD nd.cond]) (v:=.agg #[.int .u8 nd.kind,.string ⟨⟨nd.text⟩⟩,.int .i64 nd.tok,.int .i64 nd.slot,.slice ka nd.kids.length kc,sD na nk nd.cond,rD nd.cond]) rfl (cellsU c1 (.head _) ds) (.inl ⟨bT,rfl⟩) ?_;apply RG;simp only[go_sem,iv,pt,sD,rD];refine NB c1 [0,1,2,3,4,5] rfl iy (by rfl) (ps:=[]) (F:=[sg pb _,D16,B16,C13,L,O]) rfl (lE cj (an.le ac)) fun v j2 qs cf aa hq=>?_;obtain⟨rfl,c8⟩:=hq;obtain⟨za,zk,rfl⟩:=c8.shape2;simp only[Z3]at cf |-;apply RG;simp only[go_sem,iv,pt,sD,rD];refine Pf rfl gK (fq c8) fun v H2 hv=>?_;obtain⟨rfl,rfl⟩:=hv;cases e3:decide (nd.cond.and x.cond=.lf false)
   ·have hD:nd.cond.and x.cond≠ff:=by simpa using e3
    apply RG;simp only[go_sem,iv,pt,sD,rD,e3,T7];refine av cf (by exact cT) rfl rfl rfl rfl rfl (by decide) fun nb4 hR c0 a5 fh=>?_;have k2123:=Ui aa a5;have ja:db hR (.slice (some ⟨nb4,0,none⟩) 1 1) [{ nd with cond:=nd.cond.and x.cond,slot:=0 }]:=fT (az fh (by simp[aE,Value.cells]) (by simp[aE,Value.cells,iv,sD,rD])) (aW.mk (n:={ nd with cond:=nd.cond.and x.cond,slot:=0 }) (c8.le a5) (db.le ca k2123) dA);apply RG;simp only[go_sem,iv,pt,sD,rD];refine ab c0 [4,0,1,2,3,5] rfl fun b2=>?_;simp only[Z4]at b2 |-;refine aY b2 (by exact cT) (br.le hL k2123) (ja) (fun{I J c a} h k=>aW.le h k) (fun{I} c a h=>aW.len c a h) (fun{I} c a h=>aW.ones h) rfl rfl rfl rfl (by first|omega|(simp only[SB,S9];omega)) (by unfold maxLen;first|omega|(simp only[SB,S9];omega)) fun qa qc kl L26 cc eb er=>?_;refine ab cc [1,2,3,4,0,5] rfl fun b1=>?_;simp only[Z4]at b1 |-;have k2126:=Ui k2123 eb;apply RG;simp only[go_sem,iv,pt,sD,rD];refine ax mixed [0,1,2,3,4,5,6,7] [] [] rfl rfl ?_;apply af;simp only[go_sem,iv,pt,sD,rD];refine Og b1 [0,1,2,3,4,5] rfl (fun h=>by cases h) rfl mn (by rfl) (ps:=[]) (F:=[sg pb _,D16,B16,C13,L26,O]) rfl (qK (an.le (Ui ac k2126))) fun v hP qs b0 ao hq=>?_;obtain⟨rfl,cl⟩:=hq;obtain⟨ra,rk,rfl⟩:=cl.shape2;simp only[Z3]at b0 |-;apply af;simp only[go_sem,iv,pt,sD,rD];refine Og b0 [0,1,2,3,4,5] rfl (fun h=>by cases h) rfl iy (by rfl) (ps:=[]) (F:=[sg pb _,D16,B16,C13,L26,O]) rfl (lE (cj.le (Ui k2126 ao)) cl) fun v fa qs a3 aS hq=>?_;obtain⟨rfl,ba⟩:=hq;obtain⟨ta,tk,rfl⟩:=ba.shape2;simp only[Z3]at a3 |-
    apply af;simp only[go_sem,iv,pt,sD,rD];refine aw ?_;apply RG;simp only[go_sem,iv,pt,sD,rD];refine Pf rfl gK (fq ba) fun v H2 hv=>?_;obtain⟨rfl,rfl⟩:=hv;have k2628:=Ui ao aS;cases a1:decide (nd.cond.and x.cond.not=.lf false)
    ·have da:nd.cond.and x.cond.not≠ff:=by simpa using a1
     apply RG;simp only[go_sem,iv,pt,sD,rD,a1,T7];refine av a3 (by exact cT) rfl rfl rfl rfl rfl (by decide) fun nb9 eA bx aj dc=>?_;have fA:db eA (.slice (some ⟨nb9,0,none⟩) 1 1) [{ nd with cond:=nd.cond.and x.cond.not }]:=fT (az dc (by simp[aE,Value.cells]) (by simp[aE,Value.cells,iv,sD,rD])) (aW.mk (n:={ nd with cond:=nd.cond.and x.cond.not }) (ba.le aj) (db.le ca (Ui k2126 (Ui k2628 aj))) dA);have kO:hn.le eA:=Ui k2126 (Ui k2628 aj);apply RG;simp only[go_sem,iv,pt,sD,rD];refine ab bx [5,0,1,2,3,4] rfl fun bd=>?_;simp only[Z4]at bd |-;refine aY bd (by exact cT) (br.le hO kO) (fA) (fun{I J c a} h k=>aW.le h k) (fun{I} c a h=>aW.len c a h) (fun{I} c a h=>aW.ones h) rfl rfl rfl rfl (by first|omega|(simp only[SB,S9];omega)) (by unfold maxLen;first|omega|(simp only[SB,S9];omega)) fun oa oc d2 O31 a9 ak cx=>?_;apply RG;simp only[go_sem,iv,pt,sD,rD,g1'];refine ab a9 [1,2,3,4,5,0] rfl fun a7=>?_;simp only[Z4]at a7 |-;refine a0 (j+1,.slice qa (eF (l2.take j) x.cond++[{ nd with cond:=nd.cond.and x.cond,slot:=0 }]).length qc,.slice oa (cM (l2.take j) x.cond++[{ nd with cond:=nd.cond.and x.cond.not }]).length oc) _ _ (by simp only;omega) (ae (by simp only[go_sem,Tq,iv,pt,sD,rD])) (by simp only[go_sem,Tq,AJ,iv,sD,rD]) ⟨d2,_,O31,rfl,a7,Ui ac (Ui kO ak),ed,?_,?_⟩
     ·simp only;rw[kW cB,Sb hD];exact br.le er (Ui k2628 (Ui aj ak))
     ·simp only;rw[jK cB,Sb da];exact cx
    ·have dj:nd.cond.and x.cond.not=ff:=by simpa using a1
     apply RG;simp only[go_sem,iv,pt,sD,rD,a1,Ud,g1'];refine a0 (j+1,.slice qa (eF (l2.take j) x.cond++[{ nd with cond:=nd.cond.and x.cond,slot:=0 }]).length qc,.slice o0 (cM (l2.take j) x.cond).length oc0) _ _ (by simp only;omega) (ae (by simp only[go_sem,Tq,iv,pt,sD,rD])) (by simp only[go_sem,Tq,AJ,iv,sD,rD]) ⟨fa,_,O,rfl,a3,Ui ac (Ui k2126 k2628),ed,?_,?_⟩
     ·simp only;rw[kW cB,Sb hD];exact br.le er k2628
     ·simp only;rw[jK cB,SI dj,Tq];exact br.le hO (Ui k2126 k2628)
   ·have hK:nd.cond.and x.cond=ff:=by simpa using e3
    apply bq 4;simp only[go_sem,iv,pt,sD,rD,e3,Ud];have b1:=cf;apply RG;simp only[go_sem,iv,pt,sD,rD];refine ax mixed [0,1,2,3,4,5,6,7] [] [] rfl rfl ?_;apply af;simp only[go_sem,iv,pt,sD,rD];refine Og b1 [0,1,2,3,4,5] rfl (fun h=>by cases h) rfl mn (by rfl) (ps:=[]) (F:=[sg pb _,D16,B16,C13,L,O]) rfl (qK (an.le (Ui ac aa))) fun v hP qs b0 ao hq=>?_;obtain⟨rfl,cl⟩:=hq;obtain⟨ra,rk,rfl⟩:=cl.shape2;simp only[Z3]at b0 |-;apply af;simp only[go_sem,iv,pt,sD,rD];refine Og b0 [0,1,2,3,4,5] rfl (fun h=>by cases h) rfl iy (by rfl) (ps:=[]) (F:=[sg pb _,D16,B16,C13,L,O]) rfl (lE (cj.le (Ui aa ao)) cl) fun v fa qs a3 aS hq=>?_;obtain⟨rfl,ba⟩:=hq;obtain⟨ta,tk,rfl⟩:=ba.shape2;simp only[Z3]at a3 |-;apply af;simp only[go_sem,iv,pt,sD,rD];refine aw ?_;apply RG;simp only[go_sem,iv,pt,sD,rD];refine Pf rfl gK (fq ba) fun v H2 hv=>?_;obtain⟨rfl,rfl⟩:=hv;have k2628:=Ui ao aS;cases a1:decide (nd.cond.and x.cond.not=.lf false)
    ·have da:nd.cond.and x.cond.not≠ff:=by simpa using a1
     apply RG;simp only[go_sem,iv,pt,sD,rD,a1,T7];refine av a3 (by exact cT) rfl rfl rfl rfl rfl (by decide) fun nb9 eA bx aj dc=>?_;have fA:db eA (.slice (some ⟨nb9,0,none⟩) 1 1) [{ nd with cond:=nd.cond.and x.cond.not }]:=fT (az dc (by simp[aE,Value.cells]) (by simp[aE,Value.cells,iv,sD,rD])) (aW.mk (n:={ nd with cond:=nd.cond.and x.cond.not }) (ba.le aj) (db.le ca (Ui aa (Ui k2628 aj))) dA);have kO:hn.le eA:=Ui aa (Ui k2628 aj);apply RG;simp only[go_sem,iv,pt,sD,rD];refine ab bx [5,0,1,2,3,4] rfl fun bd=>?_;simp only[Z4]at bd |-;refine aY bd (by exact cT) (br.le hO kO) (fA) (fun{I J c a} h k=>aW.le h k) (fun{I} c a h=>aW.len c a h) (fun{I} c a h=>aW.ones h) rfl rfl rfl rfl (by first|omega|(simp only[SB,S9];omega)) (by unfold maxLen;first|omega|(simp only[SB,S9];omega)) fun oa oc d2 O31 a9 ak cx=>?_;apply RG;simp only[go_sem,iv,pt,sD,rD,g1'];refine ab a9 [1,2,3,4,5,0] rfl fun a7=>?_;simp only[Z4]at a7 |-;refine a0 (j+1,.slice l0 (eF (l2.take j) x.cond).length lc0,.slice oa (cM (l2.take j) x.cond++[{ nd with cond:=nd.cond.and x.cond.not }]).length oc) _ _ (by simp only;omega) (ae (by simp only[go_sem,Tq,iv,pt,sD,rD])) (by simp only[go_sem,Tq,AJ,iv,sD,rD]) ⟨d2,_,O31,rfl,a7,Ui ac (Ui kO ak),ed,?_,?_⟩
     ·simp only;rw[kW cB,SI hK,Tq];exact br.le (br.le hL aa) (Ui k2628 (Ui aj ak))
     ·simp only;rw[jK cB,Sb da];exact cx
    ·have dj:nd.cond.and x.cond.not=ff:=by simpa using a1
     apply RG;simp only[go_sem,iv,pt,sD,rD,a1,Ud,g1'];refine a0 (j+1,.slice l0 (eF (l2.take j) x.cond).length lc0,.slice o0 (cM (l2.take j) x.cond).length oc0) _ _ (by simp only;omega) (ae (by simp only[go_sem,Tq,iv,pt,sD,rD])) (by simp only[go_sem,Tq,AJ,iv,sD,rD]) ⟨fa,_,O,rfl,a3,Ui ac (Ui aa k2628),ed,?_,?_⟩
     ·simp only;rw[kW cB,SI hK,Tq];exact br.le (br.le hL aa) k2628
     ·simp only;rw[jK cB,SI dj,Tq];exact br.le hO (Ui aa k2628)
  ·have h6:j=l2.length:=by omega
   subst h6;have hh:=Z6 l2.length;rw[Td]at hL hO;apply RG;simp only[go_sem,hh,iv,pt,Td];have hu:=Ui hU (Ui b6 ac);refine go mixed [0,1,2,3,4,5,6,7,8,9,10] [] [] [1] [4] hn rfl rfl ?_;apply af;simp only[go_sem,iv,pt,sD,rD,w1'];refine gm (l:=[iv k]) rfl (cD c1) rfl rfl rfl (hc.le hu) (.inr ⟨mF,rfl⟩) ?_;apply af;simp only[go_sem,iv,pt,sD,rD,w1'];refine Og c1 [0,1,2,3,4,5] rfl (fun _=>Uj _) rfl gC (by rfl) (ps:=[]) (F:=[sg pb _,D16,B16,C13,L,O]) rfl (gx (h:=x) (by omega) (an.le ac)) fun v j2 qs cf aa hq=>?_;obtain⟨rfl,gi⟩:=hq;simp only[Z3]at cf |-;apply af;simp only[go_sem,iv,pt,sD,rD,w1'];have k1622:=Ui b6 (Ui ac aa);refine Og cf [0,1,2,3,4,5] rfl (fun h=>by cases h) rfl wQ (by rfl) (ps:=[sg pb _,D16]) (F:=[B16,C13,L,O]) rfl (ih m4 (by omega) (.line (k+1) o (bh x) 1) a4 i6 (by omega) ho (h2.le (Ui hu aa)) gi (bm fc fb) (gl.le k1622) (by simp only[Tu];omega)) fun v hR qs c0 a5 hq=>?_;obtain⟨dv23,D23,rs,rfl,gk,⟨A23,B23,va23,vb23,rfl,rfl,ez,g0⟩,ex,jd⟩:=hq;obtain⟨ka,kc,rfl⟩:=ez.shape;simp only[Z3]at c0 |-;apply af;simp only[go_sem,iv,pt,sD,rD];refine aw ?_;apply RG;simp only[go_sem,iv,pt,sD,rD];refine ab c0 [2,0,1,3,4,5,6,7] rfl fun b2=>?_;simp only[Z4]at b2 |-;refine ag (c:=.st _) b2 fun j1 b2 cp g6=>?_;have f7:db j1 (.slice ka a4.l.length kc) a4.l:=ez.sl cp g6;refine ab b2 [2,0,1,3,4,5,6] rfl fun cc=>?_;simp only[Z4]at cc |-;refine ag (c:=.st _) cc fun j0 cc cn gt=>?_;have gf:du j0 vb23 a4.f:=g0.sl (Ui cp cn) gt;have k2325:=Ui cp cn;have k2125:=Ui aa (Ui a5 k2325)
   unfold aF at h4 hF;refine ax mixed [0,1,2,3,4,5,6,7,9,10,8,11,12,13,14] [] [] rfl rfl ?_;apply af;simp only[go_sem,iv,pt,sD,rD];refine cq cc [4,0,1,2,3,5] rfl fun b1=>?_;simp only[Z4]at b1 |-;refine eZ b1 (by exact cT) (br.le hL k2125) (db.le f7 cn) (fun{I J c a} h k=>aW.le h k) (fun{I} c a h=>aW.len c a h) (fun{I} c a h=>aW.ones h) rfl rfl rfl rfl rfl rfl (by first|omega|(simp only[SB,S9];omega)) (by unfold maxLen;first|omega|(simp only[SB,S9];omega)) fun qa qc hP L27 b0 ao eq=>?_;have dy:=eq.capN aW.len;apply af;simp only[go_sem,iv,pt,sD,rD];refine aZ b0 (by exact cT) rfl rfl rfl rfl rfl (by decide) fun nb8 fa a3 aS fg=>?_;apply af;simp only[go_sem,iv,pt,sD,rD];refine cq a3 [5,0,1,2,3,4] rfl fun bx=>?_;simp only[Z4]at bx |-;obtain⟨bs,em,fs⟩:=hO;refine jt (m:=1) bx (by exact cT) em rfl rfl rfl rfl rfl rfl (cellsU bx (.head _) (az (l:=[.int .u8 13,.string ⟨⟨x.text⟩⟩,.int .i64 x.at',.int .i64 slot,.slice qa (eF l2 x.cond++a4.l).length qc,.slice ya (T.subs x.cond).length yk,iv (T.plc (T.subs x.cond) x.cond)]) fg (by simp[aE,Value.cells]) (by simp[aE,Value.cells,iv]))) rfl rfl (by omega) (by unfold maxLen;omega) fun v' kk O30 bd c5 eo=>?_;obtain⟨oa,oc,rfl⟩:=eo.slice;apply af;simp only[go_sem,iv,pt,sD,rD];refine aw ?_;apply RG;simp only[go_sem,iv,pt,sD,rD];refine ab bd [1,0,2,3,4,5] rfl fun a9=>?_;simp only[Z4]at a9 |-;refine ag a9 fun d2 a9 ak f3=>?_;have k2731:=Ui aS (Ui c5 ak);have k2531:=Ui ao k2731;have k2131:=Ui k2125 k2531
   have es:db d2 (.slice qa (eF l2 x.cond++a4.l).length qc) (eF l2 x.cond++a4.l):=br.sl (br.le eq (Ui aS c5)) ak f3;have c7:=an.le (Ui ac k2131);have cx:br d2 O30 (.slice oa ((cM l2 x.cond).length+1) oc) (cM l2 x.cond++[⟨13,x.text,x.at',slot,eF l2 x.cond++a4.l,x.cond⟩]):=by
    refine⟨_,by rw[Tu];exact eo,LR.app (fs.mono fun _ _ h=>aW.le h k2131) (.one (aW.mk (n:=⟨13,x.text,x.at',slot,eF l2 x.cond++a4.l,x.cond⟩) c7 es dy))⟩
   have k1631:=Ui k1622 (Ui a5 (Ui k2325 k2531));refine NB a9 [3,0,1,2,4] rfl dp (by rfl) (ps:=[B16]) (F:=[O30,sg pb _,D23,C13]) rfl (b7 (N:=ts.length) (by omega) (g3.le k1631) dI (gf.le k2531) ex) fun v32 jo qs a7 cm hq=>?_;obtain⟨B32,rfl,gs⟩:=hq;simp only[Z3]at a7 |-;apply RG;simp only[go_sem,iv,pt,sD,rD,f1'];refine ab a7 [2,3,1,0,4] rfl fun eg=>?_;simp only[Z4]at eg |-;exact c9 (i+1,m4,.slice oa ((cM l2 x.cond).length+1) oc,v32,dv23) _ _ (by simp only;omega) (ae (by simp only[go_sem,Tq,iv,pt])) (by simp only[go_sem,Tq,HX]) ⟨jo,D23,O30,B32,_,_,_,rfl,eg,Ui a6 (Ui k1631 cm),e0,by simp only;omega,ep,br.le cx cm,by rw[Tu,S4];unfold aF;exact hF,gs,dI.joinAll ex,by simpa[Te]using gk.le (Ui k2325 (Ui k2531 cm))⟩
 ·have h8:i=ops.length:=by omega
  subst h8;have hj:=Z6 ops.length;rw[T4]at cy;obtain⟨rfl,rfl,rfl⟩:=Bj cy;apply RG;simp only[go_sem,hj,iv,pt];exact d5 (m2,false,vl2,vg2,v13,dx) _ _ (by simp only;omega) (ae (by simp only[go_sem,Tq,iv,pt])) (by simp only[go_sem,Tq,Jt]) ⟨j5,D16,A16,B16,C13,_,_,_,_,rfl,dk,Ui d9 (Ui k813 a6),by simp only;omega,c4,e9,d7,g3,dI,gn.le a6,et.joinAll e7,by simpa[Te]using gl⟩
end
end Go.Proofs.YtfaclfkpnmcmlaaGreatDoor
