import Derived.Test.YtfaclfkpnmcmlaaGreatDoorH06
import Derived.Test.YtfaclfkpnmcmlaaGreatDoorH07
set_option maxHeartbeats 8000000
set_option linter.all false
namespace Syn
open Dg
structure SO{K:Type}(lt:K->K->Bool):Prop where
 irr:∀a,lt a a=false
 tr:∀a b c,lt a b=true->lt b c=true->lt a c=true
 tri:∀a b,lt a b=false->lt b a=false->a=b
section
variable {K:Type} {lt:K->K->Bool}
def vI(lt:K->K->Bool)(k:K):List K->List K
 | []=>[k]
 |x::l=>if lt k x then k::x::l else if lt x k then x::vI lt k l else x::l
def pZ(lt:K->K->Bool)(l:List K):List K:=l.foldr (vI lt) []
def yh(so:SO lt){k x:K}:∀{l:List K},x∈vI lt k l<->x=k\/x∈l
 | []=>by simp[vI]
 |y::l=>by
  simp only[vI];split
  ·simp
  ·split
   ·rw[aad,yh so,aad];constructor
    ·rintro(h|h|h)
     ·exact .inr (.inl h)
     ·exact .inl h
     ·exact .inr (.inr h)
    ·rintro(h|h|h)
     ·exact .inr (.inl h)
     ·exact .inl h
     ·exact .inr (.inr h)
   ·rename_i h1 h2;have:=so.tri k y (by simpa using h1) (by simpa using h2);subst this;simp
def uE(so:SO lt){k:K}:∀{l:List K},l.Pairwise (fun a b=>lt a b=true)->(vI lt k l).Pairwise (fun a b=>lt a b=true)
 | [],_=>by simp[vI]
 |y::l,h=>by
  rw[aae]at h;simp only[vI];split
  ·rename_i h1;refine List.pairwise_cons.2 ⟨fun z hz=>?_,List.pairwise_cons.2 h⟩;rcases List.mem_cons.1 hz with e|e
   ·subst e;exact h1
   ·exact so.tr _ _ _ h1 (h.1 z e)
  ·split
   ·rename_i h1 h2;refine List.pairwise_cons.2 ⟨fun z hz=>?_,uE so h.2⟩;rcases(yh so).1 hz with e|e
    ·subst e;exact h2
    ·exact h.1 z e
   ·exact List.pairwise_cons.2 h
def nv(so:SO lt){x:K}:∀{l:List K},x∈pZ lt l<->x∈l
 | []=>Iff.rfl
 |y::l=>by
  show x∈vI lt y (pZ lt l)<->_;rw[yh so,nv so,aad]
def eV(so:SO lt):∀(l:List K),(pZ lt l).Pairwise (fun a b=>lt a b=true)
 | []=>List.Pairwise.nil
 |_::l=>uE so (eV so l)
def ly(so:SO lt):∀{l m:List K},l.Pairwise (fun a b=>lt a b=true)->m.Pairwise (fun a b=>lt a b=true)->(∀x,x∈l<->x∈m)->l=m
 | [],[],_,_,_=>rfl
 | [],y::m,_,_,h=>absurd ((h y).2 (.head _)) aaB
 |x::l,[],_,_,h=>absurd ((h x).1 (.head _)) aaB
 |x::l,y::m,h1,h2,h=>by
  rw[aae]at h1 h2;have e:x=y:=by
   rcases List.mem_cons.1 ((h x).1 (.head _))with e|e
   ·exact e
   ·rcases List.mem_cons.1 ((h y).2 (.head _))with e2|e2
    ·exact e2.symm
    ·have:=so.tr _ _ _ (h1.1 y e2) (h2.1 x e);rw[so.irr]at this;cases this
  subst e;congr 1;refine ly so h1.2 h2.2 fun z=>?_;constructor
  ·intro hz;rcases List.mem_cons.1 ((h z).1 (.tail _ hz))with e|e
   ·subst e;have:=h1.1 z hz;rw[so.irr]at this;cases this
   ·exact e
  ·intro hz;rcases List.mem_cons.1 ((h z).2 (.tail _ hz))with e|e
   ·subst e;have:=h2.1 z hz;rw[so.irr]at this;cases this
   ·exact e
end
structure qT where
 slot:Int
 tok:Int
 kind:Nat
 text:bq
deriving DecidableEq
def Nd.key(n:Nd):qT:=⟨n.slot,n.tok,n.kind,n.text⟩
def zp:bq->bq->Bool
 |_,[]=>false
 | [],_::_=>true
 |a::l,b::m=>if a.toNat<b.toNat then true else if b.toNat<a.toNat then false else zp l m
def yw:SO zp where
 irr:=by
  intro a
  induction a with
  |nil=>rfl
  |cons x a ih=>simp[zp,ih]
 tr:=by
  intro a
  induction a with
  |nil=>
   intro b c h1 h2;cases c with
   |nil=>cases b<;>simp[zp]at h2
   |cons z c=>rfl
  |cons x a ih=>
   intro b c h1 h2;cases b with
   |nil=>simp[zp]at h1
   |cons y b=>
    cases c with
    |nil=>simp[zp]at h2
    |cons z c=>
     simp only[zp]at h1 h2 |-;by_cases e1:x.toNat<y.toNat
     ·by_cases e2:y.toNat<z.toNat
      ·rw[aaq ab]
      ·rw[ZV e2]at h2;by_cases e3:z.toNat<y.toNat
       ·rw[aaq e3]at h2;cases h2
       ·rw[aaq ab]
     ·rw[ZV e1]at h1;by_cases e4:y.toNat<x.toNat
      ·rw[aaq e4]at h1;cases h1
      ·rw[ZV e4]at h1;by_cases e2:y.toNat<z.toNat
       ·rw[aaq ab]
       ·rw[ZV e2]at h2;by_cases e3:z.toNat<y.toNat
        ·rw[aaq e3]at h2;cases h2
        ·rw[ZV e3]at h2;rw[ZV ab,ZV ab];exact ih b c h1 h2
 tri:=by
  intro a
  induction a with
  |nil=>
   intro b h1 h2;cases b with
   |nil=>rfl
   |cons y b=>simp[zp]at h1
  |cons x a ih=>
   intro b h1 h2;cases b with
   |nil=>simp[zp]at h2
   |cons y b=>
    simp only[zp]at h1 h2;by_cases e1:x.toNat<y.toNat
    ·rw[aaq e1]at h1;cases h1
    ·by_cases e2:y.toNat<x.toNat
     ·rw[aaq e2]at h2;cases h2
     ·rw[ZV e1,ZV e2]at h1;rw[ZV e2,ZV e1]at h2;have:x=y:=UInt8.toNat_inj.1 ab;rw[this,ih b h1 h2]
def CW(a b:qT):Bool:=
 if a.slot<b.slot then true else if b.slot<a.slot then false else
 if a.tok<b.tok then true else if b.tok<a.tok then false else
 if a.kind<b.kind then true else if b.kind<a.kind then false else zp a.text b.text
def jZ:SO CW where
 irr:=by intro a;simp[CW,yw.irr]
 tr:=by
  intro a b c;unfold CW;have ht:=yw.tr a.text b.text c.text;intro h1 h2;by_cases s:a.slot<c.slot
  ·rw[aaq s]
  ·rw[ZV s];by_cases a1:a.slot<b.slot
   ·by_cases a2:b.slot<c.slot
    ·omega
    ·rw[ZV a2,aaq (show c.slot<b.slot by omega)]at h2;cases h2
   ·rw[ZV a1]at h1;by_cases a2:b.slot<a.slot
    ·rw[aaq a2]at h1;cases h1
    ·rw[ZV a2]at h1;by_cases a3:b.slot<c.slot
     ·omega
     ·rw[ZV a3]at h2;by_cases a4:c.slot<b.slot
      ·rw[aaq a4]at h2;cases h2
      ·rw[ZV a4]at h2;rw[ZV (show ¬c.slot<a.slot by omega)];by_cases t:a.tok<c.tok
       ·rw[aaq t]
       ·rw[ZV t];by_cases b1:a.tok<b.tok
        ·by_cases b2:b.tok<c.tok
         ·omega
         ·rw[ZV b2,aaq (show c.tok<b.tok by omega)]at h2;cases h2
        ·rw[ZV b1]at h1;by_cases b2:b.tok<a.tok
         ·rw[aaq b2]at h1;cases h1
         ·rw[ZV b2]at h1;by_cases b3:b.tok<c.tok
          ·omega
          ·rw[ZV b3]at h2;by_cases b4:c.tok<b.tok
           ·rw[aaq b4]at h2;cases h2
           ·rw[ZV b4]at h2;rw[ZV (show ¬c.tok<a.tok by omega)];by_cases k:a.kind<c.kind
            ·rw[aaq k]
            ·rw[ZV k];by_cases c1:a.kind<b.kind
             ·by_cases c2:b.kind<c.kind
              ·omega
              ·rw[ZV c2,aaq (show c.kind<b.kind by omega)]at h2;cases h2
             ·rw[ZV c1]at h1;by_cases c2:b.kind<a.kind
              ·rw[aaq c2]at h1;cases h1
              ·rw[ZV c2]at h1;by_cases c3:b.kind<c.kind
               ·omega
               ·rw[ZV c3]at h2;by_cases c4:c.kind<b.kind
                ·rw[aaq c4]at h2;cases h2
                ·rw[ZV c4]at h2;rw[ZV (show ¬c.kind<a.kind by omega)];exact ht h1 h2
 tri:=by
  intro a b h1 h2;unfold CW at h1 h2;have s:a.slot=b.slot:=by
   rcases Int.lt_trichotomy a.slot b.slot with h|h|h
   ·rw[aaq h]at h1;cases h1
   ·exact h
   ·rw[aaq h]at h2;cases h2
  rw[ZV ab,ZV ab]at h1 h2;have t:a.tok=b.tok:=by
   rcases Int.lt_trichotomy a.tok b.tok with h|h|h
   ·rw[aaq h]at h1;cases h1
   ·exact h
   ·rw[aaq h]at h2;cases h2
  rw[ZV ab,ZV ab]at h1 h2;have k:a.kind=b.kind:=by
   rcases aal a.kind b.kind with h|h|h
   ·rw[aaq h]at h1;cases h1
   ·exact h
   ·rw[aaq h]at h2;cases h2
  rw[ZV ab,ZV ab]at h1 h2;have x:=yw.tri _ _ h1 h2;cases a;cases b;simp_all
def x5(a b:Int×Nat):Bool:=if a.1<b.1 then true else if b.1<a.1 then false else decide (a.2<b.2)
def jB:SO x5 where
 irr:=by intro a;simp[x5]
 tr:=by
  intro a b c;unfold x5;intro h1 h2;by_cases s:a.1<c.1
  ·rw[aaq s]
  ·rw[ZV s];by_cases a1:a.1<b.1
   ·rw[ZV (show ¬b.1<c.1 by omega),aaq (show c.1<b.1 by omega)]at h2;cases h2
   ·rw[ZV a1]at h1;by_cases a2:b.1<a.1
    ·rw[aaq a2]at h1;cases h1
    ·rw[ZV a2]at h1;rw[ZV (show ¬b.1<c.1 by omega)]at h2;by_cases a4:c.1<b.1
     ·rw[aaq a4]at h2;cases h2
     ·rw[ZV a4]at h2;rw[ZV (show ¬c.1<a.1 by omega)];simp only[aaC]at *;omega
 tri:=by
  intro a b h1 h2;unfold x5 at h1 h2;have s:a.1=b.1:=by
   rcases Int.lt_trichotomy a.1 b.1 with h|h|h
   ·rw[aaq h]at h1;cases h1
   ·exact h
   ·rw[aaq h]at h2;cases h2
  rw[ZV ab,ZV ab]at h1 h2;simp only[abp]at h1 h2;exact Prod.ext s ab
def fY(k:qT)(n:Nd):Bool:=decide (n.key=k) && decide (n.cond≠ff)
def ks(l:List Nd):List qT:=pZ CW ((l.filter fun n=>decide (n.cond≠ff)).map Nd.key)
def cZ(l:List Nd)(k:qT):List Nd:=(l.filter (fY k)).flatMap (·.kids)
def ib(l:List Nd)(k:qT):T:=(l.filter (fY k)).foldl (fun d n=>d.or n.cond) ff
def mL:Nat->List Nd->List Nd
 |0,_=>[]
 |d+1,l=>(ks l).map fun k=>⟨k.kind,k.text,k.tok,k.slot,mL d (cZ l k),ib l k⟩
mutual
def CE:Nd->Nat
 |⟨_,_,_,_,ks,_⟩=>gJ ks+1
def gJ:List Nd->Nat
 | []=>0
 |n::l=>max (CE n) (gJ l)
end
def wE(n:Nd):CE n=gJ n.kids+1:=by cases n;rfl
def oV{n:Nd}:∀{l:List Nd},n∈l->CE n<=gJ l
 | [],h=>(aaB h).elim
 |m::l,h=>by
  simp only[gJ];rcases List.mem_cons.1 h with e|e
  ·subst e;omega
  ·have:=oV e;omega
def Ht{b:Nat}:∀{l:List Nd},(∀n∈l,CE n<=b)->gJ l<=b
 | [],_=>aaL _
 |m::l,h=>by
  have h1:=h m (.head _);have h2:=Ht fun n hn=>h n (.tail _ hn);simp only[gJ];omega
variable{k:qT}{l:List Nd}
def lL{x:Nd}(h:x∈cZ l k):∃n∈l,n.key=k/\n.cond≠ff/\x∈n.kids:=by
 obtain⟨n,hn,hx⟩:=List.mem_flatMap.1 h;obtain⟨h1,h2⟩:=List.mem_filter.1 hn;simp only[fY,aao,aaC]at h2;exact⟨n,h1,h2.1,h2.2,hx⟩
def yH{d:Nat}(h:gJ l<=d+1):gJ (cZ l k)<=d:=Ht fun x hx=>by
 obtain⟨n,hn,_,_,hx⟩:=lL hx;have h1:=oV hn;rw[wE]at h1;have h2:=oV hx;omega
def rm(h:gJ l=0):l=[]:=by
 cases l with
 |nil=>rfl
 |cons n l=>simp only[gJ,wE]at h;omega
def Ha(d:Nat):mL d []=[]:=by cases d<;>rfl
def tp:∀{d e:Nat} {l:List Nd},gJ l<=d->d<=e->mL e l=mL d l
 |0,e,l,h,_=>by rw[rm (Nat.le_zero.1 h),Ha,Ha]
 |d+1,0,l,h,h2=>by omega
 |d+1,e+1,l,h,h2=>by
  simp only[mL];refine aat fun k _=>?_;rw[tp (yH h) ab]
def um:k∈ks l<->∃n∈l,n.key=k/\n.cond≠ff:=by
 unfold ks;rw[nv jZ];simp only[aaE,aaD,aaC];constructor
 ·rintro⟨n,⟨h1,h2⟩,h3⟩;exact⟨n,h1,h3,h2⟩
 ·rintro⟨n,h1,h3,h2⟩;exact⟨n,⟨h1,h2⟩,h3⟩
def WV(a b:T):Prop:=∀c,a.at' c=true->b.at' c=true
mutual
def wN:Nd->Prop
 |⟨_,_,_,_,ks,d⟩=>wL d ks
def wL:T->List Nd->Prop
 |_,[]=>True
 |d,n::l=>(WV n.cond d/\wN n)/\wL d l
end
def Fy{d:T}:wL d l<->∀n∈l,WV n.cond d/\wN n:=by
 induction l with
 |nil=>simp[wL]
 |cons n l ih=>simp[wL,ih]
def Ro(n:Nd):wN n<->wL n.cond n.kids:=by cases n;rfl
def yu{c:bP}:∀{l:List Nd} {z:T},z.ok 0->(∀n∈l,n.cond.ok 0)->(l.foldl (fun d n=>d.or n.cond) z).ok 0/\(l.foldl (fun d n=>d.or n.cond) z).at' c=(z.at' c || l.any fun n=>n.cond.at' c)
 | [],z,hz,_=>⟨hz,by simp⟩
 |n::l,z,hz,h=>by
  have hn:=h n (.head _);have:=yu (c:=c) (l:=l) (z:=z.or n.cond) (T.or_ok hz hn) fun m hm=>h m (.tail _ hm);refine⟨this.1,?_⟩;simp only[fu,List.any_cons];rw[this.2,T.or_at hz hn,Bool.or_assoc]
def MG(h:iE l):(ib l k).ok 0:=(yu (c:=fun _=>false) (z:=ff) trivial fun n hn=>(fW.1 (ik.1 h n (List.mem_filter.1 hn).1)).1).1
variable{c:bP}
def Ag(h:iE l):(ib l k).at' c=true<->∃n∈l,n.key=k/\n.cond.at' c=true:=by
 have h1:=(yu (c:=c) (l:=l.filter (fY k)) (z:=ff) trivial fun n hn=>(fW.1 (ik.1 h n (List.mem_filter.1 hn).1)).1).2;unfold ib;rw[h1,BL,abw,List.any_eq_true];simp only[aaD,fY,aao,aaC];constructor
 ·rintro⟨n,⟨h1,h2,_⟩,h3⟩;exact⟨n,h1,h2,h3⟩
 ·rintro⟨n,h1,h2,h3⟩;exact⟨n,⟨h1,h2,fun e=>by rw[e]at h3;cases h3⟩,h3⟩
def tW{c:bP}{m:Nd}:∀{l:List Nd},m∈pL c l<->∃n∈l,n.cond.at' c=true/\m={ n with kids:=pL c n.kids,cond:=tt }
 | []=>by simp[pL]
 |n::l=>by
  rw[cM];split
  ·rename_i h;simp only[aad,tW (l:=l)];constructor
   ·rintro(e|⟨x,h1,h2,h3⟩)
    ·exact⟨n,.inl rfl,h,e⟩
    ·exact⟨x,.inr h1,h2,h3⟩
   ·rintro⟨x,e|h1,h2,h3⟩
    ·subst e;exact .inl h3
    ·exact .inr ⟨x,h1,h2,h3⟩
  ·rename_i h;simp only[tW (l:=l),aad];constructor
   ·rintro⟨x,h1,h2,h3⟩;exact⟨x,.inr h1,h2,h3⟩
   ·rintro⟨x,e|h1,h2,h3⟩
    ·subst e;exact absurd h2 h
    ·exact⟨x,h1,h2,h3⟩
def Nc:tt≠ff:=by decide
def Bi{c:bP}:∀{l:List Nd},(∀n∈l,n.cond.at' c=false)->pL c l=[]
 | [],_=>rfl
 |n::l,h=>by
  rw[cM,h n (.head _),ZV bg,Bi fun m hm=>h m (.tail _ hm)]
def IL(hw:∀n∈l,wN n):pL c (cZ l k)=cZ (pL c l) k:=by
 unfold cZ
 induction l with
 |nil=>rfl
 |cons n l ih=>
  have hn:=(Ro n).1 (hw n (.head _));have h2:=ih fun m hm=>hw m (.tail _ hm);rw[cM];by_cases hc:n.cond.at' c=true
  ·rw[aaq hc];have aa:n.cond≠ff:=fun e=>by rw[e]at hc;cases hc
   by_cases hk:n.key=k
   ·have e1:fY k n=true:=by simp[fY,hk,aa]
    have e2:fY k { n with kids:=pL c n.kids,cond:=tt }=true:=by
     have:Nd.key { n with kids:=pL c n.kids,cond:=tt }=n.key:=rfl;simp[fY,this,hk,Nc]
    rw[List.filter_cons_of_pos e1,List.filter_cons_of_pos e2,abg,abg,fq,h2]
   ·have e1:¬fY k n=true:=by simp[fY,hk]
    have e2:¬fY k { n with kids:=pL c n.kids,cond:=tt }=true:=by
     have:Nd.key { n with kids:=pL c n.kids,cond:=tt }=n.key:=rfl;simp[fY,this,hk]
    rw[List.filter_cons_of_neg e1,List.filter_cons_of_neg e2,h2]
  ·rw[ZV hc];by_cases e1:fY k n=true
   ·rw[List.filter_cons_of_pos e1,abg,fq,h2,Bi,aaA];intro m hm;cases e:m.cond.at' c with
    |false=>rfl
    |true=>exact absurd ((Fy.1 hn m hm).1 c e) hc
   ·rw[List.filter_cons_of_neg e1,h2]
def vv{K:Type}{R:K->K->Prop}{p:K->Bool}{l:List K}(h:l.Pairwise R):(l.filter p).Pairwise R:=h.sublist List.filter_sublist
def RP(ho:iE l):(ks l).filter (fun k=>(ib l k).at' c)=ks (pL c l):=by
 refine ly jZ (vv (eV jZ _)) (eV jZ _) fun k=>?_;rw[aaD,Ag ho,um,um];constructor
 ·rintro⟨_,n,h1,h2,h3⟩;exact⟨_,tW.2 ⟨n,h1,h3,rfl⟩,h2,Nc⟩
 ·rintro⟨m,h1,h2,h3⟩;obtain⟨n,h4,h5,e⟩:=tW.1 h1;have h6:n.key=k:=by rw[<-h2,e];rfl
  exact⟨⟨n,h4,h6,fun e=>by rw[e]at h5;cases h5⟩,n,h4,h6,h5⟩
def rZ(h:iE l):iE (cZ l k):=ik.2 fun x hx=>by
 obtain⟨n,hn,_,_,hx⟩:=lL hx;exact ik.1 (fW.1 (ik.1 h n hn)).2 x hx
def IT(ho:iE l)(h:(ib l k).at' c=true):ib (pL c l) k=tt:=by
 have key:∀(m:List Nd),(∀n∈m,n.cond=tt)->∀z:T,(z=tt\/m≠[])->(z=tt\/z=ff)->m.foldl (fun d n=>d.or n.cond) z=tt:=by
  intro m
  induction m with
  |nil=>intro _ z h _;exact h.resolve_right fun h=>h rfl
  |cons n m ih=>
   intro hm z _ hz;simp only[fu];have e:z.or n.cond=tt:=by rw[hm n (.head _)];rcases hz with e|e<;>subst e<;>rfl
   exact ih (fun x hx=>hm x (.tail _ hx)) _ (.inl e) (.inl e)
 obtain⟨n,h1,h2,h3⟩:=(Ag ho).1 h;refine key _ (fun m hm=>?_) ff (.inr fun e=>?_) (.inr rfl)
 ·obtain⟨x,_,_,e⟩:=tW.1 (List.mem_filter.1 hm).1;rw[e]
 ·have:({ n with kids:=pL c n.kids,cond:=tt }:Nd)∈(pL c l).filter (fY k):=List.mem_filter.2 ⟨tW.2 ⟨n,h1,h3,rfl⟩,by
   have:Nd.key { n with kids:=pL c n.kids,cond:=tt }=n.key:=rfl;simp[fY,this,h2,Nc]⟩
  rw[e]at this;exact aaB this
def L9{α:Type}{c:bP}{g:α->Nd}:∀(l:List α),pL c (l.map g)=(l.filter fun a=>(g a).cond.at' c).map fun a=>{ g a with kids:=pL c (g a).kids,cond:=tt }
 | []=>rfl
 |a::l=>by
  rw[aaU,cM,L9 l,aby];split<;>rfl
def HR(h:∀n∈l,wN n):∀n∈cZ l k,wN n:=fun x hx=>by
 obtain⟨n,hn,_,_,hx⟩:=lL hx;exact(Fy.1 ((Ro n).1 (h n hn)) x hx).2
def Lv(c:bP):∀(d:Nat) {l:List Nd},iE l->(∀n∈l,wN n)->pL c (mL d l)=mL d (pL c l)
 |0,_,_,_=>rfl
 |d+1,l,ho,hw=>by
  simp only[mL];rw[L9,RP ho];refine aat fun k hk=>?_;rw[<-RP ho,aaD]at hk;rw[IT ho hk.2];show (⟨k.kind,k.text,k.tok,k.slot,pL c (mL d (cZ l k)),tt⟩:Nd)=_;rw[Lv c d (rZ ho) (HR hw),IL hw]
mutual
def nX(d:T):List Nd->List Nd
 | []=>[]
 |n::l=>match YC d n with
  |some m=>m::nX d l
  |none=>nX d l
def YC (d:T):Nd->Option Nd
 |⟨k,t,o,s,ks,c⟩=>if c.and d=ff then none else some ⟨k,t,o,s,nX (c.and d) ks,c.and d⟩
end
def qe(d:T)(n:Nd)(l:List Nd):nX d (n::l)=if n.cond.and d=ff then nX d l else { n with kids:=nX (n.cond.and d) n.kids,cond:=n.cond.and d }::nX d l:=by
 cases n;simp only[nX,YC];split<;>rename_i h<;>split at h<;>simp_all
def mY:∀(l:List Nd) (d:T),d.ok 0->iE l->iE (nX d l)/\wL d (nX d l)/\(∀n∈nX d l,n.cond≠ff)/\∀c,pL c (nX d l)=if d.at' c then pL c l else []
 | [],d,hd,ho=>⟨trivial,trivial,fun n h=>(aaB h).elim,fun c=>by simp[nX,pL]⟩
 |⟨k,t,o,s,ks,e⟩::l,d,hd,ho=>by
  have hn:=ho.1;have he:e.ok 0:=hn.1;have aa:(e.and d).ok 0:=T.and_ok he hd;obtain⟨a1,a2,a3,a4⟩:=mY l d hd ho.2;rw[qe];show iE (if e.and d=ff then _ else _)/\_;by_cases hf:e.and d=ff
  ·rw[aaq hf];refine⟨a1,a2,a3,fun c=>?_⟩;rw[a4,cM];split
   ·rename_i ac;have:(e.and d).at' c=false:=by rw[hf];rfl
    rw[T.and_at he hd,ac,abv]at this;show _=if e.at' c then _ else _
    rw[this];rfl
   ·rfl
  ·rw[ZV hf];obtain⟨b1,b2,b3,b4⟩:=mY ks (e.and d) aa hn.2;refine⟨⟨⟨aa,b1⟩,a1⟩,⟨⟨fun c hc=>?_,b2⟩,a2⟩,fun n hn=>?_,fun c=>?_⟩
   ·rw[T.and_at he hd,aao]at hc;exact hc.2
   ·rcases List.mem_cons.1 hn with x|x
    ·subst x;exact hf
    ·exact a3 n x
   ·rw[cM,cM,a4,b4];show (if (e.and d).at' c then _ else _)=if d.at' c then (if e.at' c then _ else _)else []
    rw[T.and_at he hd];cases ac:d.at' c<;>cases aj:e.at' c<;>simp
 termination_by l=>sizeOf l
def Un(e:List cO):List (Int×Nat):=pZ x5 ((e.filter fun d=>decide (d.cond≠ff)).map fun d=>(d.tok,d.code))
def M8(k:Int×Nat)(d:cO):Bool:=decide ((d.tok,d.code)=k) && decide (d.cond≠ff)
def uO(e:List cO)(k:Int×Nat):T:=(e.filter (M8 k)).foldl (fun t d=>t.or d.cond) ff
def Eo(e:List cO):List cO:=(Un e).map fun k=>⟨k.2,k.1,uO e k⟩
def yb{c:bP}:∀{l:List cO} {z:T},z.ok 0->(∀n∈l,n.cond.ok 0)->(l.foldl (fun t d=>t.or d.cond) z).ok 0/\(l.foldl (fun t d=>t.or d.cond) z).at' c=(z.at' c || l.any fun n=>n.cond.at' c)
 | [],z,hz,_=>⟨hz,by simp⟩
 |n::l,z,hz,h=>by
  have hn:=h n (.head _);have:=yb (c:=c) (l:=l) (z:=z.or n.cond) (T.or_ok hz hn) fun m hm=>h m (.tail _ hm);refine⟨this.1,?_⟩;simp only[fu,List.any_cons];rw[this.2,T.or_at hz hn,Bool.or_assoc]
variable{e:List cO}
def IC{k:Int×Nat}(h:Ce e):(uO e k).ok 0:=(yb (c:=fun _=>false) (z:=ff) trivial fun n hn=>h n (List.mem_filter.1 hn).1).1
def DP{k:Int×Nat}(h:Ce e):(uO e k).at' c=true<->∃d∈e,(d.tok,d.code)=k/\d.cond.at' c=true:=by
 have h1:=(yb (c:=c) (l:=e.filter (M8 k)) (z:=ff) trivial fun n hn=>h n (List.mem_filter.1 hn).1).2;unfold uO;rw[h1,BL,abw,List.any_eq_true];simp only[aaD,M8,aao,aaC];constructor
 ·rintro⟨n,⟨h1,h2,_⟩,h3⟩;exact⟨n,h1,h2,h3⟩
 ·rintro⟨n,h1,h2,h3⟩;exact⟨n,⟨h1,h2,fun e=>by rw[e]at h3;cases h3⟩,h3⟩
def NX(c:bP)(e:List cO):List cO:=(e.filter fun d=>d.cond.at' c).map fun d=>{ d with cond:=tt }
def TY(c:bP)(h:Ce e):NX c (Eo e)=(pZ x5 ((pE c e).map fun x=>(x.2,x.1))).map fun k=>⟨k.2,k.1,tt⟩:=by
 unfold NX Eo;rw[List.filter_map,aas];show ((Un e).filter fun k=>(uO e k).at' c).map (fun k=>(⟨k.2,k.1,tt⟩:cO))=_;congr 1;refine ly jB (vv (eV jB _)) (eV jB _) fun k=>?_;rw[aaD,DP h,nv jB];unfold Un;rw[nv jB];simp only[pE,aas,aaE,aaD,aaC,Function.comp];constructor
 ·rintro⟨_,d,h1,h2,h3⟩;exact⟨d,⟨h1,h3⟩,h2⟩
 ·rintro⟨d,⟨h1,h3⟩,h2⟩;exact⟨⟨d,⟨h1,fun e=>by rw[e]at h3;cases h3⟩,h2⟩,d,h1,h2,h3⟩
open Dg
structure Tr where
 kids:List Nd
 diags:List cO
def prj(c:bP)(t:Tr):Tr:=⟨pL c t.kids,NX c t.diags⟩
def pI(r:bW):List Nd:=[⟨1,[],-1,0,nX (ii r.f) r.l,ii r.f⟩]
def iW:Nat:=2^50
def Rx(ts:List Tok)(w:T)(t:Tr):Prop:=
 w=ff/\t=⟨[],[]⟩\/w≠ff/\∃r,run ts iW (.seqL true 0 [(0,w)] [] [])=some r/\t=⟨mL (gJ (pI r)) (pI r),Eo r.e⟩
def sS{f:ar}(hf:cq f):(ii f).ok 0/\(ii f).at' c=!(eS c f).isEmpty:=by
 have key:∀(f:ar) (z:T),(∀s∈f,s.2.ok 0)->z.ok 0->(f.foldl (fun d s=>d.or s.2) z).ok 0/\(f.foldl (fun d s=>d.or s.2) z).at' c=(z.at' c || !(eS c f).isEmpty):=by
  intro f
  induction f with
  |nil=>intro z _ hz;exact⟨hz,by simp[eS]⟩
  |cons s f ih=>
   intro z h hz;have hs:=h s (.head _);obtain⟨h1,h2⟩:=ih (z.or s.2) (fun t ht=>h t (.tail _ ht)) (T.or_ok hz hs);refine⟨h1,?_⟩;simp only[fu];rw[h2,T.or_at hz hs,fd];cases z.at' c<;>cases s.2.at' c<;>simp
 obtain⟨h1,h2⟩:=key f ff (fun s hs=>(hf.1 s hs).1) trivial;exact⟨h1,by show (f.foldl _ ff).at' c=_;rw[h2];rfl⟩
variable{r:bW}
def E7(hf:cq r.f)(hl:iE r.l):iE (pI r)/\∀n∈pI r,wN n:=by
 have h1:=(sS (c:=fun _=>false) hf).1;obtain⟨a1,a2,_,_⟩:=mY r.l _ h1 hl;refine⟨⟨⟨h1,a1⟩,trivial⟩,fun n hn=>?_⟩;simp only[pI,List.mem_singleton]at hn;subst hn;exact a2
def Nm{p:Option Nat}(hf:cq r.f)(hl:iE r.l)(hp:At c r.f p):pL c (pI r)=if p.isSome then [⟨1,[],-1,0,pL c r.l,tt⟩]else []:=by
 obtain⟨h1,h2⟩:=sS (c:=c) hf;unfold pI;rw[gm];have e:(ii r.f).at' c=p.isSome:=by
  rw[h2,show eS c r.f=p.toList from hp];cases p<;>rfl
 show (if (ii r.f).at' c=true then _ else _)=_;rw[e,(mY r.l _ h1 hl).2.2.2 c,e];cases p<;>rfl
variable{w:T}
def Dl(hw:w.ok 0)(aa:w≠ff):cq [(0,w)]:=⟨fun s hs=>by simp at hs;subst hs;exact⟨hw,aa⟩,by simp⟩
def Mg(c:bP)(w:T):At c [(0,w)] (if w.at' c then some 0 else none):=At.one c 0 w
variable{ts:List Tok}
def jR(aa:bT ts)(hw:w.ok 0)(ac:w≠ff){n:Nat}(e:run ts n (.seqL true 0 [(0,w)] [] [])=some r)(c:bP):
  ∃q,PV c ts (.seqL true 0 (if w.at' c then some 0 else none) [] none) q/\RR c r q:=
 CU aa n _ _ e _ (.seqL (Dl hw ac) (Mg c w) trivial rfl cq.nil (At.nil c) (.inr rfl))
def Fj(c:bP):∀(l:List Nd),gJ (pL c l)<=gJ l
 | []=>ZR _
 |⟨k,t,o,s,ks,d⟩::l=>by
  have h1:=Fj c ks;have h2:=Fj c l;rw[cM];split
  ·simp only[gJ,CE];omega
  ·simp only[gJ,CE];omega
def eZ(q:PR):Tr:=⟨mL (gJ q.l+1) (if q.p.isSome then [⟨1,[],-1,0,q.l,tt⟩]else []),(pZ x5 (q.e.map fun x=>(x.2,x.1))).map fun k=>⟨k.2,k.1,tt⟩⟩
def ug(aa:bT ts)(hw:w.ok 0){t:Tr}(h:Rx ts w t)(hc:w.at' c=true):∃q,PV c ts (.seqL true 0 (some 0) [] none) q/\prj c t=eZ q:=by
 rcases h with ⟨e,_⟩|⟨ac,r,er,et⟩
 ·rw[e]at hc;cases hc
 ·obtain⟨q,hq,R⟩:=jR aa hw ac er c;rw[hc]at hq;refine⟨q,hq,?_⟩;subst et;unfold prj eZ;obtain⟨o1,o2⟩:=E7 R.fok R.lok;have e1:pL c (mL (gJ (pI r)) (pI r))=mL (gJ q.l+1) (if q.p.isSome then [⟨1,[],-1,0,q.l,tt⟩]else []):=by
   rw[Lv c _ o1 o2];have hd:=Fj c (pI r);rw[Nm R.fok R.lok R.f,R.l]at hd |-;generalize gJ (pI r)=D at hd;rw[tp (ZR _) hd];refine(tp (ZR _) ?_).symm;split<;>simp[gJ,CE]
  have e2:NX c (Eo r.e)=(pZ x5 (q.e.map fun x=>(x.2,x.1))).map fun k=>⟨k.2,k.1,tt⟩:=by
   rw[TY c R.eok,R.e]
  show (⟨pL c (mL (gJ (pI r)) (pI r)),NX c (Eo r.e)⟩:Tr)=_;rw[e1,e2]
def NZ(aa:bT ts){v:T}(hw:w.ok 0)(hv:v.ok 0){t u:Tr}(h:Rx ts w t)(k:Rx ts v u)(hc:w.at' c=true)(hd:v.at' c=true):prj c t=prj c u:=by
 obtain⟨q,h1,h2⟩:=ug aa hw h hc;obtain⟨s,k1,k2⟩:=ug aa hv k hd;rw[h2,k2,h1.det k1]
def EX(hw:w.ok 0)(aa:w≠ff):lX ts (.seqL true 0 [(0,w)] [] []):=
 ⟨⟨Dl hw aa,fun s hs=>by simp at hs;subst hs;exact aaL _⟩,FN.nil _⟩
def IU(w:T)(hl:ts.length<=16384):cU ts (.seqL true 0 [(0,w)] [] [])<=aN:=by
 have h:=w.card_le;have:w.card*(ts.length+1)<=2^24*16385:=Nat.mul_le_mul h ab;simp only[cU,fO,dO,lp,aaO,Nat.sub_zero];unfold aN;omega
def Kx(w:T)(hl:ts.length<=16384):mu ts (.seqL true 0 [(0,w)] [] [])<iW:=by
 have h:=w.card_le;have:w.card*(ts.length+1)<=2^24*16385:=Nat.mul_le_mul h ab;simp only[mu,fO,dO,lp,Nat.sub_zero];unfold iW;omega
def Jd(aa:bT ts)(hw:w.ok 0)(ac:w≠ff)(hl:ts.length<=16384):∃r,run ts iW (.seqL true 0 [(0,w)] [] [])=some r/\FN ts.length r.f/\r.e.length<=aN/\r.l.length<=aN:=by
 have hb:=IU w hl;obtain⟨r,er,q1,q2⟩:=G2 aa iW _ (EX hw ac) hb (Kx w hl);exact⟨r,er,q1,ab,ab⟩
def WM(l:List Tr):Tr:=⟨mL (gJ (l.flatMap (·.kids))) (l.flatMap (·.kids)),Eo (l.flatMap (·.diags))⟩
def cO.key(d:cO):Int×Nat:=(d.tok,d.code)
end Syn
