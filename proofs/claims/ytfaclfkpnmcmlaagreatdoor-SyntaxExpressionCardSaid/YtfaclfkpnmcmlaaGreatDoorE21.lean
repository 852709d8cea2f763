import Derived.Test.YtfaclfkpnmcmlaaGreatDoorE15
set_option maxHeartbeats 8000000
set_option linter.all false
namespace Syn
open Dg
mutual
def RI:Nd->Prop
 |⟨_,_,_,_,ks,d⟩=>d.ok 0/\d≠ff/\(∀m∈ks,WV m.cond d)/\(ks.map Nd.key).Pairwise (fun a b=>CW a b=true)/\Uj ks
def Uj:List Nd->Prop
 | []=>True
 |n::l=>RI n/\Uj l
end
variable{l:List Nd}
def Ku:Uj l<->∀n∈l,RI n:=by
 induction l with
 |nil=>simp[Uj]
 |cons n l ih=>simp[Uj,ih]
def wW(n:Nd):RI n<->n.cond.ok 0/\n.cond≠ff/\(∀m∈n.kids,WV m.cond n.cond)/\(n.kids.map Nd.key).Pairwise (fun a b=>CW a b=true)/\Uj n.kids:=by cases n;rfl
def Us(l:List Nd):Prop:=(l.map Nd.key).Pairwise (fun a b=>CW a b=true)/\∀n∈l,RI n
def Qg{n:Nd}(h:RI n):Us n.kids:=⟨((wW n).1 h).2.2.2.1,Ku.1 ((wW n).1 h).2.2.2.2⟩
def OY(h:Us l){n m:Nd}(hn:n∈l)(hm:m∈l)(e:n.key=m.key):n=m:=by
 obtain⟨h1,h0⟩:=h;clear h0
 induction l with
 |nil=>exact(aaB hn).elim
 |cons x l ih=>
  rw[aaU,aae]at h1;have no:∀y∈l,y.key≠x.key:=fun y hy e=>by
   have:=h1.1 y.key (List.mem_map_of_mem hy);rw[e,jZ.irr]at this;cases this
  rcases List.mem_cons.1 hn with a|a<;>rcases List.mem_cons.1 hm with b|b
  ·rw[a,b]
  ·subst a;exact absurd e.symm (no m b)
  ·subst b;exact absurd e (no n a)
  ·exact ih a b h1.2
open Dg
def Zc(x l:List Nd):Prop:=∀n,n∈x<->n∈l
def G5:∀(d:Nat) {x l:List Nd},gJ l<=d->Us l->Zc x l->mL d x=l
 |0,x,l,hd,hl,hc=>by
  have:=rm (Nat.le_zero.1 hd);subst this;rfl
 |d+1,x,l,hd,hl,hc=>by
  have hk:ks x=l.map Nd.key:=ly jZ (eV jZ _) hl.1 fun k=>by
   show k∈ks x<->_;rw[um,aaE];constructor
   ·rintro⟨n,h1,h2,_⟩;exact⟨n,(hc n).1 h1,h2⟩
   ·rintro⟨n,h1,h2⟩;exact⟨n,(hc n).2 h1,h2,((wW n).1 (hl.2 n h1)).2.1⟩
  simp only[mL,hk,aas]
  conv=>rhs;rw[<-List.map_id l]
  refine aat fun n hn=>?_;have hN:=(wW n).1 (hl.2 n hn);have mine_eq:∀m∈x.filter (fY n.key),m=n:=fun m hm=>by
   obtain⟨h1,h2⟩:=List.mem_filter.1 hm;simp only[fY,aao,aaC]at h2;exact OY hl ((hc m).1 h1) hn h2.1
  have mine_in:n∈x.filter (fY n.key):=List.mem_filter.2 ⟨(hc n).2 hn,by simp[fY,hN.2.1]⟩;have ek:mL d (cZ x n.key)=n.kids:=by
   refine G5 d (by have:=oV hn;rw[wE]at this;omega) (Qg (hl.2 n hn)) fun m=>?_;unfold cZ;rw[List.mem_flatMap];constructor
   ·rintro⟨y,h1,h2⟩;rw[mine_eq y h1]at h2;exact h2
   ·intro h;exact⟨n,mine_in,h⟩
  have ec:ib x n.key=n.cond:=by
   unfold ib;have key:∀(m:List Nd),(∀y∈m,y=n)->∀z:T,(z=ff\/z=n.cond)->(z=n.cond\/m≠[])->m.foldl (fun d y=>d.or y.cond) z=n.cond:=by
    intro m
    induction m with
    |nil=>intro _ z _ h;exact h.resolve_right fun h=>h rfl
    |cons y m ih=>
     intro hm z hz _;have e:z.or y.cond=n.cond:=by
      rw[hm y (.head _)];rcases hz with e|e<;>subst e
      ·exact T.ext (T.or_ok (show ff.ok 0 from trivial) hN.1) hN.1 fun c=>by rw[T.or_at (show ff.ok 0 from trivial) hN.1];rfl
      ·exact T.ext (T.or_ok hN.1 hN.1) hN.1 fun c=>by rw[T.or_at hN.1 hN.1,Bool.or_self]
     simp only[fu,e];exact ih (fun x hx=>hm x (.tail _ hx)) _ (.inr rfl) (.inl rfl)
   exact key _ mine_eq ff (.inl rfl) (.inr fun e=>by rw[e]at mine_in;exact aaB mine_in)
  show (⟨n.key.kind,n.key.text,n.key.tok,n.key.slot,mL d (cZ x n.key),ib x n.key⟩:Nd)=n;rw[ek,ec];cases n;rfl
end Syn
