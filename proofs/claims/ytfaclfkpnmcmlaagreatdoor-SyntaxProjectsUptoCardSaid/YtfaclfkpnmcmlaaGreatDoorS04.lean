import Derived.Test.YtfaclfkpnmcmlaaGreatDoorS03
set_option maxHeartbeats 8000000
set_option linter.all false
namespace Syn
open Dg
theorem xz(c:cg):(ff:T).at' c=false:=rfl
def bG(f:ah):Prop:=(∀s∈f,s.2.ok 0/\s.2≠ff)/\f.Pairwise (fun s t=>s.1<t.1)
def bu(ts:List Tok):Prop:=∀t∈ts,t.cond.ok 0
theorem Co{f:ah}{a:Nat}{d:T}:∀{s},s∈qV f a d->s.1=a\/∃t∈f,t.1=s.1:=by
 induction f with
 |nil=>intro s h;simp[qV]at h;exact .inl (by rw[h])
 |cons x f ih=>
  obtain⟨b,e⟩:=x;intro s h;simp only[qV]at h;split at h
  ·rcases List.mem_cons.1 h with rfl|h
   ·exact .inr ⟨_,.head _,rfl⟩
   ·rcases ih h with h|⟨t,ht,e⟩
    ·exact .inl h
    ·exact .inr ⟨t,.tail _ ht,e⟩
  ·split at h
   ·rcases List.mem_cons.1 h with rfl|h
    ·exact .inr ⟨_,.head _,rfl⟩
    ·exact .inr ⟨s,.tail _ h,rfl⟩
   ·rcases List.mem_cons.1 h with rfl|h
    ·exact .inl rfl
    ·exact .inr ⟨s,h,rfl⟩
theorem OY{a b:T}(ha:a.ok 0)(hb:b.ok 0)(h:b≠ff):a.or b≠ff:=by
 obtain⟨c,hc⟩:=T.some_of_ne hb h;intro e;have:=T.or_at ha hb c;rw[e,hc]at this;simp[T.at']at this
theorem K8{f:ah}(h:bG f){a:Nat}{d:T}(hd:d.ok 0)(aa:d≠ff):bG (qV f a d):=by
 induction f with
 |nil=>exact⟨fun s hs=>by simp[qV]at hs;subst hs;exact⟨hd,aa⟩,by simp[qV]⟩
 |cons x f ih=>
  obtain⟨b,e⟩:=x;obtain⟨h1,h2⟩:=h;rw[Sv]at h2;have hx:=h1 _ (.head _);have hf:bG f:=⟨fun s hs=>h1 s (.tail _ hs),h2.2⟩;simp only[qV];split
  ·rename_i ac;have:=ih hf;refine⟨fun s hs=>?_,List.pairwise_cons.2 ⟨fun s hs=>?_,this.2⟩⟩
   ·rcases List.mem_cons.1 hs with rfl|hs
    ·exact hx
    ·exact this.1 s hs
   ·rcases Co hs with he|⟨t,ht,he⟩
    ·show b<s.1;omega
    ·have:=h2.1 t ht;show b<s.1;simp only at this;omega
  ·split
   ·refine⟨fun s hs=>?_,List.pairwise_cons.2 ⟨fun s hs=>h2.1 s hs,h2.2⟩⟩;rcases List.mem_cons.1 hs with rfl|hs
    ·exact⟨T.or_ok hx.1 hd,OY hx.1 hd aa⟩
    ·exact h1 s (.tail _ hs)
   ·refine⟨fun s hs=>?_,List.pairwise_cons.2 ⟨fun s hs=>?_,List.pairwise_cons.2 h2⟩⟩
    ·rcases List.mem_cons.1 hs with rfl|hs
     ·exact⟨hd,aa⟩
     ·exact h1 s hs
    ·rcases List.mem_cons.1 hs with rfl|hs
     ·show a<b;omega
     ·have:=h2.1 s hs;show a<s.1;simp only at this;omega
theorem de{f:ah}(h:bG f){a:Nat}{d:T}(hd:d.ok 0):bG (join f a d):=by
 unfold join;split
 ·exact h
 ·exact K8 h hd (by assumption)
theorem Hc{f:ah}{a:Nat}{d:T}{s}(h:s∈join f a d):s.1=a\/∃t∈f,t.1=s.1:=by
 unfold join at h;split at h
 ·exact .inr ⟨s,h,rfl⟩
 ·exact Co h
theorem bG.nil:bG []:=⟨fun s h=>(SW h).elim,List.Pairwise.nil⟩
theorem cZ{g:ah}(hg:∀s∈g,s.2.ok 0):∀{f:ah},bG f->bG (joinAll f g):=by
 induction g with
 |nil=>intro f h;exact h
 |cons s g ih=>intro f h;exact ih (fun t ht=>hg t (.tail _ ht)) (de h (hg s (.head _)))
def dC(c:cg)(f:ah):List Nat:=(f.filter fun s=>s.2.at' c).map (·.1)
def At(c:cg)(f:ah)(p:Option Nat):Prop:=dC c f=p.toList
theorem At.nil(c:cg):At c [] none:=rfl
theorem At.one(c:cg)(a:Nat)(d:T):At c [(a,d)] (if d.at' c then some a else none):=by
 unfold At dC;cases h:d.at' c<;>simp[h]
def lD(l:List Nat)(a:Nat):List Nat:=match l with
 | []=>[a]
 |b::l=>if b<a then b::lD l a else if b=a then b::l else a::b::l
theorem dG(c:cg)(s:Nat×T)(f:ah):dC c (s::f)=if s.2.at' c then s.1::dC c f else dC c f:=by
 unfold dC;cases h:s.2.at' c<;>simp[h]
theorem Ih{c:cg}{f:ah}{b:Nat}(h:∀s∈f,b<s.1):∀p∈dC c f,b<p:=by
 intro p hp;unfold dC at hp;simp only[SZ,SY]at hp;obtain⟨s,⟨hs,_⟩,rfl⟩:=hp;exact h s hs
theorem rZ{l:List Nat}{a:Nat}(h:∀p∈l,a<p):lD l a=a::l:=by
 cases l with
 |nil=>rfl
 |cons b l=>have:=h b (.head _);simp only[lD];rw[Sb Vi,Sb Vi]
theorem E7(c:cg){f:ah}(h:bG f){a:Nat}{d:T}(hd:d.ok 0):dC c (qV f a d)=if d.at' c then lD (dC c f) a else dC c f:=by
 induction f with
 |nil=>simp only[qV];rw[dG];rfl
 |cons x f ih=>
  obtain⟨b,e⟩:=x;obtain⟨h1,h2⟩:=h;rw[Sv]at h2;have hx:=h1 _ (.head _);have hf:bG f:=⟨fun s hs=>h1 s (.tail _ hs),h2.2⟩;have aa:∀p∈dC c f,b<p:=Ih h2.1;simp only[qV];split
  ·rename_i ac;rw[dG,dG,ih hf];simp only;cases he:e.at' c<;>cases hc:d.at' c<;>simp[lD,ac]
  ·split
   ·rename_i _ aj;subst aj;rw[dG,dG];simp only[T.or_at hx.1 hd];cases he:e.at' c<;>cases hc:d.at' c<;>simp[lD,rZ aa]
   ·rename_i h3 h4;rw[dG,dG];simp only;have:∀p∈dC c f,a<p:=fun p hp=>by have:=aa p hp;omega
    cases he:e.at' c<;>cases hc:d.at' c<;>simp[lD,rZ this,h3,h4]
theorem ej(c:cg){f:ah}(h:bG f){a:Nat}{d:T}(hd:d.ok 0):dC c (join f a d)=if d.at' c then lD (dC c f) a else dC c f:=by
 unfold join;split
 ·rename_i e;subst e;simp[T.at']
 ·exact E7 c h hd
theorem wM(c:cg){g:ah}(hg:∀s∈g,s.2.ok 0):∀{f:ah},bG f->dC c (joinAll f g)=(dC c g).foldl lD (dC c f):=by
 induction g with
 |nil=>intro f h;rfl
 |cons s g ih=>
  intro f h;show dC c (joinAll (join f s.1 s.2) g)=_;have hs:=hg s (.head _);rw[ih (fun t ht=>hg t (.tail _ ht)) (de h hs),ej c h hs,dG];cases hc:s.2.at' c<;>simp
theorem At.joinAll{c:cg}{f g:ah}{p q:Option Nat}(hf:bG f)(hg:bG g)(h1:At c f p)(h2:At c g q)(h:p=none\/q=none):At c (joinAll f g) (p.or q):=by
 unfold At at *;rw[wM c (fun s hs=>(hg.1 s hs).1) hf,h1,h2];rcases h with rfl|rfl
 ·cases q<;>rfl
 ·cases p<;>rfl
theorem At.join{c:cg}{f:ah}{p:Option Nat}(hf:bG f)(h1:At c f p){a:Nat}{d:T}(hd:d.ok 0)(h:d.at' c=true->p=none):At c (join f a d) (if d.at' c then some a else p):=by
 unfold At at *;rw[ej c hf hd,h1];cases hc:d.at' c
 ·rfl
 ·rw[h hc];rfl
def ug(c:cg):List Tok->Nat->Nat
 | [],i=>i
 |t::l,i=>if t.cond.at' c then i else ug c l (i+1)
def nx(c:cg)(ts:List Tok)(p:Nat):Nat:=ug c (ts.drop p) p
theorem uS{l:List Tok}:∀{a:ah} {i:Nat} {d:T},bu l->bG a->d.ok 0->bG (dE a l i d):=by
 induction l with
 |nil=>intro a i d _ ha hd;exact de ha hd
 |cons t l ih=>
  intro a i d hl ha hd;simp only[dE];split
  ·exact ha
  ·have ht:=hl t (.head _);exact ih (fun x hx=>hl x (.tail _ hx)) (de ha (T.and_ok hd ht)) (T.and_ok hd (T.not_ok ht))
theorem Ee(c:cg){l:List Tok}:∀{a:ah} {i:Nat} {d:T},bu l->bG a->d.ok 0->dC c (dE a l i d)=if d.at' c then lD (dC c a) (ug c l i)else dC c a:=by
 induction l with
 |nil=>intro a i d _ ha hd;exact ej c ha hd
 |cons t l ih=>
  intro a i d hl ha hd;simp only[dE];split
  ·rename_i e;subst e;simp[T.at']
  ·have ht:=hl t (.head _);rw[ih (fun x hx=>hl x (.tail _ hx)) (de ha (T.and_ok hd ht)) (T.and_ok hd (T.not_ok ht)),ej c ha (T.and_ok hd ht),T.and_at hd ht,T.and_at hd (T.not_ok ht),T.not_at];simp only[ug];cases d.at' c<;>cases t.cond.at' c<;>simp
theorem bu.drop{ts:List Tok}(h:bu ts)(n:Nat):bu (ts.drop n):=fun t ht=>h t (List.mem_of_mem_drop ht)
theorem jQ(c:cg){ts:List Tok}(h:bu ts):∀{f:ah} {a:ah},(∀s∈f,s.2.ok 0)->bG a->bG (f.foldl (fun at' s=>dE at' (ts.drop s.1) s.1 s.2) a)/\
  dC c (f.foldl (fun at' s=>dE at' (ts.drop s.1) s.1 s.2) a)=((dC c f).map (nx c ts)).foldl lD (dC c a):=by
 intro f
 induction f with
 |nil=>intro a _ ha;exact⟨ha,rfl⟩
 |cons s f ih=>
  intro a hf ha;have hs:=hf s (.head _);obtain⟨h1,h2⟩:=ih (fun t ht=>hf t (.tail _ ht)) (uS (i:=s.1) (h.drop s.1) ha hs);refine⟨h1,?_⟩;show dC c (f.foldl _ (dE a (ts.drop s.1) s.1 s.2))=_;rw[h2,Ee c (h.drop s.1) ha hs,dG];cases s.2.at' c<;>rfl
theorem o9{ts:List Tok}(h:bu ts){f:ah}(hf:bG f):bG (dm ts f):=(jQ (fun _=>false) h (fun s hs=>(hf.1 s hs).1) bG.nil).1
theorem wW{c:cg}{ts:List Tok}(h:bu ts){f:ah}(hf:bG f){p:Option Nat}(hp:At c f p):At c (dm ts f) (p.map (nx c ts)):=by
 have:=(jQ c h (fun s hs=>(hf.1 s hs).1) bG.nil).2;unfold At at *;show dC c (f.foldl _ [])=_;rw[this,hp];cases p<;>rfl
theorem jk{ts:List Tok}(h:bu ts){f:ah}(hf:bG f):bk ts f=(dm ts f).map (cL ts):=by
 unfold bk;rw[List.filter_eq_self.2];intro s hs;simpa using ((o9 h hf).1 s hs).2
theorem ik(ts:List Tok)(s:Nat×T):(cL ts s).at'=s.1:=by
 unfold cL;split
 ·split<;>rfl
 ·rfl
theorem gN(ts:List Tok)(s:Nat×T):(cL ts s).cond=s.2:=by
 unfold cL;split
 ·split<;>rfl
 ·rfl
theorem oM(c:cg):∀(l:List Tok) (i:Nat),i<=ug c l i/\ug c (l.drop (ug c l i-i)) (ug c l i)=ug c l i
 | [],i=>by simp[ug]
 |t::l,i=>by
  cases h:t.cond.at' c with
  |true=>
   have e:ug c (t::l) i=i:=by simp[ug,h]
   rw[e];refine⟨R7 _,?_⟩;rw[Nat.sub_self,Tm,e]
  |false=>
   have e:ug c (t::l) i=ug c l (i+1):=by simp[ug,h]
   obtain⟨a,b⟩:=oM c l (i+1);rw[e];refine⟨Vi,?_⟩;have:ug c l (i+1)-i=(ug c l (i+1)-(i+1))+1:=by omega
   rw[this,TT];exact b
theorem EN(c:cg)(ts:List Tok)(p:Nat):p<=nx c ts p:=(oM c _ p).1
theorem wT(c:cg)(ts:List Tok)(p:Nat):nx c ts (nx c ts p)=nx c ts p:=by
 have:=(oM c (ts.drop p) p).2;unfold nx;rw[Tn]at this;have h:=EN c ts p;unfold nx at h;rw[show p+(ug c (ts.drop p) p-p)=ug c (ts.drop p) p by omega]at this;exact this
section
variable (ts:List Tok)
def K(i:Nat):Nat:=(cL ts (i,tt)).kind
def X(i:Nat):bM:=(cL ts (i,tt)).text
theorem vE(i:Nat)(d:T):cL ts (i,d)=⟨i,d,K ts i,X ts i⟩:=by
 unfold K X cL;cases ts[i]? with
 |none=>rfl
 |some t=>simp only;split<;>rfl
end
theorem EJ{l:List Nat}{a p:Nat}(h:p∈lD l a):p=a\/p∈l:=by
 induction l with
 |nil=>simp[lD]at h;exact .inl h
 |cons b l ih=>
  simp only[lD]at h;split at h
  ·rcases List.mem_cons.1 h with rfl|h
   ·exact .inr (.head _)
   ·rcases ih h with h|h
    ·exact .inl h
    ·exact .inr (.tail _ h)
  ·split at h
   ·exact .inr h
   ·rcases List.mem_cons.1 h with rfl|h
    ·exact .inl rfl
    ·exact .inr h
theorem zQ{l:List Nat}:∀{a:List Nat} {p:Nat},p∈l.foldl lD a->p∈l\/p∈a:=by
 induction l with
 |nil=>intro a p h;exact .inr h
 |cons x l ih=>
  intro a p h;rcases ih h with h|h
  ·exact .inl (.tail _ h)
  ·rcases EJ h with rfl|h
   ·exact .inl (.head _)
   ·exact .inr h
def Hd(ts:List Tok)(h:ay):Prop:=h.cond.ok 0/\h=⟨h.at',h.cond,K ts h.at',X ts h.at'⟩/\∀c,h.cond.at' c=true->nx c ts h.at'=h.at'
def rf(ts:List Tok)(hs:List ay):Prop:=(∀h∈hs,Hd ts h/\h.cond≠ff)/\hs.Pairwise (fun s t=>s.at'<t.at')
theorem ko{ts:List Tok}(h:bu ts){f:ah}(hf:bG f):rf ts (bk ts f):=by
 rw[jk h hf];have hs:=o9 h hf;refine⟨fun x hx=>?_,?_⟩
 ·obtain⟨s,h1,rfl⟩:=List.mem_map.1 hx;rw[Hd,gN,ik];refine⟨⟨(hs.1 s h1).1,vE ts s.1 s.2,fun c hc=>?_⟩,(hs.1 s h1).2⟩;have hm:s.1∈dC c (dm ts f):=List.mem_map.2 ⟨s,List.mem_filter.2 ⟨h1,hc⟩,rfl⟩;have:=(jQ c h (fun s hs=>(hf.1 s hs).1) bG.nil).2;unfold dm at hm;rw[this]at hm;rcases zQ hm with hm|hm
  ·obtain⟨p,_,e⟩:=List.mem_map.1 hm;rw[<-e,wT]
  ·cases hm
 ·rw[List.pairwise_map];exact hs.2.imp fun{a b} aa=>by rw[ik,ik];exact aa
def nF(c:cg)(hs:List ay):List Nat:=(hs.filter fun h=>h.cond.at' c).map (·.at')
def j8(c:cg)(hs:List ay)(p:Option Nat):Prop:=nF c hs=p.toList
theorem Gb(c:cg)(ts:List Tok)(f:ah):nF c (f.map (cL ts))=dC c f:=by
 induction f with
 |nil=>rfl
 |cons s f ih=>
  unfold nF dC at *;simp only[Tf,TU,gN];cases s.2.at' c
  ·simpa using ih
  ·simp only[R9,Tf,ik];rw[ih]
theorem F7{c:cg}{ts:List Tok}(h:bu ts){f:ah}(hf:bG f){p:Option Nat}(hp:At c f p):j8 c (bk ts f) (p.map (nx c ts)):=by
 unfold j8;rw[jk h hf,Gb];exact wW h hf hp
end Syn
namespace Go.Proofs.YtfaclfkpnmcmlaaGreatDoor
open Go Go.Sx Dg Syn
def LR{α:Type}(R:List Value->α->Prop):List Value->List α->Prop
 |xs,[]=>xs=[]
 |xs,a::l=>∃c ys,xs=c++ys/\R c a/\LR R ys l
section
variable {α:Type} {R:List Value->α->Prop} {n:Nat}
theorem LR.len(hR:∀c a,R c a->c.length=n):∀{l:List α} {xs:List Value},LR R xs l->xs.length=l.length*n
 | [],xs,h=>by rw[show xs=[] from h];simp
 |a::l,xs,⟨c,ys,e,h1,h2⟩=>by
  rw[e,Tu,hR c a h1,LR.len hR h2,SB,Ta];omega
theorem LR.mono{R':List Value->α->Prop}(h:∀c a,R c a->R' c a):∀{l:List α} {xs:List Value},LR R xs l->LR R' xs l
 | [],xs,k=>k
 |a::l,xs,⟨c,ys,e,h1,h2⟩=>⟨c,ys,e,h c a h1,LR.mono h h2⟩
theorem LR.app:∀{l m:List α} {xs ys:List Value},LR R xs l->LR R ys m->LR R (xs++ys) (l++m)
 | [],m,xs,ys,h,k=>by rw[show xs=[] from h];exact k
 |a::l,m,xs,ys,⟨c,zs,e,h1,h2⟩,k=>⟨c,zs++ys,by rw[e,Te],h1,LR.app h2 k⟩
theorem LR.one{c:List Value}{a:α}(h:R c a):LR R c [a]:=⟨c,[],by simp,h,rfl⟩
theorem LR.get(hR:∀c a,R c a->c.length=n):∀{l:List α} {xs:List Value} {i:Nat} {a:α},LR R xs l->l[i]?=some a->R ((xs.drop (i*n)).take n) a
 | [],xs,i,a,h,k=>by simp at k
 |b::l,xs,0,a,⟨c,ys,e,h1,h2⟩,k=>by
  simp only[TC,Sc]at k;subst k;rw[e,Nat.zero_mul,Tm,List.take_left' (hR c b h1)];exact h1
 |b::l,xs,i+1,a,⟨c,ys,e,h1,h2⟩,k=>by
  simp only[TD]at k;rw[e,Ta,TE,Nat.add_comm,<-Tn,List.drop_left' (hR c b h1)];exact LR.get hR h2 k
theorem LR.split(hR:∀c a,R c a->c.length=n):∀{l:List α} {xs:List Value} (i:Nat),LR R xs l->LR R (xs.take (i*n)) (l.take i)/\LR R (xs.drop (i*n)) (l.drop i)
 |l,xs,0,h=>by simp only[Nat.zero_mul,TV,Tm];exact⟨rfl,h⟩
 | [],xs,i+1,h=>by rw[show xs=[] from h];simp only[List.take_nil,List.drop_nil];exact⟨rfl,rfl⟩
 |b::l,xs,i+1,⟨c,ys,e,h1,h2⟩=>by
  obtain⟨k1,k2⟩:=LR.split hR i h2;have hc:=hR c b h1;rw[e,Ta,TE,Nat.add_comm (i*n)];constructor
  ·have:(c++ys).take (n+i*n)=c++ys.take (i*n):=by rw[<-hc];exact List.take_length_add_append _
   rw[this,TW];exact⟨c,_,rfl,h1,k1⟩
  ·rw[<-Tn,List.drop_left' hc,TT];exact k2
theorem LR.set(hR:∀c a,R c a->c.length=n){l:List α}{xs:List Value}{i:Nat}{a:α}{c:List Value}(h:LR R xs l)(hi:i<l.length)(hc:R c a):LR R (xs.take (i*n)++c++xs.drop ((i+1)*n)) (l.set i a):=by
 obtain⟨h1,h2⟩:=LR.split hR i h;obtain⟨_,h4⟩:=LR.split hR (i+1) h;have e:l.set i a=l.take i++[a]++l.drop (i+1):=by
  rw[List.set_eq_take_append_cons_drop,SI hi];simp
 rw[e];exact(h1.app (.one hc)).app h4
end
def Sl{α:Type}(R:PH->List Value->α->Prop)(I:PH)(v:Value)(l:List α):Prop:=∃a c,v=.slice a l.length c/\(l=[]\/∃b off xs,a=some ⟨b,off,none⟩/\aQ I b off xs/\LR (R I) xs l)
theorem Sl.le{α:Type}{R:PH->List Value->α->Prop}(hR:∀{I J c a},R I c a->I.le J->R J c a){I J:PH}{v:Value}{l:List α}(h:Sl R I v l)(aa:I.le J):Sl R J v l:=by
 obtain⟨a,c,e,h⟩:=h;exact⟨a,c,e,h.imp id fun⟨b,off,xs,e1,e2,e3⟩=>⟨b,off,xs,e1,e2.le aa,e3.mono fun c a h=>hR h aa⟩⟩
def Ow{α:Type}(R:PH->List Value->α->Prop)(e:TypeId)(size:Nat)(I A:PH)(v:Value)(l:List α):Prop:=∃xs,jF A e size v l.length xs/\LR (R I) xs l
theorem Ow.le{α:Type}{R:PH->List Value->α->Prop}(hR:∀{I J c a},R I c a->I.le J->R J c a){e:TypeId}{size:Nat}{I J A:PH}{v:Value}{l:List α}(h:Ow R e size I A v l)(aa:I.le J):Ow R e size J A v l:=by
 obtain⟨xs,h1,h2⟩:=h;exact⟨xs,h1,h2.mono fun c a h=>hR h aa⟩
theorem Ow.nil{α:Type}(R:PH->List Value->α->Prop)(e:TypeId)(size:Nat)(I:PH):Ow R e size I PH.no (.slice none 0 0) ([]:List α):=⟨[],jF.nil e size,rfl⟩
theorem Ow.sl{α:Type}{R:PH->List Value->α->Prop}(hR:∀{I J c a},R I c a->I.le J->R J c a){e:TypeId}{size:Nat}{I J A:PH}{v:Value}{l:List α}(h:Ow R e size I A v l)(h1:I.le J)(h2:A.le J):Sl R J v l:=by
 obtain⟨xs,h3,h4⟩:=h;obtain⟨a,c,e⟩:=h3.slice;rcases TI l.length with hz|hp
 ·subst e;exact⟨a,c,rfl,.inl (List.length_eq_zero_iff.1 hz)⟩
 ·obtain⟨g,cap,e2,hc⟩:=h3.1.cells hp;exact⟨_,cap,e2,.inr ⟨g,0,xs,rfl,hc.le h2,h4.mono fun c a h=>hR h h1⟩⟩
theorem Ow.shape{α:Type}{R:PH->List Value->α->Prop}{e:TypeId}{size:Nat}{I A:PH}{v:Value}{l:List α}(h:Ow R e size I A v l):∃a c,v=.slice a l.length c:=by
 obtain⟨xs,h3,_⟩:=h;exact h3.slice
def fP(I:PH)(c:List Value)(s:Nat×T):Prop:=∃sl rt,c=[iv s.1,sl,rt]/\cu I (.agg #[sl,rt]) s.2
theorem fP.le{I J:PH}{c:List Value}{s:Nat×T}(h:fP I c s)(aa:I.le J):fP J c s:=by
 obtain⟨sl,rt,e,h⟩:=h;exact⟨sl,rt,e,cu.le h aa⟩
theorem fP.len{I:PH}(c:List Value)(s:Nat×T)(h:fP I c s):c.length=3:=by obtain⟨sl,rt,e,_⟩:=h;rw[e];rfl
abbrev du(I:PH)(v:Value)(f:ah):Prop:=Sl fP I v f
abbrev gP(I A:PH)(v:Value)(f:ah):Prop:=Ow fP 169 3 I A v f
open Go Go.Sx Dg Syn
theorem HF:aP Tryz.prog 256:=⟨_,Tryz.func256,rfl,rfl⟩
theorem Bx:aP Tryz.prog 257:=⟨_,Tryz.func257,rfl,rfl⟩
theorem bQ{a b:Nat}(ha:a<2^62)(hb:b<2^62):IntKind.i64.wrap ((a:Int)-(b:Int))=(a:Int)-(b:Int):=by
 simp only[IntKind.wrap,show IntKind.bits .i64=64 from rfl,show IntKind.signed .i64=true from rfl];rcases Sw a b with h|h
 ·have h1:((a:Int)-(b:Int)) % (2^64:Int)=(a:Int)-(b:Int)+2^64:=by
   rw[<-Int.add_emod_right];exact TH Vi Vi
  rw[h1,SI]
  ·omega
  ·simp;omega
 ·have h1:((a:Int)-(b:Int)) % (2^64:Int)=(a:Int)-(b:Int):=TH Vi Vi;rw[h1,Sb];simp;omega
theorem Kn{H:PH}{p a rt0 sl1 sl2:Nat}{sl0:Option Addr}(hp:p<2^62)(ha:a<2^62):bv Tryz.prog 257 #[.agg #[iv p,.slice sl0 sl1 sl2,iv rt0],iv a] H fun v H2=>v=.int .i64 ((p:Int)-(a:Int))/\H2=H:=by
 refine bK Tryz.func257 rfl (by simp[Tryz.ntmps257]) fun w0=>?_;simp only[Tryz.ntmps257,iv];apply RG;simp only[go_sem,bQ hp ha];exact aK (r:=[_]) rfl ⟨rfl,rfl⟩
theorem mE{n:Nat}(h:n<2^62):IntKind.u64.wrap (n:Int)=(n:Int):=by
 have h1:(n:Int) % (2^64:Int)=n:=TH Vi Vi;simp only[IntKind.wrap,show IntKind.bits .u64=64 from rfl,show IntKind.signed .u64=false from rfl,h1];simp
theorem yL{a i:Nat}(hi:i<=64):qj .u64 (a:Int) (i:Int)=((a >>> i:Nat):Int):=by
 have:qj .u64 (a:Int) (i:Int)=Int.fdiv (a:Int) (2^(min i 64)):=rfl;have e:min i 64=i:=by omega
 rw[this,e,TO];have:(2^i:Int)=((2^i:Nat):Int):=by simp
 rw[this,Int.fdiv_eq_ediv_of_nonneg _ (TP _)];rfl
def In{α:Type}(R:PH->List Value->α->Prop)(I H:PH)(v:Value)(l:List α):Prop:=∃a c,v=.slice a l.length c/\(l=[]\/∃b off xs,a=some ⟨b,off,none⟩/\aQ H b off xs/\LR (R I) xs l)
def xV(f:ah)(i a:Nat):Bool:=match f[i]? with
 |some s=>decide (s.1=a)
 |none=>false
def KK(vf:Value)(n a:Nat)(x:Nat×Nat):St:=⟨sp 0 49 [(0,.v vf),(1,.v (iv a)),(2,.v (.func (.func 257) #[] #[])),(8,.v (iv n)),(9,.v (iv x.1)),(10,.v (iv x.2))],[]⟩
def RU(f:ah)(a:Nat)(H0:PH)(x:Nat×Nat)(H:PH):Prop:=H=H0/\x.1<=x.2/\x.2<=f.length/\(∀k s,k<x.1->f[k]?=some s->s.1<a)/\(∀k s,x.2<=k->f[k]?=some s->a<=s.1)
theorem DT{I H:PH}{vf:Value}{f:ah}{a:Nat}(hf:In fP I H vf f)(hs:f.Pairwise (fun s t=>s.1<t.1))(hp:∀s∈f,s.1<2^61)(ha:a<2^61)(hl:f.length<2^60):
  bv Tryz.prog 256 #[vf,iv a,.func (.func 257) #[] #[]] H fun v H2=>H2=H/\∃i,i<=f.length/\(∀k s,k<i->f[k]?=some s->s.1<a)/\(∀k s,i<=k->f[k]?=some s->a<=s.1)/\v=.tuple #[iv i,.bool (xV f i a)]:=by
 obtain⟨za,zc,rfl,hz⟩:=hf;have load:∀i s,f[i]?=some s->∃b off c sl0 sl1 sl2 rt,za=some ⟨b,off,none⟩/\aQ H b (off+i*3) c/\c=[iv s.1,.slice sl0 sl1 sl2,iv rt]:=by
  intro i s hi;rcases hz with h0|⟨b,off,xs,rfl,hc,hr⟩
  ·rw[h0]at hi;simp at hi
  ·have aS:i<f.length:=by
    rcases Sw i f.length with h|h
    ·exact h
    ·rw[SF h]at hi;cases hi
   have h1:=hr.get fP.len hi;have a0:=hr.len fP.len;have h2:=hc.sub (i*3) 3 Vi;obtain⟨sl,rt,e,an⟩:=h1;obtain⟨x,y,e2⟩:=an.shape;simp only[Value.agg.injEq,Array.mk.injEq,TX,TY]at e2;exact⟨b,off,_,x,s.2.subs.length,y,T.plc s.2.subs s.2,rfl,h2,by rw[e,e2.1,e2.2]⟩
 refine bK Tryz.func256 rfl (by simp[Tryz.ntmps256]) fun w0=>?_;simp only[Tryz.ntmps256,iv];refine Un ?_;refine aB (fun x=>x.2-x.1) (KK (.slice za f.length zc) f.length a) (RU f a H) (0,f.length) (by simp only[go_sem,Tq,KK,iv]) (by simp only[go_sem,Tq,KK]) ?_ ?_
 ·exact⟨rfl,S6 _,R7 _,fun k s h=>by omega,fun k s h1 h2=>by rw[SF h1]at h2;cases h2⟩
 rintro⟨i,j⟩ H' ⟨rfl,h1,h2,h3,h4⟩ aj;simp only at h1 h2 h3 h4;simp only[KK];rcases Sw i j with aS|a3
 ·have am:decide ((i:Int)<(j:Int))=true:=by simp;omega
  have e1:=wrap64 (n:=i+j) Vi;have e2:=mE (n:=i+j) Vi;have e3:=yL (a:=i+j) (i:=1) Vi;have e4:=wrap64 (n:=(i+j) / 2) Vi;have e5:(i+j) >>> 1=(i+j) / 2:=TO _ 1;have ecast:(i:Int)+(j:Int)=((i+j:Nat):Int):=by omega
  simp only[TJ]at e3;rw[e5]at e3;obtain⟨m,hm⟩:∃m,m=(i+j) / 2:=⟨_,rfl⟩;rw[<-hm]at e3 e4;have ap:i<=m:=by omega
  have a2:m<j:=by omega
  obtain⟨s,aa⟩:∃s,f[m]?=some s:=⟨_,SC Vi⟩;have ao:=hp s (Tg aa);obtain⟨b,off,c,sl0,sl1,sl2,rt,rfl,hc,rfl⟩:=load m s aa;apply RG;simp only[go_sem,am,iv,ecast,e1,e2,e3,e4];refine⟨⟨Vi,Vi⟩,?_⟩;refine Qz (l:=[iv s.1,.slice sl0 sl1 sl2,iv rt]) (v:=.agg #[iv s.1,.slice sl0 sl1 sl2,iv rt]) rfl hc (.inl ⟨oN,rfl⟩) ?_;apply RG;simp only[go_sem,iv];refine Pf rfl Bx (Kn Vi Vi) fun v H2 hv=>?_;obtain⟨rfl,rfl⟩:=hv;cases ac:decide ((s.1:Int)-(a:Int)<0)
  ·apply RG;simp only[go_sem,iv,ac];refine aj (i,m) _ _ V9 (by simp only[go_sem,Tq,KK,iv]) (by simp only[go_sem,Tq,KK]) ⟨rfl,ap,by simp only;omega,h3,fun k t hk ht=>?_⟩;simp only[TK]at ac;rcases Sw m k with h|h
   ·have:s.1<t.1:=by
     obtain⟨l1,e1⟩:=List.getElem?_eq_some_iff.1 aa;obtain⟨l2,e2⟩:=List.getElem?_eq_some_iff.1 ht;have:=List.pairwise_iff_getElem.1 hs m k l1 l2 h;rw[e1,e2]at this;exact this
    omega
   ·have:k=m:=by simp only at hk;omega
    subst this;rw[aa]at ht;cases ht;omega
  ·have e6:=wrap64 (n:=m+1) Vi;have e7:(m:Int)+1=((m+1:Nat):Int):=by omega
   apply RG;simp only[go_sem,iv,ac,e7,e6];refine aj (m+1,j) _ _ V9 (by simp only[go_sem,Tq,KK,iv]) (by simp only[go_sem,Tq,KK]) ⟨rfl,by simp only;omega,h2,fun k t hk ht=>?_,h4⟩;simp only[SX]at ac;rcases Sw k m with h|h
   ·have:t.1<s.1:=by
     obtain⟨l1,e1⟩:=List.getElem?_eq_some_iff.1 aa;obtain⟨l2,e2⟩:=List.getElem?_eq_some_iff.1 ht;have:=List.pairwise_iff_getElem.1 hs k m l2 l1 h;rw[e1,e2]at this;exact this
    omega
   ·have:k=m:=by simp only at hk;omega
    subst this;rw[aa]at ht;cases ht;omega
 ·have a1:i=j:=by omega
  subst a1;have am:=Z6 i;cases ak:decide ((i:Int)<(f.length:Int))
  ·have:f[i]?=none:=SF (by simp at ak;omega);apply RG;simp only[go_sem,am,iv,ak];refine aK (r:=[iv i,.bool false]) (by simp only[Tryz.results256,go_sem,iv]) ⟨rfl,i,h2,h3,h4,by simp[eN,iv,xV,this]⟩
  ·obtain⟨s,aa⟩:∃s,f[i]?=some s:=⟨_,SC (by simp at ak;omega)⟩;have ao:=hp s (Tg aa);obtain⟨b,off,c,sl0,sl1,sl2,rt,rfl,hc,rfl⟩:=load i s aa;apply RG;simp only[go_sem,am,iv,ak];refine⟨⟨Vi,by simp at ak;omega⟩,?_⟩;refine Qz (l:=[iv s.1,.slice sl0 sl1 sl2,iv rt]) (v:=.agg #[iv s.1,.slice sl0 sl1 sl2,iv rt]) rfl hc (.inl ⟨oN,rfl⟩) ?_;apply RG;simp only[go_sem,iv];refine Pf rfl Bx (Kn Vi Vi) fun v H2 hv=>?_;obtain⟨rfl,rfl⟩:=hv;apply RG;simp only[go_sem,iv];have he:((s.1:Int)-(a:Int) == 0)=decide (s.1=a):=by
    rw[Bool.eq_iff_iff];simp;omega
   refine aK (r:=[iv i,.bool (xV f i a)]) ?_ ⟨rfl,i,h2,h3,h4,rfl⟩;simp only[xV,aa,<-he];simp only[Tryz.results256,go_sem,iv]
theorem IV:aP Tryz.prog 258:=⟨_,Tryz.func258,rfl,rfl⟩
theorem ss{g l cap size:Nat}(h:l<cap):oz (some ⟨g,0,none⟩) size l cap=some ⟨g,l*size,none⟩:=by
 unfold oz;rw[Sb Vi];simp[eT]
theorem sL{a:Option Addr}{cap size:Nat}(h:∀x,a=some x->x.spot=none):oz a size 0 cap=a:=by
 unfold oz;split
 ·rfl
 ·cases a with
  |none=>rfl
  |some x=>
   obtain⟨b,off,sp⟩:=x;have:=h _ rfl;simp only at this;subst this;simp[eT]
theorem Nj:(Tryz.f288.name == "runtime.NumGoroutine")=false:=by kernel_rfl
theorem OE:Tryz.f288.body.isNone=true:=by kernel_rfl
theorem Oa:Extern.findNext Tryz.f288=none:=by kernel_rfl
theorem N8:Tryz.prog.underlying 154=some (.slice 169):=by kernel_rfl
theorem Mt:Extern.find Tryz.f288=some (Extern.SlicesOverlaps.overlaps #[154,154] #[4]):=by kernel_rfl
theorem vK:Tryz.prog.underlying 155=some (.slice 169):=by kernel_rfl
theorem Ox:∃i,Tryz.prog.info? 169=some i/\i.size=3:=by
 have h:=KI;unfold Sx.bB at h;cases hi:Tryz.prog.info? 169 with
 |none=>rw[hi]at h;cases h
 |some i=>rw[hi]at h;simp at h;exact⟨i,rfl,h⟩
theorem fP.ones{I:PH}{c:List Value}{s:Nat×T}(h:fP I c s):c.all Sx.one=true:=by
 obtain⟨sl,rt,e,hr⟩:=h;obtain⟨x,y,e2⟩:=hr.shape;simp only[Value.agg.injEq,Array.mk.injEq,TX,TY]at e2;rw[e,e2.1,e2.2];rfl
theorem LR.ones{α:Type}{R:List Value->α->Prop}(hR:∀c a,R c a->c.all Sx.one=true):∀{l:List α} {xs:List Value},LR R xs l->xs.all Sx.one=true
 | [],xs,h=>by rw[show xs=[] from h];rfl
 |a::l,xs,⟨c,ys,e,h1,h2⟩=>by rw[e,List.all_append,hR c a h1,LR.ones hR h2];rfl
theorem GW{l c ys:List Value}{p:Nat}(h:p+c.length+ys.length<=l.length):(be (be l p c) (p+c.length) ys).take (p+c.length+ys.length)=l.take p++c++ys:=by
 rw[dR _ _ _ (by rw[aJ];exact h),dR _ _ _ Vi];have h1:(l.take p++c).length=p+c.length:=by simp;omega
 have h2:(l.take p++c++l.drop (p+c.length)).take (p+c.length)=l.take p++c:=by rw[<-h1];exact List.take_left
 rw[h2];have h3:(l.take p++c++ys).length=p+c.length+ys.length:=by rw[Tu,h1]
 rw[<-h3];exact List.take_left
theorem Dx{l c ys:List Value}{p:Nat}(h:p+c.length+ys.length<=l.length):(be (be l (p+c.length) ys) p c).take (p+c.length+ys.length)=l.take p++c++ys:=by
 rw[dR (be l (p+c.length) ys) c p (by rw[aJ];omega),dR _ _ _ Vi];have h1:(l.take (p+c.length)++ys).length=p+c.length+ys.length:=by simp;omega
 have h4:(l.take (p+c.length)++ys++l.drop (p+c.length+ys.length)).take p=l.take p:=by
  rw[Te,Tc (by simp;omega),To,S8 Vi]
 have h5:(l.take (p+c.length)++ys++l.drop (p+c.length+ys.length)).drop (p+c.length)=ys++l.drop (p+c.length+ys.length):=by
  rw[Te];exact List.drop_left' (by simp;omega)
 rw[h4,h5];have h3:(l.take p++c++ys).length=p+c.length+ys.length:=by simp;omega
 rw[<-Te,<-h3];exact List.take_left
theorem FE{I A:PH}{vf:Value}{f:ah}{i nb c1:Nat}{c:List Value}{ty:TypeId}{s:Nat×T}(hf:gP I A vf f)(hi:i<=f.length)(b1:I nb=some (.cells c.toArray ty (0,0)))(hc:fP I c s)(hl:f.length<2^40):
  aO Tryz.prog 258 #[vf,iv i,.slice (some ⟨nb,0,none⟩) 1 c1] I [A] fun v I2 qs=>∃A2,qs=[A2]/\gP I2 A2 v (f.take i++[s]++f.drop i):=by
 intro hd;obtain⟨xs,ao,a9⟩:=hf;have aa:=fP.len _ _ hc;have ac:aQ I nb 0 c:=az b1 (by simp) (by simp);have aj:=a9.len fP.len;obtain⟨za,zc,rfl⟩:=ao.slice;refine bK Tryz.func258 rfl (by simp[Tryz.ntmps258]) fun w0=>?_;simp only[Tryz.ntmps258,iv];rcases Sw i f.length with cA|c0
 ·obtain⟨g,cap,cur,e1,rfl,cn,ct,bb,bx⟩:=ao.sg Vi;cases e1
  have bc:((i:Int) == (f.length:Int))=false:=by simp;omega
  have e1:=wrap64 (n:=f.length+1) Vi;have cf:IntKind.i64.wrap ((f.length:Int)+1)=((f.length+1:Nat):Int):=by rw[<-e1];congr 1
  have e2:IntKind.i64.wrap (((f.length+1:Nat):Int)-(i:Int))=((f.length+1-i:Nat):Int):=by rw[bQ Vi Vi];omega
  have e3:=wrap64 (n:=i+1) Vi;have bd:IntKind.i64.wrap ((i:Int)+1)=((i+1:Nat):Int):=by rw[<-e3];congr 1
  obtain⟨inf,am,a7⟩:=Ox;have ak:(xs.drop (i*3)).length=(f.length-i)*3:=by rw[TZ,aj,<-T0]
  have a6:(xs.drop (i*3)).all one=true:=(a9.split fP.len i).2.ones (fun _ _ h=>h.ones);have fin:∀(cells:List Value) (g2 cap2:Nat) (I2:PH),I.le I2->cells.take ((f.length+1)*3)=xs.take (i*3)++c++xs.drop (i*3)->cells.length=cap2*3->f.length+1<=cap2->cap2<=maxLen->
    gP I2 (sg g2 (.cells cells.toArray 169 (0,0))) (.slice (some ⟨g2,0,none⟩) (f.length+1) cap2) (f.take i++[s]++f.drop i):=by
   intro cells g2 cap2 I2 cp h1 h2 h3 h4;obtain⟨k1,k2⟩:=a9.split fP.len i;have b2:(f.take i++[s]++f.drop i).length=f.length+1:=by simp;omega
   refine⟨xs.take (i*3)++c++xs.drop (i*3),?_,((k1.app (.one hc)).app k2).mono fun _ _ h=>h.le cp⟩;rw[b2];refine jF.of_sg ?_ h3 h4 (by simpa using h2) (by simpa using h1);simp only[Tu,T1,ak,aa,aj];have:i*3<=f.length*3:=Tb _ hi;rw[S8 this,Ta,T0];omega
  have ca:i*3<=f.length*3:=Tb _ hi;have cB:(i+1)*3=i*3+3:=by omega
  have cx:aQ (U [I,sg g (.cells cur 169 (0,0))]) g 0 cur.toList:=cellsU hd (.tail _ (.head _)) (aU (by simp) (by rw[Tm];exact T3 (R7 _)));have b4:cur.toList.length=zc*3:=by rw[Sk];exact bb
  have a0:(cur.toList.drop (i*3)).take ((f.length-i)*3)=xs.drop (i*3):=by
   rw[<-bx,List.drop_take,T0]
  rcases Sw zc (f.length+1)with ap|ap
  ·have b6:decide (((f.length+1:Nat):Int)>(zc:Int))=true:=by simp;omega
   have s1:oz (some ⟨g,0,none⟩) 3 0 zc=some ⟨g,0,none⟩:=sL (by simp);have s2:=ss (g:=g) (l:=i) (cap:=zc) (size:=3) Vi;apply RG;simp only[go_sem,iv,bc,cf,e2,bd,b6,s1,s2];refine⟨Vi,?_⟩;have a1:aQ (U [I,sg g (.cells cur 169 (0,0))]) g 0 (xs.take (i*3)):=by
    have:=cx.sub 0 (i*3) (by simp;omega);rw[Tm]at this;have e:cur.toList.take (i*3)=xs.take (i*3):=by rw[<-bx,To,S8 ca]
    rwa [e]at this
   refine Am (by exact hd) (by exact gY) (by exact Kw) rfl rfl rfl rfl a1 (by simp[aj];omega) Vi Vi (by unfold maxLen;omega) Vi fun g2 cap2 zs ci b5 cy ba=>?_;have t1:=ss (g:=g2) (l:=i) (cap:=cap2) (size:=3) Vi;have t2:=ss (g:=g2) (l:=i+1) (cap:=cap2) (size:=3) Vi;have e5:i+(f.length+1-i)=f.length+1:=by omega
   rw[e5]at b5;apply RG;simp only[go_sem,iv,e5,t1,t2];refine⟨Vi,?_⟩;have b0:aQ (U [I,sg g2 (.cells (xs.take (i*3)++zs).toArray 169 (0,0)),sg g (.cells cur 169 (0,0))]) nb 0 c:=cellsU ba (.head _) ac;have cl:(xs.take (i*3)).length=i*3:=by simp[aj];omega
   have aS:(xs.take (i*3)++zs).length=cap2*3:=by
    rw[Tu,cl,ci,T0];have:i*3<=cap2*3:=Tb _ Vi;omega
   have c3:(f.length+1)*3<=cap2*3:=Tb _ b5;refine yb (by exact ba) (by exact vK) (by exact am) rfl rfl rfl rfl b0 (by rw[a7,aa,S8 Vi]) (by rw[aa];simp only[List.size_toArray];omega) hc.ones fun a5=>?_;apply RG;simp only[go_sem,iv];refine ax mixed [0,1,2,3,4,5,6,7,8] [] [] rfl rfl ?_;apply af;simp only[go_sem,iv,bd,t2,s2];refine⟨Vi,?_⟩;have cj:f.length*3<=zc*3:=Tb _ cn;have an:aQ (sg g (.cells cur 169 (0,0))) g (i*3) (xs.drop (i*3)):=aU (by rw[ak,bb,T0];omega) (by rw[ak];exact a0);refine zI (by exact a5) (by exact vK) (by exact am) rfl rfl rfl rfl rfl rfl (cellsU a5 (.tail _ (.tail _ (.head _))) an) (by rw[a7,ak,S8 Vi]) (by rw[ak];simp only[List.size_toArray,aJ];omega) a6 fun b3=>?_;refine aw ?_;apply RG;simp only[go_sem,iv];refine ab (c:=.st _) b3 [1,0] rfl fun cb=>?_;simp only[uv,Ts,Tt]at cb |-;refine ag (c:=.st _) cb fun I6 cs a3 _=>?_;refine ai rfl cs (r:=[_]) rfl a3 ⟨_,rfl,?_⟩;refine fin _ g2 cap2 I6 a3 ?_ (by simp only[List.toList_toArray,aJ];exact aS) b5 cy;have hL:=GW (l:=xs.take (i*3)++zs) (c:=c) (ys:=xs.drop (i*3)) (p:=i*3) (by rw[aa,ak,aS,T0];omega);have hp:i*3+c.length=(i+1)*3:=by rw[aa];omega
   have hq:i*3+c.length+(xs.drop (i*3)).length=(f.length+1)*3:=by rw[aa,ak,T0];omega
   rw[hq,hp]at hL;have hA:(xs.take (i*3)++zs).take (i*3)=xs.take (i*3):=by rw[Tc Vi,T3 Vi]
   rw[hL,hA]
  ·have b6:decide (((f.length+1:Nat):Int)>(zc:Int))=false:=by simp;omega
   have s1:oz (some ⟨g,0,none⟩) 3 0 zc=some ⟨g,0,none⟩:=sL (by simp);have s2:=ss (g:=g) (l:=i) (cap:=zc) (size:=3) Vi;have s3:=ss (g:=g) (l:=i+1) (cap:=zc) (size:=3) Vi;apply RG;simp only[go_sem,iv,bc,cf,e2,bd,b6,s1,s2,s3];refine⟨Vi,?_⟩;have cm:nb≠g:=fun e=>by
    have:=(mD hd (.head _)).symm.left (cP g (.cells cur 169 (0,0)));rw[<-e,b1]at this;cases this
   have cj:(f.length+1)*3<=zc*3:=Tb _ ap;refine yF (by exact KC) (by exact Tryz.func288) (by exact Nj) (by exact OE) (by exact Oa) (by exact Mt) rfl rfl rfl rfl (cD hd _ _ b1) (cw hd _ _ (cP _ _)) cm Vi ?_;apply RG;simp only[go_sem,iv];refine ax mixed [0,1,2,3,4,5,6,7,8] [] [] rfl rfl ?_;apply af;simp only[go_sem,iv,bd,s2,s3];refine⟨Vi,?_⟩;have an:aQ (sg g (.cells cur 169 (0,0))) g (i*3) (xs.drop (i*3)):=aU (by rw[ak,bb,T0];omega) (by rw[ak];exact a0);refine zI (by exact hd) (by exact vK) (by exact am) rfl rfl rfl rfl rfl rfl (cellsU hd (.tail _ (.head _)) an) (by rw[a7,ak,Nat.min_eq_right Vi,Nat.add_sub_add_right]) (by rw[ak,bb,T0];omega) a6 fun a5=>?_;refine aw ?_;apply RG;simp only[go_sem,iv,s2];refine⟨Vi,?_⟩;refine yb (by exact a5) (by exact vK) (by exact am) rfl rfl rfl rfl (cellsU a5 (.head _) ac) (by rw[a7,aa,S8 Vi]) (by rw[aa];simp only[List.size_toArray,aJ,b4];omega) hc.ones fun b3=>?_;apply RG;simp only[go_sem,iv];refine ai rfl b3 (r:=[_]) rfl (Uj _) ⟨_,rfl,?_⟩;refine fin _ g zc I (Uj _) ?_ (by simp only[List.toList_toArray,aJ,b4]) ap ct;have hL:=Dx (l:=cur.toList) (c:=c) (ys:=xs.drop (i*3)) (p:=i*3) (by rw[aa,ak,b4,T0];omega);have hp:i*3+c.length=(i+1)*3:=by rw[aa];omega
   have hq:i*3+c.length+(xs.drop (i*3)).length=(f.length+1)*3:=by rw[aa,ak,T0];omega
   rw[hq,hp]at hL;have hA:cur.toList.take (i*3)=xs.take (i*3):=by rw[<-bx,To,S8 ca]
   rw[hL,hA]
 ·have cr:i=f.length:=by omega
  subst cr;have bc:((f.length:Int) == (f.length:Int))=true:=by simp
  apply RG;simp only[go_sem,iv,bc];refine⟨Vi,?_⟩;refine yp (m:=1) hd (by exact gY) (by exact N8) ao rfl rfl rfl rfl (cellsU hd (.head _) ac) (by rw[aa]) hc.ones Vi (by unfold maxLen;omega) fun v' I2 A2 ba a4 cc=>?_;obtain⟨a2,c2,rfl⟩:=cc.slice;apply RG;simp only[go_sem,iv];refine ai rfl ba (r:=[_]) rfl a4 ⟨A2,rfl,xs++c,?_,?_⟩
  ·simpa[eN]using cc
  ·rw[Td,T4,Tq];exact(a9.app (.one hc)).mono fun _ _ h=>h.le a4
theorem df:aP Tryz.prog 199:=⟨_,Tryz.func199,rfl,rfl⟩
theorem Gm:∀{f:ah} {i a:Nat} {d e:T},(∀k s,k<i->f[k]?=some s->s.1<a)->f[i]?=some (a,e)->qV f a d=f.set i (a,e.or d)
 | [],i,a,d,e,_,h=>by simp at h
 |(b,e')::f,0,a,d,e,_,h=>by
  simp only[TC,Sc,S3]at h;obtain⟨rfl,rfl⟩:=h;simp[qV]
 |(b,e')::f,i+1,a,d,e,h1,h=>by
  have hb:=h1 0 _ Vi rfl;simp only at hb;simp only[qV,SI hb,List.set_cons_succ];rw[Gm (i:=i) (fun k s hk hs=>h1 (k+1) s (Nat.succ_lt_succ hk) (by simpa using hs)) (by simpa using h)]
theorem CB:∀{f:ah} {i a:Nat} {d:T},i<=f.length->(∀k s,k<i->f[k]?=some s->s.1<a)->(∀s,f[i]?=some s->a<s.1)->qV f a d=f.take i++[(a,d)]++f.drop i
 | [],i,a,d,hi,_,_=>by simp[qV]
 |(b,e')::f,0,a,d,_,_,h=>by
  have:=h _ rfl;simp only at this;simp only[qV];rw[Sb Vi,Sb Vi];simp
 |(b,e')::f,i+1,a,d,hi,h1,h=>by
  have hb:=h1 0 _ Vi rfl;simp only at hb;simp only[qV,SI hb,TW,TT,SS];rw[CB (i:=i) (by simpa using hi) (fun k s hk hs=>h1 (k+1) s (Nat.succ_lt_succ hk) (by simpa using hs)) (fun s hs=>h s (by simpa using hs))]
theorem gP.le'{I J A:PH}{v:Value}{f:ah}(h:gP I A v f)(aa:I.le J):gP J A v f:=Ow.le (R:=fP) (fun{I J c a} h k=>fP.le h k) h aa
theorem Ow.inU{α:Type}{R:PH->List Value->α->Prop}{e:TypeId}{size:Nat}{I A:PH}{ps:List PH}{v:Value}{l:List α}(h:Ow R e size I A v l)(hd:Dj ps)(hA:A∈ps):In R I (U ps) v l:=by
 obtain⟨xs,h1,h2⟩:=h;obtain⟨a,c,e⟩:=h1.slice;rcases TI l.length with hz|hp
 ·exact⟨a,c,e,.inl (List.length_eq_zero_iff.1 hz)⟩
 ·obtain⟨g,cap,e2,hc⟩:=h1.cellsU hd hA hp;exact⟨_,cap,e2,.inr ⟨g,0,xs,rfl,hc,h2⟩⟩
theorem bo{I A:PH}{vf vd:Value}{f:ah}{a:Nat}{d:T}(hf:gP I A vf f)(a0:cu I vd d)(hs:f.Pairwise (fun s t=>s.1<t.1))(hp:∀s∈f,s.1<2^61)(ha:a<2^61)(hl:f.length<2^40):
  aO Tryz.prog 199 #[vf,iv a,vd] I [A] fun v I2 qs=>∃A2,qs=[A2]/\gP I2 A2 v (Syn.join f a d):=by
 intro hd;obtain⟨da,dc,rfl⟩:=a0.shape;have b0:=hf.inU hd (.tail _ (.head _));obtain⟨za,zc,rfl⟩:=hf.shape;refine bK Tryz.func199 rfl (by simp[Tryz.ntmps199]) fun w0=>?_;simp only[Tryz.ntmps199,iv];refine Un ?_;refine Pf rfl gK (fq a0) fun v H2 hv=>?_;obtain⟨rfl,rfl⟩:=hv;cases aS:decide (d=.lf false)
 ·have bb:d≠ff:=by simpa using aS
  apply RG;simp only[go_sem,iv,aS];refine Pf rfl HF (DT b0 hs hp ha Vi) fun v H2 hv=>?_;obtain⟨rfl,i,hi,h1,h2,rfl⟩:=hv;have hj:Syn.join f a d=qV f a d:=by unfold Syn.join;rw[Sb bb]
  cases ap:xV f i a
  ·apply RG;simp only[go_sem,iv,ap];have b1:∀s,f[i]?=some s->a<s.1:=fun s a6=>by
    have:=h2 i s (R7 _) a6;simp only[xV,a6,TK]at ap;omega
   refine av hd (by exact KC) rfl rfl rfl rfl rfl Vm fun nb I2 b4 ac bc=>?_;apply RG;simp only[go_sem,iv];have c1:=FE (I:=I2) (A:=A) (i:=i) (nb:=nb) (c1:=1) (c:=[iv a,.slice da (T.subs d).length dc,iv (T.plc (T.subs d) d)]) (s:=(a,d)) (gP.le' hf ac) hi (by rw[bc];rfl) ⟨_,_,rfl,a0.le ac⟩ hl;refine NB b4 [0] rfl IV rfl (F:=[]) rfl c1 fun v I3 qs an aa hq=>?_;obtain⟨A2,rfl,ca⟩:=hq;simp only[Tq]at an |-;apply RG;simp only[go_sem,iv];refine ai rfl an (r:=[_]) rfl (Ui ac aa) ⟨A2,rfl,?_⟩;rw[hj,CB hi h1 b1];exact ca
  ·obtain⟨⟨p,e⟩,aj⟩:∃s,f[i]?=some s:=by
    cases hx:f[i]? with
    |some s=>exact⟨s,rfl⟩
    |none=>simp[xV,hx]at ap
   have ba:p=a:=by simpa[xV,aj]using ap
   subst ba;have bd:i<f.length:=by
    rcases Sw i f.length with h|h
    ·exact h
    ·rw[SF h]at aj;cases aj
   obtain⟨xs,a1,a3⟩:=hf;obtain⟨g,cap,cur,e1,rfl,a7,b6,b5,a5⟩:=a1.sg Vi;cases e1
   have a4:=a3.get fP.len aj;have bx:=a3.len fP.len;obtain⟨sl,rt,a9,am⟩:=a4;obtain⟨ea,ec,e2⟩:=am.shape;simp only[Value.agg.injEq,Array.mk.injEq,TX,TY]at e2;obtain⟨rfl,rfl⟩:=e2;have cc:i*3+3<=f.length*3:=by omega
   have cb:f.length*3<=zc*3:=Tb _ a7;have ao:aQ (sg g (.cells cur 169 (0,0))) g (i*3+1) [.slice ea (T.subs e).length ec,iv (T.plc (T.subs e) e)]:=by
    refine aU (by simp;omega) ?_;have h3:(cur.toList.drop (i*3)).take 3=(xs.drop (i*3)).take 3:=by
     rw[<-a5,List.drop_take,To,S8 Vi]
    rw[a9]at h3;have:(cur.toList.drop (i*3+1)).take 2=((cur.toList.drop (i*3)).take 3).drop 1:=by
     rw[List.drop_take,Tn]
    simp only[SB,S9,Sf,Nat.reduceAdd];rw[this,h3];rfl
   apply RG;simp only[go_sem,iv,ap];refine ax mixed [0,1,2,3,4,5,6,7,8,9,10,11] [6] [] rfl rfl ?_;apply af;simp only[go_sem,iv];refine⟨Vi,?_⟩;refine P7 (l:=[.slice ea (T.subs e).length ec,iv (T.plc (T.subs e) e)]) (v:=.agg #[.slice ea (T.subs e).length ec,iv (T.plc (T.subs e) e)]) rfl (by simpa using cellsU hd (.tail _ (.head _)) ao) (.inl ⟨oQ,rfl⟩) ?_;apply af;simp only[go_sem,iv];refine i7 hd [0] [] [_] rfl sQ rfl (G1 am a0) fun v I3 qs an aa hq=>?_;obtain⟨rfl,hr⟩:=hq;obtain⟨ra,rc,rfl⟩:=hr.shape;simp only[SU]at an |-;apply af;simp only[go_sem,iv];refine⟨Vi,?_⟩;refine aH an rfl rfl rfl rfl rfl rfl (by exact zp) (by simp;omega) fun b3=>?_;refine aw ?_;apply RG;simp only[go_sem,iv];refine ai rfl b3 (r:=[_]) rfl aa ⟨_,rfl,?_⟩;rw[hj,Gm h1 aj];have a2:LR (fP I3) xs f:=a3.mono fun _ _ h=>h.le aa;have ak:=a2.set fP.len bd (c:=[iv p,.slice ra (T.subs (e.or d)).length rc,iv (T.plc (T.subs (e.or d)) (e.or d))]) (a:=(p,e.or d)) ⟨_,_,rfl,hr⟩;refine⟨_,?_,ak⟩;rw[Tl];refine jF.of_sg ?_ a7 b6 (by simp[aJ];exact b5) ?_
   ·rw[ak.len fP.len,Tl]
   ·show (be cur.toList (i*3+1) [.slice ra (T.subs (e.or d)).length rc,iv (T.plc (T.subs (e.or d)) (e.or d))]).take (f.length*3)=_;rw[kT _ _ _ _ (by simp;omega),a5,dR _ _ _ (by simp;omega)];have e1:xs.take (i*3+1)=xs.take (i*3)++[iv p]:=by
     have:xs.take (i*3+1)=xs.take (i*3)++((xs.drop (i*3)).take 3).take 1:=by
      rw[To,S8 Vi,List.take_add]
     rw[this,a9];rfl
    rw[e1];simp only[SB,S9,Sf,Nat.reduceAdd];rw[show (i+1)*3=i*3+1+2 by omega];simp
 ·have b2:d=ff:=by simpa using aS
  subst b2;apply RG;simp only[go_sem,aS];exact ai rfl hd (r:=[_]) rfl (Uj _) ⟨A,rfl,by simpa[Syn.join,eN]using hf⟩
end Go.Proofs.YtfaclfkpnmcmlaaGreatDoor
namespace Syn
open Dg
mutual
def pN(c:cg):Nd->Option Nd
 |⟨k,t,o,s,ks,d⟩=>if d.at' c then some ⟨k,t,o,s,pL c ks,tt⟩else none
def pL (c:cg):List Nd->List Nd
 | []=>[]
 |n::l=>match pN c n with
  |some m=>m::pL c l
  |none=>pL c l
end
mutual
def No:Nd->Prop
 |⟨_,_,_,_,ks,d⟩=>d.ok 0/\fX ks
def fX:List Nd->Prop
 | []=>True
 |n::l=>No n/\fX l
end
theorem fD{l:List Nd}:fX l<->∀n∈l,No n:=by
 induction l with
 |nil=>simp[fX]
 |cons n l ih=>simp[fX,ih]
theorem eC{n:Nd}:No n<->n.cond.ok 0/\fX n.kids:=by cases n;rfl
theorem fV{a b:List Nd}:fX (a++b)<->fX a/\fX b:=by
 simp only[fD,Ti];exact⟨fun h=>⟨fun n hn=>h n (.inl hn),fun n hn=>h n (.inr hn)⟩,fun h n hn=>hn.elim (h.1 n) (h.2 n)⟩
theorem OZ(c:cg)(n:Nd):pN c n=if n.cond.at' c then some { n with kids:=pL c n.kids,cond:=tt } else none:=by cases n;rfl
theorem bV(c:cg)(n:Nd)(l:List Nd):pL c (n::l)=if n.cond.at' c then { n with kids:=pL c n.kids,cond:=tt }::pL c l else pL c l:=by
 rw[pL,OZ];split<;>rename_i h<;>split at h<;>simp_all
theorem dO(c:cg)(a b:List Nd):pL c (a++b)=pL c a++pL c b:=by
 induction a with
 |nil=>rfl
 |cons n a ih=>rw[SS,bV,bV,ih];split<;>rfl
theorem eu(c:cg)(l ks:List Nd):pL c (give l ks)=give (pL c l) (pL c ks):=by
 induction l with
 |nil=>rfl
 |cons n l ih=>
  have:give (n::l) ks={ n with kids:=n.kids++ks }::give l ks:=rfl;rw[this,bV,bV,ih];cases h:n.cond.at' c
  ·simp
  ·simp[give,dO]
theorem di{l ks:List Nd}(h1:fX l)(h2:fX ks):fX (give l ks):=by
 rw[fD]at *;intro n hn;obtain⟨m,hm,rfl⟩:=List.mem_map.1 hn;have:=eC.1 (h1 m hm);exact eC.2 ⟨this.1,fV.2 ⟨this.2,fD.2 h2⟩⟩
theorem bg{l ks r:List Nd}(h:gv l ks=some r):r=give l ks:=by
 unfold gv at h;split at h
 ·exact(Tk h).symm
 ·cases h
theorem m0{l:List Nd}{u:Unit}(h:ck l=some u):l.length<=aF:=by
 unfold ck at h;split at h
 ·assumption
 ·cases h
def pE(c:cg)(e:List bX):List (Nat×Int):=(e.filter fun d=>d.cond.at' c).map fun d=>(d.code,d.tok)
def xQ(e:List bX):Prop:=∀d∈e,d.cond.ok 0
theorem bW(c:cg)(a b:List bX):pE c (a++b)=pE c a++pE c b:=by simp[pE]
theorem bP{a b:List bX}:xQ (a++b)<->xQ a/\xQ b:=by
 unfold xQ;simp only[Ti];exact⟨fun h=>⟨fun n hn=>h n (.inl hn),fun n hn=>h n (.inr hn)⟩,fun h n hn=>hn.elim (h.1 n) (h.2 n)⟩
theorem dB:xQ []:=fun d h=>(SW h).elim
theorem iM(c:cg)(h:ay)(code:Nat):pE c (bR h code)=if h.cond.at' c then [(code,(h.at':Int))]else []:=by
 unfold pE bR;cases hc:h.cond.at' c<;>simp[T.at',hc]
theorem oY{h:ay}(hk:h.cond.ok 0)(code:Nat):xQ (bR h code):=by
 intro d hd;simp[bR]at hd;rcases hd with rfl|rfl
 ·trivial
 ·exact hk
theorem iW(c:cg)(h:ay)(hs:List ay):nF c (h::hs)=if h.cond.at' c then h.at'::nF c hs else nF c hs:=by
 unfold nF;cases hc:h.cond.at' c<;>simp[hc]
theorem xq{α β:Type}{c:cg}(I:α->Prop)(pr:α->β)(g:α->ay->α):∀{hs:List ay} {z:α} {p:Option Nat},I z->(∀a h,I a->h∈hs->I (g a h))->(∀a h,I a->h∈hs->h.cond.at' c=false->pr (g a h)=pr a)->j8 c hs p->
  I (hs.foldl g z)/\match p with
  |none=>pr (hs.foldl g z)=pr z
  |some i=>∃h∈hs,h.at'=i/\h.cond.at' c=true/\∃a,I a/\pr a=pr z/\pr (hs.foldl g z)=pr (g a h):=by
 intro hs
 induction hs with
 |nil=>
  intro z p hz _ _ hp;cases p with
  |none=>exact⟨hz,rfl⟩
  |some i=>simp[j8,nF]at hp
 |cons h hs ih=>
  intro z p hz h1 h2 hp;unfold j8 at hp;rw[iW]at hp;have hI:=h1 z h hz (.head _);have aj:∀a x,I a->x∈hs->I (g a x):=fun a x ha hx=>h1 a x ha (.tail _ hx);have ac:∀a x,I a->x∈hs->x.cond.at' c=false->pr (g a x)=pr a:=fun a x ha hx=>h2 a x ha (.tail _ hx);cases hc:h.cond.at' c with
  |false=>
   rw[hc]at hp;obtain⟨a,b⟩:=ih (z:=g z h) (p:=p) hI aj ac hp;refine⟨a,?_⟩;have aa:=h2 z h hz (.head _) hc;cases p with
   |none=>exact b.trans aa
   |some i=>
    obtain⟨x,b1,b2,b3,y,b4,b5,b6⟩:=b;exact⟨x,.tail _ b1,b2,b3,y,b4,b5.trans aa,b6⟩
  |true=>
   rw[hc]at hp;cases p with
   |none=>simp at hp
   |some i=>
    simp only[R9,Option.toList,TX]at hp;obtain⟨e1,e2⟩:=hp;obtain⟨a,b⟩:=ih (z:=g z h) (p:=none) hI aj ac e2;exact⟨a,h,.head _,e1,hc,z,hz,rfl,b⟩
section
variable (ts:List Tok)
theorem rf.mem{ts:List Tok}{hs:List ay}(h:rf ts hs){x:ay}(hx:x∈hs):x.cond.ok 0/\x.cond≠ff/\x=⟨x.at',x.cond,K ts x.at',X ts x.at'⟩:=by
 obtain⟨⟨a,e,_⟩,b⟩:=h.1 x hx;exact⟨a,b,e⟩
def cX(c:cg)(p:Option Nat)(s:bM):Option Nat×List (Nat×Int):=
 match p.map (nx c ts)with
 |none=>(none,[])
 |some i=>if X ts i=s then (some (i+1),[])else (none,[(10,(i:Int))])
structure PR where
 l:List Nd
 p:Option Nat
 e:List (Nat×Int)
def bC(c:cg)(p:Option Nat)(kind slot:Nat):PR:=
 match p.map (nx c ts)with
 |none=>⟨[],none,[]⟩
 |some i=>if K ts i≠1\/dz (X ts i)=true then ⟨[],none,[(10,(i:Int))]⟩else ⟨[⟨kind,X ts i,i,slot,[],tt⟩],some (i+1),[]⟩
def gE(c:cg)(p:Option Nat)(slot:Nat):PR:=
 match p.map (nx c ts)with
 |none=>⟨[],none,[]⟩
 |some i=>if X ts i≠AI/\X ts i≠sB then ⟨[],none,[(10,(i:Int))]⟩else ⟨[⟨5,X ts i,i,slot,[],tt⟩],some (i+1),[]⟩
end
structure RR(c:cg)(r:bE)(q:PR):Prop where
 fok:bG r.f
 lok:fX r.l
 eok:xQ r.e
 l:pL c r.l=q.l
 f:At c r.f q.p
 e:pE c r.e=q.e
theorem j8.of{c:cg}{ts:List Tok}(aa:bu ts){f:ah}(hf:bG f){p:Option Nat}(hp:At c f p):j8 c (bk ts f) (p.map (nx c ts)):=F7 aa hf hp
theorem rN{c:cg}{ts:List Tok}(aa:bu ts){f:ah}(hf:bG f){p:Option Nat}(hp:At c f p)(s:bM):
  bG (take ts f s).1/\xQ (take ts f s).2/\At c (take ts f s).1 (cX ts c p s).1/\pE c (take ts f s).2=(cX ts c p s).2:=by
 have hh:=ko aa hf;have ha:=j8.of aa hf hp;have key:=xq (c:=c) (fun(a:ah×List bX)=>bG a.1/\xQ a.2) (fun a=>(dC c a.1,pE c a.2)) (fun(x:ah×List bX) h=>match x with|(out,e)=>if h.text=s then (join out (h.at'+1) h.cond,e)else (out,e++bR h 10)) (hs:=bk ts f) (z:=([],[])) ⟨bG.nil,dB⟩
  (fun a h ia hm=>by
   obtain⟨k1,_,_⟩:=hh.mem hm;simp only;split
   ·exact⟨de ia.1 k1,ia.2⟩
   ·exact⟨ia.1,bP.2 ⟨ia.2,oY k1 10⟩⟩)
  (fun a h ia hm hc=>by
   obtain⟨k1,_,_⟩:=hh.mem hm;simp only;split
   ·simp only[ej c ia.1 k1,hc,Tp,Si]
   ·simp only[bW,iM,hc,Tp,Si,Tq]) ha
 unfold take iO;obtain⟨⟨k1,k2⟩,k3⟩:=key;refine⟨k1,k2,?_⟩;unfold At cX;cases ac:p.map (nx c ts)with
 |none=>
  rw[ac]at k3;simp only[S3]at k3;exact k3
 |some i=>
  rw[ac]at k3;obtain⟨h,hm,e1,hc,a,ia,e2,e3⟩:=k3;obtain⟨k4,_,k5⟩:=hh.mem hm;subst e1;have hx:h.text=X ts h.at':=by rw[k5]
  simp only[S3]at e2 e3;have ep:dC c a.1=[]:=e2.1;have ee:pE c a.2=[]:=e2.2;simp only[hx]at e3 |-;split
  ·rename_i hs;rw[SI hs]at e3;refine⟨?_,?_⟩
   ·rw[e3.1];simp only[ej c ia.1 k4,hc,R9,ep];rfl
   ·rw[e3.2];exact ee
  ·rename_i hs;rw[Sb hs]at e3;refine⟨?_,?_⟩
   ·rw[e3.1];exact ep
   ·rw[e3.2];simp only[bW,iM,hc,R9,ee];rfl
theorem qm(is:ay->Bool):∀(hs:List ay) (z:List ay×ah),hs.foldl (fun(x:List ay×ah) h=>match x with|(yes,no)=>if is h then (yes++[h],no)else (yes,join no h.at' h.cond)) z=(z.1++hs.filter is,(hs.filter fun h=>!is h).foldl joinH z.2)
 | [],z=>by simp
 |h::hs,z=>by
  rw[Sj,qm is hs];cases hi:is h<;>simp[hi,joinH]
theorem kR(ts:List Tok)(f:ah)(is:ay->Bool):aC ts f is=((bk ts f).filter is,((bk ts f).filter fun h=>!is h).foldl joinH []):=by
 unfold aC iO;rw[qm];simp
theorem rf.filter{ts:List Tok}{hs:List ay}(h:rf ts hs)(is:ay->Bool):rf ts (hs.filter is):=
 ⟨fun x hx=>h.1 x ((List.mem_filter.1 hx).1),h.2.sublist List.filter_sublist⟩
theorem rf.tail{ts:List Tok}{x:ay}{hs:List ay}(h:rf ts (x::hs)):rf ts hs:=⟨fun y hy=>h.1 y (.tail _ hy),(List.pairwise_cons.1 h.2).2⟩
theorem lU(c:cg){is:ay->Bool}{isI:Nat->Bool}:∀{hs:List ay},(∀h∈hs,is h=isI h.at')->nF c (hs.filter is)=(nF c hs).filter isI
 | [],_=>rfl
 |h::hs,hi=>by
  have ih:=lU c (is:=is) (isI:=isI) (hs:=hs) fun x hx=>hi x (.tail _ hx);have h0:=hi h (.head _);rw[TU,iW];cases hc:h.cond.at' c<;>cases hs:is h<;>rw[hs]at h0<;>simp[ih,iW,hc,<-h0]
theorem eK{hs:List ay}:∀{f:ah},bG f->(∀h∈hs,h.cond.ok 0)->bG (hs.foldl joinH f):=by
 induction hs with
 |nil=>intro f h _;exact h
 |cons x hs ih=>intro f h hk;exact ih (de h (hk x (.head _))) fun y hy=>hk y (.tail _ hy)
theorem lK{hs:List ay}:∀{f:ah},bG f->(∀h∈hs,h.cond.ok 0)->bG (hs.foldl joinH1 f):=by
 induction hs with
 |nil=>intro f h _;exact h
 |cons x hs ih=>intro f h hk;exact ih (de h (hk x (.head _))) fun y hy=>hk y (.tail _ hy)
theorem lJ(c:cg){hs:List ay}:∀{f:ah},bG f->(∀h∈hs,h.cond.ok 0)->dC c (hs.foldl joinH f)=(nF c hs).foldl lD (dC c f):=by
 induction hs with
 |nil=>intro f h _;rfl
 |cons x hs ih=>
  intro f h hk;have hx:=hk x (.head _);rw[Sj,ih (show bG (joinH f x) from de h hx) fun y hy=>hk y (.tail _ hy)];show List.foldl lD (dC c (join f x.at' x.cond)) _=_;rw[ej c h hx,iW];cases x.cond.at' c<;>rfl
theorem rd(c:cg){hs:List ay}:∀{f:ah},bG f->(∀h∈hs,h.cond.ok 0)->dC c (hs.foldl joinH1 f)=((nF c hs).map (·+1)).foldl lD (dC c f):=by
 induction hs with
 |nil=>intro f h _;rfl
 |cons x hs ih=>
  intro f h hk;have hx:=hk x (.head _);rw[Sj,ih (show bG (joinH1 f x) from de h hx) fun y hy=>hk y (.tail _ hy)];show List.foldl lD (dC c (join f (x.at'+1) x.cond)) _=_;rw[ej c h hx,iW];cases x.cond.at' c<;>rfl
theorem At.joinH{c:cg}{hs:List ay}{f:ah}{p q:Option Nat}(hf:bG f)(hk:∀h∈hs,h.cond.ok 0)(h1:At c f p)(h2:j8 c hs q)(h:p=none\/q=none):At c (hs.foldl Syn.joinH f) (p.or q):=by
 unfold At j8 at *;rw[lJ c hf hk,h1,h2];rcases h with rfl|rfl
 ·cases q<;>rfl
 ·cases p<;>rfl
theorem At.joinH1{c:cg}{hs:List ay}{f:ah}{p q:Option Nat}(hf:bG f)(hk:∀h∈hs,h.cond.ok 0)(h1:At c f p)(h2:j8 c hs q)(h:p=none\/q=none):At c (hs.foldl Syn.joinH1 f) (p.or (q.map (·+1))):=by
 unfold At j8 at *;rw[rd c hf hk,h1,h2];rcases h with rfl|rfl
 ·cases q<;>rfl
 ·cases p<;>rfl
theorem rf.conds{ts:List Tok}{hs:List ay}(h:rf ts hs):∀x∈hs,x.cond.ok 0:=fun x hx=>(h.1 x hx).1.1
theorem gp{c:cg}{ts:List Tok}(ac:bu ts){f:ah}(hf:bG f){p:Option Nat}(hp:At c f p){is:ay->Bool}(isI:Nat->Bool)(hi:∀i d,is ⟨i,d,K ts i,X ts i⟩=isI i):
  rf ts (aC ts f is).1/\bG (aC ts f is).2/\j8 c (aC ts f is).1 ((p.map (nx c ts)).filter isI)/\At c (aC ts f is).2 ((p.map (nx c ts)).filter fun i=>!isI i):=by
 have hh:=ko ac hf;have ha:=j8.of ac hf hp;have aj:∀h∈bk ts f,is h=isI h.at':=fun h hm=>by
  have:=(hh.mem hm).2.2;rw[this];exact hi _ _
 have aa:∀h∈bk ts f,(!is h)=!isI h.at':=fun h hm=>by rw[aj h hm]
 rw[kR];refine⟨hh.filter _,eK bG.nil (hh.filter _).conds,?_,?_⟩
 ·unfold j8 at *;rw[lU c aj,ha];cases p.map (nx c ts)with
  |none=>rfl
  |some i=>cases h:isI i<;>simp[Option.filter,h]
 ·unfold At j8 at *;simp only;rw[lJ c bG.nil (hh.filter _).conds,lU (isI:=fun i=>!isI i) c aa,ha];cases p.map (nx c ts)with
  |none=>rfl
  |some i=>cases h:isI i<;>simp[Option.filter,h]<;>rfl
theorem kf{c:cg}{ts:List Tok}(aa:bu ts){f:ah}(hf:bG f){p:Option Nat}(hp:At c f p)(kind slot:Nat):RR c (named ts f kind slot) (bC ts c p kind slot):=by
 have hh:=ko aa hf;have ha:=j8.of aa hf hp;have key:=xq (c:=c) (fun(r:bE)=>bG r.f/\fX r.l/\xQ r.e) (fun r=>(pL c r.l,dC c r.f,pE c r.e)) (fun(r:bE) h=>if h.kind≠1\/dz h.text=true then { r with e:=r.e++bR h 10 } else ⟨r.l++[⟨kind,h.text,h.at',slot,[],h.cond⟩],join r.f (h.at'+1) h.cond,r.e⟩) (hs:=bk ts f) (z:=⟨[],[],[]⟩) ⟨bG.nil,trivial,dB⟩
  (fun a h ia hm=>by
   obtain⟨k1,_,_⟩:=hh.mem hm;obtain⟨i1,i2,i3⟩:=ia;split
   ·exact⟨i1,i2,bP.2 ⟨i3,oY k1 10⟩⟩
   ·exact⟨de i1 k1,fV.2 ⟨i2,⟨k1,trivial⟩,trivial⟩,i3⟩)
  (fun a h ia hm hc=>by
   obtain⟨k1,_,_⟩:=hh.mem hm;obtain⟨i1,i2,i3⟩:=ia;split
   ·simp only[bW,iM,hc,Tp,Si,Tq]
   ·simp only[ej c i1 k1,dO,bV,hc,Tp,Si];simp[pL]) ha
 unfold named iO;obtain⟨⟨k1,k2,k3⟩,k4⟩:=key;unfold bC;cases ac:p.map (nx c ts)with
 |none=>
  rw[ac]at k4;simp only[S3]at k4;exact⟨k1,k2,k3,k4.1,k4.2.1,k4.2.2⟩
 |some i=>
  rw[ac]at k4;obtain⟨h,hm,e1,hc,a,ia,e2,e3⟩:=k4;obtain⟨k5,_,k6⟩:=hh.mem hm;subst e1;have hx:h.text=X ts h.at':=by rw[k6]
  have hk:h.kind=K ts h.at':=by rw[k6]
  simp only[S3]at e2 e3;have el:pL c a.l=[]:=e2.1;have ep:dC c a.f=[]:=e2.2.1;have ee:pE c a.e=[]:=e2.2.2;simp only[hx,hk]at e3 k1 k2 k3 |-;split
  ·rename_i hs;simp only[SI hs]at e3;refine⟨k1,k2,k3,?_,?_,?_⟩
   ·rw[e3.1];exact el
   ·unfold At;rw[e3.2.1];exact ep
   ·rw[e3.2.2];simp only[bW,iM,hc,R9,ee];rfl
  ·rename_i hs;simp only[Sb hs]at e3;refine⟨k1,k2,k3,?_,?_,?_⟩
   ·rw[e3.1,dO,el,bV,hc];rfl
   ·unfold At;rw[e3.2.1,ej c ia.1 k5,hc,ep];rfl
   ·rw[e3.2.2];exact ee
theorem vO(a:ah)(l:List Tok)(i:Nat):dE a l i ff=a:=by
 cases l with
 |nil=>simp[dE,join]
 |cons t l=>simp[dE]
theorem AF{ts:List Tok}(ak:bu ts){h:ay}(hd:Hd ts h)(aj:h.cond≠ff):bk ts (bA h)=[h]:=by
 obtain⟨hk,he,hc⟩:=hd;have hf:bG (bA h):=⟨fun s hs=>by simp[bA]at hs;subst hs;exact⟨hk,aj⟩,by simp[bA]⟩;rw[jk ak hf];have:dm ts (bA h)=[(h.at',h.cond)]:=by
  show dE [] (ts.drop h.at') h.at' h.cond=_;have hj:join [] h.at' h.cond=[(h.at',h.cond)]:=by simp[join,aj,qV]
  cases hd:ts.drop h.at' with
  |nil=>exact hj
  |cons t l=>
   have ht:t.cond.ok 0:=ak t (List.mem_of_mem_drop (i:=h.at') (by rw[hd];exact .head _));have aa:∀c,h.cond.at' c=true->t.cond.at' c=true:=fun c ac=>by
    have h1:=hc c ac;unfold nx at h1;rw[hd]at h1;cases am:t.cond.at' c with
    |true=>rfl
    |false=>
     have e:ug c (t::l) h.at'=ug c l (h.at'+1):=by simp[ug,am]
     rw[e]at h1;have:=(oM c l (h.at'+1)).1;omega
   have e1:h.cond.and t.cond=h.cond:=T.ext (T.and_ok hk ht) hk fun c=>by
    rw[T.and_at hk ht];cases ac:h.cond.at' c with
    |false=>rfl
    |true=>rw[aa c ac];rfl
   have e2:h.cond.and t.cond.not=ff:=T.ext (T.and_ok hk (T.not_ok ht)) (show ff.ok 0 from trivial) fun c=>by
    rw[T.and_at hk (T.not_ok ht),T.not_at];cases ac:h.cond.at' c with
    |false=>rfl
    |true=>rw[aa c ac];rfl
   simp only[dE,Sb aj,e1,e2,hj,vO]
 rw[this,List.map_singleton,vE,<-he]
theorem rV{ts:List Tok}(ac:bu ts){h:ay}(hd:Hd ts h)(aa:h.cond≠ff)(kind slot:Nat):
  named ts (bA h) kind slot=if h.kind≠1\/dz h.text=true then ⟨[],[],bR h 10⟩else ⟨[⟨kind,h.text,h.at',slot,[],h.cond⟩],bh h,[]⟩:=by
 unfold named iO;rw[AF ac hd aa];simp only[Sj,List.foldl_nil,SU];split
 ·rfl
 ·simp[join,aa,qV,bh]
theorem tI{c:cg}{ts:List Tok}(aa:bu ts){f:ah}(hf:bG f){p:Option Nat}(hp:At c f p)(slot:Nat):RR c (typed ts f slot) (gE ts c p slot):=by
 have hh:=ko aa hf;have ha:=j8.of aa hf hp;have key:=xq (c:=c) (fun(r:bE)=>bG r.f/\fX r.l/\xQ r.e) (fun r=>(pL c r.l,dC c r.f,pE c r.e)) (fun(r:bE) h=>if h.text≠AI/\h.text≠sB then { r with e:=r.e++bR h 10 } else ⟨r.l++[⟨5,h.text,h.at',slot,[],h.cond⟩],join r.f (h.at'+1) h.cond,r.e⟩) (hs:=bk ts f) (z:=⟨[],[],[]⟩) ⟨bG.nil,trivial,dB⟩
  (fun a h ia hm=>by
   obtain⟨k1,_,_⟩:=hh.mem hm;obtain⟨i1,i2,i3⟩:=ia;split
   ·exact⟨i1,i2,bP.2 ⟨i3,oY k1 10⟩⟩
   ·exact⟨de i1 k1,fV.2 ⟨i2,⟨k1,trivial⟩,trivial⟩,i3⟩)
  (fun a h ia hm hc=>by
   obtain⟨k1,_,_⟩:=hh.mem hm;obtain⟨i1,i2,i3⟩:=ia;split
   ·simp only[bW,iM,hc,Tp,Si,Tq]
   ·simp only[ej c i1 k1,dO,bV,hc,Tp,Si];simp[pL]) ha
 unfold typed iO;obtain⟨⟨k1,k2,k3⟩,k4⟩:=key;unfold gE;cases ac:p.map (nx c ts)with
 |none=>
  rw[ac]at k4;simp only[S3]at k4;exact⟨k1,k2,k3,k4.1,k4.2.1,k4.2.2⟩
 |some i=>
  rw[ac]at k4;obtain⟨h,hm,e1,hc,a,ia,e2,e3⟩:=k4;obtain⟨k5,_,k6⟩:=hh.mem hm;subst e1;have hx:h.text=X ts h.at':=by rw[k6]
  simp only[S3]at e2 e3;have el:pL c a.l=[]:=e2.1;have ep:dC c a.f=[]:=e2.2.1;have ee:pE c a.e=[]:=e2.2.2;simp only[hx]at e3 k1 k2 k3 |-;split
  ·rename_i hs;simp only[SI hs]at e3;refine⟨k1,k2,k3,?_,?_,?_⟩
   ·rw[e3.1];exact el
   ·unfold At;rw[e3.2.1];exact ep
   ·rw[e3.2.2];simp only[bW,iM,hc,R9,ee];rfl
  ·rename_i hs;simp only[Sb hs]at e3;refine⟨k1,k2,k3,?_,?_,?_⟩
   ·rw[e3.1,dO,el,bV,hc];rfl
   ·unfold At;rw[e3.2.1,ej c ia.1 k5,hc,ep];rfl
   ·rw[e3.2.2];exact ee
open Dg
inductive jj where
 |line (k o:Nat) (p:Option Nat) (slot:Nat)
 |lineL (k o:Nat) (slot:Nat) (first:Bool) (l:List Nd) (g out:Option Nat)
 |lineO (k o:Nat) (slot:Nat) (op:Option Nat) (l:List Nd) (g:Option Nat)
 |unary (o:Nat) (p:Option Nat) (slot:Nat)
 |unaryH (o:Nat) (i:Option Nat) (slot:Nat)
 |calls (o:Nat) (i:Option Nat) (slot:Nat) (x:Option Nat) (names:List Nd) (g:Option Nat)
 |inside (o:Nat) (p:Option Nat) (slot:Nat)
 |listed (par:Bool) (o:Nat) (p:Option Nat)
 |listL (par:Bool) (o:Nat) (l:List Nd) (g fin:Option Nat)
 |item (par:Bool) (o:Nat) (p:Option Nat)
 |behind (typ:Bool) (o:Nat) (p:Option Nat) (sign:bM) (slot:Nat)
 |vrb (o:Nat) (p:Option Nat)
 |function (o:Nat) (p:Option Nat)
 |block (o:Nat) (p:Option Nat) (slot:Nat)
 |seqL (top:Bool) (o:Nat) (p:Option Nat) (l:List Nd) (out:Option Nat)
 |stmt (o:Nat) (i:Option Nat)
 |sCalls (o:Nat) (i:Option Nat) (x:Option Nat) (l:List Nd) (g:Option Nat)
 |branch (o:Nat) (i:Option Nat) (slot:Nat)
 |elses (o:Nat) (x:Option Nat) (l:List Nd) (out:Option Nat)
 |ifs (o:Nat) (y:Option Nat) (l:List Nd) (out:Option Nat)
abbrev o3:=jj->Option PR
def triv:PR:=⟨[],none,[]⟩
def ow(l:List Nd):List Nd:=l.map fun n=>{ n with slot:=0 }
def je(kind:Nat)(i:Option Nat)(slot:Nat):List Nd:=i.toList.map fun(i:Nat)=>⟨kind,[],(i:Int),slot,[],tt⟩
section
variable (c:cg) (ts:List Tok) (rec:o3)
def pIf(p:Option Nat)(is:Nat->Bool):Option Nat:=(p.map (nx c ts)).filter is
def isX(s:bM)(i:Nat):Bool:=decide (X ts i=s)
def nu(k i:Nat):Bool:=decide (K ts i=3) && decide (dY (X ts i)=k)
def sE(k o slot:Nat)(op:Option Nat)(l:List Nd)(g:Option Nat):Option PR:=
 match op with
 |none=>some ⟨l,g,[]⟩
 |some i=>do
  let a <-rec (.line (k+1) o (some (i+1)) 1)
  some ⟨[⟨13,X ts i,i,slot,ow l++a.l,tt⟩],a.p,a.e⟩
def nH(k o slot:Nat)(first:Bool)(l:List Nd)(g out:Option Nat):Option PR:=
 match g with
 |none=>some ⟨l,out,[]⟩
 |some p=>
  if k=2/\first=false then some ⟨l,some p,[]⟩
  else do
   let a <-rec (.lineO k o slot (pIf c ts (some p) (nu ts k)) l none)
   let b <-rec (.lineL k o slot false a.l a.p (pIf c ts (some p) fun i=>!nu ts k i))
   some ⟨b.l,b.p,a.e++b.e⟩
def pd(k o:Nat)(p:Option Nat)(slot:Nat):Option PR:=
 if k=5 then rec (.unary o p slot)
 else do
  let a <-rec (.line (k+1) o p slot)
  let b <-rec (.lineL k o slot true a.l a.p none)
  some ⟨b.l,b.p,a.e++b.e⟩
def fU(o:Nat)(i:Option Nat)(slot:Nat):Option PR:=
 match i with
 |none=>some triv
 |some i=>
  if X ts i=C9\/X ts i=nV then
   if o=64 then some ⟨[],none,[(11,(i:Int))]⟩
   else do
    let a <-rec (.unary (o+1) (some (i+1)) 0)
    some ⟨[⟨14,X ts i,i,slot,a.l,tt⟩],a.p,a.e⟩
  else if X ts i=hZ then rec (.inside o (some i) slot)
  else if K ts i=2 then some ⟨[⟨15,X ts i,i,slot,[],tt⟩],some (i+1),[]⟩
  else if X ts i=qv\/X ts i=oe then some ⟨[⟨16,X ts i,i,slot,[],tt⟩],some (i+1),[]⟩
  else if X ts i=tj then some ⟨[⟨17,[],i,slot,[],tt⟩],some (i+1),[]⟩
  else do
   let a:=bC ts c (some i) 18 slot
   let b <-rec (.calls o (some i) slot (pIf c ts a.p (isX ts hZ)) a.l (pIf c ts a.p fun i=>!isX ts hZ i))
   some ⟨b.l,b.p,a.e++b.e⟩
def nC(o:Nat)(i:Option Nat)(slot:Nat)(x:Option Nat)(names:List Nd)(g:Option Nat):Option PR:=
 match i,x with
 |some i,some x=>do
  let a <-rec (.listed false o (some x))
  some ⟨[⟨19,X ts i,i,slot,a.l,tt⟩],a.p,a.e⟩
 |_,_=>some ⟨names,g,[]⟩
def pB(o:Nat)(p:Option Nat)(slot:Nat):Option PR:=rec (.unaryH o (p.map (nx c ts)) slot)
def jL(o:Nat)(p:Option Nat)(slot:Nat):Option PR:=
 match p.map (nx c ts)with
 |none=>some triv
 |some i=>
  if X ts i≠hZ then some ⟨[],none,[(10,(i:Int))]⟩
  else if o=64 then some ⟨[],none,[(11,(i:Int))]⟩
  else do
   let a <-rec (.line 0 (o+1) (some (i+1)) slot)
   some ⟨a.l,(cX ts c a.p iI).1,a.e++(cX ts c a.p iI).2⟩
def jI(par:Bool)(o:Nat)(p:Option Nat):Option PR:=
 match p.map (nx c ts)with
 |none=>some triv
 |some i=>
  if X ts i≠hZ then some ⟨[],none,[(10,(i:Int))]⟩
  else if o=64 then some ⟨[],none,[(11,(i:Int))]⟩
  else do
   let a <-rec (.listL par (o+1) [] (pIf c ts (some (i+1)) fun i=>!isX ts iI i) (pIf c ts (some (i+1)) (isX ts iI)))
   some ⟨a.l,(cX ts c a.p iI).1,a.e++(cX ts c a.p iI).2⟩
def tL(par:Bool)(o:Nat)(l:List Nd)(g fin:Option Nat):Option PR:=
 match g with
 |none=>some ⟨l,fin,[]⟩
 |some p=>do
  let a <-rec (.item par o (some p))
  let b <-rec (.listL par o (l++a.l) ((pIf c ts a.p (isX ts cd)).map (·+1)) (pIf c ts a.p fun i=>!isX ts cd i))
  some ⟨b.l,b.p,a.e++b.e⟩
def sH(par:Bool)(o:Nat)(p:Option Nat):Option PR:=
 if par then
  let a:=bC ts c p 4 0
  let g:=cX ts c a.p bS
  let b:=gE ts c g.1 0
  some ⟨give a.l b.l,b.p,a.e++g.2++b.e⟩
 else rec (.line 0 o p 0)
def jc(typ:Bool)(o:Nat)(p:Option Nat)(slot:Nat):Option PR:=if typ then some (gE ts c p slot)else rec (.line 0 o p slot)
def lq(typ:Bool)(o:Nat)(p:Option Nat)(sign:bM)(slot:Nat):Option PR:=do
 let a <-jc c ts rec typ o ((pIf c ts p (isX ts sign)).map (·+1)) slot
 some ⟨a.l,(pIf c ts p fun i=>!isX ts sign i).or a.p,a.e⟩
def iY(o:Nat)(p:Option Nat):Option PR:=do
 let a:=bC ts c p 2 0
 let g1:=cX ts c a.p bS
 let b:=gE ts c g1.1 0
 let d <-rec (.behind false o b.p zJ 1)
 let g2:=cX ts c d.p bl
 some ⟨give (give a.l b.l) d.l,g2.1,a.e++g1.2++b.e++d.e++g2.2⟩
def iX(o:Nat)(p:Option Nat):Option PR:=do
 let a:=bC ts c p 3 0
 let b <-rec (.listed true o a.p)
 let d <-rec (.behind true o b.p bS 1)
 let e <-rec (.block o d.p 2)
 some ⟨give (give (give a.l b.l) d.l) e.l,e.p,a.e++b.e++d.e++e.e⟩
def mg(o:Nat)(p:Option Nat)(slot:Nat):Option PR:=
 match p.map (nx c ts)with
 |none=>some triv
 |some i=>
  if X ts i≠Ky then some ⟨[],none,[(10,(i:Int))]⟩
  else if o=64 then some ⟨[],none,[(11,(i:Int))]⟩
  else do
   let a <-rec (.seqL false (o+1) (some (i+1)) [] none)
   some ⟨[⟨6,[],i,slot,a.l,tt⟩],(cX ts c a.p uo).1,a.e++(cX ts c a.p uo).2⟩
def pEnd(top:Bool)(i:Nat):Bool:=if top then decide (i=ts.length)else decide (X ts i=uo)
def zm(o:Nat)(i:Nat):Option PR:=
 if X ts i=rg then rec (.vrb o (some (i+1)))
 else if X ts i=MC then rec (.function o (some (i+1)))
 else some ⟨[],none,[(10,(i:Int))]⟩
def my(top:Bool)(o i:Nat):Option PR:=if top then zm ts rec o i else rec (.stmt o (some i))
def tw(top:Bool)(o:Nat)(p:Option Nat)(l:List Nd)(out:Option Nat):Option PR:=
 match p.map (nx c ts)with
 |none=>some ⟨l,out,[]⟩
 |some i=>
  if pEnd ts top i then some ⟨l,some i,[]⟩
  else do
   let a <-my ts rec top o i
   let b <-rec (.seqL top o a.p (l++a.l) none)
   some ⟨b.l,b.p,a.e++b.e⟩
def lG(o:Nat)(i:Option Nat):Option PR:=
 match i with
 |none=>some triv
 |some i=>
  if X ts i=rg then rec (.vrb o (some (i+1)))
  else if X ts i=ny then rec (.branch o (some i) 0)
  else if X ts i=nK then do
   let a <-rec (.inside o (some (i+1)) 0)
   let b <-rec (.block o a.p 1)
   some ⟨give (give (je 9 (some i) 0) a.l) b.l,b.p,a.e++b.e⟩
  else if X ts i=Ky then rec (.block o (some i) 0)
  else if X ts i=lh then do
   let a <-rec (.line 0 o (pIf c ts (some (i+1)) fun i=>!isX ts bl i) 0)
   let g:=cX ts c (a.p.or (pIf c ts (some (i+1)) (isX ts bl))) bl
   some ⟨give (je 10 (some i) 0) a.l,g.1,a.e++g.2⟩
  else if X ts i=n8\/X ts i=fe then do
   let a <-rec (.line 0 o (some (i+1)) 0)
   let g:=cX ts c a.p bl
   some ⟨give (je (if X ts i=fe then 12 else 11) (some i) 0) a.l,g.1,a.e++g.2⟩
  else do
   let a:=bC ts c (some i) 7 0
   let g1:=cX ts c (pIf c ts a.p fun i=>!isX ts hZ i) zJ
   let b <-rec (.line 0 o g1.1 0)
   let d <-rec (.sCalls o (some i) (pIf c ts a.p (isX ts hZ)) (give a.l b.l) b.p)
   let g2:=cX ts c d.p bl
   some ⟨d.l,g2.1,a.e++g1.2++b.e++d.e++g2.2⟩
def kS(o:Nat)(i:Option Nat)(x:Option Nat)(l:List Nd)(g:Option Nat):Option PR:=
 match i,x with
 |some i,some x=>do
  let a <-rec (.listed false o (some x))
  some ⟨[⟨19,X ts i,i,0,a.l,tt⟩],a.p,a.e⟩
 |_,_=>some ⟨l,g,[]⟩
def mB(o:Nat)(i:Option Nat)(slot:Nat):Option PR:=do
 let a <-rec (.inside o (i.map (·+1)) 0)
 let b <-rec (.block o a.p 1)
 let d <-rec (.elses o (pIf c ts b.p (isX ts ip)) (give (give (je 8 i slot) a.l) b.l) (pIf c ts b.p fun i=>!isX ts ip i))
 some ⟨d.l,d.p,a.e++b.e++d.e⟩
def pD(o:Nat)(x:Option Nat)(l:List Nd)(out:Option Nat):Option PR:=
 match x with
 |none=>some ⟨l,out,[]⟩
 |some j=>do
  let a <-rec (.block o (pIf c ts (some (j+1)) fun i=>!isX ts ny i) 2)
  let b <-rec (.ifs o (pIf c ts (some (j+1)) (isX ts ny)) (give l a.l) a.p)
  some ⟨b.l,b.p,a.e++b.e⟩
def Dt(o:Nat)(y:Option Nat)(l:List Nd)(out:Option Nat):Option PR:=
 match y with
 |none=>some ⟨l,out,[]⟩
 |some j=>
  if o=64 then some ⟨l,out,[(11,(j:Int))]⟩
  else do
   let a <-rec (.branch (o+1) (some j) 2)
   some ⟨give l a.l,a.p,a.e⟩
def aN:jj->Option PR
 | .line k o p slot=>pd rec k o p slot
 | .lineL k o slot first l g out=>nH c ts rec k o slot first l g out
 | .lineO k o slot op l g=>sE ts rec k o slot op l g
 | .unary o p slot=>pB c ts rec o p slot
 | .unaryH o i slot=>fU c ts rec o i slot
 | .calls o i slot x names g=>nC ts rec o i slot x names g
 | .inside o p slot=>jL c ts rec o p slot
 | .listed par o p=>jI c ts rec par o p
 | .listL par o l g fin=>tL c ts rec par o l g fin
 | .item par o p=>sH c ts rec par o p
 | .behind typ o p sign slot=>lq c ts rec typ o p sign slot
 | .vrb o p=>iY c ts rec o p
 | .function o p=>iX c ts rec o p
 | .block o p slot=>mg c ts rec o p slot
 | .seqL top o p l out=>tw c ts rec top o p l out
 | .stmt o i=>lG c ts rec o i
 | .sCalls o i x l g=>kS ts rec o i x l g
 | .branch o i slot=>mB c ts rec o i slot
 | .elses o x l out=>pD c ts rec o x l out
 | .ifs o y l out=>Dt rec o y l out
end
def hQ(c:cg)(ts:List Tok):Nat->o3
 |0=>fun _=>none
 |n+1=>aN c ts (hQ c ts n)
def Le(r s:o3):Prop:=∀x q,r x=some q->s x=some q
theorem bH{α β:Type}{a b:Option α}{f g:α->Option β}{q:β}(h:∀x,a=some x->b=some x)(k:∀x q,f x=some q->g x=some q)(e:a.bind f=some q):b.bind g=some q:=by
 cases ha:a with
 |none=>rw[ha]at e;cases e
 |some x=>rw[ha]at e;rw[h x ha];exact k x q e
theorem Ha{c:cg}{ts:List Tok}{r s:o3}(h:Le r s):Le (aN c ts r) (aN c ts s):=by
 intro x q e;cases x<;>simp only[aN]at e |-
 case line k o p slot=>
  unfold pd at e |-;split at e
  ·rename_i hk;rw[SI hk];exact h _ _ e
  ·rename_i hk;rw[Sb hk];exact bH (h _) (fun x q e=>bH (h _) (fun x q e=>e) e) e
 case lineL k o slot first l g out=>
  unfold nH at e |-;cases g with
  |none=>exact e
  |some p=>
   simp only at e |-;split at e
   ·rename_i hk;rw[SI hk];exact e
   ·rename_i hk;rw[Sb hk];exact bH (h _) (fun x q e=>bH (h _) (fun x q e=>e) e) e
 case lineO k o slot op l g=>
  unfold sE at e |-;cases op with
  |none=>exact e
  |some i=>exact bH (h _) (fun x q e=>e) e
 case unary o p slot=>exact h _ _ e
 case unaryH o i slot=>
  unfold fU at e |-;cases i with
  |none=>exact e
  |some i=>
   simp only at e |-;split at e
   ·rename_i h1;rw[SI h1];split at e
    ·rename_i h2;rw[SI h2];exact e
    ·rename_i h2;rw[Sb h2];exact bH (h _) (fun x q e=>e) e
   ·rename_i h1;rw[Sb h1];split at e
    ·rename_i h2;rw[SI h2];exact h _ _ e
    ·rename_i h2;rw[Sb h2];split at e
     ·rename_i h3;rw[SI h3];exact e
     ·rename_i h3;rw[Sb h3];split at e
      ·rename_i h4;rw[SI h4];exact e
      ·rename_i h4;rw[Sb h4];split at e
       ·rename_i h5;rw[SI h5];exact e
       ·rename_i h5;rw[Sb h5];exact bH (h _) (fun x q e=>e) e
 case calls o i slot x names g=>
  unfold nC at e |-;cases i<;>cases x<;>first|exact e|exact bH (h _) (fun x q e=>e) e
 case inside o p slot=>
  unfold jL at e |-;generalize p.map (nx c ts)=w at e |-;cases w with
  |none=>exact e
  |some i=>
   simp only at e |-;split at e
   ·rename_i h1;rw[SI h1];exact e
   ·rename_i h1;rw[Sb h1];split at e
    ·rename_i h2;rw[SI h2];exact e
    ·rename_i h2;rw[Sb h2];exact bH (h _) (fun x q e=>e) e
 case listed par o p=>
  unfold jI at e |-;generalize p.map (nx c ts)=w at e |-;cases w with
  |none=>exact e
  |some i=>
   simp only at e |-;split at e
   ·rename_i h1;rw[SI h1];exact e
   ·rename_i h1;rw[Sb h1];split at e
    ·rename_i h2;rw[SI h2];exact e
    ·rename_i h2;rw[Sb h2];exact bH (h _) (fun x q e=>e) e
 case listL par o l g fin=>
  unfold tL at e |-;cases g with
  |none=>exact e
  |some p=>exact bH (h _) (fun x q e=>bH (h _) (fun x q e=>e) e) e
 case item par o p=>
  unfold sH at e |-;cases par with
  |true=>exact e
  |false=>exact h _ _ e
 case behind typ o p sign slot=>
  unfold lq at e |-;refine bH (fun x e=>?_) (fun x q e=>e) e;unfold jc at e |-;cases typ with
  |true=>exact e
  |false=>exact h _ _ e
 case vrb o p=>
  unfold iY at e |-;exact bH (h _) (fun x q e=>e) e
 case function o p=>
  unfold iX at e |-;exact bH (h _) (fun x q e=>bH (h _) (fun x q e=>bH (h _) (fun x q e=>e) e) e) e
 case block o p slot=>
  unfold mg at e |-;generalize p.map (nx c ts)=w at e |-;cases w with
  |none=>exact e
  |some i=>
   simp only at e |-;split at e
   ·rename_i h1;rw[SI h1];exact e
   ·rename_i h1;rw[Sb h1];split at e
    ·rename_i h2;rw[SI h2];exact e
    ·rename_i h2;rw[Sb h2];exact bH (h _) (fun x q e=>e) e
 case seqL top o p l out=>
  unfold tw at e |-;generalize p.map (nx c ts)=w at e |-;cases w with
  |none=>exact e
  |some i=>
   simp only at e |-;split at e
   ·rename_i h1;rw[SI h1];exact e
   ·rename_i h1;rw[Sb h1];refine bH (fun x e=>?_) (fun x q e=>bH (h _) (fun x q e=>e) e) e;unfold my at e |-;cases top with
    |false=>exact h _ _ e
    |true=>
     simp only[R9]at e |-;unfold zm at e |-;split at e
     ·rename_i h2;rw[SI h2];exact h _ _ e
     ·rename_i h2;rw[Sb h2];split at e
      ·rename_i h3;rw[SI h3];exact h _ _ e
      ·rename_i h3;rw[Sb h3];exact e
 case stmt o i=>
  unfold lG at e |-;cases i with
  |none=>exact e
  |some i=>
   simp only at e |-;split at e
   ·rename_i h1;rw[SI h1];exact h _ _ e
   ·rename_i h1;rw[Sb h1];split at e
    ·rename_i h2;rw[SI h2];exact h _ _ e
    ·rename_i h2;rw[Sb h2];split at e
     ·rename_i h3;rw[SI h3];exact bH (h _) (fun x q e=>bH (h _) (fun x q e=>e) e) e
     ·rename_i h3;rw[Sb h3];split at e
      ·rename_i h4;rw[SI h4];exact h _ _ e
      ·rename_i h4;rw[Sb h4];split at e
       ·rename_i h5;rw[SI h5];exact bH (h _) (fun x q e=>e) e
       ·rename_i h5;rw[Sb h5];split at e
        ·rename_i h6;rw[SI h6];exact bH (h _) (fun x q e=>e) e
        ·rename_i h6;rw[Sb h6];exact bH (h _) (fun x q e=>bH (h _) (fun x q e=>e) e) e
 case sCalls o i x l g=>
  unfold kS at e |-;cases i<;>cases x<;>first|exact e|exact bH (h _) (fun x q e=>e) e
 case branch o i slot=>
  unfold mB at e |-;exact bH (h _) (fun x q e=>bH (h _) (fun x q e=>bH (h _) (fun x q e=>e) e) e) e
 case elses o x l out=>
  unfold pD at e |-;cases x with
  |none=>exact e
  |some j=>exact bH (h _) (fun x q e=>bH (h _) (fun x q e=>e) e) e
 case ifs o y l out=>
  unfold Dt at e |-;cases y with
  |none=>exact e
  |some j=>
   simp only at e |-;split at e
   ·rename_i h1;rw[SI h1];exact e
   ·rename_i h1;rw[Sb h1];exact bH (h _) (fun x q e=>e) e
theorem vW{c:cg}{ts:List Tok}:∀(n:Nat),Le (hQ c ts n) (hQ c ts (n+1))
 |0=>fun x q e=>by cases e
 |n+1=>Ha (vW n)
theorem iK{c:cg}{ts:List Tok}{n m:Nat}(h:n<=m):Le (hQ c ts n) (hQ c ts m):=by
 induction h with
 |refl=>exact fun x q e=>e
 |step _ ih=>exact fun x q e=>vW _ x q (ih x q e)
def PV(c:cg)(ts:List Tok)(x:jj)(q:PR):Prop:=∃n,hQ c ts n x=some q
theorem PV.det{c:cg}{ts:List Tok}{x:jj}{q r:PR}(h:PV c ts x q)(k:PV c ts x r):q=r:=by
 obtain⟨n,hn⟩:=h;obtain⟨m,hm⟩:=k;have h1:=iK (Nat.le_max_left n m) _ _ hn;have h2:=iK (Nat.le_max_right n m) _ _ hm;rw[h1]at h2;exact Tk h2
theorem PV.of{c:cg}{ts:List Tok}{x:jj}{q:PR}{P:o3->Prop}(h:∀r:o3,P r->aN c ts r x=some q)(n:Nat)(hp:P (hQ c ts n)):PV c ts x q:=⟨n+1,h _ hp⟩
theorem PV.step0{c:cg}{ts:List Tok}{x:jj}{q:PR}(h:∀r:o3,aN c ts r x=some q):PV c ts x q:=⟨1,h _⟩
theorem PV.step1{c:cg}{ts:List Tok}{x y:jj}{q a:PR}(h1:PV c ts y a)(h:∀r:o3,r y=some a->aN c ts r x=some q):PV c ts x q:=by
 obtain⟨n,hn⟩:=h1;exact⟨n+1,h _ hn⟩
theorem PV.step2{c:cg}{ts:List Tok}{x y z:jj}{q a b:PR}(h1:PV c ts y a)(h2:PV c ts z b)(h:∀r:o3,r y=some a->r z=some b->aN c ts r x=some q):PV c ts x q:=by
 obtain⟨n,hn⟩:=h1;obtain⟨m,hm⟩:=h2;exact⟨max n m+1,h _ (iK (Nat.le_max_left n m) _ _ hn) (iK (Nat.le_max_right n m) _ _ hm)⟩
theorem PV.step3{c:cg}{ts:List Tok}{x y z w:jj}{q a b d:PR}(h1:PV c ts y a)(h2:PV c ts z b)(h3:PV c ts w d)(h:∀r:o3,r y=some a->r z=some b->r w=some d->aN c ts r x=some q):PV c ts x q:=by
 obtain⟨n,hn⟩:=h1;obtain⟨m,hm⟩:=h2;obtain⟨k,hk⟩:=h3;exact⟨max n (max m k)+1,h _ (iK Vi _ _ hn) (iK Vi _ _ hm) (iK Vi _ _ hk)⟩
open Dg
section
variable {c:cg} {ts:List Tok}
theorem mK:∀(n:Nat) {k o slot:Nat} {q:PR},hQ c ts n (.line k o none slot)=some q->q=triv
 |0,k,o,slot,q,h=>by cases h
 |n+1,k,o,slot,q,h=>by
  simp only[hQ,aN,pd]at h;split at h
  ·cases n with
   |zero=>cases h
   |succ n=>
    simp only[hQ,aN,pB,Ss]at h;cases n with
    |zero=>cases h
    |succ n=>simp only[hQ,aN,fU,Sc]at h;exact h.symm
  ·simp only[T5,T6,Sc]at h;obtain⟨a,ha,b,hb,rfl⟩:=h;rw[mK n ha]at hb |-;cases n with
   |zero=>cases hb
   |succ n=>
    simp only[hQ,aN,nH,triv,Sc]at hb;subst hb;rfl
theorem PV.noneLine{k o slot:Nat}{q:PR}(h:PV c ts (.line k o none slot) q):q=triv:=by obtain⟨n,h⟩:=h;exact mK n h
theorem PV.noneUnary{o slot:Nat}{q:PR}(h:PV c ts (.unary o none slot) q):q=triv:=by
 obtain⟨n,h⟩:=h;cases n with
 |zero=>cases h
 |succ n=>
  simp only[hQ,aN,pB,Ss]at h;cases n with
  |zero=>cases h
  |succ n=>simp only[hQ,aN,fU,Sc]at h;exact h.symm
theorem PV.noneInside{o slot:Nat}{q:PR}(h:PV c ts (.inside o none slot) q):q=triv:=by
 obtain⟨n,h⟩:=h;cases n with
 |zero=>cases h
 |succ n=>simp only[hQ,aN,jL,Ss,Sc]at h;exact h.symm
theorem PV.noneListed{par:Bool}{o:Nat}{q:PR}(h:PV c ts (.listed par o none) q):q=triv:=by
 obtain⟨n,h⟩:=h;cases n with
 |zero=>cases h
 |succ n=>simp only[hQ,aN,jI,Ss,Sc]at h;exact h.symm
theorem PV.noneBlock{o slot:Nat}{q:PR}(h:PV c ts (.block o none slot) q):q=triv:=by
 obtain⟨n,h⟩:=h;cases n with
 |zero=>cases h
 |succ n=>simp only[hQ,aN,mg,Ss,Sc]at h;exact h.symm
theorem PV.noneItem{par:Bool}{o:Nat}{q:PR}(h:PV c ts (.item par o none) q):q=triv:=by
 obtain⟨n,h⟩:=h;cases n with
 |zero=>cases h
 |succ n=>
  simp only[hQ,aN,sH]at h;cases par with
  |true=>simp[bC,cX,gE,give]at h;exact h.symm
  |false=>exact mK n h
theorem PV.noneBehind{typ:Bool}{o slot:Nat}{sign:bM}{q:PR}(h:PV c ts (.behind typ o none sign slot) q):q=triv:=by
 obtain⟨n,h⟩:=h;cases n with
 |zero=>cases h
 |succ n=>
  simp only[hQ,aN,lq,T5,T6,Sc]at h;obtain⟨a,ha,rfl⟩:=h;have:a=triv:=by
   simp only[jc,pIf,Ss,Option.filter_none]at ha;cases typ with
   |true=>simp[gE]at ha;exact ha.symm
   |false=>exact mK n ha
  subst this;rfl
theorem PV.noneVar{o:Nat}{q:PR}(h:PV c ts (.vrb o none) q):q=triv:=by
 obtain⟨n,h⟩:=h;cases n with
 |zero=>cases h
 |succ n=>
  simp only[hQ,aN,iY,T5,T6,Sc]at h;obtain⟨a,ha,rfl⟩:=h;have:=PV.noneBehind (c:=c) (ts:=ts) ⟨n,ha⟩;subst this;rfl
theorem PV.noneFn{o:Nat}{q:PR}(h:PV c ts (.function o none) q):q=triv:=by
 obtain⟨n,h⟩:=h;cases n with
 |zero=>cases h
 |succ n=>
  simp only[hQ,aN,iX,T5,T6,Sc]at h;obtain⟨a,ha,b,hb,d,hd,rfl⟩:=h;have:=PV.noneListed (c:=c) (ts:=ts) ⟨n,ha⟩;subst this;have:=PV.noneBehind (c:=c) (ts:=ts) ⟨n,hb⟩;subst this;have:=PV.noneBlock (c:=c) (ts:=ts) ⟨n,hd⟩;subst this;rfl
theorem PV.noneElses{o:Nat}{l:List Nd}{out:Option Nat}{q:PR}(h:PV c ts (.elses o none l out) q):q=⟨l,out,[]⟩:=by
 obtain⟨n,h⟩:=h;cases n with
 |zero=>cases h
 |succ n=>simp only[hQ,aN,pD,Sc]at h;exact h.symm
theorem PV.noneBranch{o slot:Nat}{q:PR}(h:PV c ts (.branch o none slot) q):q=triv:=by
 obtain⟨n,h⟩:=h;cases n with
 |zero=>cases h
 |succ n=>
  simp only[hQ,aN,mB,T5,T6,Sc]at h;obtain⟨a,ha,b,hb,d,hd,rfl⟩:=h;have:=PV.noneInside (c:=c) (ts:=ts) ⟨n,ha⟩;subst this;have:=PV.noneBlock (c:=c) (ts:=ts) ⟨n,hb⟩;subst this;have:=PV.noneElses (c:=c) (ts:=ts) ⟨n,hd⟩;subst this;rfl
def hI(c:cg)(h:ay):Option Nat:=if h.cond.at' c then some h.at' else none
inductive uz (c:cg) (ts:List Tok):Call->jj->Prop
 |line {k o f p slot}:bG f->At c f p->uz c ts (.line k o f slot) (.line k o p slot)
 |lineL {k o slot first l l' g g' out out'}:fX l->pL c l=l'->bG g->At c g g'->bG out->At c out out'->(g'=none\/out'=none)->uz c ts (.lineL k o slot first l g out) (.lineL k o slot first l' g' out')
 |lineO {k o slot ops op l l' g g'}:rf ts ops->j8 c ops op->fX l->pL c l=l'->bG g->At c g g'->(op=none\/g'=none)->uz c ts (.lineO k o slot ops l g) (.lineO k o slot op l' g')
 |unary {o f p slot}:bG f->At c f p->uz c ts (.unary o f slot) (.unary o p slot)
 |unaryH {o h i slot}:Hd ts h->h.cond≠ff->hI c h=i->uz c ts (.unaryH o h slot) (.unaryH o i slot)
 |calls {o h i slot xs x names names' g g'}:Hd ts h->hI c h=i->rf ts xs->j8 c xs x->fX names->pL c names=names'->bG g->At c g g'->(x=none\/g'=none/\i≠none/\pL c names.tail=[])->uz c ts (.calls o h slot xs names g) (.calls o i slot x names' g')
 |inside {o f p slot}:bG f->At c f p->uz c ts (.inside o f slot) (.inside o p slot)
 |listed {par o f p}:bG f->At c f p->uz c ts (.listed par o f) (.listed par o p)
 |listL {par o l l' g g' fin fin'}:fX l->pL c l=l'->bG g->At c g g'->bG fin->At c fin fin'->(g'=none\/fin'=none)->uz c ts (.listL par o l g fin) (.listL par o l' g' fin')
 |item {par o f p}:bG f->At c f p->uz c ts (.item par o f) (.item par o p)
 |behind {typ o f p sign slot}:bG f->At c f p->uz c ts (.behind typ o f sign slot) (.behind typ o p sign slot)
 |vrb {o f p}:bG f->At c f p->uz c ts (.vrb o f) (.vrb o p)
 |function {o f p}:bG f->At c f p->uz c ts (.function o f) (.function o p)
 |block {o f p slot}:bG f->At c f p->uz c ts (.block o f slot) (.block o p slot)
 |seqL {top o f p l l' out out'}:bG f->At c f p->fX l->pL c l=l'->bG out->At c out out'->(p=none\/out'=none)->uz c ts (.seqL top o f l out) (.seqL top o p l' out')
 |stmt {o h i}:Hd ts h->h.cond≠ff->hI c h=i->uz c ts (.stmt o h) (.stmt o i)
 |sCalls {o h i xs x l l' g g'}:Hd ts h->hI c h=i->rf ts xs->j8 c xs x->fX l->pL c l=l'->bG g->At c g g'->(x=none\/g'=none/\i≠none/\pL c l.tail=[]/\l≠[])->uz c ts (.sCalls o h xs l g) (.sCalls o i x l' g')
 |branch {o h i slot}:Hd ts h->h.cond≠ff->hI c h=i->uz c ts (.branch o h slot) (.branch o i slot)
 |elses {o xs x l l' out out'}:rf ts xs->j8 c xs x->fX l->pL c l=l'->bG out->At c out out'->(x=none\/out'=none)->uz c ts (.elses o xs l out) (.elses o x l' out')
 |ifs {o ys y l l' out out'}:rf ts ys->j8 c ys y->fX l->pL c l=l'->bG out->At c out out'->(y=none\/out'=none)->uz c ts (.ifs o ys l out) (.ifs o y l' out')
end
open Dg
section
variable {c:cg} {ts:List Tok}
theorem RR.nil(c:cg):RR c ⟨[],[],[]⟩ triv:=⟨bG.nil,trivial,dB,rfl,rfl,rfl⟩
theorem RR.app{r s:bE}{q u:PR}(h:RR c r q)(k:RR c s u):RR c ⟨s.l,s.f,r.e++s.e⟩ ⟨u.l,u.p,q.e++u.e⟩:=
 ⟨k.fok,k.lok,bP.2 ⟨h.eok,k.eok⟩,k.l,k.f,by rw[bW,h.e,k.e]⟩
theorem fH{h:ay}(k:h.cond.ok 0)(aa:h.cond≠ff):bG (bh h):=⟨fun s hs=>by simp[bh]at hs;subst hs;exact⟨k,aa⟩,by simp[bh]⟩
theorem jD{h:ay}(k:h.cond.ok 0)(aa:h.cond≠ff):bG (bA h):=⟨fun s hs=>by simp[bA]at hs;subst hs;exact⟨k,aa⟩,by simp[bA]⟩
theorem fO(c:cg)(h:ay):At c (bh h) ((hI c h).map (·+1)):=by
 unfold bh hI At;rw[dG];cases h.cond.at' c<;>rfl
theorem jJ(c:cg)(h:ay):At c (bA h) (hI c h):=by
 unfold bA hI At;rw[dG];cases h.cond.at' c<;>rfl
theorem j8.cons{h:ay}{hs:List ay}{p:Option Nat}(hk:j8 c (h::hs) p):(h.cond.at' c=true/\p=some h.at'/\j8 c hs none)\/(h.cond.at' c=false/\j8 c hs p):=by
 unfold j8 at *;rw[iW]at hk;cases hc:h.cond.at' c with
 |false=>rw[hc]at hk;exact .inr ⟨rfl,hk⟩
 |true=>
  rw[hc]at hk;cases p with
  |none=>simp at hk
  |some i=>
   simp only[R9,Option.toList,TX]at hk;exact .inl ⟨rfl,by rw[hk.1],hk.2⟩
theorem At.cons{s:Nat×T}{f:ah}{p:Option Nat}(hk:At c (s::f) p):(s.2.at' c=true/\p=some s.1/\At c f none)\/(s.2.at' c=false/\At c f p):=by
 unfold At at *;rw[dG]at hk;cases hc:s.2.at' c with
 |false=>rw[hc]at hk;exact .inr ⟨rfl,hk⟩
 |true=>
  rw[hc]at hk;cases p with
  |none=>simp at hk
  |some i=>
   simp only[R9,Option.toList,TX]at hk;exact .inl ⟨rfl,by rw[hk.1],hk.2⟩
theorem bG.tail{s:Nat×T}{f:ah}(h:bG (s::f)):bG f:=⟨fun t ht=>h.1 t (.tail _ ht),(List.pairwise_cons.1 h.2).2⟩
theorem bG.head{s:Nat×T}{f:ah}(h:bG (s::f)):bG [s]:=⟨fun t ht=>by simp at ht;subst ht;exact h.1 _ (.head _),by simp⟩
theorem rf.hd{h:ay}{hs:List ay}(k:rf ts (h::hs)):Hd ts h/\h.cond≠ff:=by
 exact k.1 h (.head _)
theorem Hd.text{h:ay}(k:Hd ts h):h.text=X ts h.at':=by rw[k.2.1]
theorem Hd.kind{h:ay}(k:Hd ts h):h.kind=K ts h.at':=by rw[k.2.1]
theorem nn{l:List Nd}{g:Nd->Option Nd}(h:fX l)(hg:∀n m,No n->g n=some m->No m):fX (l.filterMap g):=by
 rw[fD]at *;intro m hm;obtain⟨n,hn,e⟩:=List.mem_filterMap.1 hm;exact hg n m (h n hn) e
theorem Gy{l:List Nd}{d:T}(hd:d.ok 0)(h:fX l):fX (eF l d):=nn h fun n m hn e=>by
 split at e
 ·cases e
 ·cases e
  rw[eC]at hn |-;exact⟨T.and_ok hn.1 hd,hn.2⟩
theorem DB{l:List Nd}{d:T}(hd:d.ok 0)(h:fX l):fX (cM l d):=nn h fun n m hn e=>by
 split at e
 ·cases e
 ·cases e
  rw[eC]at hn |-;exact⟨T.and_ok hn.1 (T.not_ok hd),hn.2⟩
theorem FG(c:cg){l:List Nd}{d:T}(hd:d.ok 0)(h:fX l):pL c (eF l d)=if d.at' c then ow (pL c l)else []:=by
 induction l with
 |nil=>simp[eF,pL,ow]
 |cons n l ih=>
  have hn:=(eC.1 h.1).1;have ih:=ih h.2;have ha:=T.and_at hn hd c;unfold eF at ih |-;rw[List.filterMap_cons];split
  ·rename_i e;split at e
   ·rename_i e2;rw[ih,bV];rw[e2]at ha;cases aa:d.at' c
    ·rfl
    ·rw[aa,TR]at ha;have:n.cond.at' c=false:=ha.symm;simp[this]
   ·cases e
  ·rename_i m e;split at e
   ·cases e
   ·cases e
    rw[bV,ih,bV];simp only[ha];cases n.cond.at' c<;>cases d.at' c<;>simp[ow]
theorem vD(c:cg){l:List Nd}{d:T}(hd:d.ok 0)(h:fX l):pL c (cM l d)=if d.at' c then []else pL c l:=by
 induction l with
 |nil=>simp[cM,pL]
 |cons n l ih=>
  have hn:=(eC.1 h.1).1;have ih:=ih h.2;have ha:=T.and_at hn (T.not_ok hd) c;rw[T.not_at]at ha;unfold cM at ih |-;rw[List.filterMap_cons];split
  ·rename_i e;split at e
   ·rename_i e2;rw[ih,bV];rw[e2]at ha;cases aa:d.at' c
    ·rw[aa,T7,TR]at ha;have:n.cond.at' c=false:=ha.symm;simp[this]
    ·rfl
   ·cases e
  ·rename_i m e;split at e
   ·cases e
   ·cases e
    rw[bV,ih,bV];simp only[ha];cases n.cond.at' c<;>cases d.at' c<;>simp
theorem BM{l:List Nd}{d:T}(hd:d.ok 0)(h:fX l):fX (iA l d):=by
 cases l with
 |nil=>exact h
 |cons n l=>
  refine⟨?_,h.2⟩;have:=eC.1 h.1;exact eC.2 ⟨T.and_ok this.1 (T.not_ok hd),this.2⟩
theorem rO(c:cg){l:List Nd}{d:T}(hd:d.ok 0)(h:fX l):pL c (iA l d)=if d.at' c then pL c l.tail else pL c l:=by
 cases l with
 |nil=>simp[iA,pL]
 |cons n l=>
  have hn:=(eC.1 h.1).1;have ha:=T.and_at hn (T.not_ok hd) c;rw[T.not_at]at ha;simp only[iA,T8];rw[bV,bV];simp only[ha];cases n.cond.at' c<;>cases d.at' c<;>simp
theorem vz(l:List Nd)(d:T):(iA l d).tail=l.tail:=by cases l<;>rfl
theorem fy{n:Nd}(h1:n.cond.ok 0)(h2:fX n.kids):fX [n]:=⟨eC.2 ⟨h1,h2⟩,trivial⟩
theorem eJ(c:cg)(n:Nd):pL c [n]=if n.cond.at' c then [{ n with kids:=pL c n.kids,cond:=tt }]else []:=by rw[bV];rfl
theorem iT(aj:bu ts){f:ah}(hf:bG f){p:Option Nat}(hp:At c f p){g:ay->Option bE}{r:bE}(e:bY ts f g=some r){P:Nat->PR->Prop}
  (hg:∀h x,Hd ts h->h.cond≠ff->g h=some x->if h.cond.at' c then ∃q,P h.at' q/\RR c x q else RR c x triv) :
  match p.map (nx c ts)with
  |none=>RR c r triv
  |some i=>∃q,P i q/\RR c r q:=by
 have hh:=ko aj hf;have ha:=j8.of aj hf hp;unfold bY at e;generalize bk ts f=hs at hh ha e;generalize p.map (nx c ts)=o at ha;have key:∀(hs:List ay) (z:bE) (o:Option Nat) (u:PR),rf ts hs->j8 c hs o->RR c z u->(o=none\/u=triv)->jr (fun r h=>match g h with|some x=>if (r.l++x.l).length<=aF then some ⟨r.l++x.l,joinAll r.f x.f,r.e++x.e⟩else none|none=>none) z hs=some r->
   match o with
   |none=>RR c r u
   |some i=>∃q,P i q/\RR c r q:=by
  intro hs
  induction hs with
  |nil=>
   intro z o u hh ha hz ho e;simp only[jr,Sc]at e;subst e;cases o with
   |none=>exact hz
   |some i=>simp[j8,nF]at ha
  |cons h hs ih=>
   intro z o u hh ha hz ho e;obtain⟨hd,ak⟩:=hh.hd;simp only[jr]at e;cases aa:g h with
   |none=>rw[aa]at e;cases e
   |some x=>
    rw[aa]at e;simp only at e;split at e
    case h_2=>cases e
    rename_i b hb;split at hb
    case isFalse=>cases hb
    cases hb
    have hx:=hg h x hd ak aa;rcases ha.cons with ⟨hc,rfl,ac⟩|⟨hc,ac⟩
    ·rw[hc,SI rfl]at hx;obtain⟨q,hq,hr⟩:=hx;have hu:u=triv:=by rcases ho with ho|ho;cases ho;exact ho
     subst hu;refine⟨q,hq,?_⟩;have:=ih none q hh.tail ac (z:=⟨z.l++x.l,joinAll z.f x.f,z.e++x.e⟩) ?_ (.inl rfl) e
     ·exact this
     ·refine⟨cZ (fun s hs=>(hr.fok.1 s hs).1) hz.fok,fV.2 ⟨hz.lok,hr.lok⟩,bP.2 ⟨hz.eok,hr.eok⟩,?_,?_,?_⟩
      ·rw[dO,hz.l,hr.l];rfl
      ·have:=At.joinAll hz.fok hr.fok hz.f hr.f (.inl rfl);exact this
      ·rw[bW,hz.e,hr.e];rfl
    ·rw[hc]at hx;simp only[Tp,Si]at hx;refine ih o u hh.tail ac (z:=⟨z.l++x.l,joinAll z.f x.f,z.e++x.e⟩) ?_ ho e;refine⟨cZ (fun s hs=>(hx.fok.1 s hs).1) hz.fok,fV.2 ⟨hz.lok,hx.lok⟩,bP.2 ⟨hz.eok,hx.eok⟩,?_,?_,?_⟩
     ·rw[dO,hz.l,hx.l];simp[triv]
     ·have:=At.joinAll hz.fok hx.fok hz.f hx.f (.inr rfl);simpa[triv]using this
     ·rw[bW,hz.e,hx.e];simp[triv]
 have:=key hs _ o triv hh ha (RR.nil c) (.inr rfl) e;exact this
end
open Dg
theorem AY{f:ah}(hs:f.Pairwise (fun s t=>s.1<t.1)){N:Nat}(h:∀s∈f,s.1<=N):f.length<=N+1:=by
 have key:∀(f:ah) (b:Nat),f.Pairwise (fun s t=>s.1<t.1)->(∀s∈f,s.1<=N)->(∀s∈f,b<=s.1)->f.length+b<=N+1\/f=[]:=by
  intro f
  induction f with
  |nil=>intro b _ _ _;exact .inr rfl
  |cons s f ih=>
   intro b h1 h2 h3;rw[Sv]at h1
   left
   have hb:=h3 s (.head _);have hN:=h2 s (.head _);rcases ih (s.1+1) h1.2 (fun t ht=>h2 t (.tail _ ht)) (fun t ht=>h1.1 t ht)with h|h
   ·simp only[SB];omega
   ·subst h;simp only[SB,S9];omega
 rcases key f 0 hs h (fun _ _=>S6 _)with h|h
 ·omega
 ·subst h;simp
structure FN(N:Nat)(f:ah):Prop where
 ok:bG f
 le:∀s∈f,s.1<=N
theorem FN.len{N:Nat}{f:ah}(h:FN N f):f.length<=N+1:=AY h.ok.2 h.le
theorem FN.join{N:Nat}{f:ah}(h:FN N f){a:Nat}{d:T}(ha:a<=N)(hd:d.ok 0):FN N (Syn.join f a d):=
 ⟨de h.ok hd,fun s hs=>(Hc hs).elim (fun e=>by omega) (fun⟨t,ht,e⟩=>by have:=h.le t ht;omega)⟩
theorem FN.nil(N:Nat):FN N []:=⟨bG.nil,fun s h=>(SW h).elim⟩
theorem FN.joinAll{N:Nat}{g:ah}:∀{f:ah},FN N f->FN N g->FN N (Syn.joinAll f g):=by
 induction g with
 |nil=>intro f h _;exact h
 |cons s g ih=>
  intro f h hg;exact ih (h.join (hg.le s (.head _)) (hg.ok.1 s (.head _)).1) ⟨hg.ok.tail,fun t ht=>hg.le t (.tail _ ht)⟩
def Ch(ts:List Tok)(f:ah)(i:Nat):ah:=(f.take i).foldl (fun at' s=>dE at' (ts.drop s.1) s.1 s.2) []
theorem yR{ts:List Tok}{f:ah}{i:Nat}{s:Nat×T}(hs:f[i]?=some s):Ch ts f (i+1)=dE (Ch ts f i) (ts.drop s.1) s.1 s.2:=by
 have aa:i<f.length:=by
  rcases Sw i f.length with h|h
  ·exact h
  ·rw[SF h]at hs;cases hs
 unfold Ch;rw[S7 aa];rw[SC aa]at hs;rw[Tk hs,T9];rfl
theorem tJ{N:Nat}:∀{l:List Tok} {a:ah} {i:Nat} {d:T},FN N a->bu l->d.ok 0->i+l.length=N->FN N (dE a l i d)
 | [],a,i,d,ha,hl,hd,h=>ha.join (by simp at h;omega) hd
 |t::l,a,i,d,ha,hl,hd,h=>by
  simp only[dE];split
  ·exact ha
  ·have ht:=hl t (.head _);simp only[SB]at h;exact tJ (ha.join Vi (T.and_ok hd ht)) (fun x hx=>hl x (.tail _ hx)) (T.and_ok hd (T.not_ok ht)) Vi
theorem Ao{ts:List Tok}{f:ah}(aa:bu ts)(hf:FN ts.length f):∀i,i<=f.length->FN ts.length (Ch ts f i)
 |0,_=>FN.nil _
 |i+1,hi=>by
  obtain⟨s,hs⟩:∃s,f[i]?=some s:=⟨_,SC hi⟩;have hm:=Tg hs;rw[yR hs];exact tJ (Ao aa hf i Vi) (aa.drop _) (hf.ok.1 s hm).1 (by have:=hf.le s hm;simp;omega)
theorem cE{α β:Type}{g:α->β->α}{z:α}{l:List β}{i:Nat}{x:β}(h:l[i]?=some x):(l.take (i+1)).foldl g z=g ((l.take i).foldl g z) x:=by
 have aa:i<l.length:=by
  rcases Sw i l.length with h'|h'
  ·exact h'
  ·rw[SF h']at h;cases h
 rw[S7 aa];rw[SC aa]at h;rw[Tk h,T9];rfl
theorem vL{α β:Type}{g:α->β->α}(μ:α->Nat)(h:∀z x,μ z<=μ (g z x)):∀(l:List β) (z:α),μ z<=μ (l.foldl g z)
 | [],z=>R7 _
 |x::l,z=>R8 (h z x) (vL μ h l (g z x))
theorem kK{α β:Type}{g:α->β->α}(μ:α->Nat)(h:∀z x,μ z<=μ (g z x))(l:List β)(i:Nat)(z:α):μ ((l.take i).foldl g z)<=μ (l.foldl g z):=by
 have:=vL μ h (l.drop i) ((l.take i).foldl g z)
 rwa [<-T9,TL]at this
theorem jv{α β:Type}{g:α->β->α}(Q:α->Prop):∀{l:List β} {z:α},Q z->(∀z x,x∈l->Q z->Q (g z x))->Q (l.foldl g z)
 | [],z,h,_=>h
 |x::l,z,h,k=>jv Q (l:=l) (k z x (List.mem_cons_self ..) h) fun z y hy=>k z y (List.mem_cons_of_mem _ hy)
theorem zE{ts:List Tok}{f:ah}(aa:bu ts)(fn:FN ts.length f):FN ts.length (dm ts f):=by
 have h1:=Ao aa fn f.length (R7 _);unfold Ch at h1
 rwa [Td]at h1
theorem dZ{ts:List Tok}{f:ah}(aa:bu ts)(fn:FN ts.length f):(bk ts f).length<=ts.length+1:=by
 rw[jk aa fn.ok,Sz];exact(zE aa fn).len
structure iH(ts:List Tok)(h:ay):Prop where
 le:h.at'<=ts.length
 ok:h.cond.ok 0
 ne:h.cond≠ff
 eq:h=cL ts (h.at',h.cond)
theorem bz{ts:List Tok}{f:ah}(aa:bu ts)(fn:FN ts.length f){h:ay}(hh:h∈bk ts f):iH ts h:=by
 rw[jk aa fn.ok]at hh;obtain⟨s,hs,rfl⟩:=List.mem_map.1 hh;have k:=zE aa fn;refine⟨by rw[ik];exact k.le s hs,by rw[gN];exact(k.ok.1 s hs).1,by rw[gN];exact(k.ok.1 s hs).2,?_⟩;rw[ik,gN]
theorem iH.lt{ts:List Tok}{h:ay}(k:iH ts h)(aa:h.text≠[]\/h.kind≠0):h.at'<ts.length:=by
 rcases Sw h.at' ts.length with h1|h1
 ·exact h1
 ·have e:=k.eq;unfold cL at e;rw[SF h1]at e;simp only at e;rw[e]at aa;simp at aa
def eV(s:bM)(r:ah×List bX)(h:ay):ah×List bX:=if h.text=s then (Syn.join r.1 (h.at'+1) h.cond,r.2)else (r.1,r.2++bR h 10)
theorem pV(ts:List Tok)(f:ah)(s:bM):Syn.take ts f s=(bk ts f).foldl (eV s) ([],[]):=rfl
theorem zC{ts:List Tok}{s:bM}(hs:s≠[]){hl:List ay}(hh:∀h∈hl,iH ts h):FN ts.length (hl.foldl (eV s) ([],[])).1:=
 jv (fun(r:ah×List bX)=>FN ts.length r.1) (FN.nil _) fun r h hm k=>by
  unfold eV;split
  ·rename_i e;have:=(hh h hm).lt (.inl (by rw[e];exact hs));exact k.join Vi (hh h hm).ok
  ·exact k
def dX(is:ay->Bool)(r:List ay×ah)(h:ay):List ay×ah:=if is h then (r.1++[h],r.2)else (r.1,Syn.join r.2 h.at' h.cond)
theorem tX(ts:List Tok)(f:ah)(is:ay->Bool):aC ts f is=(bk ts f).foldl (dX is) ([],[]):=rfl
theorem vP{ts:List Tok}{is:ay->Bool}{hl:List ay}(hh:∀h∈hl,iH ts h):FN ts.length (hl.foldl (dX is) ([],[])).2:=
 jv (fun(r:List ay×ah)=>FN ts.length r.2) (FN.nil _) fun r h hm k=>by
  unfold dX;split
  ·exact k
  ·exact k.join (hh h hm).le (hh h hm).ok
theorem tq{is:ay->Bool}:∀(hl:List ay) (z:List ay×ah),(hl.foldl (dX is) z).1.length<=z.1.length+hl.length
 | [],z=>R7 _
 |h::hl,z=>by
  have:=tq (is:=is) hl (dX is z h);have h2:(dX is z h).1.length<=z.1.length+1:=by unfold dX;split<;>simp
  simp only[Sj,SB];omega
def bN(kind slot:Nat)(r:bE)(h:ay):bE:=
 if h.kind≠1\/dz h.text=true then { r with e:=r.e++bR h 10 } else ⟨r.l++[⟨kind,h.text,h.at',slot,[],h.cond⟩],Syn.join r.f (h.at'+1) h.cond,r.e⟩
theorem jn(ts:List Tok)(f:ah)(kind slot:Nat):named ts f kind slot=(bk ts f).foldl (bN kind slot) ⟨[],[],[]⟩:=rfl
theorem vV{ts:List Tok}{kind slot:Nat}{hl:List ay}(hh:∀h∈hl,iH ts h):FN ts.length (hl.foldl (bN kind slot) ⟨[],[],[]⟩).f:=
 jv (fun(r:bE)=>FN ts.length r.f) (FN.nil _) fun r h hm k=>by
  unfold bN;split
  ·exact k
  ·rename_i hk;have:h.kind=1:=by
    by_cases e:h.kind=1
    ·exact e
    ·exact absurd (.inl e) hk
   have:=(hh h hm).lt (.inr Vi);exact k.join Vi (hh h hm).ok
theorem nB{kind slot:Nat}:∀(hl:List ay) (z:bE),(hl.foldl (bN kind slot) z).l.length<=z.l.length+hl.length
 | [],z=>R7 _
 |h::hl,z=>by
  have:=nB (kind:=kind) (slot:=slot) hl (bN kind slot z h);have h2:(bN kind slot z h).l.length<=z.l.length+1:=by unfold bN;split<;>simp
  simp only[Sj,SB];omega
def bL(slot:Nat)(r:bE)(h:ay):bE:=
 if h.text≠AI/\h.text≠sB then { r with e:=r.e++bR h 10 } else ⟨r.l++[⟨5,h.text,h.at',slot,[],h.cond⟩],Syn.join r.f (h.at'+1) h.cond,r.e⟩
theorem kJ(ts:List Tok)(f:ah)(slot:Nat):typed ts f slot=(bk ts f).foldl (bL slot) ⟨[],[],[]⟩:=rfl
theorem vA{ts:List Tok}{slot:Nat}{hl:List ay}(hh:∀h∈hl,iH ts h):FN ts.length (hl.foldl (bL slot) ⟨[],[],[]⟩).f:=
 jv (fun(r:bE)=>FN ts.length r.f) (FN.nil _) fun r h hm k=>by
  unfold bL;split
  ·exact k
  ·rename_i hk;have:h.text≠[]:=fun e=>hk (by rw[e];decide);have:=(hh h hm).lt (.inl this);exact k.join Vi (hh h hm).ok
theorem nD{slot:Nat}:∀(hl:List ay) (z:bE),(hl.foldl (bL slot) z).l.length<=z.l.length+hl.length
 | [],z=>R7 _
 |h::hl,z=>by
  have:=nD (slot:=slot) hl (bL slot z h);have h2:(bL slot z h).l.length<=z.l.length+1:=by unfold bL;split<;>simp
  simp only[Sj,SB];omega
section
variable {ts:List Tok} {f:ah}
theorem fL(aa:bu ts)(fn:FN ts.length f)(kind slot:Nat):FN ts.length (named ts f kind slot).f:=by
 rw[jn];exact vV fun h hh=>bz aa fn hh
theorem iU(aa:bu ts)(fn:FN ts.length f)(kind slot:Nat):(named ts f kind slot).l.length<=ts.length+1:=by
 rw[jn];have:=nB (kind:=kind) (slot:=slot) (bk ts f) ⟨[],[],[]⟩;have h2:=dZ aa fn;simp only[S9]at this;omega
theorem oS(aa:bu ts)(fn:FN ts.length f)(slot:Nat):FN ts.length (typed ts f slot).f:=by
 rw[kJ];exact vA fun h hh=>bz aa fn hh
theorem Dm(aa:bu ts)(fn:FN ts.length f)(slot:Nat):(typed ts f slot).l.length<=ts.length+1:=by
 rw[kJ];have:=nD (slot:=slot) (bk ts f) ⟨[],[],[]⟩;have h2:=dZ aa fn;simp only[S9]at this;omega
theorem cN(aa:bu ts)(fn:FN ts.length f){s:bM}(hs:s≠[]):FN ts.length (Syn.take ts f s).1:=by
 rw[pV];exact zC hs fun h hh=>bz aa fn hh
theorem cI(aa:bu ts)(fn:FN ts.length f)(is:ay->Bool):FN ts.length (aC ts f is).2:=by
 rw[tX];exact vP fun h hh=>bz aa fn hh
theorem dH(aa:bu ts)(fn:FN ts.length f){is:ay->Bool}:∀h∈(aC ts f is).1,iH ts h/\is h=true:=by
 intro h hh;rw[kR]at hh;obtain⟨h1,h2⟩:=List.mem_filter.1 hh;exact⟨bz aa fn h1,h2⟩
theorem eR(aa:bu ts)(fn:FN ts.length f)(is:ay->Bool):(aC ts f is).1.length<=ts.length+1:=by
 rw[kR];exact R8 (List.length_filter_le _ _) (dZ aa fn)
theorem jp{hs:List ay}(hh:∀h∈hs,iH ts h)(fn:FN ts.length f):FN ts.length (hs.foldl joinH f):=
 jv (fun(r:ah)=>FN ts.length r) fn fun r h hm k=>k.join (hh h hm).le (hh h hm).ok
theorem kg{hs:List ay}(hh:∀h∈hs,iH ts h/\h.at'<ts.length)(fn:FN ts.length f):FN ts.length (hs.foldl joinH1 f):=
 jv (fun(r:ah)=>FN ts.length r) fn fun r h hm k=>k.join (hh h hm).2 (hh h hm).1.ok
theorem mN {s : bM} (hs : s ≠ []) {h : ay} (k : iH ts h) (e : bj s h = true) : h.at' < ts.length :=
  k.lt (.inl (by have : h.text = s := by simpa [bj] using e
                 rw [this]; exact hs))
theorem bm{h:ay}(k:iH ts h)(hl:h.at'<ts.length):FN ts.length (bh h):=
 ⟨⟨fun s hs=>by simp[bh]at hs;subst hs;exact⟨k.ok,k.ne⟩,by simp[bh]⟩,fun s hs=>by simp[bh]at hs;subst hs;exact hl⟩
theorem gB{h:ay}(k:iH ts h):FN ts.length (bA h):=
 ⟨⟨fun s hs=>by simp[bA]at hs;subst hs;exact⟨k.ok,k.ne⟩,by simp[bA]⟩,fun s hs=>by simp[bA]at hs;subst hs;exact k.le⟩
end
end Syn
