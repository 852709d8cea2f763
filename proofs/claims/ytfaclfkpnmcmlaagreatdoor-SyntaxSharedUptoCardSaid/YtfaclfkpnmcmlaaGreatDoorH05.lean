import Derived.Test.YtfaclfkpnmcmlaaGreatDoorH04
set_option maxHeartbeats 8000000
set_option linter.all false
namespace Syn
open Dg
theorem BL(c:bP):(ff:T).at' c=false:=rfl
def cq(f:ar):Prop:=(∀s∈f,s.2.ok 0/\s.2≠ff)/\f.Pairwise (fun s t=>s.1<t.1)
def bT(ts:List Tok):Prop:=∀t∈ts,t.cond.ok 0
variable{d:T}{a:Nat}
def GP{f:ar}:∀{s},s∈vL f a d->s.1=a\/∃t∈f,t.1=s.1:=by
 induction f with
 |nil=>intro s h;simp[vL]at h;exact .inl (by rw[h])
 |cons x f ih=>
  obtain⟨b,e⟩:=x;intro s h;simp only[vL]at h;split at h
  ·rcases List.mem_cons.1 h with rfl|h
   ·exact .inr ⟨_,.head _,rfl⟩
   ·rcases ih h with h|⟨t,ht,e⟩
    ·exact .inl h
    ·exact .inr ⟨t,.tail _ ht,e⟩
  ·split at h
   ·rcases List.mem_cons.1 h with rfl|h
    ·exact .inr ⟨_,.head _,rfl⟩
    ·exact .inr ⟨s,.tail _ h,rfl⟩
   ·rcases List.mem_cons.1 h with rfl|h
    ·exact .inl rfl
    ·exact .inr ⟨s,h,rfl⟩
def Vp{a b:T}(ha:a.ok 0)(hb:b.ok 0)(h:b≠ff):a.or b≠ff:=by
 obtain⟨c,hc⟩:=T.some_of_ne hb h;intro e;have:=T.or_at ha hb c;rw[e,hc]at this;simp[T.at']at this
def R6{f:ar}(h:cq f)(hd:d.ok 0)(aa:d≠ff):cq (vL f a d):=by
 induction f with
 |nil=>exact⟨fun s hs=>by simp[vL]at hs;subst hs;exact⟨hd,aa⟩,by simp[vL]⟩
 |cons x f ih=>
  obtain⟨b,e⟩:=x;obtain⟨h1,h2⟩:=h;rw[aae]at h2;have hx:=h1 _ (.head _);have hf:cq f:=⟨fun s hs=>h1 s (.tail _ hs),h2.2⟩;simp only[vL];split
  ·rename_i ac;have:=ih hf;refine⟨fun s hs=>?_,List.pairwise_cons.2 ⟨fun s hs=>?_,this.2⟩⟩
   ·rcases List.mem_cons.1 hs with rfl|hs
    ·exact hx
    ·exact this.1 s hs
   ·rcases GP hs with he|⟨t,ht,he⟩
    ·show b<s.1;omega
    ·have:=h2.1 t ht;show b<s.1;simp only at this;omega
  ·split
   ·refine⟨fun s hs=>?_,List.pairwise_cons.2 ⟨fun s hs=>h2.1 s hs,h2.2⟩⟩;rcases List.mem_cons.1 hs with rfl|hs
    ·exact⟨T.or_ok hx.1 hd,Vp hx.1 hd aa⟩
    ·exact h1 s (.tail _ hs)
   ·refine⟨fun s hs=>?_,List.pairwise_cons.2 ⟨fun s hs=>?_,List.pairwise_cons.2 h2⟩⟩
    ·rcases List.mem_cons.1 hs with rfl|hs
     ·exact⟨hd,aa⟩
     ·exact h1 s hs
    ·rcases List.mem_cons.1 hs with rfl|hs
     ·show a<b;omega
     ·have:=h2.1 s hs;show a<s.1;simp only at this;omega
def eu{f:ar}(h:cq f)(hd:d.ok 0):cq (join f a d):=by
 unfold join;split
 ·exact h
 ·exact R6 h hd (by assumption)
def Lp{f:ar}{s}(h:s∈join f a d):s.1=a\/∃t∈f,t.1=s.1:=by
 unfold join at h;split at h
 ·exact .inr ⟨s,h,rfl⟩
 ·exact GP h
def cq.nil:cq []:=⟨fun s h=>(aaB h).elim,List.Pairwise.nil⟩
def dY{g:ar}(hg:∀s∈g,s.2.ok 0):∀{f:ar},cq f->cq (joinAll f g):=by
 induction g with
 |nil=>intro f h;exact h
 |cons s g ih=>intro f h;exact ih (fun t ht=>hg t (.tail _ ht)) (eu h (hg s (.head _)))
def eS(c:bP)(f:ar):List Nat:=(f.filter fun s=>s.2.at' c).map (·.1)
def At(c:bP)(f:ar)(p:Option Nat):Prop:=eS c f=p.toList
theorem At.nil(c:bP):At c [] none:=rfl
theorem At.one(c:bP)(a:Nat)(d:T):At c [(a,d)] (if d.at' c then some a else none):=by
 unfold At eS;cases h:d.at' c<;>simp[h]
def ou(l:List Nat)(a:Nat):List Nat:=match l with
 | []=>[a]
 |b::l=>if b<a then b::ou l a else if b=a then b::l else a::b::l
def fd(c:bP)(s:Nat×T)(f:ar):eS c (s::f)=if s.2.at' c then s.1::eS c f else eS c f:=by
 unfold eS;cases h:s.2.at' c<;>simp[h]
def Po{c:bP}{f:ar}{b:Nat}(h:∀s∈f,b<s.1):∀p∈eS c f,b<p:=by
 intro p hp;unfold eS at hp;simp only[aaE,aaD]at hp;obtain⟨s,⟨hs,_⟩,rfl⟩:=hp;exact h s hs
def wS{l:List Nat}(h:∀p∈l,a<p):ou l a=a::l:=by
 cases l with
 |nil=>rfl
 |cons b l=>have:=h b (.head _);simp only[ou];rw[ZV ab,ZV ab]
def Ml(c:bP){f:ar}(h:cq f)(hd:d.ok 0):eS c (vL f a d)=if d.at' c then ou (eS c f) a else eS c f:=by
 induction f with
 |nil=>simp only[vL];rw[fd];rfl
 |cons x f ih=>
  obtain⟨b,e⟩:=x;obtain⟨h1,h2⟩:=h;rw[aae]at h2;have hx:=h1 _ (.head _);have hf:cq f:=⟨fun s hs=>h1 s (.tail _ hs),h2.2⟩;have aa:∀p∈eS c f,b<p:=Po h2.1;simp only[vL];split
  ·rename_i ac;rw[fd,fd,ih hf];simp only;cases he:e.at' c<;>cases hc:d.at' c<;>simp[ou,ac]
  ·split
   ·rename_i _ aj;subst aj;rw[fd,fd];simp only[T.or_at hx.1 hd];cases he:e.at' c<;>cases hc:d.at' c<;>simp[ou,wS aa]
   ·rename_i h3 h4;rw[fd,fd];simp only;have:∀p∈eS c f,a<p:=fun p hp=>by have:=aa p hp;omega
    cases he:e.at' c<;>cases hc:d.at' c<;>simp[ou,wS this,h3,h4]
def fL(c:bP){f:ar}(h:cq f)(hd:d.ok 0):eS c (join f a d)=if d.at' c then ou (eS c f) a else eS c f:=by
 unfold join;split
 ·rename_i e;subst e;simp[T.at']
 ·exact Ml c h hd
def AE(c:bP){g:ar}(hg:∀s∈g,s.2.ok 0):∀{f:ar},cq f->eS c (joinAll f g)=(eS c g).foldl ou (eS c f):=by
 induction g with
 |nil=>intro f h;rfl
 |cons s g ih=>
  intro f h;show eS c (joinAll (join f s.1 s.2) g)=_;have hs:=hg s (.head _);rw[ih (fun t ht=>hg t (.tail _ ht)) (eu h hs),fL c h hs,fd];cases hc:s.2.at' c<;>simp
theorem At.joinAll{c:bP}{f g:ar}{p q:Option Nat}(hf:cq f)(hg:cq g)(h1:At c f p)(h2:At c g q)(h:p=none\/q=none):At c (joinAll f g) (p.or q):=by
 unfold At at *;rw[AE c (fun s hs=>(hg.1 s hs).1) hf,h1,h2];rcases h with rfl|rfl
 ·cases q<;>rfl
 ·cases p<;>rfl
theorem At.join{c:bP}{f:ar}{p:Option Nat}(hf:cq f)(h1:At c f p)(hd:d.ok 0)(h:d.at' c=true->p=none):At c (join f a d) (if d.at' c then some a else p):=by
 unfold At at *;rw[fL c hf hd,h1];cases hc:d.at' c
 ·rfl
 ·rw[h hc];rfl
def lm(c:bP):List Tok->Nat->Nat
 | [],i=>i
 |t::l,i=>if t.cond.at' c then i else lm c l (i+1)
def nx(c:bP)(ts:List Tok)(p:Nat):Nat:=lm c (ts.drop p) p
def zD{l:List Tok}:∀{a:ar} {i:Nat} {d:T},bT l->cq a->d.ok 0->cq (eW a l i d):=by
 induction l with
 |nil=>intro a i d _ ha hd;exact eu ha hd
 |cons t l ih=>
  intro a i d hl ha hd;simp only[eW];split
  ·exact ha
  ·have ht:=hl t (.head _);exact ih (fun x hx=>hl x (.tail _ hx)) (eu ha (T.and_ok hd ht)) (T.and_ok hd (T.not_ok ht))
def HI(c:bP){l:List Tok}:∀{a:ar} {i:Nat} {d:T},bT l->cq a->d.ok 0->eS c (eW a l i d)=if d.at' c then ou (eS c a) (lm c l i)else eS c a:=by
 induction l with
 |nil=>intro a i d _ ha hd;exact fL c ha hd
 |cons t l ih=>
  intro a i d hl ha hd;simp only[eW];split
  ·rename_i e;subst e;simp[T.at']
  ·have ht:=hl t (.head _);rw[ih (fun x hx=>hl x (.tail _ hx)) (eu ha (T.and_ok hd ht)) (T.and_ok hd (T.not_ok ht)),fL c ha (T.and_ok hd ht),T.and_at hd ht,T.and_at hd (T.not_ok ht),T.not_at];simp only[lm];cases d.at' c<;>cases t.cond.at' c<;>simp
def bT.drop{ts:List Tok}(h:bT ts)(n:Nat):bT (ts.drop n):=fun t ht=>h t (List.mem_of_mem_drop ht)
def mO(c:bP){ts:List Tok}(h:bT ts):∀{f:ar} {a:ar},(∀s∈f,s.2.ok 0)->cq a->cq (f.foldl (fun at' s=>eW at' (ts.drop s.1) s.1 s.2) a)/\
  eS c (f.foldl (fun at' s=>eW at' (ts.drop s.1) s.1 s.2) a)=((eS c f).map (nx c ts)).foldl ou (eS c a):=by
 intro f
 induction f with
 |nil=>intro a _ ha;exact⟨ha,rfl⟩
 |cons s f ih=>
  intro a hf ha;have hs:=hf s (.head _);obtain⟨h1,h2⟩:=ih (fun t ht=>hf t (.tail _ ht)) (zD (i:=s.1) (h.drop s.1) ha hs);refine⟨h1,?_⟩;show eS c (f.foldl _ (eW a (ts.drop s.1) s.1 s.2))=_;rw[h2,HI c (h.drop s.1) ha hs,fd];cases s.2.at' c<;>rfl
def tF{ts:List Tok}(h:bT ts){f:ar}(hf:cq f):cq (eK ts f):=(mO (fun _=>false) h (fun s hs=>(hf.1 s hs).1) cq.nil).1
def Bf{c:bP}{ts:List Tok}(h:bT ts){f:ar}(hf:cq f){p:Option Nat}(hp:At c f p):At c (eK ts f) (p.map (nx c ts)):=by
 have:=(mO c h (fun s hs=>(hf.1 s hs).1) cq.nil).2;unfold At at *;show eS c (f.foldl _ [])=_;rw[this,hp];cases p<;>rfl
def lS{ts:List Tok}(h:bT ts){f:ar}(hf:cq f):bE ts f=(eK ts f).map (cQ ts):=by
 unfold bE;rw[List.filter_eq_self.2];intro s hs;simpa using ((tF h hf).1 s hs).2
def jX(ts:List Tok)(s:Nat×T):(cQ ts s).at'=s.1:=by
 unfold cQ;split
 ·split<;>rfl
 ·rfl
def jw(ts:List Tok)(s:Nat×T):(cQ ts s).cond=s.2:=by
 unfold cQ;split
 ·split<;>rfl
 ·rfl
def kz(c:bP):∀(l:List Tok) (i:Nat),i<=lm c l i/\lm c (l.drop (lm c l i-i)) (lm c l i)=lm c l i
 | [],i=>by simp[lm]
 |t::l,i=>by
  cases h:t.cond.at' c with
  |true=>
   have e:lm c (t::l) i=i:=by simp[lm,h]
   rw[e];refine⟨ZR _,?_⟩;rw[Nat.sub_self,aa1,e]
  |false=>
   have e:lm c (t::l) i=lm c l (i+1):=by simp[lm,h]
   obtain⟨a,b⟩:=kz c l (i+1);rw[e];refine⟨ab,?_⟩;have:lm c l (i+1)-i=(lm c l (i+1)-(i+1))+1:=by omega
   rw[this,abx];exact b
def rh(c:bP)(ts:List Tok)(p:Nat):p<=nx c ts p:=(kz c _ p).1
def ce(c:bP)(ts:List Tok)(p:Nat):nx c ts (nx c ts p)=nx c ts p:=by
 have:=(kz c (ts.drop p) p).2;unfold nx;rw[aa3]at this;have h:=rh c ts p;unfold nx at h;rw[show p+(lm c (ts.drop p) p-p)=lm c (ts.drop p) p by omega]at this;exact this
section
variable (ts:List Tok)
def K(i:Nat):Nat:=(cQ ts (i,tt)).kind
def X(i:Nat):bq:=(cQ ts (i,tt)).text
def zY(i:Nat)(d:T):cQ ts (i,d)=⟨i,d,K ts i,X ts i⟩:=by
 unfold K X cQ;cases ts[i]? with
 |none=>rfl
 |some t=>simp only;split<;>rfl
end
def JW{l:List Nat}{a p:Nat}(h:p∈ou l a):p=a\/p∈l:=by
 induction l with
 |nil=>simp[ou]at h;exact .inl h
 |cons b l ih=>
  simp only[ou]at h;split at h
  ·rcases List.mem_cons.1 h with rfl|h
   ·exact .inr (.head _)
   ·rcases ih h with h|h
    ·exact .inl h
    ·exact .inr (.tail _ h)
  ·split at h
   ·exact .inr h
   ·rcases List.mem_cons.1 h with rfl|h
    ·exact .inl rfl
    ·exact .inr h
def Fs{l:List Nat}:∀{a:List Nat} {p:Nat},p∈l.foldl ou a->p∈l\/p∈a:=by
 induction l with
 |nil=>intro a p h;exact .inr h
 |cons x l ih=>
  intro a p h;rcases ih h with h|h
  ·exact .inl (.tail _ h)
  ·rcases JW h with rfl|h
   ·exact .inl (.head _)
   ·exact .inr h
def Hd(ts:List Tok)(h:aB):Prop:=h.cond.ok 0/\h=⟨h.at',h.cond,K ts h.at',X ts h.at'⟩/\∀c,h.cond.at' c=true->nx c ts h.at'=h.at'
def vO(ts:List Tok)(hs:List aB):Prop:=(∀h∈hs,Hd ts h/\h.cond≠ff)/\hs.Pairwise (fun s t=>s.at'<t.at')
def mW{ts:List Tok}(h:bT ts){f:ar}(hf:cq f):vO ts (bE ts f):=by
 rw[lS h hf];have hs:=tF h hf;refine⟨fun x hx=>?_,?_⟩
 ·obtain⟨s,h1,rfl⟩:=List.mem_map.1 hx;rw[Hd,jw,jX];refine⟨⟨(hs.1 s h1).1,zY ts s.1 s.2,fun c hc=>?_⟩,(hs.1 s h1).2⟩;have hm:s.1∈eS c (eK ts f):=List.mem_map.2 ⟨s,List.mem_filter.2 ⟨h1,hc⟩,rfl⟩;have:=(mO c h (fun s hs=>(hf.1 s hs).1) cq.nil).2;unfold eK at hm;rw[this]at hm;rcases Fs hm with hm|hm
  ·obtain⟨p,_,e⟩:=List.mem_map.1 hm;rw[<-e,ce]
  ·cases hm
 ·rw[List.pairwise_map];exact hs.2.imp fun{a b} aa=>by rw[jX,jX];exact aa
def rM(c:bP)(hs:List aB):List Nat:=(hs.filter fun h=>h.cond.at' c).map (·.at')
def ny(c:bP)(hs:List aB)(p:Option Nat):Prop:=rM c hs=p.toList
def Nt(c:bP)(ts:List Tok)(f:ar):rM c (f.map (cQ ts))=eS c f:=by
 induction f with
 |nil=>rfl
 |cons s f ih=>
  unfold rM eS at *;simp only[aaU,aby,jw];cases s.2.at' c
  ·simpa using ih
  ·simp only[ZT,aaU,jX];rw[ih]
def Ld{c:bP}{ts:List Tok}(h:bT ts){f:ar}(hf:cq f){p:Option Nat}(hp:At c f p):ny c (bE ts f) (p.map (nx c ts)):=by
 unfold ny;rw[lS h hf,Nt];exact Bf h hf hp
open Dg
mutual
def pN(c:bP):Nd->Option Nd
 |⟨k,t,o,s,ks,d⟩=>if d.at' c then some ⟨k,t,o,s,pL c ks,tt⟩else none
def pL (c:bP):List Nd->List Nd
 | []=>[]
 |n::l=>match pN c n with
  |some m=>m::pL c l
  |none=>pL c l
end
mutual
def Vr:Nd->Prop
 |⟨_,_,_,_,ks,d⟩=>d.ok 0/\iE ks
def iE:List Nd->Prop
 | []=>True
 |n::l=>Vr n/\iE l
end
def ik{l:List Nd}:iE l<->∀n∈l,Vr n:=by
 induction l with
 |nil=>simp[iE]
 |cons n l ih=>simp[iE,ih]
def fW{n:Nd}:Vr n<->n.cond.ok 0/\iE n.kids:=by cases n;rfl
def iN{a b:List Nd}:iE (a++b)<->iE a/\iE b:=by
 simp only[ik,aaX];exact⟨fun h=>⟨fun n hn=>h n (.inl hn),fun n hn=>h n (.inr hn)⟩,fun h n hn=>hn.elim (h.1 n) (h.2 n)⟩
def VS(c:bP)(n:Nd):pN c n=if n.cond.at' c then some { n with kids:=pL c n.kids,cond:=tt } else none:=by cases n;rfl
def cM(c:bP)(n:Nd)(l:List Nd):pL c (n::l)=if n.cond.at' c then { n with kids:=pL c n.kids,cond:=tt }::pL c l else pL c l:=by
 rw[pL,VS];split<;>rename_i h<;>split at h<;>simp_all
def fq(c:bP)(a b:List Nd):pL c (a++b)=pL c a++pL c b:=by
 induction a with
 |nil=>rfl
 |cons n a ih=>rw[aaz,cM,cM,ih];split<;>rfl
def fU(c:bP)(l ks:List Nd):pL c (give l ks)=give (pL c l) (pL c ks):=by
 induction l with
 |nil=>rfl
 |cons n l ih=>
  have:give (n::l) ks={ n with kids:=n.kids++ks }::give l ks:=rfl;rw[this,cM,cM,ih];cases h:n.cond.at' c
  ·simp
  ·simp[give,fq]
def eD{l ks:List Nd}(h1:iE l)(h2:iE ks):iE (give l ks):=by
 rw[ik]at *;intro n hn;obtain⟨m,hm,rfl⟩:=List.mem_map.1 hn;have:=fW.1 (h1 m hm);exact fW.2 ⟨this.1,iN.2 ⟨this.2,ik.2 h2⟩⟩
def bu{l ks r:List Nd}(h:jb l ks=some r):r=give l ks:=by
 unfold jb at h;split at h
 ·exact(aaZ h).symm
 ·cases h
def qK{l:List Nd}{u:Unit}(h:ck l=some u):l.length<=aN:=by
 unfold ck at h;split at h
 ·assumption
 ·cases h
def pE(c:bP)(e:List cO):List (Nat×Int):=(e.filter fun d=>d.cond.at' c).map fun d=>(d.code,d.tok)
def Ce(e:List cO):Prop:=∀d∈e,d.cond.ok 0
def cR(c:bP)(a b:List cO):pE c (a++b)=pE c a++pE c b:=by simp[pE]
def cI{a b:List cO}:Ce (a++b)<->Ce a/\Ce b:=by
 unfold Ce;simp only[aaX];exact⟨fun h=>⟨fun n hn=>h n (.inl hn),fun n hn=>h n (.inr hn)⟩,fun h n hn=>hn.elim (h.1 n) (h.2 n)⟩
def eU:Ce []:=fun d h=>(aaB h).elim
def lq(c:bP)(h:aB)(code:Nat):pE c (cJ h code)=if h.cond.at' c then [(code,(h.at':Int))]else []:=by
 unfold pE cJ;cases hc:h.cond.at' c<;>simp[T.at',hc]
def sI{h:aB}(hk:h.cond.ok 0)(code:Nat):Ce (cJ h code):=by
 intro d hd;simp[cJ]at hd;rcases hd with rfl|rfl
 ·trivial
 ·exact hk
def lD(c:bP)(h:aB)(hs:List aB):rM c (h::hs)=if h.cond.at' c then h.at'::rM c hs else rM c hs:=by
 unfold rM;cases hc:h.cond.at' c<;>simp[hc]
def AJ{α β:Type}{c:bP}(I:α->Prop)(pr:α->β)(g:α->aB->α):∀{hs:List aB} {z:α} {p:Option Nat},I z->(∀a h,I a->h∈hs->I (g a h))->(∀a h,I a->h∈hs->h.cond.at' c=false->pr (g a h)=pr a)->ny c hs p->
  I (hs.foldl g z)/\match p with
  |none=>pr (hs.foldl g z)=pr z
  |some i=>∃h∈hs,h.at'=i/\h.cond.at' c=true/\∃a,I a/\pr a=pr z/\pr (hs.foldl g z)=pr (g a h):=by
 intro hs
 induction hs with
 |nil=>
  intro z p hz _ _ hp;cases p with
  |none=>exact⟨hz,rfl⟩
  |some i=>simp[ny,rM]at hp
 |cons h hs ih=>
  intro z p hz h1 h2 hp;unfold ny at hp;rw[lD]at hp;have hI:=h1 z h hz (.head _);have aj:∀a x,I a->x∈hs->I (g a x):=fun a x ha hx=>h1 a x ha (.tail _ hx);have ac:∀a x,I a->x∈hs->x.cond.at' c=false->pr (g a x)=pr a:=fun a x ha hx=>h2 a x ha (.tail _ hx);cases hc:h.cond.at' c with
  |false=>
   rw[hc]at hp;obtain⟨a,b⟩:=ih (z:=g z h) (p:=p) hI aj ac hp;refine⟨a,?_⟩;have aa:=h2 z h hz (.head _) hc;cases p with
   |none=>exact b.trans aa
   |some i=>
    obtain⟨x,b1,b2,b3,y,b4,b5,b6⟩:=b;exact⟨x,.tail _ b1,b2,b3,y,b4,b5.trans aa,b6⟩
  |true=>
   rw[hc]at hp;cases p with
   |none=>simp at hp
   |some i=>
    simp only[ZT,Option.toList,abB]at hp;obtain⟨e1,e2⟩:=hp;obtain⟨a,b⟩:=ih (z:=g z h) (p:=none) hI aj ac e2;exact⟨a,h,.head _,e1,hc,z,hz,rfl,b⟩
section
variable (ts:List Tok)
def vO.mem{ts:List Tok}{hs:List aB}(h:vO ts hs){x:aB}(hx:x∈hs):x.cond.ok 0/\x.cond≠ff/\x=⟨x.at',x.cond,K ts x.at',X ts x.at'⟩:=by
 obtain⟨⟨a,e,_⟩,b⟩:=h.1 x hx;exact⟨a,b,e⟩
def aW(c:bP)(p:Option Nat)(s:bq):Option Nat×List (Nat×Int):=
 match p.map (nx c ts)with
 |none=>(none,[])
 |some i=>if X ts i=s then (some (i+1),[])else (none,[(10,(i:Int))])
structure PR where
 l:List Nd
 p:Option Nat
 e:List (Nat×Int)
def aI(c:bP)(p:Option Nat)(kind slot:Nat):PR:=
 match p.map (nx c ts)with
 |none=>⟨[],none,[]⟩
 |some i=>if K ts i≠1\/dG (X ts i)=true then ⟨[],none,[(10,(i:Int))]⟩else ⟨[⟨kind,X ts i,i,slot,[],tt⟩],some (i+1),[]⟩
def bI(c:bP)(p:Option Nat)(slot:Nat):PR:=
 match p.map (nx c ts)with
 |none=>⟨[],none,[]⟩
 |some i=>if X ts i≠vM/\X ts i≠oO then ⟨[],none,[(10,(i:Int))]⟩else ⟨[⟨5,X ts i,i,slot,[],tt⟩],some (i+1),[]⟩
end
structure RR(c:bP)(r:bW)(q:PR):Prop where
 fok:cq r.f
 lok:iE r.l
 eok:Ce r.e
 l:pL c r.l=q.l
 f:At c r.f q.p
 e:pE c r.e=q.e
def ny.of{c:bP}{ts:List Tok}(aa:bT ts){f:ar}(hf:cq f){p:Option Nat}(hp:At c f p):ny c (bE ts f) (p.map (nx c ts)):=Ld aa hf hp
def iL{c:bP}{ts:List Tok}(aa:bT ts){f:ar}(hf:cq f){p:Option Nat}(hp:At c f p)(s:bq):
  cq (take ts f s).1/\Ce (take ts f s).2/\At c (take ts f s).1 (aW ts c p s).1/\pE c (take ts f s).2=(aW ts c p s).2:=by
 have hh:=mW aa hf;have ha:=ny.of aa hf hp;have key:=AJ (c:=c) (fun(a:ar×List cO)=>cq a.1/\Ce a.2) (fun a=>(eS c a.1,pE c a.2)) (fun(x:ar×List cO) h=>match x with|(out,e)=>if h.text=s then (join out (h.at'+1) h.cond,e)else (out,e++cJ h 10)) (hs:=bE ts f) (z:=([],[])) ⟨cq.nil,eU⟩
  (fun a h ia hm=>by
   obtain⟨k1,_,_⟩:=hh.mem hm;simp only;split
   ·exact⟨eu ia.1 k1,ia.2⟩
   ·exact⟨ia.1,cI.2 ⟨ia.2,sI k1 10⟩⟩)
  (fun a h ia hm hc=>by
   obtain⟨k1,_,_⟩:=hh.mem hm;simp only;split
   ·simp only[fL c ia.1 k1,hc,aa5,Z2]
   ·simp only[cR,lq,hc,aa5,Z2,aa6]) ha
 unfold take lg;obtain⟨⟨k1,k2⟩,k3⟩:=key;refine⟨k1,k2,?_⟩;unfold At aW;cases ac:p.map (nx c ts)with
 |none=>
  rw[ac]at k3;simp only[aaI]at k3;exact k3
 |some i=>
  rw[ac]at k3;obtain⟨h,hm,e1,hc,a,ia,e2,e3⟩:=k3;obtain⟨k4,_,k5⟩:=hh.mem hm;subst e1;have hx:h.text=X ts h.at':=by rw[k5]
  simp only[aaI]at e2 e3;have ep:eS c a.1=[]:=e2.1;have ee:pE c a.2=[]:=e2.2;simp only[hx]at e3 |-;split
  ·rename_i hs;rw[aaq hs]at e3;refine⟨?_,?_⟩
   ·rw[e3.1];simp only[fL c ia.1 k4,hc,ZT,ep];rfl
   ·rw[e3.2];exact ee
  ·rename_i hs;rw[ZV hs]at e3;refine⟨?_,?_⟩
   ·rw[e3.1];exact ep
   ·rw[e3.2];simp only[cR,lq,hc,ZT,ee];rfl
def vu(is:aB->Bool):∀(hs:List aB) (z:List aB×ar),hs.foldl (fun(x:List aB×ar) h=>match x with|(yes,no)=>if is h then (yes++[h],no)else (yes,join no h.at' h.cond)) z=(z.1++hs.filter is,(hs.filter fun h=>!is h).foldl joinH z.2)
 | [],z=>by simp
 |h::hs,z=>by
  rw[fu,vu is hs];cases hi:is h<;>simp[hi,joinH]
def oB(ts:List Tok)(f:ar)(is:aB->Bool):aM ts f is=((bE ts f).filter is,((bE ts f).filter fun h=>!is h).foldl joinH []):=by
 unfold aM lg;rw[vu];simp
variable{hs:List aB}
def vO.filter{ts:List Tok}(h:vO ts hs)(is:aB->Bool):vO ts (hs.filter is):=
 ⟨fun x hx=>h.1 x ((List.mem_filter.1 hx).1),h.2.sublist List.filter_sublist⟩
def vO.tail{ts:List Tok}{x:aB}(h:vO ts (x::hs)):vO ts hs:=⟨fun y hy=>h.1 y (.tail _ hy),(List.pairwise_cons.1 h.2).2⟩
def pp(c:bP){is:aB->Bool}{isI:Nat->Bool}:∀{hs:List aB},(∀h∈hs,is h=isI h.at')->rM c (hs.filter is)=(rM c hs).filter isI
 | [],_=>rfl
 |h::hs,hi=>by
  have ih:=pp c (is:=is) (isI:=isI) (hs:=hs) fun x hx=>hi x (.tail _ hx);have h0:=hi h (.head _);rw[aby,lD];cases hc:h.cond.at' c<;>cases hs:is h<;>rw[hs]at h0<;>simp[ih,lD,hc,<-h0]
def f7:∀{f:ar},cq f->(∀h∈hs,h.cond.ok 0)->cq (hs.foldl joinH f):=by
 induction hs with
 |nil=>intro f h _;exact h
 |cons x hs ih=>intro f h hk;exact ih (eu h (hk x (.head _))) fun y hy=>hk y (.tail _ hy)
def pA:∀{f:ar},cq f->(∀h∈hs,h.cond.ok 0)->cq (hs.foldl joinH1 f):=by
 induction hs with
 |nil=>intro f h _;exact h
 |cons x hs ih=>intro f h hk;exact ih (eu h (hk x (.head _))) fun y hy=>hk y (.tail _ hy)
def o7(c:bP):∀{f:ar},cq f->(∀h∈hs,h.cond.ok 0)->eS c (hs.foldl joinH f)=(rM c hs).foldl ou (eS c f):=by
 induction hs with
 |nil=>intro f h _;rfl
 |cons x hs ih=>
  intro f h hk;have hx:=hk x (.head _);rw[fu,ih (show cq (joinH f x) from eu h hx) fun y hy=>hk y (.tail _ hy)];show List.foldl ou (eS c (join f x.at' x.cond)) _=_;rw[fL c h hx,lD];cases x.cond.at' c<;>rfl
def vJ(c:bP):∀{f:ar},cq f->(∀h∈hs,h.cond.ok 0)->eS c (hs.foldl joinH1 f)=((rM c hs).map (·+1)).foldl ou (eS c f):=by
 induction hs with
 |nil=>intro f h _;rfl
 |cons x hs ih=>
  intro f h hk;have hx:=hk x (.head _);rw[fu,ih (show cq (joinH1 f x) from eu h hx) fun y hy=>hk y (.tail _ hy)];show List.foldl ou (eS c (join f (x.at'+1) x.cond)) _=_;rw[fL c h hx,lD];cases x.cond.at' c<;>rfl
variable{q:Option Nat}
theorem At.joinH{c:bP}{f:ar}{p:Option Nat}(hf:cq f)(hk:∀h∈hs,h.cond.ok 0)(h1:At c f p)(h2:ny c hs q)(h:p=none\/q=none):At c (hs.foldl Syn.joinH f) (p.or q):=by
 unfold At ny at *;rw[o7 c hf hk,h1,h2];rcases h with rfl|rfl
 ·cases q<;>rfl
 ·cases p<;>rfl
theorem At.joinH1{c:bP}{f:ar}{p:Option Nat}(hf:cq f)(hk:∀h∈hs,h.cond.ok 0)(h1:At c f p)(h2:ny c hs q)(h:p=none\/q=none):At c (hs.foldl Syn.joinH1 f) (p.or (q.map (·+1))):=by
 unfold At ny at *;rw[vJ c hf hk,h1,h2];rcases h with rfl|rfl
 ·cases q<;>rfl
 ·cases p<;>rfl
def vO.conds{ts:List Tok}(h:vO ts hs):∀x∈hs,x.cond.ok 0:=fun x hx=>(h.1 x hx).1.1
def iY{c:bP}{ts:List Tok}(ac:bT ts){f:ar}(hf:cq f){p:Option Nat}(hp:At c f p){is:aB->Bool}(isI:Nat->Bool)(hi:∀i d,is ⟨i,d,K ts i,X ts i⟩=isI i):
  vO ts (aM ts f is).1/\cq (aM ts f is).2/\ny c (aM ts f is).1 ((p.map (nx c ts)).filter isI)/\At c (aM ts f is).2 ((p.map (nx c ts)).filter fun i=>!isI i):=by
 have hh:=mW ac hf;have ha:=ny.of ac hf hp;have aj:∀h∈bE ts f,is h=isI h.at':=fun h hm=>by
  have:=(hh.mem hm).2.2;rw[this];exact hi _ _
 have aa:∀h∈bE ts f,(!is h)=!isI h.at':=fun h hm=>by rw[aj h hm]
 rw[oB];refine⟨hh.filter _,f7 cq.nil (hh.filter _).conds,?_,?_⟩
 ·unfold ny at *;rw[pp c aj,ha];cases p.map (nx c ts)with
  |none=>rfl
  |some i=>cases h:isI i<;>simp[Option.filter,h]
 ·unfold At ny at *;simp only;rw[o7 c cq.nil (hh.filter _).conds,pp (isI:=fun i=>!isI i) c aa,ha];cases p.map (nx c ts)with
  |none=>rfl
  |some i=>cases h:isI i<;>simp[Option.filter,h]<;>rfl
def nu{c:bP}{ts:List Tok}(aa:bT ts){f:ar}(hf:cq f){p:Option Nat}(hp:At c f p)(kind slot:Nat):RR c (named ts f kind slot) (aI ts c p kind slot):=by
 have hh:=mW aa hf;have ha:=ny.of aa hf hp;have key:=AJ (c:=c) (fun(r:bW)=>cq r.f/\iE r.l/\Ce r.e) (fun r=>(pL c r.l,eS c r.f,pE c r.e)) (fun(r:bW) h=>if h.kind≠1\/dG h.text=true then { r with e:=r.e++cJ h 10 } else ⟨r.l++[⟨kind,h.text,h.at',slot,[],h.cond⟩],join r.f (h.at'+1) h.cond,r.e⟩) (hs:=bE ts f) (z:=⟨[],[],[]⟩) ⟨cq.nil,trivial,eU⟩
  (fun a h ia hm=>by
   obtain⟨k1,_,_⟩:=hh.mem hm;obtain⟨i1,i2,i3⟩:=ia;split
   ·exact⟨i1,i2,cI.2 ⟨i3,sI k1 10⟩⟩
   ·exact⟨eu i1 k1,iN.2 ⟨i2,⟨k1,trivial⟩,trivial⟩,i3⟩)
  (fun a h ia hm hc=>by
   obtain⟨k1,_,_⟩:=hh.mem hm;obtain⟨i1,i2,i3⟩:=ia;split
   ·simp only[cR,lq,hc,aa5,Z2,aa6]
   ·simp only[fL c i1 k1,fq,cM,hc,aa5,Z2];simp[pL]) ha
 unfold named lg;obtain⟨⟨k1,k2,k3⟩,k4⟩:=key;unfold aI;cases ac:p.map (nx c ts)with
 |none=>
  rw[ac]at k4;simp only[aaI]at k4;exact⟨k1,k2,k3,k4.1,k4.2.1,k4.2.2⟩
 |some i=>
  rw[ac]at k4;obtain⟨h,hm,e1,hc,a,ia,e2,e3⟩:=k4;obtain⟨k5,_,k6⟩:=hh.mem hm;subst e1;have hx:h.text=X ts h.at':=by rw[k6]
  have hk:h.kind=K ts h.at':=by rw[k6]
  simp only[aaI]at e2 e3;have el:pL c a.l=[]:=e2.1;have ep:eS c a.f=[]:=e2.2.1;have ee:pE c a.e=[]:=e2.2.2;simp only[hx,hk]at e3 k1 k2 k3 |-;split
  ·rename_i hs;simp only[aaq hs]at e3;refine⟨k1,k2,k3,?_,?_,?_⟩
   ·rw[e3.1];exact el
   ·unfold At;rw[e3.2.1];exact ep
   ·rw[e3.2.2];simp only[cR,lq,hc,ZT,ee];rfl
  ·rename_i hs;simp only[ZV hs]at e3;refine⟨k1,k2,k3,?_,?_,?_⟩
   ·rw[e3.1,fq,el,cM,hc];rfl
   ·unfold At;rw[e3.2.1,fL c ia.1 k5,hc,ep];rfl
   ·rw[e3.2.2];exact ee
def Al(a:ar)(l:List Tok)(i:Nat):eW a l i ff=a:=by
 cases l with
 |nil=>simp[eW,join]
 |cons t l=>simp[eW]
def EU{ts:List Tok}(ak:bT ts){h:aB}(hd:Hd ts h)(aj:h.cond≠ff):bE ts (bX h)=[h]:=by
 obtain⟨hk,he,hc⟩:=hd;have hf:cq (bX h):=⟨fun s hs=>by simp[bX]at hs;subst hs;exact⟨hk,aj⟩,by simp[bX]⟩;rw[lS ak hf];have:eK ts (bX h)=[(h.at',h.cond)]:=by
  show eW [] (ts.drop h.at') h.at' h.cond=_;have hj:join [] h.at' h.cond=[(h.at',h.cond)]:=by simp[join,aj,vL]
  cases hd:ts.drop h.at' with
  |nil=>exact hj
  |cons t l=>
   have ht:t.cond.ok 0:=ak t (List.mem_of_mem_drop (i:=h.at') (by rw[hd];exact .head _));have aa:∀c,h.cond.at' c=true->t.cond.at' c=true:=fun c ac=>by
    have h1:=hc c ac;unfold nx at h1;rw[hd]at h1;cases am:t.cond.at' c with
    |true=>rfl
    |false=>
     have e:lm c (t::l) h.at'=lm c l (h.at'+1):=by simp[lm,am]
     rw[e]at h1;have:=(kz c l (h.at'+1)).1;omega
   have e1:h.cond.and t.cond=h.cond:=T.ext (T.and_ok hk ht) hk fun c=>by
    rw[T.and_at hk ht];cases ac:h.cond.at' c with
    |false=>rfl
    |true=>rw[aa c ac];rfl
   have e2:h.cond.and t.cond.not=ff:=T.ext (T.and_ok hk (T.not_ok ht)) (show ff.ok 0 from trivial) fun c=>by
    rw[T.and_at hk (T.not_ok ht),T.not_at];cases ac:h.cond.at' c with
    |false=>rfl
    |true=>rw[aa c ac];rfl
   simp only[eW,ZV aj,e1,e2,hj,Al]
 rw[this,List.map_singleton,zY,<-he]
def xT{ts:List Tok}(ac:bT ts){h:aB}(hd:Hd ts h)(aa:h.cond≠ff)(kind slot:Nat):
  named ts (bX h) kind slot=if h.kind≠1\/dG h.text=true then ⟨[],[],cJ h 10⟩else ⟨[⟨kind,h.text,h.at',slot,[],h.cond⟩],bv h,[]⟩:=by
 unfold named lg;rw[EU ac hd aa];simp only[fu,List.foldl_nil,aaA];split
 ·rfl
 ·simp[join,aa,vL,bv]
def yf{c:bP}{ts:List Tok}(aa:bT ts){f:ar}(hf:cq f){p:Option Nat}(hp:At c f p)(slot:Nat):RR c (sW ts f slot) (bI ts c p slot):=by
 have hh:=mW aa hf;have ha:=ny.of aa hf hp;have key:=AJ (c:=c) (fun(r:bW)=>cq r.f/\iE r.l/\Ce r.e) (fun r=>(pL c r.l,eS c r.f,pE c r.e)) (fun(r:bW) h=>if h.text≠vM/\h.text≠oO then { r with e:=r.e++cJ h 10 } else ⟨r.l++[⟨5,h.text,h.at',slot,[],h.cond⟩],join r.f (h.at'+1) h.cond,r.e⟩) (hs:=bE ts f) (z:=⟨[],[],[]⟩) ⟨cq.nil,trivial,eU⟩
  (fun a h ia hm=>by
   obtain⟨k1,_,_⟩:=hh.mem hm;obtain⟨i1,i2,i3⟩:=ia;split
   ·exact⟨i1,i2,cI.2 ⟨i3,sI k1 10⟩⟩
   ·exact⟨eu i1 k1,iN.2 ⟨i2,⟨k1,trivial⟩,trivial⟩,i3⟩)
  (fun a h ia hm hc=>by
   obtain⟨k1,_,_⟩:=hh.mem hm;obtain⟨i1,i2,i3⟩:=ia;split
   ·simp only[cR,lq,hc,aa5,Z2,aa6]
   ·simp only[fL c i1 k1,fq,cM,hc,aa5,Z2];simp[pL]) ha
 unfold sW lg;obtain⟨⟨k1,k2,k3⟩,k4⟩:=key;unfold bI;cases ac:p.map (nx c ts)with
 |none=>
  rw[ac]at k4;simp only[aaI]at k4;exact⟨k1,k2,k3,k4.1,k4.2.1,k4.2.2⟩
 |some i=>
  rw[ac]at k4;obtain⟨h,hm,e1,hc,a,ia,e2,e3⟩:=k4;obtain⟨k5,_,k6⟩:=hh.mem hm;subst e1;have hx:h.text=X ts h.at':=by rw[k6]
  simp only[aaI]at e2 e3;have el:pL c a.l=[]:=e2.1;have ep:eS c a.f=[]:=e2.2.1;have ee:pE c a.e=[]:=e2.2.2;simp only[hx]at e3 k1 k2 k3 |-;split
  ·rename_i hs;simp only[aaq hs]at e3;refine⟨k1,k2,k3,?_,?_,?_⟩
   ·rw[e3.1];exact el
   ·unfold At;rw[e3.2.1];exact ep
   ·rw[e3.2.2];simp only[cR,lq,hc,ZT,ee];rfl
  ·rename_i hs;simp only[ZV hs]at e3;refine⟨k1,k2,k3,?_,?_,?_⟩
   ·rw[e3.1,fq,el,cM,hc];rfl
   ·unfold At;rw[e3.2.1,fL c ia.1 k5,hc,ep];rfl
   ·rw[e3.2.2];exact ee
open Dg
inductive dB where
 |line (k o:Nat) (p:Option Nat) (slot:Nat)
 |lineL (k o:Nat) (slot:Nat) (first:Bool) (l:List Nd) (g out:Option Nat)
 |lineO (k o:Nat) (slot:Nat) (op:Option Nat) (l:List Nd) (g:Option Nat)
 |unary (o:Nat) (p:Option Nat) (slot:Nat)
 |unaryH (o:Nat) (i:Option Nat) (slot:Nat)
 |calls (o:Nat) (i:Option Nat) (slot:Nat) (x:Option Nat) (names:List Nd) (g:Option Nat)
 |inside (o:Nat) (p:Option Nat) (slot:Nat)
 |listed (par:Bool) (o:Nat) (p:Option Nat)
 |listL (par:Bool) (o:Nat) (l:List Nd) (g fin:Option Nat)
 |item (par:Bool) (o:Nat) (p:Option Nat)
 |behind (typ:Bool) (o:Nat) (p:Option Nat) (sign:bq) (slot:Nat)
 |vrb (o:Nat) (p:Option Nat)
 |function (o:Nat) (p:Option Nat)
 |block (o:Nat) (p:Option Nat) (slot:Nat)
 |seqL (top:Bool) (o:Nat) (p:Option Nat) (l:List Nd) (out:Option Nat)
 |stmt (o:Nat) (i:Option Nat)
 |sCalls (o:Nat) (i:Option Nat) (x:Option Nat) (l:List Nd) (g:Option Nat)
 |branch (o:Nat) (i:Option Nat) (slot:Nat)
 |elses (o:Nat) (x:Option Nat) (l:List Nd) (out:Option Nat)
 |ifs (o:Nat) (y:Option Nat) (l:List Nd) (out:Option Nat)
abbrev oS:=dB->Option PR
def triv:PR:=⟨[],none,[]⟩
def g9(l:List Nd):List Nd:=l.map fun n=>{ n with slot:=0 }
def jP(kind:Nat)(i:Option Nat)(slot:Nat):List Nd:=i.toList.map fun(i:Nat)=>⟨kind,[],(i:Int),slot,[],tt⟩
section
variable (c:bP) (ts:List Tok) (rec:oS)
def qz(p:Option Nat)(is:Nat->Bool):Option Nat:=(p.map (nx c ts)).filter is
def pi(s:bq)(i:Nat):Bool:=decide (X ts i=s)
def gK(k i:Nat):Bool:=decide (K ts i=3) && decide (dX (X ts i)=k)
def pY(k o slot:Nat)(op:Option Nat)(l:List Nd)(g:Option Nat):Option PR:=
 match op with
 |none=>some ⟨l,g,[]⟩
 |some i=>do
  let a <-rec (.line (k+1) o (some (i+1)) 1)
  some ⟨[⟨13,X ts i,i,slot,g9 l++a.l,tt⟩],a.p,a.e⟩
def lP(k o slot:Nat)(first:Bool)(l:List Nd)(g out:Option Nat):Option PR:=
 match g with
 |none=>some ⟨l,out,[]⟩
 |some p=>
  if k=2/\first=false then some ⟨l,some p,[]⟩
  else do
   let a <-rec (.lineO k o slot (qz c ts (some p) (gK ts k)) l none)
   let b <-rec (.lineL k o slot false a.l a.p (qz c ts (some p) fun i=>!gK ts k i))
   some ⟨b.l,b.p,a.e++b.e⟩
def ni(k o:Nat)(p:Option Nat)(slot:Nat):Option PR:=
 if k=5 then rec (.unary o p slot)
 else do
  let a <-rec (.line (k+1) o p slot)
  let b <-rec (.lineL k o slot true a.l a.p none)
  some ⟨b.l,b.p,a.e++b.e⟩
def fZ(o:Nat)(i:Option Nat)(slot:Nat):Option PR:=
 match i with
 |none=>some triv
 |some i=>
  if X ts i=Fg\/X ts i=jS then
   if o=64 then some ⟨[],none,[(11,(i:Int))]⟩
   else do
    let a <-rec (.unary (o+1) (some (i+1)) 0)
    some ⟨[⟨14,X ts i,i,slot,a.l,tt⟩],a.p,a.e⟩
  else if X ts i=eM then rec (.inside o (some i) slot)
  else if K ts i=2 then some ⟨[⟨15,X ts i,i,slot,[],tt⟩],some (i+1),[]⟩
  else if X ts i=pH\/X ts i=mK then some ⟨[⟨16,X ts i,i,slot,[],tt⟩],some (i+1),[]⟩
  else if X ts i=qX then some ⟨[⟨17,[],i,slot,[],tt⟩],some (i+1),[]⟩
  else do
   let a:=aI ts c (some i) 18 slot
   let b <-rec (.calls o (some i) slot (qz c ts a.p (pi ts eM)) a.l (qz c ts a.p fun i=>!pi ts eM i))
   some ⟨b.l,b.p,a.e++b.e⟩
def nY(o:Nat)(i:Option Nat)(slot:Nat)(x:Option Nat)(names:List Nd)(g:Option Nat):Option PR:=
 match i,x with
 |some i,some x=>do
  let a <-rec (.listed false o (some x))
  some ⟨[⟨19,X ts i,i,slot,a.l,tt⟩],a.p,a.e⟩
 |_,_=>some ⟨names,g,[]⟩
def ry(o:Nat)(p:Option Nat)(slot:Nat):Option PR:=rec (.unaryH o (p.map (nx c ts)) slot)
def il(o:Nat)(p:Option Nat)(slot:Nat):Option PR:=
 match p.map (nx c ts)with
 |none=>some triv
 |some i=>
  if X ts i≠eM then some ⟨[],none,[(10,(i:Int))]⟩
  else if o=64 then some ⟨[],none,[(11,(i:Int))]⟩
  else do
   let a <-rec (.line 0 (o+1) (some (i+1)) slot)
   some ⟨a.l,(aW ts c a.p fK).1,a.e++(aW ts c a.p fK).2⟩
def ij(par:Bool)(o:Nat)(p:Option Nat):Option PR:=
 match p.map (nx c ts)with
 |none=>some triv
 |some i=>
  if X ts i≠eM then some ⟨[],none,[(10,(i:Int))]⟩
  else if o=64 then some ⟨[],none,[(11,(i:Int))]⟩
  else do
   let a <-rec (.listL par (o+1) [] (qz c ts (some (i+1)) fun i=>!pi ts fK i) (qz c ts (some (i+1)) (pi ts fK)))
   some ⟨a.l,(aW ts c a.p fK).1,a.e++(aW ts c a.p fK).2⟩
def oU(par:Bool)(o:Nat)(l:List Nd)(g fin:Option Nat):Option PR:=
 match g with
 |none=>some ⟨l,fin,[]⟩
 |some p=>do
  let a <-rec (.item par o (some p))
  let b <-rec (.listL par o (l++a.l) ((qz c ts a.p (pi ts bB)).map (·+1)) (qz c ts a.p fun i=>!pi ts bB i))
  some ⟨b.l,b.p,a.e++b.e⟩
def ro(par:Bool)(o:Nat)(p:Option Nat):Option PR:=
 if par then
  let a:=aI ts c p 4 0
  let g:=aW ts c a.p bA
  let b:=bI ts c g.1 0
  some ⟨give a.l b.l,b.p,a.e++g.2++b.e⟩
 else rec (.line 0 o p 0)
def fy(typ:Bool)(o:Nat)(p:Option Nat)(slot:Nat):Option PR:=if typ then some (bI ts c p slot)else rec (.line 0 o p slot)
def kh(typ:Bool)(o:Nat)(p:Option Nat)(sign:bq)(slot:Nat):Option PR:=do
 let a <-fy c ts rec typ o ((qz c ts p (pi ts sign)).map (·+1)) slot
 some ⟨a.l,(qz c ts p fun i=>!pi ts sign i).or a.p,a.e⟩
def gZ(o:Nat)(p:Option Nat):Option PR:=do
 let a:=aI ts c p 2 0
 let g1:=aW ts c a.p bA
 let b:=bI ts c g1.1 0
 let d <-rec (.behind false o b.p su 1)
 let g2:=aW ts c d.p a8
 some ⟨give (give a.l b.l) d.l,g2.1,a.e++g1.2++b.e++d.e++g2.2⟩
def gY(o:Nat)(p:Option Nat):Option PR:=do
 let a:=aI ts c p 3 0
 let b <-rec (.listed true o a.p)
 let d <-rec (.behind true o b.p bA 1)
 let e <-rec (.block o d.p 2)
 some ⟨give (give (give a.l b.l) d.l) e.l,e.p,a.e++b.e++d.e++e.e⟩
def jI(o:Nat)(p:Option Nat)(slot:Nat):Option PR:=
 match p.map (nx c ts)with
 |none=>some triv
 |some i=>
  if X ts i≠Im then some ⟨[],none,[(10,(i:Int))]⟩
  else if o=64 then some ⟨[],none,[(11,(i:Int))]⟩
  else do
   let a <-rec (.seqL false (o+1) (some (i+1)) [] none)
   some ⟨[⟨6,[],i,slot,a.l,tt⟩],(aW ts c a.p qD).1,a.e++(aW ts c a.p qD).2⟩
def tI(top:Bool)(i:Nat):Bool:=if top then decide (i=ts.length)else decide (X ts i=qD)
def vF(o:Nat)(i:Nat):Option PR:=
 if X ts i=lT then rec (.vrb o (some (i+1)))
 else if X ts i=Gg then rec (.function o (some (i+1)))
 else some ⟨[],none,[(10,(i:Int))]⟩
def md(top:Bool)(o i:Nat):Option PR:=if top then vF ts rec o i else rec (.stmt o (some i))
def nE(top:Bool)(o:Nat)(p:Option Nat)(l:List Nd)(out:Option Nat):Option PR:=
 match p.map (nx c ts)with
 |none=>some ⟨l,out,[]⟩
 |some i=>
  if tI ts top i then some ⟨l,some i,[]⟩
  else do
   let a <-md ts rec top o i
   let b <-rec (.seqL top o a.p (l++a.l) none)
   some ⟨b.l,b.p,a.e++b.e⟩
def gM(o:Nat)(i:Option Nat):Option PR:=
 match i with
 |none=>some triv
 |some i=>
  if X ts i=lT then rec (.vrb o (some (i+1)))
  else if X ts i=kT then rec (.branch o (some i) 0)
  else if X ts i=jG then do
   let a <-rec (.inside o (some (i+1)) 0)
   let b <-rec (.block o a.p 1)
   some ⟨give (give (jP 9 (some i) 0) a.l) b.l,b.p,a.e++b.e⟩
  else if X ts i=Im then rec (.block o (some i) 0)
  else if X ts i=iH then do
   let a <-rec (.line 0 o (qz c ts (some (i+1)) fun i=>!pi ts a8 i) 0)
   let g:=aW ts c (a.p.or (qz c ts (some (i+1)) (pi ts a8))) a8
   some ⟨give (jP 10 (some i) 0) a.l,g.1,a.e++g.2⟩
  else if X ts i=jU\/X ts i=ew then do
   let a <-rec (.line 0 o (some (i+1)) 0)
   let g:=aW ts c a.p a8
   some ⟨give (jP (if X ts i=ew then 12 else 11) (some i) 0) a.l,g.1,a.e++g.2⟩
  else do
   let a:=aI ts c (some i) 7 0
   let g1:=aW ts c (qz c ts a.p fun i=>!pi ts eM i) su
   let b <-rec (.line 0 o g1.1 0)
   let d <-rec (.sCalls o (some i) (qz c ts a.p (pi ts eM)) (give a.l b.l) b.p)
   let g2:=aW ts c d.p a8
   some ⟨d.l,g2.1,a.e++g1.2++b.e++d.e++g2.2⟩
def lu(o:Nat)(i:Option Nat)(x:Option Nat)(l:List Nd)(g:Option Nat):Option PR:=
 match i,x with
 |some i,some x=>do
  let a <-rec (.listed false o (some x))
  some ⟨[⟨19,X ts i,i,0,a.l,tt⟩],a.p,a.e⟩
 |_,_=>some ⟨l,g,[]⟩
def ku(o:Nat)(i:Option Nat)(slot:Nat):Option PR:=do
 let a <-rec (.inside o (i.map (·+1)) 0)
 let b <-rec (.block o a.p 1)
 let d <-rec (.elses o (qz c ts b.p (pi ts dr)) (give (give (jP 8 i slot) a.l) b.l) (qz c ts b.p fun i=>!pi ts dr i))
 some ⟨d.l,d.p,a.e++b.e++d.e⟩
def nP(o:Nat)(x:Option Nat)(l:List Nd)(out:Option Nat):Option PR:=
 match x with
 |none=>some ⟨l,out,[]⟩
 |some j=>do
  let a <-rec (.block o (qz c ts (some (j+1)) fun i=>!pi ts kT i) 2)
  let b <-rec (.ifs o (qz c ts (some (j+1)) (pi ts kT)) (give l a.l) a.p)
  some ⟨b.l,b.p,a.e++b.e⟩
def BV(o:Nat)(y:Option Nat)(l:List Nd)(out:Option Nat):Option PR:=
 match y with
 |none=>some ⟨l,out,[]⟩
 |some j=>
  if o=64 then some ⟨l,out,[(11,(j:Int))]⟩
  else do
   let a <-rec (.branch (o+1) (some j) 2)
   some ⟨give l a.l,a.p,a.e⟩
def aC:dB->Option PR
 | .line k o p slot=>ni rec k o p slot
 | .lineL k o slot first l g out=>lP c ts rec k o slot first l g out
 | .lineO k o slot op l g=>pY ts rec k o slot op l g
 | .unary o p slot=>ry c ts rec o p slot
 | .unaryH o i slot=>fZ c ts rec o i slot
 | .calls o i slot x names g=>nY ts rec o i slot x names g
 | .inside o p slot=>il c ts rec o p slot
 | .listed par o p=>ij c ts rec par o p
 | .listL par o l g fin=>oU c ts rec par o l g fin
 | .item par o p=>ro c ts rec par o p
 | .behind typ o p sign slot=>kh c ts rec typ o p sign slot
 | .vrb o p=>gZ c ts rec o p
 | .function o p=>gY c ts rec o p
 | .block o p slot=>jI c ts rec o p slot
 | .seqL top o p l out=>nE c ts rec top o p l out
 | .stmt o i=>gM c ts rec o i
 | .sCalls o i x l g=>lu ts rec o i x l g
 | .branch o i slot=>ku c ts rec o i slot
 | .elses o x l out=>nP c ts rec o x l out
 | .ifs o y l out=>BV rec o y l out
end
def bS(c:bP)(ts:List Tok):Nat->oS
 |0=>fun _=>none
 |n+1=>aC c ts (bS c ts n)
def Le(r s:oS):Prop:=∀x q,r x=some q->s x=some q
def cu{α β:Type}{a b:Option α}{f g:α->Option β}{q:β}(h:∀x,a=some x->b=some x)(k:∀x q,f x=some q->g x=some q)(e:a.bind f=some q):b.bind g=some q:=by
 cases ha:a with
 |none=>rw[ha]at e;cases e
 |some x=>rw[ha]at e;rw[h x ha];exact k x q e
def LX{c:bP}{ts:List Tok}{r s:oS}(h:Le r s):Le (aC c ts r) (aC c ts s):=by
 intro x q e;cases x<;>simp only[aC]at e |-
 case line k o p slot=>
  unfold ni at e |-;split at e
  ·rename_i hk;rw[aaq hk];exact h _ _ e
  ·rename_i hk;rw[ZV hk];exact cu (h _) (fun x q e=>cu (h _) (fun x q e=>e) e) e
 case lineL k o slot first l g out=>
  unfold lP at e |-;cases g with
  |none=>exact e
  |some p=>
   simp only at e |-;split at e
   ·rename_i hk;rw[aaq hk];exact e
   ·rename_i hk;rw[ZV hk];exact cu (h _) (fun x q e=>cu (h _) (fun x q e=>e) e) e
 case lineO k o slot op l g=>
  unfold pY at e |-;cases op with
  |none=>exact e
  |some i=>exact cu (h _) (fun x q e=>e) e
 case unary o p slot=>exact h _ _ e
 case unaryH o i slot=>
  unfold fZ at e |-;cases i with
  |none=>exact e
  |some i=>
   simp only at e |-;split at e
   ·rename_i h1;rw[aaq h1];split at e
    ·rename_i h2;rw[aaq h2];exact e
    ·rename_i h2;rw[ZV h2];exact cu (h _) (fun x q e=>e) e
   ·rename_i h1;rw[ZV h1];split at e
    ·rename_i h2;rw[aaq h2];exact h _ _ e
    ·rename_i h2;rw[ZV h2];split at e
     ·rename_i h3;rw[aaq h3];exact e
     ·rename_i h3;rw[ZV h3];split at e
      ·rename_i h4;rw[aaq h4];exact e
      ·rename_i h4;rw[ZV h4];split at e
       ·rename_i h5;rw[aaq h5];exact e
       ·rename_i h5;rw[ZV h5];exact cu (h _) (fun x q e=>e) e
 case calls o i slot x names g=>
  unfold nY at e |-;cases i<;>cases x<;>first|exact e|exact cu (h _) (fun x q e=>e) e
 case inside o p slot=>
  unfold il at e |-;generalize p.map (nx c ts)=w at e |-;cases w with
  |none=>exact e
  |some i=>
   simp only at e |-;split at e
   ·rename_i h1;rw[aaq h1];exact e
   ·rename_i h1;rw[ZV h1];split at e
    ·rename_i h2;rw[aaq h2];exact e
    ·rename_i h2;rw[ZV h2];exact cu (h _) (fun x q e=>e) e
 case listed par o p=>
  unfold ij at e |-;generalize p.map (nx c ts)=w at e |-;cases w with
  |none=>exact e
  |some i=>
   simp only at e |-;split at e
   ·rename_i h1;rw[aaq h1];exact e
   ·rename_i h1;rw[ZV h1];split at e
    ·rename_i h2;rw[aaq h2];exact e
    ·rename_i h2;rw[ZV h2];exact cu (h _) (fun x q e=>e) e
 case listL par o l g fin=>
  unfold oU at e |-;cases g with
  |none=>exact e
  |some p=>exact cu (h _) (fun x q e=>cu (h _) (fun x q e=>e) e) e
 case item par o p=>
  unfold ro at e |-;cases par with
  |true=>exact e
  |false=>exact h _ _ e
 case behind typ o p sign slot=>
  unfold kh at e |-;refine cu (fun x e=>?_) (fun x q e=>e) e;unfold fy at e |-;cases typ with
  |true=>exact e
  |false=>exact h _ _ e
 case vrb o p=>
  unfold gZ at e |-;exact cu (h _) (fun x q e=>e) e
 case function o p=>
  unfold gY at e |-;exact cu (h _) (fun x q e=>cu (h _) (fun x q e=>cu (h _) (fun x q e=>e) e) e) e
 case block o p slot=>
  unfold jI at e |-;generalize p.map (nx c ts)=w at e |-;cases w with
  |none=>exact e
  |some i=>
   simp only at e |-;split at e
   ·rename_i h1;rw[aaq h1];exact e
   ·rename_i h1;rw[ZV h1];split at e
    ·rename_i h2;rw[aaq h2];exact e
    ·rename_i h2;rw[ZV h2];exact cu (h _) (fun x q e=>e) e
 case seqL top o p l out=>
  unfold nE at e |-;generalize p.map (nx c ts)=w at e |-;cases w with
  |none=>exact e
  |some i=>
   simp only at e |-;split at e
   ·rename_i h1;rw[aaq h1];exact e
   ·rename_i h1;rw[ZV h1];refine cu (fun x e=>?_) (fun x q e=>cu (h _) (fun x q e=>e) e) e;unfold md at e |-;cases top with
    |false=>exact h _ _ e
    |true=>
     simp only[ZT]at e |-;unfold vF at e |-;split at e
     ·rename_i h2;rw[aaq h2];exact h _ _ e
     ·rename_i h2;rw[ZV h2];split at e
      ·rename_i h3;rw[aaq h3];exact h _ _ e
      ·rename_i h3;rw[ZV h3];exact e
 case stmt o i=>
  unfold gM at e |-;cases i with
  |none=>exact e
  |some i=>
   simp only at e |-;split at e
   ·rename_i h1;rw[aaq h1];exact h _ _ e
   ·rename_i h1;rw[ZV h1];split at e
    ·rename_i h2;rw[aaq h2];exact h _ _ e
    ·rename_i h2;rw[ZV h2];split at e
     ·rename_i h3;rw[aaq h3];exact cu (h _) (fun x q e=>cu (h _) (fun x q e=>e) e) e
     ·rename_i h3;rw[ZV h3];split at e
      ·rename_i h4;rw[aaq h4];exact h _ _ e
      ·rename_i h4;rw[ZV h4];split at e
       ·rename_i h5;rw[aaq h5];exact cu (h _) (fun x q e=>e) e
       ·rename_i h5;rw[ZV h5];split at e
        ·rename_i h6;rw[aaq h6];exact cu (h _) (fun x q e=>e) e
        ·rename_i h6;rw[ZV h6];exact cu (h _) (fun x q e=>cu (h _) (fun x q e=>e) e) e
 case sCalls o i x l g=>
  unfold lu at e |-;cases i<;>cases x<;>first|exact e|exact cu (h _) (fun x q e=>e) e
 case branch o i slot=>
  unfold ku at e |-;exact cu (h _) (fun x q e=>cu (h _) (fun x q e=>cu (h _) (fun x q e=>e) e) e) e
 case elses o x l out=>
  unfold nP at e |-;cases x with
  |none=>exact e
  |some j=>exact cu (h _) (fun x q e=>cu (h _) (fun x q e=>e) e) e
 case ifs o y l out=>
  unfold BV at e |-;cases y with
  |none=>exact e
  |some j=>
   simp only at e |-;split at e
   ·rename_i h1;rw[aaq h1];exact e
   ·rename_i h1;rw[ZV h1];exact cu (h _) (fun x q e=>e) e
def zW{c:bP}{ts:List Tok}:∀(n:Nat),Le (bS c ts n) (bS c ts (n+1))
 |0=>fun x q e=>by cases e
 |n+1=>LX (zW n)
def kY{c:bP}{ts:List Tok}{n m:Nat}(h:n<=m):Le (bS c ts n) (bS c ts m):=by
 induction h with
 |refl=>exact fun x q e=>e
 |step _ ih=>exact fun x q e=>zW _ x q (ih x q e)
def PV(c:bP)(ts:List Tok)(x:dB)(q:PR):Prop:=∃n,bS c ts n x=some q
variable{q:PR}
def PV.det{c:bP}{ts:List Tok}{x:dB}{r:PR}(h:PV c ts x q)(k:PV c ts x r):q=r:=by
 obtain⟨n,hn⟩:=h;obtain⟨m,hm⟩:=k;have h1:=kY (Nat.le_max_left n m) _ _ hn;have h2:=kY (Nat.le_max_right n m) _ _ hm;rw[h1]at h2;exact aaZ h2
def PV.of{c:bP}{ts:List Tok}{x:dB}{P:oS->Prop}(h:∀r:oS,P r->aC c ts r x=some q)(n:Nat)(hp:P (bS c ts n)):PV c ts x q:=⟨n+1,h _ hp⟩
def PV.step0{c:bP}{ts:List Tok}{x:dB}(h:∀r:oS,aC c ts r x=some q):PV c ts x q:=⟨1,h _⟩
def PV.step1{c:bP}{ts:List Tok}{x y:dB}{a:PR}(h1:PV c ts y a)(h:∀r:oS,r y=some a->aC c ts r x=some q):PV c ts x q:=by
 obtain⟨n,hn⟩:=h1;exact⟨n+1,h _ hn⟩
def PV.step2{c:bP}{ts:List Tok}{x y z:dB}{a b:PR}(h1:PV c ts y a)(h2:PV c ts z b)(h:∀r:oS,r y=some a->r z=some b->aC c ts r x=some q):PV c ts x q:=by
 obtain⟨n,hn⟩:=h1;obtain⟨m,hm⟩:=h2;exact⟨max n m+1,h _ (kY (Nat.le_max_left n m) _ _ hn) (kY (Nat.le_max_right n m) _ _ hm)⟩
def PV.step3{c:bP}{ts:List Tok}{x y z w:dB}{a b d:PR}(h1:PV c ts y a)(h2:PV c ts z b)(h3:PV c ts w d)(h:∀r:oS,r y=some a->r z=some b->r w=some d->aC c ts r x=some q):PV c ts x q:=by
 obtain⟨n,hn⟩:=h1;obtain⟨m,hm⟩:=h2;obtain⟨k,hk⟩:=h3;exact⟨max n (max m k)+1,h _ (kY ab _ _ hn) (kY ab _ _ hm) (kY ab _ _ hk)⟩
open Dg
section
variable {c:bP} {ts:List Tok}
def qm:∀(n:Nat) {k o slot:Nat} {q:PR},bS c ts n (.line k o none slot)=some q->q=triv
 |0,k,o,slot,q,h=>by cases h
 |n+1,k,o,slot,q,h=>by
  simp only[bS,aC,ni]at h;split at h
  ·cases n with
   |zero=>cases h
   |succ n=>
    simp only[bS,aC,ry,aac]at h;cases n with
    |zero=>cases h
    |succ n=>simp only[bS,aC,fZ,ZW]at h;exact h.symm
  ·simp only[abI,abJ,ZW]at h;obtain⟨a,ha,b,hb,rfl⟩:=h;rw[qm n ha]at hb |-;cases n with
   |zero=>cases hb
   |succ n=>
    simp only[bS,aC,lP,triv,ZW]at hb;subst hb;rfl
variable{q:PR}
def PV.noneLine{k o slot:Nat}(h:PV c ts (.line k o none slot) q):q=triv:=by obtain⟨n,h⟩:=h;exact qm n h
def PV.noneUnary{o slot:Nat}(h:PV c ts (.unary o none slot) q):q=triv:=by
 obtain⟨n,h⟩:=h;cases n with
 |zero=>cases h
 |succ n=>
  simp only[bS,aC,ry,aac]at h;cases n with
  |zero=>cases h
  |succ n=>simp only[bS,aC,fZ,ZW]at h;exact h.symm
def PV.noneInside{o slot:Nat}(h:PV c ts (.inside o none slot) q):q=triv:=by
 obtain⟨n,h⟩:=h;cases n with
 |zero=>cases h
 |succ n=>simp only[bS,aC,il,aac,ZW]at h;exact h.symm
def PV.noneListed{par:Bool}{o:Nat}(h:PV c ts (.listed par o none) q):q=triv:=by
 obtain⟨n,h⟩:=h;cases n with
 |zero=>cases h
 |succ n=>simp only[bS,aC,ij,aac,ZW]at h;exact h.symm
def PV.noneBlock{o slot:Nat}(h:PV c ts (.block o none slot) q):q=triv:=by
 obtain⟨n,h⟩:=h;cases n with
 |zero=>cases h
 |succ n=>simp only[bS,aC,jI,aac,ZW]at h;exact h.symm
def PV.noneItem{par:Bool}{o:Nat}(h:PV c ts (.item par o none) q):q=triv:=by
 obtain⟨n,h⟩:=h;cases n with
 |zero=>cases h
 |succ n=>
  simp only[bS,aC,ro]at h;cases par with
  |true=>simp[aI,aW,bI,give]at h;exact h.symm
  |false=>exact qm n h
def PV.noneBehind{typ:Bool}{o slot:Nat}{sign:bq}(h:PV c ts (.behind typ o none sign slot) q):q=triv:=by
 obtain⟨n,h⟩:=h;cases n with
 |zero=>cases h
 |succ n=>
  simp only[bS,aC,kh,abI,abJ,ZW]at h;obtain⟨a,ha,rfl⟩:=h;have:a=triv:=by
   simp only[fy,qz,aac,Option.filter_none]at ha;cases typ with
   |true=>simp[bI]at ha;exact ha.symm
   |false=>exact qm n ha
  subst this;rfl
def PV.noneVar{o:Nat}(h:PV c ts (.vrb o none) q):q=triv:=by
 obtain⟨n,h⟩:=h;cases n with
 |zero=>cases h
 |succ n=>
  simp only[bS,aC,gZ,abI,abJ,ZW]at h;obtain⟨a,ha,rfl⟩:=h;have:=PV.noneBehind (c:=c) (ts:=ts) ⟨n,ha⟩;subst this;rfl
def PV.noneFn{o:Nat}(h:PV c ts (.function o none) q):q=triv:=by
 obtain⟨n,h⟩:=h;cases n with
 |zero=>cases h
 |succ n=>
  simp only[bS,aC,gY,abI,abJ,ZW]at h;obtain⟨a,ha,b,hb,d,hd,rfl⟩:=h;have:=PV.noneListed (c:=c) (ts:=ts) ⟨n,ha⟩;subst this;have:=PV.noneBehind (c:=c) (ts:=ts) ⟨n,hb⟩;subst this;have:=PV.noneBlock (c:=c) (ts:=ts) ⟨n,hd⟩;subst this;rfl
def PV.noneElses{o:Nat}{l:List Nd}{out:Option Nat}(h:PV c ts (.elses o none l out) q):q=⟨l,out,[]⟩:=by
 obtain⟨n,h⟩:=h;cases n with
 |zero=>cases h
 |succ n=>simp only[bS,aC,nP,ZW]at h;exact h.symm
def PV.noneBranch{o slot:Nat}(h:PV c ts (.branch o none slot) q):q=triv:=by
 obtain⟨n,h⟩:=h;cases n with
 |zero=>cases h
 |succ n=>
  simp only[bS,aC,ku,abI,abJ,ZW]at h;obtain⟨a,ha,b,hb,d,hd,rfl⟩:=h;have:=PV.noneInside (c:=c) (ts:=ts) ⟨n,ha⟩;subst this;have:=PV.noneBlock (c:=c) (ts:=ts) ⟨n,hb⟩;subst this;have:=PV.noneElses (c:=c) (ts:=ts) ⟨n,hd⟩;subst this;rfl
def hI(c:bP)(h:aB):Option Nat:=if h.cond.at' c then some h.at' else none
inductive yZ (c:bP) (ts:List Tok):Call->dB->Prop
 |line {k o f p slot}:cq f->At c f p->yZ c ts (.line k o f slot) (.line k o p slot)
 |lineL {k o slot first l l' g g' out out'}:iE l->pL c l=l'->cq g->At c g g'->cq out->At c out out'->(g'=none\/out'=none)->yZ c ts (.lineL k o slot first l g out) (.lineL k o slot first l' g' out')
 |lineO {k o slot ops op l l' g g'}:vO ts ops->ny c ops op->iE l->pL c l=l'->cq g->At c g g'->(op=none\/g'=none)->yZ c ts (.lineO k o slot ops l g) (.lineO k o slot op l' g')
 |unary {o f p slot}:cq f->At c f p->yZ c ts (.unary o f slot) (.unary o p slot)
 |unaryH {o h i slot}:Hd ts h->h.cond≠ff->hI c h=i->yZ c ts (.unaryH o h slot) (.unaryH o i slot)
 |calls {o h i slot xs x names names' g g'}:Hd ts h->hI c h=i->vO ts xs->ny c xs x->iE names->pL c names=names'->cq g->At c g g'->(x=none\/g'=none/\i≠none/\pL c names.tail=[])->yZ c ts (.calls o h slot xs names g) (.calls o i slot x names' g')
 |inside {o f p slot}:cq f->At c f p->yZ c ts (.inside o f slot) (.inside o p slot)
 |listed {par o f p}:cq f->At c f p->yZ c ts (.listed par o f) (.listed par o p)
 |listL {par o l l' g g' fin fin'}:iE l->pL c l=l'->cq g->At c g g'->cq fin->At c fin fin'->(g'=none\/fin'=none)->yZ c ts (.listL par o l g fin) (.listL par o l' g' fin')
 |item {par o f p}:cq f->At c f p->yZ c ts (.item par o f) (.item par o p)
 |behind {typ o f p sign slot}:cq f->At c f p->yZ c ts (.behind typ o f sign slot) (.behind typ o p sign slot)
 |vrb {o f p}:cq f->At c f p->yZ c ts (.vrb o f) (.vrb o p)
 |function {o f p}:cq f->At c f p->yZ c ts (.function o f) (.function o p)
 |block {o f p slot}:cq f->At c f p->yZ c ts (.block o f slot) (.block o p slot)
 |seqL {top o f p l l' out out'}:cq f->At c f p->iE l->pL c l=l'->cq out->At c out out'->(p=none\/out'=none)->yZ c ts (.seqL top o f l out) (.seqL top o p l' out')
 |stmt {o h i}:Hd ts h->h.cond≠ff->hI c h=i->yZ c ts (.stmt o h) (.stmt o i)
 |sCalls {o h i xs x l l' g g'}:Hd ts h->hI c h=i->vO ts xs->ny c xs x->iE l->pL c l=l'->cq g->At c g g'->(x=none\/g'=none/\i≠none/\pL c l.tail=[]/\l≠[])->yZ c ts (.sCalls o h xs l g) (.sCalls o i x l' g')
 |branch {o h i slot}:Hd ts h->h.cond≠ff->hI c h=i->yZ c ts (.branch o h slot) (.branch o i slot)
 |elses {o xs x l l' out out'}:vO ts xs->ny c xs x->iE l->pL c l=l'->cq out->At c out out'->(x=none\/out'=none)->yZ c ts (.elses o xs l out) (.elses o x l' out')
 |ifs {o ys y l l' out out'}:vO ts ys->ny c ys y->iE l->pL c l=l'->cq out->At c out out'->(y=none\/out'=none)->yZ c ts (.ifs o ys l out) (.ifs o y l' out')
end
open Dg
section
variable {c:bP} {ts:List Tok}
def RR.nil(c:bP):RR c ⟨[],[],[]⟩ triv:=⟨cq.nil,trivial,eU,rfl,rfl,rfl⟩
def RR.app{r s:bW}{q u:PR}(h:RR c r q)(k:RR c s u):RR c ⟨s.l,s.f,r.e++s.e⟩ ⟨u.l,u.p,q.e++u.e⟩:=
 ⟨k.fok,k.lok,cI.2 ⟨h.eok,k.eok⟩,k.l,k.f,by rw[cR,h.e,k.e]⟩
def iq{h:aB}(k:h.cond.ok 0)(aa:h.cond≠ff):cq (bv h):=⟨fun s hs=>by simp[bv]at hs;subst hs;exact⟨k,aa⟩,by simp[bv]⟩
def mo{h:aB}(k:h.cond.ok 0)(aa:h.cond≠ff):cq (bX h):=⟨fun s hs=>by simp[bX]at hs;subst hs;exact⟨k,aa⟩,by simp[bX]⟩
def iA(c:bP)(h:aB):At c (bv h) ((hI c h).map (·+1)):=by
 unfold bv hI At;rw[fd];cases h.cond.at' c<;>rfl
def mn(c:bP)(h:aB):At c (bX h) (hI c h):=by
 unfold bX hI At;rw[fd];cases h.cond.at' c<;>rfl
variable{hs:List aB}
def ny.cons{h:aB}{p:Option Nat}(hk:ny c (h::hs) p):(h.cond.at' c=true/\p=some h.at'/\ny c hs none)\/(h.cond.at' c=false/\ny c hs p):=by
 unfold ny at *;rw[lD]at hk;cases hc:h.cond.at' c with
 |false=>rw[hc]at hk;exact .inr ⟨rfl,hk⟩
 |true=>
  rw[hc]at hk;cases p with
  |none=>simp at hk
  |some i=>
   simp only[ZT,Option.toList,abB]at hk;exact .inl ⟨rfl,by rw[hk.1],hk.2⟩
variable{s:Nat×T}
def At.cons{f:ar}{p:Option Nat}(hk:At c (s::f) p):(s.2.at' c=true/\p=some s.1/\At c f none)\/(s.2.at' c=false/\At c f p):=by
 unfold At at *;rw[fd]at hk;cases hc:s.2.at' c with
 |false=>rw[hc]at hk;exact .inr ⟨rfl,hk⟩
 |true=>
  rw[hc]at hk;cases p with
  |none=>simp at hk
  |some i=>
   simp only[ZT,Option.toList,abB]at hk;exact .inl ⟨rfl,by rw[hk.1],hk.2⟩
def cq.tail{f:ar}(h:cq (s::f)):cq f:=⟨fun t ht=>h.1 t (.tail _ ht),(List.pairwise_cons.1 h.2).2⟩
def cq.head{f:ar}(h:cq (s::f)):cq [s]:=⟨fun t ht=>by simp at ht;subst ht;exact h.1 _ (.head _),by simp⟩
def vO.hd{h:aB}(k:vO ts (h::hs)):Hd ts h/\h.cond≠ff:=by
 exact k.1 h (.head _)
def Hd.text{h:aB}(k:Hd ts h):h.text=X ts h.at':=by rw[k.2.1]
def Hd.kind{h:aB}(k:Hd ts h):h.kind=K ts h.at':=by rw[k.2.1]
def rq{l:List Nd}{g:Nd->Option Nd}(h:iE l)(hg:∀n m,Vr n->g n=some m->Vr m):iE (l.filterMap g):=by
 rw[ik]at *;intro m hm;obtain⟨n,hn,e⟩:=List.mem_filterMap.1 hm;exact hg n m (h n hn) e
variable{d:T}
def No{l:List Nd}(hd:d.ok 0)(h:iE l):iE (fX l d):=rq h fun n m hn e=>by
 split at e
 ·cases e
 ·cases e
  rw[fW]at hn |-;exact⟨T.and_ok hn.1 hd,hn.2⟩
def JA{l:List Nd}(hd:d.ok 0)(h:iE l):iE (dH l d):=rq h fun n m hn e=>by
 split at e
 ·cases e
 ·cases e
  rw[fW]at hn |-;exact⟨T.and_ok hn.1 (T.not_ok hd),hn.2⟩
def Mi(c:bP){l:List Nd}(hd:d.ok 0)(h:iE l):pL c (fX l d)=if d.at' c then g9 (pL c l)else []:=by
 induction l with
 |nil=>simp[fX,pL,g9]
 |cons n l ih=>
  have hn:=(fW.1 h.1).1;have ih:=ih h.2;have ha:=T.and_at hn hd c;unfold fX at ih |-;rw[List.filterMap_cons];split
  ·rename_i e;split at e
   ·rename_i e2;rw[ih,cM];rw[e2]at ha;cases aa:d.at' c
    ·rfl
    ·rw[aa,abv]at ha;have:n.cond.at' c=false:=ha.symm;simp[this]
   ·cases e
  ·rename_i m e;split at e
   ·cases e
   ·cases e
    rw[cM,ih,cM];simp only[ha];cases n.cond.at' c<;>cases d.at' c<;>simp[g9]
def zQ(c:bP){l:List Nd}(hd:d.ok 0)(h:iE l):pL c (dH l d)=if d.at' c then []else pL c l:=by
 induction l with
 |nil=>simp[dH,pL]
 |cons n l ih=>
  have hn:=(fW.1 h.1).1;have ih:=ih h.2;have ha:=T.and_at hn (T.not_ok hd) c;rw[T.not_at]at ha;unfold dH at ih |-;rw[List.filterMap_cons];split
  ·rename_i e;split at e
   ·rename_i e2;rw[ih,cM];rw[e2]at ha;cases aa:d.at' c
    ·rw[aa,abK,abv]at ha;have:n.cond.at' c=false:=ha.symm;simp[this]
    ·rfl
   ·cases e
  ·rename_i m e;split at e
   ·cases e
   ·cases e
    rw[cM,ih,cM];simp only[ha];cases n.cond.at' c<;>cases d.at' c<;>simp
def G9{l:List Nd}(hd:d.ok 0)(h:iE l):iE (kJ l d):=by
 cases l with
 |nil=>exact h
 |cons n l=>
  refine⟨?_,h.2⟩;have:=fW.1 h.1;exact fW.2 ⟨T.and_ok this.1 (T.not_ok hd),this.2⟩
def wx(c:bP){l:List Nd}(hd:d.ok 0)(h:iE l):pL c (kJ l d)=if d.at' c then pL c l.tail else pL c l:=by
 cases l with
 |nil=>simp[kJ,pL]
 |cons n l=>
  have hn:=(fW.1 h.1).1;have ha:=T.and_at hn (T.not_ok hd) c;rw[T.not_at]at ha;simp only[kJ,abL];rw[cM,cM];simp only[ha];cases n.cond.at' c<;>cases d.at' c<;>simp
def zt(l:List Nd)(d:T):(kJ l d).tail=l.tail:=by cases l<;>rfl
def im{n:Nd}(h1:n.cond.ok 0)(h2:iE n.kids):iE [n]:=⟨fW.2 ⟨h1,h2⟩,trivial⟩
def gm(c:bP)(n:Nd):pL c [n]=if n.cond.at' c then [{ n with kids:=pL c n.kids,cond:=tt }]else []:=by rw[cM];rfl
def lh(aj:bT ts){f:ar}(hf:cq f){p:Option Nat}(hp:At c f p){g:aB->Option bW}{r:bW}(e:cT ts f g=some r){P:Nat->PR->Prop}
  (hg:∀h x,Hd ts h->h.cond≠ff->g h=some x->if h.cond.at' c then ∃q,P h.at' q/\RR c x q else RR c x triv) :
  match p.map (nx c ts)with
  |none=>RR c r triv
  |some i=>∃q,P i q/\RR c r q:=by
 have hh:=mW aj hf;have ha:=ny.of aj hf hp;unfold cT at e;generalize bE ts f=hs at hh ha e;generalize p.map (nx c ts)=o at ha;have key:∀(hs:List aB) (z:bW) (o:Option Nat) (u:PR),vO ts hs->ny c hs o->RR c z u->(o=none\/u=triv)->lH (fun r h=>match g h with|some x=>if (r.l++x.l).length<=aN then some ⟨r.l++x.l,joinAll r.f x.f,r.e++x.e⟩else none|none=>none) z hs=some r->
   match o with
   |none=>RR c r u
   |some i=>∃q,P i q/\RR c r q:=by
  intro hs
  induction hs with
  |nil=>
   intro z o u hh ha hz ho e;simp only[lH,ZW]at e;subst e;cases o with
   |none=>exact hz
   |some i=>simp[ny,rM]at ha
  |cons h hs ih=>
   intro z o u hh ha hz ho e;obtain⟨hd,ak⟩:=hh.hd;simp only[lH]at e;cases aa:g h with
   |none=>rw[aa]at e;cases e
   |some x=>
    rw[aa]at e;simp only at e;split at e
    case h_2=>cases e
    rename_i b hb;split at hb
    case isFalse=>cases hb
    cases hb
    have hx:=hg h x hd ak aa;rcases ha.cons with ⟨hc,rfl,ac⟩|⟨hc,ac⟩
    ·rw[hc,aaq rfl]at hx;obtain⟨q,hq,hr⟩:=hx;have hu:u=triv:=by rcases ho with ho|ho;cases ho;exact ho
     subst hu;refine⟨q,hq,?_⟩;have:=ih none q hh.tail ac (z:=⟨z.l++x.l,joinAll z.f x.f,z.e++x.e⟩) ?_ (.inl rfl) e
     ·exact this
     ·refine⟨dY (fun s hs=>(hr.fok.1 s hs).1) hz.fok,iN.2 ⟨hz.lok,hr.lok⟩,cI.2 ⟨hz.eok,hr.eok⟩,?_,?_,?_⟩
      ·rw[fq,hz.l,hr.l];rfl
      ·have:=At.joinAll hz.fok hr.fok hz.f hr.f (.inl rfl);exact this
      ·rw[cR,hz.e,hr.e];rfl
    ·rw[hc]at hx;simp only[aa5,Z2]at hx;refine ih o u hh.tail ac (z:=⟨z.l++x.l,joinAll z.f x.f,z.e++x.e⟩) ?_ ho e;refine⟨dY (fun s hs=>(hx.fok.1 s hs).1) hz.fok,iN.2 ⟨hz.lok,hx.lok⟩,cI.2 ⟨hz.eok,hx.eok⟩,?_,?_,?_⟩
     ·rw[fq,hz.l,hx.l];simp[triv]
     ·have:=At.joinAll hz.fok hx.fok hz.f hx.f (.inr rfl);simpa[triv]using this
     ·rw[cR,hz.e,hx.e];simp[triv]
 have:=key hs _ o triv hh ha (RR.nil c) (.inr rfl) e;exact this
end
end Syn
