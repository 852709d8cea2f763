import Derived.Test.YtfaclfkpnmcmlaaGreatDoorJ04
set_option maxHeartbeats 8000000
set_option linter.all false
namespace Syn
open Dg
theorem CA(c:aD):(ff:T).at' c=false:=rfl
def aA(f:ad):Prop:=(∀s∈f,s.2.ok 0/\s.2≠ff)/\f.Pairwise (fun s t=>s.1<t.1)
def bw(Z:List Tok):Prop:=∀t∈Z,t.cond.ok 0
variable{d:T}{a:Nat}
def Is{f:ad}:∀{s},s∈gu f a d->s.1=a\/∃t∈f,t.1=s.1:=by
 induction f with
 |nil=>intro s h;simp[gu]at h;exact .inl (by rw[h])
 |cons x f c=>
  obtain⟨b,e⟩:=x;intro s h;simp only[gu]at h;split at h
  .rcases List.mem_cons.1 h with rfl|h
   .exact .inr ⟨_,.head _,rfl⟩
   .rcases c h with h|⟨t,ht,e⟩
    .exact .inl h
    .exact .inr ⟨t,.tail _ ht,e⟩
  .split at h
   .rcases List.mem_cons.1 h with rfl|h
    .exact .inr ⟨_,.head _,rfl⟩
    .exact .inr ⟨s,.tail _ h,rfl⟩
   .rcases List.mem_cons.1 h with rfl|h
    .exact .inl rfl
    .exact .inr ⟨s,h,rfl⟩
def Um{a b:T}(ha:a.ok 0)(hb:b.ok 0)(h:b≠ff):a.or b≠ff:=by obtain⟨c,d⟩:=T.some_of_ne hb h;intro e;have:=T.or_at ha hb c;rw[e,d]at this;simp[T.at']at this
def Rr{f:ad}(h:aA f)(hd:d.ok 0)(c:d≠ff):aA (gu f a d):=by
 induction f with
 |nil=>exact⟨fun s hs=>by simp[gu]at hs;subst hs;exact⟨hd,c⟩,by simp[gu]⟩
 |cons x f i=>
  obtain⟨b,e⟩:=x;obtain⟨h1,h2⟩:=h;rw[mh]at h2;have g:=h1 _ (.head _);have hf:aA f:=⟨fun s hs=>h1 s (.tail _ hs),h2.2⟩;simp only[gu];split
  .rename_i j;have:=i hf;refine⟨fun s hs=>?_,List.pairwise_cons.2 ⟨fun s hs=>?_,this.2⟩⟩
   .rcases List.mem_cons.1 hs with rfl|hs
    .exact g
    .exact this.1 s hs
   .rcases Is hs with k|⟨t,ht,k⟩
    .show b<s.1;omega
    .have:=h2.1 t ht;show b<s.1;simp only at this;omega
  .split
   .refine⟨fun s hs=>?_,List.pairwise_cons.2 ⟨fun s hs=>h2.1 s hs,h2.2⟩⟩;rcases List.mem_cons.1 hs with rfl|hs
    .exact⟨T.or_ok g.1 hd,Um g.1 hd c⟩
    .exact h1 s (.tail _ hs)
   .refine⟨fun s hs=>?_,List.pairwise_cons.2 ⟨fun s hs=>?_,List.pairwise_cons.2 h2⟩⟩
    .rcases List.mem_cons.1 hs with rfl|hs
     .exact⟨hd,c⟩
     .exact h1 s hs
    .rcases List.mem_cons.1 hs with rfl|hs
     .show a<b;omega
     .have:=h2.1 s hs;show a<s.1;simp only at this;omega
def ir{f:ad}(h:aA f)(hd:d.ok 0):aA (join f a d):=by
 unfold join;split
 .exact h
 .exact Rr h hd (by assumption)
def Su{f:ad}{s}(h:s∈join f a d):s.1=a\/∃t∈f,t.1=s.1:=by
 unfold join at h;split at h
 .exact .inr ⟨s,h,rfl⟩
 .exact Is h
def aA.nil:aA []:=⟨fun s h=>(dH h).elim,List.Pairwise.nil⟩
def lR{g:ad}(a:∀s∈g,s.2.ok 0):∀{f:ad},aA f->aA (joinAll f g):=by
 induction g with
 |nil=>intro f h;exact h
 |cons s g b=>intro f h;exact b (fun t ht=>a t (.tail _ ht)) (ir h (a s (.head _)))
def di(c:aD)(f:ad):List Nat:=(f.filter fun s=>s.2.at' c).map (·.1)
def At(c:aD)(f:ad)(p:Option Nat):Prop:=di c f=p.toList
theorem At.nil(c:aD):At c [] none:=rfl
theorem At.one(c:aD)(a:Nat)(d:T):At c [(a,d)] (if d.at' c then some a else none):=by unfold At di;cases h:d.at' c<;>simp[h]
def iY(l:List Nat)(a:Nat):List Nat:=match l with
 | []=>[a]
 |b::l=>if b<a then b::iY l a else if b=a then b::l else a::b::l
def l4(c:aD)(s:Nat×T)(f:ad):di c (s::f)=if s.2.at' c then s.1::di c f else di c f:=by unfold di;cases h:s.2.at' c<;>simp[h]
def UN{c:aD}{f:ad}{b:Nat}(h:∀s∈f,b<s.1):∀p∈di c f,b<p:=by intro p hp;unfold di at hp;simp only[mg,jZ]at hp;obtain⟨s,⟨hs,_⟩,rfl⟩:=hp;exact h s hs
def Gh{l:List Nat}(h:∀p∈l,a<p):iY l a=a::l:=by
 cases l with
 |nil=>rfl
 |cons b l=>have:=h b (.head _);simp only[iY];rw[ab O,ab O]
def UO(c:aD){f:ad}(h:aA f)(hd:d.ok 0):di c (gu f a d)=if d.at' c then iY (di c f) a else di c f:=by
 induction f with
 |nil=>simp only[gu];rw[l4];rfl
 |cons x f m=>
  obtain⟨b,e⟩:=x;obtain⟨h1,h2⟩:=h;rw[mh]at h2;have n:=h1 _ (.head _);have hf:aA f:=⟨fun s hs=>h1 s (.tail _ hs),h2.2⟩;have g:∀p∈di c f,b<p:=UN h2.1;simp only[gu];split
  .rename_i i;rw[l4,l4,m hf];simp only;cases k:e.at' c<;>cases l:d.at' c<;>simp[iY,i]
  .split
   .rename_i _ j;subst j;rw[l4,l4];simp only[T.or_at n.1 hd];cases k:e.at' c<;>cases l:d.at' c<;>simp[iY,Gh g]
   .rename_i h3 h4;rw[l4,l4];simp only;have:∀p∈di c f,a<p:=fun p hp=>by have:=g p hp;omega
    cases k:e.at' c<;>cases l:d.at' c<;>simp[iY,Gh this,h3,h4]
def mQ(c:aD){f:ad}(h:aA f)(hd:d.ok 0):di c (join f a d)=if d.at' c then iY (di c f) a else di c f:=by
 unfold join;split
 .rename_i e;subst e;simp[T.at']
 .exact UO c h hd
def UP(c:aD){g:ad}(a:∀s∈g,s.2.ok 0):∀{f:ad},aA f->di c (joinAll f g)=(di c g).foldl iY (di c f):=by
 induction g with
 |nil=>intro f h;rfl
 |cons s g b=>intro f h;show di c (joinAll (join f s.1 s.2) g)=_;have hs:=a s (.head _);rw[b (fun t ht=>a t (.tail _ ht)) (ir h hs),mQ c h hs,l4];cases d:s.2.at' c<;>simp
theorem At.joinAll{c:aD}{f g:ad}{p q:Option Nat}(hf:aA f)(a:aA g)(h1:At c f p)(h2:At c g q)(h:p=none\/q=none):At c (joinAll f g) (p.or q):=by
 unfold At at *;rw[UP c (fun s hs=>(a.1 s hs).1) hf,h1,h2];rcases h with rfl|rfl
 .cases q<;>rfl
 .cases p<;>rfl
theorem At.join{c:aD}{f:ad}{p:Option Nat}(hf:aA f)(h1:At c f p)(hd:d.ok 0)(h:d.at' c=true->p=none):At c (join f a d) (if d.at' c then some a else p):=by
 unfold At at *;rw[mQ c hf hd,h1];cases b:d.at' c
 .rfl
 .rw[h b];rfl
def gd(c:aD):List Tok->Nat->Nat
 | [],i=>i
 |t::l,i=>if t.cond.at' c then i else gd c l (i+1)
def nx(c:aD)(Z:List Tok)(p:Nat):Nat:=gd c (Z.drop p) p
def KR{l:List Tok}:∀{a:ad} {i:Nat} {d:T},bw l->aA a->d.ok 0->aA (gF a l i d):=by
 induction l with
 |nil=>intro a i d _ ha hd;exact ir ha hd
 |cons t l c=>
  intro a i d b ha hd;simp only[gF];split
  .exact ha
  .have ht:=b t (.head _);exact c (fun x e=>b x (.tail _ e)) (ir ha (T.and_ok hd ht)) (T.and_ok hd (T.not_ok ht))
def Wd(c:aD){l:List Tok}:∀{a:ad} {i:Nat} {d:T},bw l->aA a->d.ok 0->di c (gF a l i d)=if d.at' c then iY (di c a) (gd c l i)else di c a:=by
 induction l with
 |nil=>intro a i d _ ha hd;exact mQ c ha hd
 |cons t l f=>
  intro a i d b ha hd;simp only[gF];split
  .rename_i e;subst e;simp[T.at']
  .have ht:=b t (.head _);rw[f (fun x g=>b x (.tail _ g)) (ir ha (T.and_ok hd ht)) (T.and_ok hd (T.not_ok ht)),mQ c ha (T.and_ok hd ht),T.and_at hd ht,T.and_at hd (T.not_ok ht),T.not_at];simp only[gd];cases d.at' c<;>cases t.cond.at' c<;>simp
def bw.drop{Z:List Tok}(h:bw Z)(n:Nat):bw (Z.drop n):=fun t ht=>h t (List.mem_of_mem_drop ht)
def E7(c:aD){Z:List Tok}(h:bw Z):∀{f:ad} {a:ad},(∀s∈f,s.2.ok 0)->aA a->aA (f.foldl (fun at' s=>gF at' (Z.drop s.1) s.1 s.2) a)/\
  di c (f.foldl (fun at' s=>gF at' (Z.drop s.1) s.1 s.2) a)=((di c f).map (nx c Z)).foldl iY (di c a):=by
 intro f
 induction f with
 |nil=>intro a _ ha;exact⟨ha,rfl⟩
 |cons s f b=>intro a hf ha;have hs:=hf s (.head _);obtain⟨h1,h2⟩:=b (fun t ht=>hf t (.tail _ ht)) (KR (i:=s.1) (h.drop s.1) ha hs);refine⟨h1,?_⟩;show di c (f.foldl _ (gF a (Z.drop s.1) s.1 s.2))=_;rw[h2,Wd c (h.drop s.1) ha hs,l4];cases s.2.at' c<;>rfl
def KO{Z:List Tok}(h:bw Z){f:ad}(hf:aA f):aA (ll Z f):=(E7 (fun _=>false) h (fun s hs=>(hf.1 s hs).1) aA.nil).1
def Wc{c:aD}{Z:List Tok}(h:bw Z){f:ad}(hf:aA f){p:Option Nat}(hp:At c f p):At c (ll Z f) (p.map (nx c Z)):=by have:=(E7 c h (fun s hs=>(hf.1 s hs).1) aA.nil).2;unfold At at *;show di c (f.foldl _ [])=_;rw[this,hp];cases p<;>rfl
def s5{Z:List Tok}(h:bw Z){f:ad}(hf:aA f):ce Z f=(ll Z f).map (fk Z):=by unfold ce;rw[List.filter_eq_self.2];intro s hs;simpa using ((KO h hf).1 s hs).2
def s4(Z:List Tok)(s:Nat×T):(fk Z s).at'=s.1:=by
 unfold fk;split
 .split<;>rfl
 .rfl
def uI(Z:List Tok)(s:Nat×T):(fk Z s).cond=s.2:=by
 unfold fk;split
 .split<;>rfl
 .rfl
def xF(c:aD):∀(l:List Tok) (i:Nat),i<=gd c l i/\gd c (l.drop (gd c l i-i)) (gd c l i)=gd c l i
 | [],i=>by simp[gd]
 |t::l,i=>by
  cases h:t.cond.at' c with
  |true=>
   have e:gd c (t::l) i=i:=by simp[gd,h]
   rw[e];refine⟨aR _,?_⟩;rw[Nat.sub_self,gV,e]
  |false=>
   have e:gd c (t::l) i=gd c l (i+1):=by simp[gd,h]
   obtain⟨a,b⟩:=xF c l (i+1);rw[e];refine⟨O,?_⟩;have:gd c l (i+1)-i=(gd c l (i+1)-(i+1))+1:=by omega
   rw[this,ls];exact b
def qg(c:aD)(Z:List Tok)(p:Nat):p<=nx c Z p:=(xF c _ p).1
def oK(c:aD)(Z:List Tok)(p:Nat):nx c Z (nx c Z p)=nx c Z p:=by have:=(xF c (Z.drop p) p).2;unfold nx;rw[lr]at this;have h:=qg c Z p;unfold nx at h;rw[show p+(gd c (Z.drop p) p-p)=gd c (Z.drop p) p by omega]at this;exact this
section
variable (Z:List Tok)
def K(i:Nat):Nat:=(fk Z (i,tt)).kind
def X(i:Nat):al:=(fk Z (i,tt)).text
def Il(i:Nat)(d:T):fk Z (i,d)=⟨i,d,K Z i,X Z i⟩:=by
 unfold K X fk;cases Z[i]? with
 |none=>rfl
 |some t=>simp only;split<;>rfl
end
def TM{l:List Nat}{a p:Nat}(h:p∈iY l a):p=a\/p∈l:=by
 induction l with
 |nil=>simp[iY]at h;exact .inl h
 |cons b l c=>
  simp only[iY]at h;split at h
  .rcases List.mem_cons.1 h with rfl|h
   .exact .inr (.head _)
   .rcases c h with h|h
    .exact .inl h
    .exact .inr (.tail _ h)
  .split at h
   .exact .inr h
   .rcases List.mem_cons.1 h with rfl|h
    .exact .inl rfl
    .exact .inr h
def TL{l:List Nat}:∀{a:List Nat} {p:Nat},p∈l.foldl iY a->p∈l\/p∈a:=by
 induction l with
 |nil=>intro a p h;exact .inr h
 |cons x l b=>
  intro a p h;rcases b h with h|h
  .exact .inl (.tail _ h)
  .rcases TM h with rfl|h
   .exact .inl (.head _)
   .exact .inr h
def Hd(Z:List Tok)(h:ah):Prop:=h.cond.ok 0/\h=⟨h.at',h.cond,K Z h.at',X Z h.at'⟩/\∀c,h.cond.at' c=true->nx c Z h.at'=h.at'
def gh(Z:List Tok)(hs:List ah):Prop:=(∀h∈hs,Hd Z h/\h.cond≠ff)/\hs.Pairwise (fun s t=>s.at'<t.at')
def uJ{Z:List Tok}(h:bw Z){f:ad}(hf:aA f):gh Z (ce Z f):=by
 rw[s5 h hf];have hs:=KO h hf;refine⟨fun x g=>?_,?_⟩
 .obtain⟨s,h1,rfl⟩:=List.mem_map.1 g;rw[Hd,uI,s4];refine⟨⟨(hs.1 s h1).1,Il Z s.1 s.2,fun c i=>?_⟩,(hs.1 s h1).2⟩;have hm:s.1∈di c (ll Z f):=List.mem_map.2 ⟨s,List.mem_filter.2 ⟨h1,i⟩,rfl⟩;have:=(E7 c h (fun s hs=>(hf.1 s hs).1) aA.nil).2;unfold ll at hm;rw[this]at hm;rcases TL hm with hm|hm
  .obtain⟨p,_,e⟩:=List.mem_map.1 hm;rw[<-e,oK]
  .cases hm
 .rw[List.pairwise_map];exact hs.2.imp fun{a b} d=>by rw[s4,s4];exact d
def kA(c:aD)(hs:List ah):List Nat:=(hs.filter fun h=>h.cond.at' c).map (·.at')
def dM(c:aD)(hs:List ah)(p:Option Nat):Prop:=kA c hs=p.toList
def UM(c:aD)(Z:List Tok)(f:ad):kA c (f.map (fk Z))=di c f:=by
 induction f with
 |nil=>rfl
 |cons s f a=>
  unfold kA di at *;simp only[ib,hZ,uI];cases s.2.at' c
  .simpa using a
  .simp only[co,ib,s4];rw[a]
def Q4{c:aD}{Z:List Tok}(h:bw Z){f:ad}(hf:aA f){p:Option Nat}(hp:At c f p):dM c (ce Z f) (p.map (nx c Z)):=by unfold dM;rw[s5 h hf,UM];exact Wc h hf hp
open Dg
mutual
def pN(c:aD):M->Option M
 |⟨k,t,o,s,ks,d⟩=>if d.at' c then some ⟨k,t,o,s,pL c ks,tt⟩else none
def pL (c:aD):List M->List M
 | []=>[]
 |n::l=>match pN c n with
  |some m=>m::pL c l
  |none=>pL c l
end
mutual
def xH:M->Prop
 |⟨_,_,_,_,ks,d⟩=>d.ok 0/\cz ks
def cz:List M->Prop
 | []=>True
 |n::l=>xH n/\cz l
end
def jV{l:List M}:cz l<->∀n∈l,xH n:=by
 induction l with
 |nil=>simp[cz]
 |cons n l a=>simp[cz,a]
def jd{n:M}:xH n<->n.cond.ok 0/\cz n.kids:=by cases n;rfl
def lY{a b:List M}:cz (a++b)<->cz a/\cz b:=by simp only[jV,lx];exact⟨fun h=>⟨fun n c=>h n (.inl c),fun n c=>h n (.inr c)⟩,fun h n c=>c.elim (h.1 n) (h.2 n)⟩
def Ut(c:aD)(n:M):pN c n=if n.cond.at' c then some { n with kids:=pL c n.kids,cond:=tt } else none:=by cases n;rfl
def eF(c:aD)(n:M)(l:List M):pL c (n::l)=if n.cond.at' c then { n with kids:=pL c n.kids,cond:=tt }::pL c l else pL c l:=by rw[pL,Ut];split<;>rename_i h<;>split at h<;>simp_all
def gQ(c:aD)(a b:List M):pL c (a++b)=pL c a++pL c b:=by
 induction a with
 |nil=>rfl
 |cons n a d=>rw[aN,eF,eF,d];split<;>rfl
def jC(c:aD)(l ks:List M):pL c (give l ks)=give (pL c l) (pL c ks):=by
 induction l with
 |nil=>rfl
 |cons n l a=>
  have:give (n::l) ks={ n with kids:=n.kids++ks }::give l ks:=rfl;rw[this,eF,eF,a];cases h:n.cond.at' c
  .simp
  .simp[give,gQ]
def jB{l ks:List M}(h1:cz l)(h2:cz ks):cz (give l ks):=by rw[jV]at *;intro n a;obtain⟨m,hm,rfl⟩:=List.mem_map.1 a;have:=jd.1 (h1 m hm);exact jd.2 ⟨this.1,lY.2 ⟨this.2,jV.2 h2⟩⟩
def fx{l ks r:List M}(h:iq l ks=some r):r=give l ks:=by
 unfold iq at h;split at h
 .exact(cW h).symm
 .cases h
def uy{l:List M}{u:Unit}(h:ck l=some u):l.length<=ao:=by
 unfold ck at h;split at h
 .assumption
 .cases h
def pE(c:aD)(e:List aG):List (Nat×Int):=(e.filter fun d=>d.cond.at' c).map fun d=>(d.code,d.tok)
def jb(e:List aG):Prop:=∀d∈e,d.cond.ok 0
def eB(c:aD)(a b:List aG):pE c (a++b)=pE c a++pE c b:=by simp[pE]
def fo{a b:List aG}:jb (a++b)<->jb a/\jb b:=by unfold jb;simp only[lx];exact⟨fun h=>⟨fun n c=>h n (.inl c),fun n c=>h n (.inr c)⟩,fun h n c=>c.elim (h.1 n) (h.2 n)⟩
def jc:jb []:=fun d h=>(dH h).elim
def qm(c:aD)(h:ah)(code:Nat):pE c (db h code)=if h.cond.at' c then [(code,(h.at':Int))]else []:=by unfold pE db;cases a:h.cond.at' c<;>simp[T.at',a]
def AS{h:ah}(a:h.cond.ok 0)(code:Nat):jb (db h code):=by
 intro d hd;simp[db]at hd;rcases hd with rfl|rfl
 .trivial
 .exact a
def vj(c:aD)(h:ah)(hs:List ah):kA c (h::hs)=if h.cond.at' c then h.at'::kA c hs else kA c hs:=by unfold kA;cases a:h.cond.at' c<;>simp[a]
def Dz{α β:Type}{c:aD}(I:α->Prop)(d:α->β)(g:α->ah->α):∀{hs:List ah} {z:α} {p:Option Nat},I z->(∀a h,I a->h∈hs->I (g a h))->(∀a h,I a->h∈hs->h.cond.at' c=false->d (g a h)=d a)->dM c hs p->
  I (hs.foldl g z)/\match p with
  |none=>d (hs.foldl g z)=d z
  |some i=>∃h∈hs,h.at'=i/\h.cond.at' c=true/\∃a,I a/\d a=d z/\d (hs.foldl g z)=d (g a h):=by
 intro hs
 induction hs with
 |nil=>
  intro z p f _ _ hp;cases p with
  |none=>exact⟨f,rfl⟩
  |some i=>simp[dM,kA]at hp
 |cons h hs n=>
  intro z p f h1 h2 hp;unfold dM at hp;rw[vj]at hp;have hI:=h1 z h f (.head _);have k:∀a x,I a->x∈hs->I (g a x):=fun a x ha m=>h1 a x ha (.tail _ m);have j:∀a x,I a->x∈hs->x.cond.at' c=false->d (g a x)=d a:=fun a x ha m=>h2 a x ha (.tail _ m);cases l:h.cond.at' c with
  |false=>
   rw[l]at hp;obtain⟨a,b⟩:=n (z:=g z h) (p:=p) hI k j hp;refine⟨a,?_⟩;have e:=h2 z h f (.head _) l;cases p with
   |none=>exact b.trans e
   |some i=>obtain⟨x,u,t,s,y,r,q,o⟩:=b;exact⟨x,.tail _ u,t,s,y,r,q.trans e,o⟩
  |true=>
   rw[l]at hp;cases p with
   |none=>simp at hp
   |some i=>simp only[co,Option.toList,mZ]at hp;obtain⟨e1,e2⟩:=hp;obtain⟨a,b⟩:=n (z:=g z h) (p:=none) hI k j e2;exact⟨a,h,.head _,e1,l,z,f,rfl,b⟩
section
variable (Z:List Tok)
def gh.mem{Z:List Tok}{hs:List ah}(h:gh Z hs){x:ah}(c:x∈hs):x.cond.ok 0/\x.cond≠ff/\x=⟨x.at',x.cond,K Z x.at',X Z x.at'⟩:=by obtain⟨⟨a,e,_⟩,b⟩:=h.1 x c;exact⟨a,b,e⟩
def de(c:aD)(p:Option Nat)(s:al):Option Nat×List (Nat×Int):=
 match p.map (nx c Z)with
 |none=>(none,[])
 |some i=>if X Z i=s then (some (i+1),[])else (none,[(10,(i:Int))])
structure PR where
 l:List M
 p:Option Nat
 e:List (Nat×Int)
def bS(c:aD)(p:Option Nat)(kind slot:Nat):PR:=
 match p.map (nx c Z)with
 |none=>⟨[],none,[]⟩
 |some i=>if K Z i≠1\/fy (X Z i)=true then ⟨[],none,[(10,(i:Int))]⟩else ⟨[⟨kind,X Z i,i,slot,[],tt⟩],some (i+1),[]⟩
def fL(c:aD)(p:Option Nat)(slot:Nat):PR:=
 match p.map (nx c Z)with
 |none=>⟨[],none,[]⟩
 |some i=>if X Z i≠nZ/\X Z i≠nY then ⟨[],none,[(10,(i:Int))]⟩else ⟨[⟨5,X Z i,i,slot,[],tt⟩],some (i+1),[]⟩
end
structure RR(c:aD)(r:aw)(q:PR):Prop where
 fok:aA r.f
 lok:cz r.l
 eok:jb r.e
 l:pL c r.l=q.l
 f:At c r.f q.p
 e:pE c r.e=q.e
def dM.of{c:aD}{Z:List Tok}(a:bw Z){f:ad}(hf:aA f){p:Option Nat}(hp:At c f p):dM c (ce Z f) (p.map (nx c Z)):=Q4 a hf hp
def BK{c:aD}{Z:List Tok}(k:bw Z){f:ad}(hf:aA f){p:Option Nat}(hp:At c f p)(s:al):
  aA (take Z f s).1/\jb (take Z f s).2/\At c (take Z f s).1 (de Z c p s).1/\pE c (take Z f s).2=(de Z c p s).2:=by
 have n:=uJ k hf;have ha:=dM.of k hf hp;have key:=Dz (c:=c) (fun(a:ad×List aG)=>aA a.1/\jb a.2) (fun a=>(di c a.1,pE c a.2)) (fun(x:ad×List aG) h=>match x with|(out,e)=>if h.text=s then (join out (h.at'+1) h.cond,e)else (out,e++db h 10)) (hs:=ce Z f) (z:=([],[])) ⟨aA.nil,jc⟩
  (fun a h b hm=>by
   obtain⟨g,_,_⟩:=n.mem hm;simp only;split
   .exact⟨ir b.1 g,b.2⟩
   .exact⟨b.1,fo.2 ⟨b.2,AS g 10⟩⟩)
  (fun a h b hm m=>by
   obtain⟨g,_,_⟩:=n.mem hm;simp only;split
   .simp only[mQ c b.1 g,m,dK,dD]
   .simp only[eB,qm,m,dK,dD,Y]) ha
 unfold take qi;obtain⟨⟨g,t⟩,j⟩:=key;refine⟨g,t,?_⟩;unfold At de;cases l:p.map (nx c Z)with
 |none=>rw[l]at j;simp only[ij]at j;exact j
 |some i=>
  rw[l]at j;obtain⟨h,hm,e1,m,a,b,e2,d⟩:=j;obtain⟨r,_,q⟩:=n.mem hm;subst e1;have u:h.text=X Z h.at':=by rw[q]
  simp only[ij]at e2 d;have o:di c a.1=[]:=e2.1;have ee:pE c a.2=[]:=e2.2;simp only[u]at d |-;split
  .rename_i hs;rw[ag hs]at d;refine⟨?_,?_⟩
   .rw[d.1];simp only[mQ c b.1 r,m,co,o];rfl
   .rw[d.2];exact ee
  .rename_i hs;rw[ab hs]at d;refine⟨?_,?_⟩
   .rw[d.1];exact o
   .rw[d.2];simp only[eB,qm,m,co,ee];rfl
def KK(is:ah->Bool):∀(hs:List ah) (z:List ah×ad),hs.foldl (fun(x:List ah×ad) h=>match x with|(yes,no)=>if is h then (yes++[h],no)else (yes,join no h.at' h.cond)) z=(z.1++hs.filter is,(hs.filter fun h=>!is h).foldl joinH z.2)
 | [],z=>by simp
 |h::hs,z=>by rw[gW,KK is hs];cases hi:is h<;>simp[hi,joinH]
def BA(Z:List Tok)(f:ad)(is:ah->Bool):bM Z f is=((ce Z f).filter is,((ce Z f).filter fun h=>!is h).foldl joinH []):=by unfold bM qi;rw[KK];simp
variable{hs:List ah}
def gh.filter{Z:List Tok}(h:gh Z hs)(is:ah->Bool):gh Z (hs.filter is):=
 ⟨fun x a=>h.1 x ((List.mem_filter.1 a).1),h.2.sublist List.filter_sublist⟩
def gh.tail{Z:List Tok}{x:ah}(h:gh Z (x::hs)):gh Z hs:=⟨fun y a=>h.1 y (.tail _ a),(List.pairwise_cons.1 h.2).2⟩
def EL(c:aD){is:ah->Bool}{isI:Nat->Bool}:∀{hs:List ah},(∀h∈hs,is h=isI h.at')->kA c (hs.filter is)=(kA c hs).filter isI
 | [],_=>rfl
 |h::hs,hi=>by have a:=EL c (is:=is) (isI:=isI) (hs:=hs) fun x b=>hi x (.tail _ b);have h0:=hi h (.head _);rw[hZ,vj];cases d:h.cond.at' c<;>cases hs:is h<;>rw[hs]at h0<;>simp[a,vj,d,<-h0]
def s6:∀{f:ad},aA f->(∀h∈hs,h.cond.ok 0)->aA (hs.foldl joinH f):=by
 induction hs with
 |nil=>intro f h _;exact h
 |cons x hs b=>intro f h a;exact b (ir h (a x (.head _))) fun y c=>a y (.tail _ c)
def IA:∀{f:ad},aA f->(∀h∈hs,h.cond.ok 0)->aA (hs.foldl joinH1 f):=by
 induction hs with
 |nil=>intro f h _;exact h
 |cons x hs b=>intro f h a;exact b (ir h (a x (.head _))) fun y c=>a y (.tail _ c)
def IC(c:aD):∀{f:ad},aA f->(∀h∈hs,h.cond.ok 0)->di c (hs.foldl joinH f)=(kA c hs).foldl iY (di c f):=by
 induction hs with
 |nil=>intro f h _;rfl
 |cons x hs d=>intro f h b;have a:=b x (.head _);rw[gW,d (show aA (joinH f x) from ir h a) fun y e=>b y (.tail _ e)];show List.foldl iY (di c (join f x.at' x.cond)) _=_;rw[mQ c h a,vj];cases x.cond.at' c<;>rfl
def Sr(c:aD):∀{f:ad},aA f->(∀h∈hs,h.cond.ok 0)->di c (hs.foldl joinH1 f)=((kA c hs).map (·+1)).foldl iY (di c f):=by
 induction hs with
 |nil=>intro f h _;rfl
 |cons x hs d=>intro f h b;have a:=b x (.head _);rw[gW,d (show aA (joinH1 f x) from ir h a) fun y e=>b y (.tail _ e)];show List.foldl iY (di c (join f (x.at'+1) x.cond)) _=_;rw[mQ c h a,vj];cases x.cond.at' c<;>rfl
variable{q:Option Nat}
theorem At.joinH{c:aD}{f:ad}{p:Option Nat}(hf:aA f)(a:∀h∈hs,h.cond.ok 0)(h1:At c f p)(h2:dM c hs q)(h:p=none\/q=none):At c (hs.foldl Syn.joinH f) (p.or q):=by
 unfold At dM at *;rw[IC c hf a,h1,h2];rcases h with rfl|rfl
 .cases q<;>rfl
 .cases p<;>rfl
theorem At.joinH1{c:aD}{f:ad}{p:Option Nat}(hf:aA f)(a:∀h∈hs,h.cond.ok 0)(h1:At c f p)(h2:dM c hs q)(h:p=none\/q=none):At c (hs.foldl Syn.joinH1 f) (p.or (q.map (·+1))):=by
 unfold At dM at *;rw[Sr c hf a,h1,h2];rcases h with rfl|rfl
 .cases q<;>rfl
 .cases p<;>rfl
def gh.conds{Z:List Tok}(h:gh Z hs):∀x∈hs,x.cond.ok 0:=fun x a=>(h.1 x a).1.1
def oY{c:aD}{Z:List Tok}(a:bw Z){f:ad}(hf:aA f){p:Option Nat}(hp:At c f p){is:ah->Bool}(isI:Nat->Bool)(hi:∀i d,is ⟨i,d,K Z i,X Z i⟩=isI i):
  gh Z (bM Z f is).1/\aA (bM Z f is).2/\dM c (bM Z f is).1 ((p.map (nx c Z)).filter isI)/\At c (bM Z f is).2 ((p.map (nx c Z)).filter fun i=>!isI i):=by
 have g:=uJ a hf;have ha:=dM.of a hf hp;have e:∀h∈ce Z f,is h=isI h.at':=fun h hm=>by have:=(g.mem hm).2.2;rw[this];exact hi _ _
 have b:∀h∈ce Z f,(!is h)=!isI h.at':=fun h hm=>by rw[e h hm]
 rw[BA];refine⟨g.filter _,s6 aA.nil (g.filter _).conds,?_,?_⟩
 .unfold dM at *;rw[EL c e,ha];cases p.map (nx c Z)with
  |none=>rfl
  |some i=>cases h:isI i<;>simp[Option.filter,h]
 .unfold At dM at *;simp only;rw[IC c aA.nil (g.filter _).conds,EL (isI:=fun i=>!isI i) c b,ha];cases p.map (nx c Z)with
  |none=>rfl
  |some i=>cases h:isI i<;>simp[Option.filter,h]<;>rfl
def uX{c:aD}{Z:List Tok}(m:bw Z){f:ad}(hf:aA f){p:Option Nat}(hp:At c f p)(kind slot:Nat):RR c (named Z f kind slot) (bS Z c p kind slot):=by
 have t:=uJ m hf;have ha:=dM.of m hf hp;have key:=Dz (c:=c) (fun(r:aw)=>aA r.f/\cz r.l/\jb r.e) (fun r=>(pL c r.l,di c r.f,pE c r.e)) (fun(r:aw) h=>if h.kind≠1\/fy h.text=true then { r with e:=r.e++db h 10 } else ⟨r.l++[⟨kind,h.text,h.at',slot,[],h.cond⟩],join r.f (h.at'+1) h.cond,r.e⟩) (hs:=ce Z f) (z:=⟨[],[],[]⟩) ⟨aA.nil,trivial,jc⟩
  (fun a h k hm=>by
   obtain⟨b,_,_⟩:=t.mem hm;obtain⟨s,i2,i3⟩:=k;split
   .exact⟨s,i2,fo.2 ⟨i3,AS b 10⟩⟩
   .exact⟨ir s b,lY.2 ⟨i2,⟨b,trivial⟩,trivial⟩,i3⟩)
  (fun a h k hm j=>by
   obtain⟨b,_,_⟩:=t.mem hm;obtain⟨s,i2,i3⟩:=k;split
   .simp only[eB,qm,j,dK,dD,Y]
   .simp only[mQ c s b,gQ,eF,j,dK,dD];simp[pL]) ha
 unfold named qi;obtain⟨⟨b,q,o⟩,g⟩:=key;unfold bS;cases n:p.map (nx c Z)with
 |none=>rw[n]at g;simp only[ij]at g;exact⟨b,q,o,g.1,g.2.1,g.2.2⟩
 |some i=>
  rw[n]at g;obtain⟨h,hm,e1,j,a,k,e2,d⟩:=g;obtain⟨x,_,u⟩:=t.mem hm;subst e1;have y:h.text=X Z h.at':=by rw[u]
  have A:h.kind=K Z h.at':=by rw[u]
  simp only[ij]at e2 d;have w:pL c a.l=[]:=e2.1;have v:di c a.f=[]:=e2.2.1;have ee:pE c a.e=[]:=e2.2.2;simp only[y,A]at d b q o |-;split
  .rename_i hs;simp only[ag hs]at d;refine⟨b,q,o,?_,?_,?_⟩
   .rw[d.1];exact w
   .unfold At;rw[d.2.1];exact v
   .rw[d.2.2];simp only[eB,qm,j,co,ee];rfl
  .rename_i hs;simp only[ab hs]at d;refine⟨b,q,o,?_,?_,?_⟩
   .rw[d.1,gQ,w,eF,j];rfl
   .unfold At;rw[d.2.1,mQ c k.1 x,j,v];rfl
   .rw[d.2.2];exact ee
def KP(a:ad)(l:List Tok)(i:Nat):gF a l i ff=a:=by
 cases l with
 |nil=>simp[gF,join]
 |cons t l=>simp[gF]
def Q5{Z:List Tok}(g:bw Z){h:ah}(hd:Hd Z h)(d:h.cond≠ff):ce Z (bG h)=[h]:=by
 obtain⟨f,m,n⟩:=hd;have hf:aA (bG h):=⟨fun s hs=>by simp[bG]at hs;subst hs;exact⟨f,d⟩,by simp[bG]⟩;rw[s5 g hf];have:ll Z (bG h)=[(h.at',h.cond)]:=by
  show gF [] (Z.drop h.at') h.at' h.cond=_;have k:join [] h.at' h.cond=[(h.at',h.cond)]:=by simp[join,d,gu]
  cases hd:Z.drop h.at' with
  |nil=>exact k
  |cons t l=>
   have ht:t.cond.ok 0:=g t (List.mem_of_mem_drop (i:=h.at') (by rw[hd];exact .head _));have b:∀c,h.cond.at' c=true->t.cond.at' c=true:=fun c a=>by
    have h1:=n c a;unfold nx at h1;rw[hd]at h1;cases j:t.cond.at' c with
    |true=>rfl
    |false=>
     have e:gd c (t::l) h.at'=gd c l (h.at'+1):=by simp[gd,j]
     rw[e]at h1;have:=(xF c l (h.at'+1)).1;omega
   have e1:h.cond.and t.cond=h.cond:=T.ext (T.and_ok f ht) f fun c=>by
    rw[T.and_at f ht];cases a:h.cond.at' c with
    |false=>rfl
    |true=>rw[b c a];rfl
   have e2:h.cond.and t.cond.not=ff:=T.ext (T.and_ok f (T.not_ok ht)) (show ff.ok 0 from trivial) fun c=>by
    rw[T.and_at f (T.not_ok ht),T.not_at];cases a:h.cond.at' c with
    |false=>rfl
    |true=>rw[b c a];rfl
   simp only[gF,ab d,e1,e2,k,KP]
 rw[this,List.map_singleton,Il,<-m]
def JA{Z:List Tok}(b:bw Z){h:ah}(hd:Hd Z h)(a:h.cond≠ff)(kind slot:Nat):
  named Z (bG h) kind slot=if h.kind≠1\/fy h.text=true then ⟨[],[],db h 10⟩else ⟨[⟨kind,h.text,h.at',slot,[],h.cond⟩],bT h,[]⟩:=by
 unfold named qi;rw[Q5 b hd a];simp only[gW,List.foldl_nil,aM];split
 .rfl
 .simp[join,a,gu,bT]
def FD{c:aD}{Z:List Tok}(m:bw Z){f:ad}(hf:aA f){p:Option Nat}(hp:At c f p)(slot:Nat):RR c (hU Z f slot) (fL Z c p slot):=by
 have t:=uJ m hf;have ha:=dM.of m hf hp;have key:=Dz (c:=c) (fun(r:aw)=>aA r.f/\cz r.l/\jb r.e) (fun r=>(pL c r.l,di c r.f,pE c r.e)) (fun(r:aw) h=>if h.text≠nZ/\h.text≠nY then { r with e:=r.e++db h 10 } else ⟨r.l++[⟨5,h.text,h.at',slot,[],h.cond⟩],join r.f (h.at'+1) h.cond,r.e⟩) (hs:=ce Z f) (z:=⟨[],[],[]⟩) ⟨aA.nil,trivial,jc⟩
  (fun a h k hm=>by
   obtain⟨b,_,_⟩:=t.mem hm;obtain⟨s,i2,i3⟩:=k;split
   .exact⟨s,i2,fo.2 ⟨i3,AS b 10⟩⟩
   .exact⟨ir s b,lY.2 ⟨i2,⟨b,trivial⟩,trivial⟩,i3⟩)
  (fun a h k hm j=>by
   obtain⟨b,_,_⟩:=t.mem hm;obtain⟨s,i2,i3⟩:=k;split
   .simp only[eB,qm,j,dK,dD,Y]
   .simp only[mQ c s b,gQ,eF,j,dK,dD];simp[pL]) ha
 unfold hU qi;obtain⟨⟨b,q,o⟩,g⟩:=key;unfold fL;cases n:p.map (nx c Z)with
 |none=>rw[n]at g;simp only[ij]at g;exact⟨b,q,o,g.1,g.2.1,g.2.2⟩
 |some i=>
  rw[n]at g;obtain⟨h,hm,e1,j,a,k,e2,d⟩:=g;obtain⟨x,_,w⟩:=t.mem hm;subst e1;have y:h.text=X Z h.at':=by rw[w]
  simp only[ij]at e2 d;have v:pL c a.l=[]:=e2.1;have u:di c a.f=[]:=e2.2.1;have ee:pE c a.e=[]:=e2.2.2;simp only[y]at d b q o |-;split
  .rename_i hs;simp only[ag hs]at d;refine⟨b,q,o,?_,?_,?_⟩
   .rw[d.1];exact v
   .unfold At;rw[d.2.1];exact u
   .rw[d.2.2];simp only[eB,qm,j,co,ee];rfl
  .rename_i hs;simp only[ab hs]at d;refine⟨b,q,o,?_,?_,?_⟩
   .rw[d.1,gQ,v,eF,j];rfl
   .unfold At;rw[d.2.1,mQ c k.1 x,j,u];rfl
   .rw[d.2.2];exact ee
open Dg
inductive gY where
 |line (k o:Nat) (p:Option Nat) (slot:Nat)
 |lineL (k o:Nat) (slot:Nat) (first:Bool) (l:List M) (g out:Option Nat)
 |lineO (k o:Nat) (slot:Nat) (op:Option Nat) (l:List M) (g:Option Nat)
 |unary (o:Nat) (p:Option Nat) (slot:Nat)
 |unaryH (o:Nat) (i:Option Nat) (slot:Nat)
 |calls (o:Nat) (i:Option Nat) (slot:Nat) (x:Option Nat) (names:List M) (g:Option Nat)
 |inside (o:Nat) (p:Option Nat) (slot:Nat)
 |listed (par:Bool) (o:Nat) (p:Option Nat)
 |listL (par:Bool) (o:Nat) (l:List M) (g fin:Option Nat)
 |item (par:Bool) (o:Nat) (p:Option Nat)
 |behind (typ:Bool) (o:Nat) (p:Option Nat) (sign:al) (slot:Nat)
 |vrb (o:Nat) (p:Option Nat)
 |function (o:Nat) (p:Option Nat)
 |block (o:Nat) (p:Option Nat) (slot:Nat)
 |seqL (top:Bool) (o:Nat) (p:Option Nat) (l:List M) (out:Option Nat)
 |stmt (o:Nat) (i:Option Nat)
 |sCalls (o:Nat) (i:Option Nat) (x:Option Nat) (l:List M) (g:Option Nat)
 |branch (o:Nat) (i:Option Nat) (slot:Nat)
 |elses (o:Nat) (x:Option Nat) (l:List M) (out:Option Nat)
 |ifs (o:Nat) (y:Option Nat) (l:List M) (out:Option Nat)
abbrev jJ:=gY->Option PR
def triv:PR:=⟨[],none,[]⟩
def slot0(l:List M):List M:=l.map fun n=>{ n with slot:=0 }
def jg(kind:Nat)(i:Option Nat)(slot:Nat):List M:=i.toList.map fun(i:Nat)=>⟨kind,[],(i:Int),slot,[],tt⟩
section
variable (c:aD) (Z:List Tok) (rec:jJ)
def bq(p:Option Nat)(is:Nat->Bool):Option Nat:=(p.map (nx c Z)).filter is
def aY(s:al)(i:Nat):Bool:=decide (X Z i=s)
def kw(k i:Nat):Bool:=decide (K Z i=3) && decide (fQ (X Z i)=k)
def rS(k o slot:Nat)(op:Option Nat)(l:List M)(g:Option Nat):Option PR:=
 match op with
 |none=>some ⟨l,g,[]⟩
 |some i=>do
  let a <-rec (.line (k+1) o (some (i+1)) 1)
  some ⟨[⟨13,X Z i,i,slot,slot0 l++a.l,tt⟩],a.p,a.e⟩
def oQ(k o slot:Nat)(first:Bool)(l:List M)(g out:Option Nat):Option PR:=
 match g with
 |none=>some ⟨l,out,[]⟩
 |some p=>
  if k=2/\first=false then some ⟨l,some p,[]⟩
  else do
   let a <-rec (.lineO k o slot (bq c Z (some p) (kw Z k)) l none)
   let b <-rec (.lineL k o slot false a.l a.p (bq c Z (some p) fun i=>!kw Z k i))
   some ⟨b.l,b.p,a.e++b.e⟩
def mN(k o:Nat)(p:Option Nat)(slot:Nat):Option PR:=
 if k=5 then rec (.unary o p slot)
 else do
  let a <-rec (.line (k+1) o p slot)
  let b <-rec (.lineL k o slot true a.l a.p none)
  some ⟨b.l,b.p,a.e++b.e⟩
def jW(o:Nat)(i:Option Nat)(slot:Nat):Option PR:=
 match i with
 |none=>some triv
 |some i=>
  if X Z i=sd\/X Z i=o5 then
   if o=64 then some ⟨[],none,[(11,(i:Int))]⟩
   else do
    let a <-rec (.unary (o+1) (some (i+1)) 0)
    some ⟨[⟨14,X Z i,i,slot,a.l,tt⟩],a.p,a.e⟩
  else if X Z i=cg then rec (.inside o (some i) slot)
  else if K Z i=2 then some ⟨[⟨15,X Z i,i,slot,[],tt⟩],some (i+1),[]⟩
  else if X Z i=o6\/X Z i=qD then some ⟨[⟨16,X Z i,i,slot,[],tt⟩],some (i+1),[]⟩
  else if X Z i=tD then some ⟨[⟨17,[],i,slot,[],tt⟩],some (i+1),[]⟩
  else do
   let a:=bS Z c (some i) 18 slot
   let b <-rec (.calls o (some i) slot (bq c Z a.p (aY Z cg)) a.l (bq c Z a.p fun i=>!aY Z cg i))
   some ⟨b.l,b.p,a.e++b.e⟩
def oN(o:Nat)(i:Option Nat)(slot:Nat)(x:Option Nat)(names:List M)(g:Option Nat):Option PR:=
 match i,x with
 |some i,some x=>do
  let a <-rec (.listed false o (some x))
  some ⟨[⟨19,X Z i,i,slot,a.l,tt⟩],a.p,a.e⟩
 |_,_=>some ⟨names,g,[]⟩
def vh(o:Nat)(p:Option Nat)(slot:Nat):Option PR:=rec (.unaryH o (p.map (nx c Z)) slot)
def nH(o:Nat)(p:Option Nat)(slot:Nat):Option PR:=
 match p.map (nx c Z)with
 |none=>some triv
 |some i=>
  if X Z i≠cg then some ⟨[],none,[(10,(i:Int))]⟩
  else if o=64 then some ⟨[],none,[(11,(i:Int))]⟩
  else do
   let a <-rec (.line 0 (o+1) (some (i+1)) slot)
   some ⟨a.l,(de Z c a.p dm).1,a.e++(de Z c a.p dm).2⟩
def nI(par:Bool)(o:Nat)(p:Option Nat):Option PR:=
 match p.map (nx c Z)with
 |none=>some triv
 |some i=>
  if X Z i≠cg then some ⟨[],none,[(10,(i:Int))]⟩
  else if o=64 then some ⟨[],none,[(11,(i:Int))]⟩
  else do
   let a <-rec (.listL par (o+1) [] (bq c Z (some (i+1)) fun i=>!aY Z dm i) (bq c Z (some (i+1)) (aY Z dm)))
   some ⟨a.l,(de Z c a.p dm).1,a.e++(de Z c a.p dm).2⟩
def rT(par:Bool)(o:Nat)(l:List M)(g fin:Option Nat):Option PR:=
 match g with
 |none=>some ⟨l,fin,[]⟩
 |some p=>do
  let a <-rec (.item par o (some p))
  let b <-rec (.listL par o (l++a.l) ((bq c Z a.p (aY Z eM)).map (·+1)) (bq c Z a.p fun i=>!aY Z eM i))
  some ⟨b.l,b.p,a.e++b.e⟩
def oP(par:Bool)(o:Nat)(p:Option Nat):Option PR:=
 if par then
  let a:=bS Z c p 4 0
  let g:=de Z c a.p du
  let b:=fL Z c g.1 0
  some ⟨give a.l b.l,b.p,a.e++g.2++b.e⟩
 else rec (.line 0 o p 0)
def mL(typ:Bool)(o:Nat)(p:Option Nat)(slot:Nat):Option PR:=if typ then some (fL Z c p slot)else rec (.line 0 o p slot)
def oM(typ:Bool)(o:Nat)(p:Option Nat)(sign:al)(slot:Nat):Option PR:=do
 let a <-mL c Z rec typ o ((bq c Z p (aY Z sign)).map (·+1)) slot
 some ⟨a.l,(bq c Z p fun i=>!aY Z sign i).or a.p,a.e⟩
def qr(o:Nat)(p:Option Nat):Option PR:=do
 let a:=bS Z c p 2 0
 let g1:=de Z c a.p du
 let b:=fL Z c g1.1 0
 let d <-rec (.behind false o b.p iw 1)
 let g2:=de Z c d.p bO
 some ⟨give (give a.l b.l) d.l,g2.1,a.e++g1.2++b.e++d.e++g2.2⟩
def qp(o:Nat)(p:Option Nat):Option PR:=do
 let a:=bS Z c p 3 0
 let b <-rec (.listed true o a.p)
 let d <-rec (.behind true o b.p du 1)
 let e <-rec (.block o d.p 2)
 some ⟨give (give (give a.l b.l) d.l) e.l,e.p,a.e++b.e++d.e++e.e⟩
def nF(o:Nat)(p:Option Nat)(slot:Nat):Option PR:=
 match p.map (nx c Z)with
 |none=>some triv
 |some i=>
  if X Z i≠qE then some ⟨[],none,[(10,(i:Int))]⟩
  else if o=64 then some ⟨[],none,[(11,(i:Int))]⟩
  else do
   let a <-rec (.seqL false (o+1) (some (i+1)) [] none)
   some ⟨[⟨6,[],i,slot,a.l,tt⟩],(de Z c a.p iR).1,a.e++(de Z c a.p iR).2⟩
def Bc(top:Bool)(i:Nat):Bool:=if top then decide (i=Z.length)else decide (X Z i=iR)
def nJ(o:Nat)(i:Nat):Option PR:=
 if X Z i=mX then rec (.vrb o (some (i+1)))
 else if X Z i=tz then rec (.function o (some (i+1)))
 else some ⟨[],none,[(10,(i:Int))]⟩
def kY(top:Bool)(o i:Nat):Option PR:=if top then nJ Z rec o i else rec (.stmt o (some i))
def oS(top:Bool)(o:Nat)(p:Option Nat)(l:List M)(out:Option Nat):Option PR:=
 match p.map (nx c Z)with
 |none=>some ⟨l,out,[]⟩
 |some i=>
  if Bc Z top i then some ⟨l,some i,[]⟩
  else do
   let a <-kY Z rec top o i
   let b <-rec (.seqL top o a.p (l++a.l) none)
   some ⟨b.l,b.p,a.e++b.e⟩
def kz(o:Nat)(i:Option Nat):Option PR:=
 match i with
 |none=>some triv
 |some i=>
  if X Z i=mX then rec (.vrb o (some (i+1)))
  else if X Z i=eG then rec (.branch o (some i) 0)
  else if X Z i=tF then do
   let a <-rec (.inside o (some (i+1)) 0)
   let b <-rec (.block o a.p 1)
   some ⟨give (give (jg 9 (some i) 0) a.l) b.l,b.p,a.e++b.e⟩
  else if X Z i=qE then rec (.block o (some i) 0)
  else if X Z i=tE then do
   let a <-rec (.line 0 o (bq c Z (some (i+1)) fun i=>!aY Z bO i) 0)
   let g:=de Z c (a.p.or (bq c Z (some (i+1)) (aY Z bO))) bO
   some ⟨give (jg 10 (some i) 0) a.l,g.1,a.e++g.2⟩
  else if X Z i=tC\/X Z i=jF then do
   let a <-rec (.line 0 o (some (i+1)) 0)
   let g:=de Z c a.p bO
   some ⟨give (jg (if X Z i=jF then 12 else 11) (some i) 0) a.l,g.1,a.e++g.2⟩
  else do
   let a:=bS Z c (some i) 7 0
   let g1:=de Z c (bq c Z a.p fun i=>!aY Z cg i) iw
   let b <-rec (.line 0 o g1.1 0)
   let d <-rec (.sCalls o (some i) (bq c Z a.p (aY Z cg)) (give a.l b.l) b.p)
   let g2:=de Z c d.p bO
   some ⟨d.l,g2.1,a.e++g1.2++b.e++d.e++g2.2⟩
def oR(o:Nat)(i:Option Nat)(x:Option Nat)(l:List M)(g:Option Nat):Option PR:=
 match i,x with
 |some i,some x=>do
  let a <-rec (.listed false o (some x))
  some ⟨[⟨19,X Z i,i,0,a.l,tt⟩],a.p,a.e⟩
 |_,_=>some ⟨l,g,[]⟩
def ql(o:Nat)(i:Option Nat)(slot:Nat):Option PR:=do
 let a <-rec (.inside o (i.map (·+1)) 0)
 let b <-rec (.block o a.p 1)
 let d <-rec (.elses o (bq c Z b.p (aY Z iQ)) (give (give (jg 8 i slot) a.l) b.l) (bq c Z b.p fun i=>!aY Z iQ i))
 some ⟨d.l,d.p,a.e++b.e++d.e⟩
def qo(o:Nat)(x:Option Nat)(l:List M)(out:Option Nat):Option PR:=
 match x with
 |none=>some ⟨l,out,[]⟩
 |some j=>do
  let a <-rec (.block o (bq c Z (some (j+1)) fun i=>!aY Z eG i) 2)
  let b <-rec (.ifs o (bq c Z (some (j+1)) (aY Z eG)) (give l a.l) a.p)
  some ⟨b.l,b.p,a.e++b.e⟩
def qq(o:Nat)(y:Option Nat)(l:List M)(out:Option Nat):Option PR:=
 match y with
 |none=>some ⟨l,out,[]⟩
 |some j=>
  if o=64 then some ⟨l,out,[(11,(j:Int))]⟩
  else do
   let a <-rec (.branch (o+1) (some j) 2)
   some ⟨give l a.l,a.p,a.e⟩
def ay:gY->Option PR
 | .line k o p slot=>mN rec k o p slot
 | .lineL k o slot first l g out=>oQ c Z rec k o slot first l g out
 | .lineO k o slot op l g=>rS Z rec k o slot op l g
 | .unary o p slot=>vh c Z rec o p slot
 | .unaryH o i slot=>jW c Z rec o i slot
 | .calls o i slot x names g=>oN Z rec o i slot x names g
 | .inside o p slot=>nH c Z rec o p slot
 | .listed par o p=>nI c Z rec par o p
 | .listL par o l g fin=>rT c Z rec par o l g fin
 | .item par o p=>oP c Z rec par o p
 | .behind typ o p sign slot=>oM c Z rec typ o p sign slot
 | .vrb o p=>qr c Z rec o p
 | .function o p=>qp c Z rec o p
 | .block o p slot=>nF c Z rec o p slot
 | .seqL top o p l out=>oS c Z rec top o p l out
 | .stmt o i=>kz c Z rec o i
 | .sCalls o i x l g=>oR Z rec o i x l g
 | .branch o i slot=>ql c Z rec o i slot
 | .elses o x l out=>qo c Z rec o x l out
 | .ifs o y l out=>qq rec o y l out
end
def dC(c:aD)(Z:List Tok):Nat->jJ
 |0=>fun _=>none
 |n+1=>ay c Z (dC c Z n)
def Le(r s:jJ):Prop:=∀x q,r x=some q->s x=some q
def eT{α β:Type}{a b:Option α}{f g:α->Option β}{q:β}(h:∀x,a=some x->b=some x)(k:∀x q,f x=some q->g x=some q)(e:a.bind f=some q):b.bind g=some q:=by
 cases ha:a with
 |none=>rw[ha]at e;cases e
 |some x=>rw[ha]at e;rw[h x ha];exact k x q e
def Uv{c:aD}{Z:List Tok}{r s:jJ}(h:Le r s):Le (ay c Z r) (ay c Z s):=by
 intro x q e;cases x<;>simp only[ay]at e |-
 case line k o p slot=>
  unfold mN at e |-;split at e
  .rename_i a;rw[ag a];exact h _ _ e
  .rename_i a;rw[ab a];exact eT (h _) (fun x q e=>eT (h _) (fun x q e=>e) e) e
 case lineL k o slot first l g out=>
  unfold oQ at e |-;cases g with
  |none=>exact e
  |some p=>
   simp only at e |-;split at e
   .rename_i a;rw[ag a];exact e
   .rename_i a;rw[ab a];exact eT (h _) (fun x q e=>eT (h _) (fun x q e=>e) e) e
 case lineO k o slot op l g=>
  unfold rS at e |-;cases op with
  |none=>exact e
  |some i=>exact eT (h _) (fun x q e=>e) e
 case unary o p slot=>exact h _ _ e
 case unaryH o i slot=>
  unfold jW at e |-;cases i with
  |none=>exact e
  |some i=>
   simp only at e |-;split at e
   .rename_i h1;rw[ag h1];split at e
    .rename_i h2;rw[ag h2];exact e
    .rename_i h2;rw[ab h2];exact eT (h _) (fun x q e=>e) e
   .rename_i h1;rw[ab h1];split at e
    .rename_i h2;rw[ag h2];exact h _ _ e
    .rename_i h2;rw[ab h2];split at e
     .rename_i h3;rw[ag h3];exact e
     .rename_i h3;rw[ab h3];split at e
      .rename_i h4;rw[ag h4];exact e
      .rename_i h4;rw[ab h4];split at e
       .rename_i h5;rw[ag h5];exact e
       .rename_i h5;rw[ab h5];exact eT (h _) (fun x q e=>e) e
 case calls o i slot x names g=>
  unfold oN at e |-;cases i<;>cases x<;>first|exact e|exact eT (h _) (fun x q e=>e) e
 case inside o p slot=>
  unfold nH at e |-;generalize p.map (nx c Z)=w at e |-;cases w with
  |none=>exact e
  |some i=>
   simp only at e |-;split at e
   .rename_i h1;rw[ag h1];exact e
   .rename_i h1;rw[ab h1];split at e
    .rename_i h2;rw[ag h2];exact e
    .rename_i h2;rw[ab h2];exact eT (h _) (fun x q e=>e) e
 case listed par o p=>
  unfold nI at e |-;generalize p.map (nx c Z)=w at e |-;cases w with
  |none=>exact e
  |some i=>
   simp only at e |-;split at e
   .rename_i h1;rw[ag h1];exact e
   .rename_i h1;rw[ab h1];split at e
    .rename_i h2;rw[ag h2];exact e
    .rename_i h2;rw[ab h2];exact eT (h _) (fun x q e=>e) e
 case listL par o l g fin=>
  unfold rT at e |-;cases g with
  |none=>exact e
  |some p=>exact eT (h _) (fun x q e=>eT (h _) (fun x q e=>e) e) e
 case item par o p=>
  unfold oP at e |-;cases par with
  |true=>exact e
  |false=>exact h _ _ e
 case behind typ o p sign slot=>
  unfold oM at e |-;refine eT (fun x e=>?_) (fun x q e=>e) e;unfold mL at e |-;cases typ with
  |true=>exact e
  |false=>exact h _ _ e
 case vrb o p=>
  unfold qr at e |-;exact eT (h _) (fun x q e=>e) e
 case function o p=>
  unfold qp at e |-;exact eT (h _) (fun x q e=>eT (h _) (fun x q e=>eT (h _) (fun x q e=>e) e) e) e
 case block o p slot=>
  unfold nF at e |-;generalize p.map (nx c Z)=w at e |-;cases w with
  |none=>exact e
  |some i=>
   simp only at e |-;split at e
   .rename_i h1;rw[ag h1];exact e
   .rename_i h1;rw[ab h1];split at e
    .rename_i h2;rw[ag h2];exact e
    .rename_i h2;rw[ab h2];exact eT (h _) (fun x q e=>e) e
 case seqL top o p l out=>
  unfold oS at e |-;generalize p.map (nx c Z)=w at e |-;cases w with
  |none=>exact e
  |some i=>
   simp only at e |-;split at e
   .rename_i h1;rw[ag h1];exact e
   .rename_i h1;rw[ab h1];refine eT (fun x e=>?_) (fun x q e=>eT (h _) (fun x q e=>e) e) e;unfold kY at e |-;cases top with
    |false=>exact h _ _ e
    |true=>
     simp only[co]at e |-;unfold nJ at e |-;split at e
     .rename_i h2;rw[ag h2];exact h _ _ e
     .rename_i h2;rw[ab h2];split at e
      .rename_i h3;rw[ag h3];exact h _ _ e
      .rename_i h3;rw[ab h3];exact e
 case stmt o i=>
  unfold kz at e |-;cases i with
  |none=>exact e
  |some i=>
   simp only at e |-;split at e
   .rename_i h1;rw[ag h1];exact h _ _ e
   .rename_i h1;rw[ab h1];split at e
    .rename_i h2;rw[ag h2];exact h _ _ e
    .rename_i h2;rw[ab h2];split at e
     .rename_i h3;rw[ag h3];exact eT (h _) (fun x q e=>eT (h _) (fun x q e=>e) e) e
     .rename_i h3;rw[ab h3];split at e
      .rename_i h4;rw[ag h4];exact h _ _ e
      .rename_i h4;rw[ab h4];split at e
       .rename_i h5;rw[ag h5];exact eT (h _) (fun x q e=>e) e
       .rename_i h5;rw[ab h5];split at e
        .rename_i h6;rw[ag h6];exact eT (h _) (fun x q e=>e) e
        .rename_i h6;rw[ab h6];exact eT (h _) (fun x q e=>eT (h _) (fun x q e=>e) e) e
 case sCalls o i x l g=>
  unfold oR at e |-;cases i<;>cases x<;>first|exact e|exact eT (h _) (fun x q e=>e) e
 case branch o i slot=>
  unfold ql at e |-;exact eT (h _) (fun x q e=>eT (h _) (fun x q e=>eT (h _) (fun x q e=>e) e) e) e
 case elses o x l out=>
  unfold qo at e |-;cases x with
  |none=>exact e
  |some j=>exact eT (h _) (fun x q e=>eT (h _) (fun x q e=>e) e) e
 case ifs o y l out=>
  unfold qq at e |-;cases y with
  |none=>exact e
  |some j=>
   simp only at e |-;split at e
   .rename_i h1;rw[ag h1];exact e
   .rename_i h1;rw[ab h1];exact eT (h _) (fun x q e=>e) e
def J1{c:aD}{Z:List Tok}:∀(n:Nat),Le (dC c Z n) (dC c Z (n+1))
 |0=>fun x q e=>by cases e
 |n+1=>Uv (J1 n)
def qv{c:aD}{Z:List Tok}{n m:Nat}(h:n<=m):Le (dC c Z n) (dC c Z m):=by
 induction h with
 |refl=>exact fun x q e=>e
 |step _ a=>exact fun x q e=>J1 _ x q (a x q e)
def PV(c:aD)(Z:List Tok)(x:gY)(q:PR):Prop:=∃n,dC c Z n x=some q
variable{q:PR}
def PV.det{c:aD}{Z:List Tok}{x:gY}{r:PR}(h:PV c Z x q)(k:PV c Z x r):q=r:=by obtain⟨n,a⟩:=h;obtain⟨m,hm⟩:=k;have h1:=qv (Nat.le_max_left n m) _ _ a;have h2:=qv (Nat.le_max_right n m) _ _ hm;rw[h1]at h2;exact cW h2
def PV.of{c:aD}{Z:List Tok}{x:gY}{P:jJ->Prop}(h:∀r:jJ,P r->ay c Z r x=some q)(n:Nat)(hp:P (dC c Z n)):PV c Z x q:=⟨n+1,h _ hp⟩
def PV.step0{c:aD}{Z:List Tok}{x:gY}(h:∀r:jJ,ay c Z r x=some q):PV c Z x q:=⟨1,h _⟩
def PV.step1{c:aD}{Z:List Tok}{x y:gY}{a:PR}(h1:PV c Z y a)(h:∀r:jJ,r y=some a->ay c Z r x=some q):PV c Z x q:=by obtain⟨n,b⟩:=h1;exact⟨n+1,h _ b⟩
def PV.step2{c:aD}{Z:List Tok}{x y z:gY}{a b:PR}(h1:PV c Z y a)(h2:PV c Z z b)(h:∀r:jJ,r y=some a->r z=some b->ay c Z r x=some q):PV c Z x q:=by obtain⟨n,d⟩:=h1;obtain⟨m,hm⟩:=h2;exact⟨max n m+1,h _ (qv (Nat.le_max_left n m) _ _ d) (qv (Nat.le_max_right n m) _ _ hm)⟩
def PV.step3{c:aD}{Z:List Tok}{x y z w:gY}{a b d:PR}(h1:PV c Z y a)(h2:PV c Z z b)(h3:PV c Z w d)(h:∀r:jJ,r y=some a->r z=some b->r w=some d->ay c Z r x=some q):PV c Z x q:=by obtain⟨n,e⟩:=h1;obtain⟨m,hm⟩:=h2;obtain⟨k,f⟩:=h3;exact⟨max n (max m k)+1,h _ (qv O _ _ e) (qv O _ _ hm) (qv O _ _ f)⟩
open Dg
section
variable {c:aD} {Z:List Tok}
def AP:∀(n:Nat) {k o slot:Nat} {q:PR},dC c Z n (.line k o none slot)=some q->q=triv
 |0,k,o,slot,q,h=>by cases h
 |n+1,k,o,slot,q,h=>by
  simp only[dC,ay,mN]at h;split at h
  .cases n with
   |zero=>cases h
   |succ n=>
    simp only[dC,ay,vh,kG]at h;cases n with
    |zero=>cases h
    |succ n=>simp only[dC,ay,jW,a8]at h;exact h.symm
  .simp only[cC,eH,a8]at h;obtain⟨a,ha,b,hb,rfl⟩:=h;rw[AP n ha]at hb |-;cases n with
   |zero=>cases hb
   |succ n=>simp only[dC,ay,oQ,triv,a8]at hb;subst hb;rfl
variable{q:PR}
def PV.noneLine{k o slot:Nat}(h:PV c Z (.line k o none slot) q):q=triv:=by obtain⟨n,h⟩:=h;exact AP n h
def PV.noneUnary{o slot:Nat}(h:PV c Z (.unary o none slot) q):q=triv:=by
 obtain⟨n,h⟩:=h;cases n with
 |zero=>cases h
 |succ n=>
  simp only[dC,ay,vh,kG]at h;cases n with
  |zero=>cases h
  |succ n=>simp only[dC,ay,jW,a8]at h;exact h.symm
def PV.noneInside{o slot:Nat}(h:PV c Z (.inside o none slot) q):q=triv:=by
 obtain⟨n,h⟩:=h;cases n with
 |zero=>cases h
 |succ n=>simp only[dC,ay,nH,kG,a8]at h;exact h.symm
def PV.noneListed{par:Bool}{o:Nat}(h:PV c Z (.listed par o none) q):q=triv:=by
 obtain⟨n,h⟩:=h;cases n with
 |zero=>cases h
 |succ n=>simp only[dC,ay,nI,kG,a8]at h;exact h.symm
def PV.noneBlock{o slot:Nat}(h:PV c Z (.block o none slot) q):q=triv:=by
 obtain⟨n,h⟩:=h;cases n with
 |zero=>cases h
 |succ n=>simp only[dC,ay,nF,kG,a8]at h;exact h.symm
def PV.noneItem{par:Bool}{o:Nat}(h:PV c Z (.item par o none) q):q=triv:=by
 obtain⟨n,h⟩:=h;cases n with
 |zero=>cases h
 |succ n=>
  simp only[dC,ay,oP]at h;cases par with
  |true=>simp[bS,de,fL,give]at h;exact h.symm
  |false=>exact AP n h
def PV.noneBehind{typ:Bool}{o slot:Nat}{sign:al}(h:PV c Z (.behind typ o none sign slot) q):q=triv:=by
 obtain⟨n,h⟩:=h;cases n with
 |zero=>cases h
 |succ n=>
  simp only[dC,ay,oM,cC,eH,a8]at h;obtain⟨a,ha,rfl⟩:=h;have:a=triv:=by
   simp only[mL,bq,kG,Option.filter_none]at ha;cases typ with
   |true=>simp[fL]at ha;exact ha.symm
   |false=>exact AP n ha
  subst this;rfl
def PV.noneVar{o:Nat}(h:PV c Z (.vrb o none) q):q=triv:=by
 obtain⟨n,h⟩:=h;cases n with
 |zero=>cases h
 |succ n=>simp only[dC,ay,qr,cC,eH,a8]at h;obtain⟨a,ha,rfl⟩:=h;have:=PV.noneBehind (c:=c) (Z:=Z) ⟨n,ha⟩;subst this;rfl
def PV.noneFn{o:Nat}(h:PV c Z (.function o none) q):q=triv:=by
 obtain⟨n,h⟩:=h;cases n with
 |zero=>cases h
 |succ n=>simp only[dC,ay,qp,cC,eH,a8]at h;obtain⟨a,ha,b,hb,d,hd,rfl⟩:=h;have:=PV.noneListed (c:=c) (Z:=Z) ⟨n,ha⟩;subst this;have:=PV.noneBehind (c:=c) (Z:=Z) ⟨n,hb⟩;subst this;have:=PV.noneBlock (c:=c) (Z:=Z) ⟨n,hd⟩;subst this;rfl
def PV.noneElses{o:Nat}{l:List M}{out:Option Nat}(h:PV c Z (.elses o none l out) q):q=⟨l,out,[]⟩:=by
 obtain⟨n,h⟩:=h;cases n with
 |zero=>cases h
 |succ n=>simp only[dC,ay,qo,a8]at h;exact h.symm
def PV.noneBranch{o slot:Nat}(h:PV c Z (.branch o none slot) q):q=triv:=by
 obtain⟨n,h⟩:=h;cases n with
 |zero=>cases h
 |succ n=>simp only[dC,ay,ql,cC,eH,a8]at h;obtain⟨a,ha,b,hb,d,hd,rfl⟩:=h;have:=PV.noneInside (c:=c) (Z:=Z) ⟨n,ha⟩;subst this;have:=PV.noneBlock (c:=c) (Z:=Z) ⟨n,hb⟩;subst this;have:=PV.noneElses (c:=c) (Z:=Z) ⟨n,hd⟩;subst this;rfl
def hI(c:aD)(h:ah):Option Nat:=if h.cond.at' c then some h.at' else none
inductive io (c:aD) (Z:List Tok):Call->gY->Prop
 |line {k o f p slot}:aA f->At c f p->io c Z (.line k o f slot) (.line k o p slot)
 |lineL {k o slot first l l' g g' out out'}:cz l->pL c l=l'->aA g->At c g g'->aA out->At c out out'->(g'=none\/out'=none)->io c Z (.lineL k o slot first l g out) (.lineL k o slot first l' g' out')
 |lineO {k o slot ops op l l' g g'}:gh Z ops->dM c ops op->cz l->pL c l=l'->aA g->At c g g'->(op=none\/g'=none)->io c Z (.lineO k o slot ops l g) (.lineO k o slot op l' g')
 |unary {o f p slot}:aA f->At c f p->io c Z (.unary o f slot) (.unary o p slot)
 |unaryH {o h i slot}:Hd Z h->h.cond≠ff->hI c h=i->io c Z (.unaryH o h slot) (.unaryH o i slot)
 |calls {o h i slot xs x names names' g g'}:Hd Z h->hI c h=i->gh Z xs->dM c xs x->cz names->pL c names=names'->aA g->At c g g'->(x=none\/g'=none/\i≠none/\pL c names.tail=[])->io c Z (.calls o h slot xs names g) (.calls o i slot x names' g')
 |inside {o f p slot}:aA f->At c f p->io c Z (.inside o f slot) (.inside o p slot)
 |listed {par o f p}:aA f->At c f p->io c Z (.listed par o f) (.listed par o p)
 |listL {par o l l' g g' fin fin'}:cz l->pL c l=l'->aA g->At c g g'->aA fin->At c fin fin'->(g'=none\/fin'=none)->io c Z (.listL par o l g fin) (.listL par o l' g' fin')
 |item {par o f p}:aA f->At c f p->io c Z (.item par o f) (.item par o p)
 |behind {typ o f p sign slot}:aA f->At c f p->io c Z (.behind typ o f sign slot) (.behind typ o p sign slot)
 |vrb {o f p}:aA f->At c f p->io c Z (.vrb o f) (.vrb o p)
 |function {o f p}:aA f->At c f p->io c Z (.function o f) (.function o p)
 |block {o f p slot}:aA f->At c f p->io c Z (.block o f slot) (.block o p slot)
 |seqL {top o f p l l' out out'}:aA f->At c f p->cz l->pL c l=l'->aA out->At c out out'->(p=none\/out'=none)->io c Z (.seqL top o f l out) (.seqL top o p l' out')
 |stmt {o h i}:Hd Z h->h.cond≠ff->hI c h=i->io c Z (.stmt o h) (.stmt o i)
 |sCalls {o h i xs x l l' g g'}:Hd Z h->hI c h=i->gh Z xs->dM c xs x->cz l->pL c l=l'->aA g->At c g g'->(x=none\/g'=none/\i≠none/\pL c l.tail=[]/\l≠[])->io c Z (.sCalls o h xs l g) (.sCalls o i x l' g')
 |branch {o h i slot}:Hd Z h->h.cond≠ff->hI c h=i->io c Z (.branch o h slot) (.branch o i slot)
 |elses {o xs x l l' out out'}:gh Z xs->dM c xs x->cz l->pL c l=l'->aA out->At c out out'->(x=none\/out'=none)->io c Z (.elses o xs l out) (.elses o x l' out')
 |ifs {o ys y l l' out out'}:gh Z ys->dM c ys y->cz l->pL c l=l'->aA out->At c out out'->(y=none\/out'=none)->io c Z (.ifs o ys l out) (.ifs o y l' out')
end
open Dg
section
variable {c:aD} {Z:List Tok}
def RR.nil(c:aD):RR c ⟨[],[],[]⟩ triv:=⟨aA.nil,trivial,jc,rfl,rfl,rfl⟩
def RR.app{r s:aw}{q u:PR}(h:RR c r q)(k:RR c s u):RR c ⟨s.l,s.f,r.e++s.e⟩ ⟨u.l,u.p,q.e++u.e⟩:=
 ⟨k.fok,k.lok,fo.2 ⟨h.eok,k.eok⟩,k.l,k.f,by rw[eB,h.e,k.e]⟩
def nt{h:ah}(k:h.cond.ok 0)(a:h.cond≠ff):aA (bT h):=⟨fun s hs=>by simp[bT]at hs;subst hs;exact⟨k,a⟩,by simp[bT]⟩
def rG{h:ah}(k:h.cond.ok 0)(a:h.cond≠ff):aA (bG h):=⟨fun s hs=>by simp[bG]at hs;subst hs;exact⟨k,a⟩,by simp[bG]⟩
def nr(c:aD)(h:ah):At c (bT h) ((hI c h).map (·+1)):=by unfold bT hI At;rw[l4];cases h.cond.at' c<;>rfl
def rF(c:aD)(h:ah):At c (bG h) (hI c h):=by unfold bG hI At;rw[l4];cases h.cond.at' c<;>rfl
variable{hs:List ah}
def dM.cons{h:ah}{p:Option Nat}(a:dM c (h::hs) p):(h.cond.at' c=true/\p=some h.at'/\dM c hs none)\/(h.cond.at' c=false/\dM c hs p):=by
 unfold dM at *;rw[vj]at a;cases b:h.cond.at' c with
 |false=>rw[b]at a;exact .inr ⟨rfl,a⟩
 |true=>
  rw[b]at a;cases p with
  |none=>simp at a
  |some i=>simp only[co,Option.toList,mZ]at a;exact .inl ⟨rfl,by rw[a.1],a.2⟩
variable{s:Nat×T}
def At.cons{f:ad}{p:Option Nat}(a:At c (s::f) p):(s.2.at' c=true/\p=some s.1/\At c f none)\/(s.2.at' c=false/\At c f p):=by
 unfold At at *;rw[l4]at a;cases b:s.2.at' c with
 |false=>rw[b]at a;exact .inr ⟨rfl,a⟩
 |true=>
  rw[b]at a;cases p with
  |none=>simp at a
  |some i=>simp only[co,Option.toList,mZ]at a;exact .inl ⟨rfl,by rw[a.1],a.2⟩
def aA.tail{f:ad}(h:aA (s::f)):aA f:=⟨fun t ht=>h.1 t (.tail _ ht),(List.pairwise_cons.1 h.2).2⟩
def aA.head{f:ad}(h:aA (s::f)):aA [s]:=⟨fun t ht=>by simp at ht;subst ht;exact h.1 _ (.head _),by simp⟩
def gh.hd{h:ah}(k:gh Z (h::hs)):Hd Z h/\h.cond≠ff:=by exact k.1 h (.head _)
def Hd.text{h:ah}(k:Hd Z h):h.text=X Z h.at':=by rw[k.2.1]
def Hd.kind{h:ah}(k:Hd Z h):h.kind=K Z h.at':=by rw[k.2.1]
def JM{l:List M}{g:M->Option M}(h:cz l)(b:∀n m,xH n->g n=some m->xH m):cz (l.filterMap g):=by rw[jV]at *;intro m hm;obtain⟨n,a,e⟩:=List.mem_filterMap.1 hm;exact b n m (h n a) e
variable{d:T}
def Td{l:List M}(hd:d.ok 0)(h:cz l):cz (fJ l d):=JM h fun n m a e=>by
 split at e
 .cases e
 .cases e
  rw[jd]at a |-;exact⟨T.and_ok a.1 hd,a.2⟩
def Un{l:List M}(hd:d.ok 0)(h:cz l):cz (fK l d):=JM h fun n m a e=>by
 split at e
 .cases e
 .cases e
  rw[jd]at a |-;exact⟨T.and_ok a.1 (T.not_ok hd),a.2⟩
def Tc(c:aD){l:List M}(hd:d.ok 0)(h:cz l):pL c (fJ l d)=if d.at' c then slot0 (pL c l)else []:=by
 induction l with
 |nil=>simp[fJ,pL,slot0]
 |cons n l a=>
  have f:=(jd.1 h.1).1;have a:=a h.2;have ha:=T.and_at f hd c;unfold fJ at a |-;rw[List.filterMap_cons];split
  .rename_i e;split at e
   .rename_i e2;rw[a,eF];rw[e2]at ha;cases b:d.at' c
    .rfl
    .rw[b,qI]at ha;have:n.cond.at' c=false:=ha.symm;simp[this]
   .cases e
  .rename_i m e;split at e
   .cases e
   .cases e
    rw[eF,a,eF];simp only[ha];cases n.cond.at' c<;>cases d.at' c<;>simp[slot0]
def JP(c:aD){l:List M}(hd:d.ok 0)(h:cz l):pL c (fK l d)=if d.at' c then []else pL c l:=by
 induction l with
 |nil=>simp[fK,pL]
 |cons n l a=>
  have f:=(jd.1 h.1).1;have a:=a h.2;have ha:=T.and_at f (T.not_ok hd) c;rw[T.not_at]at ha;unfold fK at a |-;rw[List.filterMap_cons];split
  .rename_i e;split at e
   .rename_i e2;rw[a,eF];rw[e2]at ha;cases b:d.at' c
    .rw[b,ds,qI]at ha;have:n.cond.at' c=false:=ha.symm;simp[this]
    .rfl
   .cases e
  .rename_i m e;split at e
   .cases e
   .cases e
    rw[eF,a,eF];simp only[ha];cases n.cond.at' c<;>cases d.at' c<;>simp
def IS{l:List M}(hd:d.ok 0)(h:cz l):cz (gv l d):=by
 cases l with
 |nil=>exact h
 |cons n l=>refine⟨?_,h.2⟩;have:=jd.1 h.1;exact jd.2 ⟨T.and_ok this.1 (T.not_ok hd),this.2⟩
def Au(c:aD){l:List M}(hd:d.ok 0)(h:cz l):pL c (gv l d)=if d.at' c then pL c l.tail else pL c l:=by
 cases l with
 |nil=>simp[gv,pL]
 |cons n l=>have a:=(jd.1 h.1).1;have ha:=T.and_at a (T.not_ok hd) c;rw[T.not_at]at ha;simp only[gv,yT];rw[eF,eF];simp only[ha];cases n.cond.at' c<;>cases d.at' c<;>simp
def IU(l:List M)(d:T):(gv l d).tail=l.tail:=by cases l<;>rfl
def kW{n:M}(h1:n.cond.ok 0)(h2:cz n.kids):cz [n]:=⟨jd.2 ⟨h1,h2⟩,trivial⟩
def iu(c:aD)(n:M):pL c [n]=if n.cond.at' c then [{ n with kids:=pL c n.kids,cond:=tt }]else []:=by rw[eF];rfl
def AZ(t:bw Z){f:ad}(hf:aA f){p:Option Nat}(hp:At c f p){g:ah->Option aw}{r:aw}(e:iL Z f g=some r){P:Nat->PR->Prop}
  (C:∀h x,Hd Z h->h.cond≠ff->g h=some x->if h.cond.at' c then ∃q,P h.at' q/\RR c x q else RR c x triv) :
  match p.map (nx c Z)with
  |none=>RR c r triv
  |some i=>∃q,P i q/\RR c r q:=by
 have k:=uJ t hf;have ha:=dM.of t hf hp;unfold iL at e;generalize ce Z f=hs at k ha e;generalize p.map (nx c Z)=o at ha;have key:∀(hs:List ah) (z:aw) (o:Option Nat) (u:PR),gh Z hs->dM c hs o->RR c z u->(o=none\/u=triv)->kh (fun r h=>match g h with|some x=>if (r.l++x.l).length<=ao then some ⟨r.l++x.l,joinAll r.f x.f,r.e++x.e⟩else none|none=>none) z hs=some r->
   match o with
   |none=>RR c r u
   |some i=>∃q,P i q/\RR c r q:=by
  intro hs
  induction hs with
  |nil=>
   intro z o u k ha a j e;simp only[kh,a8]at e;subst e;cases o with
   |none=>exact a
   |some i=>simp[dM,kA]at ha
  |cons h hs y=>
   intro z o u k ha a j e;obtain⟨hd,v⟩:=k.hd;simp only[kh]at e;cases m:g h with
   |none=>rw[m]at e;cases e
   |some x=>
    rw[m]at e;simp only at e;split at e
    case h_2=>cases e
    rename_i b hb;split at hb
    case isFalse=>cases hb
    cases hb
    have d:=C h x hd v m;rcases ha.cons with ⟨w,rfl,n⟩|⟨w,n⟩
    .rw[w,ag rfl]at d;obtain⟨q,B,hr⟩:=d;have A:u=triv:=by rcases j with j|j;cases j;exact j
     subst A;refine⟨q,B,?_⟩;have:=y none q k.tail n (z:=⟨z.l++x.l,joinAll z.f x.f,z.e++x.e⟩) ?_ (.inl rfl) e
     .exact this
     .refine⟨lR (fun s hs=>(hr.fok.1 s hs).1) a.fok,lY.2 ⟨a.lok,hr.lok⟩,fo.2 ⟨a.eok,hr.eok⟩,?_,?_,?_⟩
      .rw[gQ,a.l,hr.l];rfl
      .have:=At.joinAll a.fok hr.fok a.f hr.f (.inl rfl);exact this
      .rw[eB,a.e,hr.e];rfl
    .rw[w]at d;simp only[dK,dD]at d;refine y o u k.tail n (z:=⟨z.l++x.l,joinAll z.f x.f,z.e++x.e⟩) ?_ j e;refine⟨lR (fun s hs=>(d.fok.1 s hs).1) a.fok,lY.2 ⟨a.lok,d.lok⟩,fo.2 ⟨a.eok,d.eok⟩,?_,?_,?_⟩
     .rw[gQ,a.l,d.l];simp[triv]
     .have:=At.joinAll a.fok d.fok a.f d.f (.inr rfl);simpa[triv]using this
     .rw[eB,a.e,d.e];simp[triv]
 have:=key hs _ o triv k ha (RR.nil c) (.inr rfl) e;exact this
end
end Syn
