import Derived.Test.YtfaclfkpnmcmlaaGreatDoorL01
import Derived.Test.YtfaclfkpnmcmlaaGreatDoorL02
import Derived.Test.YtfaclfkpnmcmlaaGreatDoorL05
import Derived.Laws.StructEq
set_option maxHeartbeats 8000000
set_option linter.all false
open Go.Proofs.Tryz hiding d6
namespace Syn
open Dg
mutual
def xL:M->Prop
 |⟨k,x,t,s,ks,_⟩=>(k<256/\-4611686018427387904<=t/\t<4611686018427387904/\-4611686018427387904<=s/\s<4611686018427387904/\x.length<4611686018427387904)/\dW ks
def dW:List M->Prop
 | []=>True
 |n::l=>xL n/\dW l
end
variable{l:List M}
theorem qj:dW l<->∀n∈l,xL n:=by
 induction l with
 |nil=>simp[dW]
 |cons n l a=>simp[dW,a]
theorem ve{n:M}:xL n<->(n.kind<256/\-4611686018427387904<=n.tok/\n.tok<4611686018427387904/\-4611686018427387904<=n.slot/\n.slot<4611686018427387904/\n.text.length<4611686018427387904)/\dW n.kids:=by cases n;rfl
theorem Au{a b:List M}:dW (a++b)<->dW a/\dW b:=by simp only[qj,jR];exact⟨fun h=>⟨fun n d=>h n (.inl d),fun n d=>h n (.inr d)⟩,fun h n d=>d.elim (h.1 n) (h.2 n)⟩
theorem kF{ks:List M}(h:dW l)(b:dW ks):dW (give l ks):=qj.2 fun n a=>by obtain⟨m,hm,rfl⟩:=List.mem_map.1 a;have:=ve.1 (qj.1 h m hm);exact ve.2 ⟨this.1,Au.2 ⟨this.2,b⟩⟩
theorem Qc(h:dW l):dW (slot0 l):=qj.2 fun n d=>by obtain⟨m,hm,rfl⟩:=List.mem_map.1 d;obtain⟨⟨a,b,c,_,_,g⟩,k⟩:=ve.1 (qj.1 h m hm);exact ve.2 ⟨⟨a,b,c,by show (-4611686018427387904:Int)<=0;omega,by show (0:Int)<_;omega,g⟩,k⟩
theorem nK{k:Nat}{t:au}{i s N:Nat}{ks:List M}{d:T}(ht:t.length<4611686018427387904)(a:k<256)(hi:i<N)(hN:N<=16384)(hs:s<=2)(h:dW ks):dW [⟨k,t,(i:Int),(s:Int),ks,d⟩]:=
 ⟨⟨⟨a,O,O,O,O,ht⟩,h⟩,trivial⟩
section
variable {c:aF} {Z:Zs} (hN:Z.length<=16384) (hX:∀i,(X Z i).length<4611686018427387904)
include hN hX
variable{kind slot:Nat}
theorem xM(p:Option Nat)(a:kind<256)(hs:slot<=2):dW (bX Z c p kind slot).l:=by
 unfold bX;cases p.map (nx c Z)with
 |none=>trivial
 |some i=>
  simp only;split
  .trivial
  .rename_i h;exact nK (by first|exact hX _|(show (0:Nat)<_;decide)) a (rr fun h2=>h (.inl (by rw[h2];decide))) hN hs trivial
theorem Ea(p:Option Nat)(hs:slot<=2):dW (fQ Z c p slot).l:=by
 unfold fQ;cases p.map (nx c Z)with
 |none=>trivial
 |some i=>
  simp only;split
  .trivial
  .rename_i h;exact nK (by first|exact hX _|(show (0:Nat)<_;decide)) af (eY fun h2=>h (by rw[h2];exact⟨by decide,by decide⟩)) hN hs trivial
theorem Av{i:Option Nat}(a:kind<256)(h:Lt Z.length i)(hs:slot<=2):dW (jp kind i slot):=by
 cases i with
 |none=>trivial
 |some j=>exact nK (by first|exact hX _|(show (0:Nat)<_;decide)) a (h j rfl) hN hs trivial
omit hN hX in
theorem Kv{i x:Nat}{is:Nat->Bool}(h:bv c Z (bX Z c (some i) kind slot).p is=some x):i<Z.length:=by
 have h0:=qB c Z i;unfold bX at h;simp only[df]at h;split at h
 .cases h
 .rename_i a;have:nx c Z i<Z.length:=rr fun h2=>a (.inl (by rw[h2];decide));omega
def zA(N:Nat):hQ->Prop
 | .line _ _ _ s=>s<=2
 | .lineL _ _ s _ l _ _=>s<=2/\dW l
 | .lineO _ _ s op l _=>s<=2/\dW l/\Lt N op
 | .unary _ _ s=>s<=2
 | .unaryH _ _ s=>s<=2
 | .calls _ i s x names _=>s<=2/\dW names/\(∀j k,i=some j->x=some k->j<N)
 | .inside _ _ s=>s<=2
 | .listL _ _ l _ _=>dW l
 | .behind _ _ _ _ s=>s<=2
 | .block _ _ s=>s<=2
 | .seqL _ _ _ l _=>dW l
 | .sCalls _ i x l _=>dW l/\(∀j k,i=some j->x=some k->j<N)
 | .branch _ i s=>s<=2/\Lt N i
 | .elses _ _ l _=>dW l
 | .ifs _ y l _=>dW l/\Lt N y
 |_=>True
theorem Qn{rec:jU}(R:∀x q,rec x=some q->zA Z.length x->dW q.l):∀x q,aB c Z rec x=some q->zA Z.length x->dW q.l:=by
 have n:∀{x q},rec x=some q->zA Z.length x->dW q.l:=fun{x q} h k=>R x q h k;intro x q e hi;cases x with
 |line k o p slot=>
  simp only[aB,mZ]at e;split at e
  .have:=n e hi;exact this
  .obtain⟨a,m,e⟩:=aG e;obtain⟨b,t,e⟩:=aG e;cases e
   have:=n t ⟨hi,n m hi⟩;exact this
 |lineL k o slot first l g out=>
  simp only[aB,o5]at e;cases g with
  |none=>cases e;exact hi.2
  |some p=>
   simp only at e;split at e
   .cases e;exact hi.2
   .obtain⟨a,m,e⟩:=aG e;obtain⟨b,t,e⟩:=aG e;cases e
    have:=n t ⟨hi.1,n m ⟨hi.1,hi.2,E9⟩⟩;exact this
 |lineO k o slot op l g=>
  simp only[aB,sG]at e;cases op with
  |none=>cases e;exact hi.2.1
  |some i=>
   obtain⟨a,m,e⟩:=aG e;cases e
   exact nK (by first|exact hX _|(show (0:Nat)<_;decide)) af (hi.2.2 i rfl) hN hi.1 (Au.2 ⟨Qc hi.2.1,n m (by show (1:Nat)<=2;decide)⟩)
 |unary o p slot=>have:=n (x:=.unaryH o (p.map (nx c Z)) slot) e hi;exact this
 |unaryH o i slot=>
  simp only[aB,kh]at e;cases i with
  |none=>cases e;trivial
  |some i=>
   simp only at e;split at e
   .rename_i u;have r:i<Z.length:=eY (by rcases u with h|h<;>rw[h]<;>decide);split at e
    .cases e;trivial
    .obtain⟨a,m,e⟩:=aG e;cases e
     exact nK (by first|exact hX _|(show (0:Nat)<_;decide)) af r hN hi (n m (by show (0:Nat)<=2;decide))
   .split at e
    .have:=n e hi;exact this
    .split at e
     .rename_i u;cases e
      exact nK (by first|exact hX _|(show (0:Nat)<_;decide)) af (rr (by rw[u];decide)) hN hi trivial
     .split at e
      .rename_i u;cases e
       exact nK (by first|exact hX _|(show (0:Nat)<_;decide)) af (eY (by rcases u with h|h<;>rw[h]<;>decide)) hN hi trivial
      .split at e
       .rename_i u;cases e
        exact nK (by first|exact hX _|(show (0:Nat)<_;decide)) af (eY (by rw[u];decide)) hN hi trivial
       .obtain⟨b,t,e⟩:=aG e;cases e
        have:=n t ⟨hi,xM hN hX _ af hi,fun j k z w=>by cases z;exact Kv w⟩;exact this
 |calls o i slot x names g=>
  simp only[aB,oZ]at e;split at e
  .rename_i i x;obtain⟨a,m,e⟩:=aG e;cases e
   exact nK (by first|exact hX _|(show (0:Nat)<_;decide)) af (hi.2.2 i x rfl rfl) hN hi.1 (n m trivial)
  .cases e;exact hi.2.1
 |inside o p slot=>
  simp only[aB,nW]at e;split at e
  .cases e;trivial
  .split at e
   .cases e;trivial
   .split at e
    .cases e;trivial
    .obtain⟨a,m,e⟩:=aG e;cases e
     have:=n m hi;exact this
 |listed par o p=>
  simp only[aB,nX]at e;split at e
  .cases e;trivial
  .split at e
   .cases e;trivial
   .split at e
    .cases e;trivial
    .obtain⟨a,m,e⟩:=aG e;cases e
     have:=n m trivial;exact this
 |listL par o l g fin=>
  simp only[aB,sH]at e;cases g with
  |none=>cases e;exact hi
  |some p=>
   obtain⟨a,m,e⟩:=aG e;obtain⟨b,t,e⟩:=aG e;cases e
   have:=n t (Au.2 ⟨hi,n m trivial⟩);exact this
 |item par o p=>
  simp only[aB,o4]at e;split at e
  .cases e
   exact kF (xM hN hX _ af af) (Ea hN hX _ af)
  .have:=n e (by show (0:Nat)<=2;decide);exact this
 |behind typ o p sign slot=>
  simp only[aB,oY]at e;obtain⟨a,m,e⟩:=aG e;cases e
  unfold mY at m;split at m
  .cases m;exact Ea hN hX _ hi
  .have:=n m hi;exact this
 |vrb o p=>
  simp only[aB,qM]at e;obtain⟨d,v,e⟩:=aG e;cases e
  exact kF (kF (xM hN hX _ af af) (Ea hN hX _ af)) (n v (by show (1:Nat)<=2;decide))
 |function o p=>
  simp only[aB,qK]at e;obtain⟨b,t,e⟩:=aG e;obtain⟨d,v,e⟩:=aG e;obtain⟨f,A,e⟩:=aG e;cases e
  exact kF (kF (kF (xM hN hX _ af af) (n t trivial)) (n v (by show (1:Nat)<=2;decide))) (n A (by show (2:Nat)<=2;decide))
 |block o p slot=>
  simp only[aB,nU]at e;split at e
  .cases e;trivial
  .rename_i i hp;split at e
   .cases e;trivial
   .rename_i u;have r:i<Z.length:=eY (by rw[Classical.not_not.1 u];decide);split at e
    .cases e;trivial
    .obtain⟨a,m,e⟩:=aG e;cases e
     exact nK (by first|exact hX _|(show (0:Nat)<_;decide)) af r hN hi (n m trivial)
 |seqL top o p l out=>
  simp only[aB,o7]at e;split at e
  .cases e;exact hi
  .split at e
   .cases e;exact hi
   .obtain⟨a,m,e⟩:=aG e;obtain⟨b,t,e⟩:=aG e;cases e
    have h1:dW a.l:=by
     unfold lz at m;split at m
     .unfold nY at m;split at m
      .have:=n m trivial;exact this
      .split at m
       .have:=n m trivial;exact this
       .cases m;trivial
     .have:=n m trivial;exact this
    have:=n t (Au.2 ⟨hi,h1⟩);exact this
 |stmt o i=>
  simp only[aB,kP]at e;cases i with
  |none=>cases e;trivial
  |some i=>
   simp only at e;split at e
   .have:=n e trivial;exact this
   .split at e
    .rename_i u;have:=n e ⟨by decide,Lt.of (eY (by rw[u];decide))⟩;exact this
    .split at e
     .rename_i u;have r:i<Z.length:=eY (by rw[u];decide);obtain⟨a,m,e⟩:=aG e;obtain⟨b,t,e⟩:=aG e;cases e
      exact kF (kF (Av hN hX af (Lt.of r) af) (n m (by show (0:Nat)<=2;decide))) (n t (by show (1:Nat)<=2;decide))
     .split at e
      .have:=n e (by show (0:Nat)<=2;decide);exact this
      .split at e
       .rename_i u;have r:i<Z.length:=eY (by rw[u];decide);obtain⟨a,m,e⟩:=aG e;cases e
        exact kF (Av hN hX af (Lt.of r) af) (n m (by show (0:Nat)<=2;decide))
       .split at e
        .rename_i u;have r:i<Z.length:=eY (by rcases u with h|h<;>rw[h]<;>decide);obtain⟨a,m,e⟩:=aG e;cases e
         exact kF (Av hN hX (by split<;>decide) (Lt.of r) af) (n m (by show (0:Nat)<=2;decide))
        .obtain⟨b,t,e⟩:=aG e;obtain⟨d,v,e⟩:=aG e;cases e
         have:=n v ⟨kF (xM hN hX _ af af) (n t (by show (0:Nat)<=2;decide)),fun j k z w=>by cases z;exact Kv w⟩;exact this
 |sCalls o i x l g=>
  simp only[aB,o6]at e;split at e
  .rename_i i x;obtain⟨a,m,e⟩:=aG e;cases e
   exact nK (s:=0) (by first|exact hX _|(show (0:Nat)<_;decide)) af (hi.2 i x rfl rfl) hN af (n m trivial)
  .cases e;exact hi.1
 |branch o i slot=>
  simp only[aB,qH]at e;obtain⟨a,m,e⟩:=aG e;obtain⟨b,t,e⟩:=aG e;obtain⟨d,v,e⟩:=aG e;cases e
  have:=n v (kF (kF (Av hN hX af hi.2 hi.1) (n m (by show (0:Nat)<=2;decide))) (n t (by show (1:Nat)<=2;decide)));exact this
 |elses o x l out=>
  simp only[aB,qJ]at e;cases x with
  |none=>cases e;exact hi
  |some j=>
   obtain⟨a,m,e⟩:=aG e;obtain⟨b,t,e⟩:=aG e;cases e
   have:=n t ⟨kF hi (n m (by show (2:Nat)<=2;decide)),tX af⟩;exact this
 |ifs o y l out=>
  simp only[aB,qL]at e;cases y with
  |none=>cases e;exact hi.1
  |some j=>
   simp only at e;split at e
   .cases e;exact hi.1
   .obtain⟨a,m,e⟩:=aG e;cases e
    exact kF hi.1 (n m ⟨by decide,hi.2⟩)
theorem Ii:∀n x q,dF c Z n x=some q->zA Z.length x->dW q.l
 |0,x,q,e,_=>by cases e
 |n+1,x,q,e,h=>Qn hN hX (fun x q e h=>Ii n x q e h) x q e h
end
theorem Ef:∀(l:List M) (d:T),cF l->wL d l->vQ l->(∀c,dW (pL c l))->dW l
 | [],_,_,_,_,_=>trivial
 |⟨k,t,o,s,ks,e⟩::l,d,f,b,g,h=>by
  have key:∀c,e.at' c=true->xL ⟨k,t,o,s,pL c ks,tt⟩:=fun c a=>by have:=h c;rw[eD,show (⟨k,t,o,s,ks,e⟩:M).cond=e from rfl,a,ah rfl]at this;exact this.1
  obtain⟨c0,i⟩:=T.some_of_ne f.1.1 g.1.1;refine⟨⟨(key c0 i).1,Ef ks e f.1.2 b.1.2 g.1.2 fun c=>?_⟩,Ef l d f.2 b.2 g.2 fun c=>?_⟩
  .cases a:e.at' c with
   |true=>exact(key c a).2
   |false=>rw[MG b.1.2 a];trivial
  .have:=h c;rw[eD]at this;split at this
   .exact this.2
   .exact this
theorem XB{Z:Zs}(a:bB Z)(h:Z.length<=16384)(hX:∀i,(X Z i).length<4611686018427387904){w:T}(d:w.ok 0)(b:w≠ff){n:Nat}{r:aA}(e:run Z n (.seqL true 0 [(0,w)] [] [])=some r):dW (eE r):=by
 obtain⟨_,_,g⟩:=qV a d b e (fun _=>false);have j:=(zW (c:=fun _=>false) g.fok).1;obtain⟨k,a2,a3,a4⟩:=ww r.l (gG r.f) j g.lok;refine⟨⟨⟨by decide,by decide,by decide,by decide,by decide,by show (0:Nat)<_;decide⟩,Ef _ (gG r.f) k a2 (yV _ _) fun c=>?_⟩,trivial⟩;rw[a4 c];split
 .obtain⟨q,⟨m,hm⟩,R⟩:=qV a d b e c;rw[R.l];exact Ii h hX m _ _ hm trivial
 .trivial
theorem Qb{l:List M}(h:dW l)(k:eQ):dW (eC l k):=qj.2 fun x a=>by obtain⟨n,b,_,_,a⟩:=vJ a;exact qj.1 (ve.1 (qj.1 h n b)).2 x a
end Syn
namespace Go.Proofs.YtfaclfkpnmcmlaaGreatDoor
open Go Go.Sx Dg Syn
def tq(A:PH):U [A]=A:=PH.uni_no A
def H1:∀{Ks:Zt} {i:Nat} {Ki:PH},Ks[i]?=some Ki->Ks.Perm (Ki::Ks.eraseIdx i)
 | [],i,Ki,h=>by simp at h
 |a::l,0,Ki,h=>by simp only[zt,bf]at h;subst h;exact List.Perm.refl _
 |a::l,i+1,Ki,h=>by rw[wM]at h;exact((H1 h).cons a).trans (List.Perm.swap Ki a _)
def Lu:∀{Ks:Zt} {i:Nat} (K':PH),i<Ks.length->(K'::Ks.eraseIdx i).Perm (Ks.set i K')
 | [],i,K',h=>by simp at h
 |a::l,0,K',h=>List.Perm.refl _
 |a::l,i+1,K',h=>(List.Perm.swap a K' _).trans ((Lu K' (by simpa using h)).cons a)
def C4(A:PH)(l:Zt):U [A,U l]=U (A::l):=by show A.uni (U [U l])=A.uni (U l);rw[tq]
def MM{A:PH}{l:Zt}(h:Dj (A::l)):Dj [A,U l]:=by have:=h.head;refine List.pairwise_cons.2 ⟨fun B a=>?_,s0 _ _⟩;rw[List.mem_singleton.1 a];exact this
def Gw{A:PH}{l:Zt}(h:Dj [A,U l])(a:Dj l):Dj (A::l):=a.cons (by
 have:=h.head
 rwa [tq]at this)
def MN{l:Zt}{X:PH}{m:Zt}(h:Dj (l++[X]))(e:U m=X)(hm:Dj m):U (l++[X])=U (l++m)/\Dj (l++m):=by obtain⟨a,b,c⟩:=ow.1 h;rw[tq]at c;refine⟨by rw[rM,rM,tq,e],ow.2 ⟨a,hm,by rw[e];exact c⟩⟩
def Gv{l m:Zt}(h:Dj (l++m)):U (l++m)=U (l++[U m])/\Dj (l++[U m]):=by obtain⟨a,b,c⟩:=ow.1 h;refine⟨by rw[rM,rM,tq],ow.2 ⟨a,s0 _ _,by rw[tq];exact c⟩⟩
variable{i:Nat}
def NP{l Ks:Zt}{Ki:PH}(hd:Dj (l++[U Ks]))(a:Dj Ks)(hi:Ks[i]?=some Ki):U (l++[U Ks])=U (l++[Ki,U (Ks.eraseIdx i)])/\Dj (l++[Ki,U (Ks.eraseIdx i)]):=by obtain⟨e,d⟩:=pV (H1 hi) a;exact MN hd (by rw[C4,e]) (MM d)
def NQ{l Ks:Zt}{K':PH}(hd:Dj (l++[K',U (Ks.eraseIdx i)]))(c:Dj Ks)(hi:i<Ks.length):U (l++[K',U (Ks.eraseIdx i)])=U (l++[U (Ks.set i K')])/\Dj (l++[U (Ks.set i K')])/\Dj (Ks.set i K'):=by have h1:Dj (Ks.eraseIdx i):=List.Pairwise.sublist (List.eraseIdx_sublist _ _) c;have h2:Dj (K'::Ks.eraseIdx i):=Gw (ow.1 hd).2.1 h1;obtain⟨e,d⟩:=pV (Lu K' hi) h2;obtain⟨a,b⟩:=Gv hd;rw[C4,e]at a b;exact⟨a,b,d⟩
def NR{l Ks:Zt}{K':PH}(hd:Dj (l++[K',U Ks]))(c:Dj Ks):U (l++[K',U Ks])=U (l++[U (Ks++[K'])])/\Dj (l++[U (Ks++[K'])])/\Dj (Ks++[K']):=by have h2:Dj (K'::Ks):=Gw (ow.1 hd).2.1 c;obtain⟨e,d⟩:=pV (List.perm_append_singleton K' Ks).symm h2;obtain⟨a,b⟩:=Gv hd;rw[C4,e]at a b;exact⟨a,b,d⟩
def fG(I:PH)(c:Zo)(p:PH×M):Prop:=∃b a k,c=[.int .u8 p.2.kind,.string ⟨⟨p.2.text⟩⟩,.int .i64 p.2.tok,.int .i64 p.2.slot,b,sD a k p.2.cond,rD p.2.cond]/\bW I (.agg #[sD a k p.2.cond,rD p.2.cond]) p.2.cond/\aw I p.1 b p.2.kids
variable{p:PH×M}{I J:PH}
def fG.le{c:Zo}(h:fG I c p)(b:I.le J):fG J c p:=by obtain⟨d,a,k,e,h1,h2⟩:=h;exact⟨d,a,k,e,h1.le b,aw.le h2 b⟩
def fG.len(c:Zo)(p:PH×M)(h:fG I c p):c.length=7:=by obtain⟨b,a,k,e,_⟩:=h;rw[e];rfl
def fG.ones{c:Zo}(h:fG I c p):c.all Sx.one=true:=by obtain⟨d,a,k,e,_,b⟩:=h;obtain⟨x,y,rfl⟩:=b.shape;rw[e];rfl
def fG.still{c:Zo}(h:fG I c p)(h1:I.le J)(h2:p.1.le J):ag J c p.2:=by obtain⟨d,a,k,rfl,hr,b⟩:=h;exact ag.mk (hr.le h1) (aw.sl b h1 h2) (b.capN ag.len)
def LR.still{I J:PH}(h1:I.le J):∀{l:List (PH×M)} {xs:Zo},LR (fG I) xs l->(∀p∈l,p.1.le J)->LR (ag J) xs (l.map Prod.snd)
 | [],xs,h,_=>h
 |p::l,xs,⟨c,ys,e,a,b⟩,hp=>⟨c,ys,e,a.still h1 (hp p (.head _)),LR.still h1 b fun q d=>hp q (.tail _ d)⟩
def yy(o:List M)(y u:Value):Prop:=∃j m,o[j]?=some m/\y=kN m.key/\u=E j
def JE{a b:eQ}(h:kN a=kN b):a=b:=by
 unfold kN at h;simp only[Value.agg.injEq,Array.mk.injEq,nt,Value.int.injEq,Value.string.injEq,dZ,fg]at h;obtain⟨h1,h2,h3,h4⟩:=h;have d:a.kind=b.kind:=O;have c:a.text=b.text:=by have:=congrArg (fun x:ByteArray=>x.data.toList) h4;exact this
 cases a;cases b
 simp_all
def Gk:prog.underlying 240=some (.struct #[⟨ "slot",3,0,false,"","motley/syntax",0⟩,⟨ "tok",3,1,false,"","motley/syntax",8⟩,⟨ "kind",5,2,false,"","motley/syntax",16⟩,⟨ "text",9,3,false,"","motley/syntax",24⟩]):=ae
def T6:prog.keyTypeAt 3 240=true:=ae
def XX:prog.tiled 3 240=true:=ae
def CO:Maps.Keyed prog 240:=by refine Maps.Keyed.of_law (deep_law (m:=3) O T6 XX ?_);rw[Gk]
def TQ:prog.keyType 240=true:=ae
def OU:prog.cellsOf 240=4:=ae
def Hy:prog.cellsOf 5=1:=ae
def Dz:prog.cellsOf 9=1:=ae
def Gn:prog.underlying 5=some (.int .u8):=ae
def Cr:prog.underlying 9=some .string:=ae
def Gt{z:Int}(h:-4611686018427387904<=z)(h2:z<4611686018427387904):(Lit.int .i64 z).wf=true:=by
 have h1:IntKind.min .i64=-9223372036854775808:=by decide
 have h2:IntKind.max .i64=9223372036854775807:=by decide
 simp only[Lit.wf,h1,h2,cZ,dE];omega
def YW{n:Nat}(h:n<256):(Lit.int .u8 n).wf=true:=by
 have h1:IntKind.min .u8=0:=by decide
 have h2:IntKind.max .u8=255:=by decide
 simp only[Lit.wf,h1,h2,cZ,dE];omega
variable{P:Program}
def TU  {k:eQ} (g:P.underlying 240=some (.struct #[⟨ "slot",3,0,false,"","motley/syntax",0⟩,⟨ "tok",3,1,false,"","motley/syntax",8⟩,⟨ "kind",5,2,false,"","motley/syntax",16⟩,⟨ "text",9,3,false,"","motley/syntax",24⟩])) (h1:P.keyType 240=true) (h2:P.cellsOf 240=4) (h3:P.cellsOf 3=1) (h5:P.cellsOf 5=1) (h:P.cellsOf 9=1) (e:P.underlying 3=some (.int .i64)) (d:P.underlying 5=some (.int .u8)) (c:P.underlying 9=some .string) (hs:1<P.types.size)
  (b:(Lit.int .i64 k.slot).wf=true) (a2:(Lit.int .i64 k.tok).wf=true) (a3:(Lit.int .u8 k.kind).wf=true) (a4:k.text.length<4611686018427387904):fq P 240 (kN k):=by
 obtain⟨n,f⟩:∃n,P.types.size=n+1:=⟨P.types.size-1,O⟩;simp only[Lit.wf,cZ,dE]at b a2 a3;have a:(9223372036854775807:Int)=IntKind.max .i64:=by decide
 unfold fq keyOf;rw[h1];have l:IntKind.i64.min<=k.slot/\k.slot<=9223372036854775807:=by rw[a];exact b
 have j:IntKind.i64.min<=k.tok/\k.tok<=9223372036854775807:=by rw[a];exact a2
 have i:(⟨⟨k.text⟩⟩:ByteArray).size<=maxLen:=by have:(⟨⟨k.text⟩⟩:ByteArray).size=k.text.length:=rfl;rw[this];exact fJ (lM a4) af
 simp[g,Value.formed,kN,f,Program.keyLits,h2,h3,h5,h,e,d,c,Value.cells,Lit.wf,l,j,a3,i]
def TM{n:M}(h:xL n):fq prog 240 (kN n.key):=by obtain⟨⟨a,b,c,d,e,g⟩,_⟩:=ve.1 h;exact TU Gk TQ OU Dy Hy Dz py Gn Cr FD (Gt d e) (Gt b c) (YW a) g
def Iw:ay prog 107:=⟨_,func107,rfl,rfl⟩
def vt:ay prog 53:=⟨_,func53,rfl,rfl⟩
def Jh:ay prog 89:=⟨_,func89,rfl,rfl⟩
def RE:ay prog 90:=⟨_,func90,rfl,rfl⟩
def RF:ay prog 91:=⟨_,func91,rfl,rfl⟩
def RH:ay prog 92:=⟨_,func92,rfl,rfl⟩
def Ro:ay prog 35:=⟨_,func35,rfl,rfl⟩
def wW(P:Program)(T:TypeId)(cs:Array Value):Prop:=P.eqGuardType P.depth T=false/\∀w,(Op.equalIn 10000 T (.agg cs) (.agg cs)).run P w=.ok true w
variable{cs:Array Value}{x y:Operand}{T2:TypeId}{o:Oper}{H:PH}{σ:St}
def LJ{T:TypeId}{op:BinOp}(aa:o.op=.binOp op T x y T2)(d:op=.eql\/op=.neq)(c:ev σ x=.v (.agg cs))(b:ev σ y=.v (.agg cs))(a:wW P T cs):
  bR σ o.op=true/\∀w,Sub H w->(execOp (bp σ) o).run P w=.ok (.value (.bool (match op with | .neq=>false|_=>true))) w:=by
 constructor
 .simp[bR,aa,fx,Op.operands,c,b,fN]
 .intro w _;rcases d with rfl|rfl
  .simp[execOp,aa,bp,c,b,ew,run_eqGuard_agg w .eql T x y cs cs a.1,run_eql_struct,a.2 w,Result.andThen]
  .simp[execOp,aa,bp,c,b,ew,run_eqGuard_agg w .neq T x y cs cs a.1,run_neq_struct,a.2 w,Result.andThen]
variable{k:List Item}{str:cC}{fr:cw}{ol:Zq}{C:Cx}
def Nn{l:List (Nat×Oper)}{T:TypeId}(hf:fr.h.contains i=true)(e:bH ol σ o=some true)(aa:o.op=.binOp .eql T x y T2)(d:ev σ x=.v (.agg cs))(c:ev σ y=.v (.agg cs))(f:wW C.P T cs)(h:RD C ol fr str l k (σ.put o.dst (.v (.bool true))) H):RD C ol fr str ((i,o)::l) k σ H:=by obtain⟨b,a⟩:=LJ (H:=H) aa (.inl rfl) d c f;exact uN (.bool true) hf e b (by rw[aa];rfl) a h
def Nr{l:List (Nat×Oper)}{T:TypeId}(hf:fr.h.contains i=true)(e:bH ol σ o=some true)(aa:o.op=.binOp .neq T x y T2)(d:ev σ x=.v (.agg cs))(c:ev σ y=.v (.agg cs))(f:wW C.P T cs)(h:RD C ol fr str l k (σ.put o.dst (.v (.bool false))) H):RD C ol fr str ((i,o)::l) k σ H:=by obtain⟨b,a⟩:=LJ (H:=H) aa (.inr rfl) d c f;exact uN (.bool false) hf e b (by rw[aa];rfl) a h
def PK(a b c:Int):wW prog 181 #[.int .i64 a,.int .i64 b,.int .i64 c]:=by
 refine⟨by kernel_rfl,fun w=>?_⟩;have g:prog.underlying 181=some (.struct (prog.fieldsOf 181)):=ae;have hp:prog.stoodInHeld 181=false:=ae;have hf:(prog.fieldsOf 181).toList=[⟨ "Var",3,0,false,"","",0⟩,⟨ "Low",3,1,false,"","",8⟩,⟨ "High",3,2,false,"","",16⟩]:=by unfold Program.fieldsOf;rw[Cq]
 have f:(part 3 #[.int .i64 a,.int .i64 b,.int .i64 c] 0).run prog w=.ok (.int .i64 a) w:=nj (by unfold iS;rw[eR];rfl);have e:(part 3 #[.int .i64 a,.int .i64 b,.int .i64 c] 1).run prog w=.ok (.int .i64 b) w:=nj (by unfold iS;rw[eR];rfl);have d:(part 3 #[.int .i64 a,.int .i64 b,.int .i64 c] 2).run prog w=.ok (.int .i64 c) w:=nj (by unfold iS;rw[eR];rfl);rw[show (10000:Nat)=9998+1+1 from rfl,run_equalIn_agg w (9998+1) 181 _ _ g hp,hf];simp[Op.eqFields,ew,f,e,d,Result.andThen,run_equalIn_int w 9998 3 .i64 .i64 _ _ py]
def PL(k:eQ):wW prog 240 #[.int .i64 k.slot,.int .i64 k.tok,.int .u8 k.kind,.string ⟨⟨k.text⟩⟩]:=by
 refine⟨by kernel_rfl,fun w=>?_⟩;have e:prog.underlying 240=some (.struct (prog.fieldsOf 240)):=ae;have hp:prog.stoodInHeld 240=false:=ae;have hf:(prog.fieldsOf 240).toList=[⟨ "slot",3,0,false,"","motley/syntax",0⟩,⟨ "tok",3,1,false,"","motley/syntax",8⟩,⟨ "kind",5,2,false,"","motley/syntax",16⟩,⟨ "text",9,3,false,"","motley/syntax",24⟩]:=by unfold Program.fieldsOf;rw[Gk]
 have d:(part 3 #[.int .i64 k.slot,.int .i64 k.tok,.int .u8 k.kind,.string ⟨⟨k.text⟩⟩] 0).run prog w=.ok (.int .i64 k.slot) w:=nj (by unfold iS;rw[eR];rfl);have c:(part 3 #[.int .i64 k.slot,.int .i64 k.tok,.int .u8 k.kind,.string ⟨⟨k.text⟩⟩] 1).run prog w=.ok (.int .i64 k.tok) w:=nj (by unfold iS;rw[eR];rfl);have b:(part 5 #[.int .i64 k.slot,.int .i64 k.tok,.int .u8 k.kind,.string ⟨⟨k.text⟩⟩] 2).run prog w=.ok (.int .u8 k.kind) w:=nj (by unfold iS;rw[tu];rfl);have a:(part 9 #[.int .i64 k.slot,.int .i64 k.tok,.int .u8 k.kind,.string ⟨⟨k.text⟩⟩] 3).run prog w=.ok (.string ⟨⟨k.text⟩⟩) w:=nj (by unfold iS;rw[gF];rfl);rw[show (10000:Nat)=9998+1+1 from rfl,run_equalIn_agg w (9998+1) 240 _ _ e hp,hf];simp[Op.eqFields,ew,d,c,b,a,Result.andThen,run_equalIn_int w 9998 3 .i64 .i64 _ _ py,run_equalIn_int w 9998 5 .u8 .u8 _ _ Gn,run_equalIn_string w 9998 9 _ _ Cr]
def r9(a v2:Value)(n i:Nat):St:=⟨dn 26 [(0,.v a),(1,.v v2),(11,.v a),(12,.v (E n)),(13,.v (E i))],[]⟩
variable{v1 v2:Value}
def PO{Z:Zr}(h1:kA H v1 Z)(h2:kA H v2 Z)(s:Z.length<2^40):Zv 107 #[v1,v2] H fun r H2=>r=.bool true/\H2=H:=by
 obtain⟨q,c1,rfl,g1⟩:=h1;obtain⟨a2,c2,rfl,g2⟩:=h2;refine aP 26 func107 fun w0=>?_;have h0:((Z.length:Int) != (Z.length:Int))=false:=ao;apply RG;simp only[go_sem,h0];refine bV (fun x=>Z.length-x) (r9 (.slice q Z.length c1) (.slice a2 Z.length c2) Z.length) (fun i H2=>H2=H/\i<=Z.length) 0 al (by simp only[go_sem,Y,r9]) ⟨rfl,aE _⟩ ?_;rintro i H2 ⟨rfl,hi⟩ d;simp only[r9];rcases aK i Z.length with c|p
 .have f:=Z5 i Z.length;have e1:=Z7 i;obtain⟨t,ht⟩:∃t,Z[i]?=some t:=⟨_,aY c⟩;have j:(ko Z).length=Z.length*3:=wB _;have g:∀{a:Option Addr},(Z=[]\/∃b,a=some ⟨b,0,none⟩/\a8 H2 b 0 (ko Z))->∃b,a=some ⟨b,0,none⟩/\a8 H2 b (i*3) (ii (T.dec Z t)):=by
   rintro a (h|⟨b,e,h⟩)
   .rw[h]at c;simp at c
   .have k:=h.sub (i*3) 3 O;rw[wA ht,g8]at k;exact⟨b,e,k⟩
  obtain⟨w,rfl,o⟩:=g g1;obtain⟨u,rfl,m⟩:=g g2;refine bd f ?_;refine bG [0,1,2,3,4,5,6,7,8] [3,7,8] [] ?_;refine bU ?_
  try refine⟨O,?_⟩
  refine Zn (l:=ii (T.dec Z t)) (v:=dV (T.dec Z t)) rfl (by simpa using o) (.inl ⟨pX,rfl⟩) ?_;apply bo;simp only[go_sem,E,dV]
  try refine⟨O,?_⟩
  refine Zn (l:=ii (T.dec Z t)) (v:=dV (T.dec Z t)) rfl (by simpa using m) (.inl ⟨pX,rfl⟩) ?_;apply bo;simp only[go_sem,E,dV];refine Nr rfl rfl rfl rfl rfl (PK (T.dec Z t).1 (T.dec Z t).2.1 (T.dec Z t).2.2) ?_;refine bU ?_;apply aN;refine bd e1 ?_;exact d (i+1) _ _ O al (by simp only[go_sem,Y,r9]) ⟨rfl,c⟩
 .have:i=Z.length:=by omega
  subst this;have f:decide ((Z.length:Int)<(Z.length:Int))=false:=ao;refine bd f ?_;exact aX (r:=[_]) rfl ⟨rfl,rfl⟩
variable{t:T}
def L4(h:t.ok 0):(T.subs t).length+1<=2^24:=by obtain⟨us,e1,e2,_⟩:=(T.vis_spec t h O [] T.Seq.nil).2.2;rw[aQ]at e1;show (t.vis []).length+1<=_;rw[e1];exact e2
def BP(h1:bW H v1 t)(h2:bW H v2 t):Zv 53 #[v1,v2] H fun r H2=>r=.bool true/\H2=H:=by
 have c:=L4 h1.1;obtain⟨_,b,rfl,g1⟩:=h1;obtain⟨_,a,rfl,g2⟩:=h2;obtain⟨d,c1,rfl,_⟩:=id g1;obtain⟨a2,c2,rfl,_⟩:=id g2;refine aP 17 func53 fun w0=>?_
 try simp only[E]
 refine ai ?_;refine Zl rfl Iw (PO g1 g2 O) ?_;rintro v H2⟨rfl,rfl⟩;refine ai ?_;exact aX (r:=[_]) rfl ⟨rfl,rfl⟩
def sE(a v2 vf:Value)(n i:Nat):St:=⟨dn 32 [(0,.v a),(1,.v v2),(2,.v vf),(15,.v a),(16,.v (E n)),(17,.v (E i))],[]⟩
theorem PI:∀(m:Nat) {I:PH} {L v2:Value} {l:List M},aL l<m->aL l<=ar->bk I L l->bk I v2 l->Zu 89 #[L,v2,.func (.func 90) #[] #[]] I [] fun r t k=>k=[]/\r=.bool true:=by
 intro m
 induction m with
 |zero=>intro I L v2 l h;omega
 |succ m ih=>
 intro I L v2 l hm hz h1 h2 hd;obtain⟨a1,c1,rfl,_⟩:=id h1;obtain⟨a2,c2,rfl,_⟩:=id h2;have an:=mp l;unfold ar at hz;have h0:((l.length:Int) != (l.length:Int))=false:=ao;have o:∀{J:PH} {S R:Zo} {n:M},n∈l->ag J S n->ag J R n->Zu 90 #[.agg S.toArray,.agg R.toArray] J [] fun r t k=>k=[]/\r=.bool true:=by
  intro J S R n y hx hy hd;have am:=uj y;obtain⟨vk,K,H,rfl,w,g,_⟩:=hx.shape;obtain⟨wk,G,F,rfl,u,f,_⟩:=hy.shape;obtain⟨Q,P,rfl,_⟩:=id g;obtain⟨la,N,rfl,_⟩:=id f;refine aP 24 func90 fun w0=>?_
  try simp only[E,sD,rD]
  refine ai ?_;refine bG [0,2,1,3,4,5,6,7,8,9,10,11,12,13,14,15,16,17,18,19] [4] [] ?_;refine cz ?_;refine dU hd rfl tJ (bh.keep (tP n.kind n.tok n.slot _ n.text Q K n.kids.length P (T.subs n.cond).length H _)) ?_;rintro v J2 k b a⟨rfl,rfl⟩;refine cz ?_;refine dU b rfl tJ (bh.keep (tP n.kind n.tok n.slot _ n.text la G n.kids.length N (T.subs n.cond).length F _)) ?_;rintro v J3 k q e⟨rfl,rfl⟩;refine cz ?_;refine Nn rfl rfl rfl rfl rfl (PL n.key) ?_;have c:=D a e;refine cz ?_;refine dU q rfl vt (bh.keep (BP (w.le c) (u.le c))) ?_;rintro v J4 k Z d⟨rfl,rfl⟩;refine cz ?_;refine dU Z rfl Jh (ih (l:=n.kids) O (by unfold ar;omega) (bk.le g (D c d)) (bk.le f (D c d))) ?_;rintro v J5 k X A⟨rfl,rfl⟩;refine cz ?_;apply aN;refine ai ?_;exact az rfl X (r:=[_]) rfl (D c (D d A)) ⟨rfl,rfl⟩
 refine aP 32 func89 fun w0=>?_;apply RG;simp only[go_sem,h0];refine bV (fun x=>l.length-x) (sE (.slice a1 l.length c1) (.slice a2 l.length c2) (.func (.func 90) #[] #[]) l.length) (fun i H2=>∃t,H2=U [t]/\Dj [t]/\I.le t/\i<=l.length) 0 al (by simp only[go_sem,Y,sE]) ⟨I,rfl,hd,aD _,aE _⟩ ?_;rintro i H2 ⟨t,rfl,b,a,hi⟩ p;simp only[sE];rcases aK i l.length with z|ap
 .have s:=Z5 i l.length;have e1:=Z7 i;obtain⟨n,y⟩:∃n,l[i]?=some n:=⟨_,aY z⟩;obtain⟨b1,o1,S,rfl,C,W⟩:=Sl.load ag.len (bk.le h1 a) y;obtain⟨b2,o2,R,rfl,B,V⟩:=Sl.load ag.len (bk.le h2 a) y;obtain⟨vk,K,H,rfl,w,g,ac⟩:=C.shape;obtain⟨wk,G,F,rfl,u,f,aa⟩:=B.shape;obtain⟨Q,P,rfl,_⟩:=id g;obtain⟨la,N,rfl,_⟩:=id f;refine bd s ?_
  try refine⟨O,?_⟩
  refine Zm (l:=[.int .u8 n.kind,.string ⟨⟨n.text⟩⟩,.int .i64 n.tok,.int .i64 n.slot,.slice Q n.kids.length P,sD K H n.cond,rD n.cond]) (v:=.agg #[.int .u8 n.kind,.string ⟨⟨n.text⟩⟩,.int .i64 n.tok,.int .i64 n.slot,.slice Q n.kids.length P,sD K H n.cond,rD n.cond]) rfl (cellsU b (.head _) W) (.inl ⟨b9,rfl⟩) ?_;refine bK ?_
  try refine⟨O,?_⟩
  refine Zm (l:=[.int .u8 n.kind,.string ⟨⟨n.text⟩⟩,.int .i64 n.tok,.int .i64 n.slot,.slice la n.kids.length N,sD G F n.cond,rD n.cond]) (v:=.agg #[.int .u8 n.kind,.string ⟨⟨n.text⟩⟩,.int .i64 n.tok,.int .i64 n.slot,.slice la n.kids.length N,sD G F n.cond,rD n.cond]) rfl (cellsU b (.head _) V) (.inl ⟨b9,rfl⟩) ?_;refine bK ?_;refine eG b rfl RE (o (db y) C B) ?_;rintro v I3 k q e⟨rfl,rfl⟩;refine dm e1 ?_;exact p (i+1) _ _ O al (by simp only[go_sem,Y,sE]) ⟨I3,rfl,q,D a e,z⟩
 .have:i=l.length:=by omega
  subst this;have s:decide ((l.length:Int)<(l.length:Int))=false:=ao;refine bd s ?_;exact az rfl b (r:=[_]) rfl a ⟨rfl,rfl⟩
def WK{cx cy:Zo}{d:aI}(l:bj J cx d)(k:bj J cy d):Zu 92 #[.agg cx.toArray,.agg cy.toArray] J [] fun r t c=>c=[]/\r=.bool true:=by
 intro hd;obtain⟨p,o,rfl,f⟩:=id l;obtain⟨n,m,rfl,e⟩:=id k;refine aP 16 func92 fun w0=>?_
 try simp only[E,sD,rD]
 refine ai ?_;refine eG hd rfl AE (Aq l k) ?_;rintro v s c i a⟨rfl,rfl⟩;have j:(tC d d == 0)=true:=by rw[HS];simp
 refine dB j ?_;refine eG i rfl vt (bh.keep (BP (f.le a) (e.le a))) ?_;rintro v q c h b⟨rfl,rfl⟩;refine dB j ?_;exact az rfl h (r:=[_]) rfl (D a b) ⟨rfl,rfl⟩
theorem PG{u:Value}{l:List aI}(z:l.length<=ar)(h1:Sl bj I u l)(h2:Sl bj I v2 l):Zu 91 #[u,v2,.func (.func 92) #[] #[]] I [] fun r j w=>w=[]/\r=.bool true:=by
 intro hd;obtain⟨G,c1,rfl,_⟩:=id h1;obtain⟨a2,c2,rfl,_⟩:=id h2;unfold ar at z;have h0:((l.length:Int) != (l.length:Int))=false:=ao;refine aP 32 func91 fun w0=>?_;apply RG;simp only[go_sem,h0];refine bV (fun x=>l.length-x) (sE (.slice G l.length c1) (.slice a2 l.length c2) (.func (.func 92) #[] #[]) l.length) (fun i H2=>∃j,H2=U [j]/\Dj [j]/\I.le j/\i<=l.length) 0 al (by simp only[go_sem,Y,sE]) ⟨I,rfl,hd,aD _,aE _⟩ ?_;rintro i H2 ⟨j,rfl,b,a,hi⟩ c;simp only[sE];rcases aK i l.length with e|F
 .have d:=Z5 i l.length;have e1:=Z7 i;obtain⟨n,y⟩:∃n,l[i]?=some n:=⟨_,aY e⟩;obtain⟨Q,K,N,rfl,h,m⟩:=Sl.load bj.len (SlE.le h1 a) y;obtain⟨P,J,L,rfl,g,k⟩:=Sl.load bj.len (SlE.le h2 a) y;obtain⟨t,s,rfl,B⟩:=id h;obtain⟨q,p,rfl,A⟩:=id g;refine bd d ?_
  try refine⟨O,?_⟩
  refine Zm (l:=[.int .u8 n.code,.int .i64 n.tok,sD t s n.cond,rD n.cond]) (v:=.agg #[.int .u8 n.code,.int .i64 n.tok,sD t s n.cond,rD n.cond]) rfl (cellsU b (.head _) m) (.inl ⟨gh,rfl⟩) ?_;refine bK ?_
  try refine⟨O,?_⟩
  refine Zm (l:=[.int .u8 n.code,.int .i64 n.tok,sD q p n.cond,rD n.cond]) (v:=.agg #[.int .u8 n.code,.int .i64 n.tok,sD q p n.cond,rD n.cond]) rfl (cellsU b (.head _) k) (.inl ⟨gh,rfl⟩) ?_;refine bK ?_;refine eG b rfl RH (WK h g) ?_;rintro v H w o f⟨rfl,rfl⟩;refine dm e1 ?_;exact c (i+1) _ _ O al (by simp only[go_sem,Y,sE]) ⟨H,rfl,o,D a f,e⟩
 .have:i=l.length:=by omega
  subst this;have d:decide ((l.length:Int)<(l.length:Int))=false:=ao;refine bd d ?_;exact az rfl b (r:=[_]) rfl a ⟨rfl,rfl⟩
def WL{t:Tr}(h1:jt I v1 t)(h2:jt I v2 t)(l:aL t.kids<=ar)(h:t.diags.length<=ar):Zu 35 #[v1,v2] I [] fun r m g=>g=[]/\r=.bool true:=by obtain⟨s,A,rfl,e,_,f,_⟩:=h1;obtain⟨q,z,rfl,d,_,b,_⟩:=h2;obtain⟨p,o,rfl,_⟩:=id e;obtain⟨la,n,rfl,_⟩:=id d;obtain⟨y,x,rfl,_⟩:=id f;obtain⟨w,u,rfl,_⟩:=id b;intro hd;refine aP 17 func35 fun w0=>?_;refine ai ?_;refine eG hd rfl Jh (PI (aL t.kids+1) (eF _) l e d) ?_;rintro v m g k a⟨rfl,rfl⟩;refine ai ?_;refine eG k rfl RF (PG h (SlE.le f a) (SlE.le b a)) ?_;rintro v B g j c⟨rfl,rfl⟩;refine ai ?_;exact az rfl j (r:=[_]) rfl (D a c) ⟨rfl,rfl⟩
open Go Go.Sx Dg
def Bv{a b:Nat}(ha:a<2^32)(hb:b<2^32):yh .u32 (a:Int) (b:Int)=((a|||b:Nat):Int):=by
 have e:BitVec.ofInt 32 (a:Int)=BitVec.ofNat _ a:=by rw[BitVec.ofInt_natCast]
 have d:BitVec.ofInt 32 (b:Int)=BitVec.ofNat _ b:=by rw[BitVec.ofInt_natCast]
 have c:a|||b<2^32:=Nat.or_lt_two_pow ha hb;have:yh .u32 (a:Int) (b:Int)=IntKind.u32.wrap ((BitVec.ofInt 32 (a:Int)|||BitVec.ofInt 32 (b:Int)).toNat:Int):=rfl;rw[this,e,d,BitVec.toNat_or,BitVec.toNat_ofNat,BitVec.toNat_ofNat,Nat.mod_eq_of_lt ha,Nat.mod_eq_of_lt hb];simp only[IntKind.wrap,show IntKind.bits .u32=32 from rfl,show IntKind.signed .u32=false from rfl];have:((a|||b:Nat):Int) % (2^32:Int)=((a|||b:Nat):Int):=uw O (by exact_mod_cast c);simpa using this
def WU(hi:i<32):qT .u32 1 (i:Int)=((2^i:Nat):Int):=by have:qT .u32 1 (i:Int)=IntKind.u32.wrap (1*2^(min i 32)):=rfl;have e:min i 32=i:=O;have a:(2:Nat)^i<2^32:=Nat.pow_lt_pow_right O hi;rw[this,e,show (1*2^i:Int)=((2^i:Nat):Int) by simp];simp only[IntKind.wrap,show IntKind.bits .u32=32 from rfl,show IntKind.signed .u32=false from rfl];have:((2^i:Nat):Int) % (2^32:Int)=((2^i:Nat):Int):=uw (gL _) (by exact_mod_cast a);simpa using this
def xA(l:List (Nat×Nat)):Nat:=l.foldl (fun u x=>(u|||x.1)|||x.2) 0
def tw(l:List (Nat×Nat)):Nat:=xA l&&&16777215
def Ox(l:List (Nat×Nat))(x:Nat×Nat):xA (l++[x])=(xA l|||x.1)|||x.2:=by unfold xA;rw[pD];rfl
def lS(l:List (Nat×Nat))(u:Nat):Prop:=∀x∈l,∀i,i<24->x.1.testBit i=true\/x.2.testBit i=true->u.testBit i=true
variable{u:Nat}{l:List (Nat×Nat)}
def lS.left(h:lS l u)(v:Nat):lS l (u|||v):=fun x a i hi hb=>by rw[Nat.testBit_or,h x a i hi hb];rfl
def lS.right(h:lS l u)(v:Nat):lS l (v|||u):=fun x a i hi hb=>by rw[Nat.testBit_or,h x a i hi hb,Bool.or_true]
def Qk(l:List (Nat×Nat)):∀(z i:Nat),z.testBit i=true->(l.foldl (fun u x=>(u|||x.1)|||x.2) z).testBit i=true:=by
 induction l with
 |nil=>intro z i h;exact h
 |cons y l a=>intro z i h;exact a _ i (by rw[Nat.testBit_or,Nat.testBit_or,h];rfl)
def Ql(l:List (Nat×Nat)):∀(z:Nat),∀x∈l,∀i,x.1.testBit i=true\/x.2.testBit i=true->(l.foldl (fun u x=>(u|||x.1)|||x.2) z).testBit i=true:=by
 induction l with
 |nil=>intro z x a;exact(dJ a).elim
 |cons y l b=>
  intro z x a i hb;rcases List.mem_cons.1 a with rfl|a
  .refine Qk l _ i ?_;rw[Nat.testBit_or,Nat.testBit_or];rcases hb with hb|hb<;>rw[hb]<;>simp
  .exact b _ x a i hb
def L0(l:List (Nat×Nat)):lS l (tw l):=fun x a i hi hb=>by unfold tw;rw[uB,rV];simp only[hi,decide_true,rd];exact Ql l 0 x a i hb
def Hn(l:List (Nat×Nat)):tw l<2^24:=wR Nat.and_le_right af
def lW(u:Nat):Nat->Zp
 |0=>[0]
 | i+1=>if u.testBit i=true then lW u i++(lW u i).map (fun x=>x|||2^i)else lW u i
def y9(l:List (Nat×Nat))(u:Nat):Zp:=(lW u 32).filter (mU l)
def Ew:ay prog 23:=⟨_,func23,rfl,rfl⟩
def EE:ay prog 34:=⟨_,func34,rfl,rfl⟩
def IZ:ay prog 63:=⟨_,func63,rfl,rfl⟩
def Ru:ay prog 64:=⟨_,func64,rfl,rfl⟩
def QM:ay prog 21:=⟨_,func21,rfl,rfl⟩
def IR:ay prog 25:=⟨_,func25,rfl,rfl⟩
def Jc:ay prog 69:=⟨_,func69,rfl,rfl⟩
def s8(_:PH)(c:Zo)(x:Nat×Nat):Prop:=c=[.int .u32 x.1,.int .u32 x.2]/\x.1<2^32/\x.2<2^32
abbrev gE(I:PH)(v:Value)(l:List (Nat×Nat)):Prop:=Sl s8 I v l
def s8.len(c:Zo)(x:Nat×Nat)(h:s8 I c x):c.length=2:=by rw[h.1];rfl
variable{v:Value}
def gE.le(h:gE I v l)(k:I.le J):gE J v l:=Sl.le (R:=s8) (fun{I J c a} h k=>h) h k
def BS(v:Value)(x:Nat×Option Addr×Nat×T):St:=⟨dn 26 [(0,.v v),(2,.p 2 0),(3,.p 3 0),(4,.v (E x.1))],[⟨2,50,[.slice none 0 0,.int .i64 0]⟩,⟨3,50,[sD x.2.1 x.2.2.1 x.2.2.2,rD x.2.2.2]⟩]⟩
def WQ(l:List (Nat×Nat))(a:PH)(x:Nat×Option Addr×Nat×T)(H:PH):Prop:=∃I,H=U [I]/\Dj [I]/\a.le I/\x.1<=l.length/\x.2.2.2=nI (l.take x.1)/\bW I (.agg #[sD x.2.1 x.2.2.1 x.2.2.2,rD x.2.2.2]) x.2.2.2
def jQ{α:Type}{l:List α}{n:α}(h:l[i]?=some n):l.take (i+1)=l.take i++[n]:=by rw[List.take_add_one,h];rfl
theorem FA(B:gE I v l)(W:l.length<2^60):Zu 23 #[v] I [] fun r C t=>t=[]/\bW C r (nI l):=by
 obtain⟨L,vc,rfl,_⟩:=id B;intro hd;refine aP 26 func23 fun w0=>?_;refine ai ?_;refine Zl rfl tK (tG _) ?_;rintro v H2⟨rfl,rfl⟩;refine bJ ?_;refine bV (fun x=>l.length-x.1) (BS (.slice L l.length vc)) (WQ l I) (0,none,0,.lf false) al (by simp only[go_sem,Y,BS,sD,rD,E,T.subs,T.vis,T.plc,bg,dO,dG]) ?_ ?_
 .exact⟨I,rfl,hd,aD _,aE _,rfl,pd I false⟩
 rintro⟨i,Q,P,d⟩ H ⟨X,rfl,j,e,hi,g,hr⟩ m;simp only at hi g hr;simp only[BS];rcases aK i l.length with p|N
 .have z:=Z5 i l.length;have e1:=Z7 i;obtain⟨x,A⟩:∃x,l[i]?=some x:=⟨_,aY p⟩;obtain⟨b,off,cs,rfl,⟨rfl,K,J⟩,f⟩:=Sl.load (fun{I} c a h=>s8.len (I:=I) c a h) (gE.le B e) A;have c0:=f.get (i:=0) rfl;have c1:=f.get (i:=1) rfl;refine bd z ?_;refine bG [0,1,2,3,4,5,6,7,8,9,10,11,12,13] [5,10] [] ?_;refine cz ?_
  try refine⟨O,?_⟩
  refine Zn (l:=[.int .u32 x.1]) rfl (cellsU j (.head _) (by simpa using c0)) (.inr ⟨mJ,rfl⟩) ?_;refine cz ?_
  try refine⟨O,?_⟩
  refine Zn (l:=[.int .u32 x.2]) rfl (cellsU j (.head _) (by simpa using c1)) (.inr ⟨mJ,rfl⟩) ?_;refine cz ?_;refine dU j rfl Jc (DI K J) ?_;rintro V C t y k⟨rfl,s⟩;obtain⟨U,S,rfl⟩:=s.shape2;refine cz ?_;refine dU y rfl qo (qG (hr.le k) s) ?_;rintro v2 R t w q⟨rfl,o⟩;obtain⟨G,F,rfl⟩:=o.shape2;refine cz ?_;apply aN;refine bd e1 ?_;refine m (i+1,G,F,d.or (iJ x.1 x.2)) _ _ bi al (by simp only[go_sem,Y,BS,sD,rD,E]) ⟨R,rfl,w,D e (D k q),p,?_,o⟩;simp only;rw[jQ A,g];unfold nI;rw[pD];rfl
 .have:i=l.length:=by omega
  subst this;rw[dK]at g;have z:decide (((l.length:Nat):Int)<(l.length:Int))=false:=ao;refine dm z ?_;exact az rfl j (r:=[.agg #[sD Q P d,rD d]]) (by simp only[results23,go_sem,E,sD,rD]) e ⟨rfl,by rw[<-g];exact hr⟩
def xW(v:Value)(c:Nat)(i:Nat):St:=⟨dn 38 [(0,.v v),(1,.v (.int .u32 c)),(5,.v (E i))],[]⟩
theorem EK{c:Nat}(t:gE H v l)(C:l.length<2^60)(m:c<2^32):Zv 34 #[v,.int .u32 c] H fun r H2=>r=.bool (mU l c)/\H2=H:=by
 obtain⟨y,vc,rfl,_⟩:=id t;refine aP 38 func34 fun w0=>?_;refine ai ?_;refine bV (fun x=>l.length-x) (xW (.slice y l.length vc) c) (fun i H2=>H2=H/\i<=l.length/\mU l c=(l.drop i).any (nP c)) 0 al (by simp only[go_sem,Y,xW]) ⟨rfl,aE _,rfl⟩ ?_;rintro i H2 ⟨rfl,hi,ha⟩ d;simp only[xW];rcases aK i l.length with e|z
 .have q:=Z5 i l.length;have e1:=Z7 i;obtain⟨x,o⟩:∃x,l[i]?=some x:=⟨_,aY e⟩;obtain⟨b,off,cs,rfl,⟨rfl,s,w⟩,g⟩:=Sl.load (fun{I} c a h=>s8.len (I:=I) c a h) t o;have c0:=g.get (i:=0) rfl;have c1:=g.get (i:=1) rfl;have p:l.drop i=x::l.drop (i+1):=by rw[jz e];rw[aY e]at o;rw[cX o]
  rw[p,List.any_cons]at ha;have B:c&&&x.1<2^32:=wR Nat.and_le_left m;have A:c&&&x.2<2^32:=wR Nat.and_le_left m;have u:=lV m s;have a2:mK .u32 ((c&&&x.1:Nat):Int) 16777215=(((c&&&x.1)&&&16777215:Nat):Int):=lV B af;have a3:mK .u32 ((x.1:Nat):Int) 16777215=((x.1&&&16777215:Nat):Int):=lV s af;have a4:=lV m w;have a5:mK .u32 ((c&&&x.2:Nat):Int) 16777215=(((c&&&x.2)&&&16777215:Nat):Int):=lV A af;have k:=sj ((c&&&x.1)&&&16777215) (x.1&&&16777215);have j:((((c&&&x.2)&&&16777215:Nat):Int) == 0)=decide ((c&&&x.2)&&&16777215=0):=lY _;refine bd q ?_;refine bG [0,1,2,3,4,5,6,7,8,9,10,11,12,13,14,15,16,17,18,19,20,21,22,23,24,25] [5,12,21] [] ?_;refine bU ?_
  try refine⟨O,?_⟩
  refine Zn (l:=[.int .u32 x.1]) rfl (by simpa using c0) (.inr ⟨mJ,rfl⟩) ?_;refine bU ?_
  try refine⟨O,?_⟩
  refine Zn (l:=[.int .u32 x.1]) rfl (by simpa using c0) (.inr ⟨mJ,rfl⟩) ?_;cases h1:decide ((c&&&x.1)&&&16777215=x.1&&&16777215)
  .rw[h1]at k;have f:nP c x=false:=by unfold nP;rw[h1];rfl
   refine ge u a2 a3 k ?_;apply aN;refine bd e1 ?_;exact d (i+1) _ _ O al (by simp only[go_sem,Y,xW]) ⟨rfl,e,by rw[ha,f,lH]⟩
  .rw[h1]at k;refine ge u a2 a3 k ?_
   try refine⟨O,?_⟩
   refine Zn (l:=[.int .u32 x.2]) rfl (by simpa using c1) (.inr ⟨mJ,rfl⟩) ?_;cases h2:decide ((c&&&x.2)&&&16777215=0)
   .rw[h2]at j;have f:nP c x=false:=by unfold nP;rw[h2,Bool.and_false]
    apply bo;simp only[go_sem,E,a4,a5,j];apply aN;refine bd e1 ?_;exact d (i+1) _ _ O al (by simp only[go_sem,Y,xW]) ⟨rfl,e,by rw[ha,f,lH]⟩
   .rw[h2]at j;have f:nP c x=true:=by unfold nP;rw[h1,h2];rfl
    apply bo;simp only[go_sem,E,a4,a5,j];apply aN;refine bJ ?_;exact aX (r:=[_]) rfl ⟨by rw[ha,f];rfl,rfl⟩
 .have:i=l.length:=by omega
  subst this;rw[js]at ha;have q:decide (((l.length:Nat):Int)<(l.length:Int))=false:=ao;refine bd q ?_;exact aX (r:=[_]) rfl ⟨by rw[ha];rfl,rfl⟩
def Ab(v:Value)(x:Nat×Nat):St:=⟨dn 26 [(0,.v v),(3,.v (.int .u32 x.2)),(4,.v (E x.1))],[]⟩
def Ho(s:gE H v l)(B:l.length<2^60):Zv 63 #[v] H fun r H2=>r=.int .u32 (tw l:Nat)/\H2=H:=by
 obtain⟨t,vc,rfl,_⟩:=id s;refine aP 26 func63 fun w0=>?_;refine ai ?_;refine bV (fun x=>l.length-x.1) (Ab (.slice t l.length vc)) (fun x H2=>H2=H/\x.1<=l.length/\x.2<2^32/\x.2=xA (l.take x.1)) (0,0) al (by simp only[go_sem,Y,Ab]) ⟨rfl,aE _,by decide,rfl⟩ ?_;rintro⟨i,u⟩ H2 ⟨rfl,hi,k,e⟩ f;simp only at hi k e;simp only[Ab];rcases aK i l.length with j|z
 .have m:=Z5 i l.length;have e1:=Z7 i;obtain⟨x,q⟩:∃x,l[i]?=some x:=⟨_,aY j⟩;obtain⟨b,off,cs,rfl,⟨rfl,p,o⟩,d⟩:=Sl.load (fun{I} c a h=>s8.len (I:=I) c a h) s q;have c0:=d.get (i:=0) rfl;have c1:=d.get (i:=1) rfl;have g:=Nat.or_lt_two_pow k p;have y:=Bv k p;have w:=Bv g o;refine bd m ?_;refine bG [0,1,2,3,4,5,6,7,8,9,10,11,12,13] [5,11] [] ?_;refine bU ?_
  try refine⟨O,?_⟩
  refine Zn (l:=[.int .u32 x.1]) rfl (by simpa using c0) (.inr ⟨mJ,rfl⟩) ?_;refine bQ y ?_
  try refine⟨O,?_⟩
  refine Zn (l:=[.int .u32 x.2]) rfl (by simpa using c1) (.inr ⟨mJ,rfl⟩) ?_;refine bQ w ?_;apply aN;refine bd e1 ?_;exact f (i+1,(u|||x.1)|||x.2) _ _ bi al (by simp only[go_sem,Y,Ab]) ⟨rfl,j,Nat.or_lt_two_pow g o,by simp only;rw[jQ q,Ox,<-e]⟩
 .have:i=l.length:=by omega
  subst this;have m:decide (((l.length:Nat):Int)<(l.length:Int))=false:=ao;have A:mK .u32 (u:Int) 16777215=((u&&&16777215:Nat):Int):=lV k af;refine d6 m A ?_;rw[dK]at e;exact aX (r:=[_]) rfl ⟨by rw[e];rfl,rfl⟩
def fB(u:Nat):Nat->Nat
 |0=>0
 |i+1=>fB u i+(u.testBit i).toNat
def Fk(u:Nat):∀i,fB u i<=i
 |0=>aR _
 |i+1=>by have:=Fk u i;show fB u i+(u.testBit i).toNat<=i+1;cases u.testBit i<;>simp<;>omega
def VZ(u:Nat){j:Nat}(h:i<=j):fB u i<=fB u j:=by
 induction h with
 |refl=>exact aR _
 |step _ a=>exact fJ a (Nat.le_add_right _ _)
def Ov(u i:Nat):(u >>> i)&&&1=(u.testBit i).toNat:=by rw[Nat.and_one_is_mod,Nat.testBit_eq_decide_div_mod_eq,rg];have:=Nat.mod_two_eq_zero_or_one (u / 2^i);rcases this with h|h<;>simp[h]
def Hm(a:u<2^32)(hi:i<=32):mK .u32 (mn .u32 (u:Int) (i:Int)) 1=(((u.testBit i).toNat:Nat):Int):=by rw[BU hi,<-Ov];exact lV (b:=1) (BV a) af
def Az(u most:Nat)(i:Nat):St:=⟨dn 21 [(0,.v (.int .u32 u)),(1,.v (E most)),(5,.v (E (fB u i))),(6,.v (E i))],[]⟩
def P2{most:Nat}(f:u<2^32):Zv 64 #[.int .u32 u,E most] H fun r H2=>r=.bool (decide (fB u 32<=most))/\H2=H:=by
 refine aP 21 func64 fun w0=>?_
 try simp only[E]
 refine ai ?_;refine bV (fun x=>32-x) (Az u most) (fun i H2=>H2=H/\i<=32) 0 (fE (by simp only[go_sem,Y,E,fB])) (by simp only[go_sem,Y,Az]) ⟨rfl,aE _⟩ ?_;rintro i H2 ⟨rfl,hi⟩ a;simp only[Az];have hp:=Fk u i;rcases aK i 32 with b|g
 .have h:decide ((i:Int)<32)=true:=bm O;have e1:=Z7 i;have j:=Hm f (i:=i) O;have k:(u.testBit i).toNat<=1:=by cases u.testBit i<;>simp
  have d:IntKind.i64.wrap (((u.testBit i).toNat:Nat):Int)=(((u.testBit i).toNat:Nat):Int):=wrap64 O;have w2:IntKind.i64.wrap ((fB u i:Int)+(((u.testBit i).toNat:Nat):Int))=((fB u (i+1):Nat):Int):=by
   have e:(fB u i:Int)+(((u.testBit i).toNat:Nat):Int)=((fB u (i+1):Nat):Int):=by show _=(((fB u i+(u.testBit i).toNat:Nat)):Int);omega
   rw[e];exact wrap64 (by have:=Fk u (i+1);omega)
  apply RG;simp only[go_sem,E,h,gL,j,d,w2,e1];exact a (i+1) _ _ O al (by simp only[go_sem,Y,Az]) ⟨rfl,b⟩
 .have:i=32:=by omega
  subst this;have c:decide ((fB u 32:Int)<=(most:Int))=decide (fB u 32<=most):=by rw[Bool.eq_iff_iff,dE,dE];omega
  apply RG;simp only[go_sem,E,dP,c];exact aX (r:=[_]) rfl ⟨rfl,rfl⟩
def Pq{a b:Zr}(ha:T.Seq a)(hb:T.Seq b)(h:a.map (T.dec a)=b.map (T.dec b)):a=b:=by
 have k:a.length=b.length:=by have:=congrArg List.length h;simpa using this
 have key:∀i,i<=a.length->a.take i=b.take i:=by
  intro i
  induction i with
  |zero=>intro _;simp
  |succ i j=>
   intro hi;have ht:=j O;obtain⟨x,e⟩:∃x,a[i]?=some x:=⟨_,aY O⟩;obtain⟨y,d⟩:∃y,b[i]?=some y:=⟨_,aY O⟩;obtain⟨v,l,r,rfl,_,h1,h2⟩:=ha.2 i x e;obtain⟨m,l',n,rfl,_,h3,h4⟩:=hb.2 i y d;have g:=congrArg (fun z:List (Nat×Nat×Nat)=>z[i]?) h;simp only[iZ,e,d,df,bf,T.dec,gN]at g;obtain⟨rfl,e1,e2⟩:=g;have f:∀{z:T},T.isIn (a.take i) z->T.plc a z=T.plc (a.take i) z:=fun{z} c=>by
    have:=T.plc_app (us:=a.drop i) c
    rwa [pG]at this
   have pb:∀{z:T},T.isIn (b.take i) z->T.plc b z=T.plc (b.take i) z:=fun{z} c=>by
    have:=T.plc_app (us:=b.drop i) c
    rwa [pG]at this
   rw[f h1,pb h3,<-ht]at e1;rw[f h2,pb h4,<-ht]at e2;rw[<-ht]at h3 h4;have:=T.plc_inj h1 h3 e1;have:=T.plc_inj h2 h4 e2
   subst_vars
   rw[jQ e,jQ d,ht]
 have h1:=key a.length (aR _);rw[dK,k,dK]at h1;exact h1
def XF{s:T}(hs:s.ok 0)(ht:t.ok 0)(h:T.subs s=T.subs t)(hp:T.plc (T.subs s) s=T.plc (T.subs t) t):s=t:=by have h1:=T.subs_in hs;rw[h]at h1 hp;exact T.plc_inj h1 (T.subs_in ht) hp
def Gy(P:Program)(T:TypeId)(cs a:Array Value)(b:Bool):Prop:=P.eqGuardType P.depth T=false/\∀w,(Op.equalIn 10000 T (.agg cs) (.agg a)).run P w=.ok b w
def Nq{l:List (Nat×Oper)}{T:TypeId}{ds:Array Value}{b:Bool}(hf:fr.h.contains i=true)(e:bH ol σ o=some true)(aa:o.op=.binOp .neq T x y T2)(c:ev σ x=.v (.agg cs))(a:ev σ y=.v (.agg ds))(d:Gy C.P T cs ds b)(h:RD C ol fr str l k (σ.put o.dst (.v (.bool (!b)))) H):RD C ol fr str ((i,o)::l) k σ H:=by
 refine uN (.bool (!b)) hf e ?_ (by rw[aa];rfl) ?_ h
 .simp[bR,aa,fx,Op.operands,c,a,fN]
 .intro w _;simp[execOp,aa,bp,c,a,ew,run_eqGuard_agg w .neq T x y cs ds d.1,run_neq_struct,d.2 w,Result.andThen]
def PF(a b c d b' c':Int):Gy prog 181 #[.int .i64 a,.int .i64 b,.int .i64 c] #[.int .i64 d,.int .i64 b',.int .i64 c'] (decide ((a,b,c)=(d,b',c'))):=by
 refine⟨by kernel_rfl,fun w=>?_⟩;have h:prog.underlying 181=some (.struct (prog.fieldsOf 181)):=ae;have hp:prog.stoodInHeld 181=false:=ae;have hf:(prog.fieldsOf 181).toList=[⟨ "Var",3,0,false,"","",0⟩,⟨ "Low",3,1,false,"","",8⟩,⟨ "High",3,2,false,"","",16⟩]:=by unfold Program.fieldsOf;rw[Cq]
 have g:∀a b c:Int,(part 3 #[.int .i64 a,.int .i64 b,.int .i64 c] 0).run prog w=.ok (.int .i64 a) w:=fun _ _ _=>nj (by unfold iS;rw[eR];rfl);have f:∀a b c:Int,(part 3 #[.int .i64 a,.int .i64 b,.int .i64 c] 1).run prog w=.ok (.int .i64 b) w:=fun _ _ _=>nj (by unfold iS;rw[eR];rfl);have e:∀a b c:Int,(part 3 #[.int .i64 a,.int .i64 b,.int .i64 c] 2).run prog w=.ok (.int .i64 c) w:=fun _ _ _=>nj (by unfold iS;rw[eR];rfl);rw[show (10000:Nat)=9998+1+1 from rfl,run_equalIn_agg w (9998+1) 181 _ _ h hp,hf];by_cases h1:a=d<;>by_cases h2:b=b'<;>by_cases h3:c=c'<;>
 simp[Op.eqFields,ew,g,f,e,Result.andThen,run_equalIn_int w 9998 3 .i64 .i64 _ _ py,h1,h2,h3]
def PM(a b:Zr)(H0:PH)(i:Nat)(H:PH):Prop:=H=H0/\i<=a.length/\(a.map (T.dec a)).take i=(b.map (T.dec b)).take i
def PN{ta tb:Zr}(h1:kA H v1 ta)(h2:kA H v2 tb)(C:ta.length<2^40):Zv 107 #[v1,v2] H fun r H2=>(∃b:Bool,r=.bool b/\(b=true->ta.map (T.dec ta)=tb.map (T.dec tb)))/\H2=H:=by
 obtain⟨y,c1,rfl,g1⟩:=h1;obtain⟨a2,c2,rfl,g2⟩:=h2;refine aP 26 func107 fun w0=>?_;cases h0:((ta.length:Int) != (tb.length:Int))
 rotate_left
 .apply RG;simp only[go_sem,h0];exact aX (r:=[_]) rfl ⟨⟨false,rfl,fun h=>by cases h⟩,rfl⟩
 have w:ta.length=tb.length:=by have:=bne_eq_false_iff_eq.1 h0;omega
 apply RG;simp only[go_sem,h0];refine bV (fun x=>ta.length-x) (r9 (.slice y ta.length c1) (.slice a2 tb.length c2) ta.length) (PM ta tb H) 0 al (by simp only[go_sem,Y,r9]) ⟨rfl,aE _,by simp⟩ ?_;rintro i H2 ⟨rfl,hi,d⟩ c;simp only[r9];rcases aK i ta.length with g|q
 .have f:=Z5 i ta.length;have e1:=Z7 i;have j:∀{a:Option Addr} {Z:Zr} {t:T},Z[i]?=some t->(Z=[]\/∃b,a=some ⟨b,0,none⟩/\a8 H2 b 0 (ko Z))->∃b,a=some ⟨b,0,none⟩/\a8 H2 b (i*3) (ii (T.dec Z t)):=by
   rintro a Z t ht (h|⟨b,e,h⟩)
   .rw[h]at ht;cases ht
   .have k:(ko Z).length=Z.length*3:=wB _;have:=(List.getElem?_eq_some_iff.1 ht).1;have m:=h.sub (i*3) 3 O;rw[wA ht,g8]at m;exact⟨b,e,m⟩
  obtain⟨s,hs⟩:∃s,ta[i]?=some s:=⟨_,aY g⟩;obtain⟨t,ht⟩:∃t,tb[i]?=some t:=⟨_,aY O⟩;obtain⟨G,rfl,p⟩:=j hs g1;obtain⟨F,rfl,o⟩:=j ht g2;refine bd f ?_;refine bG [0,1,2,3,4,5,6,7,8] [3,7,8] [] ?_;refine bU ?_
  try refine⟨O,?_⟩
  refine Zn (l:=ii (T.dec ta s)) (v:=dV (T.dec ta s)) rfl (by simpa using p) (.inl ⟨pX,rfl⟩) ?_;apply bo;simp only[go_sem,E,dV]
  try refine⟨O,?_⟩
  refine Zn (l:=ii (T.dec tb t)) (v:=dV (T.dec tb t)) rfl (by simpa using o) (.inl ⟨pX,rfl⟩) ?_;apply bo;simp only[go_sem,E,dV];refine Nq rfl rfl rfl rfl rfl (PF (T.dec ta s).1 (T.dec ta s).2.1 (T.dec ta s).2.2 (T.dec tb t).1 (T.dec tb t).2.1 (T.dec tb t).2.2) ?_;cases hd:decide ((((T.dec ta s).1:Int),((T.dec ta s).2.1:Int),((T.dec ta s).2.2:Int))=(((T.dec tb t).1:Int),((T.dec tb t).2.1:Int),((T.dec tb t).2.2:Int)))
  .apply bo;simp only[go_sem,E,dg];apply aN;refine bd e1 ?_;exact aX (r:=[_]) rfl ⟨⟨false,rfl,fun h=>by cases h⟩,rfl⟩
  .apply bo;simp only[go_sem,E,cL];apply aN;refine bd e1 ?_;refine c (i+1) _ _ O al (by simp only[go_sem,Y,r9]) ⟨rfl,g,?_⟩;have:=lN hd;simp only[gN]at this;obtain⟨B,A,z⟩:=this;have u:T.dec ta s=T.dec tb t:=by refine Prod.ext O (Prod.ext O O)
   rw[jQ (l:=ta.map (T.dec ta)) (n:=T.dec ta s) (by rw[iZ,hs];rfl),jQ (l:=tb.map (T.dec tb)) (n:=T.dec tb t) (by rw[iZ,ht];rfl),d,u]
 .have:i=ta.length:=by omega
  subst this;have f:decide ((ta.length:Int)<(ta.length:Int))=false:=ao;rw[uy ao,uy (by rw[eO];omega)]at d;refine bd f ?_;exact aX (r:=[_]) rfl ⟨⟨true,rfl,fun _=>d⟩,rfl⟩
def Lo{s:T}(h1:bW H v1 s)(h2:bW H v2 t):Zv 53 #[v1,v2] H fun r H2=>(∃b:Bool,r=.bool b/\(b=true->s=t))/\H2=H:=by
 have f:=L4 h1.1;obtain⟨a,d,rfl,g1⟩:=h1;obtain⟨qC,c,rfl,g2⟩:=h2;obtain⟨g,c1,rfl,_⟩:=id g1;obtain⟨a2,c2,rfl,_⟩:=id g2;refine aP 17 func53 fun w0=>?_
 try simp only[E]
 cases h0:((T.plc (T.subs s) s:Int) == (T.plc (T.subs t) t:Int))
 .apply RG;simp only[go_sem,h0];exact aX (r:=[_]) rfl ⟨⟨false,rfl,fun h=>by cases h⟩,rfl⟩
 .apply RG;simp only[go_sem,h0];refine Zl rfl Iw (PN g1 g2 O) ?_;rintro v H2⟨⟨b,rfl,hb⟩,rfl⟩;apply RG;simp only[go_sem,h0];refine aX (r:=[_]) rfl ⟨⟨b,rfl,fun h=>?_⟩,rfl⟩;have e:=eq_of_beq h0;exact XF a qC (Pq (T.subs_seq a) (T.subs_seq qC) (hb h)) O
open Go Go.Sx
theorem N6:Sx.bu prog 266=some none:=ae
theorem XN:Sx.bE prog 266=some 1:=ae
theorem Zf:Sx.br prog 266=some (.slice none 0 0):=ae
theorem Pz:Sx.bI prog 266=.sl 2:=ae
theorem TX:Sx.bD prog 266=.sl:=ae
theorem Sk:Sx.bO prog 266=true:=ae
def lE:Sx.cO prog 266 270 2 32:=cO.of ae ae O
theorem Df:Sx.bu prog 270=some (some 2):=ae
theorem XO:Sx.bE prog 270=some 2:=ae
theorem Zg:Sx.br prog 270=some (.agg #[.int .u8 0,.slice none 0 0]):=ae
theorem Qd:Sx.bw prog 270 0=some (0,5):=ae
theorem Qe:Sx.bw prog 270 1=some (1,268):=ae
theorem SN:Sx.fd prog 270=true:=ae
theorem PA:Sx.bI prog 270=.none:=ae
theorem TY:Sx.bD prog 270=.other:=ae
theorem Sm:Sx.bO prog 270=true:=ae
theorem N8:Sx.bu prog 337=some (some 20):=ae
theorem XQ:Sx.bE prog 337=some 20:=ae
theorem PC:Sx.bI prog 337=.arr 20 1:=ae
theorem T0:Sx.bD prog 337=.other:=ae
theorem So:Sx.bO prog 337=true:=ae
theorem Zi:Sx.br prog 337=some (.agg #[.slice none 0 0,.slice none 0 0,.slice none 0 0,.slice none 0 0,.slice none 0 0,.slice none 0 0,.slice none 0 0,.slice none 0 0,.slice none 0 0,.slice none 0 0,.slice none 0 0,.slice none 0 0,.slice none 0 0,.slice none 0 0,.slice none 0 0,.slice none 0 0,.slice none 0 0,.slice none 0 0,.slice none 0 0,.slice none 0 0]):=ae
attribute [go_sem] N6 XN Zf Pz TX Sk Df XO Zg Qd Qe SN PA TY Sm N8 XQ PC T0 So Zi
theorem N5:Sx.bu prog 127=some none:=ae
theorem XM:Sx.bE prog 127=some 1:=ae
theorem Ze:Sx.br prog 127=some (.slice none 0 0):=ae
theorem Py:Sx.bI prog 127=.sl 3:=ae
theorem TW:Sx.bD prog 127=.sl:=ae
theorem Sj:Sx.bO prog 127=true:=ae
def FF:Sx.cO prog 127 278 3 56:=cO.of ae ae O
theorem N7:Sx.bu prog 278=some (some 3):=ae
theorem XP:Sx.bE prog 278=some 3:=ae
theorem Zh:Sx.br prog 278=some (.agg #[.slice none 0 0,.int .i64 0,.slice none 0 0]):=ae
theorem Qf:Sx.bw prog 278 0=some (0,81):=ae
theorem Qg:Sx.bw prog 278 1=some (1,3):=ae
theorem Qh:Sx.bw prog 278 2=some (2,159):=ae
theorem SP:Sx.fd prog 278=true:=ae
theorem PB:Sx.bI prog 278=.none:=ae
theorem TZ:Sx.bD prog 278=.other:=ae
theorem Sn:Sx.bO prog 278=true:=ae
attribute [go_sem] N5 XM Ze Py TW Sj N7 XP Zh Qf Qg Qh SP PB TZ Sn
end Go.Proofs.YtfaclfkpnmcmlaaGreatDoor
