import Derived.Test.YtfaclfkpnmcmlaaGreatDoorJ05
set_option maxHeartbeats 8000000
set_option linter.all false
namespace Syn
open Dg
variable{N:Nat}
def VY{f:ad}(hs:f.Pairwise (fun s t=>s.1<t.1))(h:∀s∈f,s.1<=N):f.length<=N+1:=by
 have key:∀(f:ad) (b:Nat),f.Pairwise (fun s t=>s.1<t.1)->(∀s∈f,s.1<=N)->(∀s∈f,b<=s.1)->f.length+b<=N+1\/f=[]:=by
  intro f
  induction f with
  |nil=>intro b _ _ _;exact .inr rfl
  |cons s f a=>
   intro b h1 h2 h3;rw[mh]at h1
   left
   have hb:=h3 s (.head _);have hN:=h2 s (.head _);rcases a (s.1+1) h1.2 (fun t ht=>h2 t (.tail _ ht)) (fun t ht=>h1.1 t ht)with h|h
   .simp only[bm];omega
   .subst h;simp only[bm,bo];omega
 rcases key f 0 hs h (fun _ _=>aF _)with h|h
 .omega
 .subst h;simp
structure FN(N:Nat)(f:ad):Prop where
 ok:aA f
 le:∀s∈f,s.1<=N
def FN.len{f:ad}(h:FN N f):f.length<=N+1:=VY h.ok.2 h.le
theorem FN.join{f:ad}(h:FN N f){a:Nat}{d:T}(ha:a<=N)(hd:d.ok 0):FN N (Syn.join f a d):=
 ⟨ir h.ok hd,fun s hs=>(Su hs).elim (fun e=>by omega) (fun⟨t,ht,e⟩=>by have:=h.le t ht;omega)⟩
def FN.nil(N:Nat):FN N []:=⟨aA.nil,fun s h=>(dH h).elim⟩
theorem FN.joinAll{g:ad}:∀{f:ad},FN N f->FN N g->FN N (Syn.joinAll f g):=by
 induction g with
 |nil=>intro f h _;exact h
 |cons s g b=>intro f h a;exact b (h.join (a.le s (.head _)) (a.ok.1 s (.head _)).1) ⟨a.ok.tail,fun t ht=>a.le t (.tail _ ht)⟩
def kQ(Z:List Tok)(f:ad)(i:Nat):ad:=(f.take i).foldl (fun at' s=>gF at' (Z.drop s.1) s.1 s.2) []
def GD{Z:List Tok}{f:ad}{i:Nat}{s:Nat×T}(hs:f[i]?=some s):kQ Z f (i+1)=gF (kQ Z f i) (Z.drop s.1) s.1 s.2:=by
 have a:i<f.length:=by
  rcases aI i f.length with h|h
  .exact h
  .rw[fe h]at hs;cases hs
 unfold kQ;rw[pj a];rw[aZ a]at hs;rw[cW hs,pg];rfl
def KS{N:Nat}:∀{l:List Tok} {a:ad} {i:Nat} {d:T},FN N a->bw l->d.ok 0->i+l.length=N->FN N (gF a l i d)
 | [],a,i,d,ha,b,hd,h=>ha.join (by simp at h;omega) hd
 |t::l,a,i,d,ha,b,hd,h=>by
  simp only[gF];split
  .exact ha
  .have ht:=b t (.head _);simp only[bm]at h;exact KS (ha.join O (T.and_ok hd ht)) (fun x c=>b x (.tail _ c)) (T.and_ok hd (T.not_ok ht)) O
def CR{Z:List Tok}{f:ad}(a:bw Z)(hf:FN Z.length f):∀i,i<=f.length->FN Z.length (kQ Z f i)
 |0,_=>FN.nil _
 |i+1,hi=>by obtain⟨s,hs⟩:∃s,f[i]?=some s:=⟨_,aZ hi⟩;have hm:=cY hs;rw[GD hs];exact KS (CR a hf i O) (a.drop _) (hf.ok.1 s hm).1 (by have:=hf.le s hm;simp;omega)
def rC{α β:Type}{g:α->β->α}{z:α}{l:List β}{i:Nat}{x:β}(h:l[i]?=some x):(l.take (i+1)).foldl g z=g ((l.take i).foldl g z) x:=by
 have a:i<l.length:=by
  rcases aI i l.length with b|b
  .exact b
  .rw[fe b]at h;cases h
 rw[pj a];rw[aZ a]at h;rw[cW h,pg];rfl
def Ht{α β:Type}{g:α->β->α}(μ:α->Nat)(h:∀z x,μ z<=μ (g z x)):∀(l:List β) (z:α),μ z<=μ (l.foldl g z)
 | [],z=>aR _
 |x::l,z=>fD (h z x) (Ht μ h l (g z x))
def DB{α β:Type}{g:α->β->α}(μ:α->Nat)(h:∀z x,μ z<=μ (g z x))(l:List β)(i:Nat)(z:α):μ ((l.take i).foldl g z)<=μ (l.foldl g z):=by
 have:=Ht μ h (l.drop i) ((l.take i).foldl g z)
 rwa [<-pg,tL]at this
def sY{α β:Type}{g:α->β->α}(Q:α->Prop):∀{l:List β} {z:α},Q z->(∀z x,x∈l->Q z->Q (g z x))->Q (l.foldl g z)
 | [],z,h,_=>h
 |x::l,z,h,k=>sY Q (l:=l) (k z x (List.mem_cons_self ..) h) fun z y a=>k z y (List.mem_cons_of_mem _ a)
def Im{Z:List Tok}{f:ad}(a:bw Z)(fn:FN Z.length f):FN Z.length (ll Z f):=by
 have h1:=CR a fn f.length (aR _);unfold kQ at h1
 rwa [dO]at h1
def mF{Z:List Tok}{f:ad}(a:bw Z)(fn:FN Z.length f):(ce Z f).length<=Z.length+1:=by rw[s5 a fn.ok,eN];exact(Im a fn).len
structure dp(Z:List Tok)(h:ah):Prop where
 le:h.at'<=Z.length
 ok:h.cond.ok 0
 ne:h.cond≠ff
 eq:h=fk Z (h.at',h.cond)
def gp{Z:List Tok}{f:ad}(a:bw Z)(fn:FN Z.length f){h:ah}(b:h∈ce Z f):dp Z h:=by rw[s5 a fn.ok]at b;obtain⟨s,hs,rfl⟩:=List.mem_map.1 b;have k:=Im a fn;refine⟨by rw[s4];exact k.le s hs,by rw[uI];exact(k.ok.1 s hs).1,by rw[uI];exact(k.ok.1 s hs).2,?_⟩;rw[s4,uI]
def dp.lt{Z:List Tok}{h:ah}(k:dp Z h)(a:h.text≠[]\/h.kind≠0):h.at'<Z.length:=by
 rcases aI h.at' Z.length with h1|h1
 .exact h1
 .have e:=k.eq;unfold fk at e;rw[fe h1]at e;simp only at e;rw[e]at a;simp at a
def fX(s:al)(r:ad×List aG)(h:ah):ad×List aG:=if h.text=s then (Syn.join r.1 (h.at'+1) h.cond,r.2)else (r.1,r.2++db h 10)
theorem Fu(Z:List Tok)(f:ad)(s:al):Syn.take Z f s=(ce Z f).foldl (fX s) ([],[]):=rfl
variable{hl:List ah}
def Li{Z:List Tok}{s:al}(hs:s≠[])(a:∀h∈hl,dp Z h):FN Z.length (hl.foldl (fX s) ([],[])).1:=
 sY (fun(r:ad×List aG)=>FN Z.length r.1) (FN.nil _) fun r h hm k=>by
  unfold fX;split
  .rename_i e;have:=(a h hm).lt (.inl (by rw[e];exact hs));exact k.join O (a h hm).ok
  .exact k
def hQ(is:ah->Bool)(r:List ah×ad)(h:ah):List ah×ad:=if is h then (r.1++[h],r.2)else (r.1,Syn.join r.2 h.at' h.cond)
theorem KN(Z:List Tok)(f:ad)(is:ah->Bool):bM Z f is=(ce Z f).foldl (hQ is) ([],[]):=rfl
def KL{Z:List Tok}{is:ah->Bool}(a:∀h∈hl,dp Z h):FN Z.length (hl.foldl (hQ is) ([],[])).2:=
 sY (fun(r:List ah×ad)=>FN Z.length r.2) (FN.nil _) fun r h hm k=>by
  unfold hQ;split
  .exact k
  .exact k.join (a h hm).le (a h hm).ok
def KM{is:ah->Bool}:∀(a:List ah) (z:List ah×ad),(a.foldl (hQ is) z).1.length<=z.1.length+a.length
 | [],z=>aR _
 |h::a,z=>by
  have:=KM (is:=is) a (hQ is z h);have h2:(hQ is z h).1.length<=z.1.length+1:=by unfold hQ;split<;>simp
  simp only[gW,bm];omega
def dR(kind slot:Nat)(r:aw)(h:ah):aw:=
 if h.kind≠1\/fy h.text=true then { r with e:=r.e++db h 10 } else ⟨r.l++[⟨kind,h.text,h.at',slot,[],h.cond⟩],Syn.join r.f (h.at'+1) h.cond,r.e⟩
theorem xC(Z:List Tok)(f:ad)(kind slot:Nat):named Z f kind slot=(ce Z f).foldl (dR kind slot) ⟨[],[],[]⟩:=rfl
def Jz{Z:List Tok}{kind slot:Nat}(a:∀h∈hl,dp Z h):FN Z.length (hl.foldl (dR kind slot) ⟨[],[],[]⟩).f:=
 sY (fun(r:aw)=>FN Z.length r.f) (FN.nil _) fun r h hm k=>by
  unfold dR;split
  .exact k
  .rename_i b;have:h.kind=1:=by
    by_cases e:h.kind=1
    .exact e
    .exact absurd (.inl e) b
   have:=(a h hm).lt (.inr O);exact k.join O (a h hm).ok
def Ev{kind slot:Nat}:∀(a:List ah) (z:aw),(a.foldl (dR kind slot) z).l.length<=z.l.length+a.length
 | [],z=>aR _
 |h::a,z=>by
  have:=Ev (kind:=kind) (slot:=slot) a (dR kind slot z h);have h2:(dR kind slot z h).l.length<=z.l.length+1:=by unfold dR;split<;>simp
  simp only[gW,bm];omega
def dU(slot:Nat)(r:aw)(h:ah):aw:=
 if h.text≠nZ/\h.text≠nY then { r with e:=r.e++db h 10 } else ⟨r.l++[⟨5,h.text,h.at',slot,[],h.cond⟩],Syn.join r.f (h.at'+1) h.cond,r.e⟩
theorem BM(Z:List Tok)(f:ad)(slot:Nat):hU Z f slot=(ce Z f).foldl (dU slot) ⟨[],[],[]⟩:=rfl
def Lu{Z:List Tok}{slot:Nat}(a:∀h∈hl,dp Z h):FN Z.length (hl.foldl (dU slot) ⟨[],[],[]⟩).f:=
 sY (fun(r:aw)=>FN Z.length r.f) (FN.nil _) fun r h hm k=>by
  unfold dU;split
  .exact k
  .rename_i b;have:h.text≠[]:=fun e=>b (by rw[e];decide);have:=(a h hm).lt (.inl this);exact k.join O (a h hm).ok
def FC{slot:Nat}:∀(a:List ah) (z:aw),(a.foldl (dU slot) z).l.length<=z.l.length+a.length
 | [],z=>aR _
 |h::a,z=>by
  have:=FC (slot:=slot) a (dU slot z h);have h2:(dU slot z h).l.length<=z.l.length+1:=by unfold dU;split<;>simp
  simp only[gW,bm];omega
section
variable {Z:List Tok} {f:ad}
def nE(a:bw Z)(fn:FN Z.length f)(kind slot:Nat):FN Z.length (named Z f kind slot).f:=by rw[xC];exact Jz fun h b=>gp a fn b
def uY(a:bw Z)(fn:FN Z.length f)(kind slot:Nat):(named Z f kind slot).l.length<=Z.length+1:=by rw[xC];have:=Ev (kind:=kind) (slot:=slot) (ce Z f) ⟨[],[],[]⟩;have h2:=mF a fn;simp only[bo]at this;omega
def BL(a:bw Z)(fn:FN Z.length f)(slot:Nat):FN Z.length (hU Z f slot).f:=by rw[BM];exact Lu fun h b=>gp a fn b
def Xk(a:bw Z)(fn:FN Z.length f)(slot:Nat):(hU Z f slot).l.length<=Z.length+1:=by rw[BM];have:=FC (slot:=slot) (ce Z f) ⟨[],[],[]⟩;have h2:=mF a fn;simp only[bo]at this;omega
def iS(a:bw Z)(fn:FN Z.length f){s:al}(hs:s≠[]):FN Z.length (Syn.take Z f s).1:=by rw[Fu];exact Li hs fun h b=>gp a fn b
def jq(a:bw Z)(fn:FN Z.length f)(is:ah->Bool):FN Z.length (bM Z f is).2:=by rw[KN];exact KL fun h b=>gp a fn b
def nW(a:bw Z)(fn:FN Z.length f){is:ah->Bool}:∀h∈(bM Z f is).1,dp Z h/\is h=true:=by intro h b;rw[BA]at b;obtain⟨h1,h2⟩:=List.mem_filter.1 b;exact⟨gp a fn h1,h2⟩
def qA(a:bw Z)(fn:FN Z.length f)(is:ah->Bool):(bM Z f is).1.length<=Z.length+1:=by rw[BA];exact fD (List.length_filter_le _ _) (mF a fn)
variable{hs:List ah}
def uN(a:∀h∈hs,dp Z h)(fn:FN Z.length f):FN Z.length (hs.foldl joinH f):=
 sY (fun(r:ad)=>FN Z.length r) fn fun r h hm k=>k.join (a h hm).le (a h hm).ok
def Al(a:∀h∈hs,dp Z h/\h.at'<Z.length)(fn:FN Z.length f):FN Z.length (hs.foldl joinH1 f):=
 sY (fun(r:ad)=>FN Z.length r) fn fun r h hm k=>k.join (a h hm).2 (a h hm).1.ok
def xl {s : al} (hs : s ≠ []) {h : ah} (k : dp Z h) (e : bg s h = true) : h.at' < Z.length :=
  k.lt (.inl (by have : h.text = s := by simpa [bg] using e
                 rw [this]; exact hs))
def eu{h:ah}(k:dp Z h)(a:h.at'<Z.length):FN Z.length (bT h):=
 ⟨⟨fun s hs=>by simp[bT]at hs;subst hs;exact⟨k.ok,k.ne⟩,by simp[bT]⟩,fun s hs=>by simp[bT]at hs;subst hs;exact a⟩
def mG{h:ah}(k:dp Z h):FN Z.length (bG h):=
 ⟨⟨fun s hs=>by simp[bG]at hs;subst hs;exact⟨k.ok,k.ne⟩,by simp[bG]⟩,fun s hs=>by simp[bG]at hs;subst hs;exact k.le⟩
end
open Dg
def NK{a b:T}(ha:a.ok 0)(hb:b.ok 0):(a.or b).card<=a.card+b.card:=by
 have h1:(a.or b).card=a.card+(b.and a.not).card:=T.card_add fun c=>by rw[T.or_at ha hb,T.and_at hb (T.not_ok ha),T.not_at];cases a.at' c<;>cases b.at' c<;>rfl
 have h2:(b.and a.not).card<=b.card:=T.card_mono fun c=>by rw[T.and_at hb (T.not_ok ha)];intro h;simp at h;exact h.1
 omega
def NJ{a b:T}(ha:a.ok 0)(hb:b.ok 0):(a.and b).card+(a.and b.not).card=a.card:=by refine(T.card_add fun c=>?_).symm;rw[T.and_at ha hb,T.and_at ha (T.not_ok hb),T.not_at];cases a.at' c<;>cases b.at' c<;>rfl
def lp(N:Nat)(a:Nat)(d:T):Nat:=d.card*(N+1-a)
def bA(N:Nat)(f:ad):Nat:=(f.map fun s=>lp N s.1 s.2).sum
def hp(N:Nat)(h:ah):Nat:=lp N h.at' h.cond
def dj(N:Nat)(hs:List ah):Nat:=(hs.map (hp N)).sum
theorem gR(N:Nat):bA N []=0:=rfl
def kZ(N:Nat)(s:Nat×T)(f:ad):bA N (s::f)=lp N s.1 s.2+bA N f:=by simp[bA]
theorem xY(N:Nat):dj N []=0:=rfl
def dY(N:Nat)(h:ah)(hs:List ah):dj N (h::hs)=hp N h+dj N hs:=by simp[dj]
variable{d:T}{N a:Nat}
def TH{e:T}(hd:d.ok 0)(b:e.ok 0):lp N a (d.or e)<=lp N a d+lp N a e:=by unfold lp;rw[<-ig];exact ch _ (NK hd b)
def Ji(hd:d.ok 0)(b:d≠ff)(ha:a<=N):1<=lp N a d:=by have h1:=T.card_pos hd b;unfold lp;exact fD O (Nat.mul_le_mul h1 (show 1<=N+1-a by omega))
def TG(ha:a<=N):lp N (a+1) d+d.card=lp N a d:=by unfold lp;rw[show N+1-a=(N+1-(a+1))+1 by omega,Nat.mul_add,Nat.mul_one]
def TF{b:Nat}(d:T)(h:a<=b):lp N b d<=lp N a d:=Nat.mul_le_mul_left _ O
def UR{f:ad}(hf:∀s∈f,s.2.ok 0)(hd:d.ok 0):bA N (gu f a d)<=bA N f+lp N a d:=by
 induction f with
 |nil=>simp[gu,bA]
 |cons s f c=>
  obtain⟨b,e⟩:=s;have:=c fun t ht=>hf t (.tail _ ht);simp only[gu];split
  .rw[kZ,kZ];omega
  .split
   .rename_i h2;have:=TH (N:=N) (a:=b) (hf _ (.head _)) hd;simp only[kZ]at *;subst h2;omega
   .simp only[kZ];omega
def qt{f:ad}(hf:∀s∈f,s.2.ok 0)(hd:d.ok 0):bA N (join f a d)<=bA N f+lp N a d:=by
 unfold join;split
 .omega
 .exact UR hf hd
def aA.all{f:ad}(h:aA f):∀s∈f,s.2.ok 0:=fun s hs=>(h.1 s hs).1
def nK{g:ad}(b:∀s∈g,s.2.ok 0):∀{f:ad},aA f->bA N (joinAll f g)<=bA N f+bA N g:=by
 induction g with
 |nil=>intro f _;simp[joinAll,bA]
 |cons s g c=>intro f hf;have h1:=qt (N:=N) hf.all (a:=s.1) (b s (.head _));have h2:=c (fun t ht=>b t (.tail _ ht)) (f:=join f s.1 s.2) (ir hf (b s (.head _)));unfold joinAll at *;simp only[gW,kZ];omega
def JY{N:Nat}:∀{l:List Tok} {a:ad} {i:Nat} {d:T},bw l->aA a->d.ok 0->bA N (gF a l i d)<=bA N a+lp N i d
 | [],a,i,d,c,ha,hd=>qt ha.all hd
 |t::l,a,i,d,c,ha,hd=>by
  simp only[gF];split
  .omega
  .have ht:=c t (.head _);have h1:=qt (N:=N) ha.all (a:=i) (T.and_ok hd ht);have h2:=JY (N:=N) (l:=l) (a:=join a i (d.and t.cond)) (i:=i+1) (d:=d.and t.cond.not) (fun x e=>c x (.tail _ e)) (ir ha (T.and_ok hd ht)) (T.and_ok hd (T.not_ok ht));have h3:=TF (N:=N) (a:=i) (b:=i+1) (d.and t.cond.not) O;have h4:lp N i (d.and t.cond)+lp N i (d.and t.cond.not)=lp N i d:=by unfold lp;rw[<-ig,NJ hd ht]
   omega
def US{Z:List Tok}(b:bw Z){f:ad}(hf:∀s∈f,s.2.ok 0):bA N (ll Z f)<=bA N f:=by
 have key:∀(f:ad) (a:ad),(∀s∈f,s.2.ok 0)->aA a->bA N (f.foldl (fun at' s=>gF at' (Z.drop s.1) s.1 s.2) a)<=bA N a+bA N f:=by
  intro f
  induction f with
  |nil=>intro a _ _;simp[bA]
  |cons s f c=>intro a h1 h2;have h3:=JY (N:=N) (b.drop s.1) h2 (i:=s.1) (h1 s (.head _));have h4:=c (gF a (Z.drop s.1) s.1 s.2) (fun t ht=>h1 t (.tail _ ht)) (KR (b.drop _) h2 (h1 s (.head _)));simp only[gW,kZ];omega
 have:=key f [] hf aA.nil;rw[gR,ii]at this;exact this
def JW(N:Nat)(Z:List Tok):∀(f:ad),dj N (f.map (fk Z))=bA N f
 | []=>rfl
 |s::f=>by
  have h:=JW N Z f;have e:hp N (fk Z s)=lp N s.1 s.2:=by unfold hp;rw[s4,uI]
  rw[ib,dY,kZ,h,e]
def xX(N:Nat){h:ah}:∀{hs:List ah},h∈hs->hp N h<=dj N hs
 | [],hm=>(dH hm).elim
 |x::hs,hm=>by
  rw[dY];rcases List.mem_cons.1 hm with e|e
  .subst e;omega
  .have:=xX N e;omega
section
variable {Z:List Tok} {f:ad}
def oT(a:bw Z)(fn:FN Z.length f){N:Nat}:dj N (ce Z f)<=bA N f:=by rw[s5 a fn.ok,JW];exact US a fn.ok.all
def dp.pos{h:ah}(k:dp Z h):1<=hp Z.length h:=Ji k.ok k.ne k.le
def dp.next{h:ah}(k:dp Z h):lp Z.length (h.at'+1) h.cond+1<=hp Z.length h:=by have h1:=TG (d:=h.cond) k.le;have h2:=T.card_pos k.ok k.ne;unfold hp;omega
def Bg(fn:FN Z.length f)(h:f≠[]):1<=bA Z.length f:=by
 cases f with
 |nil=>exact absurd rfl h
 |cons s f=>have:=Ji (fn.ok.1 s (.head _)).1 (fn.ok.1 s (.head _)).2 (fn.le s (.head _));rw[kZ];omega
def eL(h:ah)(N:Nat):bA N (bT h)=lp N (h.at'+1) h.cond:=by simp[bT,bA]
def k0(h:ah)(N:Nat):bA N (bG h)=hp N h:=by simp[bG,bA,hp]
variable{hs:List ah}
def Bf{N:Nat}(b:∀h∈hs,h.cond.ok 0):∀{f:ad},aA f->bA N (hs.foldl joinH f)<=bA N f+dj N hs:=by
 induction hs with
 |nil=>intro f _;simp[dj]
 |cons h hs c=>intro f hf;have h0:=b h (.head _);have h1:=qt (N:=N) hf.all (a:=h.at') h0;have h2:=c (fun t ht=>b t (.tail _ ht)) (f:=joinH f h) (ir hf h0);simp only[gW,dY,hp];unfold joinH at *;omega
def JX(b:∀h∈hs,dp Z h):∀{f:ad},aA f->bA Z.length (hs.foldl joinH1 f)+hs.length<=bA Z.length f+dj Z.length hs:=by
 induction hs with
 |nil=>intro f _;simp[dj]
 |cons h hs c=>intro f hf;have h0:=b h (.head _);have h1:=qt (N:=Z.length) hf.all (a:=h.at'+1) h0.ok;have h2:=c (fun t ht=>b t (.tail _ ht)) (f:=joinH1 f h) (ir hf h0.ok);have h3:=h0.next;simp only[gW,dY,bm];unfold joinH1 at *;omega
def UQ(N:Nat)(is:ah->Bool)(hs:List ah):dj N (hs.filter is)+dj N (hs.filter fun h=>!is h)=dj N hs:=by
 induction hs with
 |nil=>rfl
 |cons h hs a=>cases e:is h<;>simp only[hZ,e,cP,ds,reduceIte,dY,dK]<;>omega
def qu(a:bw Z)(fn:FN Z.length f)(is:ah->Bool):dj Z.length (bM Z f is).1+bA Z.length (bM Z f is).2<=bA Z.length f:=by rw[BA];have h1:=UQ Z.length is (ce Z f);have h2:=Bf (N:=Z.length) (hs:=(ce Z f).filter fun h=>!is h) (fun h b=>(gp a fn (List.mem_filter.1 b).1).ok) aA.nil;have h3:=oT a fn (N:=Z.length);rw[gR]at h2;show dj Z.length ((ce Z f).filter is)+bA Z.length (((ce Z f).filter fun h=>!is h).foldl joinH [])<=_;omega
def EM(a:∀h∈hs,dp Z h):hs.length<=dj Z.length hs:=by
 induction hs with
 |nil=>exact aR _
 |cons h hs b=>have h1:=(a h (.head _)).pos;have h2:=b fun t ht=>a t (.tail _ ht);rw[dY,bm];omega
theorem wY(h:ah)(k:Nat):(db h k).length=2:=rfl
def oU(b:bw Z)(fn:FN Z.length f)(s:al):(take Z f s).2.length+3*bA Z.length (take Z f s).1<=3*bA Z.length f:=by
 have key:∀(hs:List ah) (z:ad×List aG),(∀h∈hs,dp Z h)->aA z.1->(hs.foldl (fX s) z).2.length+3*bA Z.length (hs.foldl (fX s) z).1<=z.2.length+3*bA Z.length z.1+3*dj Z.length hs:=by
  intro hs
  induction hs with
  |nil=>intro z _ _;simp[dj]
  |cons h hs g=>
   intro z c d;have h0:=c h (.head _);simp only[gW,dY];have j:=h0.next;have i:=h0.pos;by_cases e:h.text=s
   .have e2:fX s z h=(join z.1 (h.at'+1) h.cond,z.2):=by simp[fX,e]
    have h1:=qt (N:=Z.length) d.all (a:=h.at'+1) h0.ok;have:=g (fX s z h) (fun t ht=>c t (.tail _ ht)) (by rw[e2];exact ir d h0.ok);rw[e2]at this |-;simp only at this;omega
   .have e2:fX s z h=(z.1,z.2++db h 10):=by simp[fX,e]
    have:=g (fX s z h) (fun t ht=>c t (.tail _ ht)) (by rw[e2];exact d);rw[e2]at this |-;simp only[aE,wY]at this;omega
 have:=key (ce Z f) ([],[]) (fun h c=>gp b fn c) aA.nil;rw[Fu];have h3:=oT b fn (N:=Z.length);simp only[gR,bo]at this;omega
def Sp(N w:Nat)(r:aw):Prop:=r.e.length+r.l.length+3*bA N r.f<=w
def xZ(d:bw Z)(fn:FN Z.length f)(kind slot:Nat):(Sp Z.length (3*bA Z.length f) (named Z f kind slot)/\(f≠[]->Sp Z.length (3*bA Z.length f-1) (named Z f kind slot)))/\∀n∈(named Z f kind slot).l,n.kids=[]:=by
 have key:∀(hs:List ah) (z:aw),(∀h∈hs,dp Z h)->aA z.f->(∀n∈z.l,n.kids=[])->Sp Z.length (3*dj Z.length hs+3*bA Z.length z.f+z.l.length+2*z.e.length-hs.length) ⟨(hs.foldl (dR kind slot) z).l,(hs.foldl (dR kind slot) z).f,(hs.foldl (dR kind slot) z).e++z.e⟩/\∀n∈(hs.foldl (dR kind slot) z).l,n.kids=[]:=by
  intro hs
  induction hs with
  |nil=>intro z _ _ h;refine⟨?_,h⟩;unfold Sp;simp[dj];omega
  |cons h hs j=>
   intro z c g k;have h0:=c h (.head _);simp only[gW,dY,bm];have b:=EM (Z:=Z) (hs:=hs) fun t ht=>c t (.tail _ ht);have q:=h0.next;have p:=h0.pos;by_cases e:h.kind≠1\/fy h.text=true
   .have e2:dR kind slot z h={ z with e:=z.e++db h 10 }:=by unfold dR;rw[ag e]
    have:=j (dR kind slot z h) (fun t ht=>c t (.tail _ ht)) (by rw[e2];exact g) (by rw[e2];exact k);rw[e2]at this |-;refine⟨?_,this.2⟩;have h1:=this.1;unfold Sp at h1 |-;simp only[aE,wY]at h1 |-;omega
   .have e2:dR kind slot z h=⟨z.l++[⟨kind,h.text,h.at',slot,[],h.cond⟩],join z.f (h.at'+1) h.cond,z.e⟩:=by unfold dR;rw[ab e]
    have r:=qt (N:=Z.length) g.all (a:=h.at'+1) h0.ok;have:=j (dR kind slot z h) (fun t ht=>c t (.tail _ ht)) (by rw[e2];exact ir g h0.ok) (by
     rw[e2];intro n hm;rcases List.mem_append.1 hm with hm|hm
     .exact k n hm
     .simp at hm;subst hm;rfl)
    rw[e2]at this |-;refine⟨?_,this.2⟩;have h1:=this.1;unfold Sp at h1 |-;simp only[aE,bm,bo]at h1 |-;omega
 have:=key (ce Z f) ⟨[],[],[]⟩ (fun h c=>gp d fn c) aA.nil (fun n h=>(dH h).elim);rw[xC];have h3:=oT d fn (N:=Z.length);have b:=EM (Z:=Z) (hs:=ce Z f) fun h c=>gp d fn c;have h1:=this.1;unfold Sp at h1 |-;simp only[gR,bo,Y]at h1;refine⟨⟨O,fun i=>?_⟩,this.2⟩;have o:=Bg fn i;cases m:ce Z f with
 |nil=>rw[m]at h1;simp only[xY,bo,List.foldl_nil,gR]at h1 |-;omega
 |cons h hs=>rw[m]at h1 h3 b;simp only[bm]at h1 b;omega
def EN(b:bw Z)(fn:FN Z.length f)(slot:Nat):Sp Z.length (3*bA Z.length f) (hU Z f slot)/\∀n∈(hU Z f slot).l,n.kids=[]:=by
 have key:∀(hs:List ah) (z:aw),(∀h∈hs,dp Z h)->aA z.f->(∀n∈z.l,n.kids=[])->Sp Z.length (3*dj Z.length hs+3*bA Z.length z.f+z.l.length+2*z.e.length) ⟨(hs.foldl (dU slot) z).l,(hs.foldl (dU slot) z).f,(hs.foldl (dU slot) z).e++z.e⟩/\∀n∈(hs.foldl (dU slot) z).l,n.kids=[]:=by
  intro hs
  induction hs with
  |nil=>intro z _ _ h;refine⟨?_,h⟩;unfold Sp;simp[dj];omega
  |cons h hs g=>
   intro z c d i;have h0:=c h (.head _);simp only[gW,dY];have k:=h0.next;have j:=h0.pos;by_cases e:h.text≠nZ/\h.text≠nY
   .have e2:dU slot z h={ z with e:=z.e++db h 10 }:=by unfold dU;rw[ag e]
    have:=g (dU slot z h) (fun t ht=>c t (.tail _ ht)) (by rw[e2];exact d) (by rw[e2];exact i);rw[e2]at this |-;refine⟨?_,this.2⟩;have h1:=this.1;unfold Sp at h1 |-;simp only[aE,wY]at h1 |-;omega
   .have e2:dU slot z h=⟨z.l++[⟨5,h.text,h.at',slot,[],h.cond⟩],join z.f (h.at'+1) h.cond,z.e⟩:=by unfold dU;rw[ab e]
    have m:=qt (N:=Z.length) d.all (a:=h.at'+1) h0.ok;have:=g (dU slot z h) (fun t ht=>c t (.tail _ ht)) (by rw[e2];exact ir d h0.ok) (by
     rw[e2];intro n hm;rcases List.mem_append.1 hm with hm|hm
     .exact i n hm
     .simp at hm;subst hm;rfl)
    rw[e2]at this |-;refine⟨?_,this.2⟩;have h1:=this.1;unfold Sp at h1 |-;simp only[aE,bm,bo]at h1 |-;omega
 have:=key (ce Z f) ⟨[],[],[]⟩ (fun h c=>gp b fn c) aA.nil (fun n h=>(dH h).elim);rw[BM];have h3:=oT b fn (N:=Z.length);refine⟨?_,this.2⟩;have h1:=this.1;unfold Sp at h1 |-;simp only[gR,bo,Y]at h1;omega
variable{l:List M}
def ko{ks:List M}{K:Nat}(h:∀n∈l,n.kids.length<=K)(b:K+ks.length<=ao):iq l ks=some (give l ks)/\(give l ks).length=l.length/\∀n∈give l ks,n.kids.length<=K+ks.length:=by
 refine⟨?_,by simp[give],?_⟩
 .unfold iq;rw[ag];rw[ss];intro n a;have:=h n a;simp only[dA];omega
 .intro n a;obtain⟨m,hm,rfl⟩:=List.mem_map.1 a;have:=h m hm;simp only[aE];omega
def uz(h:l.length<=ao):ck l=some ():=ag h
def IP(l:List M)(d:T):(fJ l d).length<=l.length:=List.length_filterMap_le ..
def JQ(l:List M)(d:T):(fK l d).length<=l.length:=List.length_filterMap_le ..
def uO(l:List M)(d:T):(gv l d).length=l.length:=by cases l<;>rfl
end
open Dg
def KB(K:Nat)(l:List M):Prop:=∀n∈l,n.kids.length<=K
def j0(Z:List Tok)(hs:List ah):Prop:=∀h∈hs,dp Z h/\h.at'<Z.length
section
variable (Z:List Tok)
def aK:Call->Nat
 | .line _ _ f _=>3*bA Z.length f
 | .lineL _ _ _ _ l g out=>l.length+3*(bA Z.length g+bA Z.length out)
 | .lineO _ _ _ ops l g=>l.length+3*(bA Z.length g+dj Z.length ops)
 | .unary _ f _=>3*bA Z.length f
 | .unaryH _ h _=>3*hp Z.length h
 | .calls _ _ _ xs names g=>names.length+3*(bA Z.length g+dj Z.length xs)
 | .inside _ f _=>3*bA Z.length f
 | .listed _ _ f=>3*bA Z.length f
 | .listL _ _ l g fin=>l.length+3*(bA Z.length g+bA Z.length fin)
 | .item _ _ f=>3*bA Z.length f
 | .behind _ _ f _ _=>3*bA Z.length f
 | .vrb _ f=>3*bA Z.length f
 | .function _ f=>3*bA Z.length f
 | .block _ f _=>3*bA Z.length f
 | .seqL _ _ f l out=>l.length+3*(bA Z.length f+bA Z.length out)
 | .stmt _ h=>3*hp Z.length h
 | .sCalls _ _ xs l g=>l.length+3*(bA Z.length g+dj Z.length xs)
 | .branch _ h _=>3*hp Z.length h
 | .elses _ xs l out=>l.length+3*(bA Z.length out+dj Z.length xs)
 | .ifs _ ys l out=>l.length+3*(bA Z.length out+dj Z.length ys)
def mu:Call->Nat
 | .line k _ f _=>64*bA Z.length f+(31-2*k)
 | .lineL k _ _ _ _ g _=>64*bA Z.length g+(30-2*k)
 | .lineO _ _ _ ops _ _=>64*dj Z.length ops
 | .unary _ f _=>64*bA Z.length f+19
 | .unaryH _ h _=>64*hp Z.length h+18
 | .calls _ _ _ xs _ _=>64*dj Z.length xs+10
 | .inside _ f _=>64*bA Z.length f+17
 | .listed _ _ f=>64*bA Z.length f+9
 | .listL _ _ _ g _=>64*bA Z.length g+40
 | .item _ _ f=>64*bA Z.length f+39
 | .behind _ _ f _ _=>64*bA Z.length f+38
 | .vrb _ f=>64*bA Z.length f+41
 | .function _ f=>64*bA Z.length f+41
 | .block _ f _=>64*bA Z.length f+9
 | .seqL _ _ f _ _=>64*bA Z.length f+50
 | .stmt _ h=>64*hp Z.length h+45
 | .sCalls _ _ xs _ _=>64*dj Z.length xs+10
 | .branch _ h _=>64*hp Z.length h+42
 | .elses _ xs _ _=>64*dj Z.length xs+43
 | .ifs _ ys _ _=>64*dj Z.length ys+43
def g6:Call->Prop
 | .line k _ f _=>FN Z.length f/\k<=5
 | .lineL k _ _ _ _ g out=>FN Z.length g/\FN Z.length out/\k<=4
 | .lineO k _ _ ops _ g=>j0 Z ops/\FN Z.length g/\k<=4
 | .unary _ f _=>FN Z.length f
 | .unaryH _ h _=>dp Z h
 | .calls _ _ _ xs _ g=>j0 Z xs/\FN Z.length g
 | .inside _ f _=>FN Z.length f
 | .listed _ _ f=>FN Z.length f
 | .listL _ _ _ g fin=>FN Z.length g/\FN Z.length fin
 | .item _ _ f=>FN Z.length f
 | .behind _ _ f sign _=>FN Z.length f/\sign≠[]
 | .vrb _ f=>FN Z.length f
 | .function _ f=>FN Z.length f
 | .block _ f _=>FN Z.length f
 | .seqL _ _ f _ out=>FN Z.length f/\FN Z.length out
 | .stmt _ h=>dp Z h
 | .sCalls _ _ xs _ g=>j0 Z xs/\FN Z.length g
 | .branch _ h _=>dp Z h/\h.at'<Z.length
 | .elses _ xs l out=>j0 Z xs/\FN Z.length out/\∀n∈l,n.kids.length+3*dj Z.length xs<=ao
 | .ifs _ ys l out=>j0 Z ys/\FN Z.length out/\∀n∈l,n.kids.length+3*dj Z.length ys<=ao
def Bs(b:Nat)(r:aw):Prop:=FN Z.length r.f/\r.e.length+r.l.length+3*bA Z.length r.f<=b
def wg(f:ad)(r:aw):Prop:=Bs Z (3*bA Z.length f) r/\(f≠[]->r.e.length+r.l.length+3*bA Z.length r.f+1<=3*bA Z.length f)
def Bh(h:ah)(r:aw):Prop:=FN Z.length r.f/\r.e.length+r.l.length+3*bA Z.length r.f+1<=3*hp Z.length h
def gZ:Call->aw->Prop
 | .lineO k o slot ops l g,r=>Bs Z (aK Z (.lineO k o slot ops l g)) r/\bA Z.length r.f+ops.length<=bA Z.length g+dj Z.length ops
 | .unary _ f _,r=>wg Z f r
 | .unaryH _ h _,r=>Bh Z h r
 | .inside _ f _,r=>wg Z f r
 | .listed _ _ f,r=>wg Z f r
 | .block _ f _,r=>wg Z f r
 | .stmt _ h,r=>Bh Z h r
 | .branch _ h _,r=>Bh Z h r
 | .elses o xs l out,r=>Bs Z (aK Z (.elses o xs l out)) r/\∀K,KB K l->KB (K+3*dj Z.length xs) r.l
 | .ifs o xs l out,r=>Bs Z (aK Z (.ifs o xs l out)) r/\∀K,KB K l->KB (K+3*dj Z.length xs) r.l
 |c,r=>Bs Z (aK Z c) r
def gJ(rec:fG)(m:Nat):Prop:=∀c,g6 Z c->aK Z c<=ao->mu Z c<m->∃r,rec c=some r/\gZ Z c r
end
section
variable {Z:List Tok} {rec:fG}
variable{xs:List ah}
def j0.tail{x:ah}(h:j0 Z (x::xs)):j0 Z xs:=fun y a=>h y (.tail _ a)
def j0.head{x:ah}(h:j0 Z (x::xs)):dp Z x/\x.at'<Z.length:=h x (.head _)
def j0.all(h:j0 Z xs):∀y∈xs,dp Z y:=fun y a=>(h y a).1
variable{h:ah}
def dp.lt2(k:dp Z h){s:al}(hs:s≠[])(e:h.text=s):h.at'<Z.length:=k.lt (.inl (by rw[e];exact hs))
def r8(a:bw Z){f:ad}(fn:FN Z.length f){s:al}(hs:s≠[]):j0 Z (bM Z f (bg s)).1:=fun h b=>by obtain⟨h1,h2⟩:=nW a fn h b;exact⟨h1,xl hs h1 h2⟩
def Bb(b:bw Z){f:ad}(fn:FN Z.length f)(hb:3*bA Z.length f<=ao){g:ah->Option aw}
  (s:∀h∈ce Z f,∃x,g h=some x/\Bh Z h x):∃r,iL Z f g=some r/\wg Z f r:=by
 have key:∀(hs:List ah) (z:aw),(∀h∈hs,dp Z h/\∃x,g h=some x/\Bh Z h x)->FN Z.length z.f->z.e.length+z.l.length+3*(bA Z.length z.f+dj Z.length hs)<=ao->
   ∃r,kh (fun r h=>match g h with
    |some x=>if (r.l++x.l).length<=ao then some ⟨r.l++x.l,joinAll r.f x.f,r.e++x.e⟩else none
    |none=>none) z hs=some r/\FN Z.length r.f/\r.e.length+r.l.length+3*bA Z.length r.f+hs.length<=z.e.length+z.l.length+3*(bA Z.length z.f+dj Z.length hs):=by
  intro hs
  induction hs with
  |nil=>intro z _ d _;exact⟨z,rfl,d,by simp[dj]⟩
  |cons h hs n=>
   intro z c d hb;obtain⟨h0,x,ex,k,o⟩:=c h (.head _);rw[dY]at hb;have u:=nK (N:=Z.length) k.ok.all d.ok;have q:(z.l++x.l).length<=ao:=by rw[aE];omega
   obtain⟨r,j,hr,a⟩:=n ⟨z.l++x.l,joinAll z.f x.f,z.e++x.e⟩ (fun t ht=>c t (.tail _ ht)) (d.joinAll k) (by simp only[aE];omega);refine⟨r,?_,hr,?_⟩
   .simp only[kh,ex,ag q];exact j
   .simp only[aE]at a;rw[dY,bm];omega
 have h3:=oT b fn (N:=Z.length);obtain⟨r,j,hr,a⟩:=key (ce Z f) ⟨[],[],[]⟩ (fun h c=>⟨gp b fn c,s h c⟩) (FN.nil _) (by simp only[bo,gR];omega);simp only[bo,gR]at a;refine⟨r,j,⟨hr,O⟩,fun i=>?_⟩;have p:=Bg fn i;cases m:ce Z f with
 |nil=>rw[m]at a;simp only[bo,xY]at a;omega
 |cons h hs=>rw[m]at a h3;simp only[bm]at a;omega
def Bh.fail(k:dp Z h)(code:Nat):Bh Z h ⟨[],[],db h code⟩:=⟨FN.nil _,by have:=k.pos;simp only[wY,bo,gR];omega⟩
variable{o slot:Nat}
def W3{m k:Nat}{f:ad}(R:gJ Z rec (mu Z (.line k o f slot)))(t:g6 Z (.line k o f slot))(b:aK Z (.line k o f slot)<=ao):∃r,line rec k o f slot=some r/\gZ Z (.line k o f slot) r:=by
 obtain⟨fn,p⟩:=t;simp only[aK]at b;by_cases h5:k=5
 .obtain⟨a,i,d⟩:=R (.unary o f slot) fn b (by simp only[mu];omega);exact⟨a,by rw[line,ag h5,i],d.1⟩
 .obtain⟨a,i,d⟩:=R (.line (k+1) o f slot) ⟨fn,O⟩ b (by simp only[mu];omega);have h:=d.2;simp only[aK]at h;obtain⟨c,n,j⟩:=R (.lineL k o slot true a.l a.f []) ⟨d.1,FN.nil _,O⟩ (by simp only[aK,gR];omega) (by simp only[mu];omega);have g:=j.2;simp only[aK,gR]at g;refine⟨⟨c.l,c.f,a.e++c.e⟩,by rw[line,ab h5,i];simp only[cC,dz,n],j.1,?_⟩;simp only[aK,aE];omega
variable{g:ad}{l:List M}
def W4(i:bw Z){k:Nat}{first:Bool}{out:ad}(R:gJ Z rec (mu Z (.lineL k o slot first l g out)))(t:g6 Z (.lineL k o slot first l g out))(b:aK Z (.lineL k o slot first l g out)<=ao):∃r,lineL Z rec k o slot first l g out=some r/\gZ Z (.lineL k o slot first l g out) r:=by
 obtain⟨j,m,z⟩:=t;simp only[aK]at b;by_cases h0:g=[]
 .refine⟨⟨l,out,[]⟩,by rw[lineL,ag h0],m,?_⟩;simp only[aK,bo];omega
 .by_cases h2:k=2/\first=false
  .have B:=nK (N:=Z.length) j.ok.all m.ok;refine⟨⟨l,joinAll out g,[]⟩,by rw[lineL,ab h0,ag h2],m.joinAll j,?_⟩;simp only[aK,bo];omega
  .have hs:=qu i j (gP k);have v:=Bg j h0;have w:j0 Z (bM Z g (gP k)).1:=fun h C=>by obtain⟨h1,h3⟩:=nW i j h C;refine⟨h1,h1.lt (.inr fun e=>?_)⟩;simp[gP,e]at h3
   have hr:=jq i j (gP k);have B:=nK (N:=Z.length) hr.ok.all m.ok;have y:=EM w.all;obtain⟨a,G,s,d⟩:=R (.lineO k o slot (bM Z g (gP k)).1 l []) ⟨w,FN.nil _,z⟩ (by simp only[aK,gR];omega) (by simp only[mu];omega);have p:=s.2;simp only[aK,gR]at p d;have A:bA Z.length a.f<bA Z.length g:=by
    cases u:(bM Z g (gP k)).1 with
    |nil=>rw[u,xY]at d;omega
    |cons x xs=>rw[u]at d hs;simp only[bm]at d;omega
   obtain⟨c,F,q⟩:=R (.lineL k o slot false a.l a.f (joinAll out (bM Z g (gP k)).2)) ⟨s.1,m.joinAll hr,z⟩ (by simp only[aK];omega) (by simp only[mu];omega);have n:=q.2;simp only[aK]at n;refine⟨⟨c.l,c.f,a.e++c.e⟩,by rw[lineL,ab h0,ab h2];simp only[cC,dz,G,F],q.1,?_⟩;simp only[aK,aE];omega
def W5{k:Nat}{ops:List ah}(R:gJ Z rec (mu Z (.lineO k o slot ops l g)))(t:g6 Z (.lineO k o slot ops l g))(b:aK Z (.lineO k o slot ops l g)<=ao):∃r,lineO rec k o slot ops l g=some r/\gZ Z (.lineO k o slot ops l g) r:=by
 obtain⟨q,n,u⟩:=t;simp only[aK]at b;cases ops with
 |nil=>exact⟨⟨l,g,[]⟩,rfl,⟨n,by simp only[aK,bo];omega⟩,by simp only[bo];omega⟩
 |cons h ops=>
  obtain⟨h0,m⟩:=q.head;have x:=h0.next;rw[dY]at b;obtain⟨a,w,j⟩:=R (.line (k+1) o (bT h) 1) ⟨eu h0 m,O⟩ (by simp only[aK,eL];omega) (by simp only[mu,eL,dY];omega);have i:=j.2;simp only[aK,eL]at i;have h1:=IP l h.cond;have h2:=JQ l h.cond;have y:=nK (N:=Z.length) j.1.ok.all n.ok;have c1:=uz (l:=fJ l h.cond++a.l) (by rw[aE];omega);have c2:=uz (l:=fK l h.cond++[⟨13,h.text,h.at',slot,fJ l h.cond++a.l,h.cond⟩]) (by rw[aE,gy];omega);obtain⟨c,v,p,s⟩:=R (.lineO k o slot ops (fK l h.cond++[⟨13,h.text,h.at',slot,fJ l h.cond++a.l,h.cond⟩]) (joinAll g a.f)) ⟨q.tail,n.joinAll j.1,u⟩ (by simp only[aK,aE,gy];omega) (by simp only[mu,dY];omega);have d:=p.2;simp only[aK,aE,gy]at d;refine⟨⟨c.l,c.f,a.e++c.e⟩,by simp only[lineO,cC,dz,w,c1,c2,v],⟨p.1,?_⟩,?_⟩
  .simp only[aK,aE,dY];omega
  .simp only[dY,bm];omega
def Xc(a:bw Z){f:ad}(R:gJ Z rec (mu Z (.unary o f slot)))(t:g6 Z (.unary o f slot))(b:aK Z (.unary o f slot)<=ao):∃r,iL Z f (fun h=>rec (.unaryH o h slot))=some r/\gZ Z (.unary o f slot) r:=by have fn:FN Z.length f:=t;simp only[aK]at b;have d:=oT a fn (N:=Z.length);refine Bb a fn b fun h hm=>?_;have c:=xX Z.length hm;exact R (.unaryH o h slot) (gp a fn hm) (by simp only[aK];omega) (by simp only[mu];omega)
def Xd(g:bw Z)(R:gJ Z rec (mu Z (.unaryH o h slot)))(t:g6 Z (.unaryH o h slot))(b:aK Z (.unaryH o h slot)<=ao):∃r,unaryH Z rec o h slot=some r/\gZ Z (.unaryH o h slot) r:=by
 have h0:dp Z h:=t;have A:=h0.next;simp only[aK]at b;unfold unaryH;split
 .rename_i e;have i:h.at'<Z.length:=e.elim (h0.lt2 af) (h0.lt2 af);split
  .exact⟨_,rfl,Bh.fail h0 11⟩
  .obtain⟨a,p,j⟩:=R (.unary (o+1) (bT h) 0) (eu h0 i) (by simp only[aK,eL];omega) (by simp only[mu,eL];omega);have m:=j.1.2;simp only[eL]at m;refine⟨⟨[⟨14,h.text,h.at',slot,a.l,h.cond⟩],a.f,a.e⟩,by simp only[cC,dz,p],j.1.1,?_⟩;simp only[gy];omega
 .split
  .obtain⟨a,p,j⟩:=R (.inside o (bG h) slot) (mG h0) (by simp only[aK,k0];omega) (by simp only[mu,k0];omega);have u:=j.2 (by simp[bG]);rw[k0]at u;exact⟨a,p,j.1.1,u⟩
  .have d:h.at'<Z.length->∀nd,∃r:aw,some (⟨[nd],bT h,[]⟩:aw)=some r/\gZ Z (.unaryH o h slot) r:=fun i nd=>⟨_,rfl,eu h0 i,by simp only[gy,bo,eL];omega⟩;split
   .rename_i e;exact d (h0.lt (.inr O)) _
   .split
    .rename_i e;exact d (e.elim (h0.lt2 af) (h0.lt2 af)) _
    .split
     .rename_i e;exact d (h0.lt2 af e) _
     .have v:=mG h0;obtain⟨⟨_,w⟩,_⟩:=xZ g v 18 slot;have q:=w (by simp[bG]);unfold Sp at q;rw[k0]at q;have n:=nE g v 18 slot;have x:=qu g n (bg cg);have y:=h0.pos;obtain⟨c,z,s⟩:=R (.calls o h slot (bM Z (named Z (bG h) 18 slot).f (bg cg)).1 (named Z (bG h) 18 slot).l (bM Z (named Z (bG h) 18 slot).f (bg cg)).2) ⟨r8 g n af,jq g n _⟩ (by simp only[aK];omega) (by simp only[mu];omega);have k:=s.2;simp only[aK]at k;refine⟨⟨c.l,c.f,(named Z (bG h) 18 slot).e++c.e⟩,by simp only[cC,dz,z],s.1,?_⟩;simp only[aE];omega
def WX{names:List M}(R:gJ Z rec (mu Z (.calls o h slot xs names g)))(t:g6 Z (.calls o h slot xs names g))(b:aK Z (.calls o h slot xs names g)<=ao):∃r,calls rec o h slot xs names g=some r/\gZ Z (.calls o h slot xs names g) r:=by
 obtain⟨m,j⟩:=t;simp only[aK]at b;cases xs with
 |nil=>exact⟨⟨names,g,[]⟩,rfl,j,by simp only[aK,bo];omega⟩
 |cons x xs=>obtain⟨h0,q⟩:=m.head;rw[dY]at b;obtain⟨a,u,i⟩:=R (.listed false o (bG x)) (mG h0) (by simp only[aK,k0];omega) (by simp only[mu,k0,dY];omega);have n:=i.2 (by simp[bG]);rw[k0]at n;have v:=nK (N:=Z.length) i.1.1.ok.all j.ok;have p:=h0.pos;have c1:=uz (l:=gv names x.cond++[⟨19,h.text,h.at',slot,a.l,x.cond⟩]) (by rw[aE,gy,uO];omega);obtain⟨c,s,k⟩:=R (.calls o h slot xs (gv names x.cond++[⟨19,h.text,h.at',slot,a.l,x.cond⟩]) (joinAll g a.f)) ⟨m.tail,j.joinAll i.1.1⟩ (by simp only[aK,aE,gy,uO];omega) (by simp only[mu,dY];omega);have d:=k.2;simp only[aK,aE,gy,uO]at d;refine⟨⟨c.l,c.f,a.e++c.e⟩,by simp only[calls,cC,dz,u,c1,s],k.1,?_⟩;simp only[aK,aE,dY];omega
def W9(R:gJ Z rec (mu Z (.sCalls o h xs l g)))(t:g6 Z (.sCalls o h xs l g))(b:aK Z (.sCalls o h xs l g)<=ao):∃r,sCalls rec o h xs l g=some r/\gZ Z (.sCalls o h xs l g) r:=by
 obtain⟨m,j⟩:=t;simp only[aK]at b;cases xs with
 |nil=>exact⟨⟨l,g,[]⟩,rfl,j,by simp only[aK,bo];omega⟩
 |cons x xs=>obtain⟨h0,q⟩:=m.head;rw[dY]at b;obtain⟨a,u,i⟩:=R (.listed false o (bG x)) (mG h0) (by simp only[aK,k0];omega) (by simp only[mu,k0,dY];omega);have n:=i.2 (by simp[bG]);rw[k0]at n;have v:=nK (N:=Z.length) i.1.1.ok.all j.ok;have p:=h0.pos;have c1:=uz (l:=l++[⟨19,h.text,h.at',0,a.l,x.cond⟩]) (by rw[aE,gy];omega);obtain⟨c,s,k⟩:=R (.sCalls o h xs (gv (l++[⟨19,h.text,h.at',0,a.l,x.cond⟩]) x.cond) (joinAll g a.f)) ⟨m.tail,j.joinAll i.1.1⟩ (by simp only[aK,aE,gy,uO];omega) (by simp only[mu,dY];omega);have d:=k.2;simp only[aK,aE,gy,uO]at d;refine⟨⟨c.l,c.f,a.e++c.e⟩,by simp only[sCalls,cC,dz,u,c1,s],k.1,?_⟩;simp only[aK,aE,dY];omega
def W1(c:bw Z){f:ad}(R:gJ Z rec (mu Z (.inside o f slot)))(t:g6 Z (.inside o f slot))(b:aK Z (.inside o f slot)<=ao):∃r,iL Z f (rJ Z rec o slot)=some r/\gZ Z (.inside o f slot) r:=by
 have fn:FN Z.length f:=t;simp only[aK]at b;have n:=oT c fn (N:=Z.length);refine Bb c fn b fun h hm=>?_;have j:=xX Z.length hm;have h0:=gp c fn hm;have m:=h0.next;unfold rJ;split
 .exact⟨_,rfl,Bh.fail h0 10⟩
 .rename_i e;split
  .exact⟨_,rfl,Bh.fail h0 11⟩
  .have i:=h0.lt2 (s:=cg) af (by simpa using e);obtain⟨a,k,g⟩:=R (.line 0 (o+1) (bT h) slot) ⟨eu h0 i,O⟩ (by simp only[aK,eL];omega) (by simp only[mu,eL];omega);have d:=g.2;simp only[aK,eL]at d;have ht:=oU c g.1 dm;refine⟨⟨a.l,(take Z a.f dm).1,a.e++(take Z a.f dm).2⟩,by simp only[cC,dz,k],iS c g.1 af,?_⟩;simp only[aE];omega
variable{par:Bool}
def W7(c:bw Z){f:ad}(R:gJ Z rec (mu Z (.listed par o f)))(t:g6 Z (.listed par o f))(b:aK Z (.listed par o f)<=ao):∃r,iL Z f (rN Z rec par o)=some r/\gZ Z (.listed par o f) r:=by
 have fn:FN Z.length f:=t;simp only[aK]at b;have v:=oT c fn (N:=Z.length);refine Bb c fn b fun h hm=>?_;have n:=xX Z.length hm;have h0:=gp c fn hm;have u:=h0.next;unfold rN;split
 .exact⟨_,rfl,Bh.fail h0 10⟩
 .rename_i e;split
  .exact⟨_,rfl,Bh.fail h0 11⟩
  .have i:=h0.lt2 (s:=cg) af (by simpa using e);have j:=eu h0 i;have hs:=qu c j (bg dm);rw[eL]at hs;have k:=r8 c j (s:=dm) af;have p:=Bf (N:=Z.length) (fun x m=>(k.all x m).ok) aA.nil;rw[gR]at p;obtain⟨a,q,g⟩:=R (.listL par (o+1) [] (bM Z (bT h) (bg dm)).2 ((bM Z (bT h) (bg dm)).1.foldl joinH [])) ⟨jq c j _,uN k.all (FN.nil _)⟩ (by simp only[aK,bo];omega) (by simp only[mu];omega);have d:=g.2;simp only[aK,bo]at d;have ht:=oU c g.1 dm;refine⟨⟨a.l,(take Z a.f dm).1,a.e++(take Z a.f dm).2⟩,by simp only[cC,dz,q],iS c g.1 af,?_⟩;simp only[aE];omega
def W6(d:bw Z){fin:ad}(R:gJ Z rec (mu Z (.listL par o l g fin)))(t:g6 Z (.listL par o l g fin))(b:aK Z (.listL par o l g fin)<=ao):∃r,listL Z rec par o l g fin=some r/\gZ Z (.listL par o l g fin) r:=by
 obtain⟨m,h⟩:=t;simp only[aK]at b;cases g with
 |nil=>exact⟨⟨l,fin,[]⟩,rfl,h,by simp only[aK,bo];omega⟩
 |cons s g=>
  have w:FN Z.length [s]:=⟨m.ok.head,fun x k=>by simp at k;subst k;exact m.le _ (.head _)⟩;have i:FN Z.length g:=⟨m.ok.tail,fun x k=>m.le x (.tail _ k)⟩;have z:=Bg w (by simp);have e1:bA Z.length [s]=lp Z.length s.1 s.2:=by simp[bA]
  rw[kZ]at b;obtain⟨a,F,j⟩:=R (.item par o [s]) w (by simp only[aK];omega) (by simp only[mu,kZ,gR];omega);have p:=j.2;simp only[aK]at p;have hs:=qu d j.1 (bg eM);have u:=r8 d j.1 (s:=eM) af;have v:=JX u.all i.ok;have hr:=jq d j.1 (bg eM);have B:=nK (N:=Z.length) hr.ok.all h.ok;have c1:=uz (l:=l++a.l) (by rw[aE];omega);have A:bA Z.length ((bM Z a.f (bg eM)).1.foldl joinH1 g)<lp Z.length s.1 s.2+bA Z.length g:=by
   cases y:(bM Z a.f (bg eM)).1 with
   |nil=>simp only[List.foldl_nil];omega
   |cons x xs=>rw[y]at v hs;simp only[bm]at v;omega
  obtain⟨c,C,q⟩:=R (.listL par o (l++a.l) ((bM Z a.f (bg eM)).1.foldl joinH1 g) (joinAll fin (bM Z a.f (bg eM)).2)) ⟨Al u i,h.joinAll hr⟩ (by simp only[aK,aE];omega) (by simp only[mu,kZ];omega);have n:=q.2;simp only[aK,aE]at n;refine⟨⟨c.l,c.f,a.e++c.e⟩,by simp only[listL,cC,dz,F,c1,C],q.1,?_⟩;simp only[aK,aE,kZ];omega
def KB.zero(h:∀n∈l,n.kids=[]):KB 0 l:=fun n a=>by rw[h n a];exact aR _
def W2(c:bw Z){f:ad}(R:gJ Z rec (mu Z (.item par o f)))(t:g6 Z (.item par o f))(b:aK Z (.item par o f)<=ao):∃r,item Z rec par o f=some r/\gZ Z (.item par o f) r:=by
 have fn:FN Z.length f:=t;simp only[aK]at b;cases par with
 |false=>obtain⟨a,n,j⟩:=R (.line 0 o f 0) ⟨fn,O⟩ b (by simp only[mu];omega);exact⟨a,by unfold item;simp only[dK,reduceIte,n],j⟩
 |true=>obtain⟨⟨i,_⟩,k⟩:=xZ c fn 4 0;unfold Sp at i;have g:=nE c fn 4 0;have ht:=oU c g du;have d:=iS c g (s:=du) af;obtain⟨h,_⟩:=EN c d 0;unfold Sp at h;have m:=BL c d 0;obtain⟨g1,g2,_⟩:=ko (KB.zero k) (ks:=(hU Z (take Z (named Z f 4 0).f du).1 0).l) O;refine⟨⟨give (named Z f 4 0).l (hU Z (take Z (named Z f 4 0).f du).1 0).l,(hU Z (take Z (named Z f 4 0).f du).1 0).f,(named Z f 4 0).e++(take Z (named Z f 4 0).f du).2++(hU Z (take Z (named Z f 4 0).f du).1 0).e⟩,by unfold item;simp only[reduceIte,cC,dz,g1],m,?_⟩;simp only[aK,aE,g2];omega
def WU(c:bw Z){typ:Bool}{f:ad}{sign:al}(R:gJ Z rec (mu Z (.behind typ o f sign slot)))(t:g6 Z (.behind typ o f sign slot))(b:aK Z (.behind typ o f sign slot)<=ao):∃r,behind Z rec typ o f sign slot=some r/\gZ Z (.behind typ o f sign slot) r:=by
 obtain⟨fn,g⟩:=t;simp only[aK]at b;have hs:=qu c fn (bg sign);have i:=r8 c fn g;have hr:=jq c fn (bg sign);have m:=JX i.all aA.nil;rw[gR]at m;have h:=Al i (FN.nil _);have key:∃a,zA Z rec typ o ((bM Z f (bg sign)).1.foldl joinH1 []) slot=some a/\Bs Z (3*bA Z.length ((bM Z f (bg sign)).1.foldl joinH1 [])) a:=by
  cases typ with
  |true=>exact⟨_,rfl,BL c h slot,(EN c h slot).1⟩
  |false=>exact R (.line 0 o ((bM Z f (bg sign)).1.foldl joinH1 []) slot) ⟨h,O⟩ (by simp only[aK];omega) (by simp only[mu];omega)
 obtain⟨a,n,d,j⟩:=key;have k:=nK (N:=Z.length) d.ok.all hr.ok;refine⟨⟨a.l,joinAll (bM Z f (bg sign)).2 a.f,a.e⟩,by unfold behind;simp only[cC,dz,n],hr.joinAll d,?_⟩;simp only[aK];omega
def Xe(a:bw Z){f:ad}(R:gJ Z rec (mu Z (.vrb o f)))(t:g6 Z (.vrb o f))(b:aK Z (.vrb o f)<=ao):∃r,tH Z rec o f=some r/\gZ Z (.vrb o f) r:=by have fn:FN Z.length f:=t;simp only[aK]at b;obtain⟨⟨k,_⟩,m⟩:=xZ a fn 2 0;unfold Sp at k;have i:=nE a fn 2 0;have ht:=oU a i du;have h:=iS a i (s:=du) af;obtain⟨j,_⟩:=EN a h 0;unfold Sp at j;have v:=BL a h 0;obtain⟨c,w,g⟩:=R (.behind false o (hU Z (take Z (named Z f 2 0).f du).1 0).f iw 1) ⟨v,by decide⟩ (by simp only[aK];omega) (by simp only[mu];omega);have d:=g.2;simp only[aK]at d;obtain⟨g1,g2,u⟩:=ko (KB.zero m) (ks:=(hU Z (take Z (named Z f 2 0).f du).1 0).l) O;obtain⟨q,p,_⟩:=ko u (ks:=c.l) O;have n:=oU a g.1 bO;refine⟨⟨give (give (named Z f 2 0).l (hU Z (take Z (named Z f 2 0).f du).1 0).l) c.l,(take Z c.f bO).1,(named Z f 2 0).e++(take Z (named Z f 2 0).f du).2++(hU Z (take Z (named Z f 2 0).f du).1 0).e++c.e++(take Z c.f bO).2⟩,by unfold tH;simp only[cC,dz,w,g1,q],iS a g.1 af,?_⟩;simp only[aK,aE,g2,p];omega
def WZ(a:bw Z){f:ad}(R:gJ Z rec (mu Z (.function o f)))(t:g6 Z (.function o f))(b:aK Z (.function o f)<=ao):∃r,function Z rec o f=some r/\gZ Z (.function o f) r:=by have fn:FN Z.length f:=t;simp only[aK]at b;obtain⟨⟨k,_⟩,p⟩:=xZ a fn 3 0;unfold Sp at k;have z:=nE a fn 3 0;obtain⟨c,B,j⟩:=R (.listed true o (named Z f 3 0).f) z (by simp only[aK];omega) (by simp only[mu];omega);have n:=j.1.2;obtain⟨d,A,i⟩:=R (.behind true o c.f du 1) ⟨j.1.1,by decide⟩ (by simp only[aK];omega) (by simp only[mu];omega);have g:=i.2;simp only[aK]at g;obtain⟨x,ex,h⟩:=R (.block o d.f 2) i.1 (by simp only[aK];omega) (by simp only[mu];omega);have m:=h.1.2;obtain⟨g1,g2,y⟩:=ko (KB.zero p) (ks:=c.l) O;obtain⟨w,v,u⟩:=ko y (ks:=d.l) O;obtain⟨s,q,_⟩:=ko u (ks:=x.l) O;refine⟨⟨give (give (give (named Z f 3 0).l c.l) d.l) x.l,x.f,(named Z f 3 0).e++c.e++d.e++x.e⟩,by unfold function;simp only[cC,dz,B,A,ex,g1,w,s],h.1.1,?_⟩;simp only[aK,aE,g2,v,q];omega
def WV(c:bw Z){f:ad}(R:gJ Z rec (mu Z (.block o f slot)))(t:g6 Z (.block o f slot))(b:aK Z (.block o f slot)<=ao):∃r,iL Z f (rq Z rec o slot)=some r/\gZ Z (.block o f slot) r:=by
 have fn:FN Z.length f:=t;simp only[aK]at b;have n:=oT c fn (N:=Z.length);refine Bb c fn b fun h hm=>?_;have j:=xX Z.length hm;have h0:=gp c fn hm;have m:=h0.next;unfold rq;split
 .exact⟨_,rfl,Bh.fail h0 10⟩
 .rename_i e;split
  .exact⟨_,rfl,Bh.fail h0 11⟩
  .have i:=h0.lt2 (s:=qE) af (by simpa using e);obtain⟨a,k,g⟩:=R (.seqL false (o+1) (bT h) [] []) ⟨eu h0 i,FN.nil _⟩ (by simp only[aK,bo,eL,gR];omega) (by simp only[mu,eL];omega);have d:=g.2;simp only[aK,bo,eL,gR]at d;have ht:=oU c g.1 iR;refine⟨⟨[⟨6,[],h.at',slot,a.l,h.cond⟩],(take Z a.f iR).1,a.e++(take Z a.f iR).2⟩,by simp only[cC,dz,k],iS c g.1 af,?_⟩;simp only[aE,gy];omega
end
open Dg
section
variable {Z:List Tok} {rec:fG}
variable{out:ad}{l:List M}{o:Nat}
def WY(h:bw Z){xs:List ah}(R:gJ Z rec (mu Z (.elses o xs l out)))(t:g6 Z (.elses o xs l out))(b:aK Z (.elses o xs l out)<=ao):∃r,elses Z rec o xs l out=some r/\gZ Z (.elses o xs l out) r:=by
 obtain⟨B,v,u⟩:=t;simp only[aK]at b;cases xs with
 |nil=>exact⟨⟨l,out,[]⟩,rfl,⟨v,by simp only[aK,bo];omega⟩,fun K j=>by simpa[xY]using j⟩
 |cons x xs=>
  obtain⟨h0,s⟩:=B.head;have g:=h0.next;rw[dY]at b u;have w:=eu h0 s;have hs:=qu h w (bg eG);rw[eL]at hs;have hr:=jq h w (bg eG);obtain⟨a,I,q⟩:=R (.block o (bM Z (bT x) (bg eG)).2 2) hr (by simp only[aK];omega) (by simp only[mu,dY];omega);have C:=q.1.2;have J:=nK (N:=Z.length) q.1.1.ok.all v.ok;obtain⟨g1,g2,_⟩:=ko (l:=l) (ks:=a.l) (K:=ao-(3*(hp Z.length x+dj Z.length xs))) (fun n g=>by have:=u n g;omega) O;have F:∀K,KB K l->KB (K+a.l.length) (give l a.l):=fun K j n g=>by obtain⟨m,hm,rfl⟩:=List.mem_map.1 g;have:=j m hm;simp only[aE];omega
  have i:∀n∈give l a.l,n.kids.length+3*dj Z.length (bM Z (bT x) (bg eG)).1+3*dj Z.length xs<=ao:=fun n g=>by obtain⟨m,hm,rfl⟩:=List.mem_map.1 g;have:=u m hm;simp only[aE];omega
  obtain⟨c,H,z,A⟩:=R (.ifs o (bM Z (bT x) (bg eG)).1 (give l a.l) (joinAll out a.f)) ⟨r8 h w af,v.joinAll q.1.1,fun n g=>by have:=i n g;omega⟩ (by simp only[aK,g2];omega) (by simp only[mu,dY];omega);have p:=z.2;simp only[aK,g2]at p;obtain⟨d,G,y,kd⟩:=R (.elses o xs c.l c.f) ⟨B.tail,z.1,fun n g=>by
   have:=A (ao-3*dj Z.length (bM Z (bT x) (bg eG)).1-3*dj Z.length xs) (fun n g=>by have:=i n g;omega) n g;have L:=i;have:3*dj Z.length (bM Z (bT x) (bg eG)).1+3*dj Z.length xs<=ao:=by omega
   omega⟩ (by simp only[aK];omega) (by simp only[mu,dY];omega)
  have k:=y.2;simp only[aK]at k;refine⟨⟨d.l,d.f,a.e++c.e++d.e⟩,by simp only[elses,cC,dz,I,g1,H,G],⟨y.1,?_⟩,fun K j n g=>?_⟩
  .simp only[aK,aE,dY];omega
  .have:=kd _ (A _ (F K j)) n g;rw[dY];omega
def W0{ys:List ah}(R:gJ Z rec (mu Z (.ifs o ys l out)))(t:g6 Z (.ifs o ys l out))(b:aK Z (.ifs o ys l out)<=ao):∃r,ifs rec o ys l out=some r/\gZ Z (.ifs o ys l out) r:=by
 obtain⟨p,k,j⟩:=t;simp only[aK]at b;cases ys with
 |nil=>exact⟨⟨l,out,[]⟩,rfl,⟨k,by simp only[aK,bo];omega⟩,fun K h=>by simpa[xY]using h⟩
 |cons y ys=>
  obtain⟨h0,q⟩:=p.head;have v:=h0.pos;rw[dY]at b j;by_cases e:o=64
  .obtain⟨d,s,i,kd⟩:=R (.ifs o ys l out) ⟨p.tail,k,fun n c=>by have:=j n c;omega⟩ (by simp only[aK];omega) (by simp only[mu,dY];omega);have g:=i.2;simp only[aK]at g;refine⟨⟨d.l,d.f,db y 11++d.e⟩,by simp only[ifs,ag e,cC,dz,s],⟨i.1,?_⟩,fun K h n c=>?_⟩
   .simp only[aK,aE,dY,wY];omega
   .have:=kd K h n c;rw[dY];omega
  .obtain⟨a,z,u,w⟩:=R (.branch (o+1) y 2) ⟨h0,q⟩ (by simp only[aK];omega) (by simp only[mu,dY];omega);have A:=nK (N:=Z.length) u.ok.all k.ok;obtain⟨g1,g2,_⟩:=ko (l:=l) (ks:=a.l) (K:=ao-(3*(hp Z.length y+dj Z.length ys))) (fun n c=>by have:=j n c;omega) O;have x:∀K,KB K l->KB (K+a.l.length) (give l a.l):=fun K h n c=>by obtain⟨m,hm,rfl⟩:=List.mem_map.1 c;have:=h m hm;simp only[aE];omega
   obtain⟨d,s,i,kd⟩:=R (.ifs o ys (give l a.l) (joinAll out a.f)) ⟨p.tail,k.joinAll u,fun n c=>by obtain⟨m,hm,rfl⟩:=List.mem_map.1 c;have:=j m hm;simp only[aE];omega⟩ (by simp only[aK,g2];omega) (by simp only[mu,dY];omega)
   have g:=i.2;simp only[aK,g2]at g;refine⟨⟨d.l,d.f,a.e++d.e⟩,by simp only[ifs,ab e,cC,dz,z,g1,s],⟨i.1,?_⟩,fun K h n c=>?_⟩
   .simp only[aK,aE,dY];omega
   .have:=kd _ (x K h) n c;rw[dY];omega
variable{h:ah}
def WW(g:bw Z){slot:Nat}(R:gJ Z rec (mu Z (.branch o h slot)))(t:g6 Z (.branch o h slot))(b:aK Z (.branch o h slot)<=ao):∃r,branch Z rec o h slot=some r/\gZ Z (.branch o h slot) r:=by
 obtain⟨h0,p⟩:=t;have i:=h0.next;simp only[aK]at b;obtain⟨a,C,s⟩:=R (.inside o (bT h) 0) (eu h0 p) (by simp only[aK,eL];omega) (by simp only[mu,eL];omega);have m:=s.1.2;rw[eL]at m;obtain⟨c,B,j⟩:=R (.block o a.f 1) s.1.1 (by simp only[aK];omega) (by simp only[mu];omega);have v:=j.1.2;obtain⟨g1,g2,z⟩:=ko (l:=[gx 8 h slot]) (K:=0) (ks:=a.l) (fun n i=>by simp at i;subst i;exact aR _) O;obtain⟨y,x,w⟩:=ko z (ks:=c.l) O;have hs:=qu g j.1.1 (bg iQ);have u:(give (give [gx 8 h slot] a.l) c.l).length=1:=by rw[x,g2];rfl
 obtain⟨d,A,q,_⟩:=R (.elses o (bM Z c.f (bg iQ)).1 (give (give [gx 8 h slot] a.l) c.l) (bM Z c.f (bg iQ)).2) ⟨r8 g j.1.1 af,jq g j.1.1 _,fun n i=>by have:=w n i;omega⟩ (by simp only[aK,u];omega) (by simp only[mu];omega);have k:=q.2;simp only[aK,u]at k;refine⟨⟨d.l,d.f,a.e++c.e++d.e⟩,by simp only[branch,cC,dz,C,B,g1,y,A],q.1,?_⟩;simp only[aE];omega
def Eg(k slot:Nat)(h:ah):KB 0 [gx k h slot]:=fun n a=>by simp at a;subst a;exact aR _
def Xb(d:bw Z)(R:gJ Z rec (mu Z (.stmt o h)))(t:g6 Z (.stmt o h))(b:aK Z (.stmt o h)<=ao):∃r,stmt Z rec o h=some r/\gZ Z (.stmt o h) r:=by
 have h0:dp Z h:=t;have Q:=h0.next;simp only[aK]at b;unfold stmt;split
 .rename_i e;have j:=eu h0 (h0.lt2 af e);obtain⟨a,k,i⟩:=R (.vrb o (bT h)) j (by simp only[aK,eL];omega) (by simp only[mu,eL];omega);have g:=i.2;simp only[aK,eL]at g;exact⟨a,k,i.1,O⟩
 split
 .rename_i e;exact R (.branch o h 0) ⟨h0,h0.lt2 af e⟩ b (by simp only[mu];omega)
 split
 .rename_i e;have j:=eu h0 (h0.lt2 af e);obtain⟨a,k,i⟩:=R (.inside o (bT h) 0) j (by simp only[aK,eL];omega) (by simp only[mu,eL];omega);have g:=i.1.2;rw[eL]at g;obtain⟨c,u,m⟩:=R (.block o a.f 1) i.1.1 (by simp only[aK];omega) (by simp only[mu];omega);have n:=m.1.2;obtain⟨g1,g2,q⟩:=ko (Eg 9 0 h) (ks:=a.l) O;obtain⟨L,K,T⟩:=ko q (ks:=c.l) O;have p:(give (give [gx 9 h 0] a.l) c.l).length=1:=by rw[K,g2];rfl
  refine⟨⟨give (give [gx 9 h 0] a.l) c.l,c.f,a.e++c.e⟩,by simp only[cC,dz,k,u,g1,L],m.1.1,?_⟩;simp only[aE,p];omega
 split
 .obtain⟨a,k,i⟩:=R (.block o (bG h) 0) (mG h0) (by simp only[aK,k0];omega) (by simp only[mu,k0];omega);have w:=i.2 (by simp[bG]);rw[k0]at w;exact⟨a,k,i.1.1,w⟩
 split
 .rename_i e;have j:=eu h0 (h0.lt2 af e);have hs:=qu d j (bg bO);rw[eL]at hs;have hr:=jq d j (bg bO);have y:j0 Z (bM Z (bT h) (bg bO)).1:=r8 d j af;obtain⟨a,k,i⟩:=R (.line 0 o (bM Z (bT h) (bg bO)).2 0) ⟨hr,O⟩ (by simp only[aK];omega) (by simp only[mu];omega);have g:=i.2;simp only[aK]at g;obtain⟨g1,g2,q⟩:=ko (Eg 10 0 h) (ks:=a.l) O;have p:(give [gx 10 h 0] a.l).length=1:=by rw[g2];rfl
  have S:=Bf (N:=Z.length) (fun x G=>(y.all x G).ok) i.1.ok;have A:=uN y.all i.1;have ht:=oU d A bO;refine⟨⟨give [gx 10 h 0] a.l,(take Z ((bM Z (bT h) (bg bO)).1.foldl joinH a.f) bO).1,a.e++(take Z ((bM Z (bT h) (bg bO)).1.foldl joinH a.f) bO).2⟩,by simp only[cC,dz,k,g1],iS d A af,?_⟩;simp only[aE,p];omega
 split
 .rename_i e;have j:=eu h0 (e.elim (h0.lt2 af) (h0.lt2 af));obtain⟨a,k,i⟩:=R (.line 0 o (bT h) 0) ⟨j,O⟩ (by simp only[aK,eL];omega) (by simp only[mu,eL];omega);have g:=i.2;simp only[aK,eL]at g;obtain⟨g1,g2,q⟩:=ko (Eg (if h.text=jF then 12 else 11) 0 h) (ks:=a.l) O;have p:(give [gx (if h.text=jF then 12 else 11) h 0] a.l).length=1:=by rw[g2];rfl
  have ht:=oU d i.1 bO;refine⟨⟨give [gx (if h.text=jF then 12 else 11) h 0] a.l,(take Z a.f bO).1,a.e++(take Z a.f bO).2⟩,by simp only[cC,dz,k,g1],iS d i.1 af,?_⟩;simp only[aE,p];omega
 have B:=mG h0;obtain⟨⟨_,C⟩,F⟩:=xZ d B 7 0;have v:=C (by simp[bG]);unfold Sp at v;rw[k0]at v;have J:=h0.pos;have j:=nE d B 7 0;by_cases e:(named Z (bG h) 7 0).l=[]
 .refine⟨⟨[],[],(named Z (bG h) 7 0).e⟩,by simp only[ag e],FN.nil _,?_⟩;simp only[bo,gR];omega
 .have I:=qu d j (bg cg);have z:=jq d j (bg cg);have ht:=oU d z iw;have P:=iS d z (s:=iw) af;obtain⟨a,k,i⟩:=R (.line 0 o (take Z (bM Z (named Z (bG h) 7 0).f (bg cg)).2 iw).1 0) ⟨P,O⟩ (by simp only[aK];omega) (by simp only[mu];omega);have g:=i.2;simp only[aK]at g;obtain⟨g1,g2,q⟩:=ko (KB.zero F) (ks:=a.l) O;obtain⟨c,u,m⟩:=R (.sCalls o h (bM Z (named Z (bG h) 7 0).f (bg cg)).1 (give (named Z (bG h) 7 0).l a.l) a.f) ⟨r8 d j af,i.1⟩ (by simp only[aK,g2];omega) (by simp only[mu];omega);have n:=m.2;simp only[aK,g2]at n;have H:=oU d m.1 bO;refine⟨⟨c.l,(take Z c.f bO).1,(named Z (bG h) 7 0).e++(take Z (bM Z (named Z (bG h) 7 0).f (bg cg)).2 iw).2++a.e++c.e++(take Z c.f bO).2⟩,by simp only[ab e,cC,dz,k,g1,u],iS d m.1 af,?_⟩;simp only[aE];omega
variable{top:Bool}
def W8(i:bw Z){m:Nat}(hm:64*hp Z.length h+45<m)(R:gJ Z rec m)(h0:dp Z h)(b:3*hp Z.length h<=ao):∃r,vz rec top o h=some r/\Bh Z h r:=by
 have j:=h0.next;cases top with
 |false=>exact R (.stmt o h) h0 b (by simp only[mu];omega)
 |true=>
  show ∃r,vL rec o h=some r/\_;unfold vL;split
  .rename_i e;have f:=eu h0 (h0.lt2 af e);obtain⟨a,g,d⟩:=R (.vrb o (bT h)) f (by simp only[aK,eL];omega) (by simp only[mu,eL];omega);have c:=d.2;simp only[aK,eL]at c;exact⟨a,g,d.1,O⟩
  split
  .rename_i e;have f:=eu h0 (h0.lt2 af e);obtain⟨a,g,d⟩:=R (.function o (bT h)) f (by simp only[aK,eL];omega) (by simp only[mu,eL];omega);have c:=d.2;simp only[aK,eL]at c;exact⟨a,g,d.1,O⟩
  .exact⟨_,rfl,Bh.fail h0 10⟩
def Xa(d:bw Z){f:ad}(R:gJ Z rec (mu Z (.seqL top o f l out)))(t:g6 Z (.seqL top o f l out))(b:aK Z (.seqL top o f l out)<=ao):∃r,seqL Z rec top o f l out=some r/\gZ Z (.seqL top o f l out) r:=by
 obtain⟨fn,n⟩:=t;simp only[aK]at b;have B:=oT d fn (N:=Z.length);have hm:=fun h (hm:h∈ce Z f)=>gp d fn hm;unfold seqL;split
 .refine⟨⟨l,out,[]⟩,rfl,n,?_⟩;simp only[aK,bo];omega
 .rename_i h hs H;rw[H]at B hm;rw[dY]at B;have h0:=hm h (.head _);have y:=h0.pos;have g:=fun x (q:x∈hs)=>hm x (.tail _ q);have k:=fun{z:ad}=>Bf (N:=Z.length) (f:=z) (fun x q=>(g x q).ok);split
  .have A:=k aA.nil;rw[gR]at A;have s:=qt (N:=Z.length) n.ok.all (a:=h.at') h0.ok;have F:bA Z.length (joinH out h)<=bA Z.length out+hp Z.length h:=s;obtain⟨a,v,j⟩:=R (.seqL top o (hs.foldl joinH []) l (joinH out h)) ⟨uN g (FN.nil _),n.join h0.le h0.ok⟩ (by simp only[aK];omega) (by simp only[mu];omega);have i:=j.2;simp only[aK]at i;refine⟨a,v,j.1,?_⟩;simp only[aK];omega
  .obtain⟨a,v,j,i⟩:=W8 (top:=top) (o:=o) d (m:=mu Z (.seqL top o f l out)) (by simp only[mu];omega) R h0 O;have c1:=uz (l:=l++a.l) (by rw[aE];omega);have u:=nK (N:=Z.length) j.ok.all aA.nil;rw[gR]at u;have C:=(FN.nil Z.length).joinAll j;have A:=k C.ok;obtain⟨c,G,w⟩:=R (.seqL top o (hs.foldl joinH (joinAll [] a.f)) (l++a.l) out) ⟨uN g C,n⟩ (by simp only[aK,aE];omega) (by simp only[mu];omega);have p:=w.2;simp only[aK,aE]at p;refine⟨⟨c.l,c.f,a.e++c.e⟩,by simp only[cC,dz,v,c1,G],w.1,?_⟩;simp only[aK,aE];omega
def Kh(a:bw Z):∀n,gJ Z (run Z n) n
 |0=>fun c _ _ h=>absurd h (Nat.not_lt_zero _)
 |n+1=>fun c t b h=>by
  have R:gJ Z (run Z n) (mu Z c):=fun d e f hd=>Kh a n d e f O;show ∃r,step Z (run Z n) c=some r/\_;cases c with
  |line=>exact W3 (m:=0) R t b
  |lineL=>exact W4 a R t b
  |lineO=>exact W5 R t b
  |unary=>exact Xc a R t b
  |unaryH=>exact Xd a R t b
  |calls=>exact WX R t b
  |inside=>exact W1 a R t b
  |listed=>exact W7 a R t b
  |listL=>exact W6 a R t b
  |item=>exact W2 a R t b
  |behind=>exact WU a R t b
  |vrb=>exact Xe a R t b
  |function=>exact WZ a R t b
  |block=>exact WV a R t b
  |seqL=>exact Xa a R t b
  |stmt=>exact Xb a R t b
  |sCalls=>exact W9 R t b
  |branch=>exact WW a R t b
  |elses=>exact WY a R t b
  |ifs=>exact W0 R t b
end
end Syn
