import Derived.Test.YtfaclfkpnmcmlaaGreatDoorH05
set_option maxHeartbeats 8000000
set_option linter.all false
namespace Syn
open Dg
variable{N:Nat}
def FG{f:ar}(hs:f.Pairwise (fun s t=>s.1<t.1))(h:∀s∈f,s.1<=N):f.length<=N+1:=by
 have key:∀(f:ar) (b:Nat),f.Pairwise (fun s t=>s.1<t.1)->(∀s∈f,s.1<=N)->(∀s∈f,b<=s.1)->f.length+b<=N+1\/f=[]:=by
  intro f
  induction f with
  |nil=>intro b _ _ _;exact .inr rfl
  |cons s f ih=>
   intro b h1 h2 h3;rw[aae]at h1
   left
   have hb:=h3 s (.head _);have hN:=h2 s (.head _);rcases ih (s.1+1) h1.2 (fun t ht=>h2 t (.tail _ ht)) (fun t ht=>h1.1 t ht)with h|h
   ·simp only[aaj];omega
   ·subst h;simp only[aaj,aaO];omega
 rcases key f 0 hs h (fun _ _=>aaL _)with h|h
 ·omega
 ·subst h;simp
structure FN(N:Nat)(f:ar):Prop where
 ok:cq f
 le:∀s∈f,s.1<=N
def FN.len{f:ar}(h:FN N f):f.length<=N+1:=FG h.ok.2 h.le
theorem FN.join{f:ar}(h:FN N f){a:Nat}{d:T}(ha:a<=N)(hd:d.ok 0):FN N (Syn.join f a d):=
 ⟨eu h.ok hd,fun s hs=>(Lp hs).elim (fun e=>by omega) (fun⟨t,ht,e⟩=>by have:=h.le t ht;omega)⟩
def FN.nil(N:Nat):FN N []:=⟨cq.nil,fun s h=>(aaB h).elim⟩
theorem FN.joinAll{g:ar}:∀{f:ar},FN N f->FN N g->FN N (Syn.joinAll f g):=by
 induction g with
 |nil=>intro f h _;exact h
 |cons s g ih=>
  intro f h hg;exact ih (h.join (hg.le s (.head _)) (hg.ok.1 s (.head _)).1) ⟨hg.ok.tail,fun t ht=>hg.le t (.tail _ ht)⟩
def Hk(ts:List Tok)(f:ar)(i:Nat):ar:=(f.take i).foldl (fun at' s=>eW at' (ts.drop s.1) s.1 s.2) []
def Dy{ts:List Tok}{f:ar}{i:Nat}{s:Nat×T}(hs:f[i]?=some s):Hk ts f (i+1)=eW (Hk ts f i) (ts.drop s.1) s.1 s.2:=by
 have aa:i<f.length:=by
  rcases aaf i f.length with h|h
  ·exact h
  ·rw[aan h]at hs;cases hs
 unfold Hk;rw[aaM aa];rw[aak aa]at hs;rw[aaZ hs,abM];rfl
def x6{N:Nat}:∀{l:List Tok} {a:ar} {i:Nat} {d:T},FN N a->bT l->d.ok 0->i+l.length=N->FN N (eW a l i d)
 | [],a,i,d,ha,hl,hd,h=>ha.join (by simp at h;omega) hd
 |t::l,a,i,d,ha,hl,hd,h=>by
  simp only[eW];split
  ·exact ha
  ·have ht:=hl t (.head _);simp only[aaj]at h;exact x6 (ha.join ab (T.and_ok hd ht)) (fun x hx=>hl x (.tail _ hx)) (T.and_ok hd (T.not_ok ht)) ab
def Ft{ts:List Tok}{f:ar}(aa:bT ts)(hf:FN ts.length f):∀i,i<=f.length->FN ts.length (Hk ts f i)
 |0,_=>FN.nil _
 |i+1,hi=>by
  obtain⟨s,hs⟩:∃s,f[i]?=some s:=⟨_,aak hi⟩;have hm:=aaV hs;rw[Dy hs];exact x6 (Ft aa hf i ab) (aa.drop _) (hf.ok.1 s hm).1 (by have:=hf.le s hm;simp;omega)
def dm{α β:Type}{g:α->β->α}{z:α}{l:List β}{i:Nat}{x:β}(h:l[i]?=some x):(l.take (i+1)).foldl g z=g ((l.take i).foldl g z) x:=by
 have aa:i<l.length:=by
  rcases aaf i l.length with h'|h'
  ·exact h'
  ·rw[aan h']at h;cases h
 rw[aaM aa];rw[aak aa]at h;rw[aaZ h,abM];rfl
def zS{α β:Type}{g:α->β->α}(μ:α->Nat)(h:∀z x,μ z<=μ (g z x)):∀(l:List β) (z:α),μ z<=μ (l.foldl g z)
 | [],z=>ZR _
 |x::l,z=>ZS (h z x) (zS μ h l (g z x))
def oE{α β:Type}{g:α->β->α}(μ:α->Nat)(h:∀z x,μ z<=μ (g z x))(l:List β)(i:Nat)(z:α):μ ((l.take i).foldl g z)<=μ (l.foldl g z):=by
 have:=zS μ h (l.drop i) ((l.take i).foldl g z)
 rwa [<-abM,abq]at this
def lK{α β:Type}{g:α->β->α}(Q:α->Prop):∀{l:List β} {z:α},Q z->(∀z x,x∈l->Q z->Q (g z x))->Q (l.foldl g z)
 | [],z,h,_=>h
 |x::l,z,h,k=>lK Q (l:=l) (k z x (List.mem_cons_self ..) h) fun z y hy=>k z y (List.mem_cons_of_mem _ hy)
def Dn{ts:List Tok}{f:ar}(aa:bT ts)(fn:FN ts.length f):FN ts.length (eK ts f):=by
 have h1:=Ft aa fn f.length (ZR _);unfold Hk at h1
 rwa [aaS]at h1
def fM{ts:List Tok}{f:ar}(aa:bT ts)(fn:FN ts.length f):(bE ts f).length<=ts.length+1:=by
 rw[lS aa fn.ok,aah];exact(Dn aa fn).len
structure kS(ts:List Tok)(h:aB):Prop where
 le:h.at'<=ts.length
 ok:h.cond.ok 0
 ne:h.cond≠ff
 eq:h=cQ ts (h.at',h.cond)
def b9{ts:List Tok}{f:ar}(aa:bT ts)(fn:FN ts.length f){h:aB}(hh:h∈bE ts f):kS ts h:=by
 rw[lS aa fn.ok]at hh;obtain⟨s,hs,rfl⟩:=List.mem_map.1 hh;have k:=Dn aa fn;refine⟨by rw[jX];exact k.le s hs,by rw[jw];exact(k.ok.1 s hs).1,by rw[jw];exact(k.ok.1 s hs).2,?_⟩;rw[jX,jw]
def kS.lt{ts:List Tok}{h:aB}(k:kS ts h)(aa:h.text≠[]\/h.kind≠0):h.at'<ts.length:=by
 rcases aaf h.at' ts.length with h1|h1
 ·exact h1
 ·have e:=k.eq;unfold cQ at e;rw[aan h1]at e;simp only at e;rw[e]at aa;simp at aa
def gH(s:bq)(r:ar×List cO)(h:aB):ar×List cO:=if h.text=s then (Syn.join r.1 (h.at'+1) h.cond,r.2)else (r.1,r.2++cJ h 10)
theorem tX(ts:List Tok)(f:ar)(s:bq):Syn.take ts f s=(bE ts f).foldl (gH s) ([],[]):=rfl
variable{hl:List aB}
def DI{ts:List Tok}{s:bq}(hs:s≠[])(hh:∀h∈hl,kS ts h):FN ts.length (hl.foldl (gH s) ([],[])).1:=
 lK (fun(r:ar×List cO)=>FN ts.length r.1) (FN.nil _) fun r h hm k=>by
  unfold gH;split
  ·rename_i e;have:=(hh h hm).lt (.inl (by rw[e];exact hs));exact k.join ab (hh h hm).ok
  ·exact k
def fJ(is:aB->Bool)(r:List aB×ar)(h:aB):List aB×ar:=if is h then (r.1++[h],r.2)else (r.1,Syn.join r.2 h.at' h.cond)
theorem xL(ts:List Tok)(f:ar)(is:aB->Bool):aM ts f is=(bE ts f).foldl (fJ is) ([],[]):=rfl
def zw{ts:List Tok}{is:aB->Bool}(hh:∀h∈hl,kS ts h):FN ts.length (hl.foldl (fJ is) ([],[])).2:=
 lK (fun(r:List aB×ar)=>FN ts.length r.2) (FN.nil _) fun r h hm k=>by
  unfold fJ;split
  ·exact k
  ·exact k.join (hh h hm).le (hh h hm).ok
def xt{is:aB->Bool}:∀(hl:List aB) (z:List aB×ar),(hl.foldl (fJ is) z).1.length<=z.1.length+hl.length
 | [],z=>ZR _
 |h::hl,z=>by
  have:=xt (is:=is) hl (fJ is z h);have h2:(fJ is z h).1.length<=z.1.length+1:=by unfold fJ;split<;>simp
  simp only[fu,aaj];omega
def cE(kind slot:Nat)(r:bW)(h:aB):bW:=
 if h.kind≠1\/dG h.text=true then { r with e:=r.e++cJ h 10 } else ⟨r.l++[⟨kind,h.text,h.at',slot,[],h.cond⟩],Syn.join r.f (h.at'+1) h.cond,r.e⟩
theorem lR(ts:List Tok)(f:ar)(kind slot:Nat):named ts f kind slot=(bE ts f).foldl (cE kind slot) ⟨[],[],[]⟩:=rfl
def zm{ts:List Tok}{kind slot:Nat}(hh:∀h∈hl,kS ts h):FN ts.length (hl.foldl (cE kind slot) ⟨[],[],[]⟩).f:=
 lK (fun(r:bW)=>FN ts.length r.f) (FN.nil _) fun r h hm k=>by
  unfold cE;split
  ·exact k
  ·rename_i hk;have:h.kind=1:=by
    by_cases e:h.kind=1
    ·exact e
    ·exact absurd (.inl e) hk
   have:=(hh h hm).lt (.inr ab);exact k.join ab (hh h hm).ok
def rF{kind slot:Nat}:∀(hl:List aB) (z:bW),(hl.foldl (cE kind slot) z).l.length<=z.l.length+hl.length
 | [],z=>ZR _
 |h::hl,z=>by
  have:=rF (kind:=kind) (slot:=slot) hl (cE kind slot z h);have h2:(cE kind slot z h).l.length<=z.l.length+1:=by unfold cE;split<;>simp
  simp only[fu,aaj];omega
def cD(slot:Nat)(r:bW)(h:aB):bW:=
 if h.text≠vM/\h.text≠oO then { r with e:=r.e++cJ h 10 } else ⟨r.l++[⟨5,h.text,h.at',slot,[],h.cond⟩],Syn.join r.f (h.at'+1) h.cond,r.e⟩
theorem oj(ts:List Tok)(f:ar)(slot:Nat):sW ts f slot=(bE ts f).foldl (cD slot) ⟨[],[],[]⟩:=rfl
def zq{ts:List Tok}{slot:Nat}(hh:∀h∈hl,kS ts h):FN ts.length (hl.foldl (cD slot) ⟨[],[],[]⟩).f:=
 lK (fun(r:bW)=>FN ts.length r.f) (FN.nil _) fun r h hm k=>by
  unfold cD;split
  ·exact k
  ·rename_i hk;have:h.text≠[]:=fun e=>hk (by rw[e];decide);have:=(hh h hm).lt (.inl this);exact k.join ab (hh h hm).ok
def rV{slot:Nat}:∀(hl:List aB) (z:bW),(hl.foldl (cD slot) z).l.length<=z.l.length+hl.length
 | [],z=>ZR _
 |h::hl,z=>by
  have:=rV (slot:=slot) hl (cD slot z h);have h2:(cD slot z h).l.length<=z.l.length+1:=by unfold cD;split<;>simp
  simp only[fu,aaj];omega
section
variable {ts:List Tok} {f:ar}
def iy(aa:bT ts)(fn:FN ts.length f)(kind slot:Nat):FN ts.length (named ts f kind slot).f:=by
 rw[lR];exact zm fun h hh=>b9 aa fn hh
def lC(aa:bT ts)(fn:FN ts.length f)(kind slot:Nat):(named ts f kind slot).l.length<=ts.length+1:=by
 rw[lR];have:=rF (kind:=kind) (slot:=slot) (bE ts f) ⟨[],[],[]⟩;have h2:=fM aa fn;simp only[aaO]at this;omega
def sP(aa:bT ts)(fn:FN ts.length f)(slot:Nat):FN ts.length (sW ts f slot).f:=by
 rw[oj];exact zq fun h hh=>b9 aa fn hh
def Ij(aa:bT ts)(fn:FN ts.length f)(slot:Nat):(sW ts f slot).l.length<=ts.length+1:=by
 rw[oj];have:=rV (slot:=slot) (bE ts f) ⟨[],[],[]⟩;have h2:=fM aa fn;simp only[aaO]at this;omega
def dK(aa:bT ts)(fn:FN ts.length f){s:bq}(hs:s≠[]):FN ts.length (Syn.take ts f s).1:=by
 rw[tX];exact DI hs fun h hh=>b9 aa fn hh
def dC(aa:bT ts)(fn:FN ts.length f)(is:aB->Bool):FN ts.length (aM ts f is).2:=by
 rw[xL];exact zw fun h hh=>b9 aa fn hh
def fm(aa:bT ts)(fn:FN ts.length f){is:aB->Bool}:∀h∈(aM ts f is).1,kS ts h/\is h=true:=by
 intro h hh;rw[oB]at hh;obtain⟨h1,h2⟩:=List.mem_filter.1 hh;exact⟨b9 aa fn h1,h2⟩
def gE(aa:bT ts)(fn:FN ts.length f)(is:aB->Bool):(aM ts f is).1.length<=ts.length+1:=by
 rw[oB];exact ZS (List.length_filter_le _ _) (fM aa fn)
variable{hs:List aB}
def lJ(hh:∀h∈hs,kS ts h)(fn:FN ts.length f):FN ts.length (hs.foldl joinH f):=
 lK (fun(r:ar)=>FN ts.length r) fn fun r h hm k=>k.join (hh h hm).le (hh h hm).ok
def m8(hh:∀h∈hs,kS ts h/\h.at'<ts.length)(fn:FN ts.length f):FN ts.length (hs.foldl joinH1 f):=
 lK (fun(r:ar)=>FN ts.length r) fn fun r h hm k=>k.join (hh h hm).2 (hh h hm).1.ok
def qo {s : bq} (hs : s ≠ []) {h : aB} (k : kS ts h) (e : bD s h = true) : h.at' < ts.length :=
  k.lt (.inl (by have : h.text = s := by simpa [bD] using e
                 rw [this]; exact hs))
def bH{h:aB}(k:kS ts h)(hl:h.at'<ts.length):FN ts.length (bv h):=
 ⟨⟨fun s hs=>by simp[bv]at hs;subst hs;exact⟨k.ok,k.ne⟩,by simp[bv]⟩,fun s hs=>by simp[bv]at hs;subst hs;exact hl⟩
def jk{h:aB}(k:kS ts h):FN ts.length (bX h):=
 ⟨⟨fun s hs=>by simp[bX]at hs;subst hs;exact⟨k.ok,k.ne⟩,by simp[bX]⟩,fun s hs=>by simp[bX]at hs;subst hs;exact k.le⟩
end
open Dg
def Ou{a b:T}(ha:a.ok 0)(hb:b.ok 0):(a.or b).card<=a.card+b.card:=by
 have h1:(a.or b).card=a.card+(b.and a.not).card:=T.card_add fun c=>by
  rw[T.or_at ha hb,T.and_at hb (T.not_ok ha),T.not_at];cases a.at' c<;>cases b.at' c<;>rfl
 have h2:(b.and a.not).card<=b.card:=T.card_mono fun c=>by
  rw[T.and_at hb (T.not_ok ha)];intro h;simp at h;exact h.1
 omega
def MJ{a b:T}(ha:a.ok 0)(hb:b.ok 0):(a.and b).card+(a.and b.not).card=a.card:=by
 refine(T.card_add fun c=>?_).symm;rw[T.and_at ha hb,T.and_at ha (T.not_ok hb),T.not_at];cases a.at' c<;>cases b.at' c<;>rfl
def lp(N:Nat)(a:Nat)(d:T):Nat:=d.card*(N+1-a)
def fe(N:Nat)(f:ar):Nat:=(f.map fun s=>lp N s.1 s.2).sum
def hp(N:Nat)(h:aB):Nat:=lp N h.at' h.cond
def eT(N:Nat)(hs:List aB):Nat:=(hs.map (hp N)).sum
theorem dO(N:Nat):fe N []=0:=rfl
def fO(N:Nat)(s:Nat×T)(f:ar):fe N (s::f)=lp N s.1 s.2+fe N f:=by simp[fe]
theorem o8(N:Nat):eT N []=0:=rfl
def bo(N:Nat)(h:aB)(hs:List aB):eT N (h::hs)=hp N h+eT N hs:=by simp[eT]
variable{d:T}{N a:Nat}
def Vy{e:T}(hd:d.ok 0)(he:e.ok 0):lp N a (d.or e)<=lp N a d+lp N a e:=by
 unfold lp;rw[<-aaP];exact aaQ _ (Ou hd he)
def MB(hd:d.ok 0)(aa:d≠ff)(ha:a<=N):1<=lp N a d:=by
 have h1:=T.card_pos hd aa;unfold lp;exact ZS ab (Nat.mul_le_mul h1 (show 1<=N+1-a by omega))
def Qu(ha:a<=N):lp N (a+1) d+d.card=lp N a d:=by
 unfold lp;rw[show N+1-a=(N+1-(a+1))+1 by omega,Nat.mul_add,Nat.mul_one]
def O6{b:Nat}(d:T)(h:a<=b):lp N b d<=lp N a d:=Nat.mul_le_mul_left _ ab
def P7{f:ar}(hf:∀s∈f,s.2.ok 0)(hd:d.ok 0):fe N (vL f a d)<=fe N f+lp N a d:=by
 induction f with
 |nil=>simp[vL,fe]
 |cons s f ih=>
  obtain⟨b,e⟩:=s;have:=ih fun t ht=>hf t (.tail _ ht);simp only[vL];split
  ·rw[fO,fO];omega
  ·split
   ·rename_i h2;have:=Vy (N:=N) (a:=b) (hf _ (.head _)) hd;simp only[fO]at *;subst h2;omega
   ·simp only[fO];omega
def jF{f:ar}(hf:∀s∈f,s.2.ok 0)(hd:d.ok 0):fe N (join f a d)<=fe N f+lp N a d:=by
 unfold join;split
 ·omega
 ·exact P7 hf hd
def cq.all{f:ar}(h:cq f):∀s∈f,s.2.ok 0:=fun s hs=>(h.1 s hs).1
def eC{g:ar}(hg:∀s∈g,s.2.ok 0):∀{f:ar},cq f->fe N (joinAll f g)<=fe N f+fe N g:=by
 induction g with
 |nil=>intro f _;simp[joinAll,fe]
 |cons s g ih=>
  intro f hf;have h1:=jF (N:=N) hf.all (a:=s.1) (hg s (.head _));have h2:=ih (fun t ht=>hg t (.tail _ ht)) (f:=join f s.1 s.2) (eu hf (hg s (.head _)));unfold joinAll at *;simp only[fu,fO];omega
def wV{N:Nat}:∀{l:List Tok} {a:ar} {i:Nat} {d:T},bT l->cq a->d.ok 0->fe N (eW a l i d)<=fe N a+lp N i d
 | [],a,i,d,hl,ha,hd=>jF ha.all hd
 |t::l,a,i,d,hl,ha,hd=>by
  simp only[eW];split
  ·omega
  ·have ht:=hl t (.head _);have h1:=jF (N:=N) ha.all (a:=i) (T.and_ok hd ht);have h2:=wV (N:=N) (l:=l) (a:=join a i (d.and t.cond)) (i:=i+1) (d:=d.and t.cond.not) (fun x hx=>hl x (.tail _ hx)) (eu ha (T.and_ok hd ht)) (T.and_ok hd (T.not_ok ht));have h3:=O6 (N:=N) (a:=i) (b:=i+1) (d.and t.cond.not) ab;have h4:lp N i (d.and t.cond)+lp N i (d.and t.cond.not)=lp N i d:=by
    unfold lp;rw[<-aaP,MJ hd ht]
   omega
def yN{ts:List Tok}(aa:bT ts){f:ar}(hf:∀s∈f,s.2.ok 0):fe N (eK ts f)<=fe N f:=by
 have key:∀(f:ar) (a:ar),(∀s∈f,s.2.ok 0)->cq a->fe N (f.foldl (fun at' s=>eW at' (ts.drop s.1) s.1 s.2) a)<=fe N a+fe N f:=by
  intro f
  induction f with
  |nil=>intro a _ _;simp[fe]
  |cons s f ih=>
   intro a h1 h2;have h3:=wV (N:=N) (aa.drop s.1) h2 (i:=s.1) (h1 s (.head _));have h4:=ih (eW a (ts.drop s.1) s.1 s.2) (fun t ht=>h1 t (.tail _ ht)) (zD (aa.drop _) h2 (h1 s (.head _)));simp only[fu,fO];omega
 have:=key f [] hf cq.nil;rw[dO,ZZ]at this;exact this
def DA(N:Nat)(ts:List Tok):∀(f:ar),eT N (f.map (cQ ts))=fe N f
 | []=>rfl
 |s::f=>by
  have h:=DA N ts f;have e:hp N (cQ ts s)=lp N s.1 s.2:=by unfold hp;rw[jX,jw]
  rw[aaU,bo,fO,h,e]
def pm(N:Nat){h:aB}:∀{hs:List aB},h∈hs->hp N h<=eT N hs
 | [],hm=>(aaB hm).elim
 |x::hs,hm=>by
  rw[bo];rcases List.mem_cons.1 hm with e|e
  ·subst e;omega
  ·have:=pm N e;omega
section
variable {ts:List Tok} {f:ar}
def hQ(aa:bT ts)(fn:FN ts.length f){N:Nat}:eT N (bE ts f)<=fe N f:=by
 rw[lS aa fn.ok,DA];exact yN aa fn.ok.all
def kS.pos{h:aB}(k:kS ts h):1<=hp ts.length h:=MB k.ok k.ne k.le
def kS.next{h:aB}(k:kS ts h):lp ts.length (h.at'+1) h.cond+1<=hp ts.length h:=by
 have h1:=Qu (d:=h.cond) k.le;have h2:=T.card_pos k.ok k.ne;unfold hp;omega
def vT(fn:FN ts.length f)(h:f≠[]):1<=fe ts.length f:=by
 cases f with
 |nil=>exact absurd rfl h
 |cons s f=>
  have:=MB (fn.ok.1 s (.head _)).1 (fn.ok.1 s (.head _)).2 (fn.le s (.head _));rw[fO];omega
def bz(h:aB)(N:Nat):fe N (bv h)=lp N (h.at'+1) h.cond:=by simp[bv,fe]
def fR(h:aB)(N:Nat):fe N (bX h)=hp N h:=by simp[bX,fe,hp]
variable{hs:List aB}
def qL{N:Nat}(hh:∀h∈hs,h.cond.ok 0):∀{f:ar},cq f->fe N (hs.foldl joinH f)<=fe N f+eT N hs:=by
 induction hs with
 |nil=>intro f _;simp[eT]
 |cons h hs ih=>
  intro f hf;have h0:=hh h (.head _);have h1:=jF (N:=N) hf.all (a:=h.at') h0;have h2:=ih (fun t ht=>hh t (.tail _ ht)) (f:=joinH f h) (eu hf h0);simp only[fu,bo,hp];unfold joinH at *;omega
def xu(hh:∀h∈hs,kS ts h):∀{f:ar},cq f->fe ts.length (hs.foldl joinH1 f)+hs.length<=fe ts.length f+eT ts.length hs:=by
 induction hs with
 |nil=>intro f _;simp[eT]
 |cons h hs ih=>
  intro f hf;have h0:=hh h (.head _);have h1:=jF (N:=ts.length) hf.all (a:=h.at'+1) h0.ok;have h2:=ih (fun t ht=>hh t (.tail _ ht)) (f:=joinH1 f h) (eu hf h0.ok);have h3:=h0.next;simp only[fu,bo,aaj];unfold joinH1 at *;omega
def Cz(N:Nat)(is:aB->Bool)(hs:List aB):eT N (hs.filter is)+eT N (hs.filter fun h=>!is h)=eT N hs:=by
 induction hs with
 |nil=>rfl
 |cons h hs ih=>
  cases e:is h<;>simp only[aby,e,abQ,abK,reduceIte,bo,aa5]<;>omega
def iM(aa:bT ts)(fn:FN ts.length f)(is:aB->Bool):eT ts.length (aM ts f is).1+fe ts.length (aM ts f is).2<=fe ts.length f:=by
 rw[oB];have h1:=Cz ts.length is (bE ts f);have h2:=qL (N:=ts.length) (hs:=(bE ts f).filter fun h=>!is h) (fun h hh=>(b9 aa fn (List.mem_filter.1 hh).1).ok) cq.nil;have h3:=hQ aa fn (N:=ts.length);rw[dO]at h2;show eT ts.length ((bE ts f).filter is)+fe ts.length (((bE ts f).filter fun h=>!is h).foldl joinH [])<=_;omega
def wU(hh:∀h∈hs,kS ts h):hs.length<=eT ts.length hs:=by
 induction hs with
 |nil=>exact ZR _
 |cons h hs ih=>
  have h1:=(hh h (.head _)).pos;have h2:=ih fun t ht=>hh t (.tail _ ht);rw[bo,aaj];omega
theorem nh(h:aB)(k:Nat):(cJ h k).length=2:=rfl
def i7(aa:bT ts)(fn:FN ts.length f)(s:bq):(take ts f s).2.length+3*fe ts.length (take ts f s).1<=3*fe ts.length f:=by
 have key:∀(hs:List aB) (z:ar×List cO),(∀h∈hs,kS ts h)->cq z.1->(hs.foldl (gH s) z).2.length+3*fe ts.length (hs.foldl (gH s) z).1<=z.2.length+3*fe ts.length z.1+3*eT ts.length hs:=by
  intro hs
  induction hs with
  |nil=>intro z _ _;simp[eT]
  |cons h hs ih=>
   intro z hh hz;have h0:=hh h (.head _);simp only[fu,bo];have hk:=h0.next;have ac:=h0.pos;by_cases e:h.text=s
   ·have e2:gH s z h=(join z.1 (h.at'+1) h.cond,z.2):=by simp[gH,e]
    have h1:=jF (N:=ts.length) hz.all (a:=h.at'+1) h0.ok;have:=ih (gH s z h) (fun t ht=>hh t (.tail _ ht)) (by rw[e2];exact eu hz h0.ok);rw[e2]at this |-;simp only at this;omega
   ·have e2:gH s z h=(z.1,z.2++cJ h 10):=by simp[gH,e]
    have:=ih (gH s z h) (fun t ht=>hh t (.tail _ ht)) (by rw[e2];exact hz);rw[e2]at this |-;simp only[aa9,nh]at this;omega
 have:=key (bE ts f) ([],[]) (fun h hh=>b9 aa fn hh) cq.nil;rw[tX];have h3:=hQ aa fn (N:=ts.length);simp only[dO,aaO]at this;omega
def Sp(N w:Nat)(r:bW):Prop:=r.e.length+r.l.length+3*fe N r.f<=w
def nz(ac:bT ts)(fn:FN ts.length f)(kind slot:Nat):(Sp ts.length (3*fe ts.length f) (named ts f kind slot)/\(f≠[]->Sp ts.length (3*fe ts.length f-1) (named ts f kind slot)))/\∀n∈(named ts f kind slot).l,n.kids=[]:=by
 have key:∀(hs:List aB) (z:bW),(∀h∈hs,kS ts h)->cq z.f->(∀n∈z.l,n.kids=[])->Sp ts.length (3*eT ts.length hs+3*fe ts.length z.f+z.l.length+2*z.e.length-hs.length) ⟨(hs.foldl (cE kind slot) z).l,(hs.foldl (cE kind slot) z).f,(hs.foldl (cE kind slot) z).e++z.e⟩/\∀n∈(hs.foldl (cE kind slot) z).l,n.kids=[]:=by
  intro hs
  induction hs with
  |nil=>intro z _ _ h;refine⟨?_,h⟩;unfold Sp;simp[eT];omega
  |cons h hs ih=>
   intro z hh hz hn;have h0:=hh h (.head _);simp only[fu,bo,aaj];have aa:=wU (ts:=ts) (hs:=hs) fun t ht=>hh t (.tail _ ht);have hk:=h0.next;have am:=h0.pos;by_cases e:h.kind≠1\/dG h.text=true
   ·have e2:cE kind slot z h={ z with e:=z.e++cJ h 10 }:=by unfold cE;rw[aaq e]
    have:=ih (cE kind slot z h) (fun t ht=>hh t (.tail _ ht)) (by rw[e2];exact hz) (by rw[e2];exact hn);rw[e2]at this |-;refine⟨?_,this.2⟩;have h1:=this.1;unfold Sp at h1 |-;simp only[aa9,nh]at h1 |-;omega
   ·have e2:cE kind slot z h=⟨z.l++[⟨kind,h.text,h.at',slot,[],h.cond⟩],join z.f (h.at'+1) h.cond,z.e⟩:=by unfold cE;rw[ZV e]
    have hj:=jF (N:=ts.length) hz.all (a:=h.at'+1) h0.ok;have:=ih (cE kind slot z h) (fun t ht=>hh t (.tail _ ht)) (by rw[e2];exact eu hz h0.ok) (by
     rw[e2];intro n hm;rcases List.mem_append.1 hm with hm|hm
     ·exact hn n hm
     ·simp at hm;subst hm;rfl)
    rw[e2]at this |-;refine⟨?_,this.2⟩;have h1:=this.1;unfold Sp at h1 |-;simp only[aa9,aaj,aaO]at h1 |-;omega
 have:=key (bE ts f) ⟨[],[],[]⟩ (fun h hh=>b9 ac fn hh) cq.nil (fun n h=>(aaB h).elim);rw[lR];have h3:=hQ ac fn (N:=ts.length);have aa:=wU (ts:=ts) (hs:=bE ts f) fun h hh=>b9 ac fn hh;have h1:=this.1;unfold Sp at h1 |-;simp only[dO,aaO,aa6]at h1;refine⟨⟨ab,fun aj=>?_⟩,this.2⟩;have ak:=vT fn aj;cases hH:bE ts f with
 |nil=>rw[hH]at h1;simp only[o8,aaO,List.foldl_nil,dO]at h1 |-;omega
 |cons h hs=>rw[hH]at h1 h3 aa;simp only[aaj]at h1 aa;omega
def uz(aa:bT ts)(fn:FN ts.length f)(slot:Nat):Sp ts.length (3*fe ts.length f) (sW ts f slot)/\∀n∈(sW ts f slot).l,n.kids=[]:=by
 have key:∀(hs:List aB) (z:bW),(∀h∈hs,kS ts h)->cq z.f->(∀n∈z.l,n.kids=[])->Sp ts.length (3*eT ts.length hs+3*fe ts.length z.f+z.l.length+2*z.e.length) ⟨(hs.foldl (cD slot) z).l,(hs.foldl (cD slot) z).f,(hs.foldl (cD slot) z).e++z.e⟩/\∀n∈(hs.foldl (cD slot) z).l,n.kids=[]:=by
  intro hs
  induction hs with
  |nil=>intro z _ _ h;refine⟨?_,h⟩;unfold Sp;simp[eT];omega
  |cons h hs ih=>
   intro z hh hz hn;have h0:=hh h (.head _);simp only[fu,bo];have hk:=h0.next;have ac:=h0.pos;by_cases e:h.text≠vM/\h.text≠oO
   ·have e2:cD slot z h={ z with e:=z.e++cJ h 10 }:=by unfold cD;rw[aaq e]
    have:=ih (cD slot z h) (fun t ht=>hh t (.tail _ ht)) (by rw[e2];exact hz) (by rw[e2];exact hn);rw[e2]at this |-;refine⟨?_,this.2⟩;have h1:=this.1;unfold Sp at h1 |-;simp only[aa9,nh]at h1 |-;omega
   ·have e2:cD slot z h=⟨z.l++[⟨5,h.text,h.at',slot,[],h.cond⟩],join z.f (h.at'+1) h.cond,z.e⟩:=by unfold cD;rw[ZV e]
    have hj:=jF (N:=ts.length) hz.all (a:=h.at'+1) h0.ok;have:=ih (cD slot z h) (fun t ht=>hh t (.tail _ ht)) (by rw[e2];exact eu hz h0.ok) (by
     rw[e2];intro n hm;rcases List.mem_append.1 hm with hm|hm
     ·exact hn n hm
     ·simp at hm;subst hm;rfl)
    rw[e2]at this |-;refine⟨?_,this.2⟩;have h1:=this.1;unfold Sp at h1 |-;simp only[aa9,aaj,aaO]at h1 |-;omega
 have:=key (bE ts f) ⟨[],[],[]⟩ (fun h hh=>b9 aa fn hh) cq.nil (fun n h=>(aaB h).elim);rw[oj];have h3:=hQ aa fn (N:=ts.length);refine⟨?_,this.2⟩;have h1:=this.1;unfold Sp at h1 |-;simp only[dO,aaO,aa6]at h1;omega
variable{l:List Nd}
def dW{ks:List Nd}{K:Nat}(h:∀n∈l,n.kids.length<=K)(hk:K+ks.length<=aN):jb l ks=some (give l ks)/\(give l ks).length=l.length/\∀n∈give l ks,n.kids.length<=K+ks.length:=by
 refine⟨?_,by simp[give],?_⟩
 ·unfold jb;rw[aaq];rw[aap];intro n hn;have:=h n hn;simp only[aaC];omega
 ·intro n hn;obtain⟨m,hm,rfl⟩:=List.mem_map.1 hn;have:=h m hm;simp only[aa9];omega
def tS(h:l.length<=aN):ck l=some ():=aaq h
def z7(l:List Nd)(d:T):(fX l d).length<=l.length:=List.length_filterMap_le ..
def wH(l:List Nd)(d:T):(dH l d).length<=l.length:=List.length_filterMap_le ..
def m7(l:List Nd)(d:T):(kJ l d).length=l.length:=by cases l<;>rfl
end
open Dg
def KB(K:Nat)(l:List Nd):Prop:=∀n∈l,n.kids.length<=K
def rL(ts:List Tok)(hs:List aB):Prop:=∀h∈hs,kS ts h/\h.at'<ts.length
section
variable (ts:List Tok)
def cU:Call->Nat
 | .line _ _ f _=>3*fe ts.length f
 | .lineL _ _ _ _ l g out=>l.length+3*(fe ts.length g+fe ts.length out)
 | .lineO _ _ _ ops l g=>l.length+3*(fe ts.length g+eT ts.length ops)
 | .unary _ f _=>3*fe ts.length f
 | .unaryH _ h _=>3*hp ts.length h
 | .calls _ _ _ xs names g=>names.length+3*(fe ts.length g+eT ts.length xs)
 | .inside _ f _=>3*fe ts.length f
 | .listed _ _ f=>3*fe ts.length f
 | .listL _ _ l g fin=>l.length+3*(fe ts.length g+fe ts.length fin)
 | .item _ _ f=>3*fe ts.length f
 | .behind _ _ f _ _=>3*fe ts.length f
 | .vrb _ f=>3*fe ts.length f
 | .function _ f=>3*fe ts.length f
 | .block _ f _=>3*fe ts.length f
 | .seqL _ _ f l out=>l.length+3*(fe ts.length f+fe ts.length out)
 | .stmt _ h=>3*hp ts.length h
 | .sCalls _ _ xs l g=>l.length+3*(fe ts.length g+eT ts.length xs)
 | .branch _ h _=>3*hp ts.length h
 | .elses _ xs l out=>l.length+3*(fe ts.length out+eT ts.length xs)
 | .ifs _ ys l out=>l.length+3*(fe ts.length out+eT ts.length ys)
def mu:Call->Nat
 | .line k _ f _=>64*fe ts.length f+(31-2*k)
 | .lineL k _ _ _ _ g _=>64*fe ts.length g+(30-2*k)
 | .lineO _ _ _ ops _ _=>64*eT ts.length ops
 | .unary _ f _=>64*fe ts.length f+19
 | .unaryH _ h _=>64*hp ts.length h+18
 | .calls _ _ _ xs _ _=>64*eT ts.length xs+10
 | .inside _ f _=>64*fe ts.length f+17
 | .listed _ _ f=>64*fe ts.length f+9
 | .listL _ _ _ g _=>64*fe ts.length g+40
 | .item _ _ f=>64*fe ts.length f+39
 | .behind _ _ f _ _=>64*fe ts.length f+38
 | .vrb _ f=>64*fe ts.length f+41
 | .function _ f=>64*fe ts.length f+41
 | .block _ f _=>64*fe ts.length f+9
 | .seqL _ _ f _ _=>64*fe ts.length f+50
 | .stmt _ h=>64*hp ts.length h+45
 | .sCalls _ _ xs _ _=>64*eT ts.length xs+10
 | .branch _ h _=>64*hp ts.length h+42
 | .elses _ xs _ _=>64*eT ts.length xs+43
 | .ifs _ ys _ _=>64*eT ts.length ys+43
def lX:Call->Prop
 | .line k _ f _=>FN ts.length f/\k<=5
 | .lineL k _ _ _ _ g out=>FN ts.length g/\FN ts.length out/\k<=4
 | .lineO k _ _ ops _ g=>rL ts ops/\FN ts.length g/\k<=4
 | .unary _ f _=>FN ts.length f
 | .unaryH _ h _=>kS ts h
 | .calls _ _ _ xs _ g=>rL ts xs/\FN ts.length g
 | .inside _ f _=>FN ts.length f
 | .listed _ _ f=>FN ts.length f
 | .listL _ _ _ g fin=>FN ts.length g/\FN ts.length fin
 | .item _ _ f=>FN ts.length f
 | .behind _ _ f sign _=>FN ts.length f/\sign≠[]
 | .vrb _ f=>FN ts.length f
 | .function _ f=>FN ts.length f
 | .block _ f _=>FN ts.length f
 | .seqL _ _ f _ out=>FN ts.length f/\FN ts.length out
 | .stmt _ h=>kS ts h
 | .sCalls _ _ xs _ g=>rL ts xs/\FN ts.length g
 | .branch _ h _=>kS ts h/\h.at'<ts.length
 | .elses _ xs l out=>rL ts xs/\FN ts.length out/\∀n∈l,n.kids.length+3*eT ts.length xs<=aN
 | .ifs _ ys l out=>rL ts ys/\FN ts.length out/\∀n∈l,n.kids.length+3*eT ts.length ys<=aN
def Bs(b:Nat)(r:bW):Prop:=FN ts.length r.f/\r.e.length+r.l.length+3*fe ts.length r.f<=b
def Wn(f:ar)(r:bW):Prop:=Bs ts (3*fe ts.length f) r/\(f≠[]->r.e.length+r.l.length+3*fe ts.length r.f+1<=3*fe ts.length f)
def Bh(h:aB)(r:bW):Prop:=FN ts.length r.f/\r.e.length+r.l.length+3*fe ts.length r.f+1<=3*hp ts.length h
def lV:Call->bW->Prop
 | .lineO k o slot ops l g,r=>Bs ts (cU ts (.lineO k o slot ops l g)) r/\fe ts.length r.f+ops.length<=fe ts.length g+eT ts.length ops
 | .unary _ f _,r=>Wn ts f r
 | .unaryH _ h _,r=>Bh ts h r
 | .inside _ f _,r=>Wn ts f r
 | .listed _ _ f,r=>Wn ts f r
 | .block _ f _,r=>Wn ts f r
 | .stmt _ h,r=>Bh ts h r
 | .branch _ h _,r=>Bh ts h r
 | .elses o xs l out,r=>Bs ts (cU ts (.elses o xs l out)) r/\∀K,KB K l->KB (K+3*eT ts.length xs) r.l
 | .ifs o xs l out,r=>Bs ts (cU ts (.ifs o xs l out)) r/\∀K,KB K l->KB (K+3*eT ts.length xs) r.l
 |c,r=>Bs ts (cU ts c) r
def lG(rec:sY)(m:Nat):Prop:=∀c,lX ts c->cU ts c<=aN->mu ts c<m->∃r,rec c=some r/\lV ts c r
end
section
variable {ts:List Tok} {rec:sY}
variable{xs:List aB}
def rL.tail{x:aB}(h:rL ts (x::xs)):rL ts xs:=fun y hy=>h y (.tail _ hy)
def rL.head{x:aB}(h:rL ts (x::xs)):kS ts x/\x.at'<ts.length:=h x (.head _)
def rL.all(h:rL ts xs):∀y∈xs,kS ts y:=fun y hy=>(h y hy).1
variable{h:aB}
def kS.lt2(k:kS ts h){s:bq}(hs:s≠[])(e:h.text=s):h.at'<ts.length:=k.lt (.inl (by rw[e];exact hs))
def kG(aa:bT ts){f:ar}(fn:FN ts.length f){s:bq}(hs:s≠[]):rL ts (aM ts f (bD s)).1:=fun h hh=>by
 obtain⟨h1,h2⟩:=fm aa fn h hh;exact⟨h1,qo hs h1 h2⟩
def sL(ac:bT ts){f:ar}(fn:FN ts.length f)(hb:3*fe ts.length f<=aN){g:aB->Option bW}
  (hg:∀h∈bE ts f,∃x,g h=some x/\Bh ts h x):∃r,cT ts f g=some r/\Wn ts f r:=by
 have key:∀(hs:List aB) (z:bW),(∀h∈hs,kS ts h/\∃x,g h=some x/\Bh ts h x)->FN ts.length z.f->z.e.length+z.l.length+3*(fe ts.length z.f+eT ts.length hs)<=aN->
   ∃r,lH (fun r h=>match g h with
    |some x=>if (r.l++x.l).length<=aN then some ⟨r.l++x.l,joinAll r.f x.f,r.e++x.e⟩else none
    |none=>none) z hs=some r/\FN ts.length r.f/\r.e.length+r.l.length+3*fe ts.length r.f+hs.length<=z.e.length+z.l.length+3*(fe ts.length z.f+eT ts.length hs):=by
  intro hs
  induction hs with
  |nil=>intro z _ hz _;exact⟨z,rfl,hz,by simp[eT]⟩
  |cons h hs ih=>
   intro z hh hz hb;obtain⟨h0,x,ex,hx,ak⟩:=hh h (.head _);rw[bo]at hb;have hj:=eC (N:=ts.length) hx.ok.all hz.ok;have hl:(z.l++x.l).length<=aN:=by rw[aa9];omega
   obtain⟨r,er,hr,aa⟩:=ih ⟨z.l++x.l,joinAll z.f x.f,z.e++x.e⟩ (fun t ht=>hh t (.tail _ ht)) (hz.joinAll hx) (by simp only[aa9];omega);refine⟨r,?_,hr,?_⟩
   ·simp only[lH,ex,aaq hl];exact er
   ·simp only[aa9]at aa;rw[bo,aaj];omega
 have h3:=hQ ac fn (N:=ts.length);obtain⟨r,er,hr,aa⟩:=key (bE ts f) ⟨[],[],[]⟩ (fun h hh=>⟨b9 ac fn hh,hg h hh⟩) (FN.nil _) (by simp only[aaO,dO];omega);simp only[aaO,dO]at aa;refine⟨r,er,⟨hr,ab⟩,fun aj=>?_⟩;have am:=vT fn aj;cases hH:bE ts f with
 |nil=>rw[hH]at aa;simp only[aaO,o8]at aa;omega
 |cons h hs=>rw[hH]at aa h3;simp only[aaj]at aa;omega
def Bh.fail(k:kS ts h)(code:Nat):Bh ts h ⟨[],[],cJ h code⟩:=⟨FN.nil _,by
 have:=k.pos;simp only[nh,aaO,dO];omega⟩
variable{o slot:Nat}
def Kl{m k:Nat}{f:ar}(R:lG ts rec (mu ts (.line k o f slot)))(t:lX ts (.line k o f slot))(b:cU ts (.line k o f slot)<=aN):∃r,line rec k o f slot=some r/\lV ts (.line k o f slot) r:=by
 obtain⟨fn,hk⟩:=t;simp only[cU]at b;by_cases h5:k=5
 ·obtain⟨a,ea,qa⟩:=R (.unary o f slot) fn b (by simp only[mu];omega);exact⟨a,by rw[line,aaq h5,ea],qa.1⟩
 ·obtain⟨a,ea,qa⟩:=R (.line (k+1) o f slot) ⟨fn,ab⟩ b (by simp only[mu];omega);have qa2:=qa.2;simp only[cU]at qa2;obtain⟨c,ec,qc⟩:=R (.lineL k o slot true a.l a.f []) ⟨qa.1,FN.nil _,ab⟩ (by simp only[cU,dO];omega) (by simp only[mu];omega);have qc2:=qc.2;simp only[cU,dO]at qc2;refine⟨⟨c.l,c.f,a.e++c.e⟩,by rw[line,ZV h5,ea];simp only[abI,jO,ec],qc.1,?_⟩;simp only[cU,aa9];omega
variable{g:ar}{l:List Nd}
def Ic(aa:bT ts){k:Nat}{first:Bool}{out:ar}(R:lG ts rec (mu ts (.lineL k o slot first l g out)))(t:lX ts (.lineL k o slot first l g out))(b:cU ts (.lineL k o slot first l g out)<=aN):∃r,lineL ts rec k o slot first l g out=some r/\lV ts (.lineL k o slot first l g out) r:=by
 obtain⟨fg,fo,hk⟩:=t;simp only[cU]at b;by_cases h0:g=[]
 ·refine⟨⟨l,out,[]⟩,by rw[lineL,aaq h0],fo,?_⟩;simp only[cU,aaO];omega
 ·by_cases h2:k=2/\first=false
  ·have hj:=eC (N:=ts.length) fg.ok.all fo.ok;refine⟨⟨l,joinAll out g,[]⟩,by rw[lineL,ZV h0,aaq h2],fo.joinAll fg,?_⟩;simp only[cU,aaO];omega
  ·have hs:=iM aa fg (ti k);have ac:=vT fg h0;have ho:rL ts (aM ts g (ti k)).1:=fun h hh=>by
    obtain⟨h1,h3⟩:=fm aa fg h hh;refine⟨h1,h1.lt (.inr fun e=>?_)⟩;simp[ti,e]at h3
   have hr:=dC aa fg (ti k);have hj:=eC (N:=ts.length) hr.ok.all fo.ok;have aj:=wU ho.all;obtain⟨a,ea,qa,qa3⟩:=R (.lineO k o slot (aM ts g (ti k)).1 l []) ⟨ho,FN.nil _,hk⟩ (by simp only[cU,dO];omega) (by simp only[mu];omega);have qa2:=qa.2;simp only[cU,dO]at qa2 qa3;have ak:fe ts.length a.f<fe ts.length g:=by
    cases hq:(aM ts g (ti k)).1 with
    |nil=>rw[hq,o8]at qa3;omega
    |cons x xs=>rw[hq]at qa3 hs;simp only[aaj]at qa3;omega
   obtain⟨c,ec,qc⟩:=R (.lineL k o slot false a.l a.f (joinAll out (aM ts g (ti k)).2)) ⟨qa.1,fo.joinAll hr,hk⟩ (by simp only[cU];omega) (by simp only[mu];omega);have qc2:=qc.2;simp only[cU]at qc2;refine⟨⟨c.l,c.f,a.e++c.e⟩,by rw[lineL,ZV h0,ZV h2];simp only[abI,jO,ea,ec],qc.1,?_⟩;simp only[cU,aa9];omega
def HO{k:Nat}{ops:List aB}(R:lG ts rec (mu ts (.lineO k o slot ops l g)))(t:lX ts (.lineO k o slot ops l g))(b:cU ts (.lineO k o slot ops l g)<=aN):∃r,lineO rec k o slot ops l g=some r/\lV ts (.lineO k o slot ops l g) r:=by
 obtain⟨ho,fg,hk⟩:=t;simp only[cU]at b;cases ops with
 |nil=>exact⟨⟨l,g,[]⟩,rfl,⟨fg,by simp only[cU,aaO];omega⟩,by simp only[aaO];omega⟩
 |cons h ops=>
  obtain⟨h0,aa⟩:=ho.head;have hn:=h0.next;rw[bo]at b;obtain⟨a,ea,qa⟩:=R (.line (k+1) o (bv h) 1) ⟨bH h0 aa,ab⟩ (by simp only[cU,bz];omega) (by simp only[mu,bz,bo];omega);have qa2:=qa.2;simp only[cU,bz]at qa2;have h1:=z7 l h.cond;have h2:=wH l h.cond;have hj:=eC (N:=ts.length) qa.1.ok.all fg.ok;have c1:=tS (l:=fX l h.cond++a.l) (by rw[aa9];omega);have c2:=tS (l:=dH l h.cond++[⟨13,h.text,h.at',slot,fX l h.cond++a.l,h.cond⟩]) (by rw[aa9,aaJ];omega);obtain⟨c,ec,qc,qc3⟩:=R (.lineO k o slot ops (dH l h.cond++[⟨13,h.text,h.at',slot,fX l h.cond++a.l,h.cond⟩]) (joinAll g a.f)) ⟨ho.tail,fg.joinAll qa.1,hk⟩ (by simp only[cU,aa9,aaJ];omega) (by simp only[mu,bo];omega);have qc2:=qc.2;simp only[cU,aa9,aaJ]at qc2;refine⟨⟨c.l,c.f,a.e++c.e⟩,by simp only[lineO,abI,jO,ea,c1,c2,ec],⟨qc.1,?_⟩,?_⟩
  ·simp only[cU,aa9,bo];omega
  ·simp only[bo,aaj];omega
def HT(aa:bT ts){f:ar}(R:lG ts rec (mu ts (.unary o f slot)))(t:lX ts (.unary o f slot))(b:cU ts (.unary o f slot)<=aN):∃r,cT ts f (fun h=>rec (.unaryH o h slot))=some r/\lV ts (.unary o f slot) r:=by
 have fn:FN ts.length f:=t;simp only[cU]at b;have hh:=hQ aa fn (N:=ts.length);refine sL aa fn b fun h hm=>?_;have ac:=pm ts.length hm;exact R (.unaryH o h slot) (b9 aa fn hm) (by simp only[cU];omega) (by simp only[mu];omega)
def Ez(aa:bT ts)(R:lG ts rec (mu ts (.unaryH o h slot)))(t:lX ts (.unaryH o h slot))(b:cU ts (.unaryH o h slot)<=aN):∃r,unaryH ts rec o h slot=some r/\lV ts (.unaryH o h slot) r:=by
 have h0:kS ts h:=t;have hn:=h0.next;simp only[cU]at b;unfold unaryH;split
 ·rename_i e;have ac:h.at'<ts.length:=e.elim (h0.lt2 bg) (h0.lt2 bg);split
  ·exact⟨_,rfl,Bh.fail h0 11⟩
  ·obtain⟨a,ea,qa⟩:=R (.unary (o+1) (bv h) 0) (bH h0 ac) (by simp only[cU,bz];omega) (by simp only[mu,bz];omega);have qa2:=qa.1.2;simp only[bz]at qa2;refine⟨⟨[⟨14,h.text,h.at',slot,a.l,h.cond⟩],a.f,a.e⟩,by simp only[abI,jO,ea],qa.1.1,?_⟩;simp only[aaJ];omega
 ·split
  ·obtain⟨a,ea,qa⟩:=R (.inside o (bX h) slot) (jk h0) (by simp only[cU,fR];omega) (by simp only[mu,fR];omega);have q2:=qa.2 (by simp[bX]);rw[fR]at q2;exact⟨a,ea,qa.1.1,q2⟩
  ·have leaf:h.at'<ts.length->∀nd,∃r:bW,some (⟨[nd],bv h,[]⟩:bW)=some r/\lV ts (.unaryH o h slot) r:=fun ac nd=>⟨_,rfl,bH h0 ac,by simp only[aaJ,aaO,bz];omega⟩;split
   ·rename_i e;exact leaf (h0.lt (.inr ab)) _
   ·split
    ·rename_i e;exact leaf (e.elim (h0.lt2 bg) (h0.lt2 bg)) _
    ·split
     ·rename_i e;exact leaf (h0.lt2 bg e) _
     ·have fh:=jk h0;obtain⟨⟨_,s1⟩,_⟩:=nz aa fh 18 slot;have s2:=s1 (by simp[bX]);unfold Sp at s2;rw[fR]at s2;have fa:=iy aa fh 18 slot;have aj:=iM aa fa (bD eM);have ak:=h0.pos;obtain⟨c,ec,qc⟩:=R (.calls o h slot (aM ts (named ts (bX h) 18 slot).f (bD eM)).1 (named ts (bX h) 18 slot).l (aM ts (named ts (bX h) 18 slot).f (bD eM)).2) ⟨kG aa fa bg,dC aa fa _⟩ (by simp only[cU];omega) (by simp only[mu];omega);have qc2:=qc.2;simp only[cU]at qc2;refine⟨⟨c.l,c.f,(named ts (bX h) 18 slot).e++c.e⟩,by simp only[abI,jO,ec],qc.1,?_⟩;simp only[aa9];omega
def Ih{names:List Nd}(R:lG ts rec (mu ts (.calls o h slot xs names g)))(t:lX ts (.calls o h slot xs names g))(b:cU ts (.calls o h slot xs names g)<=aN):∃r,calls rec o h slot xs names g=some r/\lV ts (.calls o h slot xs names g) r:=by
 obtain⟨hx,fg⟩:=t;simp only[cU]at b;cases xs with
 |nil=>exact⟨⟨names,g,[]⟩,rfl,fg,by simp only[cU,aaO];omega⟩
 |cons x xs=>
  obtain⟨h0,ac⟩:=hx.head;rw[bo]at b;obtain⟨a,ea,qa⟩:=R (.listed false o (bX x)) (jk h0) (by simp only[cU,fR];omega) (by simp only[mu,fR,bo];omega);have q2:=qa.2 (by simp[bX]);rw[fR]at q2;have hj:=eC (N:=ts.length) qa.1.1.ok.all fg.ok;have aa:=h0.pos;have c1:=tS (l:=kJ names x.cond++[⟨19,h.text,h.at',slot,a.l,x.cond⟩]) (by rw[aa9,aaJ,m7];omega);obtain⟨c,ec,qc⟩:=R (.calls o h slot xs (kJ names x.cond++[⟨19,h.text,h.at',slot,a.l,x.cond⟩]) (joinAll g a.f)) ⟨hx.tail,fg.joinAll qa.1.1⟩ (by simp only[cU,aa9,aaJ,m7];omega) (by simp only[mu,bo];omega);have qc2:=qc.2;simp only[cU,aa9,aaJ,m7]at qc2;refine⟨⟨c.l,c.f,a.e++c.e⟩,by simp only[calls,abI,jO,ea,c1,ec],qc.1,?_⟩;simp only[cU,aa9,bo];omega
def FZ(R:lG ts rec (mu ts (.sCalls o h xs l g)))(t:lX ts (.sCalls o h xs l g))(b:cU ts (.sCalls o h xs l g)<=aN):∃r,sCalls rec o h xs l g=some r/\lV ts (.sCalls o h xs l g) r:=by
 obtain⟨hx,fg⟩:=t;simp only[cU]at b;cases xs with
 |nil=>exact⟨⟨l,g,[]⟩,rfl,fg,by simp only[cU,aaO];omega⟩
 |cons x xs=>
  obtain⟨h0,ac⟩:=hx.head;rw[bo]at b;obtain⟨a,ea,qa⟩:=R (.listed false o (bX x)) (jk h0) (by simp only[cU,fR];omega) (by simp only[mu,fR,bo];omega);have q2:=qa.2 (by simp[bX]);rw[fR]at q2;have hj:=eC (N:=ts.length) qa.1.1.ok.all fg.ok;have aa:=h0.pos;have c1:=tS (l:=l++[⟨19,h.text,h.at',0,a.l,x.cond⟩]) (by rw[aa9,aaJ];omega);obtain⟨c,ec,qc⟩:=R (.sCalls o h xs (kJ (l++[⟨19,h.text,h.at',0,a.l,x.cond⟩]) x.cond) (joinAll g a.f)) ⟨hx.tail,fg.joinAll qa.1.1⟩ (by simp only[cU,aa9,aaJ,m7];omega) (by simp only[mu,bo];omega);have qc2:=qc.2;simp only[cU,aa9,aaJ,m7]at qc2;refine⟨⟨c.l,c.f,a.e++c.e⟩,by simp only[sCalls,abI,jO,ea,c1,ec],qc.1,?_⟩;simp only[cU,aa9,bo];omega
def Fh(aa:bT ts){f:ar}(R:lG ts rec (mu ts (.inside o f slot)))(t:lX ts (.inside o f slot))(b:cU ts (.inside o f slot)<=aN):∃r,cT ts f (ml ts rec o slot)=some r/\lV ts (.inside o f slot) r:=by
 have fn:FN ts.length f:=t;simp only[cU]at b;have hh:=hQ aa fn (N:=ts.length);refine sL aa fn b fun h hm=>?_;have aj:=pm ts.length hm;have h0:=b9 aa fn hm;have hn:=h0.next;unfold ml;split
 ·exact⟨_,rfl,Bh.fail h0 10⟩
 ·rename_i e;split
  ·exact⟨_,rfl,Bh.fail h0 11⟩
  ·have ac:=h0.lt2 (s:=eM) bg (by simpa using e);obtain⟨a,ea,qa⟩:=R (.line 0 (o+1) (bv h) slot) ⟨bH h0 ac,ab⟩ (by simp only[cU,bz];omega) (by simp only[mu,bz];omega);have qa2:=qa.2;simp only[cU,bz]at qa2;have ht:=i7 aa qa.1 fK;refine⟨⟨a.l,(take ts a.f fK).1,a.e++(take ts a.f fK).2⟩,by simp only[abI,jO,ea],dK aa qa.1 bg,?_⟩;simp only[aa9];omega
variable{par:Bool}
def Ff(aa:bT ts){f:ar}(R:lG ts rec (mu ts (.listed par o f)))(t:lX ts (.listed par o f))(b:cU ts (.listed par o f)<=aN):∃r,cT ts f (mw ts rec par o)=some r/\lV ts (.listed par o f) r:=by
 have fn:FN ts.length f:=t;simp only[cU]at b;have hh:=hQ aa fn (N:=ts.length);refine sL aa fn b fun h hm=>?_;have aj:=pm ts.length hm;have h0:=b9 aa fn hm;have hn:=h0.next;unfold mw;split
 ·exact⟨_,rfl,Bh.fail h0 10⟩
 ·rename_i e;split
  ·exact⟨_,rfl,Bh.fail h0 11⟩
  ·have ac:=h0.lt2 (s:=eM) bg (by simpa using e);have fa:=bH h0 ac;have hs:=iM aa fa (bD fK);rw[bz]at hs;have hy:=kG aa fa (s:=fK) bg;have hj:=qL (N:=ts.length) (fun x hx=>(hy.all x hx).ok) cq.nil;rw[dO]at hj;obtain⟨a,ea,qa⟩:=R (.listL par (o+1) [] (aM ts (bv h) (bD fK)).2 ((aM ts (bv h) (bD fK)).1.foldl joinH [])) ⟨dC aa fa _,lJ hy.all (FN.nil _)⟩ (by simp only[cU,aaO];omega) (by simp only[mu];omega);have qa2:=qa.2;simp only[cU,aaO]at qa2;have ht:=i7 aa qa.1 fK;refine⟨⟨a.l,(take ts a.f fK).1,a.e++(take ts a.f fK).2⟩,by simp only[abI,jO,ea],dK aa qa.1 bg,?_⟩;simp only[aa9];omega
def Jm(aa:bT ts){fin:ar}(R:lG ts rec (mu ts (.listL par o l g fin)))(t:lX ts (.listL par o l g fin))(b:cU ts (.listL par o l g fin)<=aN):∃r,listL ts rec par o l g fin=some r/\lV ts (.listL par o l g fin) r:=by
 obtain⟨fg,ff'⟩:=t;simp only[cU]at b;cases g with
 |nil=>exact⟨⟨l,fin,[]⟩,rfl,ff',by simp only[cU,aaO];omega⟩
 |cons s g=>
  have fs:FN ts.length [s]:=⟨fg.ok.head,fun x hx=>by simp at hx;subst hx;exact fg.le _ (.head _)⟩;have fg2:FN ts.length g:=⟨fg.ok.tail,fun x hx=>fg.le x (.tail _ hx)⟩;have ac:=vT fs (by simp);have e1:fe ts.length [s]=lp ts.length s.1 s.2:=by simp[fe]
  rw[fO]at b;obtain⟨a,ea,qa⟩:=R (.item par o [s]) fs (by simp only[cU];omega) (by simp only[mu,fO,dO];omega);have qa2:=qa.2;simp only[cU]at qa2;have hs:=iM aa qa.1 (bD bB);have hy:=kG aa qa.1 (s:=bB) bg;have hj:=xu hy.all fg2.ok;have hr:=dC aa qa.1 (bD bB);have ak:=eC (N:=ts.length) hr.ok.all ff'.ok;have c1:=tS (l:=l++a.l) (by rw[aa9];omega);have aj:fe ts.length ((aM ts a.f (bD bB)).1.foldl joinH1 g)<lp ts.length s.1 s.2+fe ts.length g:=by
   cases hq:(aM ts a.f (bD bB)).1 with
   |nil=>simp only[List.foldl_nil];omega
   |cons x xs=>rw[hq]at hj hs;simp only[aaj]at hj;omega
  obtain⟨c,ec,qc⟩:=R (.listL par o (l++a.l) ((aM ts a.f (bD bB)).1.foldl joinH1 g) (joinAll fin (aM ts a.f (bD bB)).2)) ⟨m8 hy fg2,ff'.joinAll hr⟩ (by simp only[cU,aa9];omega) (by simp only[mu,fO];omega);have qc2:=qc.2;simp only[cU,aa9]at qc2;refine⟨⟨c.l,c.f,a.e++c.e⟩,by simp only[listL,abI,jO,ea,c1,ec],qc.1,?_⟩;simp only[cU,aa9,fO];omega
def KB.zero(h:∀n∈l,n.kids=[]):KB 0 l:=fun n hn=>by rw[h n hn];exact ZR _
def Ll(aa:bT ts){f:ar}(R:lG ts rec (mu ts (.item par o f)))(t:lX ts (.item par o f))(b:cU ts (.item par o f)<=aN):∃r,item ts rec par o f=some r/\lV ts (.item par o f) r:=by
 have fn:FN ts.length f:=t;simp only[cU]at b;cases par with
 |false=>
  obtain⟨a,ea,qa⟩:=R (.line 0 o f 0) ⟨fn,ab⟩ b (by simp only[mu];omega);exact⟨a,by unfold item;simp only[aa5,reduceIte,ea],qa⟩
 |true=>
  obtain⟨⟨s1,_⟩,k1⟩:=nz aa fn 4 0;unfold Sp at s1;have f1:=iy aa fn 4 0;have ht:=i7 aa f1 bA;have f2:=dK aa f1 (s:=bA) bg;obtain⟨s3,_⟩:=uz aa f2 0;unfold Sp at s3;have f3:=sP aa f2 0;obtain⟨g1,g2,_⟩:=dW (KB.zero k1) (ks:=(sW ts (take ts (named ts f 4 0).f bA).1 0).l) ab;refine⟨⟨give (named ts f 4 0).l (sW ts (take ts (named ts f 4 0).f bA).1 0).l,(sW ts (take ts (named ts f 4 0).f bA).1 0).f,(named ts f 4 0).e++(take ts (named ts f 4 0).f bA).2++(sW ts (take ts (named ts f 4 0).f bA).1 0).e⟩,by unfold item;simp only[reduceIte,abI,jO,g1],f3,?_⟩;simp only[cU,aa9,g2];omega
def F0(aa:bT ts){typ:Bool}{f:ar}{sign:bq}(R:lG ts rec (mu ts (.behind typ o f sign slot)))(t:lX ts (.behind typ o f sign slot))(b:cU ts (.behind typ o f sign slot)<=aN):∃r,behind ts rec typ o f sign slot=some r/\lV ts (.behind typ o f sign slot) r:=by
 obtain⟨fn,ac⟩:=t;simp only[cU]at b;have hs:=iM aa fn (bD sign);have hy:=kG aa fn ac;have hr:=dC aa fn (bD sign);have hj:=xu hy.all cq.nil;rw[dO]at hj;have f1:=m8 hy (FN.nil _);have key:∃a,wu ts rec typ o ((aM ts f (bD sign)).1.foldl joinH1 []) slot=some a/\Bs ts (3*fe ts.length ((aM ts f (bD sign)).1.foldl joinH1 [])) a:=by
  cases typ with
  |true=>exact⟨_,rfl,sP aa f1 slot,(uz aa f1 slot).1⟩
  |false=>exact R (.line 0 o ((aM ts f (bD sign)).1.foldl joinH1 []) slot) ⟨f1,ab⟩ (by simp only[cU];omega) (by simp only[mu];omega)
 obtain⟨a,ea,qa1,qa2⟩:=key;have aj:=eC (N:=ts.length) qa1.ok.all hr.ok;refine⟨⟨a.l,joinAll (aM ts f (bD sign)).2 a.f,a.e⟩,by unfold behind;simp only[abI,jO,ea],hr.joinAll qa1,?_⟩;simp only[cU];omega
def Be(aa:bT ts){f:ar}(R:lG ts rec (mu ts (.vrb o f)))(t:lX ts (.vrb o f))(b:cU ts (.vrb o f)<=aN):∃r,jQ ts rec o f=some r/\lV ts (.vrb o f) r:=by
 have fn:FN ts.length f:=t;simp only[cU]at b;obtain⟨⟨s1,_⟩,k1⟩:=nz aa fn 2 0;unfold Sp at s1;have f1:=iy aa fn 2 0;have ht:=i7 aa f1 bA;have f2:=dK aa f1 (s:=bA) bg;obtain⟨s3,_⟩:=uz aa f2 0;unfold Sp at s3;have f3:=sP aa f2 0;obtain⟨c,ec,qc⟩:=R (.behind false o (sW ts (take ts (named ts f 2 0).f bA).1 0).f su 1) ⟨f3,by decide⟩ (by simp only[cU];omega) (by simp only[mu];omega);have qc2:=qc.2;simp only[cU]at qc2;obtain⟨g1,g2,g3⟩:=dW (KB.zero k1) (ks:=(sW ts (take ts (named ts f 2 0).f bA).1 0).l) ab;obtain⟨g4,g5,_⟩:=dW g3 (ks:=c.l) ab;have ac:=i7 aa qc.1 a8;refine⟨⟨give (give (named ts f 2 0).l (sW ts (take ts (named ts f 2 0).f bA).1 0).l) c.l,(take ts c.f a8).1,(named ts f 2 0).e++(take ts (named ts f 2 0).f bA).2++(sW ts (take ts (named ts f 2 0).f bA).1 0).e++c.e++(take ts c.f a8).2⟩,by unfold jQ;simp only[abI,jO,ec,g1,g4],dK aa qc.1 bg,?_⟩;simp only[cU,aa9,g2,g5];omega
def AX(aa:bT ts){f:ar}(R:lG ts rec (mu ts (.function o f)))(t:lX ts (.function o f))(b:cU ts (.function o f)<=aN):∃r,function ts rec o f=some r/\lV ts (.function o f) r:=by
 have fn:FN ts.length f:=t;simp only[cU]at b;obtain⟨⟨s1,_⟩,k1⟩:=nz aa fn 3 0;unfold Sp at s1;have f1:=iy aa fn 3 0;obtain⟨c,ec,qc⟩:=R (.listed true o (named ts f 3 0).f) f1 (by simp only[cU];omega) (by simp only[mu];omega);have qc2:=qc.1.2;obtain⟨d,ed,qd⟩:=R (.behind true o c.f bA 1) ⟨qc.1.1,by decide⟩ (by simp only[cU];omega) (by simp only[mu];omega);have qd2:=qd.2;simp only[cU]at qd2;obtain⟨x,ex,qx⟩:=R (.block o d.f 2) qd.1 (by simp only[cU];omega) (by simp only[mu];omega);have qx2:=qx.1.2;obtain⟨g1,g2,g3⟩:=dW (KB.zero k1) (ks:=c.l) ab;obtain⟨g4,g5,g6⟩:=dW g3 (ks:=d.l) ab;obtain⟨g7,g8,_⟩:=dW g6 (ks:=x.l) ab;refine⟨⟨give (give (give (named ts f 3 0).l c.l) d.l) x.l,x.f,(named ts f 3 0).e++c.e++d.e++x.e⟩,by unfold function;simp only[abI,jO,ec,ed,ex,g1,g4,g7],qx.1.1,?_⟩;simp only[cU,aa9,g2,g5,g8];omega
def Iu(aa:bT ts){f:ar}(R:lG ts rec (mu ts (.block o f slot)))(t:lX ts (.block o f slot))(b:cU ts (.block o f slot)<=aN):∃r,cT ts f (oZ ts rec o slot)=some r/\lV ts (.block o f slot) r:=by
 have fn:FN ts.length f:=t;simp only[cU]at b;have hh:=hQ aa fn (N:=ts.length);refine sL aa fn b fun h hm=>?_;have aj:=pm ts.length hm;have h0:=b9 aa fn hm;have hn:=h0.next;unfold oZ;split
 ·exact⟨_,rfl,Bh.fail h0 10⟩
 ·rename_i e;split
  ·exact⟨_,rfl,Bh.fail h0 11⟩
  ·have ac:=h0.lt2 (s:=Im) bg (by simpa using e);obtain⟨a,ea,qa⟩:=R (.seqL false (o+1) (bv h) [] []) ⟨bH h0 ac,FN.nil _⟩ (by simp only[cU,aaO,bz,dO];omega) (by simp only[mu,bz];omega);have qa2:=qa.2;simp only[cU,aaO,bz,dO]at qa2;have ht:=i7 aa qa.1 qD;refine⟨⟨[⟨6,[],h.at',slot,a.l,h.cond⟩],(take ts a.f qD).1,a.e++(take ts a.f qD).2⟩,by simp only[abI,jO,ea],dK aa qa.1 bg,?_⟩;simp only[aa9,aaJ];omega
end
open Dg
section
variable {ts:List Tok} {rec:sY}
variable{out:ar}{l:List Nd}{o:Nat}
def H5(aa:bT ts){xs:List aB}(R:lG ts rec (mu ts (.elses o xs l out)))(t:lX ts (.elses o xs l out))(b:cU ts (.elses o xs l out)<=aN):∃r,elses ts rec o xs l out=some r/\lV ts (.elses o xs l out) r:=by
 obtain⟨hx,fo,hK⟩:=t;simp only[cU]at b;cases xs with
 |nil=>exact⟨⟨l,out,[]⟩,rfl,⟨fo,by simp only[cU,aaO];omega⟩,fun K hk=>by simpa[o8]using hk⟩
 |cons x xs=>
  obtain⟨h0,ac⟩:=hx.head;have hn:=h0.next;rw[bo]at b hK;have fa:=bH h0 ac;have hs:=iM aa fa (bD kT);rw[bz]at hs;have hr:=dC aa fa (bD kT);obtain⟨a,ea,qa⟩:=R (.block o (aM ts (bv x) (bD kT)).2 2) hr (by simp only[cU];omega) (by simp only[mu,bo];omega);have qa2:=qa.1.2;have hj:=eC (N:=ts.length) qa.1.1.ok.all fo.ok;obtain⟨g1,g2,_⟩:=dW (l:=l) (ks:=a.l) (K:=aN-(3*(hp ts.length x+eT ts.length xs))) (fun n hn=>by have:=hK n hn;omega) ab;have gk:∀K,KB K l->KB (K+a.l.length) (give l a.l):=fun K hk n hn=>by
   obtain⟨m,hm,rfl⟩:=List.mem_map.1 hn;have:=hk m hm;simp only[aa9];omega
  have gk2:∀n∈give l a.l,n.kids.length+3*eT ts.length (aM ts (bv x) (bD kT)).1+3*eT ts.length xs<=aN:=fun n hn=>by
   obtain⟨m,hm,rfl⟩:=List.mem_map.1 hn;have:=hK m hm;simp only[aa9];omega
  obtain⟨c,ec,qc,kc⟩:=R (.ifs o (aM ts (bv x) (bD kT)).1 (give l a.l) (joinAll out a.f)) ⟨kG aa fa bg,fo.joinAll qa.1.1,fun n hn=>by have:=gk2 n hn;omega⟩ (by simp only[cU,g2];omega) (by simp only[mu,bo];omega);have qc2:=qc.2;simp only[cU,g2]at qc2;obtain⟨d,ed,qd,kd⟩:=R (.elses o xs c.l c.f) ⟨hx.tail,qc.1,fun n hn=>by
   have:=kc (aN-3*eT ts.length (aM ts (bv x) (bD kT)).1-3*eT ts.length xs) (fun n hn=>by have:=gk2 n hn;omega) n hn;have hh:=gk2;have:3*eT ts.length (aM ts (bv x) (bD kT)).1+3*eT ts.length xs<=aN:=by omega
   omega⟩ (by simp only[cU];omega) (by simp only[mu,bo];omega)
  have qd2:=qd.2;simp only[cU]at qd2;refine⟨⟨d.l,d.f,a.e++c.e++d.e⟩,by simp only[elses,abI,jO,ea,g1,ec,ed],⟨qd.1,?_⟩,fun K hk n hn=>?_⟩
  ·simp only[cU,aa9,bo];omega
  ·have:=kd _ (kc _ (gk K hk)) n hn;rw[bo];omega
def Ph{ys:List aB}(R:lG ts rec (mu ts (.ifs o ys l out)))(t:lX ts (.ifs o ys l out))(b:cU ts (.ifs o ys l out)<=aN):∃r,ifs rec o ys l out=some r/\lV ts (.ifs o ys l out) r:=by
 obtain⟨hx,fo,hK⟩:=t;simp only[cU]at b;cases ys with
 |nil=>exact⟨⟨l,out,[]⟩,rfl,⟨fo,by simp only[cU,aaO];omega⟩,fun K hk=>by simpa[o8]using hk⟩
 |cons y ys=>
  obtain⟨h0,ac⟩:=hx.head;have aa:=h0.pos;rw[bo]at b hK;by_cases e:o=64
  ·obtain⟨d,ed,qd,kd⟩:=R (.ifs o ys l out) ⟨hx.tail,fo,fun n hn=>by have:=hK n hn;omega⟩ (by simp only[cU];omega) (by simp only[mu,bo];omega);have qd2:=qd.2;simp only[cU]at qd2;refine⟨⟨d.l,d.f,cJ y 11++d.e⟩,by simp only[ifs,aaq e,abI,jO,ed],⟨qd.1,?_⟩,fun K hk n hn=>?_⟩
   ·simp only[cU,aa9,bo,nh];omega
   ·have:=kd K hk n hn;rw[bo];omega
  ·obtain⟨a,ea,qa,qa2⟩:=R (.branch (o+1) y 2) ⟨h0,ac⟩ (by simp only[cU];omega) (by simp only[mu,bo];omega);have hj:=eC (N:=ts.length) qa.ok.all fo.ok;obtain⟨g1,g2,_⟩:=dW (l:=l) (ks:=a.l) (K:=aN-(3*(hp ts.length y+eT ts.length ys))) (fun n hn=>by have:=hK n hn;omega) ab;have gk:∀K,KB K l->KB (K+a.l.length) (give l a.l):=fun K hk n hn=>by
    obtain⟨m,hm,rfl⟩:=List.mem_map.1 hn;have:=hk m hm;simp only[aa9];omega
   obtain⟨d,ed,qd,kd⟩:=R (.ifs o ys (give l a.l) (joinAll out a.f)) ⟨hx.tail,fo.joinAll qa,fun n hn=>by
    obtain⟨m,hm,rfl⟩:=List.mem_map.1 hn;have:=hK m hm;simp only[aa9];omega⟩ (by simp only[cU,g2];omega) (by simp only[mu,bo];omega)
   have qd2:=qd.2;simp only[cU,g2]at qd2;refine⟨⟨d.l,d.f,a.e++d.e⟩,by simp only[ifs,ZV e,abI,jO,ea,g1,ed],⟨qd.1,?_⟩,fun K hk n hn=>?_⟩
   ·simp only[cU,aa9,bo];omega
   ·have:=kd _ (gk K hk) n hn;rw[bo];omega
variable{h:aB}
def ET(aa:bT ts){slot:Nat}(R:lG ts rec (mu ts (.branch o h slot)))(t:lX ts (.branch o h slot))(b:cU ts (.branch o h slot)<=aN):∃r,branch ts rec o h slot=some r/\lV ts (.branch o h slot) r:=by
 obtain⟨h0,ac⟩:=t;have hn:=h0.next;simp only[cU]at b;obtain⟨a,ea,qa⟩:=R (.inside o (bv h) 0) (bH h0 ac) (by simp only[cU,bz];omega) (by simp only[mu,bz];omega);have qa2:=qa.1.2;rw[bz]at qa2;obtain⟨c,ec,qc⟩:=R (.block o a.f 1) qa.1.1 (by simp only[cU];omega) (by simp only[mu];omega);have qc2:=qc.1.2;obtain⟨g1,g2,g3⟩:=dW (l:=[gz 8 h slot]) (K:=0) (ks:=a.l) (fun n hn=>by simp at hn;subst hn;exact ZR _) ab;obtain⟨g4,g5,g6⟩:=dW g3 (ks:=c.l) ab;have hs:=iM aa qc.1.1 (bD dr);have hl:(give (give [gz 8 h slot] a.l) c.l).length=1:=by rw[g5,g2];rfl
 obtain⟨d,ed,qd,_⟩:=R (.elses o (aM ts c.f (bD dr)).1 (give (give [gz 8 h slot] a.l) c.l) (aM ts c.f (bD dr)).2) ⟨kG aa qc.1.1 bg,dC aa qc.1.1 _,fun n hn=>by have:=g6 n hn;omega⟩ (by simp only[cU,hl];omega) (by simp only[mu];omega);have qd2:=qd.2;simp only[cU,hl]at qd2;refine⟨⟨d.l,d.f,a.e++c.e++d.e⟩,by simp only[branch,abI,jO,ea,ec,g1,g4,ed],qd.1,?_⟩;simp only[aa9];omega
def tM(k slot:Nat)(h:aB):KB 0 [gz k h slot]:=fun n hn=>by simp at hn;subst hn;exact ZR _
def JK(aa:bT ts)(R:lG ts rec (mu ts (.stmt o h)))(t:lX ts (.stmt o h))(b:cU ts (.stmt o h)<=aN):∃r,stmt ts rec o h=some r/\lV ts (.stmt o h) r:=by
 have h0:kS ts h:=t;have hn:=h0.next;simp only[cU]at b;unfold stmt;split
 ·rename_i e;have fa:=bH h0 (h0.lt2 bg e);obtain⟨a,ea,qa⟩:=R (.vrb o (bv h)) fa (by simp only[cU,bz];omega) (by simp only[mu,bz];omega);have qa2:=qa.2;simp only[cU,bz]at qa2;exact⟨a,ea,qa.1,ab⟩
 split
 ·rename_i e;exact R (.branch o h 0) ⟨h0,h0.lt2 bg e⟩ b (by simp only[mu];omega)
 split
 ·rename_i e;have fa:=bH h0 (h0.lt2 bg e);obtain⟨a,ea,qa⟩:=R (.inside o (bv h) 0) fa (by simp only[cU,bz];omega) (by simp only[mu,bz];omega);have qa2:=qa.1.2;rw[bz]at qa2;obtain⟨c,ec,qc⟩:=R (.block o a.f 1) qa.1.1 (by simp only[cU];omega) (by simp only[mu];omega);have qc2:=qc.1.2;obtain⟨g1,g2,g3⟩:=dW (tM 9 0 h) (ks:=a.l) ab;obtain⟨g4,g5,g6⟩:=dW g3 (ks:=c.l) ab;have hl:(give (give [gz 9 h 0] a.l) c.l).length=1:=by rw[g5,g2];rfl
  refine⟨⟨give (give [gz 9 h 0] a.l) c.l,c.f,a.e++c.e⟩,by simp only[abI,jO,ea,ec,g1,g4],qc.1.1,?_⟩;simp only[aa9,hl];omega
 split
 ·obtain⟨a,ea,qa⟩:=R (.block o (bX h) 0) (jk h0) (by simp only[cU,fR];omega) (by simp only[mu,fR];omega);have q2:=qa.2 (by simp[bX]);rw[fR]at q2;exact⟨a,ea,qa.1.1,q2⟩
 split
 ·rename_i e;have fa:=bH h0 (h0.lt2 bg e);have hs:=iM aa fa (bD a8);rw[bz]at hs;have hr:=dC aa fa (bD a8);have hy:rL ts (aM ts (bv h) (bD a8)).1:=kG aa fa bg;obtain⟨a,ea,qa⟩:=R (.line 0 o (aM ts (bv h) (bD a8)).2 0) ⟨hr,ab⟩ (by simp only[cU];omega) (by simp only[mu];omega);have qa2:=qa.2;simp only[cU]at qa2;obtain⟨g1,g2,g3⟩:=dW (tM 10 0 h) (ks:=a.l) ab;have hl:(give [gz 10 h 0] a.l).length=1:=by rw[g2];rfl
  have hj:=qL (N:=ts.length) (fun x hx=>(hy.all x hx).ok) qa.1.ok;have fj:=lJ hy.all qa.1;have ht:=i7 aa fj a8;refine⟨⟨give [gz 10 h 0] a.l,(take ts ((aM ts (bv h) (bD a8)).1.foldl joinH a.f) a8).1,a.e++(take ts ((aM ts (bv h) (bD a8)).1.foldl joinH a.f) a8).2⟩,by simp only[abI,jO,ea,g1],dK aa fj bg,?_⟩;simp only[aa9,hl];omega
 split
 ·rename_i e;have fa:=bH h0 (e.elim (h0.lt2 bg) (h0.lt2 bg));obtain⟨a,ea,qa⟩:=R (.line 0 o (bv h) 0) ⟨fa,ab⟩ (by simp only[cU,bz];omega) (by simp only[mu,bz];omega);have qa2:=qa.2;simp only[cU,bz]at qa2;obtain⟨g1,g2,g3⟩:=dW (tM (if h.text=ew then 12 else 11) 0 h) (ks:=a.l) ab;have hl:(give [gz (if h.text=ew then 12 else 11) h 0] a.l).length=1:=by rw[g2];rfl
  have ht:=i7 aa qa.1 a8;refine⟨⟨give [gz (if h.text=ew then 12 else 11) h 0] a.l,(take ts a.f a8).1,a.e++(take ts a.f a8).2⟩,by simp only[abI,jO,ea,g1],dK aa qa.1 bg,?_⟩;simp only[aa9,hl];omega
 have fh:=jk h0;obtain⟨⟨_,s1⟩,k1⟩:=nz aa fh 7 0;have s2:=s1 (by simp[bX]);unfold Sp at s2;rw[fR]at s2;have ak:=h0.pos;have fa:=iy aa fh 7 0;by_cases e:(named ts (bX h) 7 0).l=[]
 ·refine⟨⟨[],[],(named ts (bX h) 7 0).e⟩,by simp only[aaq e],FN.nil _,?_⟩;simp only[aaO,dO];omega
 ·have aj:=iM aa fa (bD eM);have fs:=dC aa fa (bD eM);have ht:=i7 aa fs su;have f2:=dK aa fs (s:=su) bg;obtain⟨a,ea,qa⟩:=R (.line 0 o (take ts (aM ts (named ts (bX h) 7 0).f (bD eM)).2 su).1 0) ⟨f2,ab⟩ (by simp only[cU];omega) (by simp only[mu];omega);have qa2:=qa.2;simp only[cU]at qa2;obtain⟨g1,g2,g3⟩:=dW (KB.zero k1) (ks:=a.l) ab;obtain⟨c,ec,qc⟩:=R (.sCalls o h (aM ts (named ts (bX h) 7 0).f (bD eM)).1 (give (named ts (bX h) 7 0).l a.l) a.f) ⟨kG aa fa bg,qa.1⟩ (by simp only[cU,g2];omega) (by simp only[mu];omega);have qc2:=qc.2;simp only[cU,g2]at qc2;have ac:=i7 aa qc.1 a8;refine⟨⟨c.l,(take ts c.f a8).1,(named ts (bX h) 7 0).e++(take ts (aM ts (named ts (bX h) 7 0).f (bD eM)).2 su).2++a.e++c.e++(take ts c.f a8).2⟩,by simp only[ZV e,abI,jO,ea,g1,ec],dK aa qc.1 bg,?_⟩;simp only[aa9];omega
variable{top:Bool}
def Nh(aa:bT ts){m:Nat}(hm:64*hp ts.length h+45<m)(R:lG ts rec m)(h0:kS ts h)(b:3*hp ts.length h<=aN):∃r,zy rec top o h=some r/\Bh ts h r:=by
 have hn:=h0.next;cases top with
 |false=>exact R (.stmt o h) h0 b (by simp only[mu];omega)
 |true=>
  show ∃r,qj rec o h=some r/\_;unfold qj;split
  ·rename_i e;have fa:=bH h0 (h0.lt2 bg e);obtain⟨a,ea,qa⟩:=R (.vrb o (bv h)) fa (by simp only[cU,bz];omega) (by simp only[mu,bz];omega);have qa2:=qa.2;simp only[cU,bz]at qa2;exact⟨a,ea,qa.1,ab⟩
  split
  ·rename_i e;have fa:=bH h0 (h0.lt2 bg e);obtain⟨a,ea,qa⟩:=R (.function o (bv h)) fa (by simp only[cU,bz];omega) (by simp only[mu,bz];omega);have qa2:=qa.2;simp only[cU,bz]at qa2;exact⟨a,ea,qa.1,ab⟩
  ·exact⟨_,rfl,Bh.fail h0 10⟩
def Mw(aa:bT ts){f:ar}(R:lG ts rec (mu ts (.seqL top o f l out)))(t:lX ts (.seqL top o f l out))(b:cU ts (.seqL top o f l out)<=aN):∃r,seqL ts rec top o f l out=some r/\lV ts (.seqL top o f l out) r:=by
 obtain⟨fn,fo⟩:=t;simp only[cU]at b;have hh:=hQ aa fn (N:=ts.length);have hm:=fun h (hm:h∈bE ts f)=>b9 aa fn hm;unfold seqL;split
 ·refine⟨⟨l,out,[]⟩,rfl,fo,?_⟩;simp only[cU,aaO];omega
 ·rename_i h hs eH;rw[eH]at hh hm;rw[bo]at hh;have h0:=hm h (.head _);have ak:=h0.pos;have ac:=fun x (hx:x∈hs)=>hm x (.tail _ hx);have aj:=fun{z:ar}=>qL (N:=ts.length) (f:=z) (fun x hx=>(ac x hx).ok);split
  ·have hj:=aj cq.nil;rw[dO]at hj;have am:=jF (N:=ts.length) fo.ok.all (a:=h.at') h0.ok;have ao:fe ts.length (joinH out h)<=fe ts.length out+hp ts.length h:=am;obtain⟨a,ea,qa⟩:=R (.seqL top o (hs.foldl joinH []) l (joinH out h)) ⟨lJ ac (FN.nil _),fo.join h0.le h0.ok⟩ (by simp only[cU];omega) (by simp only[mu];omega);have qa2:=qa.2;simp only[cU]at qa2;refine⟨a,ea,qa.1,?_⟩;simp only[cU];omega
  ·obtain⟨a,ea,qa,qa2⟩:=Nh (top:=top) (o:=o) aa (m:=mu ts (.seqL top o f l out)) (by simp only[mu];omega) R h0 ab;have c1:=tS (l:=l++a.l) (by rw[aa9];omega);have an:=eC (N:=ts.length) qa.ok.all cq.nil;rw[dO]at an;have f0:=(FN.nil ts.length).joinAll qa;have hj:=aj f0.ok;obtain⟨c,ec,qc⟩:=R (.seqL top o (hs.foldl joinH (joinAll [] a.f)) (l++a.l) out) ⟨lJ ac f0,fo⟩ (by simp only[cU,aa9];omega) (by simp only[mu];omega);have qc2:=qc.2;simp only[cU,aa9]at qc2;refine⟨⟨c.l,c.f,a.e++c.e⟩,by simp only[abI,jO,ea,c1,ec],qc.1,?_⟩;simp only[cU,aa9];omega
def G2(aa:bT ts):∀n,lG ts (run ts n) n
 |0=>fun c _ _ h=>absurd h (Nat.not_lt_zero _)
 |n+1=>fun c t b h=>by
  have R:lG ts (run ts n) (mu ts c):=fun d td bd hd=>G2 aa n d td bd ab;show ∃r,step ts (run ts n) c=some r/\_;cases c with
  |line=>exact Kl (m:=0) R t b
  |lineL=>exact Ic aa R t b
  |lineO=>exact HO R t b
  |unary=>exact HT aa R t b
  |unaryH=>exact Ez aa R t b
  |calls=>exact Ih R t b
  |inside=>exact Fh aa R t b
  |listed=>exact Ff aa R t b
  |listL=>exact Jm aa R t b
  |item=>exact Ll aa R t b
  |behind=>exact F0 aa R t b
  |vrb=>exact Be aa R t b
  |function=>exact AX aa R t b
  |block=>exact Iu aa R t b
  |seqL=>exact Mw aa R t b
  |stmt=>exact JK aa R t b
  |sCalls=>exact FZ R t b
  |branch=>exact ET aa R t b
  |elses=>exact H5 aa R t b
  |ifs=>exact Ph R t b
end
end Syn
