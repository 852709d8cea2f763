import Derived.Test.YtfaclfkpnmcmlaaGreatDoorS10
import Derived.Test.YtfaclfkpnmcmlaaGreatDoorS15
import Derived.MakeChecks
import Derived.OpenShut
set_option maxHeartbeats 8000000
set_option linter.all false
namespace Syn
open Dg
section
variable {c:cg} {ts:List Tok}
theorem V0(p:Nat):nx c ts p<=nx c ts (p+1):=by
 unfold nx;cases h:ts.drop p with
 |nil=>
  have e:ts.drop (p+1)=[]:=by rw[<-Tn,h];rfl
  rw[e];simp[ug]
 |cons t l=>
  have e:ts.drop (p+1)=l:=by rw[<-Tn,h];rfl
  rw[e];simp only[ug];split
  ·have:=(oM c l (p+1)).1;omega
  ·exact R7 _
theorem Vw:∀(l:List Tok) (i:Nat),ug c l i<=i+l.length
 | [],i=>R7 _
 |t::l,i=>by
  have:=Vw l (i+1);simp only[ug,SB];split<;>omega
theorem VG{p:Nat}(h:p<=ts.length):nx c ts p<=ts.length:=by
 have:=Vw (c:=c) (ts.drop p) p;rw[TZ]at this;unfold nx;omega
def We(c:cg)(ts:List Tok)(p:Option Nat)(e:List (Nat×Int))(t:Nat):Prop:=
 (e=[]/\∃j,p=some j/\nx c ts j=t)\/(p=none/\∃k,e=[(k,(t:Int))]/\nx c ts t=t/\(k=10\/k=11/\t<ts.length))
def nN(c:cg)(ts:List Tok)(s p:Option Nat)(e:List (Nat×Int)):Prop:=
 match s with
 |none=>p=none/\e=[]
 |some s=>∃t,We c ts p e t/\nx c ts s<=t/\(s<=ts.length->t<=ts.length/\∀j,p=some j->j<=ts.length)
def Wc(c:cg)(ts:List Tok)(m:Nat)(p:Option Nat)(e:List (Nat×Int)):Prop:=∀t,We c ts p e t->t<m
def Wh(c:cg)(ts:List Tok)(m:Nat)(p:Option Nat):Prop:=∀j,p=some j->nx c ts j<m
theorem We.det{p:Option Nat}{e:List (Nat×Int)}{t u:Nat}(h:We c ts p e t)(k:We c ts p e u):t=u:=by
 rcases h with ⟨h1,j,h2,h3⟩|⟨h1,x,h2,_⟩<;>rcases k with ⟨k1,i,k2,k3⟩|⟨k1,y,k2,_⟩
 ·rw[h2]at k2;cases k2;omega
 ·rw[h2]at k1;cases k1
 ·rw[k2]at h1;cases h1
 ·rw[h2]at k2;injection k2 with k2;injection k2 with _ k2;omega
theorem nN.self(p:Option Nat):nN c ts p p []:=by
 cases p with
 |none=>exact⟨rfl,rfl⟩
 |some j=>exact⟨_,.inl ⟨rfl,j,rfl,rfl⟩,R7 _,fun h=>⟨VG h,fun _ e=>by cases e;exact h⟩⟩
theorem nN.err{i k:Nat}(h:nx c ts i=i)(hk:k=10\/k=11/\i<ts.length):nN c ts (some i) none [(k,(i:Int))]:=⟨i,.inr ⟨rfl,k,rfl,h,hk⟩,Nat.le_of_eq h,fun h=>⟨h,fun j e=>by cases e⟩⟩
theorem nN.ofN{s p:Option Nat}{e:List (Nat×Int)}(h:nN c ts (s.map (nx c ts)) p e):nN c ts s p e:=by
 cases s with
 |none=>exact h
 |some s=>obtain⟨t,h1,h2,h3⟩:=h;rw[wT]at h2;exact⟨t,h1,h2,fun h=>h3 (VG h)⟩
theorem nN.up{s p:Option Nat}{e:List (Nat×Int)}(hs:Lt ts.length s)(h:nN c ts (s.map (·+1)) p e):nN c ts s p e:=by
 cases s with
 |none=>exact h
 |some s=>obtain⟨t,h1,h2,h3⟩:=h;exact⟨t,h1,R8 (V0 s) h2,fun _=>h3 (hs s rfl)⟩
theorem nN.next{i:Nat}(hi:i<ts.length):nN c ts (some i) (some (i+1)) []:=nN.up (s:=some i) (Lt.of hi) (nN.self (some (i+1)))
theorem nN.look{m:Nat}{s p:Option Nat}{e:List (Nat×Int)}(h:nN c ts s p e)(hb:Wc c ts m p e):Wh c ts m s:=by
 intro j hj;subst hj;obtain⟨t,h1,h2,_⟩:=h;exact TM h2 (hb t h1)
theorem nN.seq{s p q:Option Nat}{e f:List (Nat×Int)}(h:nN c ts s p e)(k:nN c ts p q f):nN c ts s q (e++f):=by
 cases s with
 |none=>
  obtain⟨rfl,rfl⟩:=h;exact k
 |some s=>
  obtain⟨t,h1,h2,h4⟩:=h;rcases h1 with ⟨rfl,j,rfl,h3⟩|⟨rfl,x,rfl,h3⟩
  ·obtain⟨u,k1,k2,k3⟩:=k;exact⟨u,k1,Vi,fun h=>k3 ((h4 h).2 j rfl)⟩
  ·obtain⟨rfl,rfl⟩:=k;exact⟨t,.inr ⟨rfl,x,rfl,h3⟩,h2,fun h=>⟨(h4 h).1,fun j e=>by cases e⟩⟩
theorem nN.be1{m:Nat}{s p q:Option Nat}{e f:List (Nat×Int)}(h:nN c ts s p e)(k:nN c ts p q f)(hb:Wc c ts m q (e++f)):Wc c ts m p e:=by
 intro t ht;rcases ht with ⟨rfl,j,rfl,h3⟩|⟨rfl,x,rfl,h3⟩
 ·obtain⟨u,k1,k2,_⟩:=k;have:=hb u k1;omega
 ·obtain⟨rfl,rfl⟩:=k;exact hb t (.inr ⟨rfl,x,rfl,h3⟩)
theorem nN.be2{m:Nat}{s p q:Option Nat}{e f:List (Nat×Int)}(h:nN c ts s p e)(k:nN c ts p q f)(hb:Wc c ts m q (e++f)):Wc c ts m q f:=by
 intro t ht;cases p with
 |none=>
  obtain⟨rfl,rfl⟩:=k;rcases ht with ⟨_,j,hj,_⟩|⟨_,x,hx,_⟩
  ·cases hj
  ·cases hx
 |some j=>
  have he:e=[]:=by
   cases s with
   |none=>exact h.2
   |some s=>
    obtain⟨_,h1,_⟩:=h;rcases h1 with ⟨h1,_⟩|⟨h1,_⟩
    ·exact h1
    ·cases h1
  subst he;exact hb t ht
theorem nN.side{x p g:Option Nat}{e:List (Nat×Int)}(hx:x=none\/g=none)(h:nN c ts x p e):nN c ts (x.or g) (p.or g) e/\(p=none\/g=none):=by
 rcases hx with rfl|rfl
 ·obtain⟨rfl,rfl⟩:=h;exact⟨nN.self g,.inl rfl⟩
 ·rw[Option.or_none,Option.or_none];exact⟨h,.inr rfl⟩
theorem Wc.side{m:Nat}{x p g:Option Nat}{e:List (Nat×Int)}(hx:x=none\/g=none)(h:nN c ts x p e)(hb:Wc c ts m (p.or g) e):Wc c ts m p e/\Wh c ts m g:=by
 rcases hx with rfl|rfl
 ·obtain⟨rfl,rfl⟩:=h;refine⟨fun t ht=>?_,(nN.self g).look hb⟩;rcases ht with ⟨_,j,hj,_⟩|⟨_,x,hx,_⟩
  ·cases hj
  ·cases hx
 ·rw[Option.or_none]at hb;exact⟨hb,fun j hj=>by cases hj⟩
theorem UI{x y:Option Nat}(h:x=none\/y=none):x.or y=y.or x:=by
 rcases h with rfl|rfl<;>simp
theorem Uw(p:Option Nat)(is:Nat->Bool):pIf c ts p is=none\/(pIf c ts p fun i=>!is i)=none:=by
 unfold pIf;cases p.map (nx c ts)with
 |none=>exact .inl rfl
 |some i=>cases h:is i<;>simp[Option.filter,h]
theorem UR(p:Option Nat)(is:Nat->Bool):(pIf c ts p is).or (pIf c ts p fun i=>!is i)=p.map (nx c ts):=by
 unfold pIf;cases p.map (nx c ts)with
 |none=>rfl
 |some i=>cases h:is i<;>simp[Option.filter,h]
theorem UN(p:Option Nat)(is:Nat->Bool):(pIf c ts p fun i=>!is i).or (pIf c ts p is)=p.map (nx c ts):=by
 rw[UI ((Uw p is).symm),UR]
theorem nN.fork1{p q:Option Nat}{e:List (Nat×Int)}{s:bM}(hs:s≠[])(h:nN c ts (((pIf c ts p (isX ts s)).map (·+1)).or (pIf c ts p fun i=>!isX ts s i)) q e):nN c ts p q e:=by
 refine nN.ofN ?_;rw[<-UR p (isX ts s)];have hl:=Ca (c:=c) (ts:=ts) (p:=p) hs;rcases Uw (c:=c) (ts:=ts) p (isX ts s)with x|x
 ·rw[x]at h |-;exact h
 ·rw[x]at h |-;rw[Option.or_none]at h |-;exact nN.up hl h
theorem U4{i k kd s:Nat}{is:Nat->Bool}(h:pIf c ts (bC ts c (some i) kd s).p is=some k):i<=k:=by
 have h0:=EN c ts i;unfold bC at h;simp only[So]at h;split at h
 ·cases h
 ·unfold pIf at h;have h:=(Option.filter_eq_some_iff.1 h).1;simp only[So,Sc]at h;have:=EN c ts (nx c ts i+1);omega
def Wj(c:cg)(ts:List Tok)(p:Option Nat):Prop:=∀j,p=some j->nx c ts j=j
theorem UY(p:Option Nat)(is:Nat->Bool):Wj c ts (pIf c ts p is):=by
 intro j h;unfold pIf at h;have h:=(Option.filter_eq_some_iff.1 h).1;cases p with
 |none=>cases h
 |some i=>cases h;exact wT c ts i
theorem U1(p:Option Nat):Wj c ts (p.map (nx c ts)):=by
 intro j h;cases p with
 |none=>cases h
 |some i=>cases h;exact wT c ts i
theorem Uu(p:Option Nat){s:bM}(hs:s≠[]):nN c ts p (cX ts c p s).1 (cX ts c p s).2:=by
 refine nN.ofN ?_;unfold cX;have hn:=U1 (c:=c) (ts:=ts) p;generalize p.map (nx c ts)=w at hn |-;cases w with
 |none=>exact⟨rfl,rfl⟩
 |some i=>
  simp only;split
  ·rename_i h;exact nN.next (kC (by rw[h];exact hs))
  ·exact nN.err (hn i rfl) (.inl rfl)
theorem UB(p:Option Nat)(k s:Nat):nN c ts p (bC ts c p k s).p (bC ts c p k s).e:=by
 refine nN.ofN ?_;unfold bC;have hn:=U1 (c:=c) (ts:=ts) p;generalize p.map (nx c ts)=w at hn |-;cases w with
 |none=>exact⟨rfl,rfl⟩
 |some i=>
  simp only;split
  ·exact nN.err (hn i rfl) (.inl rfl)
  ·rename_i h;exact nN.next (DJ fun h2=>h (.inl (by rw[h2];decide)))
theorem US(p:Option Nat)(s:Nat):nN c ts p (gE ts c p s).p (gE ts c p s).e:=by
 refine nN.ofN ?_;unfold gE;have hn:=U1 (c:=c) (ts:=ts) p;generalize p.map (nx c ts)=w at hn |-;cases w with
 |none=>exact⟨rfl,rfl⟩
 |some i=>
  simp only;split
  ·exact nN.err (hn i rfl) (.inl rfl)
  ·rename_i h;exact nN.next (kC fun h2=>h (by rw[h2];exact⟨by decide,by decide⟩))
end
section
variable {c:cg} {ts us:List Tok} {m:Nat}
def Wb(m:Nat)(ts us:List Tok):Prop:=(∀i,i<m->us[i]?=ts[i]?)/\m<=ts.length/\m<=us.length
theorem Wb.head(h:Wb m ts us){i:Nat}(hi:i<m)(d:T):cL us (i,d)=cL ts (i,d):=by unfold cL;rw[h.1 i hi]
theorem Wb.X(h:Wb m ts us){i:Nat}(hi:i<m):X us i=X ts i:=by unfold Syn.X;rw[h.head hi]
theorem Wb.K(h:Wb m ts us){i:Nat}(hi:i<m):K us i=K ts i:=by unfold Syn.K;rw[h.head hi]
theorem Vq:∀(l k:List Tok) (i:Nat),(∀j,i+j<=ug c l i->k[j]?=l[j]?)->ug c l i<i+l.length->ug c k i=ug c l i
 | [],k,i,_,h=>by simp[ug]at h
 |t::l,k,i,he,h=>by
  have aa:=(oM c (t::l) i).1;cases k with
  |nil=>have:=he 0 Vi;simp at this
  |cons u k=>
   have h0:=he 0 Vi;simp only[TC,Sc]at h0;subst h0;simp only[ug]at he h |-;split
   ·rfl
   ·rename_i hc;rw[Sb hc]at h he;refine Vq l k (i+1) (fun j hj=>?_) (by rw[SB]at h;omega);have:=he (j+1) Vi;simpa using this
theorem Wb.nx(h:Wb m ts us){p:Nat}(hp:Syn.nx c ts p<m):Syn.nx c us p=Syn.nx c ts p:=by
 have aa:=EN c ts p;unfold Syn.nx at *;refine Vq _ _ p (fun j hj=>?_) (by rw[TZ];have:=h.2.1;omega);rw[Sh,Sh];exact h.1 _ Vi
theorem Wb.map(h:Wb m ts us){p:Option Nat}(hp:Wh c ts m p):p.map (Syn.nx c us)=p.map (Syn.nx c ts):=by
 cases p with
 |none=>rfl
 |some j=>rw[So,So,h.nx (hp j rfl)]
theorem Wb.pIf(h:Wb m ts us){p:Option Nat}(hp:Wh c ts m p){is is':Nat->Bool}(hi:∀i,i<m->is' i=is i):Syn.pIf c us p is'=Syn.pIf c ts p is:=by
 unfold Syn.pIf;rw[h.map hp];cases p with
 |none=>rfl
 |some j=>
  have:=hi _ (hp j rfl);simp only[So,Option.filter,this]
theorem Wb.isX(h:Wb m ts us)(s:bM)(i:Nat)(hi:i<m):Syn.isX us s i=Syn.isX ts s i:=by unfold Syn.isX;rw[h.X hi]
theorem Wb.isXn(h:Wb m ts us)(s:bM)(i:Nat)(hi:i<m):(!Syn.isX us s i)=!Syn.isX ts s i:=by rw[h.isX s i hi]
theorem Wb.isOp(h:Wb m ts us)(k i:Nat)(hi:i<m):nu us k i=nu ts k i:=by unfold nu;rw[h.X hi,h.K hi]
theorem Wb.isOpn(h:Wb m ts us)(k i:Nat)(hi:i<m):(!nu us k i)=!nu ts k i:=by rw[h.isOp k i hi]
theorem Wb.pEnd(h:Wb m ts us)(top:Bool){i:Nat}(hi:i<m):Syn.pEnd us top i=Syn.pEnd ts top i:=by
 have:=h.2;cases top
 ·show decide (Syn.X us i=uo)=decide (Syn.X ts i=uo);rw[h.X hi]
 ·show decide (i=us.length)=decide (i=ts.length);rw[Ug Vi,Ug Vi]
theorem Wb.take(h:Wb m ts us){p:Option Nat}(hp:Wh c ts m p)(s:bM):cX us c p s=cX ts c p s:=by
 unfold cX;rw[h.map hp];cases p with
 |none=>rfl
 |some j=>simp only[So,h.X (hp j rfl)]
theorem Wb.named(h:Wb m ts us){p:Option Nat}(hp:Wh c ts m p)(k s:Nat):bC us c p k s=bC ts c p k s:=by
 unfold bC;rw[h.map hp];cases p with
 |none=>rfl
 |some j=>simp only[So,h.X (hp j rfl),h.K (hp j rfl)]
theorem Wb.typed(h:Wb m ts us){p:Option Nat}(hp:Wh c ts m p)(s:Nat):gE us c p s=gE ts c p s:=by
 unfold gE;rw[h.map hp];cases p with
 |none=>rfl
 |some j=>simp only[So,h.X (hp j rfl)]
def Wl:jj->Option Nat
 | .line _ _ p _=>p
 | .lineL _ _ _ _ _ g out=>g.or out
 | .lineO _ _ _ op _ g=>op.or g
 | .unary _ p _=>p
 | .unaryH _ i _=>i
 | .calls _ _ _ x _ g=>x.or g
 | .inside _ p _=>p
 | .listed _ _ p=>p
 | .listL _ _ _ g fin=>g.or fin
 | .item _ _ p=>p
 | .behind _ _ p _ _=>p
 | .vrb _ p=>p
 | .function _ p=>p
 | .block _ p _=>p
 | .seqL _ _ p _ out=>p.or out
 | .stmt _ i=>i
 | .sCalls _ _ x _ g=>x.or g
 | .branch _ i _=>i
 | .elses _ x _ out=>x.or out
 | .ifs _ y _ out=>y.or out
def Wm(c:cg)(ts:List Tok):jj->Prop
 | .lineL _ _ _ _ _ g out=>g=none\/out=none
 | .lineO _ _ _ op _ g=>(op=none\/g=none)/\Wj c ts op/\Lt ts.length op
 | .unaryH _ i _=>Wj c ts i
 | .calls _ i _ x _ g=>(x=none\/g=none)/\Wj c ts x/\∀k,x=some k->∃j,i=some j/\j<=k
 | .listL _ _ _ g fin=>g=none\/fin=none
 | .behind _ _ _ s _=>s≠[]
 | .seqL _ _ p _ out=>p=none\/out=none
 | .stmt _ i=>Wj c ts i
 | .sCalls _ i x _ g=>(x=none\/g=none)/\Wj c ts x/\∀k,x=some k->∃j,i=some j/\j<=k
 | .branch _ i _=>Lt ts.length i
 | .elses _ x _ out=>(x=none\/out=none)/\Lt ts.length x
 | .ifs _ y _ out=>(y=none\/out=none)/\Wj c ts y/\Lt ts.length y
 |_=>True
theorem Wa{α β:Type}{a:Option α}{f:α->Option β}{x:α}{q:β}(h:a=some x)(k:f x=some q):(a >>= f)=some q:=by rw[h];exact k
theorem Va{r r':o3}(A:Wb m ts us)(H:∀x q,r x=some q->Wm c ts x->nN c ts (Wl x) q.p q.e/\(Wc c ts m q.p q.e->r' x=some q)):∀x q,aN c ts r x=some q->Wm c ts x->nN c ts (Wl x) q.p q.e/\(Wc c ts m q.p q.e->aN c us r' x=some q):=by
 intro x q e w;cases x with
 |line k o p slot=>
  simp only[aN,pd]at e |-;split at e
  ·rename_i hk;obtain⟨h1,h2⟩:=H _ _ e trivial;exact⟨h1,fun hb=>by rw[SI hk];exact h2 hb⟩
  ·rename_i hk;obtain⟨a,ha,e⟩:=gh e;obtain⟨b,hb,e⟩:=gh e;cases e
   obtain⟨a1,a2⟩:=H _ _ ha trivial;obtain⟨b1,b2⟩:=H _ _ hb (.inr rfl);have b1:nN c ts (a.p.or none) b.p b.e:=b1;rw[Option.or_none]at b1;refine⟨nN.seq a1 b1,fun z=>?_⟩;rw[Sb hk];exact Wa (a2 (nN.be1 a1 b1 z)) (Wa (b2 (nN.be2 a1 b1 z)) rfl)
 |lineL k o slot first l g out=>
  simp only[aN,nH]at e |-;cases g with
  |none=>cases e;exact⟨nN.self out,fun _=>rfl⟩
  |some p=>
   obtain rfl:out=none:=w.resolve_left (by simp);simp only at e |-;split at e
   ·rename_i hk;cases e;exact⟨nN.self (some p),fun _=>by rw[SI hk]⟩
   ·rename_i hk;obtain⟨a,ha,e⟩:=gh e;obtain⟨b,hb,e⟩:=gh e;cases e
    obtain⟨a1,a2⟩:=H _ _ ha ⟨.inr rfl,UY _ _,EQ⟩;have a1:nN c ts ((pIf c ts (some p) (nu ts k)).or none) a.p a.e:=a1;rw[Option.or_none]at a1;have x:=Uw (c:=c) (ts:=ts) (some p) (nu ts k);obtain⟨s1,s2⟩:=nN.side x a1;rw[UR]at s1;have s1:=s1.ofN;obtain⟨b1,b2⟩:=H _ _ hb s2;have b1:nN c ts (a.p.or (pIf c ts (some p) fun i=>!nu ts k i)) b.p b.e:=b1;have E:=s1.seq b1;refine⟨E,fun z=>?_⟩;have lo:=E.look z;rw[Sb hk,A.pIf lo (A.isOp k),A.pIf lo (A.isOpn k)];exact Wa (a2 (Wc.side x a1 (s1.be1 b1 z)).1) (Wa (b2 (s1.be2 b1 z)) rfl)
 |lineO k o slot op l g=>
  simp only[aN,sE]at e |-;cases op with
  |none=>cases e;exact⟨nN.self g,fun _=>rfl⟩
  |some i=>
   obtain rfl:g=none:=w.1.resolve_left (by simp);obtain⟨a,ha,e⟩:=gh e;cases e
   obtain⟨a1,a2⟩:=H _ _ ha trivial;have a1:nN c ts (some i) a.p a.e:=nN.up (s:=some i) w.2.2 a1;refine⟨a1,fun z=>?_⟩;have hi:=a1.look z i rfl;rw[w.2.1 i rfl]at hi;simp only[A.X hi];exact Wa (a2 z) rfl
 |unary o p slot=>
  have e:r (.unaryH o (p.map (nx c ts)) slot)=some q:=e;obtain⟨h1,h2⟩:=H _ _ e (U1 p);have h1:nN c ts p q.p q.e:=nN.ofN h1;refine⟨h1,fun z=>?_⟩;simp only[aN,pB];rw[A.map (h1.look z)];exact h2 z
 |unaryH o i slot=>
  simp only[aN,fU]at e |-;cases i with
  |none=>cases e;exact⟨⟨rfl,rfl⟩,fun _=>rfl⟩
  |some i=>
   have hn:=w i rfl;have G:∀{p e'},nN c ts (some i) p e'->Wc c ts m p e'->i<m:=fun E z=>by have:=E.look z i rfl;rwa [hn]at this
   simp only at e |-;split at e
   ·rename_i h1;have hl:i<ts.length:=kC (by rcases h1 with h|h<;>rw[h]<;>decide);split at e
    ·rename_i h2;cases e
     have E:nN c ts (some i) none [(11,(i:Int))]:=nN.err hn (.inr ⟨rfl,hl⟩);exact⟨E,fun z=>by simp only[A.X (G E z),SI h1,SI h2]⟩
    ·rename_i h2;obtain⟨a,ha,e⟩:=gh e;cases e
     obtain⟨a1,a2⟩:=H _ _ ha trivial;have E:nN c ts (some i) a.p a.e:=nN.up (s:=some i) (Lt.of hl) a1;refine⟨E,fun z=>?_⟩;simp only[A.X (G E z),SI h1,Sb h2];exact Wa (a2 z) rfl
   ·rename_i h1;split at e
    ·rename_i h2;obtain⟨a1,a2⟩:=H _ _ e trivial;refine⟨a1,fun z=>?_⟩;simp only[A.X (G a1 z),Sb h1,SI h2];exact a2 z
    ·rename_i h2;split at e
     ·rename_i h3;cases e
      have E:nN c ts (some i) (some (i+1)) []:=nN.next (DJ (by rw[h3];decide));exact⟨E,fun z=>by simp only[A.X (G E z),A.K (G E z),Sb h1,Sb h2,SI h3]⟩
     ·rename_i h3;split at e
      ·rename_i h4;cases e
       have E:nN c ts (some i) (some (i+1)) []:=nN.next (kC (by rcases h4 with h|h<;>rw[h]<;>decide));exact⟨E,fun z=>by simp only[A.X (G E z),A.K (G E z),Sb h1,Sb h2,Sb h3,SI h4]⟩
      ·rename_i h4;split at e
       ·rename_i h5;cases e
        have E:nN c ts (some i) (some (i+1)) []:=nN.next (kC (by rw[h5];decide));exact⟨E,fun z=>by simp only[A.X (G E z),A.K (G E z),Sb h1,Sb h2,Sb h3,Sb h4,SI h5]⟩
       ·rename_i h5;obtain⟨b,hb,e⟩:=gh e;cases e
        have n1:=UB (c:=c) (ts:=ts) (some i) 18 slot;obtain⟨b1,b2⟩:=H _ _ hb ⟨Uw _ _,UY _ _,fun k hk=>⟨i,rfl,U4 hk⟩⟩;have b1:nN c ts ((pIf c ts (bC ts c (some i) 18 slot).p (isX ts hZ)).or (pIf c ts (bC ts c (some i) 18 slot).p fun i=>!isX ts hZ i)) b.p b.e:=b1;rw[UR]at b1;have b1:=b1.ofN;have E:=n1.seq b1;refine⟨E,fun z=>?_⟩;have hi:=G E z;have l2:=b1.look (n1.be2 b1 z);simp only[A.X hi,A.K hi,Sb h1,Sb h2,Sb h3,Sb h4,Sb h5,A.named (E.look z)];rw[A.pIf l2 (A.isX hZ),A.pIf l2 (A.isXn hZ)];exact Wa (b2 (n1.be2 b1 z)) rfl
 |calls o i slot x names g=>
  simp only[aN,nC]at e |-;obtain⟨w1,w2,w3⟩:=w;cases x with
  |none=>
   have hq:q=⟨names,g,[]⟩:=by cases i<;>(cases e;rfl)
   subst hq;exact⟨nN.self g,fun _=>by cases i<;>rfl⟩
  |some k=>
   obtain⟨j,rfl,hj⟩:=w3 k rfl;obtain rfl:g=none:=w1.resolve_left (by simp);obtain⟨a,ha,e⟩:=gh e;cases e
   obtain⟨a1,a2⟩:=H _ _ ha trivial;refine⟨a1,fun z=>?_⟩;have hk:=nN.look a1 z k rfl;rw[w2 k rfl]at hk;simp only[A.X (show j<m by omega)];exact Wa (a2 z) rfl
 |inside o p slot=>
  simp only[aN,jL]at e |-;cases p with
  |none=>cases e;exact⟨⟨rfl,rfl⟩,fun _=>rfl⟩
  |some p=>
   simp only[So]at e |-;have hn:=wT c ts p;split at e
   ·rename_i h1;cases e
    have E:nN c ts (some p) none [(10,((nx c ts p:Nat):Int))]:=nN.ofN (s:=some p) (nN.err hn (.inl rfl));exact⟨E,fun z=>by have hi:=E.look z p rfl;simp only[A.nx hi,A.X hi,SI h1]⟩
   ·rename_i h1;have hl:nx c ts p<ts.length:=kC (by rw[Classical.not_not.1 h1];decide);split at e
    ·rename_i h2;cases e
     have E:nN c ts (some p) none [(11,((nx c ts p:Nat):Int))]:=nN.ofN (s:=some p) (nN.err hn (.inr ⟨rfl,hl⟩));exact⟨E,fun z=>by have hi:=E.look z p rfl;simp only[A.nx hi,A.X hi,Sb h1,SI h2]⟩
    ·rename_i h2;obtain⟨a,ha,e⟩:=gh e;cases e
     obtain⟨a1,a2⟩:=H _ _ ha trivial;have a1:nN c ts (some p) a.p a.e:=nN.ofN (s:=some p) (nN.up (s:=some (nx c ts p)) (Lt.of hl) a1);have t1:=Uu (c:=c) (ts:=ts) a.p (s:=iI) Vm;have E:=a1.seq t1;refine⟨E,fun z=>?_⟩;have hi:=E.look z p rfl;simp only[A.nx hi,A.X hi,Sb h1,Sb h2];refine Wa (a2 (a1.be1 t1 z)) ?_;simp only[A.take (t1.look (a1.be2 t1 z))]
 |listed par o p=>
  simp only[aN,jI]at e |-;cases p with
  |none=>cases e;exact⟨⟨rfl,rfl⟩,fun _=>rfl⟩
  |some p=>
   simp only[So]at e |-;have hn:=wT c ts p;split at e
   ·rename_i h1;cases e
    have E:nN c ts (some p) none [(10,((nx c ts p:Nat):Int))]:=nN.ofN (s:=some p) (nN.err hn (.inl rfl));exact⟨E,fun z=>by have hi:=E.look z p rfl;simp only[A.nx hi,A.X hi,SI h1]⟩
   ·rename_i h1;have hl:nx c ts p<ts.length:=kC (by rw[Classical.not_not.1 h1];decide);split at e
    ·rename_i h2;cases e
     have E:nN c ts (some p) none [(11,((nx c ts p:Nat):Int))]:=nN.ofN (s:=some p) (nN.err hn (.inr ⟨rfl,hl⟩));exact⟨E,fun z=>by have hi:=E.look z p rfl;simp only[A.nx hi,A.X hi,Sb h1,SI h2]⟩
    ·rename_i h2;obtain⟨a,ha,e⟩:=gh e;cases e
     obtain⟨a1,a2⟩:=H _ _ ha (Uw _ _).symm;have a1:nN c ts ((pIf c ts (some (nx c ts p+1)) fun i=>!isX ts iI i).or (pIf c ts (some (nx c ts p+1)) (isX ts iI))) a.p a.e:=a1;rw[UN]at a1;have a0:=a1.ofN;have a1:nN c ts (some p) a.p a.e:=nN.ofN (s:=some p) (nN.up (s:=some (nx c ts p)) (Lt.of hl) a0);have t1:=Uu (c:=c) (ts:=ts) a.p (s:=iI) Vm;have E:=a1.seq t1;refine⟨E,fun z=>?_⟩;have hi:=E.look z p rfl;have lo:=a0.look (a1.be1 t1 z);simp only[A.nx hi,A.X hi,Sb h1,Sb h2];rw[A.pIf lo (A.isXn iI),A.pIf lo (A.isX iI)];refine Wa (a2 (a1.be1 t1 z)) ?_;simp only[A.take (t1.look (a1.be2 t1 z))]
 |listL par o l g fin=>
  simp only[aN,tL]at e |-;cases g with
  |none=>cases e;exact⟨nN.self fin,fun _=>rfl⟩
  |some p=>
   obtain rfl:fin=none:=w.resolve_left (by simp);obtain⟨a,ha,e⟩:=gh e;obtain⟨b,hb,e⟩:=gh e;cases e
   obtain⟨a1,a2⟩:=H _ _ ha trivial;obtain⟨b1,b2⟩:=H _ _ hb ((Uw (c:=c) (ts:=ts) a.p (isX ts cd)).imp (fun h=>by rw[h];rfl) id);have b1:nN c ts a.p b.p b.e:=nN.fork1 (s:=cd) Vm b1;have E:=nN.seq a1 b1;refine⟨E,fun z=>?_⟩;have l2:=b1.look (nN.be2 a1 b1 z);refine Wa (a2 (nN.be1 a1 b1 z)) ?_;simp only[A.pIf l2 (A.isX cd),A.pIf l2 (A.isXn cd)];exact Wa (b2 (nN.be2 a1 b1 z)) rfl
 |item par o p=>
  simp only[aN,sH]at e |-;cases par with
  |true=>
   simp only[R9]at e |-;cases e
   have n1:=UB (c:=c) (ts:=ts) p 4 0;have t1:=Uu (c:=c) (ts:=ts) (bC ts c p 4 0).p (s:=bS) Vm;have E1:=n1.seq t1;have y1:=US (c:=c) (ts:=ts) (cX ts c (bC ts c p 4 0).p bS).1 0;have E:=E1.seq y1;refine⟨E,fun z=>?_⟩;have z1:=E1.be1 y1 z;rw[A.named (E.look z),A.take (t1.look (n1.be2 t1 z1)),A.typed (y1.look (E1.be2 y1 z))]
  |false=>
   obtain⟨h1,h2⟩:=H _ _ e trivial;exact⟨h1,fun z=>h2 z⟩
 |behind typ o p sign slot=>
  simp only[aN,lq]at e |-;obtain⟨a,ha,e⟩:=gh e;cases e
  have x:(pIf c ts p (isX ts sign)).map (·+1)=none\/(pIf c ts p fun i=>!isX ts sign i)=none:=(Uw p (isX ts sign)).imp (fun h=>by rw[h];rfl) id;have ka:nN c ts ((pIf c ts p (isX ts sign)).map (·+1)) a.p a.e/\(Wc c ts m a.p a.e->jc c us r' typ o ((pIf c ts p (isX ts sign)).map (·+1)) slot=some a):=by
   unfold jc at ha |-;cases typ with
   |true=>
    simp only[R9]at ha |-;cases ha
    have y:=US (c:=c) (ts:=ts) ((pIf c ts p (isX ts sign)).map (·+1)) slot;exact⟨y,fun z=>by rw[A.typed (y.look z)]⟩
   |false=>
    obtain⟨h1,h2⟩:=H _ _ ha trivial;exact⟨h1,fun z=>h2 z⟩
  obtain⟨a1,a2⟩:=ka;obtain⟨s1,s2⟩:=nN.side x a1;have oc:=UI s2.symm;have E:nN c ts p ((pIf c ts p fun i=>!isX ts sign i).or a.p) a.e:=by rw[oc];exact nN.fork1 w s1
  refine⟨E,fun z=>?_⟩;have z':Wc c ts m (a.p.or (pIf c ts p fun i=>!isX ts sign i)) a.e:=by rw[<-oc];exact z
  have lo:=E.look z;simp only[A.pIf lo (A.isX sign),A.pIf lo (A.isXn sign)];exact Wa (a2 (Wc.side x a1 z').1) rfl
 |vrb o p=>
  simp only[aN,iY]at e |-;obtain⟨d,hd,e⟩:=gh e;cases e
  have n1:=UB (c:=c) (ts:=ts) p 2 0;have t1:=Uu (c:=c) (ts:=ts) (bC ts c p 2 0).p (s:=bS) Vm;have E1:=n1.seq t1;have y1:=US (c:=c) (ts:=ts) (cX ts c (bC ts c p 2 0).p bS).1 0;have E2:=E1.seq y1;obtain⟨d1,d2⟩:=H _ _ hd (by show zJ≠[];decide);have d1:nN c ts (gE ts c (cX ts c (bC ts c p 2 0).p bS).1 0).p d.p d.e:=d1;have E3:=E2.seq d1;have t2:=Uu (c:=c) (ts:=ts) d.p (s:=bl) Vm;have E:=E3.seq t2;refine⟨E,fun z=>?_⟩;have z3:=E3.be1 t2 z;have z2:=E2.be1 d1 z3;have z1:=E1.be1 y1 z2;rw[A.named (E.look z),A.take (t1.look (n1.be2 t1 z1)),A.typed (y1.look (E1.be2 y1 z2))];refine Wa (d2 (E2.be2 d1 z3)) ?_;simp only[A.take (t2.look (E3.be2 t2 z))]
 |function o p=>
  simp only[aN,iX]at e |-;obtain⟨b,hb,e⟩:=gh e;obtain⟨d,hd,e⟩:=gh e;obtain⟨f,hf,e⟩:=gh e;cases e
  have n1:=UB (c:=c) (ts:=ts) p 3 0;obtain⟨b1,b2⟩:=H _ _ hb trivial;have b1:nN c ts (bC ts c p 3 0).p b.p b.e:=b1;have E1:=n1.seq b1;obtain⟨d1,d2⟩:=H _ _ hd (by show bS≠[];decide);have d1:nN c ts b.p d.p d.e:=d1;have E2:=E1.seq d1;obtain⟨f1,f2⟩:=H _ _ hf trivial;have f1:nN c ts d.p f.p f.e:=f1;have E:=E2.seq f1;refine⟨E,fun z=>?_⟩;have z2:=E2.be1 f1 z;have z1:=E1.be1 d1 z2;rw[A.named (E.look z)];exact Wa (b2 (n1.be2 b1 z1)) (Wa (d2 (E1.be2 d1 z2)) (Wa (f2 (E2.be2 f1 z)) rfl))
 |block o p slot=>
  simp only[aN,mg]at e |-;cases p with
  |none=>cases e;exact⟨⟨rfl,rfl⟩,fun _=>rfl⟩
  |some p=>
   simp only[So]at e |-;have hn:=wT c ts p;split at e
   ·rename_i h1;cases e
    have E:nN c ts (some p) none [(10,((nx c ts p:Nat):Int))]:=nN.ofN (s:=some p) (nN.err hn (.inl rfl));exact⟨E,fun z=>by have hi:=E.look z p rfl;simp only[A.nx hi,A.X hi,SI h1]⟩
   ·rename_i h1;have hl:nx c ts p<ts.length:=kC (by rw[Classical.not_not.1 h1];decide);split at e
    ·rename_i h2;cases e
     have E:nN c ts (some p) none [(11,((nx c ts p:Nat):Int))]:=nN.ofN (s:=some p) (nN.err hn (.inr ⟨rfl,hl⟩));exact⟨E,fun z=>by have hi:=E.look z p rfl;simp only[A.nx hi,A.X hi,Sb h1,SI h2]⟩
    ·rename_i h2;obtain⟨a,ha,e⟩:=gh e;cases e
     obtain⟨a1,a2⟩:=H _ _ ha (.inr rfl);have a1:nN c ts (some p) a.p a.e:=nN.ofN (s:=some p) (nN.up (s:=some (nx c ts p)) (Lt.of hl) a1);have t1:=Uu (c:=c) (ts:=ts) a.p (s:=uo) Vm;have E:=a1.seq t1;refine⟨E,fun z=>?_⟩;have hi:=E.look z p rfl;simp only[A.nx hi,A.X hi,Sb h1,Sb h2];refine Wa (a2 (a1.be1 t1 z)) ?_;simp only[A.take (t1.look (a1.be2 t1 z))]
 |seqL top o p l out=>
  simp only[aN,tw]at e |-;cases p with
  |none=>cases e;exact⟨nN.self out,fun _=>rfl⟩
  |some p=>
   obtain rfl:out=none:=w.resolve_left (by simp);simp only[So]at e |-;have hn:=wT c ts p;split at e
   ·rename_i h1;cases e
    have E:nN c ts (some p) (some (nx c ts p)) []:=nN.ofN (s:=some p) (nN.self _);refine⟨E,fun z=>?_⟩;have hi:=E.look z p rfl;have aa:pEnd us top (nx c ts p)=true:=by rw[A.pEnd top hi];exact h1
    simp only[A.nx hi,SI aa]
   ·rename_i h1;obtain⟨a,ha,e⟩:=gh e;obtain⟨b,hb,e⟩:=gh e;cases e
    have ka:nN c ts (some (nx c ts p)) a.p a.e/\(Wc c ts m a.p a.e->nx c ts p<m->my us r' top o (nx c ts p)=some a):=by
     unfold my at ha |-;cases top with
     |true=>
      simp only[R9]at ha |-;unfold zm at ha |-;split at ha
      ·rename_i h2;obtain⟨h3,h4⟩:=H _ _ ha trivial;exact⟨nN.up (s:=some (nx c ts p)) (Lt.of (kC (by rw[h2];decide))) h3,fun z hi=>by simp only[A.X hi,SI h2];exact h4 z⟩
      ·rename_i h2;split at ha
       ·rename_i h5;obtain⟨h3,h4⟩:=H _ _ ha trivial;exact⟨nN.up (s:=some (nx c ts p)) (Lt.of (kC (by rw[h5];decide))) h3,fun z hi=>by simp only[A.X hi,Sb h2,SI h5];exact h4 z⟩
       ·rename_i h5;cases ha
        exact⟨nN.err hn (.inl rfl),fun z hi=>by simp only[A.X hi,Sb h2,Sb h5]⟩
     |false=>
      obtain⟨h3,h4⟩:=H _ _ ha (fun j hj=>by cases hj;exact hn);exact⟨h3,fun z _=>h4 z⟩
    obtain⟨a1,a2⟩:=ka;have a1:=nN.ofN (s:=some p) a1;obtain⟨b1,b2⟩:=H _ _ hb (.inr rfl);have b1:nN c ts (a.p.or none) b.p b.e:=b1;rw[Option.or_none]at b1;have E:=a1.seq b1;refine⟨E,fun z=>?_⟩;have hi:=E.look z p rfl;have aa:¬pEnd us top (nx c ts p)=true:=by rw[A.pEnd top hi];exact h1
    simp only[A.nx hi,Sb aa];exact Wa (a2 (a1.be1 b1 z) hi) (Wa (b2 (a1.be2 b1 z)) rfl)
 |stmt o i=>
  simp only[aN,lG]at e |-;cases i with
  |none=>cases e;exact⟨⟨rfl,rfl⟩,fun _=>rfl⟩
  |some i=>
   have hn:=w i rfl;have G:∀{p e'},nN c ts (some i) p e'->Wc c ts m p e'->i<m:=fun E z=>by have:=E.look z i rfl;rwa [hn]at this
   simp only at e |-;split at e
   ·rename_i h1;obtain⟨a1,a2⟩:=H _ _ e trivial;have E:nN c ts (some i) q.p q.e:=nN.up (s:=some i) (Lt.of (kC (by rw[h1];decide))) a1;exact⟨E,fun z=>by simp only[A.X (G E z),SI h1];exact a2 z⟩
   rename_i h1;split at e
   ·rename_i h2;obtain⟨a1,a2⟩:=H _ _ e (Lt.of (kC (by rw[h2];decide)));have a1:nN c ts (some i) q.p q.e:=a1;exact⟨a1,fun z=>by simp only[A.X (G a1 z),Sb h1,SI h2];exact a2 z⟩
   rename_i h2;split at e
   ·rename_i h3;obtain⟨a,ha,e⟩:=gh e;obtain⟨b,hb,e⟩:=gh e;cases e
    obtain⟨a1,a2⟩:=H _ _ ha trivial;have a1:nN c ts (some i) a.p a.e:=nN.up (s:=some i) (Lt.of (kC (by rw[h3];decide))) a1;obtain⟨b1,b2⟩:=H _ _ hb trivial;have b1:nN c ts a.p b.p b.e:=b1;have E:=a1.seq b1;refine⟨E,fun z=>?_⟩;simp only[A.X (G E z),Sb h1,Sb h2,SI h3];exact Wa (a2 (a1.be1 b1 z)) (Wa (b2 (a1.be2 b1 z)) rfl)
   rename_i h3;split at e
   ·rename_i h4;obtain⟨a1,a2⟩:=H _ _ e trivial;have a1:nN c ts (some i) q.p q.e:=a1;exact⟨a1,fun z=>by simp only[A.X (G a1 z),Sb h1,Sb h2,Sb h3,SI h4];exact a2 z⟩
   rename_i h4;split at e
   ·rename_i h5;obtain⟨a,ha,e⟩:=gh e;cases e
    obtain⟨a1,a2⟩:=H _ _ ha trivial;have a1:nN c ts (pIf c ts (some (i+1)) fun i=>!isX ts bl i) a.p a.e:=a1;have x:=(Uw (c:=c) (ts:=ts) (some (i+1)) (isX ts bl)).symm;obtain⟨s1,s2⟩:=nN.side x a1;rw[UN]at s1;have s0:=s1.ofN;have s1:nN c ts (some i) _ _:=nN.up (s:=some i) (Lt.of (kC (by rw[h5];decide))) s0;have t1:=Uu (c:=c) (ts:=ts) (a.p.or (pIf c ts (some (i+1)) (isX ts bl))) (s:=bl) Vm;have E:=s1.seq t1;refine⟨E,fun z=>?_⟩;have z1:=s1.be1 t1 z;have lo:=s0.look z1;simp only[A.X (G E z),Sb h1,Sb h2,Sb h3,Sb h4,SI h5];rw[A.pIf lo (A.isXn bl),A.pIf lo (A.isX bl)];refine Wa (a2 (Wc.side x a1 z1).1) ?_;simp only[A.take (t1.look (s1.be2 t1 z))]
   rename_i h5;split at e
   ·rename_i h6;obtain⟨a,ha,e⟩:=gh e;cases e
    obtain⟨a1,a2⟩:=H _ _ ha trivial;have a1:nN c ts (some i) a.p a.e:=nN.up (s:=some i) (Lt.of (kC (by rcases h6 with h|h<;>rw[h]<;>decide))) a1;have t1:=Uu (c:=c) (ts:=ts) a.p (s:=bl) Vm;have E:=a1.seq t1;refine⟨E,fun z=>?_⟩;simp only[A.X (G E z),Sb h1,Sb h2,Sb h3,Sb h4,Sb h5,SI h6];refine Wa (a2 (a1.be1 t1 z)) ?_;simp only[A.take (t1.look (a1.be2 t1 z))]
   rename_i h6;obtain⟨b,hb,e⟩:=gh e;obtain⟨d,hd,e⟩:=gh e;cases e
   have n1:=UB (c:=c) (ts:=ts) (some i) 7 0;have ac:=fun k=>U4 (c:=c) (ts:=ts) (i:=i) (k:=k) (kd:=7) (s:=0) (is:=isX ts hZ);have AN:Wh c ts m (some i)->bC us c (some i) 7 0=bC ts c (some i) 7 0:=fun h=>A.named h 7 0;generalize bC ts c (some i) 7 0=a at n1 ac AN hb hd |-;have tk:=Uu (c:=c) (ts:=ts) (pIf c ts a.p fun i=>!isX ts hZ i) (s:=zJ) Vm;obtain⟨b1,b2⟩:=H _ _ hb trivial;have b1:nN c ts (cX ts c (pIf c ts a.p fun i=>!isX ts hZ i) zJ).1 b.p b.e:=b1;have F:=tk.seq b1;have x:=(Uw (c:=c) (ts:=ts) a.p (isX ts hZ)).symm;obtain⟨s1,s2⟩:=nN.side x F;rw[UN]at s1;have s1:=s1.ofN;obtain⟨d1,d2⟩:=H _ _ hd ⟨s2.symm,UY _ _,fun k hk=>⟨i,rfl,ac k hk⟩⟩;have d1:nN c ts ((pIf c ts a.p (isX ts hZ)).or b.p) d.p d.e:=d1;rw[UI s2.symm]at d1;have E1:=n1.seq s1;have E2:=E1.seq d1;have t2:=Uu (c:=c) (ts:=ts) d.p (s:=bl) Vm;have E:=E2.seq t2;have ea:a.e++(cX ts c (pIf c ts a.p fun i=>!isX ts hZ i) zJ).2++b.e=a.e++((cX ts c (pIf c ts a.p fun i=>!isX ts hZ i) zJ).2++b.e):=Te _ _ _;rw[ea];refine⟨E,fun z=>?_⟩;have z2:=E2.be1 t2 z;have z1:=E1.be1 d1 z2;have zs:=n1.be2 s1 z1;have zb:=(Wc.side x F zs).1;have lo:=s1.look zs;simp only[A.X (G E z),Sb h1,Sb h2,Sb h3,Sb h4,Sb h5,Sb h6,AN (E.look z)];rw[A.pIf lo (A.isXn hZ),A.pIf lo (A.isX hZ),A.take (tk.look (tk.be1 b1 zb))];refine Wa (b2 (tk.be2 b1 zb)) (Wa (d2 (E1.be2 d1 z2)) ?_);simp only[A.take (t2.look (E2.be2 t2 z)),ea]
 |sCalls o i x l g=>
  simp only[aN,kS]at e |-;obtain⟨w1,w2,w3⟩:=w;cases x with
  |none=>
   have hq:q=⟨l,g,[]⟩:=by cases i<;>(cases e;rfl)
   subst hq;exact⟨nN.self g,fun _=>by cases i<;>rfl⟩
  |some k=>
   obtain⟨j,rfl,hj⟩:=w3 k rfl;obtain rfl:g=none:=w1.resolve_left (by simp);obtain⟨a,ha,e⟩:=gh e;cases e
   obtain⟨a1,a2⟩:=H _ _ ha trivial;refine⟨a1,fun z=>?_⟩;have hk:=nN.look a1 z k rfl;rw[w2 k rfl]at hk;simp only[A.X (show j<m by omega)];exact Wa (a2 z) rfl
 |branch o i slot=>
  simp only[aN,mB]at e |-;obtain⟨a,ha,e⟩:=gh e;obtain⟨b,hb,e⟩:=gh e;obtain⟨d,hd,e⟩:=gh e;cases e
  obtain⟨a1,a2⟩:=H _ _ ha trivial;have a1:nN c ts i a.p a.e:=nN.up w a1;obtain⟨b1,b2⟩:=H _ _ hb trivial;have b1:nN c ts a.p b.p b.e:=b1;obtain⟨d1,d2⟩:=H _ _ hd ⟨Uw _ _,Ca Vm⟩;have d1:nN c ts ((pIf c ts b.p (isX ts ip)).or (pIf c ts b.p fun i=>!isX ts ip i)) d.p d.e:=d1;rw[UR]at d1;have d1:=d1.ofN;have E1:=a1.seq b1;have E:=E1.seq d1;refine⟨E,fun z=>?_⟩;have z1:=E1.be1 d1 z;have lo:=d1.look (E1.be2 d1 z);refine Wa (a2 (a1.be1 b1 z1)) (Wa (b2 (a1.be2 b1 z1)) ?_);simp only[A.pIf lo (A.isX ip),A.pIf lo (A.isXn ip)];exact Wa (d2 (E1.be2 d1 z)) rfl
 |elses o x l out=>
  simp only[aN,pD]at e |-;cases x with
  |none=>cases e;exact⟨nN.self out,fun _=>rfl⟩
  |some j=>
   obtain rfl:out=none:=w.1.resolve_left (by simp);obtain⟨a,ha,e⟩:=gh e;obtain⟨b,hb,e⟩:=gh e;cases e
   obtain⟨a1,a2⟩:=H _ _ ha trivial;have a1:nN c ts (pIf c ts (some (j+1)) fun i=>!isX ts ny i) a.p a.e:=a1;have x:=(Uw (c:=c) (ts:=ts) (some (j+1)) (isX ts ny)).symm;obtain⟨s1,s2⟩:=nN.side x a1;rw[UN]at s1;have s1:=s1.ofN;obtain⟨b1,b2⟩:=H _ _ hb ⟨s2.symm,UY _ _,Ca Vm⟩;have b1:nN c ts ((pIf c ts (some (j+1)) (isX ts ny)).or a.p) b.p b.e:=b1;rw[UI s2.symm]at b1;have E0:=s1.seq b1;have E:nN c ts (some j) b.p (a.e++b.e):=nN.up (s:=some j) w.2 E0;refine⟨E,fun z=>?_⟩;have z1:=s1.be1 b1 z;have lo:=s1.look z1;simp only[A.pIf lo (A.isXn ny),A.pIf lo (A.isX ny)];exact Wa (a2 (Wc.side x a1 z1).1) (Wa (b2 (s1.be2 b1 z)) rfl)
 |ifs o y l out=>
  simp only[aN,Dt]at e |-;obtain⟨w1,w2,w3⟩:=w;cases y with
  |none=>cases e;exact⟨nN.self out,fun _=>rfl⟩
  |some j=>
   obtain rfl:out=none:=w1.resolve_left (by simp);simp only at e |-;split at e
   ·rename_i h1;cases e
    exact⟨nN.err (w2 j rfl) (.inr ⟨rfl,w3 j rfl⟩),fun _=>by rw[SI h1]⟩
   ·rename_i h1;obtain⟨a,ha,e⟩:=gh e;cases e
    obtain⟨a1,a2⟩:=H _ _ ha w3;exact⟨a1,fun z=>by rw[Sb h1];exact Wa (a2 z) rfl⟩
theorem UJ(A:Wb m ts us):∀n x q,hQ c ts n x=some q->Wm c ts x->nN c ts (Wl x) q.p q.e/\(Wc c ts m q.p q.e->hQ c us n x=some q)
 |0=>fun x q e=>by cases e
 |n+1=>Va A (UJ A n)
def U5(c:cg)(ts:List Tok)(t:Tr):Prop:=∃q,PV c ts (.seqL true 0 (some 0) [] none) q/\t=uL q
theorem PV.en{q:PR}(h:PV c ts (.seqL true 0 (some 0) [] none) q):nN c ts (some 0) q.p q.e:=by
 obtain⟨n,h⟩:=h;exact(UJ (us:=ts) (m:=0) ⟨fun i hi=>by omega,S6 _,S6 _⟩ n _ _ h (.inr rfl)).1
theorem PV.alike{q:PR}(h:PV c ts (.seqL true 0 (some 0) [] none) q)(A:Wb m ts us)(hb:Wc c ts m q.p q.e):PV c us (.seqL true 0 (some 0) [] none) q:=by
 obtain⟨n,h⟩:=h;exact⟨n,(UJ A n _ _ h (.inr rfl)).2 hb⟩
theorem UW{l:List Nd}{j:Nat}:(uL ⟨l,some j,[]⟩).kids.length=1/\(uL ⟨l,some j,[]⟩).diags=[]:=⟨rfl,rfl⟩
theorem U7{l:List Nd}{k i:Nat}:uL ⟨l,none,[(k,(i:Int))]⟩=⟨[],[⟨k,i,tt⟩]⟩:=rfl
theorem U5.cases{t:Tr}(h:U5 c ts t):(t.kids.length=1/\t.diags=[])\/∃k i:Nat,t=⟨[],[⟨k,i,tt⟩]⟩/\i<=ts.length/\(i=ts.length->k=10)/\(∀x,ts[i]?=some x->x.cond.at' c=true)/\
  (∀u,U5 c (ts.take i) u->u.diags=[]\/u.diags=[⟨10,i,tt⟩])/\(∀us u,i<ts.length->U5 c (ts.take (i+1)++us) u->u=t):=by
 obtain⟨q,hq,rfl⟩:=h;obtain⟨s,hs,_,am⟩:=hq.en;have aa:=(am (S6 _)).1;clear am;have hB:Wc c ts (s+1) q.p q.e:=fun t ht=>by rw[We.det ht hs];omega
 obtain⟨l,p,e⟩:=q;rcases hs with ⟨he,j,hp,hj⟩|⟨hp,k,he,hn,hk⟩
 ·simp only at he hp;subst he hp;exact .inl UW
 ·simp only at he hp;subst he hp;refine .inr ⟨k,s,U7,aa,fun h=>by omega,fun x hx=>?_,fun u hu=>?_,fun us u hi hu=>?_⟩
  ·obtain⟨an,hg⟩:=List.getElem?_eq_some_iff.1 hx;unfold nx at hn;rw[S5 an,hg]at hn;cases hc:x.cond.at' c with
   |true=>rfl
   |false=>
    simp only[ug,hc,Tp,Si]at hn;have:=(oM c (ts.drop (s+1)) (s+1)).1;omega
  ·obtain⟨r,hr,rfl⟩:=hu;have ht:(ts.take s).length=s:=by rw[T1];omega
   obtain⟨s',ak,_,ac⟩:=hr.en;have aj:=(ac (S6 _)).1;clear ac;rw[ht]at aj;have ap:s'<s->Wc c (ts.take s) s r.p r.e:=fun h t ht=>by rw[We.det ht ak];exact h
   obtain⟨l',p',e'⟩:=r;rcases ak with ⟨he,j,hp,hj⟩|⟨hp,k',he,aS,ao⟩
   ·simp only at he hp;subst he hp;exact .inl UW.2
   ·simp only at he hp;subst he hp;rcases Sw s' s with h|h
    ·have:=(hr.alike (us:=ts) ⟨fun i hi=>(List.getElem?_take_of_lt hi).symm,Vi,aa⟩ (ap h)).det hq;simp only[PR.mk.injEq,TX,S3]at this;omega
    ·have e1:s'=s:=by omega
     have e2:k'=10:=by rw[ht]at ao;omega
     subst e1 e2;rw[U7];exact .inr rfl
  ·obtain⟨r,hr,rfl⟩:=hu;have A:Wb (s+1) ts (ts.take (s+1)++us):=⟨fun i hi=>by rw[S1 (by rw[T1];omega),List.getElem?_take_of_lt hi],hi,by rw[Tu,T1];omega⟩;rw[(hq.alike A hB).det hr]
theorem UK{w:T}(aa:bu ts)(hw:w.ok 0){t:Tr}(h:Jk ts w t)(hc:w.at' c=true):U5 c ts (prj c t):=u7 aa hw h hc
end
end Syn
namespace Go.Proofs.YtfaclfkpnmcmlaaGreatDoor
open Go Go.Sx Dg Syn
theorem Vz{a b:Nat}:((a:Int) == (b:Int))=decide (a=b):=by
 by_cases h:a=b
 ·subst h;simp
 ·rw[Ug h];simp;omega
theorem VB{I:PH}{vl vm:Value}{l m:List It}{c:Nat}(hV:fN I)(hS:KJ I vl l)(hM:KJ I vm m)(hb:∀x∈l,Ql x)(eb:∀x∈m,Ql x)(hl:l.length<2^40)(hm:m.length<2^40)(hc:c<2^32):
  aO Tryz.prog 8 #[vl,.int .u32 c,vm] I [] fun r I2 qs=>qs=[]/\r=.bool true:=by
 obtain⟨la,lc,rfl,_⟩:=id hS;obtain⟨ma,mc,rfl,_⟩:=id hM;intro hd;refine ir 147 Tryz.func8 fun w0=>?_;refine Un ?_;refine V7 hd rfl MG (J6 hS (Sl.nil _ _) hb hl (w:=[]) Vm) fun v I2 qs d7 a7 hq=>?_;obtain⟨rfl,hq⟩:=hq;obtain⟨a,n,k,ga,gn,gc,ok,rfl,d1⟩:=hq.all;refine Un ?_;refine V7 d7 rfl MG (J6 (KJ.le hM a7) (Sl.nil _ _) eb hm (w:=[]) Vm) fun v I3 qs cj a6 hq=>?_;obtain⟨rfl,hq⟩:=hq;obtain⟨a',n',k',ga',gn',gc',ok',rfl,cb⟩:=hq.all;have k3:=Ui a7 a6;cases ok
 ·refine Un ?_;refine V7 cj rfl EZ (BE (hV.le k3)) fun v I4 qs bc aa hq=>?_;obtain⟨rfl,rfl⟩:=hq;refine Un ?_;exact ai rfl bc (r:=[_]) rfl (Ui k3 aa) ⟨rfl,rfl⟩
 cases ok'
 ·refine Un ?_;refine V7 cj rfl EZ (BE (hV.le k3)) fun v I4 qs bc aa hq=>?_;obtain⟨rfl,rfl⟩:=hq;refine Un ?_;exact ai rfl bc (r:=[_]) rfl (Ui k3 aa) ⟨rfl,rfl⟩
 obtain⟨hL,hT,eq,rfl,hk⟩:=d1 rfl;obtain⟨dw,ef,d3,rfl,er⟩:=cb rfl;refine Un ?_;refine V7 cj rfl EZ (BE (hV.le k3)) fun v I4 qs bc aa hq=>?_;obtain⟨rfl,rfl⟩:=hq;have k4:=Ui k3 aa;have c4:=Ui a6 aa;refine Un ?_;refine V7 bc rfl Ex (Cv (hV.le k4) (hL.le c4) hc) fun v I5 qs b1 aS hq=>?_;obtain⟨rfl,t,hF,hR,hB⟩:=hq;have hf:=UK (j3 hL.ok) (ub _ _) hF (vQ c);generalize prj (dW c) t=u at hR hB hf;obtain⟨_,_,rfl,⟨xa,xc,rfl,dA⟩,_,b3,_⟩:=id hR;obtain⟨ya,yc,rfl,_⟩:=id b3;have k5:=Ui k4 aS;have a3:((l.map dV).map refit).length=l.length:=by simp
 rcases hf.cases with ⟨h1,h2⟩|⟨kd,i,rfl,hi,bb,b4,cx,ca⟩
 ·rw[h1,h2];refine Un ?_;exact ai rfl b1 (r:=[_]) rfl k5 ⟨rfl,rfl⟩
 rw[a3]at hi bb;simp only[S9,SB,Sf]at dA b3 hR |-;obtain⟨gb,gox,gcs,rfl,⟨da,dk,rfl,es⟩,bd⟩:=Sl.load (R:=dg) (fun{I} c a h=>dg.len c a h) b3 (i:=0) (x:=⟨kd,i,tt⟩) rfl;have f0:decide ((i:Int)<0)=false:=Ug Vi;have f1:decide ((i:Int)>(l.length:Int))=false:=Ug Vi;refine Uv ?_;refine Qz (l:=[.int .u8 kd,.int .i64 i,sD da dk tt,rD tt]) (v:=.agg #[.int .u8 kd,.int .i64 i,sD da dk tt,rD tt]) rfl (cellsU b1 (.head _) (by simpa using bd)) (.inl ⟨iQ,rfl⟩) ?_;rcases Sw i l.length with cc|cc
 rotate_left
 ·have c7:i=l.length:=by omega
  have:=bb c7;subst this;subst c7;have f2:(((l.length:Nat):Int) == (l.length:Int))=true:=by simp
  have f3:(((10:Nat):Int) == 10)=true:=by decide
  apply RG;simp only[go_sem,iv,sD,rD,f0,f1,f2,f3];exact ai rfl b1 (r:=[_]) rfl k5 ⟨rfl,rfl⟩
 have f2:((i:Int) == (l.length:Int))=false:=by rw[Vz];exact Ug Vi
 obtain⟨tk,b0⟩:∃x,(l.map dV)[i]?=some x:=⟨_,SC (by rw[Sz];exact cc)⟩;have ep:((l.map dV).take i).length=i:=by rw[T1,Sz];omega
 apply RG;simp only[go_sem,iv,sD,rD,f0,f1,f2];refine dP b1 (by exact DN) rfl rfl rfl rfl rfl Vm fun gb2 A0 d6 b6=>?_;have eo:ui I5 A0 (.slice (some ⟨gb2,0,none⟩) 0 0) []:=⟨aE [],b6,rfl⟩;have dj:Sl cJ I5 (.slice a l.length k) (l.map dV):=Sl.le (R:=cJ) (fun{I J c a} h k=>cJ.le h k) hT (Ui c4 aS);have ee:=Sl.take (R:=cJ) (fun{I} c a h=>cJ.len c a h) dj (i:=i) (by rw[Sz];omega);have e1:((i:Int).toNat-0)=i:=by omega
 have e2:oz a 7 0 k=a:=by
  unfold oz;split
  ·rfl
  ·cases a<;>simp[Addr.add]
 apply RG;simp only[go_sem,iv,e1,e2,Nat.sub_zero];refine⟨Vi,?_⟩;refine aY (R:=cJ) (xs:=[]) (ys:=(l.map dV).take i) d6 (by exact DN) eo ee (fun{I J c a} h k=>cJ.le h k) (fun{I} c a h=>cJ.len c a h) (fun{I} c a h=>cJ.ones h) rfl rfl rfl rfl (by simp only[S9];omega) (by simp only[S9];unfold maxLen;omega) fun na nc I6 A6 dd a5 cB=>?_;simp only[SU]at cB |-;refine Uq ?_;refine Um dd [0] fun ci=>?_;refine ag ci fun I7 ci ap dy=>?_;have ed:Sl cJ I7 (.slice na ((l.map dV).take i).length nc) ((l.map dV).take i):=Ow.sl (R:=cJ) (fun{I J c a} h k=>cJ.le h k) cB ap dy;have dv:oC I7 (.agg #[.slice na ((l.map dV).take i).length nc,.slice none 0 0]) ((l.map dV).take i):=⟨⟨_,none,0,0,rfl,ed⟩,fun t ht=>hL.ok t (TA ht),Vi,fun t ht=>hL.txt t (TA ht)⟩;have k7:=Ui k5 (Ui a5 ap);refine Uq ?_;refine V7 ci rfl Ex (Cv (hV.le k7) dv hc) fun v I8 qs dc a4 hq=>?_;obtain⟨rfl,t2,el,ds,em⟩:=hq;have cf:=UK (j3 dv.ok) (ub _ _) el (vQ c);rw[List.map_take]at cf;generalize prj (dW c) t2=u2 at ds em cf;have cl:=cx u2 cf;obtain⟨_,_,rfl,⟨za,zc,rfl,_⟩,_,b2,_⟩:=id ds;obtain⟨wa,wc,rfl,_⟩:=id b2;have d5:=(List.pairwise_cons.1 dd).1 A6 (.head _);have ea:∀{P:Prop},(u2.diags=[]->P)->(u2.diags=[⟨10,i,tt⟩]->P)->P:=fun h1 h2=>cl.elim h1 h2;obtain⟨tb,to,tcs,rfl,d9,dI⟩:=Sl.load (R:=cJ) (fun{I} c a h=>cJ.len c a h) dj b0;obtain⟨tpx,tf,tl,ta,tk',rfl,d0,dT⟩:=id d9;refine ea (fun h=>?_) (fun h=>?_);rw[h];refine Uq ?_;refine V8 [0,1,2,3,4,5,6,7,8,9,10,11,12,13,14,15,16,17,18,19,20,21] [9,16] [] ?_;apply af;simp only[go_sem,iv,Int.reduceGT];refine aw ?_;refine Uq ?_
 rotate_left
 rw[h];rw[h]at b2;obtain⟨ubx,uox,ucs,rfl,⟨ua,uk,rfl,_⟩,c5⟩:=Sl.load (R:=dg) (fun{I} c a h=>dg.len c a h) b2 (i:=0) (x:=⟨10,i,tt⟩) rfl;have u0:=c5.get (i:=0) rfl;have u1:=c5.get (i:=1) rfl;simp only[SB,S9,Sf];refine Uq ?_;refine V8 [0,1,2,3,4,5,6,7,8,9,10,11,12,13,14,15,16,17,18,19,20,21] [9,16] [] ?_;apply af;simp only[go_sem,iv,Int.reduceGT,bne_self_eq_false];refine P7 (l:=[.int .u8 10]) rfl (cellsU dc (.head _) (by simpa using u0)) (.inr ⟨V1,rfl⟩) ?_;apply af;simp only[go_sem,iv,Int.reduceGT,bne_self_eq_false];refine P7 (l:=[.int .i64 i]) rfl (cellsU dc (.head _) (by simpa using u1)) (.inr ⟨mF,rfl⟩) ?_;apply af;simp only[go_sem,iv,Int.reduceGT,bne_self_eq_false];refine aw ?_;apply RG;simp only[go_sem,iv,Int.reduceGT,bne_self_eq_false]
 all_goals
  obtain⟨J,rfl,ei,dx⟩:=V4 d5 (Ui ap a4) (Ui dy a4);have eUx:U [J.uni A6]=U [J,A6]:=by simp only[U,PH.uni_no]
  rw[eUx];have c9:Dj [J,A6]:=List.pairwise_cons.2 ⟨fun B hB=>by rw[List.mem_singleton.1 hB];exact ei,Th _ _⟩;have en:=ui.le cB dx;have a0:I5.le J:=Ui a5 dx;have a1:=dI.le a0;have a2:=dT.le a0;have d2:Sl cJ J (.slice a' m.length k') (m.map dV):=Sl.le (R:=cJ) (fun{I J c a} h k=>cJ.le h k) ef (Ui aa (Ui aS a0));refine V8 [14,0,1,2,3,4,5,6,10,11,7,8,9,12,13,15] [7] [] ?_;refine Ur ?_;refine⟨Vi,?_⟩;refine P7 (l:=[.int .u8 tk.kind,.string ⟨⟨tk.text⟩⟩,tpx,.int .i64 tf,.int .i64 tl,sD ta tk' tk.cond,rD tk.cond]) (v:=.agg #[.int .u8 tk.kind,.string ⟨⟨tk.text⟩⟩,tpx,.int .i64 tf,.int .i64 tl,sD ta tk' tk.cond,rD tk.cond]) rfl (cellsU c9 (.head _) (by simpa using a1)) (.inl ⟨Oy,rfl⟩) ?_;refine Ur ?_;refine aZ c9 (by exact DN) rfl rfl rfl rfl rfl Vm fun kb I9 ct aj d4=>?_;have eg:Sl cJ I9 (.slice (some ⟨kb,0,none⟩) 1 1) [tk]:=⟨_,_,rfl,.inr ⟨kb,0,_,rfl,(az d4 (by simp[aE,Value.cells]) (by simp[aE,Value.cells,iv,sD,rD]):aQ I9 kb 0 [.int .u8 tk.kind,.string ⟨⟨tk.text⟩⟩,tpx,.int .i64 tf,.int .i64 tl,sD ta tk' tk.cond,rD tk.cond]),.one ⟨tpx,tf,tl,ta,tk',rfl,d0,a2.le aj⟩⟩⟩;refine Ur ?_;refine eZ (R:=cJ) (xs:=(l.map dV).take i) (ys:=[tk]) ct (by exact DN) (ui.le en aj) eg (fun{I J c a} h k=>cJ.le h k) (fun{I} c a h=>cJ.len c a h) (fun{I} c a h=>cJ.ones h) rfl rfl rfl rfl rfl rfl (by simp only[SB,S9];omega) (by simp only[SB,S9];unfold maxLen;omega) fun ua2 uc2 eH A10 cs ao c2=>?_;refine Ur ?_
  refine eZ (R:=cJ) (xs:=(l.map dV).take i++[tk]) (ys:=m.map dV) cs (by exact DN) c2 (Sl.le (R:=cJ) (fun{I J c a} h k=>cJ.le h k) d2 (Ui aj ao)) (fun{I J c a} h k=>cJ.le h k) (fun{I} c a h=>cJ.len c a h) (fun{I} c a h=>cJ.ones h) rfl rfl rfl rfl rfl rfl (by simp only[Tu,SB,S9,Sz];omega) (by simp only[Tu,SB,S9,Sz];unfold maxLen;omega) fun va vc eA A11 cr ba c1=>?_;refine Ur ?_;refine aw ?_;refine Um cr [0] fun ak=>?_;refine ag (c:=.st _) ak fun c3 ak an c0=>?_;have cy:Sl cJ c3 (.slice va ((l.map dV).take i++[tk]++m.map dV).length vc) ((l.map dV).take i++[tk]++m.map dV):=Ow.sl (R:=cJ) (fun{I J c a} h k=>cJ.le h k) c1 an c0;have c6:∀t∈(l.map dV).take i++[tk]++m.map dV,t∈l.map dV\/t∈m.map dV:=fun t ht=>by
   rcases List.mem_append.1 ht with h|h
   ·rcases List.mem_append.1 h with h|h
    ·exact .inl (TA h)
    ·rw[List.mem_singleton.1 h];exact .inl (Tg b0)
   ·exact .inr h
  have bs:oC c3 (.agg #[.slice va ((l.map dV).take i++[tk]++m.map dV).length vc,.slice none 0 0]) ((l.map dV).take i++[tk]++m.map dV):=⟨⟨_,none,0,0,rfl,cy⟩,fun t ht=>(c6 t ht).elim (hL.ok t) (dw.ok t),by simp only[Tu,SB,S9,Sz];omega,fun t ht=>(c6 t ht).elim (hL.txt t) (dw.txt t)⟩;have bx:=Ui aj (Ui ao (Ui ba an));have b5:=(a1.le bx).sub 5 2 (by simp);have ec:tk.cond.at' (dW c)=true:=b4 (refit tk) (by rw[SA,b0];rfl);have kIx:I.le c3:=Ui k5 (Ui a0 bx);refine Uq ?_;refine V8 [0,1,2,3,4,5,6,7,8,9,10,11,13,12,14,15,16] [6] [] ?_;refine Ur ?_;refine⟨Vi,?_⟩;refine P7 (l:=[sD ta tk' tk.cond,rD tk.cond]) (v:=.agg #[sD ta tk' tk.cond,rD tk.cond]) rfl (cellsU ak (.head _) (by simpa using b5)) (.inl ⟨oQ,rfl⟩) ?_;refine Ur ?_;refine IR ak rfl K9 (bv.keep (OP (a2.le bx) hc)) fun v5 ez qs cp ac hq=>?_;obtain⟨rfl,rfl⟩:=hq;rw[ec];refine Ur ?_;refine IR cp rfl Ex (Cv (hV.le (Ui kIx ac)) (bs.le ac) hc) fun v6 ey qs cn am hq=>?_;obtain⟨rfl,t3,ek,cA,et⟩:=hq;have c8:=UK (j3 bs.ok) (ub _ _) ek (vQ c);rw[<-i8 b0,Uc,List.map_take]at c8;have e3:=ca _ _ (by rw[a3];exact cc) c8;rw[e3]at cA;have eh:=hR.le (Ui a0 (Ui bx (Ui ac am)));obtain⟨_,_,rfl,⟨ya2,yc2,rfl,_⟩,_,⟨yb2,yd2,rfl,_⟩,_⟩:=id cA;refine Ur ?_;refine IR cn rfl LM (K1 cA eh (S6 _) (by unfold aF;simp)) fun v7x ex qs cm a9 hq=>?_;obtain⟨rfl,rfl⟩:=hq;refine Ur ?_;refine aw ?_;refine Uq ?_;exact ai rfl cm (r:=[_]) rfl (Ui kIx (Ui ac (Ui am a9))) ⟨rfl,rfl⟩
open Go.ChangeShapes (trodAll_three trodVars_none trodAll_mk1 trodAll_mk3)
open Go.RowKit (shut_bool)
theorem mO{W:World}{n:String}{g:Nat}{cs:Array Value}(hg:Tryz.prog.globalNamed n=some g)(h:W.var? Tryz.prog n=some cs):∃ty fz,W.heap[g]?=some (.cells cs ty fz):=by
 unfold World.var? at h;rw[hg]at h;simp only[Sm]at h;cases hb:W.heap[g]? with
 |none=>rw[hb]at h;cases h
 |some o=>
  rw[hb]at h;cases o with
  |cells c ty fz=>simp only[Sc]at h;subst h;exact⟨ty,fz,rfl⟩
  |_=>cases h
theorem GE{H:Type}{enc:TypeId×Value->H}{W:World}{lO fR t n:Nat}{sp:Nat->Bool}{aa:Bool}{cs:List Value}{T:List bM}{p:List MemPlace}(ht:Tryz.prog.underlying t=some (.array n 9))(ak:Tryz.prog.cellsOf t=n)
  (h:DataW.trod enc Tryz.prog W lO sp aa fR t cs=some (.agg (T.map fun x=>.lit (.string x)),p)):cs=T.map fun x=>.string ⟨⟨x⟩⟩:=by
 obtain⟨xs,m,_,hx,hl,am,aj⟩:=DataW.trod_array ht h;simp only[S3,DataW.agg.injEq]at hx;obtain⟨hx,_⟩:=hx;rw[ak]at hl;have hT:T.length=n:=by
  have:=congrArg List.length hx;simp at this;omega
 apply List.ext_getElem?;intro i;rcases Sw i n with hi|hi
 ·have h1:=aj i hi;obtain⟨y,hy⟩:∃y,xs[i]?=some y:=⟨_,SC Vi⟩;rw[Bm,Nat.mul_one,hy]at h1;obtain⟨s,e1,e2,_⟩:=DataW.trod_string Pe h1;have h2:(xs.map (·.1))[i]?=some (.lit (.string s.data.toList)):=by rw[SA,hy,e2];rfl
  rw[<-hx,SA]at h2;obtain⟨x,ac⟩:∃x,T[i]?=some x:=⟨_,SC Vi⟩;rw[ac]at h2;simp only[So,Sc,DataW.lit.injEq,Lit.string.injEq]at h2;have h3:cs[i]?=some (.string s):=by
   have:=congrArg (fun l:List Value=>l[0]?) e1;simpa[Sg,Sh]using this
  rw[h3,SA,ac,h2];rfl
 ·rw[SF Vi,SF (by rw[Sz];omega)]
theorem OW:Tryz.prog.cellsOf 317=22:=by kernel_rfl
theorem Q1:Tryz.prog.globalNamed "motley/source.signs"=some 0:=by kernel_rfl
theorem QZ:Tryz.prog.globalNamed "strconv.ErrSyntax"=some 1:=by kernel_rfl
theorem Q9:Tryz.prog.globalNamed "strconv.ErrRange"=some 2:=by kernel_rfl
theorem Ri:(Tryz.prog.globals[0]?).map (·.type)=some 317:=by kernel_rfl
theorem RH:(Tryz.prog.globals[1]?).map (·.type)=some 284:=by kernel_rfl
theorem RB:(Tryz.prog.globals[2]?).map (·.type)=some 284:=by kernel_rfl
theorem Rz:(Tryz.prog.globals[3]?).map (·.type)=some 406:=by kernel_rfl
theorem Oc:Tryz.prog.underlying 406=some (.array 20 366):=by kernel_rfl
theorem Oj:Tryz.prog.underlying 366=some (.int .u64):=by kernel_rfl
theorem OV:Tryz.prog.cellsOf 366=1:=by kernel_rfl
theorem Nu:Tryz.prog.cellsOf 406=20:=by kernel_rfl
theorem IW{W:World}(hL:laidMetH Tryz.prog Rows.syntaxFirstUptoRow.laid W):fN (uu W):=by
 rw[MakeChecks.laidMetH_plain _ _ _ (by kernel_rfl)]at hL;have r3:=Lib.laidMet.reads hL (.tail _ (.tail _ (.head _)));have r2:=Lib.laidMet.reads hL (.tail _ (.tail _ (.tail _ (.head _))));have r1:=Lib.laidMet.reads hL (.tail _ (.tail _ (.tail _ (.tail _ (.head _)))));have r0:=Lib.laidMet.reads hL (.tail _ (.tail _ (.tail _ (.tail _ (.tail _ (.head _))))));refine⟨?_,?_,?_,?_⟩
 ·obtain⟨g,t,cs,fR,p,hg,ht,hv,hd⟩:=r0;obtain rfl:=Tk (Q1.symm.trans hg);obtain rfl:=Tk (Ri.symm.trans ht);obtain⟨ty,fz,hb⟩:=mO Q1 hv;have aa:=GE (T:=gI) Kg OW hd;refine⟨cs,ty,fz,hb,?_,?_⟩
  ·have:=congrArg List.length aa;simp only[Sk]at this;rw[this];simp[lP]
  ·rw[Tm,aa];exact T3 (by simp[lP])
 ·obtain⟨g,t,cs,fR,p,hg,ht,hv,hd⟩:=r1;obtain rfl:=Tk (QZ.symm.trans hg);obtain rfl:=Tk (RH.symm.trans ht);obtain⟨ty,fz,hb⟩:=mO QZ hv;obtain⟨_,u,v,aa,_⟩:=iface_of_trod vt.choose_spec hd;exact⟨u,v,cs,ty,fz,hb,by have:=congrArg List.length aa;simp at this;simp[this],by simp[aa]⟩
 ·obtain⟨g,t,cs,fR,p,hg,ht,hv,hd⟩:=r2;obtain rfl:=Tk (Q9.symm.trans hg);obtain rfl:=Tk (RB.symm.trans ht);obtain⟨ty,fz,hb⟩:=mO Q9 hv;obtain⟨_,u,v,aa,_⟩:=iface_of_trod vt.choose_spec hd;exact⟨u,v,cs,ty,fz,hb,by have:=congrArg List.length aa;simp at this;simp[this],by simp[aa]⟩
 ·obtain⟨g,t,cs,fR,p,hg,ht,hv,hd⟩:=r3;obtain rfl:=Tk (Ew.symm.trans hg);obtain rfl:=Tk (Rz.symm.trans ht);obtain⟨ty,fz,hb⟩:=mO Ew hv;have aa:=Lib.cells_of_tab (zs:=Lib.pow10Tab) (k:=.u64) Oc Oj OV Nu hd;refine⟨ty,fz,?_⟩;show W.heap[3]?=_;rw[hb,<-aa]
theorem Nm:ownKnob Tryz.prog.godebug=none:=by kernel_rfl
theorem Cm:laidOutB Tryz.prog=true:=by kernel_rfl
theorem GM(os:Os)(args:Array Value):laidMetH Tryz.prog Rows.syntaxFirstUptoRow.laid ((World.doorLaid Tryz.prog 67 os).forCall (fun _ _=>0) ⟨#[],args,[]⟩).memory:=
 (@laidMetH_of_parts3 _ _ _ 8 (laidMet_of_run' 8 (by kernel_rfl) (by kernel_rfl)) (by kernel_rfl) (by kernel_rfl))
def yl:Array Value:=#[.slice none 0 0,.int .u32 0,.slice none 0 0]
theorem ym(os:Os){H:Type}(enc:TypeId×Value->H):
  (Rows.OpenSpec.upto Rows.syntaxFirstSpec).preRow enc Tryz.prog Tryz.f8 Rows.syntaxFirstUptoRow.domain false Rows.syntaxFirstUptoRow.laid ((World.doorLaid Tryz.prog 67 os).forCall (fun _ _=>0) ⟨#[],yl,[]⟩).memory yl:=by
 have hw:(DataW.whole enc Tryz.prog ((World.doorLaid Tryz.prog 67 os).forCall (fun _ _=>0) ⟨#[],yl,[]⟩).memory Tryz.f8.params.toList (Rows.OpenSpec.upto Rows.syntaxFirstSpec).vars false yl.toList 8).map (fun x=>(x.1,x.2.1)) =
   some ([.nil,.lit (.int .u32 0),.nil],[]):=by kernel_rfl
 obtain⟨⟨x1,x2,x3⟩,hx,aa⟩:=Option.map_eq_some_iff.1 hw;simp only[S3]at aa;obtain⟨rfl,rfl⟩:=aa;exact OpenSpec.preRow_of_cond 8 hx (by kernel_rfl) (fun k hk=>by cases hk;rfl) (by kernel_rfl) (GM os _)
set_option maxRecDepth 100000 in
theorem UX(os:Os)(started:os.Started)(H:Type)(enc:TypeId×Value->H)(F:Stop.Interp):
  ReturnsInHanded {} Tryz.checked os 8 .any ((Rows.OpenSpec.upto Rows.syntaxFirstSpec).preRow enc Tryz.prog Tryz.f8 Rows.syntaxFirstUptoRow.domain false Rows.syntaxFirstUptoRow.laid) (((Rows.OpenSpec.upto Rows.syntaxFirstSpec).at F).post enc Tryz.prog Tryz.f8 false true false false):=by
 refine returnsInHanded_of_row (C:=Tryz.checked) (s:=Rows.OpenSpec.upto Rows.syntaxFirstSpec) Nm started (by kernel_rfl) Tryz.func8
  (witness_row_atRef (enc:=enc) (C:=Tryz.checked) false (World.doorLaid Tryz.prog 67 os) yl rfl (by kernel_rfl) (by kernel_rfl) (by kernel_rfl) (ym os enc)) ?_
 intro W lO args ds gs before ac hW _ ak _ hL _ _;have aj:Rows.uptoSmall H (ds++gs)=true:=ak _ rfl;have aa:∀(j:Nat) t v,Tryz.f8.params[j]?=some t->args[j]?=some v->Value.okWide Tryz.prog W .any lO t v:=ac;have am:=hW;obtain⟨p,q,aS,ap,rfl,_,_⟩:=hW;have hA:DataW.TrodAll enc Tryz.prog W 0 (fun _=>true) true Tryz.f8.params.toList args.toList ds p:=aS;rw[Tryz.params8]at hA aa;obtain⟨v0,v1,v2,d0,d1,d2,p0,p1,p2,rfl,rfl,rfl,h0,h1,h2⟩:=trodAll_three hA;obtain⟨rfl,rfl⟩:=trodVars_none ap;have h0k:=h0;have h1k:=h1;have h2k:=h2;clear aS ap ac;simp only[Tq]at am aj;have an:∀x∈p0++p1++p2,x.block<W.heap.size:=fun x hx=>by simpa using am.lt x hx
 have ao:Rows.uptoBulk d0+(Rows.uptoBulk d1+(Rows.uptoBulk d2+0))<=1048576:=TG aj;obtain⟨a0,l0,c0,rfl⟩:=WideShapes.okWide_slice NN (aa 0 22 v0 rfl rfl);obtain⟨a2,l2,c2,rfl⟩:=WideShapes.okWide_slice NN (aa 2 22 v2 rfl rfl);obtain⟨f0,a5⟩:=h0;obtain⟨f2,a4⟩:=h2;obtain⟨l,a7,ba,a3⟩:=zS a5;obtain⟨w,a6,a9,a1⟩:=zS a4;obtain⟨c,rfl,rfl,rfl,wc⟩:=ChangeShapes.open_int JZ (aa 1 23 v1 rfl rfl) h1;obtain⟨k,rfl,hk⟩:=zP wc;have hV:=IW hL;have main:=VB hV a7 a6 (fun x hx=>by obtain⟨b1,b2⟩:=a3 x hx;exact⟨Vi,Vi⟩) (fun x hx=>by obtain⟨b1,b2⟩:=a1 x hx;exact⟨Vi,Vi⟩) Vi Vi hk;refine(aO.calls main).mono ?_;rintro e W' ⟨rfl,bel⟩;have e1:((Rows.OpenSpec.upto Rows.syntaxFirstSpec).at F).fn H ([d0,.lit (.int .u32 (k:Int)),d2]++[])={ results:=[.lit (.bool true)],args:=[d0,.lit (.int .u32 (k:Int)),d2] }:=rfl;refine⟨_,rfl,_,_,_,[],p0++([]++p2),[],am,?_,?_,?_,bel.frame _,fun h=>by cases h⟩
 ·rw[e1];exact trodAll_mk1 (shut_bool Tryz.underlying4 _)
 ·rw[e1];exact trodAll_mk3 (RowKit.Below.trod Cm (by kernel_rfl) (TG (by kernel_rfl)) h0k bel (fun x hx=>an x (by simp[hx]))) (ChangeShapes.shut_int JZ wc) (RowKit.Below.trod Cm (by kernel_rfl) (TG (by kernel_rfl)) h2k bel (fun x hx=>an x (by simp[hx])))
 ·rw[e1];rfl
end Go.Proofs.YtfaclfkpnmcmlaaGreatDoor
