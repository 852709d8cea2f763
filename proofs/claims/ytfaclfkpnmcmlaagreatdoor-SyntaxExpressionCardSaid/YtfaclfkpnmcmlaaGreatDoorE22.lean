import Derived.Test.YtfaclfkpnmcmlaaGreatDoorE20
import Derived.Test.YtfaclfkpnmcmlaaGreatDoorE21
set_option maxHeartbeats 8000000
set_option linter.all false
namespace Syn
open Dg
def OL(a b:Nat)(s:Int)(l:List Nd):Prop:=(∀n∈l,RI n/\n.cond=tt/\(a:Int)<=n.tok/\n.tok<(b:Int)/\n.slot=s)/\l.Pairwise fun x y=>x.tok<y.tok
def O1(a b:Nat)(s:Int)(l:List Nd):Prop:=l.length=1/\OL a b s l
def KO(k:Int)(l:List Nd):Prop:=Us l/\∀m∈l,m.cond=tt/\m.slot<k
def ON(a b:Nat)(s k:Int)(l:List Nd):Prop:=∃n,l=[n]/\KO k n.kids/\n.cond=tt/\(a:Int)<=n.tok/\n.tok<(b:Int)/\n.slot=s
def MY{a b:qT}(h:a.slot<b.slot):CW a b=true:=by unfold CW;rw[aaq h]
def QO{a b:qT}(h:a.slot=b.slot)(k:a.tok<b.tok):CW a b=true:=by unfold CW;rw[ZV ab,ZV ab,aaq k]
def OL.nil(a b:Nat)(s:Int):OL a b s []:=⟨fun _ h=>(aaB h).elim,List.Pairwise.nil⟩
variable{l:List Nd}{a b:Nat}
def OL.mono{a' b':Nat}{s:Int}(h:OL a b s l)(ha:a'<=a)(hb:b<=b'):OL a' b' s l:=⟨fun n hn=>by obtain⟨h1,h2,h3,h4,h5⟩:=h.1 n hn;exact⟨h1,h2,ab,ab,h5⟩,h.2⟩
def O1.mono{a' b':Nat}{s:Int}(h:O1 a b s l)(ha:a'<=a)(hb:b<=b'):O1 a' b' s l:=⟨h.1,h.2.mono ha hb⟩
def OL.app{d:Nat}{s:Int}{m:List Nd}(h:OL a b s l)(k:OL b d s m)(h1:a<=b)(h2:b<=d):OL a d s (l++m):=by
 refine⟨fun n hn=>?_,List.pairwise_append.2 ⟨h.2,k.2,fun x hx y hy=>?_⟩⟩
 ·rcases List.mem_append.1 hn with hn|hn
  ·exact(h.mono (ZR _) h2).1 n hn
  ·exact(k.mono h1 (ZR _)).1 n hn
 ·have:=(h.1 x hx).2.2.2.1;have:=(k.1 y hy).2.2.1;omega
def OL.nL{s:Int}(h:OL a b s l):Us l:=by
 refine⟨?_,fun n hn=>(h.1 n hn).1⟩;rw[List.pairwise_map];refine h.2.imp_of_mem fun{x y} hx hy aa=>QO ?_ aa;show x.slot=y.slot;rw[(h.1 x hx).2.2.2.2,(h.1 y hy).2.2.2.2]
def KO.nil(k:Int):KO k []:=⟨⟨List.Pairwise.nil,fun _ h=>(aaB h).elim⟩,fun _ h=>(aaB h).elim⟩
variable{k':Int}
def KO.app{k s:Int}{m:List Nd}(h:KO k l)(g:OL a b s m)(h1:k<=s)(h2:s<k'):KO k' (l++m):=by
 have gn:=g.nL;refine⟨⟨?_,fun n hn=>?_⟩,fun n hn=>?_⟩
 ·rw[abP,List.pairwise_append];refine⟨h.1.1,gn.1,fun x hx y hy=>?_⟩;obtain⟨n,hn,rfl⟩:=List.mem_map.1 hx;obtain⟨o,ho,rfl⟩:=List.mem_map.1 hy;have:=(h.2 n hn).2;have e:=(g.1 o ho).2.2.2.2;exact MY (by show n.slot<o.slot;omega)
 ·rcases List.mem_append.1 hn with hn|hn
  ·exact h.1.2 n hn
  ·exact gn.2 n hn
 ·rcases List.mem_append.1 hn with hn|hn
  ·have:=h.2 n hn;exact⟨this.1,ab⟩
  ·have:=g.1 n hn;exact⟨this.2.1,ab⟩
def KO.of{s k:Int}(g:OL a b s l)(h:s<k):KO k l:=by
 have:=(KO.nil s).app g (Int.le_refl _) h;simpa using this
def KO.nN{k:Int}(h:KO k l)(kd:Nat)(x:bq)(t s:Int):RI ⟨kd,x,t,s,l,tt⟩:=
 (wW _).2 ⟨trivial,by show tt≠ff;decide,fun m hm=>by rw[(h.2 m hm).1];exact fun _ h=>h,h.1.1,Ku.2 h.1.2⟩
theorem O1.mk{k:Int}(h:KO k l)(kd:Nat)(x:bq)(i s:Nat)(h1:a<=i)(h2:i<b):O1 a b s [⟨kd,x,i,s,l,tt⟩]:=by
 refine⟨rfl,fun n hn=>?_,aaW _ _⟩;rw[List.mem_singleton.1 hn];exact⟨h.nN _ _ _ _,rfl,by show (a:Int)<=(i:Int);omega,by show (i:Int)<(b:Int);omega,rfl⟩
theorem ON.mk(k:Int)(kd:Nat)(x:bq)(i s:Nat)(h1:a<=i)(h2:i<b):ON a b s k [⟨kd,x,i,s,[],tt⟩]:=⟨_,rfl,KO.nil k,rfl,by show (a:Int)<=(i:Int);omega,by show (i:Int)<(b:Int);omega,rfl⟩
def ON.o1{s k:Int}(h:ON a b s k l):O1 a b s l:=by
 obtain⟨n,rfl,h1,h2,h3,h4,h5⟩:=h;refine⟨rfl,fun m hm=>?_,aaW _ _⟩;rw[List.mem_singleton.1 hm];obtain⟨kd,x,t,s,ks,d⟩:=n;simp only at h1 h2 h3 h4 h5;subst h2;exact⟨h1.nN _ _ _ _,rfl,h3,h4,h5⟩
def ON.mono{a' b':Nat}{s k:Int}(h:ON a b s k l)(ha:a'<=a)(hb:b<=b'):ON a' b' s k l:=by
 obtain⟨n,e,h1,h2,h3,h4,h5⟩:=h;exact⟨n,e,h1,h2,ab,ab,h5⟩
def ON.up{s k:Int}(h:ON a b s k l)(hk:k<=k'):ON a b s k' l:=by
 obtain⟨n,e,h1,h2,h3⟩:=h;exact⟨n,e,⟨h1.1,fun m hm=>⟨(h1.2 m hm).1,by have:=(h1.2 m hm).2;omega⟩⟩,h2,h3⟩
theorem ON.give{x y:Nat}{s k s':Int}{m:List Nd}(h:ON a b s k l)(g:OL x y s' m)(h1:k<=s')(h2:s'<k'):ON a b s k' (give l m):=by
 obtain⟨n,rfl,h3,h4⟩:=h;exact⟨{ n with kids:=n.kids++m },rfl,h3.app g h1 h2,h4⟩
theorem OL.slot0{s:Int}(h:OL a b s l):OL a b 0 (slot0 l):=by
 refine⟨fun n hn=>?_,?_⟩
 ·obtain⟨m,hm,rfl⟩:=List.mem_map.1 hn;obtain⟨h1,h2,h3,h4,_⟩:=h.1 m hm;exact⟨(wW _).2 ((wW m).1 h1),h2,h3,h4,rfl⟩
 ·unfold Syn.slot0;rw[List.pairwise_map];exact h.2
section
variable {c:bP} {ts:List Tok}
def RX(i:Nat):i<nx c ts (i+1):=rh c ts (i+1)
theorem be.ok{s:Nat}{p:Option Nat}(h:be c ts (some s) p []):∃j,p=some j/\nx c ts s<=nx c ts j:=by
 obtain⟨t,h1,h2,_⟩:=h;rcases h1 with ⟨_,j,rfl,rfl⟩|⟨_,x,e,_⟩
 ·exact⟨j,rfl,h2⟩
 ·cases e
variable{q:PR}{n:Nat}
def Bv{x:dB}(h:bS c ts n x=some q)(w:LL c ts x):be c ts (HH x) q.p q.e:=
 tw n _ _ h w
def pW{p:Nat}{kd s:Nat}(h:(aI ts c (some p) kd s).e=[]):(aI ts c (some p) kd s).p=some (nx c ts p+1)/\∃x,(aI ts c (some p) kd s).l=[⟨kd,x,(nx c ts p:Nat),s,[],tt⟩]:=by
 unfold aI at h |-;simp only[Z9]at h |-;split at h
 ·cases h
 ·rename_i hh;rw[ZV hh];exact⟨rfl,_,rfl⟩
def yA{p:Nat}{s:Nat}(h:(bI ts c (some p) s).e=[]):(bI ts c (some p) s).p=some (nx c ts p+1)/\∃x,(bI ts c (some p) s).l=[⟨5,x,(nx c ts p:Nat),s,[],tt⟩]:=by
 unfold bI at h |-;simp only[Z9]at h |-;split at h
 ·cases h
 ·rename_i hh;rw[ZV hh];exact⟨rfl,_,rfl⟩
def jm{p:Nat}{s:bq}(h:(aW ts c (some p) s).2=[]):(aW ts c (some p) s).1=some (nx c ts p+1):=by
 unfold aW at h |-;simp only[Z9]at h |-;split at h
 ·rename_i hh;rw[aaq hh]
 ·cases h
def j6(p:Nat)(is:Nat->Bool):(qz c ts (some p) is=some (nx c ts p)/\(qz c ts (some p) fun i=>!is i)=none)\/(qz c ts (some p) is=none/\(qz c ts (some p) fun i=>!is i)=some (nx c ts p)):=by
 unfold qz;cases h:is (nx c ts p)<;>simp[Option.filter,h]
def OP(i:Nat):nx c ts i<=nx c ts (nx c ts i+1):=aar (RX _)
def Cl(s t:Nat):dB->List Nd->Prop
 | .line _ _ _ slot,q=>O1 s t slot q
 | .lineL _ _ slot _ l _ _,q=>∀a,a<=s->O1 a s slot l->O1 a t slot q
 | .lineO _ _ slot _ l _,q=>∀a,a<=s->O1 a s slot l->O1 a t slot q
 | .unary _ _ slot,q=>O1 s t slot q
 | .unaryH _ _ slot,q=>O1 s t slot q
 | .calls _ i slot _ names _,q=>∀a j,i=some j->a<=j->j<s->O1 a s slot names->O1 a t slot q
 | .inside _ _ slot,q=>O1 s t slot q
 | .listed _ _ _,q=>OL s t 0 q
 | .listL _ _ l _ _,q=>∀a,a<=s->OL a s 0 l->OL a t 0 q
 | .item _ _ _,q=>O1 s t 0 q
 | .behind _ _ _ _ slot,q=>OL s t slot q
 | .vrb _ _,q=>O1 s t 0 q
 | .function _ _,q=>O1 s t 0 q
 | .block _ _ slot,q=>O1 s t slot q
 | .seqL _ _ _ l _,q=>∀a,a<=s->OL a s 0 l->OL a t 0 q
 | .stmt _ _,q=>O1 s t 0 q
 | .sCalls _ i _ l _,q=>∀a j,i=some j->a<=j->j<s->O1 a s 0 l->O1 a t 0 q
 | .branch _ i slot,q=>∀j,i=some j->j=s->O1 s t slot q
 | .elses _ _ l _,q=>∀a sl,ON a s sl 2 l->ON a t sl 3 q
 | .ifs _ _ l _,q=>∀a sl,ON a s sl 2 l->ON a t sl 3 q
def ke{α:Type}{a b:List α}(h:a++b=[]):a=[]/\b=[]:=List.append_eq_nil_iff.1 h
def Wx(c:bP)(ts:List Tok)(rec:oS):Prop:=∀x q,rec x=some q->LL c ts x->be c ts (HH x) q.p q.e/\∀s t,HH x=some s->q.e=[]->q.p=some t->Cl (nx c ts s) (nx c ts t) x q.l
def Wx.call{rec:oS}(R:Wx c ts rec){x:dB}(h:rec x=some q)(w:LL c ts x){s:Nat}(hs:HH x=some s)(he:q.e=[]):∃t,q.p=some t/\nx c ts s<=nx c ts t/\Cl (nx c ts s) (nx c ts t) x q.l:=by
 obtain⟨h1,h2⟩:=R x q h w;rw[hs,he]at h1;obtain⟨t,h3,h4⟩:=h1.ok;exact⟨t,h3,h4,h2 s t hs he h3⟩
def xO{k o slot:Nat}{l:List Nd}{g:Option Nat}(h:bS c ts n (.lineO k o slot none l g)=some q):q=⟨l,g,[]⟩:=by
 cases n with
 |zero=>cases h
 |succ n=>exact(aaZ h).symm
def MD(R:Wx c ts (bS c ts n)):∀x q,aC c ts (bS c ts n) x=some q->LL c ts x->∀s t,HH x=some s->q.e=[]->q.p=some t->Cl (nx c ts s) (nx c ts t) x q.l:=by
 intro x q e w s t hs he hp;have ge:=fun i=>RX (c:=c) (ts:=ts) i;cases x with
 |line k o p slot=>
  obtain rfl:p=some s:=hs;simp only[aC,ni]at e;split at e
  ·exact(R _ _ e trivial).2 s t rfl he hp
  ·obtain⟨a,ha,e⟩:=dh e;obtain⟨b,hb,e⟩:=dh e;cases e
   obtain⟨e1,e2⟩:=ke he;obtain⟨j,hj,aa,ca⟩:=R.call ha trivial rfl e1;rw[hj]at hb;exact(R _ _ hb (.inr rfl)).2 j t rfl e2 hp _ aa ca
 |lineL k o slot first l g out=>
  simp only[aC,lP]at e;intro a0 ac hl;cases g with
  |none=>
   cases e
   obtain rfl:out=some s:=hs;cases hp;exact hl
  |some p=>
   obtain rfl:out=none:=w.resolve_left (by simp);obtain rfl:p=s:=aaZ hs;simp only at e;split at e
   ·cases e;cases hp;exact hl
   ·obtain⟨a,ha,e⟩:=dh e;obtain⟨b,hb,e⟩:=dh e;cases e
    obtain⟨e1,e2⟩:=ke he;rcases j6 (c:=c) (ts:=ts) p (gK ts k)with ⟨h1,h2⟩|⟨h1,h2⟩
    ·have wa:LL c ts (.lineO k o slot (qz c ts (some p) (gK ts k)) l none):=⟨.inr rfl,pJ _ _,BG⟩;rw[h1]at ha wa;rw[h2]at hb;obtain⟨j,hj,aa,ca⟩:=R.call ha wa rfl e1;rw[ce]at aa ca;rw[hj]at hb;exact(R _ _ hb (.inr rfl)).2 j t rfl e2 hp _ (ZS ac aa) (ca _ ac hl)
    ·rw[h1]at ha;rw[h2]at hb;obtain rfl:=xO ha;have:=(R _ _ hb (.inl rfl)).2 (nx c ts p) t rfl e2 hp a0 (by rw[ce];exact ac) (by rw[ce];exact hl);exact this
 |lineO k o slot op l g=>
  simp only[aC,pY]at e;intro a0 ac hl;cases op with
  |none=>cases e;obtain rfl:g=some s:=hs;cases hp;exact hl
  |some i=>
   obtain rfl:i=s:=aaZ hs;obtain⟨a,ha,e⟩:=dh e;cases e
   have hi:=w.2.1 i rfl;obtain⟨j,hj,aa,ca⟩:=R.call ha trivial rfl he;obtain rfl:j=t:=aaZ (hj.symm.trans hp);have ca:O1 _ _ 1 a.l:=ca;have:=ge i;rw[hi]at ac hl;exact O1.mk ((KO.of hl.2.slot0 (k:=1) ab).app ca.2 (Int.le_refl _) (k':=2) ab) 13 _ i slot ac ab
 |unary o p slot=>
  obtain rfl:p=some s:=hs;have e:bS c ts n (.unaryH o (some (nx c ts s)) slot)=some q:=e;have:=(R _ _ e (fun j hj=>by cases hj;exact ce c ts s)).2 _ t rfl he hp;rw[ce]at this;exact this
 |unaryH o i slot=>
  obtain rfl:i=some s:=hs;have hi:=w s rfl;simp only[aC,fZ]at e;rw[hi];split at e
  ·split at e
   ·cases e;cases he
   ·obtain⟨a,ha,e⟩:=dh e;cases e
    obtain⟨j,hj,aa,ca⟩:=R.call ha trivial rfl he;obtain rfl:j=t:=aaZ (hj.symm.trans hp);have ca:O1 _ _ 0 a.l:=ca;have:=ge s;exact O1.mk (KO.of ca.2 (k:=1) ab) 14 _ s slot (ZR _) ab
  ·split at e
   ·have:=(R _ _ e trivial).2 s t rfl he hp;rw[hi]at this;exact this
   ·split at e
    ·cases e;cases hp;exact O1.mk (KO.nil 0) 15 _ s slot (ZR _) (ge s)
    ·split at e
     ·cases e;cases hp;exact O1.mk (KO.nil 0) 16 _ s slot (ZR _) (ge s)
     ·split at e
      ·cases e;cases hp;exact O1.mk (KO.nil 0) 17 _ s slot (ZR _) (ge s)
      ·obtain⟨b,hb,e⟩:=dh e;cases e
       obtain⟨e1,e2⟩:=ke he;obtain⟨n1,x,n2⟩:=pW e1;rw[hi]at n1 n2;rw[n1,n2]at hb;have wb:LL c ts (.calls o (some s) slot (qz c ts (some (s+1)) (pi ts eM)) [⟨18,x,(s:Nat),slot,[],tt⟩] (qz c ts (some (s+1)) fun i=>!pi ts eM i)):=⟨jz _ _,pJ _ _,fun k hk=>⟨s,rfl,by
        rcases j6 (c:=c) (ts:=ts) (s+1) (pi ts eM)with ⟨h1,h2⟩|⟨h1,h2⟩
        ·rw[h1]at hk;cases hk;have:=ge s;omega
        ·rw[h1]at hk;cases hk⟩⟩
       have aj:HH (.calls o (some s) slot (qz c ts (some (s+1)) (pi ts eM)) [⟨18,x,(s:Nat),slot,[],tt⟩] (qz c ts (some (s+1)) fun i=>!pi ts eM i))=some (nx c ts (s+1)):=rE _ _;have cb:=(R _ _ hb wb).2 _ t aj e2 hp s s rfl (ZR _) (by rw[ce];exact ge s) (by rw[ce];exact O1.mk (KO.nil 0) 18 x s slot (ZR _) (ge s));exact cb
 |calls o i slot x names g=>
  simp only[aC,nY]at e;obtain⟨w1,w2,w3⟩:=w;intro a0 j hj h1 h2 hl;subst hj;cases x with
  |none=>cases e;obtain rfl:g=some s:=hs;cases hp;exact hl
  |some k=>
   obtain rfl:k=s:=aaZ hs;obtain⟨a,ha,e⟩:=dh e;cases e
   obtain⟨t',ht,aa,ca⟩:=R.call ha trivial rfl he;obtain rfl:t'=t:=aaZ (ht.symm.trans hp);have ca:OL _ _ 0 a.l:=ca;exact O1.mk (KO.of ca (k:=1) ab) 19 _ j slot h1 ab
 |inside o p slot=>
  obtain rfl:p=some s:=hs;simp only[aC,il,Z9]at e;split at e
  ·cases e;cases he
  ·split at e
   ·cases e;cases he
   ·obtain⟨a,ha,e⟩:=dh e;cases e
    obtain⟨e1,e2⟩:=ke he;obtain⟨j,hj,aa,ca⟩:=R.call ha trivial rfl e1;have ca:O1 _ _ slot a.l:=ca;rw[hj]at e2 hp;rw[jm e2]at hp;cases hp
    have h1:=ge (nx c ts s);have h2:=ge (nx c ts j);exact ca.mono ab ab
 |listed par o p=>
  obtain rfl:p=some s:=hs;simp only[aC,ij,Z9]at e;split at e
  ·cases e;cases he
  ·split at e
   ·cases e;cases he
   ·obtain⟨a,ha,e⟩:=dh e;cases e
    obtain⟨e1,e2⟩:=ke he;have aj:HH (.listL par (o+1) [] (qz c ts (some (nx c ts s+1)) fun i=>!pi ts fK i) (qz c ts (some (nx c ts s+1)) (pi ts fK)))=some (nx c ts (nx c ts s+1)):=sr _ _;obtain⟨j,hj,aa,ca⟩:=R.call ha (jz _ _).symm aj e1;have ca:=ca _ (ZR _) (OL.nil _ _ 0);rw[ce]at ca aa;rw[hj]at e2 hp;rw[jm e2]at hp;cases hp
    have h1:=ge (nx c ts s);have h2:=ge (nx c ts j);exact ca.mono ab ab
 |listL par o l g fin=>
  simp only[aC,oU]at e;intro a0 ac hl;cases g with
  |none=>cases e;obtain rfl:fin=some s:=hs;cases hp;exact hl
  |some p=>
   obtain rfl:p=s:=aaZ hs;obtain⟨a,ha,e⟩:=dh e;obtain⟨b,hb,e⟩:=dh e;cases e
   obtain⟨e1,e2⟩:=ke he;obtain⟨j,hj,aa,ca⟩:=R.call ha trivial rfl e1;have ca:O1 _ _ 0 a.l:=ca;rw[hj]at hb;have al:=hl.app ca.2 ac aa;rcases j6 (c:=c) (ts:=ts) j (pi ts bB)with ⟨h1,h2⟩|⟨h1,h2⟩
   ·rw[h1,h2]at hb;simp only[Z9]at hb;have h3:=OP (c:=c) (ts:=ts) j;exact(R _ _ hb (.inr rfl)).2 _ t rfl e2 hp _ ab (al.mono (ZR _) h3)
   ·rw[h1,h2]at hb;exact(R _ _ hb (.inl rfl)).2 _ t rfl e2 hp _ (by rw[ce];omega) (by rw[ce];exact al)
 |item par o p=>
  obtain rfl:p=some s:=hs;simp only[aC,ro]at e;cases par with
  |true=>
   simp only[ZT]at e;cases e
   obtain⟨e12,e3⟩:=ke he;obtain⟨e1,e2⟩:=ke e12;obtain⟨n1,x,n2⟩:=pW e1;rw[n1]at e2 e3 hp;have t1:=jm e2;rw[t1]at e3 hp;obtain⟨y1,y,y2⟩:=yA e3;rw[y1]at hp;cases hp
   show O1 _ _ 0 (give (aI ts c (some s) 4 0).l (bI ts c (aW ts c (aI ts c (some s) 4 0).p bA).1 0).l);rw[n1,t1,n2,y2];have h1:=ge (nx c ts s);have h2:=ge (nx c ts (nx c ts s+1));have h3:=ge (nx c ts (nx c ts (nx c ts s+1)+1));exact((ON.mk (a:=nx c ts s) (b:=nx c ts (nx c ts (nx c ts (nx c ts s+1)+1)+1)) 0 4 x (nx c ts s) 0 (ZR _) ab).give (O1.mk (KO.nil 0) 5 y _ 0 (ZR _) (aba _)).2 (Int.le_refl _) (k':=1) ab).o1
  |false=>exact(R _ _ e trivial).2 s t rfl he hp
 |behind typ o p sign slot=>
  obtain rfl:p=some s:=hs;simp only[aC,kh]at e;obtain⟨a,ha,e⟩:=dh e;cases e
  rcases j6 (c:=c) (ts:=ts) s (pi ts sign)with ⟨h1,h2⟩|⟨h1,h2⟩
  ·rw[h1]at ha;simp only[Z9]at ha;rw[h2]at hp;simp only[Option.none_or]at hp;unfold fy at ha;have h3:=ge (nx c ts s);cases typ with
   |true=>
    simp only[ZT]at ha;cases ha
    obtain⟨y1,y,y2⟩:=yA he;rw[y1]at hp;cases hp
    show OL _ _ slot (bI ts c _ slot).l;rw[y2];have h4:=ge (nx c ts (nx c ts s+1));exact(O1.mk (KO.nil 0) 5 y _ slot ab h4).2
   |false=>
    have ca:O1 _ _ slot a.l:=(R _ _ ha trivial).2 _ t rfl he hp;exact ca.2.mono ab (ZR _)
  ·rw[h1]at ha;rw[h2]at hp;have hl:a.l=[]:=by
    unfold fy at ha;cases typ with
    |true=>simp only[ZT]at ha;cases ha;rfl
    |false=>
     have:=PV.noneLine (c:=c) (ts:=ts) ⟨n,ha⟩;rw[this];rfl
   show OL _ _ slot a.l;rw[hl];exact OL.nil _ _ _
 |vrb o p=>
  obtain rfl:p=some s:=hs;simp only[aC,gZ]at e;obtain⟨d,hd,e⟩:=dh e;cases e
  obtain⟨e1234,e5⟩:=ke he;obtain⟨e123,e4⟩:=ke e1234;obtain⟨e12,e3⟩:=ke e123;obtain⟨e1,e2⟩:=ke e12;obtain⟨n1,x,n2⟩:=pW e1;rw[n1]at e2 e3 hd;have t1:=jm e2;rw[t1]at e3 hd;obtain⟨y1,y,y2⟩:=yA e3;rw[y1]at hd;obtain⟨j,hj,aa,cd⟩:=R.call hd (by show su≠[];decide) rfl e4;have cd:OL _ _ 1 d.l:=cd;rw[hj]at e5 hp;rw[jm e5]at hp;cases hp
  show O1 _ _ 0 (give (give (aI ts c (some s) 2 0).l (bI ts c (aW ts c (aI ts c (some s) 2 0).p bA).1 0).l) d.l);rw[n1,t1,n2,y2];have h1:=ge (nx c ts s);have h2:=ge (nx c ts (nx c ts s+1));have h3:=ge (nx c ts (nx c ts (nx c ts s+1)+1));have h4:=ge (nx c ts j);exact(((ON.mk (a:=nx c ts s) (b:=nx c ts (nx c ts j+1)) 0 2 x (nx c ts s) 0 (ZR _) ab).give (O1.mk (KO.nil 0) 5 y _ 0 (ZR _) (aba _)).2 (Int.le_refl _) (k':=1) ab).give cd (Int.le_refl _) (k':=2) ab).o1
 |function o p=>
  obtain rfl:p=some s:=hs;simp only[aC,gY]at e;obtain⟨b,hb,e⟩:=dh e;obtain⟨d,hd,e⟩:=dh e;obtain⟨f,hf,e⟩:=dh e;cases e
  obtain⟨e123,e4⟩:=ke he;obtain⟨e12,e3⟩:=ke e123;obtain⟨e1,e2⟩:=ke e12;obtain⟨n1,x,n2⟩:=pW e1;rw[n1]at hb;obtain⟨j,hj,aa,cb⟩:=R.call hb trivial rfl e2;have cb:OL _ _ 0 b.l:=cb;rw[hj]at hd;obtain⟨k,hk,ag,cd⟩:=R.call hd (by show bA≠[];decide) rfl e3;have cd:OL _ _ 1 d.l:=cd;rw[hk]at hf;obtain⟨m,hm,ak,cf⟩:=R.call hf trivial rfl e4;have cf:O1 _ _ 2 f.l:=cf;obtain rfl:m=t:=aaZ (hm.symm.trans hp);show O1 _ _ 0 (give (give (give (aI ts c (some s) 3 0).l b.l) d.l) f.l);rw[n2];have h1:=ge (nx c ts s);exact((((ON.mk (a:=nx c ts s) (b:=nx c ts m) 0 3 x (nx c ts s) 0 (ZR _) ab).give cb (Int.le_refl _) (k':=1) ab).give cd (Int.le_refl _) (k':=2) ab).give cf.2 (Int.le_refl _) (k':=3) ab).o1
 |block o p slot=>
  obtain rfl:p=some s:=hs;simp only[aC,jI,Z9]at e;split at e
  ·cases e;cases he
  ·split at e
   ·cases e;cases he
   ·obtain⟨a,ha,e⟩:=dh e;cases e
    obtain⟨e1,e2⟩:=ke he;obtain⟨j,hj,aa,ca⟩:=R.call ha (.inr rfl) rfl e1;have ca:=ca _ (ZR _) (OL.nil _ _ 0);rw[hj]at e2 hp;rw[jm e2]at hp;cases hp
    have h1:=ge (nx c ts s);have h2:=ge (nx c ts j);exact O1.mk (KO.of ca (k:=1) ab) 6 _ _ slot (ZR _) ab
 |seqL top o p l out=>
  simp only[aC,nE]at e;intro a0 ac hl;cases p with
  |none=>cases e;obtain rfl:out=some s:=hs;cases hp;exact hl
  |some p=>
   obtain rfl:p=s:=aaZ hs;simp only[Z9]at e;split at e
   ·cases e;cases hp;rw[ce];exact hl
   ·obtain⟨a,ha,e⟩:=dh e;obtain⟨b,hb,e⟩:=dh e;cases e
    obtain⟨e1,e2⟩:=ke he;have ka:∃j,a.p=some j/\nx c ts p<=nx c ts j/\O1 (nx c ts p) (nx c ts j) 0 a.l:=by
     unfold md at ha;have h1:=ge (nx c ts p);cases top with
     |true=>
      simp only[ZT]at ha;unfold vF at ha;split at ha
      ·obtain⟨j,hj,aa,ca⟩:=R.call ha trivial rfl e1;have ca:O1 _ _ 0 a.l:=ca;exact⟨j,hj,ab,ca.mono ab (ZR _)⟩
      ·split at ha
       ·obtain⟨j,hj,aa,ca⟩:=R.call ha trivial rfl e1;have ca:O1 _ _ 0 a.l:=ca;exact⟨j,hj,ab,ca.mono ab (ZR _)⟩
       ·cases ha;cases e1
     |false=>
      obtain⟨j,hj,aa,ca⟩:=R.call ha (fun j hj=>by cases hj;exact ce c ts p) rfl e1;have ca:O1 _ _ 0 a.l:=ca;rw[ce]at aa ca;exact⟨j,hj,aa,ca⟩
    obtain⟨j,hj,aa,ca⟩:=ka;rw[hj]at hb;exact(R _ _ hb (.inr rfl)).2 _ t rfl e2 hp _ ab (hl.app ca.2 ac aa)
 |stmt o i=>
  obtain rfl:i=some s:=hs;have hi:=w s rfl;have h0:=ge s;simp only[aC,gM]at e;rw[hi];have wd:∀kd b,s<b->ON s b 0 0 (jP kd (some s) 0):=fun kd b hb=>ON.mk 0 kd [] s 0 (ZR _) hb;split at e
  ·have ca:O1 _ _ 0 q.l:=(R _ _ e trivial).2 _ t rfl he hp;exact ca.mono ab (ZR _)
  split at e
  ·rename_i h2;have ca:O1 _ _ 0 q.l:=(R _ _ e (Lt.of (gx (by rw[h2];decide)))).2 _ t rfl he hp s rfl hi.symm;rw[hi]at ca;exact ca
  split at e
  ·obtain⟨a,ha,e⟩:=dh e;obtain⟨b,hb,e⟩:=dh e;cases e
   obtain⟨e1,e2⟩:=ke he;obtain⟨j,hj,aa,ca⟩:=R.call ha trivial rfl e1;have ca:O1 _ _ 0 a.l:=ca;rw[hj]at hb;obtain⟨k,hk,ag,cb⟩:=R.call hb trivial rfl e2;have cb:O1 _ _ 1 b.l:=cb;obtain rfl:k=t:=aaZ (hk.symm.trans hp);exact(((wd 9 _ ab).give ca.2 (Int.le_refl _) (k':=1) ab).give cb.2 (Int.le_refl _) (k':=2) ab).o1
  split at e
  ·have ca:O1 _ _ 0 q.l:=(R _ _ e trivial).2 _ t rfl he hp;rw[hi]at ca;exact ca
  split at e
  ·obtain⟨a,ha,e⟩:=dh e;cases e
   obtain⟨e1,e2⟩:=ke he;rcases j6 (c:=c) (ts:=ts) (s+1) (pi ts a8)with ⟨h1,h2⟩|⟨h1,h2⟩
   ·rw[h2]at ha;have:=PV.noneLine (c:=c) (ts:=ts) ⟨n,ha⟩;subst this;rw[h1]at e2 hp;simp only[ap,Option.none_or]at e2 hp;rw[jm e2]at hp;cases hp
    have h3:=ge (nx c ts (nx c ts (s+1)));rw[ce]at h3 |-;exact(show ON s _ 0 0 (give (jP 10 (some s) 0) []) from by rw[kF];exact wd 10 _ ab).o1
   ·rw[h2]at ha;obtain⟨j,hj,aa,ca⟩:=R.call ha trivial rfl e1;have ca:O1 _ _ 0 a.l:=ca;rw[ce]at aa ca;rw[hj,h1]at e2 hp;simp only[Option.or_none]at e2 hp;rw[jm e2]at hp;cases hp
    have h3:=ge (nx c ts j);exact((wd 10 _ ab).give ca.2 (Int.le_refl _) (k':=1) ab).o1
  split at e
  ·obtain⟨a,ha,e⟩:=dh e;cases e
   obtain⟨e1,e2⟩:=ke he;obtain⟨j,hj,aa,ca⟩:=R.call ha trivial rfl e1;have ca:O1 _ _ 0 a.l:=ca;rw[hj]at e2 hp;rw[jm e2]at hp;cases hp
   have h3:=ge (nx c ts j);exact((wd _ _ ab).give ca.2 (Int.le_refl _) (k':=1) ab).o1
  obtain⟨b,hb,e⟩:=dh e;obtain⟨d,hd,e⟩:=dh e;cases e
  obtain⟨e1234,e5⟩:=ke he;obtain⟨e123,e4⟩:=ke e1234;obtain⟨e12,e3⟩:=ke e123;obtain⟨e1,e2⟩:=ke e12;obtain⟨n1,x,n2⟩:=pW e1;rw[hi]at n1 n2;rw[n1]at hb hd e2;rw[n2]at hd;rcases j6 (c:=c) (ts:=ts) (s+1) (pi ts eM)with ⟨h1,h2⟩|⟨h1,h2⟩
  ·have wd2:PU c ts (qz c ts (some (s+1)) (pi ts eM)):=pJ _ _;rw[h2]at hb;have:=PV.noneLine (c:=c) (ts:=ts) ⟨n,hb⟩;subst this;rw[h1]at hd wd2;obtain⟨j,hj,aa,cd⟩:=R.call hd ⟨.inr rfl,wd2,fun k hk=>by cases hk;exact⟨s,rfl,ab⟩⟩ rfl e4;rw[ce]at aa cd;have cd:O1 _ _ 0 d.l:=cd s s rfl (ZR _) h0 (O1.mk (KO.nil 0) 7 x s 0 (ZR _) h0);rw[hj]at e5 hp;rw[jm e5]at hp;cases hp
   have h3:=ge (nx c ts j);exact cd.mono (ZR _) ab
  ·rw[h2]at hb e2;have t1:=jm e2;rw[ce]at t1;rw[t1]at hb;obtain⟨j,hj,aa,cb⟩:=R.call hb trivial rfl e3;have cb:O1 _ _ 0 b.l:=cb;rw[h1,hj]at hd;obtain⟨k,hk,ag,cd⟩:=R.call hd ⟨.inl rfl,fun j hj=>(by cases hj),fun k hk=>(by cases hk)⟩ rfl e4;have aq:=ge (nx c ts (s+1));have cd:O1 _ _ 0 d.l:=cd s s rfl (ZR _) ab (((ON.mk (a:=s) (b:=nx c ts j) 0 7 x s 0 (ZR _) ab).give cb.2 (Int.le_refl _) (k':=1) ab).o1);rw[hk]at e5 hp;rw[jm e5]at hp;cases hp
   have h3:=ge (nx c ts k);exact cd.mono (ZR _) ab
 |sCalls o i x l g=>
  simp only[aC,lu]at e;obtain⟨w1,w2,w3⟩:=w;intro a0 j hj h1 h2 hl;subst hj;cases x with
  |none=>cases e;obtain rfl:g=some s:=hs;cases hp;exact hl
  |some k=>
   obtain rfl:k=s:=aaZ hs;obtain⟨a,ha,e⟩:=dh e;cases e
   obtain⟨t',ht,aa,ca⟩:=R.call ha trivial rfl he;obtain rfl:t'=t:=aaZ (ht.symm.trans hp);have ca:OL _ _ 0 a.l:=ca;exact O1.mk (KO.of ca (k:=1) ab) 19 _ j 0 h1 ab
 |branch o i slot=>
  obtain rfl:i=some s:=hs;simp only[aC,ku,Z9]at e;intro j0 am ao;obtain rfl:s=j0:=aaZ am;obtain⟨a,ha,e⟩:=dh e;obtain⟨b,hb,e⟩:=dh e;obtain⟨d,hd,e⟩:=dh e;cases e
  obtain⟨e12,e3⟩:=ke he;obtain⟨e1,e2⟩:=ke e12;obtain⟨j,hj,aa,ca⟩:=R.call ha trivial rfl e1;have ca:O1 _ _ 0 a.l:=ca;rw[hj]at hb;obtain⟨k,hk,ag,cb⟩:=R.call hb trivial rfl e2;have cb:O1 _ _ 1 b.l:=cb;rw[hk]at hd;have aj:HH (.elses o (qz c ts (some k) (pi ts dr)) (give (give (jP 8 (some s) slot) a.l) b.l) (qz c ts (some k) fun i=>!pi ts dr i))=some (nx c ts k):=rE _ _;obtain⟨m,hm,ak,cd⟩:=R.call hd ⟨jz _ _,sG bg⟩ aj e3;obtain rfl:m=t:=aaZ (hm.symm.trans hp);rw[ce]at ak cd;have h1:=ge s;have hn:=cd (nx c ts s) slot (((ON.mk (a:=nx c ts s) (b:=nx c ts k) 0 8 [] s slot ab ab).give ca.2 (Int.le_refl _) (k':=1) ab).give cb.2 (Int.le_refl _) (k':=2) ab);exact hn.o1
 |elses o x l out=>
  simp only[aC,nP]at e;intro a0 sl hl;cases x with
  |none=>cases e;obtain rfl:out=some s:=hs;cases hp;exact hl.up ab
  |some j=>
   obtain rfl:out=none:=w.1.resolve_left (by simp);obtain rfl:j=s:=aaZ hs;obtain⟨a,ha,e⟩:=dh e;obtain⟨b,hb,e⟩:=dh e;cases e
   obtain⟨e1,e2⟩:=ke he;have h0:=Rz (c:=c) (ts:=ts) j;rcases j6 (c:=c) (ts:=ts) (j+1) (pi ts kT)with ⟨h1,h2⟩|⟨h1,h2⟩
   ·have wb:=pJ (c:=c) (ts:=ts) (some (j+1)) (pi ts kT);have wl:=sG (c:=c) (p:=some (j+1)) (ts:=ts) (s:=kT) bg;rw[h2]at ha;have:=PV.noneBlock (c:=c) (ts:=ts) ⟨n,ha⟩;subst this;rw[h1]at hb wb wl;have cb:=(R _ _ hb ⟨.inr rfl,wb,wl⟩).2 _ t rfl e2 hp a0 sl;rw[ce]at cb;refine cb (ON.mono ?_ (ZR _) h0);show ON _ _ _ _ (give l []);rw[kF];exact hl
   ·rw[h2]at ha;obtain⟨k,hk,aa,ca⟩:=R.call ha trivial rfl e1;rw[ce]at aa ca;have ca:O1 _ _ 2 a.l:=ca;have an:b=⟨give l a.l,a.p,[]⟩:=by
     rw[h1]at hb;cases n with
     |zero=>cases hb
     |succ n=>exact(aaZ hb).symm
    subst an;obtain rfl:k=t:=aaZ (hk.symm.trans hp);exact(hl.give ca.2 (Int.le_refl _) (k':=3) ab).mono (ZR _) ab
 |ifs o y l out=>
  simp only[aC,BV]at e;obtain⟨w1,w2,w3⟩:=w;intro a0 sl hl;cases y with
  |none=>cases e;obtain rfl:out=some s:=hs;cases hp;exact hl.up ab
  |some j=>
   obtain rfl:j=s:=aaZ hs;simp only at e;split at e
   ·cases e;cases he
   ·obtain⟨a,ha,e⟩:=dh e;cases e
    obtain⟨k,hk,aa,ca⟩:=R.call ha w3 rfl he;have ca:O1 _ _ 2 a.l:=ca j rfl (w2 j rfl).symm;obtain rfl:k=t:=aaZ (hk.symm.trans hp);exact(hl.give ca.2 (Int.le_refl _) (k':=3) ab).mono (ZR _) aa
def An:∀n,Wx c ts (bS c ts n)
 |0=>fun x q e=>by cases e
 |n+1=>fun x q e w=>⟨Bv e w,MD (An n) x q e w⟩
end
end Syn
namespace Go.Proofs.YtfaclfkpnmcmlaaGreatDoor
open Go Go.Sx Dg Syn
def fG(c:bP)(l:List Syn.Tok):List Syn.Tok:=l.filter fun t=>t.cond.at' c
def jY(c:bP):List Syn.Tok->Nat->List Nat
 | [],_=>[]
 |t::l,i=>if t.cond.at' c then i::jY c l (i+1)else jY c l (i+1)
def cn(c:bP)(ts:List Syn.Tok)(p:Nat):Nat:=(fG c (ts.take p)).length
def s9(c:bP):∀(l:List Syn.Tok) (i:Nat),(jY c l i).length=(fG c l).length
 | [],i=>rfl
 |t::l,i=>by
  unfold jY fG;rw[aby];split<;>simp[s9 c l (i+1),fG]
def AS(c:bP):∀(l m:List Syn.Tok) (i:Nat),jY c (l++m) i=jY c l i++jY c m (i+l.length)
 | [],m,i=>rfl
 |t::l,m,i=>by
  simp only[aaz,jY,AS c l m (i+1),aaj,show i+1+l.length=i+(l.length+1) by omega];split<;>rfl
def x9(c:bP):∀(l:List Syn.Tok) (i:Nat),lm c l i<=i+l.length
 | [],i=>ZR _
 |t::l,i=>by
  simp only[lm];split
  ·omega
  ·have:=x9 c l (i+1);simp only[aaj];omega
def pG(c:bP):∀(l:List Syn.Tok) (i:Nat),(fG c l)[0]?=l[lm c l i-i]?/\(jY c l i)[0]?=(if lm c l i<i+l.length then some (lm c l i)else none)/\fG c (l.take (lm c l i-i))=[]/\(∀t,l[lm c l i-i]?=some t->t.cond.at' c=true)
 | [],i=>by simp[lm,fG,jY]
 |t::l,i=>by
  cases h:t.cond.at' c with
  |true=>simp[lm,fG,jY,h]
  |false=>
   obtain⟨h1,h2,h3,h4⟩:=pG c l (i+1);have hg:=(kz c l (i+1)).1;have e:lm c (t::l) i=lm c l (i+1):=by simp[lm,h]
   have e2:lm c l (i+1)-i=(lm c l (i+1)-(i+1))+1:=by omega
   have e3:fG c (t::l)=fG c l:=by simp[fG,h]
   have e4:jY c (t::l) i=jY c l (i+1):=by simp[jY,h]
   rw[e,e2,e3,e4,abi,abA];refine⟨h1,?_,?_,h4⟩
   ·rw[h2];simp only[aaj,show i+1+l.length=i+(l.length+1) by omega]
   ·unfold fG at h3 |-;rw[aby,h];exact h3
section
variable {c:bP} {ts:List Syn.Tok}
def zH(p:Nat):fG c ts=fG c (ts.take p)++fG c (ts.drop p):=by
 unfold fG;rw[<-List.filter_append,abq]
def yI{p:Nat}(hp:p<=ts.length):nx c ts p<=ts.length:=by
 have:=x9 c (ts.drop p) p;unfold nx;simp only[abD]at this;omega
def KE{p:Nat}(hp:p<=ts.length):(fG c ts)[cn c ts p]?=ts[nx c ts p]?:=by
 have h:=(pG c (ts.drop p) p).1;show (fG c ts)[(fG c (ts.take p)).length]?=_;rw[zH p,aaH (ZR _),Nat.sub_self,h,Z1];have:=rh c ts p;unfold nx at this |-;congr 1;omega
def Wd{p:Nat}(hp:p<=ts.length):vW (jY c ts 0) ts.length (cn c ts p)=nx c ts p:=by
 have h:=(pG c (ts.drop p) p).2.1;have e:jY c ts 0=jY c (ts.take p) 0++jY c (ts.drop p) p:=by
  have:=AS c (ts.take p) (ts.drop p) 0;rw[abq,abF,ZZ,aaN hp]at this;exact this
 have aa:=yI (c:=c) hp;unfold vW;rw[List.getD_eq_getElem?_getD,e,aaH (by rw[s9];exact ZR _),s9,show cn c ts p-(fG c (ts.take p)).length=0 from Nat.sub_self _,h];unfold nx at aa |-;simp only[abD];split
 ·rfl
 ·show ts.length=_;omega
def vz{p:Nat}:cn c ts (nx c ts p)=cn c ts p:=by
 have h:=(pG c (ts.drop p) p).2.2.1;have hg:=rh c ts p;unfold cn;have e:ts.take (nx c ts p)=ts.take p++(ts.drop p).take (nx c ts p-p):=by
  conv=>lhs;rw[show nx c ts p=p+(nx c ts p-p) by omega,List.take_add]
 rw[e];unfold fG at h |-;rw[List.filter_append];unfold nx;rw[h,aa6]
def l6{p:Nat}(h:nx c ts p<ts.length):cn c ts (nx c ts p+1)=cn c ts p+1:=by
 have hg:=rh c ts p;have h4:=(pG c (ts.drop p) p).2.2.2 ts[nx c ts p] (by rw[Z1];unfold nx at h hg |-;rw[show p+(lm c (ts.drop p) p-p)=lm c (ts.drop p) p by omega];exact aak h);rw[<-vz (p:=p)];unfold cn;rw[aaM h];unfold fG;rw[List.filter_append,aby,h4];simp
def VG{p:Nat}(hp:p<=ts.length):mB (fG c ts) (cn c ts p)=X ts (nx c ts p):=by
 unfold mB;rw[KE hp];unfold X cQ;cases ts[nx c ts p]? with
 |none=>rfl
 |some t=>simp only;split<;>rfl
def VU{p:Nat}(hp:p<=ts.length):FU (fG c ts) (cn c ts p)=K ts (nx c ts p):=by
 unfold FU;rw[KE hp];unfold K cQ;cases ts[nx c ts p]? with
 |none=>rfl
 |some t=>simp only;split<;>rfl
def gx{i:Nat}(h:X ts i≠[]):i<ts.length:=by
 rcases aaf i ts.length with h1|h1
 ·exact h1
 ·exact absurd (by unfold X cQ;rw[aan h1]) h
def JY{F:List Syn.Tok}{a:Nat}(h:mB F a≠[]):a<F.length:=by
 rcases aaf a F.length with h1|h1
 ·exact h1
 ·exact absurd (by unfold mB;rw[aan h1]) h
variable (c ts)
def Sg(s:PS)(p:Option Nat)(o:Nat)(e:List (Nat×Int)):Prop:=s.pos<=(fG c ts).length/\match p with
 |some t=>s.bad=false/\s.opn=(o:Int)/\s.pos=cn c ts t/\t<=ts.length/\o<=64/\e=[]
 |none=>s.bad=true/\e=[(s.code,s.tok)]
abbrev pS(s:PS):bq:=mB (fG c ts) s.pos
abbrev zi(s:PS)(k:Nat):PS:=l8 (jY c ts 0) ts.length s k
abbrev xP(s:PS)(x:bq):PS:=i8 (fG c ts) (jY c ts 0) ts.length s x
abbrev iB(s:PS)(x:bq):PS:=jL (fG c ts) (jY c ts 0) ts.length s x
abbrev Bb(s:PS)(x:bq):PS:=Fu (fG c ts) (jY c ts 0) ts.length s x
variable {c ts}
variable {s:PS} {o:Nat} {e:List (Nat×Int)} {p:Option Nat} {t:Nat}
def Sg.le(h:Sg c ts s p o e):s.pos<=(fG c ts).length:=h.1
def Sg.tx(h:Sg c ts s (some t) o e):pS c ts s=X ts (nx c ts t):=by
 obtain⟨_,_,_,h1,h2,_⟩:=h;unfold pS;rw[h1];exact VG h2
def Sg.kd(h:Sg c ts s (some t) o e):FU (fG c ts) s.pos=K ts (nx c ts t):=by
 obtain⟨_,_,_,h1,h2,_⟩:=h;rw[h1];exact VU h2
theorem Sg.tk(h:Sg c ts s (some t) o e):vW (jY c ts 0) ts.length s.pos=nx c ts t:=by
 obtain⟨_,_,_,h1,h2,_⟩:=h;rw[h1];exact Wd h2
theorem Sg.nx(h:Sg c ts s (some t) o e):Sg c ts s (some (Syn.nx c ts t)) o e:=by
 obtain⟨h0,h1,h2,h3,h4,h5⟩:=h;exact⟨h0,h1,h2,by rw[vz];exact h3,yI h4,h5⟩
def Sg.bad(h:Sg c ts s p o e):s.bad=p.isNone:=by
 cases p with
 |none=>exact h.2.1
 |some t=>exact h.2.1
def Sg.nil(h:Sg c ts s (some t) o e):e=[]:=h.2.2.2.2.2.2
def Sg.any(h:Sg c ts s none o e)(o':Nat):Sg c ts s none o' e:=h
def Sg.to(h:Sg c ts s none o e){s':PS}(o':Nat)(h1:s'.bad=s.bad)(h2:s'.code=s.code)(h3:s'.tok=s.tok)(h4:s'.pos<=(fG c ts).length):Sg c ts s' none o' e:=
 ⟨h4,by rw[h1];exact h.2.1,by rw[h2,h3];exact h.2.2⟩
theorem Sg.adv(h:Sg c ts s (some t) o e)(hx:pS c ts s≠[]):Sg c ts { s with pos:=s.pos+1 } (some (Syn.nx c ts t+1)) o e:=by
 have aa:=hx;rw[h.tx]at hx;obtain⟨h0,h1,h2,h3,h4,h5⟩:=h;have:=gx hx;exact⟨JY aa,h1,h2,by rw[l6 this,<-h3],this,h5⟩
def Sg.advb(h:Sg c ts s none o e)(hx:pS c ts s≠[])(o':Nat):Sg c ts { s with pos:=s.pos+1 } none o' e:=h.to o' rfl rfl rfl (JY hx)
def Sg.fail(h:Sg c ts s (some t) o e)(k o':Nat):Sg c ts (zi c ts s k) none o' (e++[(k,((Syn.nx c ts t:Nat):Int))]):=by
 have ht:=h.tk;have he:=h.nil;obtain⟨h0,h1,h2,h3,h4,h5⟩:=h;unfold zi l8;rw[ZV (by rw[h1];decide),ht,he];exact⟨h0,rfl,rfl⟩
def Sg.failb(h:Sg c ts s none o e)(k o':Nat):Sg c ts (zi c ts s k) none o' e:=by
 unfold zi l8;rw[aaq h.2.1];exact h
variable{x:bq}
theorem Sg.take(h:Sg c ts s p o e)(hx:x≠[]):Sg c ts (xP c ts s x) (aW ts c p x).1 o (e++(aW ts c p x).2):=by
 unfold xP i8 aW;cases p with
 |none=>
  simp only[aac,aa6];split
  ·rename_i h1;exact h.advb (by rw[show pS c ts s=x from h1];exact hx) o
  ·exact h.failb 10 o
 |some t=>
  have e1:=h.tx;simp only[Z9];split
  ·rename_i h1;rw[aaq (by rw[<-e1];exact h1)];have:=h.adv (by rw[show pS c ts s=x from h1];exact hx);simpa using this
  ·rename_i h1;rw[ZV (by rw[<-e1];exact h1)];exact h.fail 10 o
def Hq{n:Nat}(h:n<2^62):IntKind.i64.wrap (n:Int)=(n:Int):=wrap64 h
def Sg.leave(h:Sg c ts s p (o+1) e)(hx:x≠[]):Sg c ts (Bb c ts s x) (aW ts c p x).1 o (e++(aW ts c p x).2):=by
 have k:=h.take hx;show Sg c ts { xP c ts s x with opn:=IntKind.i64.wrap ((xP c ts s x).opn-1) } _ _ _;generalize (aW ts c p x).1=p' at k |-;generalize e++(aW ts c p x).2=e' at k |-;generalize xP c ts s x=s' at k |-;cases p' with
 |none=>exact k.to o rfl rfl rfl k.1
 |some t=>
  obtain⟨h0,h1,h2,h3,h4,h5,h6⟩:=k;refine⟨h0,h1,?_,h3,h4,ab,h6⟩;show IntKind.i64.wrap (s'.opn-1)=_;rw[h2,show ((o+1:Nat):Int)-1=(o:Int) by omega];exact Hq ab
def Sg.enterb(h:Sg c ts s none o e)(hx:x≠[])(o':Nat):Sg c ts (iB c ts s x) none o' e:=by
 unfold iB jL;split
 ·rename_i h1;split
  ·exact h.failb 11 o'
  ·exact h.to o' rfl rfl rfl (JY (by rw[show mB _ _=x from h1];exact hx))
 ·exact h.failb 10 o'
def Sg.enter1(h:Sg c ts s (some t) o e)(hx:X ts (Syn.nx c ts t)≠x)(o':Nat):Sg c ts (iB c ts s x) none o' (e++[(10,((Syn.nx c ts t:Nat):Int))]):=by
 unfold iB jL;rw[ZV (by rw[show mB _ _=_ from h.tx];exact hx)];exact h.fail 10 o'
def Sg.enter2(h:Sg c ts s (some t) o e)(hx:X ts (Syn.nx c ts t)=x)(ho:o=64)(o':Nat):Sg c ts (iB c ts s x) none o' (e++[(11,((Syn.nx c ts t:Nat):Int))]):=by
 unfold iB jL;rw[aaq (by rw[show mB _ _=_ from h.tx];exact hx),aaq (by have:=h.2.2.1;omega)];exact h.fail 11 o'
def Sg.enter3(h:Sg c ts s (some t) o e)(hx:X ts (Syn.nx c ts t)=x)(hn:x≠[])(ho:o≠64):Sg c ts (iB c ts s x) (some (Syn.nx c ts t+1)) (o+1) e:=by
 have h2:=h.2.2.1;have h3:o<=64:=h.2.2.2.2.2.1;have ha:=h.adv (by rw[h.tx,hx];exact hn);unfold iB jL;rw[aaq (by rw[show mB _ _=_ from h.tx];exact hx),ZV ab,h2,show ((o:Nat):Int)+1=((o+1:Nat):Int) by omega,Hq ab];obtain⟨a0,a1,a2,a3,a4,a5,a6⟩:=ha;exact⟨a0,a1,rfl,a3,a4,ab,a6⟩
end
open Go Go.Sx Dg Syn
def jK(w:Value):Nat->PH->List Value->Nd->Prop
 |0,_,_,_=>False
 |d+1,I,c,n=>∃vk,c=[.int .u8 n.kind,.string ⟨⟨n.text⟩⟩,.int .i64 n.tok,.int .i64 n.slot,vk,w]/\Sl (jK w d) I vk n.kids
def jK.le{w:Value}:∀{d:Nat} {I J:PH} {c:List Value} {n:Nd},jK w d I c n->I.le J->jK w d J c n
 |0,_,_,_,_,h,_=>h
 |d+1,I,J,c,n,⟨vk,e,hk⟩,aa=>⟨vk,e,Sl.le (R:=jK w d) (fun{I J c a} h k=>jK.le h k) hk aa⟩
def jK.up{w:Value}:∀{d:Nat} {I:PH} {c:List Value} {n:Nd},jK w d I c n->jK w (d+1) I c n
 |0,_,_,_,h=>h.elim
 |d+1,I,c,n,⟨vk,e,hk⟩=>⟨vk,e,hk.monoR fun _ _ h=>jK.up h⟩
variable{n:Nd}{w:Value}
def jK.ups{d d':Nat}{I:PH}{c:List Value}(h:jK w d I c n)(hd:d<=d'):jK w d' I c n:=by
 induction hd with
 |refl=>exact h
 |step _ ih=>exact ih.up
def iS(w:Value)(I:PH)(c:List Value)(n:Nd):Prop:=∃d,jK w d I c n
def LR.depthR{w:Value}{I:PH}:∀{l:List Nd} {xs:List Value},LR (iS w I) xs l->∃d,LR (jK w d I) xs l
 | [],xs,h=>⟨0,h⟩
 |a::l,xs,⟨c,ys,e,⟨d,h1⟩,h2⟩=>by
  obtain⟨d',h3⟩:=LR.depthR h2;exact⟨max d d',c,ys,e,h1.ups (Nat.le_max_left _ _),h3.mono fun _ _ h=>h.ups (Nat.le_max_right _ _)⟩
def cG(n:Nd)(vk w:Value):Value:=.agg #[.int .u8 n.kind,.string ⟨⟨n.text⟩⟩,.int .i64 n.tok,.int .i64 n.slot,vk,w]
variable{vk:Value}
theorem iS.mk{I:PH}(hk:Sl (iS w) I vk n.kids):iS w I [.int .u8 n.kind,.string ⟨⟨n.text⟩⟩,.int .i64 n.tok,.int .i64 n.slot,vk,w] n:=by
 obtain⟨b,c,e,h2⟩:=hk;rcases h2 with h2|⟨b',off,xs,e1,e2,e3⟩
 ·exact⟨1,vk,rfl,b,c,e,.inl h2⟩
 ·obtain⟨d,h4⟩:=LR.depthR e3;exact⟨d+1,vk,rfl,b,c,e,.inr ⟨b',off,xs,e1,e2,h4⟩⟩
def iS.shape{I:PH}{c:List Value}(h:iS w I c n):∃vk,c=[.int .u8 n.kind,.string ⟨⟨n.text⟩⟩,.int .i64 n.tok,.int .i64 n.slot,vk,w]/\Sl (iS w) I vk n.kids:=by
 obtain⟨d,h⟩:=h;cases d with
 |zero=>exact h.elim
 |succ d=>
  obtain⟨vk,e,h2⟩:=h;exact⟨vk,e,h2.monoR fun _ _ h=>⟨d,h⟩⟩
variable{J:PH}
def iS.le{I:PH}{c:List Value}(h:iS w I c n)(aa:I.le J):iS w J c n:=by obtain⟨d,h⟩:=h;exact⟨d,h.le aa⟩
def iS.len{I:PH}(c:List Value)(n:Nd)(h:iS w I c n):c.length=6:=by obtain⟨vk,e,_⟩:=h.shape;rw[e];rfl
abbrev eQ:Value:=.slice none 0 0
abbrev qE(I A:PH)(v:Value)(l:List Nd):Prop:=Ow (iS eQ) 67 6 I A v l
abbrev jV(I:PH)(v:Value)(l:List Nd):Prop:=Sl (iS eQ) I v l
variable{l:List Nd}{v:Value}
def qE.le{I A:PH}(h:qE I A v l)(aa:I.le J):qE J A v l:=Ow.le (R:=iS eQ) (fun{I J c a} h k=>iS.le h k) h aa
def jV.le{I:PH}(h:jV I v l)(aa:I.le J):jV J v l:=Sl.le (R:=iS eQ) (fun{I J c a} h k=>iS.le h k) h aa
def qE.sl{I A:PH}(h:qE I A v l)(h1:I.le J)(h2:A.le J):jV J v l:=abX (R:=iS eQ) (fun{I J c a} h k=>iS.le h k) h h1 h2
def jV.nil(I:PH):jV I eQ []:=⟨none,0,rfl,.inl rfl⟩
def iS.ones{I:PH}{c:List Value}(h:iS eQ I c n):c.all Sx.one=true:=by
 obtain⟨vk,rfl,a,b,rfl,_⟩:=h.shape;rfl
def qP(I:PH)(ps:List (Nat×Value))(ms:List Nd):Prop:=LR (iS eQ I) (aD ps) ms/\iF 6 0 ps=true/\ps.length=ms.length/\ms.length<=2/\0<ms.length
theorem qP.one{I:PH}(h:jV I vk n.kids):qP I [(0,cG n vk eQ)] [n]:=by
 obtain⟨a,b,rfl,_⟩:=id h;exact⟨LR.one (iS.mk h),rfl,rfl,by simp,by simp⟩
def qP.two{I:PH}{m:Nd}{vj:Value}(h:jV I vk n.kids)(hm:jV J vj m.kids)(aa:I.le J):qP J [(0,cG n vk eQ),(1,cG m vj eQ)] [n,m]:=by
 have h:=h.le aa;obtain⟨a,b,rfl,_⟩:=id h;obtain⟨a',b',rfl,_⟩:=id hm;exact⟨LR.app (l:=[_]) (m:=[_]) (LR.one (iS.mk h)) (LR.one (iS.mk hm)),rfl,rfl,by simp,by simp⟩
section
variable {C:Cx} {k:List Item} {σ:St}
variable{l:List PH}{ms:List Nd}{v:Value}{ps:List (Nat×Value)}{parts:Array (Nat×Operand)}{o2:Oper}
def fF{ol:List Oper}{fr:iK}{str:ip}{i j:Nat}{lo:List (Nat×Oper)}{o:Oper}{m:Nat}{x y:Operand}{ks:List Nd}{I A:PH}(hd:Dj (I::A::l))(hA:qE I A v ks)(hP:qP I ps ms)(hb:ks.length<=16500)(ht:jv C.P 38 67 6 88)
  (hw:aH ol σ o=some true) (an:o.op=.buildSlice 38 m parts) (hm:m=ms.length) (ha:mH (ev σ) parts.toList=some ps)
  (hs:str.h.contains j=false) (am:str.j.contains j=false) (aj:o2.op=.call ⟨.builtin .append,#[x,y],#[38,38]⟩)
  (h2:∀b,aH ol (σ.put o.dst (.v (.slice (some ⟨b,0,none⟩) m m))) o2=some true/\ev (σ.put o.dst (.v (.slice (some ⟨b,0,none⟩) m m))) x=.v v/\ev (σ.put o.dst (.v (.slice (some ⟨b,0,none⟩) m m))) y=.v (.slice (some ⟨b,0,none⟩) m m))
  (hk:∀b na nc I2 A2,Dj (I2::A2::l)->I.le I2->qE I2 A2 (.slice na (ks++ms).length nc) (ks++ms)->RD C ol fr str lo k ((σ.put o.dst (.v (.slice (some ⟨b,0,none⟩) m m))).put o2.dst (.v (.slice na (ks++ms).length nc))) (U (I2::A2::l))):RD C ol fr str ((i,o)::(j,o2)::lo) k σ (U (I::A::l)):=by
 subst hm;obtain⟨p1,p2,p3,p4,p5⟩:=hP;refine bj hd ht hw an ha p2 p3 ab fun b I2 al ac ao=>?_;obtain⟨xs,ag,aq⟩:=hA.le ac;have p1':=p1.mono fun _ _ h=>iS.le h ac;obtain⟨q1,q2,q3⟩:=h2 b;refine j3 al ht ag hs am q1 aj q2 q3 (cellsU al (.head _) (az ao (by simp) (by simp))) (p1'.len fun c a h=>iS.len c a h) (p1'.ones fun c a h=>iS.ones h) ab (by unfold maxLen;omega) fun v' I3 A2 aS aa ak=>?_;obtain⟨a,c,rfl⟩:=ak.slice;have e:ks.length+ms.length=(ks++ms).length:=by simp
 rw[e]at ak |-;exact hk b a c I3 A2 aS (abV ac aa) ⟨_,ak,LR.app (aq.mono fun _ _ h=>iS.le h aa) (p1'.mono fun _ _ h=>iS.le h aa)⟩
def Hm{ol rem:List Oper}{o:Oper}{m:Nat}{x y:Operand}{ks:List Nd}{I A:PH}(hd:Dj (I::A::l))(hA:qE I A v ks)(hP:qP I ps ms)(hb:ks.length<=16500)(ht:jv C.P 38 67 6 88)
  (hw:aH ol σ o=some true) (am:o.op=.buildSlice 38 m parts) (hm:m=ms.length) (ha:mH (ev σ) parts.toList=some ps)
  (aj:o2.op=.call ⟨.builtin .append,#[x,y],#[38,38]⟩)
  (h2:∀b,aH ol (σ.put o.dst (.v (.slice (some ⟨b,0,none⟩) m m))) o2=some true/\ev (σ.put o.dst (.v (.slice (some ⟨b,0,none⟩) m m))) x=.v v/\ev (σ.put o.dst (.v (.slice (some ⟨b,0,none⟩) m m))) y=.v (.slice (some ⟨b,0,none⟩) m m))
  (hk:∀b na nc I2 A2,Dj (I2::A2::l)->I.le I2->qE I2 A2 (.slice na (ks++ms).length nc) (ks++ms)->RC C (.op ol rem k) ((σ.put o.dst (.v (.slice (some ⟨b,0,none⟩) m m))).put o2.dst (.v (.slice na (ks++ms).length nc))) (U (I2::A2::l))):RC C (.op ol (o::o2::rem) k) σ (U (I::A::l)):=by
 subst hm;obtain⟨p1,p2,p3,p4,p5⟩:=hP;refine ax hd ht hw am ha p2 p3 ab fun b I2 al ac an=>?_;obtain⟨xs,ag,ao⟩:=hA.le ac;have p1':=p1.mono fun _ _ h=>iS.le h ac;obtain⟨q1,q2,q3⟩:=h2 b;refine dZ al ht ag q1 aj q2 q3 (cellsU al (.head _) (az an (by simp) (by simp))) (p1'.len fun c a h=>iS.len c a h) (p1'.ones fun c a h=>iS.ones h) ab (by unfold maxLen;omega) fun v' I3 A2 aq aa ak=>?_;obtain⟨a,c,rfl⟩:=ak.slice;have e:ks.length+ms.length=(ks++ms).length:=by simp
 rw[e]at ak |-;exact hk b a c I3 A2 aq (abV ac aa) ⟨_,ak,LR.app (ao.mono fun _ _ h=>iS.le h aa) (p1'.mono fun _ _ h=>iS.le h aa)⟩
end
section
variable (c:bP) (ts:List Syn.Tok) (pb:Nat) (lv xv:Value)
def JH(q:PR)(o:Nat)(e:List (Nat×Int)):Value->PH->List PH->Prop:=
 fun v I2 qs=>∃s' n vk,qs=[sg pb (bG lv xv ts.length s')]/\Sg c ts s' q.p o (e++q.e)/\v=cG n vk eQ/\jV I2 vk n.kids/\∀t,q.p=some t->q.l=[n]
def W4(q:PR)(o:Nat)(e:List (Nat×Int)):Value->PH->List PH->Prop:=
 fun v _ qs=>∃s' n,qs=[sg pb (bG lv xv ts.length s')]/\Sg c ts s' q.p o (e++q.e)/\v=cG n eQ eQ/\n.kids=[]/\∀t,q.p=some t->q.l=[n]
end
section
variable {c:bP} {ts:List Syn.Tok} {pb:Nat} {lv xv:Value} {I:PH} {s:PS} {o:Nat} {e:List (Nat×Int)} {p:Option Nat}
abbrev Ex(c:bP)(ts:List Syn.Tok)(I:PH)(lv xv:Value):Prop:=gL I (fG c ts) (jY c ts 0) lv xv
def Li{J:PH}{F:List Syn.Tok}{ix:List Nat}{a:Nat}(hI:gL J F ix lv xv)(h:FU F a≠0):mB F a≠[]:=by
 unfold FU at h;unfold mB;cases ht:F[a]? with
 |none=>rw[ht]at h;exact absurd rfl h
 |some t=>
  rw[ht]at h;simp only at h |-;split at h
  ·rename_i hf;rw[aaq hf];exact Lj ((hI.fit t (aaV ht)).1▸hf)
  ·exact absurd rfl h
def CJ(h:Sg c ts s p o e)(kd slot:Nat)(hk:FU (fG c ts) s.pos≠1\/dG (pS c ts s)=true):Sg c ts (zi c ts s 10) (aI ts c p kd slot).p o (e++(aI ts c p kd slot).e)/\(aI ts c p kd slot).p=none:=by
 cases p with
 |none=>exact⟨by simpa[aI]using h.failb 10 o,rfl⟩
 |some t=>
  rw[h.kd,h.tx]at hk;unfold aI;simp only[Z9];rw[aaq hk];exact⟨h.fail 10 o,rfl⟩
def Ii(h:Sg c ts s p o e)(kd slot:Nat)(hx:pS c ts s≠[])(hk:FU (fG c ts) s.pos=1)(hw:dG (pS c ts s)=false):Sg c ts { s with pos:=s.pos+1 } (aI ts c p kd slot).p o (e++(aI ts c p kd slot).e)/\∀t,(aI ts c p kd slot).p=some t->(aI ts c p kd slot).l=[⟨kd,pS c ts s,(vW (jY c ts 0) ts.length s.pos:Nat),slot,[],tt⟩]:=by
 cases p with
 |none=>exact⟨by simpa[aI]using h.advb hx o,fun t ht=>by cases ht⟩
 |some t=>
  have ha:=h.adv hx;rw[h.kd]at hk;rw[h.tx]at hw |-;rw[h.tk];unfold aI;simp only[Z9];rw[ZV (by simp[hk,hw])];exact⟨by simpa using ha,fun _ _=>rfl⟩
def Np(h:Sg c ts s p o e)(slot:Nat)(h1:pS c ts s≠vM)(h2:pS c ts s≠oO):Sg c ts (zi c ts s 10) (bI ts c p slot).p o (e++(bI ts c p slot).e)/\(bI ts c p slot).p=none:=by
 cases p with
 |none=>exact⟨by simpa[bI]using h.failb 10 o,rfl⟩
 |some t=>
  rw[h.tx]at h1 h2;unfold bI;simp only[Z9];rw[aaq ⟨h1,h2⟩];exact⟨h.fail 10 o,rfl⟩
def IK(h:Sg c ts s p o e)(slot:Nat)(h1:pS c ts s=vM\/pS c ts s=oO):Sg c ts { s with pos:=s.pos+1 } (bI ts c p slot).p o (e++(bI ts c p slot).e)/\∀t,(bI ts c p slot).p=some t->(bI ts c p slot).l=[⟨5,pS c ts s,(vW (jY c ts 0) ts.length s.pos:Nat),slot,[],tt⟩]:=by
 have hx:pS c ts s≠[]:=by rcases h1 with h1|h1<;>rw[h1]<;>decide
 cases p with
 |none=>exact⟨by simpa[bI]using h.advb hx o,fun t ht=>by cases ht⟩
 |some t=>
  have ha:=h.adv hx;rw[h.tx]at h1 |-;rw[h.tk];unfold bI;simp only[Z9];rw[ZV (fun k=>h1.elim k.1 k.2)];exact⟨by simpa using ha,fun _ _=>rfl⟩
def pB{n:Nat}(h:n<=16384):IntKind.i64.wrap ((n:Int)+1)=((n+1:Nat):Int):=by rw[<-wrap64 (n:=n+1) ab];congr 1
theorem xV(hI:Ex c ts I lv xv)(h:Sg c ts s p o e)(kd slot:Nat):
  aK Tryz.prog 192 #[pt pb,.int .u8 kd,.int .i64 slot] I [sg pb (bG lv xv ts.length s)] (W4 c ts pb lv xv (aI ts c p kd slot) o e):=by
 intro hd;have hl:=hI.len;refine ah 34 Tryz.func192 fun w0=>?_
 try simp only[pt]
 refine aT ?_;refine ad hd [0] [sg pb _] [] rfl dq rfl (eN hI h.le) fun v I2 qs a1 aa hq=>?_;obtain⟨rfl,rfl⟩:=hq;simp only[Z3]at a1 |-;refine aT ?_;refine ad a1 [0] [sg pb _] [] rfl km rfl (qU (hI.le aa) h.le) fun v I3 qs aS a2 hq=>?_;obtain⟨rfl,rfl,rfl⟩:=hq;simp only[Z3]at aS |-;refine dP ?_;refine ad aS [0] [sg pb _] [] rfl AB rfl (EV (hI.le aa) h.le) fun v I4 qs an ac hq=>?_;obtain⟨rfl,rfl⟩:=hq;simp only[Z3]at an |-;cases hk:((FU (fG c ts) s.pos:Int) != 1)
 ·have ao:FU (fG c ts) s.pos=1:=by
   have:(FU (fG c ts) s.pos:Int)=1:=by simpa using hk
   omega
  apply RG;simp only[go_sem,hk,abK];refine ad an [0] [sg pb _] [] rfl dq rfl (eN ((hI.le aa).le ac) h.le) fun v I5 qs aq am hq=>?_;obtain⟨rfl,rfl⟩:=hq;simp only[Z3]at aq |-;refine aT ?_;refine ad aq [0] [] [sg pb _] rfl QB rfl (S2 (pS c ts s) I5) fun v I6 qs aj al hq=>?_;obtain⟨rfl,rfl⟩:=hq;simp only[Z3]at aj |-;have k6:I.le I6:=abV aa (abV ac (abV am al));cases hw:dG (pS c ts s)
  ·obtain⟨g1,g2⟩:=Ii h kd slot (Li hI (by rw[ao];decide)) ao hw;have e1:=pB (ZS h.le hl);refine aT ?_;refine XN (l:=[iv s.pos]) rfl (qQ aj) (.inr ⟨jq,rfl⟩) ?_;apply RG;simp only[go_sem,iv,e1];refine bw aj rfl rfl rfl rfl rfl (by exact uZ) (by simp) fun ag=>?_;refine aT ?_;exact af rfl ag (r:=[cG ⟨kd,pS c ts s,(vW (jY c ts 0) ts.length s.pos:Nat),slot,[],tt⟩ eQ eQ]) (by simp only[Tryz.results192,go_sem,iv,cG]) k6 ⟨_,_,rfl,g1,rfl,rfl,g2⟩
  ·obtain⟨g1,g2⟩:=CJ h kd slot (.inr hw);refine aT ?_;refine ad aj [0] [sg pb _] [] rfl l4 rfl (o6 (code:=10) (hI.le k6) h.le) fun v I7 qs ag ak hq=>?_;obtain⟨rfl,rfl⟩:=hq;simp only[Z3]at ag |-;refine aT ?_;exact af rfl ag (r:=[cG ⟨kd,pS c ts s,(vW (jY c ts 0) ts.length s.pos:Nat),slot,[],tt⟩ eQ eQ]) (by simp only[Tryz.results192,go_sem,iv,cG]) k6 ⟨_,_,rfl,g1,rfl,rfl,fun t ht=>by rw[g2]at ht;cases ht⟩
 ·obtain⟨g1,g2⟩:=CJ h kd slot (.inl fun k=>by rw[k]at hk;exact absurd hk bg);apply RG;simp only[go_sem,hk,abQ];have k4:=abV aa ac;refine ad an [0] [sg pb _] [] rfl l4 rfl (o6 (code:=10) (hI.le k4) h.le) fun v I7 qs ag ak hq=>?_;obtain⟨rfl,rfl⟩:=hq;simp only[Z3]at ag |-;refine aT ?_;exact af rfl ag (r:=[cG ⟨kd,pS c ts s,(vW (jY c ts 0) ts.length s.pos:Nat),slot,[],tt⟩ eQ eQ]) (by simp only[Tryz.results192,go_sem,iv,cG]) k4 ⟨_,_,rfl,g1,rfl,rfl,fun t ht=>by rw[g2]at ht;cases ht⟩
end
open Go Go.Sx Dg Syn
def tC:aO Tryz.prog 192:=⟨_,Tryz.func192,rfl,rfl⟩
def Bk:aO Tryz.prog 193:=⟨_,Tryz.func193,rfl,rfl⟩
def Hi:aO Tryz.prog 195:=⟨_,Tryz.func195,rfl,rfl⟩
section
variable {c:bP} {ts:List Syn.Tok} {pb:Nat} {lv xv:Value} {I:PH} {s:PS} {o:Nat} {e:List (Nat×Int)} {p:Option Nat}
theorem Ra(hI:Ex c ts I lv xv)(h:Sg c ts s p o e)(slot:Nat):
  aK Tryz.prog 193 #[pt pb,.int .i64 slot] I [sg pb (bG lv xv ts.length s)] (W4 c ts pb lv xv (bI ts c p slot) o e):=by
 intro hd;have hl:=hI.len;refine ah 31 Tryz.func193 fun w0=>?_
 try simp only[pt]
 refine aT ?_;refine ad hd [0] [sg pb _] [] rfl dq rfl (eN hI h.le) fun v I2 qs aj aa hq=>?_;obtain⟨rfl,rfl⟩:=hq;simp only[Z3]at aj |-;refine aT ?_;refine ad aj [0] [sg pb _] [] rfl km rfl (qU (hI.le aa) h.le) fun v I3 qs ag al hq=>?_;obtain⟨rfl,rfl,rfl⟩:=hq;simp only[Z3]at ag |-;have yes:(pS c ts s=vM\/pS c ts s=oO)->_:=fun h1=>IK h slot h1;have e1:=pB (ZS h.le hl);cases h1:(mB (fG c ts) s.pos == [105,110,116])
 ·cases h2:(mB (fG c ts) s.pos == [98,111,111,108])
  ·obtain⟨g1,g2⟩:=Np h slot (ne_of_beq_false h1) (ne_of_beq_false h2);apply RG;simp only[go_sem,iv,h1,h2,abK];refine ad ag [0] [sg pb _] [] rfl l4 rfl (o6 (code:=10) (hI.le aa) h.le) fun v I7 qs ac ak hq=>?_;obtain⟨rfl,rfl⟩:=hq;simp only[Z3]at ac |-;refine aT ?_;exact af rfl ac (r:=[cG ⟨5,pS c ts s,(vW (jY c ts 0) ts.length s.pos:Nat),slot,[],tt⟩ eQ eQ]) (by simp only[Tryz.results193,go_sem,iv,cG]) aa ⟨_,_,rfl,g1,rfl,rfl,fun t ht=>by rw[g2]at ht;cases ht⟩
  ·obtain⟨g1,g2⟩:=yes (.inr (eq_of_beq h2));apply RG;simp only[go_sem,iv,h1,h2,abQ,abK];refine XN (l:=[iv s.pos]) rfl (qQ ag) (.inr ⟨jq,rfl⟩) ?_;apply RG;simp only[go_sem,iv,e1];refine bw ag rfl rfl rfl rfl rfl (by exact uZ) (by simp) fun ac=>?_;refine aT ?_;exact af rfl ac (r:=[cG ⟨5,pS c ts s,(vW (jY c ts 0) ts.length s.pos:Nat),slot,[],tt⟩ eQ eQ]) (by simp only[Tryz.results193,go_sem,iv,cG]) aa ⟨_,_,rfl,g1,rfl,rfl,g2⟩
 ·obtain⟨g1,g2⟩:=yes (.inl (eq_of_beq h1));apply RG;simp only[go_sem,iv,h1,abQ];refine XN (l:=[iv s.pos]) rfl (qQ ag) (.inr ⟨jq,rfl⟩) ?_;apply RG;simp only[go_sem,iv,e1];refine bw ag rfl rfl rfl rfl rfl (by exact uZ) (by simp) fun ac=>?_;refine aT ?_;exact af rfl ac (r:=[cG ⟨5,pS c ts s,(vW (jY c ts 0) ts.length s.pos:Nat),slot,[],tt⟩ eQ eQ]) (by simp only[Tryz.results193,go_sem,iv,cG]) aa ⟨_,_,rfl,g1,rfl,rfl,g2⟩
def W4.rn{q:PR}{v:Value}{I2:PH}{qs:List PH}(h:W4 c ts pb lv xv q o e v I2 qs):JH c ts pb lv xv q o e v I2 qs:=by
 obtain⟨s',n,h1,h2,h3,h4,h5⟩:=h;exact⟨s',n,_,h1,h2,h3,by rw[h4];exact jV.nil _,h5⟩
def Ba(hI:Ex c ts I lv xv)(h:Sg c ts s p o e)(slot:Nat):
  aK Tryz.prog 193 #[pt pb,.int .i64 slot] I [sg pb (bG lv xv ts.length s)] (JH c ts pb lv xv (bI ts c p slot) o e):=
 (Ra hI h slot).mono fun _ _ _ _ h=>h.rn
def gS{x:bq}{t:Nat}(h:(aW ts c p x).1=some t):∃u,p=some u:=by
 cases p with
 |none=>cases h
 |some u=>exact⟨u,rfl⟩
def uQ{slot:Nat}{t:Nat}(h:(bI ts c p slot).p=some t):∃u,p=some u:=by
 cases p with
 |none=>cases h
 |some u=>exact⟨u,rfl⟩
def uw{A B C D:PH}(h:A.le B)(k:B.le C)(l:C.le D):A.le D:=abV h (abV k l)
def Em{A B C D E:PH}(h:A.le B)(k:B.le C)(l:C.le D)(m:D.le E):A.le E:=abV h (uw k l m)
def Kg{A B C D E F:PH}(h:A.le B)(k:B.le C)(l:C.le D)(m:D.le E)(n:E.le F):A.le F:=abV h (Em k l m n)
def Tq{A B C D E F G:PH}(h:A.le B)(k:B.le C)(l:C.le D)(m:D.le E)(n:E.le F)(o:F.le G):A.le G:=abV h (Kg k l m n o)
def H7(c:bP)(ts:List Syn.Tok)(p:Option Nat):PR:=
 let a:=aI ts c p 4 0
 let g:=aW ts c a.p bA
 let b:=bI ts c g.1 0
 ⟨give a.l b.l,b.p,a.e++g.2++b.e⟩
theorem Gx(hI:Ex c ts I lv xv)(h:Sg c ts s p o e):
  aK Tryz.prog 195 #[pt pb] I [sg pb (bG lv xv ts.length s)] (JH c ts pb lv xv (H7 c ts p) o e):=by
 intro hd;refine ah 16 Tryz.func195 fun w0=>?_
 try simp only[pt]
 refine aT ?_;refine ad hd [0] [sg pb _] [] rfl tC rfl (xV hI h 4 0) fun v I2 qs a1 aa a5=>?_;obtain⟨s2,n2,rfl,g2,rfl,a9,a7⟩:=a5;simp only[Z3]at a1 |-;apply RG;simp only[go_sem,cG];refine ad a1 [0] [sg pb _] [] rfl eB rfl (f8 (x:=bA) (hI.le aa) g2.le) fun v I3 qs ag ac a4=>?_;obtain rfl:=a4;simp only[Z3]at ag |-;refine aT ?_;refine aR ag fun ag=>?_;refine bf ag [1,0] fun ag=>?_;refine cK mixed [0,1,2,3,4,5,6,7] [] [] [1] [] [3] rfl rfl ?_;refine gw ?_;refine aE ag [0,1] [sg pb _] [_] rfl Bk rfl (Ba (hI.le (abV aa ac)) (g2.take bg) 0) fun v IC6 qs am al a3=>?_;obtain⟨s6,n6,vk6,rfl,g6,rfl,aS,a6⟩:=a3;obtain⟨ka6,kc6,rfl,_⟩:=id aS;simp only[Z3]at am |-;apply au;simp only[go_sem,cG];refine nI am [1,0] fun am=>?_;refine fF am (qE.le (Ow.nil (iS eQ) 67 6 I3) al) (qP.one aS) (by simp) (by exact kH) rfl rfl rfl rfl rfl rfl rfl (fun b=>⟨rfl,rfl,rfl⟩) fun b6 na6 nc6 I6 A6 aq an bb=>?_;refine gw ?_;refine aw ?_;refine aT ?_;refine bf aq [1,0] fun aq=>?_;have ak:=abV al an;have bc:=gL.le (hI.le (abV aa ac)) ak;refine bf aq [1,0] fun ao=>?_;refine ae ao fun I7 ao aj ba=>?_;refine aT ?_;refine af rfl ao (r:=[cG { n2 with kids:=[n6] } (.slice na6 1 nc6) eQ]) (by simp only[Tryz.results195,go_sem,iv,cG]) (Em aa ac ak aj) ⟨_,_,_,rfl,by simpa[H7,aaT]using g6,rfl,bb.sl aj ba,fun t ht=>?_⟩;obtain⟨u,hu⟩:=uQ ht;obtain⟨u',a2⟩:=gS hu;unfold H7;simp only;rw[a7 u' a2,a6 t ht];show [{ n2 with kids:=n2.kids++[n6] }]=_;rw[a9];rfl
end
open Go Go.Sx Dg Syn
def Ax:aO Tryz.prog 155:=⟨_,Tryz.func155,rfl,rfl⟩
def oe:aO Tryz.prog 86:=⟨_,Tryz.func86,rfl,rfl⟩
def AI:aO Tryz.prog 229:=⟨_,Tryz.func229,rfl,rfl⟩
def Hf:aO Tryz.prog 230:=⟨_,Tryz.func230,rfl,rfl⟩
def GW:aO Tryz.prog 130:=⟨_,Tryz.func130,rfl,rfl⟩
def qC:aO Tryz.prog 197:=⟨_,Tryz.func197,rfl,rfl⟩
def Bm:aO Tryz.prog 287:=⟨_,Tryz.func287,rfl,rfl⟩
def Oo:aO Tryz.prog 255:=⟨_,Tryz.func255,rfl,rfl⟩
def GG:aO Tryz.prog 286:=⟨_,Tryz.func286,rfl,rfl⟩
section
variable (c:bP) (ts:List Syn.Tok) (lv xv:Value)
def Cg(r:dB->PR->Prop)(fn:Nat)(ag:Value->Array Value)(pre:Nat->Prop)(f:Nat->Nat->dB):Prop:=
 ∀(pb:Nat) (I:PH) (s:PS) (t o:Nat) (e:List (Nat×Int)) (q:PR),Ex c ts I lv xv->Sg c ts s (some t) o e->pre t->r (f o t) q->aK Tryz.prog fn (ag (pt pb)) I [sg pb (bG lv xv ts.length s)] (JH c ts pb lv xv q o e)
def Cb(fn:Nat)(ag:Value->Array Value):Prop:=
 ∀(pb:Nat) (I:PH) (s:PS) (o:Nat) (e:List (Nat×Int)),Ex c ts I lv xv->Sg c ts s none o e->aK Tryz.prog fn (ag (pt pb)) I [sg pb (bG lv xv ts.length s)] (JH c ts pb lv xv ap o e)
def aU(slot:Nat)(v:Value):Array Value:=#[v,.int .i64 slot]
def aL(k slot:Nat)(v:Value):Array Value:=#[v,.int .i64 k,.int .i64 slot]
def a0(v:Value):Array Value:=#[v]
def V9(_:Nat):Prop:=True
def GU(r:dB->PR->Prop):Prop:=∀slot,Cg c ts lv xv r 155 (aU slot) V9 (fun o t=>.unary o (some t) slot)
def GL(r:dB->PR->Prop):Prop:=∀k slot,k<=5->Cg c ts lv xv r 86 (aL k slot) V9 (fun o t=>.line k o (some t) slot)
def GI(r:dB->PR->Prop):Prop:=∀slot,Cg c ts lv xv r 229 (aU slot) V9 (fun o t=>.inside o (some t) slot)
def GB(r:dB->PR->Prop):Prop:=∀slot,Cg c ts lv xv r 197 (aU slot) V9 (fun o t=>.block o (some t) slot)
def GV(r:dB->PR->Prop):Prop:=Cg c ts lv xv r 130 a0 (fun t=>X ts (nx c ts t)=lT) (fun o t=>.vrb o (some (nx c ts t+1)))
def GF(r:dB->PR->Prop):Prop:=Cg c ts lv xv r 131 a0 (fun t=>X ts (nx c ts t)=Gg) (fun o t=>.function o (some (nx c ts t+1)))
def GS(r:dB->PR->Prop):Prop:=Cg c ts lv xv r 255 a0 V9 (fun o t=>.stmt o (some (nx c ts t)))
def GR(r:dB->PR->Prop):Prop:=∀slot,Cg c ts lv xv r 286 (aU slot) (fun t=>X ts (nx c ts t)=kT) (fun o t=>.branch o (some (nx c ts t)) slot)
def YT(pb:Nat)(q:PR)(o:Nat)(e:List (Nat×Int)):Value->PH->List PH->Prop:=
 fun v I2 qs=>∃s' ks,qs=[sg pb (bG lv xv ts.length s')]/\Sg c ts s' q.p o (e++q.e)/\jV I2 v ks/\∀t,q.p=some t->q.l=ks
def GA(r:dB->PR->Prop):Prop:=∀(pb:Nat) (I:PH) (s:PS) (t o:Nat) (e:List (Nat×Int)) (q:PR),Ex c ts I lv xv->Sg c ts s (some t) o e->r (.listed false o (some t)) q->aK Tryz.prog 230 #[pt pb] I [sg pb (bG lv xv ts.length s)] (YT c ts lv xv pb q o e)
def rr(n:Nat)(x:dB)(q:PR):Prop:=∃m,m<n/\bS c ts m x=some q
end
section
variable {c:bP} {ts:List Syn.Tok} {lv xv:Value} {o:Nat} {e:List (Nat×Int)} {p:Option Nat} {s:PS}
theorem rr.step{n:Nat}{x:dB}{q:PR}(h:rr c ts (n+1) x q):∃m,m<n+1/\aC c ts (bS c ts m) x=some q/\∀y a,bS c ts m y=some a->rr c ts n y a:=by
 obtain⟨m,hm,h⟩:=h;cases m with
 |zero=>cases h
 |succ m=>exact⟨m,ab,h,fun y a ha=>⟨m,ab,ha⟩⟩
def Cw{r:dB->PR->Prop}{fn:Nat}{ag:Value->Array Value}{pre:Nat->Prop}{f:Nat->Nat->dB}(B:Cb c ts lv xv fn ag)(G:Cg c ts lv xv r fn ag pre f){pb:Nat}{I:PH}{q:PR}(hI:Ex c ts I lv xv)(h:Sg c ts s p o e)
  (hn:p=none->q=ap) (hs:∀t,p=some t->pre t/\r (f o t) q):aK Tryz.prog fn (ag (pt pb)) I [sg pb (bG lv xv ts.length s)] (JH c ts pb lv xv q o e):=by
 cases p with
 |none=>rw[hn rfl];exact B pb I s o e hI h
 |some t=>exact G pb I s t o e q hI h (hs t rfl).1 (hs t rfl).2
theorem Sg.dec(h:Sg c ts s p (o+1) e):Sg c ts { s with opn:=IntKind.i64.wrap (s.opn-1) } p o e:=by
 cases p with
 |none=>exact h.to o rfl rfl rfl h.1
 |some t=>
  obtain⟨h0,h1,h2,h3,h4,h5,h6⟩:=h;refine⟨h0,h1,?_,h3,h4,ab,h6⟩;show IntKind.i64.wrap (s.opn-1)=_;rw[h2,show ((o+1:Nat):Int)-1=(o:Int) by omega];exact Hq ab
theorem G3(slot:Nat):Cb c ts lv xv 155 (aU slot):=by
 intro pb I s o e hI h hd;refine iz Tryz.func155 rfl (by simp[Tryz.ntmps155,aU]) fun w0=>?_;simp only[Tryz.ntmps155,aU,pt];refine aT ?_;refine ad hd [0] [sg pb _] [] rfl dq rfl (eN hI h.le) fun v I2 qs ag aa hq=>?_;obtain⟨rfl,rfl⟩:=hq;simp only[Z3]at ag |-;refine aT ?_;refine ad ag [0] [sg pb _] [] rfl km rfl (qU (hI.le aa) h.le) fun v I3 qs ac aj hq=>?_;obtain⟨rfl,rfl,rfl⟩:=hq;simp only[Z3]at ac |-;refine dP ?_;refine XN (l:=[.bool s.bad]) rfl (qQ ac) (.inr ⟨Ep,rfl⟩) ?_;have hb:s.bad=true:=h.2.1;apply RG;simp only[go_sem,hb];exact af rfl ac (r:=[cG ⟨0,pS c ts s,(vW (jY c ts 0) ts.length s.pos:Nat),slot,[],tt⟩ eQ eQ]) (by simp only[Tryz.results155,go_sem,iv,cG]) aa ⟨_,_,_,rfl,by simpa[ap]using h,rfl,jV.nil _,fun t ht=>by cases ht⟩
end
end Go.Proofs.YtfaclfkpnmcmlaaGreatDoor
