import Derived.Test.YtfaclfkpnmcmlaaGreatDoorH04
import Derived.Test.YtfaclfkpnmcmlaaGreatDoorH08
import Derived.DeepKeys4
set_option maxHeartbeats 8000000
set_option linter.all false
namespace Syn
open Dg
mutual
def RI:Nd->Prop
 |⟨_,_,_,_,ks,d⟩=>d.ok 0/\d≠ff/\(∀m∈ks,WV m.cond d)/\(ks.map Nd.key).Pairwise (fun a b=>CW a b=true)/\Uj ks
def Uj:List Nd->Prop
 | []=>True
 |n::l=>RI n/\Uj l
end
variable{l:List Nd}
def Ku:Uj l<->∀n∈l,RI n:=by
 induction l with
 |nil=>simp[Uj]
 |cons n l ih=>simp[Uj,ih]
def wW(n:Nd):RI n<->n.cond.ok 0/\n.cond≠ff/\(∀m∈n.kids,WV m.cond n.cond)/\(n.kids.map Nd.key).Pairwise (fun a b=>CW a b=true)/\Uj n.kids:=by cases n;rfl
def Us(l:List Nd):Prop:=(l.map Nd.key).Pairwise (fun a b=>CW a b=true)/\∀n∈l,RI n
variable{n:Nd}
def Qg(h:RI n):Us n.kids:=⟨((wW n).1 h).2.2.2.1,Ku.1 ((wW n).1 h).2.2.2.2⟩
def aca{c:bP}{k:qT}:(∃x∈pL c l,x.key=k)<->∃n∈l,n.key=k/\n.cond.at' c=true:=by
 constructor
 ·rintro⟨x,hx,hk⟩;obtain⟨n,h1,h2,e⟩:=tW.1 hx;exact⟨n,h1,by rw[<-hk,e];rfl,h2⟩
 ·rintro⟨n,h1,h2,h3⟩;exact⟨_,tW.2 ⟨n,h1,h3,rfl⟩,h2⟩
def acd(h:wN n):∀m∈n.kids,WV m.cond n.cond:=fun m hm=>(Fy.1 ((Ro n).1 h) m hm).1
def Q7:∀(d:Nat) {l:List Nd},iE l->(∀n∈l,wN n)->Us (mL d l)
 |0,_,_,_=>⟨List.Pairwise.nil,fun n hn=>(aaB hn).elim⟩
 |d+1,l,ho,hw=>by
  have hk:(mL (d+1) l).map Nd.key=ks l:=by
   simp only[mL,aas]
   conv=>rhs;rw[<-List.map_id (ks l)]
   exact aat fun k _=>rfl
  refine⟨by rw[hk];exact eV jZ _,fun n hn=>?_⟩;simp only[mL,aaE]at hn;obtain⟨k,hk,rfl⟩:=hn;obtain⟨i1,i2⟩:=Q7 d (rZ (k:=k) ho) (HR (k:=k) hw);refine⟨MG ho,fun e=>?_,fun m hm c hc=>?_,i1,Ku.2 i2⟩
  ·obtain⟨x,h1,h2,h3⟩:=um.1 hk;obtain⟨c,hc⟩:=T.some_of_ne (fW.1 (ik.1 ho x h1)).1 h3;have:=(Ag (k:=k) ho).2 ⟨x,h1,h2,hc⟩;rw[e]at this;cases this
  ·have aa:∃x∈pL c (mL d (cZ l k)),x.key=m.key:=aca.2 ⟨m,hm,rfl,hc⟩;rw[Lv c d (rZ ho) (HR hw)]at aa;obtain⟨x,hx,_⟩:=aa;have ac:pL c (cZ l k)≠[]:=fun e=>by rw[e,Ha]at hx;exact aaB hx
   obtain⟨y,hy⟩:=List.exists_mem_of_ne_nil _ ac;obtain⟨z,h1,h2,_⟩:=tW.1 hy;obtain⟨n,h3,h4,_,h5⟩:=lL h1;exact(Ag ho).2 ⟨n,h3,h4,acd (hw n h3) z h5 c h2⟩
open Dg
def TX(h:Us (n::l)):Us l:=⟨(List.pairwise_cons.1 h.1).2,fun m hm=>h.2 m (.tail _ hm)⟩
def nDx(e:List cO):Prop:=(e.map cO.key).Pairwise (fun a b=>x5 a b=true)/\∀d∈e,d.cond.ok 0/\d.cond≠ff
def acs{e:List cO}(h:Ce e):nDx (Eo e):=by
 have hk:(Eo e).map cO.key=Un e:=by
  simp only[Eo,aas]
  conv=>rhs;rw[<-List.map_id (Un e)]
  exact aat fun k _=>rfl
 refine⟨by rw[hk];exact eV jB _,fun d hd=>?_⟩;simp only[Eo,aaE]at hd;obtain⟨k,hk,rfl⟩:=hd;refine⟨IC h,fun e0=>?_⟩;unfold Un at hk;rw[nv jB]at hk;simp only[aaE,aaD,aaC]at hk;obtain⟨x,⟨h1,h3⟩,h2⟩:=hk;obtain⟨c,hc⟩:=T.some_of_ne (h x h1) h3;have:=(DP (k:=k) h).2 ⟨x,h1,h2,hc⟩;have e1:uO e k=ff:=e0;rw[e1]at this;cases this
def nTx(t:Tr):Prop:=Us t.kids/\nDx t.diags
def ab8{ts:List Tok}(aa:bT ts){w:T}(hw:w.ok 0){t:Tr}(h:Rx ts w t):nTx t:=by
 rcases h with ⟨_,e⟩|⟨ac,r,er,et⟩
 ·subst e;exact⟨⟨List.Pairwise.nil,fun n hn=>(aaB hn).elim⟩,⟨List.Pairwise.nil,fun n hn=>(aaB hn).elim⟩⟩
 ·obtain⟨q,_,R⟩:=jR aa hw ac er (fun _=>false);obtain⟨o1,o2⟩:=E7 R.fok R.lok;subst et;exact⟨Q7 _ o1 o2,acs R.eok⟩
mutual
def Yt:Nd->Nat
 |⟨_,_,_,_,ks,_⟩=>du ks+1
def du:List Nd->Nat
 | []=>0
 |n::l=>Yt n+du l
end
def SZ(n:Nd):Yt n=du n.kids+1:=by cases n;rfl
theorem dJ:du []=0:=rfl
def bp(n:Nd)(l:List Nd):du (n::l)=du n.kids+1+du l:=by rw[du,SZ]
def io:∀(a b:List Nd),du (a++b)=du a+du b
 | [],b=>by simp[du]
 |n::a,b=>by rw[aaz,bp,bp,io a b];omega
def oG{n:Nd}:∀{l:List Nd},n∈l->du n.kids+1<=du l
 | [],h=>(aaB h).elim
 |m::l,h=>by
  rw[bp];rcases List.mem_cons.1 h with e|e
  ·subst e;omega
  ·have:=oG e;omega
def iI:∀(l:List Nd),l.length<=du l
 | []=>ZR _
 |n::l=>by rw[bp,aaj];have:=iI l;omega
def fB{ks:List Nd}(h:l.length<=1):du (give l ks)<=du l+du ks:=by
 match l,h with
 | [],_=>simp[give,du]
 | [n],_=>show du [_]<=_;rw[bp,bp,dJ];show du (n.kids++ks)+1+0<=_;rw[io];omega
def cw(l ks:List Nd):(give l ks).length=l.length:=by simp[give]
def Ah:∀(l:List Nd),du (g9 l)=du l
 | []=>rfl
 |n::l=>by
  show du (_::g9 l)=_;rw[bp,bp,Ah l]
section
variable (N:Nat)
def lf:Option Nat->Nat
 |none=>0
 |some p=>N+1-p
theorem kg:lf N none=0:=rfl
theorem iP(p:Nat):lf N (some p)=N+1-p:=rfl
def Rs(x y:Option Nat):lf N (x.or y)<=lf N x+lf N y:=by cases x<;>simp[lf]
def GZ(x:Option Nat):lf N (x.map (·+1))<=lf N x:=by
 cases x with
 |none=>exact ZR _
 |some p=>simp only[Z9,lf];omega
end
section
variable {c:bP} {ts:List Tok}
def sR(p:Option Nat):lf ts.length (p.map (nx c ts))<=lf ts.length p:=by
 cases p with
 |none=>exact ZR _
 |some p=>have:=rh c ts p;simp only[Z9,lf];omega
def lr(p:Option Nat)(is:Nat->Bool):lf ts.length (qz c ts p is)+lf ts.length (qz c ts p fun i=>!is i)<=lf ts.length p:=by
 refine ZS ?_ (sR (c:=c) p);unfold qz;cases p.map (nx c ts)with
 |none=>exact ZR _
 |some i=>cases h:is i<;>simp[Option.filter,h,lf]
variable{i:Nat}{p:Option Nat}
def Dk{is:Nat->Bool}(h:qz c ts p is=some i):is i=true:=by
 unfold qz at h;exact(Option.filter_eq_some_iff.1 h).2
def gx(h:X ts i≠[]):i<ts.length:=by
 rcases aaf i ts.length with h2|h2
 ·exact h2
 ·exact absurd (by unfold X cQ;rw[aan h2]) h
def DO(h:K ts i≠0):i<ts.length:=by
 rcases aaf i ts.length with h2|h2
 ·exact h2
 ·exact absurd (by unfold K cQ;rw[aan h2]) h
def ko(p:Option Nat)(s:bq):lf ts.length (aW ts c p s).1<=lf ts.length p:=by
 refine ZS ?_ (sR (c:=c) p);unfold aW;cases p.map (nx c ts)with
 |none=>exact ZR _
 |some i=>
  simp only;split
  ·simp only[lf];omega
  ·exact aaL _
def qf(p:Option Nat)(kind slot:Nat):du (aI ts c p kind slot).l+lf ts.length (aI ts c p kind slot).p<=lf ts.length p/\(aI ts c p kind slot).l.length<=1:=by
 have h0:=sR (c:=c) (ts:=ts) p;unfold aI;cases e:p.map (nx c ts)with
 |none=>exact⟨aaL _,aaL _⟩
 |some i=>
  rw[e]at h0;simp only;split
  ·exact⟨aaL _,aaL _⟩
  ·rename_i h;have:i<ts.length:=DO fun h2=>h (.inl (by rw[h2];decide));refine⟨?_,ZR _⟩;simp only[bp,dJ,lf]at *;omega
def yi(p:Option Nat)(slot:Nat):du (bI ts c p slot).l+lf ts.length (bI ts c p slot).p<=lf ts.length p:=by
 have h0:=sR (c:=c) (ts:=ts) p;unfold bI;cases e:p.map (nx c ts)with
 |none=>exact aaL _
 |some i=>
  rw[e]at h0;simp only;split
  ·exact aaL _
  ·rename_i h;have:i<ts.length:=gx fun h2=>h (by rw[h2];exact⟨by decide,by decide⟩);simp only[bp,dJ,lf]at *;omega
def wo{kind:Nat}{i:Option Nat}{slot:Nat}(h:∀j,i=some j->j<ts.length):du (jP kind i slot)+lf ts.length (i.map (·+1))<=lf ts.length i/\(jP kind i slot).length<=1:=by
 cases i with
 |none=>exact⟨ZR _,aaL _⟩
 |some j=>
  have:=h j rfl;refine⟨?_,ZR _⟩;show du [_]+_<=_;simp only[bp,dJ,Z9,lf];omega
def wt(N:Nat):dB->Nat
 | .line _ _ p _=>lf N p
 | .lineL _ _ _ _ l g out=>du l+(lf N g+lf N out)
 | .lineO _ _ _ op l g=>du l+(lf N op+lf N g)
 | .unary _ p _=>lf N p
 | .unaryH _ i _=>lf N i
 | .calls _ _ _ x names g=>du names+(lf N x+lf N g)
 | .inside _ p _=>lf N p
 | .listed _ _ p=>lf N p
 | .listL _ _ l g fin=>du l+(lf N g+lf N fin)
 | .item _ _ p=>lf N p
 | .behind _ _ p _ _=>lf N p
 | .vrb _ p=>lf N p
 | .function _ p=>lf N p
 | .block _ p _=>lf N p
 | .seqL _ _ p l out=>du l+(lf N p+lf N out)
 | .stmt _ i=>lf N i
 | .sCalls _ _ x l g=>du l+(lf N x+lf N g)
 | .branch _ i _=>lf N i
 | .elses _ x l out=>du l+(lf N x+lf N out)
 | .ifs _ y l out=>du l+(lf N y+lf N out)
def Lt(N:Nat)(x:Option Nat):Prop:=∀j,x=some j->j<N
def V4(N:Nat):dB->Prop
 | .lineO _ _ _ op _ _=>Lt N op
 | .calls _ _ _ x _ _=>Lt N x
 | .sCalls _ _ x _ _=>Lt N x
 | .branch _ i _=>Lt N i
 | .elses _ _ l _=>l.length<=1
 | .ifs _ y l _=>l.length<=1/\Lt N y
 |_=>True
def S4(N:Nat):dB->PR->Prop
 | .listed _ _ p,q=>∀j,p=some j->j<N->du q.l+lf N q.p+1<=lf N p
 |_,_=>True
def XE(N:Nat)(x:dB)(q:PR):Prop:=du q.l+lf N q.p<=wt N x/\S4 N x q
def sG{s:bq}(hs:s≠[]):Lt ts.length (qz c ts p (pi ts s)):=fun j h=>by
 have:=Dk h;simp only[pi,aaC]at this;exact gx (by rw[this];exact hs)
def BG{k:Nat}:Lt ts.length (qz c ts p (gK ts k)):=fun j h=>by
 have:=Dk h;simp only[gK,aao,aaC]at this;exact DO (by rw[this.1];decide)
def Lt.of(h:i<ts.length):Lt ts.length (some i):=fun j e=>by cases e;exact h
def dh{α β:Type}{a:Option α}{f:α->Option β}{q:β}(e:(a >>= f)=some q):∃x,a=some x/\f x=some q:=Option.bind_eq_some_iff.1 e
def H1{rec:oS}(R:∀x q,rec x=some q->V4 ts.length x->XE ts.length x q):∀x q,aC c ts rec x=some q->V4 ts.length x->XE ts.length x q:=by
 have R1:∀{x q},rec x=some q->V4 ts.length x->du q.l+lf ts.length q.p<=wt ts.length x:=fun h k=>(R _ _ h k).1;intro x q e hi;cases x with
 |line k o p slot=>
  refine⟨?_,trivial⟩;simp only[aC,ni]at e;split at e
  ·have:=R1 e trivial;exact this
  ·obtain⟨a,ea,e⟩:=dh e;obtain⟨b,eb,e⟩:=dh e;cases e
   have h1:=R1 ea trivial;have h2:=R1 eb trivial;simp only[wt,kg]at *;omega
 |lineL k o slot first l g out=>
  refine⟨?_,trivial⟩;simp only[aC,lP]at e;cases g with
  |none=>cases e;simp only[wt,kg];omega
  |some p=>
   simp only at e;split at e
   ·cases e;simp only[wt];omega
   ·obtain⟨a,ea,e⟩:=dh e;obtain⟨b,eb,e⟩:=dh e;cases e
    have h1:=R1 ea BG;have h2:=R1 eb trivial;have h3:=lr (c:=c) (ts:=ts) (some p) (gK ts k);simp only[wt,kg]at *;omega
 |lineO k o slot op l g=>
  refine⟨?_,trivial⟩;simp only[aC,pY]at e;cases op with
  |none=>cases e;simp only[wt,kg];omega
  |some i=>
   obtain⟨a,ea,e⟩:=dh e;cases e
   have h1:=R1 ea trivial;have h2:=hi i rfl;simp only[wt,iP,bp,dJ,io,Ah]at *;omega
 |unary o p slot=>
  refine⟨?_,trivial⟩;have h1:=R1 (x:=.unaryH o (p.map (nx c ts)) slot) e trivial;have h2:=sR (c:=c) (ts:=ts) p;simp only[wt]at *;omega
 |unaryH o i slot=>
  refine⟨?_,trivial⟩;simp only[aC,fZ]at e;cases i with
  |none=>cases e;exact ZR _
  |some i=>
   simp only at e;split at e
   ·rename_i hx;have aa:i<ts.length:=gx (by rcases hx with h|h<;>rw[h]<;>decide);split at e
    ·cases e;exact aaL _
    ·obtain⟨a,ea,e⟩:=dh e;cases e
     have h1:=R1 ea trivial;simp only[wt,iP,bp,dJ]at *;omega
   ·split at e
    ·have:=R1 e trivial;exact this
    ·split at e
     ·rename_i hx;have aa:i<ts.length:=DO (by rw[hx];decide);cases e
      simp only[wt,iP,bp,dJ]at *;omega
     ·split at e
      ·rename_i hx;have aa:i<ts.length:=gx (by rcases hx with h|h<;>rw[h]<;>decide);cases e
       simp only[wt,iP,bp,dJ]at *;omega
      ·split at e
       ·rename_i hx;have aa:i<ts.length:=gx (by rw[hx];decide);cases e
        simp only[wt,iP,bp,dJ]at *;omega
       ·obtain⟨b,eb,e⟩:=dh e;cases e
        have h1:=R1 eb (sG bg);have h2:=(qf (c:=c) (ts:=ts) (some i) 18 slot).1;have h3:=lr (c:=c) (ts:=ts) (aI ts c (some i) 18 slot).p (pi ts eM);simp only[wt]at *;omega
 |calls o i slot x names g=>
  refine⟨?_,trivial⟩;simp only[aC,nY]at e;split at e
  ·rename_i i x;obtain⟨a,ea,e⟩:=dh e;cases e
   have h1:=(R _ _ ea trivial).2 x rfl (hi x rfl);simp only[wt,bp,dJ]at *;omega
  ·cases e;simp only[wt];omega
 |inside o p slot=>
  refine⟨?_,trivial⟩;simp only[aC,il]at e;have h0:=sR (c:=c) (ts:=ts) p;cases hp:p.map (nx c ts)with
  |none=>rw[hp]at e;cases e;exact aaL _
  |some i=>
   rw[hp]at e h0;simp only at e;split at e
   ·cases e;exact aaL _
   ·split at e
    ·cases e;exact aaL _
    ·obtain⟨a,ea,e⟩:=dh e;cases e
     have h1:=R1 ea trivial;have h2:=ko (c:=c) (ts:=ts) a.p fK;simp only[wt,iP]at *;omega
 |listed par o p=>
  simp only[aC,ij]at e;have h0:=sR (c:=c) (ts:=ts) p;cases hp:p.map (nx c ts)with
  |none=>
   rw[hp]at e;cases e;refine⟨aaL _,fun j hj _=>?_⟩;rw[hj]at hp;cases hp
  |some i=>
   rw[hp]at e h0;have hz:∀j,p=some j->j<ts.length->1<=lf ts.length p:=fun j h1 h2=>by rw[h1,iP];omega
   simp only at e;split at e
   ·cases e;exact⟨aaL _,fun j h1 h2=>by simpa[triv,du,lf]using hz j h1 h2⟩
   ·rename_i hx;split at e
    ·cases e;exact⟨aaL _,fun j h1 h2=>by simpa[triv,du,lf]using hz j h1 h2⟩
    ·obtain⟨a,ea,e⟩:=dh e;cases e
     have aa:i<ts.length:=gx (by rw[Classical.not_not.1 hx];decide);have h1:=R1 ea trivial;have h2:=ko (c:=c) (ts:=ts) a.p fK;have h3:=lr (c:=c) (ts:=ts) (some (i+1)) (pi ts fK);have key:du a.l+lf ts.length (aW ts c a.p fK).1+1<=lf ts.length p:=by
      simp only[wt,iP,dJ]at *;omega
     exact⟨by simp only[wt];omega,fun _ _ _=>key⟩
 |listL par o l g fin=>
  refine⟨?_,trivial⟩;simp only[aC,oU]at e;cases g with
  |none=>cases e;simp only[wt,kg];omega
  |some p=>
   obtain⟨a,ea,e⟩:=dh e;obtain⟨b,eb,e⟩:=dh e;cases e
   have h1:=R1 ea trivial;have h2:=R1 eb trivial;have h3:=lr (c:=c) (ts:=ts) a.p (pi ts bB);have h4:=GZ ts.length (qz c ts a.p (pi ts bB));simp only[wt,io]at *;omega
 |item par o p=>
  refine⟨?_,trivial⟩;simp only[aC,ro]at e;split at e
  ·cases e
   have h1:=qf (c:=c) (ts:=ts) p 4 0;have h2:=ko (c:=c) (ts:=ts) (aI ts c p 4 0).p bA;have h3:=yi (c:=c) (ts:=ts) (aW ts c (aI ts c p 4 0).p bA).1 0;have h4:=fB (ks:=(bI ts c (aW ts c (aI ts c p 4 0).p bA).1 0).l) h1.2;have h5:=h1.1;simp only[wt]at *;omega
  ·have:=R1 e trivial;exact this
 |behind typ o p sign slot=>
  refine⟨?_,trivial⟩;simp only[aC,kh]at e;obtain⟨a,ea,e⟩:=dh e;cases e
  have h1:du a.l+lf ts.length a.p<=lf ts.length ((qz c ts p (pi ts sign)).map (·+1)):=by
   unfold fy at ea;split at ea
   ·cases ea;exact yi _ _
   ·exact R1 ea trivial
  have h3:=lr (c:=c) (ts:=ts) p (pi ts sign);have h4:=GZ ts.length (qz c ts p (pi ts sign));have h5:=Rs ts.length (qz c ts p fun i=>!pi ts sign i) a.p;simp only[wt]at *;omega
 |vrb o p=>
  refine⟨?_,trivial⟩;simp only[aC,gZ]at e;obtain⟨d,ed,e⟩:=dh e;cases e
  have h1:=qf (c:=c) (ts:=ts) p 2 0;have h2:=ko (c:=c) (ts:=ts) (aI ts c p 2 0).p bA;have h3:=yi (c:=c) (ts:=ts) (aW ts c (aI ts c p 2 0).p bA).1 0;have h4:=fB (ks:=(bI ts c (aW ts c (aI ts c p 2 0).p bA).1 0).l) h1.2;have h5:=h1.1;have h6:=R1 ed trivial;have h7:=fB (l:=give (aI ts c p 2 0).l (bI ts c (aW ts c (aI ts c p 2 0).p bA).1 0).l) (ks:=d.l) (by rw[cw];exact h1.2);have h8:=ko (c:=c) (ts:=ts) d.p a8;simp only[wt]at *;omega
 |function o p=>
  refine⟨?_,trivial⟩;simp only[aC,gY]at e;obtain⟨b,eb,e⟩:=dh e;obtain⟨d,ed,e⟩:=dh e;obtain⟨f,ef,e⟩:=dh e;cases e
  have h1:=qf (c:=c) (ts:=ts) p 3 0;have h2:=R1 eb trivial;have h3:=R1 ed trivial;have h4:=R1 ef trivial;have h5:=fB (ks:=b.l) h1.2;have h6:=fB (l:=give (aI ts c p 3 0).l b.l) (ks:=d.l) (by rw[cw];exact h1.2);have h7:=fB (l:=give (give (aI ts c p 3 0).l b.l) d.l) (ks:=f.l) (by rw[cw,cw];exact h1.2);have h8:=h1.1;simp only[wt]at *;omega
 |block o p slot=>
  refine⟨?_,trivial⟩;simp only[aC,jI]at e;have h0:=sR (c:=c) (ts:=ts) p;cases hp:p.map (nx c ts)with
  |none=>rw[hp]at e;cases e;exact aaL _
  |some i=>
   rw[hp]at e h0;simp only at e;split at e
   ·cases e;exact aaL _
   ·rename_i hx;have aa:i<ts.length:=gx (by rw[Classical.not_not.1 hx];decide);split at e
    ·cases e;exact aaL _
    ·obtain⟨a,ea,e⟩:=dh e;cases e
     have h1:=R1 ea trivial;have h2:=ko (c:=c) (ts:=ts) a.p qD;simp only[wt,iP,kg,bp,dJ]at *;omega
 |seqL top o p l out=>
  refine⟨?_,trivial⟩;simp only[aC,nE]at e;have h0:=sR (c:=c) (ts:=ts) p;cases hp:p.map (nx c ts)with
  |none=>rw[hp]at e;cases e;simp only[wt];omega
  |some i=>
   rw[hp]at e h0;simp only at e;split at e
   ·cases e;simp only[wt];omega
   ·obtain⟨a,ea,e⟩:=dh e;obtain⟨b,eb,e⟩:=dh e;cases e
    have h1:du a.l+lf ts.length a.p<=lf ts.length (some i):=by
     unfold md at ea;split at ea
     ·unfold vF at ea;split at ea
      ·have:=R1 ea trivial;simp only[wt,iP]at *;omega
      ·split at ea
       ·have:=R1 ea trivial;simp only[wt,iP]at *;omega
       ·cases ea;exact aaL _
     ·exact R1 ea trivial
    have h2:=R1 eb trivial;simp only[wt,kg,io]at *;omega
 |stmt o i=>
  refine⟨?_,trivial⟩;simp only[aC,gM]at e;cases i with
  |none=>cases e;exact ZR _
  |some i=>
   simp only at e;split at e
   ·have:=R1 e trivial;simp only[wt,iP]at *;omega
   ·split at e
    ·rename_i hx;have:=R1 e (show V4 ts.length (.branch o (some i) 0) from Lt.of (gx (by rw[hx];decide)));exact this
    ·split at e
     ·rename_i hx;have aa:i<ts.length:=gx (by rw[hx];decide);obtain⟨a,ea,e⟩:=dh e;obtain⟨b,eb,e⟩:=dh e;cases e
      have h0:=wo (kind:=9) (slot:=0) (Lt.of aa);have h1:=R1 ea trivial;have h2:=R1 eb trivial;have h3:=fB (ks:=a.l) h0.2;have h4:=fB (l:=give (jP 9 (some i) 0) a.l) (ks:=b.l) (by rw[cw];exact h0.2);have h5:=h0.1;simp only[wt,Z9]at *;omega
     ·split at e
      ·have:=R1 e trivial;exact this
      ·split at e
       ·rename_i hx;have aa:i<ts.length:=gx (by rw[hx];decide);obtain⟨a,ea,e⟩:=dh e;cases e
        have h0:=wo (kind:=10) (slot:=0) (Lt.of aa);have h1:=R1 ea trivial;have h3:=fB (ks:=a.l) h0.2;have h5:=h0.1;have h6:=lr (c:=c) (ts:=ts) (some (i+1)) (pi ts a8);have h7:=Rs ts.length a.p (qz c ts (some (i+1)) (pi ts a8));have h8:=ko (c:=c) (ts:=ts) (a.p.or (qz c ts (some (i+1)) (pi ts a8))) a8;simp only[wt,Z9]at *;omega
       ·split at e
        ·rename_i hx;have aa:i<ts.length:=gx (by rcases hx with h|h<;>rw[h]<;>decide);obtain⟨a,ea,e⟩:=dh e;cases e
         have h0:=wo (kind:=if X ts i=ew then 12 else 11) (slot:=0) (Lt.of aa);have h1:=R1 ea trivial;have h3:=fB (ks:=a.l) h0.2;have h5:=h0.1;have h8:=ko (c:=c) (ts:=ts) a.p a8;simp only[wt,Z9]at *;omega
        ·obtain⟨b,eb,e⟩:=dh e;obtain⟨d,ed,e⟩:=dh e;cases e
         have h0:=qf (c:=c) (ts:=ts) (some i) 7 0;have h1:=R1 eb trivial;have h2:=R1 ed (sG bg);have h3:=fB (ks:=b.l) h0.2;have h4:=lr (c:=c) (ts:=ts) (aI ts c (some i) 7 0).p (pi ts eM);have h5:=ko (c:=c) (ts:=ts) (qz c ts (aI ts c (some i) 7 0).p fun i=>!pi ts eM i) su;have h6:=ko (c:=c) (ts:=ts) d.p a8;have h7:=h0.1;simp only[wt]at *;omega
 |sCalls o i x l g=>
  refine⟨?_,trivial⟩;simp only[aC,lu]at e;split at e
  ·rename_i i x;obtain⟨a,ea,e⟩:=dh e;cases e
   have h1:=(R _ _ ea trivial).2 x rfl (hi x rfl);simp only[wt,bp,dJ]at *;omega
  ·cases e;simp only[wt];omega
 |branch o i slot=>
  refine⟨?_,trivial⟩;simp only[aC,ku]at e;obtain⟨a,ea,e⟩:=dh e;obtain⟨b,eb,e⟩:=dh e;obtain⟨d,ed,e⟩:=dh e;cases e
  have h0:=wo (kind:=8) (slot:=slot) hi;have h1:=R1 ea trivial;have h2:=R1 eb trivial;have h3:=R1 ed (show (give (give (jP 8 i slot) a.l) b.l).length<=1 by rw[cw,cw];exact h0.2);have h4:=fB (ks:=a.l) h0.2;have h5:=fB (l:=give (jP 8 i slot) a.l) (ks:=b.l) (by rw[cw];exact h0.2);have h6:=lr (c:=c) (ts:=ts) b.p (pi ts dr);have h7:=h0.1;simp only[wt]at *;omega
 |elses o x l out=>
  refine⟨?_,trivial⟩;simp only[aC,nP]at e;cases x with
  |none=>cases e;simp only[wt,kg];omega
  |some j=>
   obtain⟨a,ea,e⟩:=dh e;obtain⟨b,eb,e⟩:=dh e;cases e
   have h1:=R1 ea trivial;have h2:=R1 eb ⟨by rw[cw];exact hi,sG bg⟩;have h3:=fB (ks:=a.l) hi;have h4:=lr (c:=c) (ts:=ts) (some (j+1)) (pi ts kT);simp only[wt,iP]at *;omega
 |ifs o y l out=>
  refine⟨?_,trivial⟩;simp only[aC,BV]at e;cases y with
  |none=>cases e;simp only[wt,kg];omega
  |some j=>
   simp only at e;split at e
   ·cases e;simp only[wt];omega
   ·obtain⟨a,ea,e⟩:=dh e;cases e
    have h1:=R1 ea hi.2;have h3:=fB (ks:=a.l) hi.1;simp only[wt]at *;omega
def CZ:∀n x q,bS c ts n x=some q->V4 ts.length x->XE ts.length x q
 |0,x,q,e,_=>by cases e
 |n+1,x,q,e,h=>H1 (fun x q e h=>CZ n x q e h) x q e h
end
def vR(f:bP->Nat):Nat->bP->Nat
 |0,c=>f c
 |n+1,c=>vR f n (AT c n false)+vR f n (AT c n true)
def wG{f g h:bP->Nat}(e:∀c,h c=f c+g c):∀(n:Nat) (c:bP),vR h n c=vR f n c+vR g n c
 |0,c=>e c
 |n+1,c=>by simp only[vR,wG e n];omega
def Ca{f:bP->Nat}{M:Nat}(h:∀c,f c<=M):∀(n:Nat) (c:bP),vR f n c<=2^n*M
 |0,c=>by simpa[vR]using h c
 |n+1,c=>by simp only[vR];have:=Ca h n (AT c n false);have:=Ca h n (AT c n true);rw[abd,Nat.mul_assoc,Nat.mul_comm (2^n),Nat.mul_assoc,Nat.mul_comm M];omega
def CK(S:bP->Bool):∀(n:Nat) (c:bP),vR (fun c=>(S c).toNat) n c=AZ S n c
 |0,c=>rfl
 |n+1,c=>by simp only[vR,AZ,CK S n]
mutual
def Zd:Nd->Prop
 |⟨_,_,_,_,ks,d⟩=>d≠ff/\Uf ks
def Uf:List Nd->Prop
 | []=>True
 |n::l=>Zd n/\Uf l
end
variable{l:List Nd}
def GH{c:bP}{d:T}(h:wL d l)(hc:d.at' c=false):pL c l=[]:=Bi fun n hn=>by
 cases e:n.cond.at' c with
 |false=>rfl
 |true=>have:=(Fy.1 h n hn).1 c e;rw[hc]at this;cases this
def yr:∀(l:List Nd) (d:T),iE l->wL d l->Uf l->du l<=vR (fun c=>du (pL c l)) 24 (fun _=>false)
 | [],_,_,_,_=>aaL _
 |⟨k,t,o,s,ks,e⟩::l,d,ho,hw,hn=>by
  have h1:=yr ks e ho.1.2 hw.1.2 hn.1.2;have h2:=yr l d ho.2 hw.2 hn.2;have h3:=T.card_pos ho.1.1 hn.1.1;have e1:∀c,du (pL c (⟨k,t,o,s,ks,e⟩::l))=((e.at' c).toNat+du (pL c ks))+du (pL c l):=fun c=>by
   rw[cM];cases hc:e.at' c with
   |true=>
    rw[aaq rfl,bp];show du (pL c ks)+1+_=1+du (pL c ks)+_;omega
   |false=>
    rw[ZV bg,GH hw.1.2 hc];show _=0+0+_;omega
  rw[wG e1,wG (fun c=>rfl),CK,bp];unfold T.card at h3;show du ks+1+du l<=_;omega
def xQ:∀(l:List Nd) (d:T),Uf (nX d l)
 | [],d=>trivial
 |⟨k,t,o,s,ks,e⟩::l,d=>by
  rw[qe];split
  ·exact xQ l d
  ·rename_i h;exact⟨⟨h,xQ ks (e.and d)⟩,xQ l d⟩
def Tk:Nat:=2^24*16386
def Lh{ts:List Tok}(ac:bT ts)(hl:ts.length<=16384){w:T}(hw:w.ok 0)(aj:w≠ff){n:Nat}{r:bW}(e:run ts n (.seqL true 0 [(0,w)] [] [])=some r):du (pI r)<=Tk:=by
 have hr:=jR ac hw aj e (fun _=>false);obtain⟨_,_,RR0⟩:=hr;obtain⟨o1,o2⟩:=E7 RR0.fok RR0.lok;by_cases hg:ii r.f=ff
 ·have hc:=(sS (c:=fun _=>false) RR0.fok).1;have e1:nX (ii r.f) r.l=[]:=by
   cases h:nX (ii r.f) r.l with
   |nil=>rfl
   |cons n l=>
    exfalso;obtain⟨a1,a2,a3,_⟩:=mY r.l (ii r.f) hc RR0.lok;rw[h]at a1 a2 a3;have hn:n.cond.ok 0:=(fW.1 a1.1).1;obtain⟨x,hx⟩:=T.some_of_ne hn (a3 n (.head _));have:=a2.1.1 x hx;rw[hg]at this;cases this
  unfold pI;rw[e1];simp only[bp,dJ];unfold Tk;omega
 have aa:Uf (pI r):=⟨⟨hg,xQ _ _⟩,trivial⟩;refine ZS (yr (pI r) tt o1 ⟨⟨fun _ _=>rfl,o2 _ (.head _)⟩,trivial⟩ aa) (Ca (fun c=>?_) 24 _);obtain⟨q,hq,R⟩:=jR ac hw aj e c;rw[Nm R.fok R.lok R.f];obtain⟨m,hm⟩:=hq;have h1:=(CZ m _ _ hm trivial).1;have h2:lf ts.length (if w.at' c then some 0 else none)<=ts.length+1:=by split<;>simp[lf]
 simp only[wt,kg,dJ]at h1;rw[R.l];split
 ·rw[bp,dJ];show du q.l+1+0<=_;omega
 ·exact aaL _
def IF(l:List Nd)(k:qT):du (cZ l k)<=du l:=by
 unfold cZ
 induction l with
 |nil=>exact ZR _
 |cons n l ih=>
  rw[bp,aby];split
  ·rw[abg,io];omega
  ·omega
open Dg
def gB(l:List Nd)(k:qT):Nd:=⟨k.kind,k.text,k.tok,k.slot,cZ l k,ib l k⟩
def tP:List Nd->Nd->List Nd
 | [],n=>[n]
 |m::out,n=>if m.key=n.key then { m with kids:=m.kids++n.kids,cond:=m.cond.or n.cond }::out else m::tP out n
def vK(out:List Nd)(n:Nd):List Nd:=if n.cond=ff then out else tP out n
def sE:∀{out:List Nd} {n:Nd},(∀m∈out,m.key≠n.key)->tP out n=out++[n]
 | [],n,_=>rfl
 |m::out,n,h=>by
  rw[tP,ZV (h m (.head _)),sE fun x hx=>h x (.tail _ hx)];rfl
def wr:∀{out:List Nd} {n m:Nd} {i:Nat},out.Pairwise (fun a b=>a.key≠b.key)->out[i]?=some m->m.key=n.key->tP out n=out.set i { m with kids:=m.kids++n.kids,cond:=m.cond.or n.cond }
 | [],n,m,i,_,h,_=>by simp at h
 |x::out,n,m,0,hp,h,hk=>by
  simp only[abh,ZW]at h;subst h;rw[tP,aaq hk];rfl
 |x::out,n,m,i+1,hp,h,hk=>by
  simp only[abi]at h;have h1:=(List.pairwise_cons.1 hp).1 m (aaV h);rw[tP,ZV (by rw[<-hk];exact h1),wr (List.pairwise_cons.1 hp).2 h hk];rfl
def oW(p:List Nd)(n:Nd)(k:qT):cZ (p++[n]) k=cZ p k++if fY k n then n.kids else []:=by
 unfold cZ;rw[List.filter_append,abk];congr 1;cases h:fY k n<;>simp[aby,h]
def pz(p:List Nd)(n:Nd)(k:qT):ib (p++[n]) k=if fY k n then (ib p k).or n.cond else ib p k:=by
 unfold ib;rw[List.filter_append,abM];cases h:fY k n<;>simp[aby,h]
variable{p:List Nd}
def DW{k:qT}(h:∀n∈p,n.cond≠ff->n.key≠k):ib p k=ff/\cZ p k=[]:=by
 have:p.filter (fY k)=[]:=List.filter_eq_nil_iff.2 fun n hn hm=>by
  simp only[fY,aao,aaC]at hm;exact h n hn hm.2 hm.1
 unfold ib cZ;rw[this];exact⟨rfl,rfl⟩
def VL{a:T}(h:a.ok 0):T.or ff a=a:=T.ext (T.or_ok (show (ff:T).ok 0 from trivial) h) h fun c=>by
 rw[T.or_at (show (ff:T).ok 0 from trivial) h,BL,abw]
structure HX(p out:List Nd):Prop where
 dist:out.Pairwise (fun a b=>a.key≠b.key)
 node:∀m∈out,m=gB p m.key
 has:∀n∈p,n.cond≠ff->∃m∈out,m.key=n.key
 from':∀m∈out,∃n∈p,n.cond≠ff/\n.key=m.key
def HX.nil:HX [] []:=⟨List.Pairwise.nil,fun _ h=>(aaB h).elim,fun _ h=>(aaB h).elim,fun _ h=>(aaB h).elim⟩
variable{n:Nd}
def od{k:qT}(h:n.cond=ff\/n.key≠k):gB (p++[n]) k=gB p k:=by
 have:fY k n=false:=by
  rcases h with h|h<;>simp[fY,h]
 unfold gB;rw[oW,pz,this];simp
theorem HX.step{out:List Nd}(h:HX p out)(hn:n.cond.ok 0):HX (p++[n]) (vK out n):=by
 unfold vK;split
 ·rename_i a0;refine⟨h.dist,fun m hm=>by rw[od (.inl a0)];exact h.node m hm,fun x hx ak=>?_,fun m hm=>?_⟩
  ·rcases List.mem_append.1 hx with e|e
   ·exact h.has x e ak
   ·rw[List.mem_singleton.1 e]at ak;exact absurd a0 ak
  ·obtain⟨x,hx,k⟩:=h.from' m hm;exact⟨x,aau _ hx,k⟩
 ·rename_i ak;by_cases a3:∃m∈out,m.key=n.key
  ·obtain⟨m,hm,hk⟩:=a3;obtain⟨i,hi⟩:=List.mem_iff_getElem?.1 hm;rw[wr h.dist hi hk];have ao:=(List.getElem?_eq_some_iff.1 hi).1;have emine:fY n.key n=true:=by simp[fY,ak]
   have em:({ m with kids:=m.kids++n.kids,cond:=m.cond.or n.cond }:Nd)=gB (p++[n]) n.key:=by
    have e1:=h.node m hm;rw[hk]at e1;have e2:m.kids=cZ p n.key:=by rw[e1];rfl
    have e3:m.cond=ib p n.key:=by rw[e1];rfl
    have e4:gB (p++[n]) n.key=⟨n.key.kind,n.key.text,n.key.tok,n.key.slot,cZ p n.key++n.kids,(ib p n.key).or n.cond⟩:=by
     unfold gB;rw[oW,pz,aaq emine,aaq emine]
    rw[e4,<-e2,<-e3,<-hk];rfl
   have aj:∀{x:Nd} {j:Nat},(out.set i { m with kids:=m.kids++n.kids,cond:=m.cond.or n.cond })[j]?=some x->j=i/\x={ m with kids:=m.kids++n.kids,cond:=m.cond.or n.cond }\/j≠i/\out[j]?=some x:=fun{x j} e=>by
    rw[aaY]at e;split at e
    ·rename_i aq
     first
      |exact .inl ⟨aq.symm,(aaZ e).symm⟩
      |(rw[aaq ao]at e;exact .inl ⟨aq.symm,(aaZ e).symm⟩)
    ·rename_i aq;exact .inr ⟨fun e2=>aq e2.symm,e⟩
   have ac:∀{x y:Nd} {j l:Nat},out[j]?=some x->out[l]?=some y->j≠l->x.key≠y.key:=fun{x y j l} h1 h2 h3=>by
    obtain⟨a1,rfl⟩:=List.getElem?_eq_some_iff.1 h1;obtain⟨a2,rfl⟩:=List.getElem?_eq_some_iff.1 h2;rcases Nat.lt_or_gt_of_ne h3 with ao|a6
    ·exact List.pairwise_iff_getElem.1 h.dist j l a1 a2 ao
    ·exact fun e=>List.pairwise_iff_getElem.1 h.dist l j a2 a1 a6 e.symm
   refine⟨?_,fun x hx=>?_,fun x hx aa=>?_,fun x hx=>?_⟩
   ·refine List.pairwise_iff_getElem.2 fun j l hj hl a7=>?_;have g1:=aj (aak hj);have g2:=aj (aak hl);rcases g1 with ⟨a,b⟩|⟨a,b⟩<;>rcases g2 with ⟨c,d⟩|⟨c,d⟩
    ·omega
    ·rw[b];exact(ac (x:=m) hi d ab:m.key≠_)
    ·rw[d];exact(ac (y:=m) b hi ab:_≠m.key)
    ·exact ac b d ab
   ·obtain⟨j,hj⟩:=List.mem_iff_getElem?.1 hx;rcases aj hj with ⟨a,b⟩|⟨a,b⟩
    ·have:x.key=n.key:=by rw[b];exact hk
     rw[this,b,em]
    ·rw[od (.inr fun e=>ac hi b ab (by rw[hk,e]))];exact h.node x (aaV b)
   ·have put:∀y∈out,∃z∈out.set i { m with kids:=m.kids++n.kids,cond:=m.cond.or n.cond },z.key=y.key:=fun y hy=>by
     obtain⟨j,hj⟩:=List.mem_iff_getElem?.1 hy;by_cases e:j=i
     ·subst e;rw[hi]at hj;cases hj
      exact⟨{ m with kids:=m.kids++n.kids,cond:=m.cond.or n.cond },List.mem_iff_getElem?.2 ⟨j,List.getElem?_set_self ao⟩,rfl⟩
     ·exact⟨y,List.mem_iff_getElem?.2 ⟨j,by rw[List.getElem?_set_ne (fun e2=>e e2.symm)];exact hj⟩,rfl⟩
    rcases List.mem_append.1 hx with e|e
    ·obtain⟨y,hy,a4⟩:=h.has x e aa;obtain⟨z,hz,aS⟩:=put y hy;exact⟨z,hz,aS.trans a4⟩
    ·rw[List.mem_singleton.1 e];obtain⟨z,hz,aS⟩:=put m hm;exact⟨z,hz,aS.trans hk⟩
   ·obtain⟨j,hj⟩:=List.mem_iff_getElem?.1 hx;rcases aj hj with ⟨a,b⟩|⟨a,b⟩
    ·exact⟨n,aav _ (.head _),ak,by rw[b];exact hk.symm⟩
    ·obtain⟨y,hy,k⟩:=h.from' x (aaV b);exact⟨y,aau _ hy,k⟩
  ·have an:∀m∈out,m.key≠n.key:=fun m hm e=>a3 ⟨m,hm,e⟩;rw[sE an];have emine:fY n.key n=true:=by simp[fY,ak]
   have am:∀x∈p,x.cond≠ff->x.key≠n.key:=fun x hx aa e=>by
    obtain⟨m,hm,a5⟩:=h.has x hx aa;exact an m hm (a5.trans e)
   obtain⟨c1,c2⟩:=DW am;refine⟨List.pairwise_append.2 ⟨h.dist,aaW _ _,fun a ha b hb=>by rw[List.mem_singleton.1 hb];exact an a ha⟩,fun m hm=>?_,fun x hx aa=>?_,fun m hm=>?_⟩
   ·rcases List.mem_append.1 hm with e|e
    ·rw[od (.inr fun e2=>an m e e2.symm)];exact h.node m e
    ·rw[List.mem_singleton.1 e];unfold gB;rw[oW,pz,aaq emine,aaq emine,c1,c2,VL hn,aaA];cases n;rfl
   ·rcases List.mem_append.1 hx with e|e
    ·obtain⟨m,hm,k⟩:=h.has x e aa;exact⟨m,aau _ hm,k⟩
    ·exact⟨n,aav _ (.head _),by rw[List.mem_singleton.1 e]⟩
   ·rcases List.mem_append.1 hm with e|e
    ·obtain⟨x,hx,k⟩:=h.from' m e;exact⟨x,aau _ hx,k⟩
    ·exact⟨n,aav _ (.head _),ak,by rw[List.mem_singleton.1 e]⟩
def HX.of{l:List Nd}(h:∀n∈l,n.cond.ok 0):∀i,i<=l.length->HX (l.take i) ((l.take i).foldl vK [])
 |0,_=>HX.nil
 |i+1,hi=>by
  have aa:i<l.length:=by omega
  rw[aaM aa,abM];exact(HX.of h i ab).step (h _ (List.getElem_mem aa))
def HX.sorted{out L:List Nd}(h:HX l out)(hp:L.Perm out)(hs:L.Pairwise (fun a b=>CW b.key a.key=false)):L=(ks l).map (gB l):=by
 have hd:L.Pairwise (fun a b=>a.key≠b.key):=(hp.pairwise_iff (fun{a b} h e=>h e.symm)).2 h.dist;have e1:L.map Nd.key=ks l:=by
  refine ly jZ ?_ (eV jZ _) fun k=>?_
  ·rw[List.pairwise_map];refine(hs.and hd).imp fun{a b} h=>?_;cases aj:CW a.key b.key with
   |true=>rfl
   |false=>exact absurd (jZ.tri _ _ aj h.1) h.2
  ·rw[um];constructor
   ·intro hk;obtain⟨m,hm,rfl⟩:=List.mem_map.1 hk;obtain⟨n,hn,aa,ac⟩:=h.from' m (hp.mem_iff.1 hm);exact⟨n,hn,ac,aa⟩
   ·rintro⟨n,hn,rfl,aa⟩;obtain⟨m,hm,hk⟩:=h.has n hn aa;exact List.mem_map.2 ⟨m,hp.mem_iff.2 hm,hk⟩
 rw[<-e1,aas];have:L.map id=L.map (gB l∘Nd.key):=aat fun m hm=>h.node m (hp.mem_iff.1 hm)
 rwa [List.map_id]at this
def yx(d:Nat)(l:List Nd):mL (d+1) l=((ks l).map (gB l)).map fun m=>{ m with kids:=mL d m.kids }:=by
 rw[mL,aas];rfl
def Ni:∀(K:List qT) (l:List Nd),K.Pairwise (fun a b=>a≠b)->(∀k∈K,∃n∈l,n.key=k/\n.cond≠ff)->du (K.map (gB l))<=du l
 | [],l,_,_=>aaL _
 |k::K,l,h,ac=>by
  have h2:=List.pairwise_cons.1 h;obtain⟨n0,aj,ak,am⟩:=ac k (.head _);have e1:∀(l:List Nd),du l=du (l.filter fun n=>decide (n.key=k))+du (l.filter fun n=>!decide (n.key=k)):=fun l=>by
   induction l with
   |nil=>rfl
   |cons n l ih=>cases hn:decide (n.key=k)<;>simp[aby,hn,bp]<;>omega
  have e2:∀(l:List Nd),du (cZ l k)+((l.filter (fY k)).length)<=du (l.filter fun n=>decide (n.key=k)):=fun l=>by
   induction l with
   |nil=>exact ZR _
   |cons n l ih=>
    unfold cZ at ih |-;by_cases hn:n.key=k
    ·by_cases hc:n.cond=ff
     ·have m1:fY k n=false:=by simp[fY,hc]
      simp only[aby,m1,hn,decide_true,ZT,aa5,Z2,bp];omega
     ·have m1:fY k n=true:=by simp[fY,hn,hc]
      simp only[aby,m1,hn,decide_true,ZT,abg,io,aaj,bp];omega
    ·have m1:fY k n=false:=by simp[fY,hn]
     simp only[aby,m1,hn,decide_false,aa5,Z2];exact ih
  have e3:1<=(l.filter (fY k)).length:=by
   have:n0∈l.filter (fY k):=List.mem_filter.2 ⟨aj,by simp[fY,ak,am]⟩;exact List.length_pos_of_mem this
  have e4:∀k'∈K,cZ (l.filter fun n=>!decide (n.key=k)) k'=cZ l k':=fun k' aa=>by
   unfold cZ;rw[List.filter_filter];congr 1;refine List.filter_congr fun n _=>?_;have:=h2.1 k' aa;by_cases e:n.key=k'
   ·have h3:n.key≠k:=fun e2=>this (e2.symm.trans e);simp[fY,e,show k'≠k from fun e2=>this e2.symm]
   ·simp[fY,e]
  have h5:=Ni K (l.filter fun n=>!decide (n.key=k)) h2.2 fun k' aa=>by
   obtain⟨n,hn,hk,hc⟩:=ac k' (.tail _ aa);refine⟨n,List.mem_filter.2 ⟨hn,?_⟩,hk,hc⟩;have:=h2.1 k' aa;rw[hk];simp only[aay,abp];exact fun e=>this e.symm
  have e5:du (K.map (gB l))=du (K.map (gB (l.filter fun n=>!decide (n.key=k)))):=by
   clear h5 h h2 ac
   induction K with
   |nil=>rfl
   |cons x K ih=>
    rw[aaU,aaU,bp,bp,ih fun k' aa=>e4 k' (.tail _ aa)];show du (cZ l x)+1+_=du (cZ _ x)+1+_;rw[e4 x (.head _)]
  have e6:=e1 l;have e7:=e2 l;rw[aaU,bp,e5];show du (cZ l k)+1+_<=_;omega
def GK{f:List Nd->List Nd}:∀{L:List Nd},(∀n∈L,du (f n.kids)<=du n.kids)->du (L.map fun m=>{ m with kids:=f m.kids })<=du L
 | [],_=>ZR _
 |n::L,h=>by
  rw[aaU,bp,bp];have h1:=h n (.head _);have h2:=GK (f:=f) (L:=L) fun m hm=>h m (.tail _ hm);show du (f n.kids)+1+_<=_;omega
def Hu(l:List Nd):(ks l).Pairwise (fun a b=>a≠b):=(eV jZ _).imp fun{a b} h e=>by rw[e,jZ.irr]at h;cases h
def Af(l:List Nd):du ((ks l).map (gB l))<=du l:=Ni _ l (Hu l) fun k hk=>by
 obtain⟨n,h1,h2,h3⟩:=um.1 hk;exact⟨n,h1,h2,h3⟩
def HA:∀(d:Nat) (l:List Nd),du (mL d l)<=du l
 |0,l=>aaL _
 |d+1,l=>by
  rw[yx];exact ZS (GK fun n _=>HA d n.kids) (Af l)
def BH(c:bP):∀(l:List Nd),du (pL c l)<=du l
 | []=>ZR _
 |⟨k,t,o,s,ks,e⟩::l=>by
  have h1:=BH c ks;have h2:=BH c l;rw[cM];split
  ·rw[bp,bp];show du (pL c ks)+1+_<=du ks+1+_;omega
  ·rw[bp];omega
def kB:∀(k:Nat) (l:List Nd),du l<k->gJ l<=du l
 |0,_,h=>by omega
 |_+1,[],_=>aaL _
 |k+1,n::l,h=>by
  rw[bp]at h |-;have h1:=kB k n.kids ab;have h2:=kB k l ab;simp only[gJ,wE];omega
def GI:∀(a b:List Nd),gJ (a++b)=max (gJ a) (gJ b)
 | [],b=>by simp[gJ]
 |n::a,b=>by
  rw[aaz];simp only[gJ];rw[GI a b];omega
def s8{c c':bP}(h:Us (n::l))(e:pL c (n::l)=pL c' (n::l)):n.cond.at' c=n.cond.at' c'/\pL c l=pL c' l/\pL c n.kids=pL c' n.kids:=by
 have no:∀(d:bP) (m:Nd),m∈pL d l->m.key≠n.key:=fun d m hm hk=>by
  obtain⟨x,hx,_,rfl⟩:=tW.1 hm;have h1:=h.1;rw[aaU,aae]at h1;have h2:=h1.1 x.key (List.mem_map_of_mem hx);rw[show x.key=n.key from hk,jZ.irr]at h2;cases h2
 have kn:∀d:bP,n.cond.at' d=false->pL d n.kids=[]:=fun d hd=>Bi fun m hm=>by
  cases h2:m.cond.at' d with
  |false=>rfl
  |true=>exact absurd (((wW n).1 (h.2 n (.head _))).2.2.1 m hm d h2) (by rw[hd];decide)
 rw[cM,cM]at e;cases h1:n.cond.at' c<;>cases h2:n.cond.at' c'
 ·rw[h1,h2]at e;exact⟨rfl,by simpa using e,by rw[kn c h1,kn c' h2]⟩
 ·rw[h1,h2]at e;simp only[aa5,Z2,ZT]at e;exact absurd rfl (no c { n with kids:=pL c' n.kids,cond:=tt } (by rw[e];exact .head _))
 ·rw[h1,h2]at e;simp only[aa5,Z2,ZT]at e;exact absurd rfl (no c' { n with kids:=pL c n.kids,cond:=tt } (by rw[<-e];exact .head _))
 ·rw[h1,h2]at e;simp only[ZT,abB]at e;exact⟨rfl,e.2,congrArg Nd.kids e.1⟩
def acx{α:Type}(f g h:α->Nat):∀C:List α,(C.map fun c=>f c+g c+h c).sum=(C.map f).sum+(C.map g).sum+(C.map h).sum
 | []=>rfl
 |c::C=>by
  have:=acx f g h C;simp only[aaU,List.sum_cons];omega
def LM{α:Type}{f:α->Nat}{c:α}:∀{C:List α},c∈C->f c<=(C.map f).sum
 |d::C,h=>by
  simp only[aaU,List.sum_cons];rcases List.mem_cons.1 h with rfl|h
  ·omega
  ·have:=LM (f:=f) h;omega
def f9{C:List bP}:∀(k:Nat) {l:List Nd},du l<k->Us l->(∀c,∃c'∈C,pL c l=pL c' l)->du l<=(C.map fun c=>du (pL c l)).sum
 |0,_,h,_,_=>by omega
 |_+1,[],_,_,_=>aaL _
 |k+1,n::l,hk,h,hc=>by
  rw[bp]at hk |-;have hn:=(wW n).1 (h.2 n (.head _));have h1:=f9 k (l:=n.kids) ab (Qg (h.2 n (.head _))) fun c=>by
   obtain⟨c',m,e⟩:=hc c;exact⟨c',m,(s8 h e).2.2⟩
  have h2:=f9 k (l:=l) ab (TX h) fun c=>by
   obtain⟨c',m,e⟩:=hc c;exact⟨c',m,(s8 h e).2.1⟩
  obtain⟨c0,h0⟩:=T.some_of_ne hn.1 hn.2.1;obtain⟨c',m,e⟩:=hc c0;have h3:=LM (f:=fun c=>(n.cond.at' c).toNat) m;simp only[<-(s8 h e).1,h0,Bool.toNat_true]at h3;have e4:∀c:bP,du (pL c (n::l))=du (pL c n.kids)+(n.cond.at' c).toNat+du (pL c l):=fun c=>by
   rw[cM];cases h5:n.cond.at' c with
   |true=>simp only[ZT,bp,Bool.toNat_true]
   |false=>
    have:pL c n.kids=[]:=Bi fun m hm=>by
     cases h6:m.cond.at' c with
     |false=>rfl
     |true=>exact absurd (hn.2.2.1 m hm c h6) (by rw[h5];decide)
    rw[this];simp[dJ]
  simp only[e4];rw[acx (fun c=>du (pL c n.kids)) (fun c=>(n.cond.at' c).toNat) (fun c=>du (pL c l))];omega
section
variable {c c':bP} {ts:List Tok}
def N7:∀{l:List Tok} {i:Nat},(∀t∈l,t.cond.at' c=t.cond.at' c')->lm c l i=lm c' l i
 | [],_,_=>rfl
 |t::l,i,h=>by
  unfold lm;rw[h t (.head _),N7 fun t ht=>h t (.tail _ ht)]
def Qe(e:nx c ts=nx c' ts)(r:oS)(x:dB):aC c ts r x=aC c' ts r x:=by
 cases x<;>simp only[aC,ni,lP,pY,ry,fZ,nY,il,ij,oU,ro,kh,fy,gZ,gY,jI,nE,md,vF,gM,lu,ku,nP,BV,qz,aW,aI,bI,e]
def Kh(e:nx c ts=nx c' ts):∀n,bS c ts n=bS c' ts n
 |0=>rfl
 |n+1=>by
  funext x;show aC c ts (bS c ts n) x=aC c' ts (bS c' ts n) x;rw[Kh e n,Qe e]
def NF(aa:bT ts){w:T}(hw:w.ok 0){t:Tr}(h:Rx ts w t)(h1:w.at' c=true)(h2:w.at' c'=true)(ha:∀x∈ts,x.cond.at' c=x.cond.at' c'):prj c t=prj c' t:=by
 obtain⟨q,⟨n,k1⟩,e1⟩:=ug aa hw h h1;obtain⟨q',k2,e2⟩:=ug aa hw h h2;have e:nx c ts=nx c' ts:=funext fun p=>N7 fun t ht=>ha t (List.mem_of_mem_drop ht);rw[Kh e n]at k1;have:=PV.det ⟨n,k1⟩ k2;rw[e1,e2,this]
end
def Jv{ts:List Tok}(aa:bT ts){t:Tr}(h:Rx ts tt t){C:List bP}(hC:∀c,∃c'∈C,∀x∈ts,x.cond.at' c=x.cond.at' c'):du t.kids<=(C.map fun c=>du (pL c t.kids)).sum:=
 f9 _ (aba _) (ab8 aa (w:=tt) trivial h).1 fun c=>by
  obtain⟨c',m,ha⟩:=hC c;exact⟨c',m,congrArg Tr.kids (NF aa (w:=tt) trivial h rfl rfl ha)⟩
end Syn
namespace Go.Proofs.YtfaclfkpnmcmlaaGreatDoor
open Go Go.Sx Dg
def iv(n:Nat):Value:=.int .i64 n
def gV(d:Nat×Nat×Nat):Value:=.agg #[iv d.1,iv d.2.1,iv d.2.2]
def nt(d:Nat×Nat×Nat):List Value:=[iv d.1,iv d.2.1,iv d.2.2]
def EN(ts:List T):List Value:=ts.flatMap fun t=>nt (T.dec ts t)
def pt(b:Nat):Value:=.pointer (some ⟨b,0,none⟩)
def CX{f:T->List Value}{n:Nat}(hf:∀t,(f t).length=n):∀(l:List T),(l.flatMap f).length=l.length*n
 | []=>by simp
 |t::l=>by simp only[abg,aa9,hf,CX hf l,aaj];rw[aaP];omega
def C9{f:T->List Value}{n:Nat}(hf:∀t,(f t).length=n):∀(l:List T) (i:Nat) (t:T),l[i]?=some t->((l.flatMap f).drop (i*n)).take n=f t
 | [],i,t,h=>by simp at h
 |x::l,0,t,h=>by
  simp only[abh,ZW]at h;subst h;simp only[abg,Nat.zero_mul,aa1];exact List.take_left' (hf x)
 |x::l,i+1,t,h=>by
  simp only[abi]at h;rw[abg,aaP,abj,Nat.add_comm,<-aa3,List.drop_left' (hf x)];exact C9 hf l i t h
theorem qp(ts:List T):(EN ts).length=ts.length*3:=CX (f:=fun t=>nt (T.dec ts t)) (fun _=>rfl) ts
variable{t:T}{i:Nat}
def qw{ts:List T}(h:ts[i]?=some t):((EN ts).drop (i*3)).take 3=nt (T.dec ts t):=C9 (f:=fun t=>nt (T.dec ts t)) (fun _=>rfl) ts i t h
variable{v:Nat}
def DU{ts:List T}(s:T.Seq ts){l h:T}(hl:T.isIn ts l)(hh:T.isIn ts h):EN (ts++[.nd v l h])=EN ts++nt (v,T.plc ts l,T.plc ts h):=by
 unfold EN;rw[abk];congr 1
 ·rw[List.flatMap_def,List.flatMap_def];congr 1;refine aat fun t ht=>?_;obtain⟨i,hi⟩:=List.mem_iff_getElem?.1 ht;obtain⟨v',l',h',e,_⟩:=s.2 i t hi;rw[T.dec_app s (show T.isIn ts t by subst e;exact ht)]
 ·simp[nt,T.dec,T.plc_app hl,T.plc_app hh]
def UW(ms:List T)(y u:Value):Prop:=∃t∈ms,y=gV (T.dec ms t)/\u=iv (T.plc ms t)
def Bt(mb:Nat)(ms:List T)(qs:List PH):Prop:=∃A sv r M,qs=[A,sg mb (.cells #[sv,.map (some r)] 300 (0,0)),M]/\mh A 181 3 sv ms.length (EN ms)/\lO Tryz.prog M r 181 (UW ms)/\T.Seq ms
def LB:1<Tryz.prog.types.size:=abl (by kernel_rfl)
theorem Ka:Tryz.prog.underlying 181=some (.struct #[⟨ "Var",3,0,false,"","",0⟩,⟨ "Low",3,1,false,"","",8⟩,⟨ "High",3,2,false,"","",16⟩]):=by kernel_rfl
theorem Vm:Tryz.prog.keyTypeAt 3 181=true:=by kernel_rfl
theorem V6:Tryz.prog.tiled 3 181=true:=by kernel_rfl
def Tc:Maps.Keyed Tryz.prog 181:=by
 refine Maps.Keyed.of_law (deep_law (m:=3) ab Vm V6 ?_);rw[Ka]
theorem Pu:Tryz.prog.keyType 181=true:=by kernel_rfl
theorem JJ:Tryz.prog.cellsOf 181=3:=by kernel_rfl
theorem EI:Tryz.prog.cellsOf 3=1:=by kernel_rfl
variable{n:Nat}
def HJ(h:n<2^62):(Lit.int .i64 n).wf=true:=by
 have h1:IntKind.min .i64=-9223372036854775808:=by decide
 have h2:IntKind.max .i64=9223372036854775807:=by decide
 simp only[Lit.wf,h1,h2,aao,aaC];omega
def VJ {P:Program} {k t:TypeId} {a b c:Nat} (hk:P.underlying k=some (.struct #[⟨ "Var",t,0,false,"","",0⟩,⟨ "Low",t,1,false,"","",8⟩,⟨ "High",t,2,false,"","",16⟩])) (h1:P.keyType k=true) (h2:P.cellsOf k=3) (h3:P.cellsOf t=1) (h4:P.underlying t=some (.int .i64)) (h5:1<P.types.size)
  (ha:a<2^62) (hb:b<2^62) (hc:c<2^62):kN P k (gV (a,b,c)):=by
 obtain⟨n,hn⟩:∃n,P.types.size=n+1:=⟨P.types.size-1,ab⟩;unfold kN keyOf;rw[h1];simp[hk,Value.formed,gV,hn,Program.keyLits,h2,h3,h4,Value.cells,HJ ha,HJ hb,HJ hc,iv]
theorem S5:Tryz.prog.underlying 3=some (.int .i64):=by kernel_rfl
def TB{a b c:Nat}(ha:a<2^62)(hb:b<2^62)(hc:c<2^62):kN Tryz.prog 181 (gV (a,b,c)):=VJ (t:=3) Ka Pu JJ EI S5 LB ha hb hc
theorem mixed:Tryz.prog.follows .mixedOrders=true:=by kernel_rfl
def qk:aO Tryz.prog 125:=⟨_,Tryz.func125,rfl,rfl⟩
def F8{a b:Nat}(h:iv a=iv b):a=b:=by simp[iv]at h;omega
def Nv{a b:Nat×Nat×Nat}(h:gV a=gV b):a=b:=by
 obtain⟨a1,a2,a3⟩:=a;obtain⟨b1,b2,b3⟩:=b;simp[gV,iv]at h;obtain⟨h1,h2,h3⟩:=h;rw[Int.ofNat.inj h1,Int.ofNat.inj h2,Int.ofNat.inj h3]
variable{u:Value}{ms:List T}
def x4(s:T.Seq ms){lo hi:T}(hl:T.isIn ms lo)(hh:T.isIn ms hi):UW ms (gV (i,T.plc ms lo,T.plc ms hi)) u<->T.nd i lo hi∈ms/\u=iv (T.plc ms (.nd i lo hi)):=by
 constructor
 ·rintro⟨t,ht,e1,e2⟩;obtain⟨j,hj⟩:=List.mem_iff_getElem?.1 ht;obtain⟨v,l,h,rfl,_⟩:=s.2 j t hj;have:=Nv e1;simp only[T.dec,aaI]at this;obtain⟨rfl,b,c⟩:=this;have kl:=s.kids ht;rw[T.plc_inj hl kl.1 b,T.plc_inj hh kl.2 c];exact⟨ht,e2⟩
 ·rintro⟨a,b⟩;exact⟨_,a,rfl,b⟩
def K0(s:T.Seq ms){lo hi:T}(hl:T.isIn ms lo)(hh:T.isIn ms hi)(hn:T.nd i lo hi∉ms)(y u:Value):
  UW (ms++[.nd i lo hi]) y u<->(y=gV (i,T.plc ms lo,T.plc ms hi)/\u=iv (ms.length+2))\/(y≠gV (i,T.plc ms lo,T.plc ms hi)/\UW ms y u):=by
 have isin:∀t∈ms,T.isIn ms t:=fun t ht=>by
  obtain⟨j,hj⟩:=List.mem_iff_getElem?.1 ht;obtain⟨v,l,h,rfl,_⟩:=s.2 j t hj;exact ht
 have new:T.dec (ms++[.nd i lo hi]) (.nd i lo hi)=(i,T.plc ms lo,T.plc ms hi)/\T.plc (ms++[.nd i lo hi]) (.nd i lo hi)=ms.length+2:=by
  refine⟨by simp[T.dec,T.plc_app hl,T.plc_app hh],?_⟩;simp only[T.plc];rw[List.idxOf_append,ZV hn];simp
 unfold UW;constructor
 ·rintro⟨t,ht,e1,e2⟩;rcases List.mem_append.1 ht with h|h
  ·rw[T.dec_app s (isin t h)]at e1;rw[T.plc_app (isin t h)]at e2;refine .inr ⟨fun e=>?_,t,h,e1,e2⟩;exact hn ((x4 s hl hh (u:=u)).1 ⟨t,h,e▸e1,e2⟩).1
  ·simp at h;subst h;rw[new.1]at e1;rw[new.2]at e2;exact .inl ⟨e1,e2⟩
 ·rintro(⟨e1,e2⟩|⟨_,t,h,e1,e2⟩)
  ·exact⟨_,aav _ (.head _),by rw[new.1];exact e1,by rw[new.2];exact e2⟩
  ·exact⟨t,aau _ h,by rw[T.dec_app s (isin t h)];exact e1,by rw[T.plc_app (isin t h)];exact e2⟩
theorem wrap64(h:n<2^62):IntKind.i64.wrap (n:Int)=(n:Int):=by
 have h1:(n:Int) % (2^64:Int)=n:=abm ab ab;simp only[IntKind.wrap,show IntKind.bits .i64=64 from rfl,show IntKind.signed .i64=true from rfl,h1];rw[ZV];simp;omega
theorem Z7(h:i+1<2^62):IntKind.i64.wrap ((i:Int)+1)=((i+1:Nat):Int):=by
 rw[<-wrap64 (n:=i+1) h];congr 1
variable{I:PH}
def tT{mb:Nat}{ps:List PH}(h:Bt mb ms ps){lo hi:T}(an:i<24)(okl:lo.ok (i+1))(okh:hi.ok (i+1))(hl:T.isIn ms lo)(hh:T.isIn ms hi)(a5:ms.length<2^30):
  aK Tryz.prog 125 #[pt mb,iv i,iv (T.plc ms lo),iv (T.plc ms hi)] I ps fun v I2 qs=>∃us,Bt mb (ms++us) qs/\us.length<=1/\T.isIn (ms++us) (T.mk i lo hi)/\v=iv (T.plc (ms++us) (T.mk i lo hi)):=by
 intro hd;obtain⟨A,sv,r,M,rfl,hA,hM,sq⟩:=h;have pl:=T.plc_lt hl;have ph:=T.plc_lt hh;refine cC Tryz.func125 rfl (by simp[Tryz.ntmps125]) fun w0=>?_;simp only[Tryz.ntmps125,pt,iv];by_cases e:T.plc ms lo=T.plc ms hi
 ·have e':=T.plc_inj hl hh e;subst e';have aq:((T.plc ms lo:Int) == (T.plc ms lo:Int))=true:=by simp
  apply RG;simp only[go_sem,aq];refine af rfl hd (r:=[_]) rfl (abW _) ⟨[],?_,by simp,?_,?_⟩
  ·rw[aa6];exact⟨A,sv,r,M,rfl,hA,hM,sq⟩
  ·rw[aa6];simp only[T.mk,ZT];exact hl
  ·simp[T.mk,gv,iv]
 ·have aj:¬lo=hi:=fun e2=>e (by rw[e2]);have aq:((T.plc ms lo:Int) == (T.plc ms hi:Int))=false:=by simp;omega
  apply RG;simp only[go_sem,aq];refine dN mixed [0,1,2,3,4,5,6,7,8,9,10] [3,5] [] rfl rfl ?_;refine gw ?_;refine W7 (l:=[_]) rfl (cellsU hd (.tail _ (.tail _ (.head _))) (ay (by simp) rfl)) (.inr ⟨MH,rfl⟩) ?_;refine gw ?_;have a0:=hM.atU hd (by simp);have aa:kN Tryz.prog 181 (gV (i,T.plc ms lo,T.plc ms hi)):=TB ab ab ab;by_cases ac:T.nd i lo hi∈ms
  ·refine qv Tc Nr NL (key:=gV (i,T.plc ms lo,T.plc ms hi)) rfl rfl rfl rfl rfl a0 aa (iv (T.plc ms (.nd i lo hi))) true (.inl ⟨rfl,(x4 sq hl hh).2 ⟨ac,rfl⟩⟩) ?_;refine gw ?_;refine aw ?_;refine aT ?_;refine af rfl hd (r:=[_]) rfl (abW _) ⟨[],?_,by simp,?_,?_⟩
   ·rw[aa6];exact⟨A,sv,r,M,rfl,hA,hM,sq⟩
   ·rw[aa6];simp only[T.mk,ZV aj];exact ac
   ·rw[aa6];simp only[T.mk,ZV aj];rfl
  ·refine qv Tc Nr NL (key:=gV (i,T.plc ms lo,T.plc ms hi)) rfl rfl rfl rfl rfl a0 aa (iv 0) false (.inr ⟨rfl,rfl,fun u hu=>ac ((x4 sq hl hh).1 hu).1⟩) ?_;refine gw ?_;refine aw ?_;refine aT ?_;refine dN mixed [0,1,2,3,4,5,6,7,8,9,10] [4] [6] rfl rfl ?_;refine gw ?_;refine W7 (l:=[_]) rfl (cellsU hd (.tail _ (.tail _ (.head _))) (ay (by simp) rfl)) (.inr ⟨DR,rfl⟩) ?_;refine gw ?_;refine bj hd Qr rfl rfl rfl rfl rfl bg fun b I2 aS am hb=>?_;refine j3 (m:=1) aS Qr hA rfl rfl rfl rfl rfl rfl (cellsU aS (.head _) (az (l:=nt (i,T.plc ms lo,T.plc ms hi)) hb (by simp[nt,aD,Value.cells]) (by simp[nt,aD,Value.cells,iv]))) rfl rfl ab (by unfold maxLen;omega) fun v' I3 A3 bc ak a1=>?_;obtain⟨a3,c3,rfl⟩:=a1.slice;refine gw ?_;refine nI bc [1,0,2] fun bb=>?_;refine aQ bb rfl rfl rfl rfl rfl rfl SF (by simp) fun ba=>?_;refine aw ?_;have ao:Dj [I3,sg mb (.cells #[.slice a3 (ms.length+1) c3,.map (some r)] 300 (0,0)),A3,M]:=ba;show RC _ _ _ (U [I3,sg mb (.cells #[.slice a3 (ms.length+1) c3,.map (some r)] 300 (0,0)),A3,M]);refine aT ?_;refine XN (l:=[_]) rfl (cellsU ao (.tail _ (.head _)) (ay (by simp) rfl)) (.inr ⟨DR,rfl⟩) ?_;have hw:IntKind.i64.wrap (((ms.length+1:Nat):Int)+1)=((ms.length+2:Nat):Int):=by
    have:=wrap64 (n:=ms.length+2) ab;rw[<-this];congr 1
   apply RG;simp only[go_sem,hw];refine dN mixed [0,1,2,3,4,5,6] [3] [] rfl rfl ?_;refine gw ?_;refine W7 (l:=[_]) rfl (cellsU ao (.tail _ (.head _)) (ay (by simp) rfl)) (.inr ⟨MH,rfl⟩) ?_;refine gw ?_;refine nI ao [2,0,1] fun a9=>?_;refine nT (by exact Tc) (by exact Nr) (key:=gV (i,T.plc ms lo,T.plc ms hi)) (v:=iv (ms.length+2)) a9 rfl rfl rfl (.inl rfl) rfl rfl rfl hM aa fun M2 a7 bd=>?_;refine aw ?_;refine aT ?_;refine bf a7 [2,1,0] fun a6=>?_;have a4:(T.nd i lo hi).ok 0:=⟨aaL _,an,aj,okl,okh⟩;have a2:T.plc (ms++[.nd i lo hi]) (.nd i lo hi)=ms.length+2:=by
    simp only[T.plc];rw[List.idxOf_append,ZV ac];simp
   refine af rfl a6 (r:=[_]) rfl (abV am ak) ⟨[.nd i lo hi],⟨A3,.slice a3 (ms.length+1) c3,r,M2,rfl,a1.xs (by simp) (DU sq hl hh).symm,bd.congr fun y u=>K0 sq hl hh ac y u,sq.snoc a4 hl hh ac⟩,by simp,?_,?_⟩
   ·simp only[T.mk,ZV aj];show T.nd i lo hi∈_;simp
   ·simp only[T.mk,ZV aj,a2];rfl
def rS(I:PH):aK Tryz.prog 124 #[] I [] fun v I2 qs=>∃mb,v=pt mb/\Bt mb [] qs:=by
 intro hd;refine cC Tryz.func124 rfl (by simp[Tryz.ntmps124]) fun w0=>?_;simp only[Tryz.ntmps124];refine aT ?_;refine pM 181 hd rfl rfl fun r M aj hM=>?_;refine aT ?_;refine fV 3 aj rfl fun mb ac=>?_;refine aR ac fun aa=>?_;refine af rfl aa (r:=[_]) rfl (abW _) ⟨mb,rfl,PH.no,.slice none 0 0,r,M,rfl,mh.nil _ _,hM.congr fun y u=>⟨fun⟨t,h,_⟩=>(by simp at h),fun h=>h.elim⟩,T.Seq.nil⟩
def uo(I:PH)(sl:Value)(ts:List T):Prop:=∃a c,sl=.slice a ts.length c/\(ts=[]\/∃b,a=some ⟨b,0,none⟩/\aP I b 0 (EN ts))
def uo.le{J:PH}{sl:Value}{ts:List T}(h:uo I sl ts)(aa:I.le J):uo J sl ts:=by
 obtain⟨a,c,e,h⟩:=h;exact⟨a,c,e,h.imp id fun⟨b,e1,e2⟩=>⟨b,e1,e2.le aa⟩⟩
def cX(I:PH)(v:Value)(t:T):Prop:=t.ok 0/\∃sl,v=.agg #[sl,iv (T.plc (T.subs t) t)]/\uo I sl (T.subs t)
def cX.le{J:PH}{v:Value}(h:cX I v t)(aa:I.le J):cX J v t:=by
 obtain⟨a,sl,e,h⟩:=h;exact⟨a,sl,e,h.le aa⟩
def Vc{H:PH}{sl rv:Value}{ts:List T}(hL:uo H sl ts)(sq:T.Seq ts)(ht:T.isIn ts t)(ac:ts.length<2^40):
  bO Tryz.prog 236 #[.agg #[sl,rv],iv (T.plc ts t)] H fun v H2=>v=gV (T.dec ts t)/\H2=H:=by
 obtain⟨a,c,rfl,hc⟩:=hL;refine cC Tryz.func236 rfl (by simp[Tryz.ntmps236]) fun w0=>?_;simp only[Tryz.ntmps236,iv];cases t with
 |lf b=>
  have h6:decide (((T.plc ts (.lf b):Nat):Int)<2)=true:=by simp only[T.plc];split<;>simp
  apply RG;simp only[go_sem,h6];refine aJ (r:=[.agg #[.int .i64 24,.int .i64 (T.plc ts (.lf b):Nat),.int .i64 (T.plc ts (.lf b):Nat)]]) (by simp only[Tryz.results236,go_sem]) ⟨?_,rfl⟩;simp only[gv,gV,T.dec,T.plc,iv];cases b<;>rfl
 |nd v l h=>
  have hm:T.nd v l h∈ts:=ht;have hi:=abb hm;have hp:T.plc ts (.nd v l h)=ts.idxOf (.nd v l h)+2:=rfl;have h6:decide (((T.plc ts (.nd v l h):Nat):Int)<2)=false:=by rw[hp];simp;omega
  have aj:IntKind.i64.wrap (((T.plc ts (.nd v l h):Nat):Int)-2)=((ts.idxOf (.nd v l h):Nat):Int):=by
   rw[<-wrap64 (n:=ts.idxOf (.nd v l h)) ab,hp];congr 1;omega
  rcases hc with rfl|⟨b,rfl,hc⟩
  ·simp at hm
  ·apply RG;simp only[go_sem,h6,aj];refine⟨⟨ab,ab⟩,?_⟩;have hg:=T.plc_get hm;rw[hp,acU]at hg;have ak:(EN ts).length=ts.length*3:=qp ts;have aa:=hc.sub (ts.idxOf (.nd v l h)*3) 3 ab;rw[qw hg,ZZ]at aa;refine XN (l:=nt (T.dec ts (.nd v l h))) (v:=gV (T.dec ts (.nd v l h))) rfl aa (.inl ⟨uK,rfl⟩) ?_;apply RG;simp only[go_sem,gV,iv];refine aJ (r:=[gV (T.dec ts (.nd v l h))]) (by simp only[Tryz.results236,go_sem,gV,iv]) ⟨rfl,rfl⟩
def K3:Maps.Keyed Tryz.prog 3:=Maps.int_keyed S5
def PK(h:n<2^62):kN Tryz.prog 3 (iv n):=⟨_,Maps.keyOf_int_mk S5 (HJ h)⟩
def Aw:aO Tryz.prog 189:=⟨_,Tryz.func189,rfl,rfl⟩
def VP(ms us:List T)(y u:Value):Prop:=∃t,T.isIn ms t/\T.isIn us t/\y=iv (T.plc ms t)/\u=iv (T.plc us t)
variable{us:List T}
def BZ(ht:T.isIn ms t):VP ms us (iv (T.plc ms t)) u<->T.isIn us t/\u=iv (T.plc us t):=by
 constructor
 ·rintro⟨t',h1,h2,h3,h4⟩;have:=T.plc_inj ht h1 (F8 h3);subst this;exact⟨h2,h4⟩
 ·rintro⟨a,b⟩;exact⟨t,ht,a,rfl,b⟩
def DH(s:T.Seq us)(ht:t∈us):T.isIn us t:=by
 obtain⟨j,hj⟩:=List.mem_iff_getElem?.1 ht;obtain⟨v,l,h,rfl,_⟩:=s.2 j t hj;exact ht
def BC{l h:T}(hn:T.nd v l h∉us):T.plc (us++[.nd v l h]) (.nd v l h)=us.length+2:=by
 simp only[T.plc];rw[List.idxOf_append,ZV hn];simp
def qH{l h:T}:T.isIn (us++[.nd v l h]) t<->T.isIn us t\/t=.nd v l h:=by
 cases t with
 |lf b=>simp[T.isIn]
 |nd v' l' h'=>simp[T.isIn]
def Nw{l h:T}(aa:T.isIn ms (.nd v l h))(hn:T.nd v l h∉us)(y u:Value):
  VP ms (us++[.nd v l h]) y u<->(y=iv (T.plc ms (.nd v l h))/\u=iv (us.length+2))\/(y≠iv (T.plc ms (.nd v l h))/\VP ms us y u):=by
 constructor
 ·rintro⟨t,h1,h2,rfl,rfl⟩;rcases qH.1 h2 with h3|rfl
  ·refine .inr ⟨fun e=>?_,t,h1,h3,rfl,by rw[T.plc_app h3]⟩;have:=T.plc_inj h1 aa (F8 e);subst this;exact hn h3
  ·exact .inl ⟨rfl,by rw[BC hn]⟩
 ·rintro(⟨rfl,rfl⟩|⟨_,t,h1,h2,rfl,rfl⟩)
  ·exact⟨_,aa,qH.2 (.inr rfl),rfl,by rw[BC hn]⟩
  ·exact⟨t,h1,qH.2 (.inl h2),rfl,by rw[T.plc_app h2]⟩
def Gy(pb tb vb ob:Nat):Value:=.func (.func 189) #[] #[pt pb,pt tb,pt vb,pt ob]
structure MK(I:PH)(pb tb vb ob mb r:Nat)(ms:List T):Prop where
 hp:I pb=some (.cells #[.map (some r)] 301 (0,0))
 ht:I tb=some (.cells #[pt mb] 217 (0,0))
 hv:I vb=some (.cells #[Gy pb tb vb ob] 302 (0,0))
 hm:∃slv m,I mb=some (.cells #[slv,m] 300 (0,0))/\uo I slv ms
 sq:T.Seq ms
 len:ms.length<2^30
def MK.le{J:PH}{pb tb vb ob mb r:Nat}(h:MK I pb tb vb ob mb r ms)(aa:I.le J):MK J pb tb vb ob mb r ms:=
 ⟨aa _ _ h.hp,aa _ _ h.ht,aa _ _ h.hv,let ⟨a,b,c,d⟩:=h.hm;⟨a,b,aa _ _ c,d.le aa⟩,h.sq,h.len⟩
def S3(ob r:Nat)(ms us:List T)(qs:List PH):Prop:=∃A sv M,qs=[A,sg ob (.cells #[sv] 48 (0,0)),M]/\mh A 181 3 sv us.length (EN us)/\lO Tryz.prog M r 3 (VP ms us)/\T.Seq us
def N4{pb tb vb ob mb r:Nat}(t:T):∀{k:Nat} {us:List T} {I:PH} {ps:List PH},t.ok k->k<=24->T.isIn ms t->MK I pb tb vb ob mb r ms->S3 ob r ms us ps->us.length+2^(24-k)<=2^30->
  aK Tryz.prog 189 #[iv (T.plc ms t),pt pb,pt tb,pt vb,pt ob] I ps fun v I2 qs=>S3 ob r ms (t.vis us) qs/\v=iv (T.plc (t.vis us) t):=by
 induction t with
 |lf x=>
  intro k us I ps hk a2 an hI hP a7 hd;obtain⟨A,sv,M,rfl,hA,hM,sq⟩:=hP;refine cC Tryz.func189 rfl (by simp[Tryz.ntmps189]) fun w0=>?_;simp only[Tryz.ntmps189,pt,iv];refine aT ?_;refine XN (l:=[_]) rfl (cellsU hd (.head _) (az hI.hp (by simp) rfl)) (.inr ⟨GM,rfl⟩) ?_;refine aT ?_;refine nB (by exact K3) (by exact zR) (by exact NL) (key:=iv (T.plc ms (.lf x))) rfl rfl rfl rfl (hM.atU hd (by simp)) (by exact PK (by simp only[T.plc];split<;>omega)) (iv (T.plc us (.lf x))) true (.inl ⟨rfl,(BZ an).2 ⟨trivial,rfl⟩⟩) ?_;refine aT ?_;exact af rfl hd (r:=[_]) rfl (abW _) ⟨⟨A,sv,M,rfl,hA,hM,sq⟩,rfl⟩
 |nd v l h ihl ihh=>
  intro k us I ps hk a2 an hI hP a7 hd;obtain⟨A,sv,M,rfl,hA,hM,sq⟩:=hP;have cx:=T.plc_lt an;have cA:=hI.len;have ak:kN Tryz.prog 3 (iv (T.plc ms (.nd v l h))):=PK ab;refine cC Tryz.func189 rfl (by simp[Tryz.ntmps189]) fun w0=>?_;simp only[Tryz.ntmps189,pt,iv];refine aT ?_;refine XN (l:=[_]) rfl (cellsU hd (.head _) (az hI.hp (by simp) rfl)) (.inr ⟨GM,rfl⟩) ?_;refine aT ?_;by_cases ac:T.nd v l h∈us
  ·refine nB (by exact K3) (by exact zR) (by exact NL) (key:=iv (T.plc ms (.nd v l h))) rfl rfl rfl rfl (hM.atU hd (by simp)) (by exact ak) (iv (T.plc us (.nd v l h))) true (.inl ⟨rfl,(BZ an).2 ⟨ac,rfl⟩⟩) ?_;refine aT ?_;refine af rfl hd (r:=[_]) rfl (abW _) ⟨?_,?_⟩
   ·simp only[T.vis,aaq ac];exact⟨A,sv,M,rfl,hA,hM,sq⟩
   ·simp only[T.vis,aaq ac];rfl
  ·refine nB (by exact K3) (by exact zR) (by exact NL) (key:=iv (T.plc ms (.nd v l h))) rfl rfl rfl rfl (hM.atU hd (by simp)) (by exact ak) (iv 0) false (.inr ⟨rfl,rfl,fun u hu=>ac ((BZ an).1 hu).1⟩) ?_;refine aT ?_;refine XN (l:=[_]) rfl (cellsU hd (.head _) (az hI.ht (by simp) rfl)) (.inr ⟨zj,rfl⟩) ?_;apply RG;simp only[go_sem,pt];obtain⟨slv,mm,b4,am,cm,rfl,cl⟩:=hI.hm;refine XN (l:=[_]) rfl (cellsU hd (.head _) (az b4 (by simp) rfl)) (.inr ⟨DR,rfl⟩) ?_;have hm:T.nd v l h∈ms:=an;have hi:=abb hm;have hp:T.plc ms (.nd v l h)=ms.idxOf (.nd v l h)+2:=rfl;have ct:IntKind.i64.wrap (((T.plc ms (.nd v l h):Nat):Int)-2)=((ms.idxOf (.nd v l h):Nat):Int):=by
    rw[<-wrap64 (n:=ms.idxOf (.nd v l h)) ab,hp];congr 1;omega
   rcases cl with rfl|⟨lb,rfl,hc⟩
   ·simp at hm
   ·apply RG;simp only[go_sem,ct];refine⟨⟨ab,ab⟩,?_⟩;have hg:=T.plc_get hm;rw[hp,acU]at hg;have cB:(EN ms).length=ms.length*3:=qp ms;have aj:=hc.sub (ms.idxOf (.nd v l h)*3) 3 ab;rw[qw hg,ZZ]at aj;refine XN (l:=nt (T.dec ms (.nd v l h))) (v:=gV (T.dec ms (.nd v l h))) rfl (cellsU hd (.head _) aj) (.inl ⟨uK,rfl⟩) ?_;apply RG;simp only[go_sem,gV,iv,T.dec];refine XN (l:=[_]) rfl (cellsU hd (.head _) (az hI.hv (by simp) rfl)) (.inr ⟨Gq,rfl⟩) ?_;apply RG;simp only[go_sem,gV,iv,T.dec,Gy];have okl:=hk.2.2.2.1;have okh:=hk.2.2.2.2;have b0:=hk.2.1;have c0:=hk.1;have kin:=hI.sq.kids hm;have cy:2^(24-(v+1))+2^(24-(v+1))<=2^(24-k):=by
     have:2^(24-(v+1))+2^(24-(v+1))=2^(24-v):=by rw[show 24-v=(24-(v+1))+1 by omega,abd];omega
     rw[this];exact abe ab ab
    obtain⟨s1,i1,us1,e1,n1,_⟩:=T.vis_spec l okl ab us sq;obtain⟨s2,i2,us2,e2,n2,_⟩:=T.vis_spec h okh ab _ s1;have len1:(l.vis us).length=us.length+us1.length:=by rw[e1];simp
    have len2:(h.vis (l.vis us)).length=(l.vis us).length+us2.length:=by rw[e2];simp
    have aa:(T.nd v l h).vis us=h.vis (l.vis us)++[.nd v l h]:=by simp only[T.vis,ZV ac]
    have s3:T.Seq ((T.nd v l h).vis us):=(T.vis_spec _ hk a2 us sq).1;have ao:T.nd v l h∉h.vis (l.vis us):=by
     rw[aa]at s3;intro cc;exact(List.nodup_append.1 s3.1).2.2 _ cc _ (.head _) rfl
    have pl1:T.plc (h.vis (l.vis us)) l=T.plc (l.vis us) l:=by rw[e2];exact T.plc_app i1
    have i1':T.isIn (h.vis (l.vis us)) l:=by rw[e2];exact i1.app
    have b1:=T.plc_lt i1;have b2:=T.plc_lt i2;refine DY hd [0,1,2] rfl Aw rfl (F:=[]) rfl (ihl okl ab kin.1 hI ⟨A,sv,M,rfl,hA,hM,sq⟩ ab) fun v1 I2 qs bb a1 a6=>?_;obtain⟨⟨A2,sv2,M2,rfl,cs,cj,sq2⟩,rfl⟩:=a6;simp only[aa6]at bb |-;have bd:=hI.le a1;apply RG;simp only[go_sem,iv];refine XN (l:=[_]) rfl (cellsU bb (.head _) (az bd.hv (by simp) rfl)) (.inr ⟨Gq,rfl⟩) ?_;apply RG;simp only[go_sem,iv,Gy];refine DY bb [0,1,2] rfl Aw rfl (F:=[]) rfl (ihh okh ab kin.2 bd ⟨A2,sv2,M2,rfl,cs,cj,sq2⟩ ab) fun v2 I3 qs ba a0 a4=>?_;obtain⟨⟨A3,sv3,M3,rfl,cr,ci,sq3⟩,rfl⟩:=a4;simp only[aa6]at ba |-;have cp:=bd.le a0;apply RG;simp only[go_sem,iv];refine XN (l:=[_]) rfl (cellsU ba (.tail _ (.tail _ (.head _))) (ay (by simp) rfl)) (.inr ⟨DR,rfl⟩) ?_;apply RG;simp only[go_sem,iv];refine ax ba (by exact Qr) rfl rfl rfl rfl rfl bg fun nb I4 bs aS b3=>?_;apply RG;simp only[go_sem,iv];refine dZ (m:=1) bs (by exact Qr) cr rfl rfl rfl rfl (cellsU bs (.head _) (az (l:=nt (v,T.plc (l.vis us) l,T.plc (h.vis (l.vis us)) h)) b3 (by simp[nt,aD,Value.cells]) (by simp[nt,aD,Value.cells,iv]))) rfl rfl ab (by unfold maxLen;omega) fun v' I5 A5 cb aq bx=>?_;obtain⟨a5,c5,rfl⟩:=bx.slice;apply RG;simp only[go_sem,iv];refine bf cb [1,0,2] fun ca=>?_;refine bw ca rfl rfl rfl rfl rfl (by exact SF) (by simp) fun b6=>?_;have a9:Dj [I5,sg ob (.cells #[.slice a5 ((h.vis (l.vis us)).length+1) c5] 48 (0,0)),A5,M3]:=b6;show RC _ _ _ (U [I5,sg ob (.cells #[.slice a5 ((h.vis (l.vis us)).length+1) c5] 48 (0,0)),A5,M3]);have cn:=(cp.le aS).le aq;apply RG;simp only[go_sem,iv];refine XN (l:=[_]) rfl (cellsU a9 (.head _) (az cn.hp (by simp) rfl)) (.inr ⟨GM,rfl⟩) ?_;apply RG;simp only[go_sem,iv]
    refine XN (l:=[_]) rfl (cellsU a9 (.tail _ (.head _)) (ay (by simp) rfl)) (.inr ⟨DR,rfl⟩) ?_;have hw:IntKind.i64.wrap ((((h.vis (l.vis us)).length+1:Nat):Int)+1)=(((h.vis (l.vis us)).length+2:Nat):Int):=by
     have:=wrap64 (n:=(h.vis (l.vis us)).length+2) ab;rw[<-this];congr 1
    apply RG;simp only[go_sem,iv,hw];refine bf a9 [2,0,1] fun b5=>?_;refine nZ (by exact K3) (by exact zR) (key:=iv (T.plc ms (.nd v l h))) (v:=iv ((h.vis (l.vis us)).length+2)) b5 rfl (.inl rfl) rfl rfl rfl ci (by exact ak) fun M6 a3 cf=>?_;apply RG;simp only[go_sem,iv];refine XN (l:=[_]) rfl (cellsU a3 (.tail _ (.tail _ (.head _))) (ay (by simp) rfl)) (.inr ⟨DR,rfl⟩) ?_;apply RG;simp only[go_sem,iv,hw];refine bf a3 [2,1,0] fun bc=>?_;refine af rfl bc (r:=[_]) rfl (abV a1 (abV a0 (abV aS aq))) ⟨?_,?_⟩
    ·refine⟨A5,_,M6,rfl,bx.xs (by rw[aa];simp) ?_,cf.congr fun y u=>by rw[aa];exact Nw an ao y u,s3⟩;rw[aa,DU s2 i1' i2,pl1]
    ·rw[aa,BC ao];rfl
end Go.Proofs.YtfaclfkpnmcmlaaGreatDoor
