import Derived.Test.YtfaclfkpnmcmlaaGreatDoorJ08
set_option maxHeartbeats 8000000
set_option linter.all false
namespace Syn
open Dg
mutual
def uV:M->Prop
 |⟨_,_,_,_,ks,d⟩=>d.ok 0/\d≠ff/\(∀m∈ks,np m.cond d)/\(ks.map M.key).Pairwise (fun a b=>jU a b=true)/\uU ks
def uU:List M->Prop
 | []=>True
 |n::l=>uV n/\uU l
end
variable{l:List M}
def Ju:uU l<->∀n∈l,uV n:=by
 induction l with
 |nil=>simp[uU]
 |cons n l a=>simp[uU,a]
def rQ(n:M):uV n<->n.cond.ok 0/\n.cond≠ff/\(∀m∈n.kids,np m.cond n.cond)/\(n.kids.map M.key).Pairwise (fun a b=>jU a b=true)/\uU n.kids:=by cases n;rfl
def rP(l:List M):Prop:=(l.map M.key).Pairwise (fun a b=>jU a b=true)/\∀n∈l,uV n
variable{n:M}
def AI(h:uV n):rP n.kids:=⟨((rQ n).1 h).2.2.2.1,Ju.1 ((rQ n).1 h).2.2.2.2⟩
def SH{c:aD}{k:eP}:(∃x∈pL c l,x.key=k)<->∃n∈l,n.key=k/\n.cond.at' c=true:=by
 constructor
 .rintro⟨x,a,b⟩;obtain⟨n,h1,h2,e⟩:=kX.1 a;exact⟨n,h1,by rw[<-b,e];rfl,h2⟩
 .rintro⟨n,h1,h2,h3⟩;exact⟨_,kX.2 ⟨n,h1,h3,rfl⟩,h2⟩
def XD(h:wN n):∀m∈n.kids,np m.cond n.cond:=fun m hm=>(BU.1 ((FM n).1 h) m hm).1
def Js:∀(d:Nat) {l:List M},cz l->(∀n∈l,wN n)->rP (cO d l)
 |0,_,_,_=>⟨List.Pairwise.nil,fun n f=>(dH f).elim⟩
 |d+1,l,a,g=>by
  have i:(cO (d+1) l).map M.key=ks l:=by
   simp only[cO,pi]
   conv=>rhs;rw[<-List.map_id (ks l)]
   exact m0 fun k _=>rfl
  refine⟨by rw[i];exact oW mH _,fun n f=>?_⟩;simp only[cO,mg]at f;obtain⟨k,i,rfl⟩:=f;obtain⟨p,i2⟩:=Js d (xG (k:=k) a) (FO (k:=k) g);refine⟨Of a,fun e=>?_,fun m hm c j=>?_,p,Ju.2 i2⟩
  .obtain⟨x,h1,h2,h3⟩:=te.1 i;obtain⟨c,j⟩:=T.some_of_ne (jd.1 (jV.1 a x h1)).1 h3;have:=(zN (k:=k) a).2 ⟨x,h1,h2,j⟩;rw[e]at this;cases this
  .have b:∃x∈pL c (cO d (en l k)),x.key=m.key:=SH.2 ⟨m,hm,rfl,j⟩;rw[AG c d (xG a) (FO g)]at b;obtain⟨x,o,_⟩:=b;have h:pL c (en l k)≠[]:=fun e=>by rw[e,xz]at o;exact dH o
   obtain⟨y,q⟩:=List.exists_mem_of_ne_nil _ h;obtain⟨z,h1,h2,_⟩:=kX.1 q;obtain⟨n,h3,h4,_,h5⟩:=uT h1;exact(zN a).2 ⟨n,h3,h4,XD (g n h3) z h5 c h2⟩
open Dg
def Jx(h:rP (n::l)):rP l:=⟨(List.pairwise_cons.1 h.1).2,fun m hm=>h.2 m (.tail _ hm)⟩
def Eu(e:List aG):Prop:=(e.map aG.key).Pairwise (fun a b=>gD a b=true)/\∀d∈e,d.cond.ok 0/\d.cond≠ff
variable{e:List aG}
def UU{c:aD}{x:aG}:x∈jD c e<->∃d∈e,d.cond.at' c=true/\x={ d with cond:=tt }:=by
 unfold jD;simp only[mg,jZ];constructor
 .rintro⟨d,⟨h1,h2⟩,h3⟩;exact⟨d,h1,h2,h3.symm⟩
 .rintro⟨d,h1,h2,h3⟩;exact⟨d,⟨h1,h2⟩,h3.symm⟩
def TJ(h:jb e):Eu (it e):=by
 have a:(it e).map aG.key=pM e:=by
  simp only[it,pi]
  conv=>rhs;rw[<-List.map_id (pM e)]
  exact m0 fun k _=>rfl
 refine⟨by rw[a];exact oW jR _,fun d hd=>?_⟩;simp only[it,mg]at hd;obtain⟨k,a,rfl⟩:=hd;refine⟨G8 h,fun f=>?_⟩;unfold pM at a;rw[vB jR]at a;simp only[mg,jZ,dA]at a;obtain⟨x,⟨h1,h3⟩,h2⟩:=a;obtain⟨c,b⟩:=T.some_of_ne (h x h1) h3;have:=(De (k:=k) h).2 ⟨x,h1,h2,b⟩;have e1:pI e k=ff:=f;rw[e1]at this;cases this
def T0(t:Tr):Prop:=rP t.kids/\Eu t.diags
def OQ{Z:List Tok}(a:bw Z){w:T}(g:w.ok 0){t:Tr}(h:ml Z w t):T0 t:=by
 rcases h with ⟨_,e⟩|⟨b,r,j,i⟩
 .subst e;exact⟨⟨List.Pairwise.nil,fun n c=>(dH c).elim⟩,⟨List.Pairwise.nil,fun n c=>(dH c).elim⟩⟩
 .obtain⟨q,_,R⟩:=qB a g b j (fun _=>false);obtain⟨f,d⟩:=xS R.fok R.lok;subst i;exact⟨Js _ f d,TJ R.eok⟩
mutual
def Lh:M->Nat
 |⟨_,_,_,_,ks,_⟩=>aO ks+1
def aO:List M->Nat
 | []=>0
 |n::l=>Lh n+aO l
end
def WI(n:M):Lh n=aO n.kids+1:=by cases n;rfl
theorem gG:aO []=0:=rfl
def dl(n:M)(l:List M):aO (n::l)=aO n.kids+1+aO l:=by rw[aO,WI]
def lm:∀(a b:List M),aO (a++b)=aO a+aO b
 | [],b=>by simp[aO]
 |n::a,b=>by rw[aN,dl,dl,lm a b];omega
def vK{n:M}:∀{l:List M},n∈l->aO n.kids+1<=aO l
 | [],h=>(dH h).elim
 |m::l,h=>by
  rw[dl];rcases List.mem_cons.1 h with e|e
  .subst e;omega
  .have:=vK e;omega
def nX:∀(l:List M),l.length<=aO l
 | []=>aR _
 |n::l=>by rw[dl,bm];have:=nX l;omega
def kD{ks:List M}(h:l.length<=1):aO (give l ks)<=aO l+aO ks:=by
 match l,h with
 | [],_=>simp[give,aO]
 | [n],_=>show aO [_]<=_;rw[dl,dl,gG];show aO (n.kids++ks)+1+0<=_;rw[lm];omega
def eE(l ks:List M):(give l ks).length=l.length:=by simp[give]
def Lg:∀(l:List M),aO (slot0 l)=aO l
 | []=>rfl
 |n::l=>by show aO (_::slot0 l)=_;rw[dl,dl,Lg l]
section
variable (N:Nat)
def lf:Option Nat->Nat
 |none=>0
 |some p=>N+1-p
theorem oG:lf N none=0:=rfl
theorem lT(p:Nat):lf N (some p)=N+1-p:=rfl
def IY(x y:Option Nat):lf N (x.or y)<=lf N x+lf N y:=by cases x<;>simp[lf]
def IX(x:Option Nat):lf N (x.map (·+1))<=lf N x:=by
 cases x with
 |none=>exact aR _
 |some p=>simp only[cZ,lf];omega
end
section
variable {c:aD} {Z:List Tok}
def p0(p:Option Nat):lf Z.length (p.map (nx c Z))<=lf Z.length p:=by
 cases p with
 |none=>exact aR _
 |some p=>have:=qg c Z p;simp only[cZ,lf];omega
def qb(p:Option Nat)(is:Nat->Bool):lf Z.length (bq c Z p is)+lf Z.length (bq c Z p fun i=>!is i)<=lf Z.length p:=by
 refine fD ?_ (p0 (c:=c) p);unfold bq;cases p.map (nx c Z)with
 |none=>exact aR _
 |some i=>cases h:is i<;>simp[Option.filter,h,lf]
variable{p:Option Nat}
def JR{is:Nat->Bool}{i:Nat}(h:bq c Z p is=some i):is i=true:=by unfold bq at h;exact(Option.filter_eq_some_iff.1 h).2
def eS{i:Nat}(h:X Z i≠[]):i<Z.length:=by
 rcases aI i Z.length with h2|h2
 .exact h2
 .exact absurd (by unfold X fk;rw[fe h2]) h
def qP{i:Nat}(h:K Z i≠0):i<Z.length:=by
 rcases aI i Z.length with h2|h2
 .exact h2
 .exact absurd (by unfold K fk;rw[fe h2]) h
def oH(p:Option Nat)(s:al):lf Z.length (de Z c p s).1<=lf Z.length p:=by
 refine fD ?_ (p0 (c:=c) p);unfold de;cases p.map (nx c Z)with
 |none=>exact aR _
 |some i=>
  simp only;split
  .simp only[lf];omega
  .exact aF _
def yA(p:Option Nat)(kind slot:Nat):aO (bS Z c p kind slot).l+lf Z.length (bS Z c p kind slot).p<=lf Z.length p/\(bS Z c p kind slot).l.length<=1:=by
 have h0:=p0 (c:=c) (Z:=Z) p;unfold bS;cases e:p.map (nx c Z)with
 |none=>exact⟨aF _,aF _⟩
 |some i=>
  rw[e]at h0;simp only;split
  .exact⟨aF _,aF _⟩
  .rename_i h;have:i<Z.length:=qP fun h2=>h (.inl (by rw[h2];decide));refine⟨?_,aR _⟩;simp only[dl,gG,lf]at *;omega
def Fg(p:Option Nat)(slot:Nat):aO (fL Z c p slot).l+lf Z.length (fL Z c p slot).p<=lf Z.length p:=by
 have h0:=p0 (c:=c) (Z:=Z) p;unfold fL;cases e:p.map (nx c Z)with
 |none=>exact aF _
 |some i=>
  rw[e]at h0;simp only;split
  .exact aF _
  .rename_i h;have:i<Z.length:=eS fun h2=>h (by rw[h2];exact⟨by decide,by decide⟩);simp only[dl,gG,lf]at *;omega
def BJ{kind:Nat}{i:Option Nat}{slot:Nat}(h:∀j,i=some j->j<Z.length):aO (jg kind i slot)+lf Z.length (i.map (·+1))<=lf Z.length i/\(jg kind i slot).length<=1:=by
 cases i with
 |none=>exact⟨aR _,aF _⟩
 |some j=>have:=h j rfl;refine⟨?_,aR _⟩;show aO [_]+_<=_;simp only[dl,gG,cZ,lf];omega
def wt(N:Nat):gY->Nat
 | .line _ _ p _=>lf N p
 | .lineL _ _ _ _ l g out=>aO l+(lf N g+lf N out)
 | .lineO _ _ _ op l g=>aO l+(lf N op+lf N g)
 | .unary _ p _=>lf N p
 | .unaryH _ i _=>lf N i
 | .calls _ _ _ x names g=>aO names+(lf N x+lf N g)
 | .inside _ p _=>lf N p
 | .listed _ _ p=>lf N p
 | .listL _ _ l g fin=>aO l+(lf N g+lf N fin)
 | .item _ _ p=>lf N p
 | .behind _ _ p _ _=>lf N p
 | .vrb _ p=>lf N p
 | .function _ p=>lf N p
 | .block _ p _=>lf N p
 | .seqL _ _ p l out=>aO l+(lf N p+lf N out)
 | .stmt _ i=>lf N i
 | .sCalls _ _ x l g=>aO l+(lf N x+lf N g)
 | .branch _ i _=>lf N i
 | .elses _ x l out=>aO l+(lf N x+lf N out)
 | .ifs _ y l out=>aO l+(lf N y+lf N out)
def Lt(N:Nat)(x:Option Nat):Prop:=∀j,x=some j->j<N
def wn(N:Nat):gY->Prop
 | .lineO _ _ _ op _ _=>Lt N op
 | .calls _ _ _ x _ _=>Lt N x
 | .sCalls _ _ x _ _=>Lt N x
 | .branch _ i _=>Lt N i
 | .elses _ _ l _=>l.length<=1
 | .ifs _ y l _=>l.length<=1/\Lt N y
 |_=>True
def MI(N:Nat):gY->PR->Prop
 | .listed _ _ p,q=>∀j,p=some j->j<N->aO q.l+lf N q.p+1<=lf N p
 |_,_=>True
def Cz(N:Nat)(x:gY)(q:PR):Prop:=aO q.l+lf N q.p<=wt N x/\MI N x q
def th{s:al}(hs:s≠[]):Lt Z.length (bq c Z p (aY Z s)):=fun j h=>by have:=JR h;simp only[aY,dA]at this;exact eS (by rw[this];exact hs)
def EC{k:Nat}:Lt Z.length (bq c Z p (kw Z k)):=fun j h=>by have:=JR h;simp only[kw,cX,dA]at this;exact qP (by rw[this.1];decide)
def Lt.of{i:Nat}(h:i<Z.length):Lt Z.length (some i):=fun j e=>by cases e;exact h
def aB{α β:Type}{a:Option α}{f:α->Option β}{q:β}(e:(a >>= f)=some q):∃x,a=some x/\f x=some q:=Option.bind_eq_some_iff.1 e
def VI{rec:jJ}(R:∀x q,rec x=some q->wn Z.length x->Cz Z.length x q):∀x q,ay c Z rec x=some q->wn Z.length x->Cz Z.length x q:=by
 have n:∀{x q},rec x=some q->wn Z.length x->aO q.l+lf Z.length q.p<=wt Z.length x:=fun h k=>(R _ _ h k).1;intro x q e hi;cases x with
 |line k o p slot=>
  refine⟨?_,trivial⟩;simp only[ay,mN]at e;split at e
  .have:=n e trivial;exact this
  .obtain⟨a,m,e⟩:=aB e;obtain⟨b,t,e⟩:=aB e;cases e
   have h1:=n m trivial;have h2:=n t trivial;simp only[wt,oG]at *;omega
 |lineL k o slot first l g out=>
  refine⟨?_,trivial⟩;simp only[ay,oQ]at e;cases g with
  |none=>cases e;simp only[wt,oG];omega
  |some p=>
   simp only at e;split at e
   .cases e;simp only[wt];omega
   .obtain⟨a,m,e⟩:=aB e;obtain⟨b,t,e⟩:=aB e;cases e
    have h1:=n m EC;have h2:=n t trivial;have h3:=qb (c:=c) (Z:=Z) (some p) (kw Z k);simp only[wt,oG]at *;omega
 |lineO k o slot op l g=>
  refine⟨?_,trivial⟩;simp only[ay,rS]at e;cases op with
  |none=>cases e;simp only[wt,oG];omega
  |some i=>
   obtain⟨a,m,e⟩:=aB e;cases e
   have h1:=n m trivial;have h2:=hi i rfl;simp only[wt,lT,dl,gG,lm,Lg]at *;omega
 |unary o p slot=>refine⟨?_,trivial⟩;have h1:=n (x:=.unaryH o (p.map (nx c Z)) slot) e trivial;have h2:=p0 (c:=c) (Z:=Z) p;simp only[wt]at *;omega
 |unaryH o i slot=>
  refine⟨?_,trivial⟩;simp only[ay,jW]at e;cases i with
  |none=>cases e;exact aR _
  |some i=>
   simp only at e;split at e
   .rename_i s;have r:i<Z.length:=eS (by rcases s with h|h<;>rw[h]<;>decide);split at e
    .cases e;exact aF _
    .obtain⟨a,m,e⟩:=aB e;cases e
     have h1:=n m trivial;simp only[wt,lT,dl,gG]at *;omega
   .split at e
    .have:=n e trivial;exact this
    .split at e
     .rename_i s;have r:i<Z.length:=qP (by rw[s];decide);cases e
      simp only[wt,lT,dl,gG]at *;omega
     .split at e
      .rename_i s;have r:i<Z.length:=eS (by rcases s with h|h<;>rw[h]<;>decide);cases e
       simp only[wt,lT,dl,gG]at *;omega
      .split at e
       .rename_i s;have r:i<Z.length:=eS (by rw[s];decide);cases e
        simp only[wt,lT,dl,gG]at *;omega
       .obtain⟨b,t,e⟩:=aB e;cases e
        have h1:=n t (th af);have h2:=(yA (c:=c) (Z:=Z) (some i) 18 slot).1;have h3:=qb (c:=c) (Z:=Z) (bS Z c (some i) 18 slot).p (aY Z cg);simp only[wt]at *;omega
 |calls o i slot x names g=>
  refine⟨?_,trivial⟩;simp only[ay,oN]at e;split at e
  .rename_i i x;obtain⟨a,m,e⟩:=aB e;cases e
   have h1:=(R _ _ m trivial).2 x rfl (hi x rfl);simp only[wt,dl,gG]at *;omega
  .cases e;simp only[wt];omega
 |inside o p slot=>
  refine⟨?_,trivial⟩;simp only[ay,nH]at e;have h0:=p0 (c:=c) (Z:=Z) p;cases hp:p.map (nx c Z)with
  |none=>rw[hp]at e;cases e;exact aF _
  |some i=>
   rw[hp]at e h0;simp only at e;split at e
   .cases e;exact aF _
   .split at e
    .cases e;exact aF _
    .obtain⟨a,m,e⟩:=aB e;cases e
     have h1:=n m trivial;have h2:=oH (c:=c) (Z:=Z) a.p dm;simp only[wt,lT]at *;omega
 |listed par o p=>
  simp only[ay,nI]at e;have h0:=p0 (c:=c) (Z:=Z) p;cases hp:p.map (nx c Z)with
  |none=>rw[hp]at e;cases e;refine⟨aF _,fun j A _=>?_⟩;rw[A]at hp;cases hp
  |some i=>
   rw[hp]at e h0;have z:∀j,p=some j->j<Z.length->1<=lf Z.length p:=fun j h1 h2=>by rw[h1,lT];omega
   simp only at e;split at e
   .cases e;exact⟨aF _,fun j h1 h2=>by simpa[triv,aO,lf]using z j h1 h2⟩
   .rename_i s;split at e
    .cases e;exact⟨aF _,fun j h1 h2=>by simpa[triv,aO,lf]using z j h1 h2⟩
    .obtain⟨a,m,e⟩:=aB e;cases e
     have r:i<Z.length:=eS (by rw[Classical.not_not.1 s];decide);have h1:=n m trivial;have h2:=oH (c:=c) (Z:=Z) a.p dm;have h3:=qb (c:=c) (Z:=Z) (some (i+1)) (aY Z dm);have key:aO a.l+lf Z.length (de Z c a.p dm).1+1<=lf Z.length p:=by simp only[wt,lT,gG]at *;omega
     exact⟨by simp only[wt];omega,fun _ _ _=>key⟩
 |listL par o l g fin=>
  refine⟨?_,trivial⟩;simp only[ay,rT]at e;cases g with
  |none=>cases e;simp only[wt,oG];omega
  |some p=>
   obtain⟨a,m,e⟩:=aB e;obtain⟨b,t,e⟩:=aB e;cases e
   have h1:=n m trivial;have h2:=n t trivial;have h3:=qb (c:=c) (Z:=Z) a.p (aY Z eM);have h4:=IX Z.length (bq c Z a.p (aY Z eM));simp only[wt,lm]at *;omega
 |item par o p=>
  refine⟨?_,trivial⟩;simp only[ay,oP]at e;split at e
  .cases e
   have h1:=yA (c:=c) (Z:=Z) p 4 0;have h2:=oH (c:=c) (Z:=Z) (bS Z c p 4 0).p du;have h3:=Fg (c:=c) (Z:=Z) (de Z c (bS Z c p 4 0).p du).1 0;have h4:=kD (ks:=(fL Z c (de Z c (bS Z c p 4 0).p du).1 0).l) h1.2;have h5:=h1.1;simp only[wt]at *;omega
  .have:=n e trivial;exact this
 |behind typ o p sign slot=>
  refine⟨?_,trivial⟩;simp only[ay,oM]at e;obtain⟨a,m,e⟩:=aB e;cases e
  have h1:aO a.l+lf Z.length a.p<=lf Z.length ((bq c Z p (aY Z sign)).map (·+1)):=by
   unfold mL at m;split at m
   .cases m;exact Fg _ _
   .exact n m trivial
  have h3:=qb (c:=c) (Z:=Z) p (aY Z sign);have h4:=IX Z.length (bq c Z p (aY Z sign));have h5:=IY Z.length (bq c Z p fun i=>!aY Z sign i) a.p;simp only[wt]at *;omega
 |vrb o p=>
  refine⟨?_,trivial⟩;simp only[ay,qr]at e;obtain⟨d,u,e⟩:=aB e;cases e
  have h1:=yA (c:=c) (Z:=Z) p 2 0;have h2:=oH (c:=c) (Z:=Z) (bS Z c p 2 0).p du;have h3:=Fg (c:=c) (Z:=Z) (de Z c (bS Z c p 2 0).p du).1 0;have h4:=kD (ks:=(fL Z c (de Z c (bS Z c p 2 0).p du).1 0).l) h1.2;have h5:=h1.1;have h6:=n u trivial;have v:=kD (l:=give (bS Z c p 2 0).l (fL Z c (de Z c (bS Z c p 2 0).p du).1 0).l) (ks:=d.l) (by rw[eE];exact h1.2);have w:=oH (c:=c) (Z:=Z) d.p bO;simp only[wt]at *;omega
 |function o p=>
  refine⟨?_,trivial⟩;simp only[ay,qp]at e;obtain⟨b,t,e⟩:=aB e;obtain⟨d,u,e⟩:=aB e;obtain⟨f,B,e⟩:=aB e;cases e
  have h1:=yA (c:=c) (Z:=Z) p 3 0;have h2:=n t trivial;have h3:=n u trivial;have h4:=n B trivial;have h5:=kD (ks:=b.l) h1.2;have h6:=kD (l:=give (bS Z c p 3 0).l b.l) (ks:=d.l) (by rw[eE];exact h1.2);have v:=kD (l:=give (give (bS Z c p 3 0).l b.l) d.l) (ks:=f.l) (by rw[eE,eE];exact h1.2);have w:=h1.1;simp only[wt]at *;omega
 |block o p slot=>
  refine⟨?_,trivial⟩;simp only[ay,nF]at e;have h0:=p0 (c:=c) (Z:=Z) p;cases hp:p.map (nx c Z)with
  |none=>rw[hp]at e;cases e;exact aF _
  |some i=>
   rw[hp]at e h0;simp only at e;split at e
   .cases e;exact aF _
   .rename_i s;have r:i<Z.length:=eS (by rw[Classical.not_not.1 s];decide);split at e
    .cases e;exact aF _
    .obtain⟨a,m,e⟩:=aB e;cases e
     have h1:=n m trivial;have h2:=oH (c:=c) (Z:=Z) a.p iR;simp only[wt,lT,oG,dl,gG]at *;omega
 |seqL top o p l out=>
  refine⟨?_,trivial⟩;simp only[ay,oS]at e;have h0:=p0 (c:=c) (Z:=Z) p;cases hp:p.map (nx c Z)with
  |none=>rw[hp]at e;cases e;simp only[wt];omega
  |some i=>
   rw[hp]at e h0;simp only at e;split at e
   .cases e;simp only[wt];omega
   .obtain⟨a,m,e⟩:=aB e;obtain⟨b,t,e⟩:=aB e;cases e
    have h1:aO a.l+lf Z.length a.p<=lf Z.length (some i):=by
     unfold kY at m;split at m
     .unfold nJ at m;split at m
      .have:=n m trivial;simp only[wt,lT]at *;omega
      .split at m
       .have:=n m trivial;simp only[wt,lT]at *;omega
       .cases m;exact aF _
     .exact n m trivial
    have h2:=n t trivial;simp only[wt,oG,lm]at *;omega
 |stmt o i=>
  refine⟨?_,trivial⟩;simp only[ay,kz]at e;cases i with
  |none=>cases e;exact aR _
  |some i=>
   simp only at e;split at e
   .have:=n e trivial;simp only[wt,lT]at *;omega
   .split at e
    .rename_i s;have:=n e (show wn Z.length (.branch o (some i) 0) from Lt.of (eS (by rw[s];decide)));exact this
    .split at e
     .rename_i s;have r:i<Z.length:=eS (by rw[s];decide);obtain⟨a,m,e⟩:=aB e;obtain⟨b,t,e⟩:=aB e;cases e
      have h0:=BJ (kind:=9) (slot:=0) (Lt.of r);have h1:=n m trivial;have h2:=n t trivial;have h3:=kD (ks:=a.l) h0.2;have h4:=kD (l:=give (jg 9 (some i) 0) a.l) (ks:=b.l) (by rw[eE];exact h0.2);have h5:=h0.1;simp only[wt,cZ]at *;omega
     .split at e
      .have:=n e trivial;exact this
      .split at e
       .rename_i s;have r:i<Z.length:=eS (by rw[s];decide);obtain⟨a,m,e⟩:=aB e;cases e
        have h0:=BJ (kind:=10) (slot:=0) (Lt.of r);have h1:=n m trivial;have h3:=kD (ks:=a.l) h0.2;have h5:=h0.1;have h6:=qb (c:=c) (Z:=Z) (some (i+1)) (aY Z bO);have v:=IY Z.length a.p (bq c Z (some (i+1)) (aY Z bO));have w:=oH (c:=c) (Z:=Z) (a.p.or (bq c Z (some (i+1)) (aY Z bO))) bO;simp only[wt,cZ]at *;omega
       .split at e
        .rename_i s;have r:i<Z.length:=eS (by rcases s with h|h<;>rw[h]<;>decide);obtain⟨a,m,e⟩:=aB e;cases e
         have h0:=BJ (kind:=if X Z i=jF then 12 else 11) (slot:=0) (Lt.of r);have h1:=n m trivial;have h3:=kD (ks:=a.l) h0.2;have h5:=h0.1;have w:=oH (c:=c) (Z:=Z) a.p bO;simp only[wt,cZ]at *;omega
        .obtain⟨b,t,e⟩:=aB e;obtain⟨d,u,e⟩:=aB e;cases e
         have h0:=yA (c:=c) (Z:=Z) (some i) 7 0;have h1:=n t trivial;have h2:=n u (th af);have h3:=kD (ks:=b.l) h0.2;have h4:=qb (c:=c) (Z:=Z) (bS Z c (some i) 7 0).p (aY Z cg);have h5:=oH (c:=c) (Z:=Z) (bq c Z (bS Z c (some i) 7 0).p fun i=>!aY Z cg i) iw;have h6:=oH (c:=c) (Z:=Z) d.p bO;have v:=h0.1;simp only[wt]at *;omega
 |sCalls o i x l g=>
  refine⟨?_,trivial⟩;simp only[ay,oR]at e;split at e
  .rename_i i x;obtain⟨a,m,e⟩:=aB e;cases e
   have h1:=(R _ _ m trivial).2 x rfl (hi x rfl);simp only[wt,dl,gG]at *;omega
  .cases e;simp only[wt];omega
 |branch o i slot=>
  refine⟨?_,trivial⟩;simp only[ay,ql]at e;obtain⟨a,m,e⟩:=aB e;obtain⟨b,t,e⟩:=aB e;obtain⟨d,u,e⟩:=aB e;cases e
  have h0:=BJ (kind:=8) (slot:=slot) hi;have h1:=n m trivial;have h2:=n t trivial;have h3:=n u (show (give (give (jg 8 i slot) a.l) b.l).length<=1 by rw[eE,eE];exact h0.2);have h4:=kD (ks:=a.l) h0.2;have h5:=kD (l:=give (jg 8 i slot) a.l) (ks:=b.l) (by rw[eE];exact h0.2);have h6:=qb (c:=c) (Z:=Z) b.p (aY Z iQ);have v:=h0.1;simp only[wt]at *;omega
 |elses o x l out=>
  refine⟨?_,trivial⟩;simp only[ay,qo]at e;cases x with
  |none=>cases e;simp only[wt,oG];omega
  |some j=>
   obtain⟨a,m,e⟩:=aB e;obtain⟨b,t,e⟩:=aB e;cases e
   have h1:=n m trivial;have h2:=n t ⟨by rw[eE];exact hi,th af⟩;have h3:=kD (ks:=a.l) hi;have h4:=qb (c:=c) (Z:=Z) (some (j+1)) (aY Z eG);simp only[wt,lT]at *;omega
 |ifs o y l out=>
  refine⟨?_,trivial⟩;simp only[ay,qq]at e;cases y with
  |none=>cases e;simp only[wt,oG];omega
  |some j=>
   simp only at e;split at e
   .cases e;simp only[wt];omega
   .obtain⟨a,m,e⟩:=aB e;cases e
    have h1:=n m hi.2;have h3:=kD (ks:=a.l) hi.1;simp only[wt]at *;omega
def Kw:∀n x q,dC c Z n x=some q->wn Z.length x->Cz Z.length x q
 |0,x,q,e,_=>by cases e
 |n+1,x,q,e,h=>VI (fun x q e h=>Kw n x q e h) x q e h
end
def mC(f:aD->Nat):Nat->aD->Nat
 |0,c=>f c
 |n+1,c=>mC f n (jj c n false)+mC f n (jj c n true)
def C4{f g h:aD->Nat}(e:∀c,h c=f c+g c):∀(n:Nat) (c:aD),mC h n c=mC f n c+mC g n c
 |0,c=>e c
 |n+1,c=>by simp only[mC,C4 e n];omega
def C6{f:aD->Nat}{X:Nat}(h:∀c,f c<=X):∀(n:Nat) (c:aD),mC f n c<=2^n*X
 |0,c=>by simpa[mC]using h c
 |n+1,c=>by simp only[mC];have:=C6 h n (jj c n false);have:=C6 h n (jj c n true);rw[tN,Nat.mul_assoc,Nat.mul_comm (2^n),Nat.mul_assoc,Nat.mul_comm X];omega
def GX(S:aD->Bool):∀(n:Nat) (c:aD),mC (fun c=>(S c).toNat) n c=i7 S n c
 |0,c=>rfl
 |n+1,c=>by simp only[mC,i7,GX S n]
mutual
def T6:M->Prop
 |⟨_,_,_,_,ks,d⟩=>d≠ff/\u0 ks
def u0:List M->Prop
 | []=>True
 |n::l=>T6 n/\u0 l
end
def LG{c:aD}{d:T}{l:List M}(h:wL d l)(b:d.at' c=false):pL c l=[]:=ve fun n a=>by
 cases e:n.cond.at' c with
 |false=>rfl
 |true=>have:=(BU.1 h n a).1 c e;rw[b]at this;cases this
def E3:∀(l:List M) (d:T),cz l->wL d l->u0 l->aO l<=mC (fun c=>aO (pL c l)) 24 (fun _=>false)
 | [],_,_,_,_=>aF _
 |⟨k,t,o,s,ks,e⟩::l,d,b,a,f=>by
  have h1:=E3 ks e b.1.2 a.1.2 f.1.2;have h2:=E3 l d b.2 a.2 f.2;have h3:=T.card_pos b.1.1 f.1.1;have e1:∀c,aO (pL c (⟨k,t,o,s,ks,e⟩::l))=((e.at' c).toNat+aO (pL c ks))+aO (pL c l):=fun c=>by
   rw[eF];cases g:e.at' c with
   |true=>rw[ag rfl,dl];show aO (pL c ks)+1+_=1+aO (pL c ks)+_;omega
   |false=>rw[ab af,LG a.1.2 g];show _=0+0+_;omega
  rw[C4 e1,C4 (fun c=>rfl),GX,dl];unfold T.card at h3;show aO ks+1+aO l<=_;omega
def yt:∀(l:List M) (d:T),u0 (dZ d l)
 | [],d=>trivial
 |⟨k,t,o,s,ks,e⟩::l,d=>by
  rw[yr];split
  .exact yt l d
  .rename_i h;exact⟨⟨h,yt ks (e.and d)⟩,yt l d⟩
def Ep:Nat:=2^24*16386
def UB{Z:List Tok}(b:bw Z)(y:Z.length<=16384){w:T}(i:w.ok 0)(g:w≠ff){n:Nat}{r:aw}(e:run Z n (.seqL true 0 [(0,w)] [] [])=some r):aO (eo r)<=Ep:=by
 have hr:=qB b i g e (fun _=>false);obtain⟨_,_,a⟩:=hr;obtain⟨p,o⟩:=xS a.fok a.lok;by_cases j:gB r.f=ff
 .have v:=(zw (c:=fun _=>false) a.fok).1;have e1:dZ (gB r.f) r.l=[]:=by
   cases h:dZ (gB r.f) r.l with
   |nil=>rfl
   |cons n l=>exfalso;obtain⟨k,a2,a3,_⟩:=vI r.l (gB r.f) v a.lok;rw[h]at k a2 a3;have u:n.cond.ok 0:=(jd.1 k.1).1;obtain⟨x,s⟩:=T.some_of_ne u (a3 n (.head _));have:=a2.1.1 x s;rw[j]at this;cases this
  unfold eo;rw[e1];simp only[dl,gG];unfold Ep;omega
 have d:u0 (eo r):=⟨⟨j,yt _ _⟩,trivial⟩;refine fD (E3 (eo r) tt p ⟨⟨fun _ _=>rfl,o _ (.head _)⟩,trivial⟩ d) (C6 (fun c=>?_) 24 _);obtain⟨q,t,R⟩:=qB b i g e c;rw[EF R.fok R.lok R.f];obtain⟨m,hm⟩:=t;have h1:=(Kw m _ _ hm trivial).1;have h2:lf Z.length (if w.at' c then some 0 else none)<=Z.length+1:=by split<;>simp[lf]
 simp only[wt,oG,gG]at h1;rw[R.l];split
 .rw[dl,gG];show aO q.l+1+0<=_;omega
 .exact aF _
def WG(l:List M)(k:eP):aO (en l k)<=aO l:=by
 unfold en
 induction l with
 |nil=>exact aR _
 |cons n l a=>
  rw[dl,hZ];split
  .rw[pf,lm];omega
  .omega
open Dg
def iJ(l:List M)(k:eP):M:=⟨k.kind,k.text,k.tok,k.slot,en l k,iC l k⟩
def lK:List M->M->List M
 | [],n=>[n]
 |m::out,n=>if m.key=n.key then { m with kids:=m.kids++n.kids,cond:=m.cond.or n.cond }::out else m::lK out n
def mq(out:List M)(n:M):List M:=if n.cond=ff then out else lK out n
def zq:∀{out:List M} {n:M},(∀m∈out,m.key≠n.key)->lK out n=out++[n]
 | [],n,_=>rfl
 |m::out,n,h=>by rw[lK,ab (h m (.head _)),zq fun x a=>h x (.tail _ a)];rfl
def zp:∀{out:List M} {n m:M} {i:Nat},out.Pairwise (fun a b=>a.key≠b.key)->out[i]?=some m->m.key=n.key->lK out n=out.set i { m with kids:=m.kids++n.kids,cond:=m.cond.or n.cond }
 | [],n,m,i,_,h,_=>by simp at h
 |x::out,n,m,0,hp,h,c=>by simp only[yQ,a8]at h;subst h;rw[lK,ag c];rfl
 |x::out,n,m,i+1,hp,h,c=>by simp only[vW]at h;have h1:=(List.pairwise_cons.1 hp).1 m (cY h);rw[lK,ab (by rw[<-c];exact h1),zp (List.pairwise_cons.1 hp).2 h c];rfl
def Ef(p:List M)(n:M)(k:eP):en (p++[n]) k=en p k++if dG k n then n.kids else []:=by unfold en;rw[List.filter_append,yM];congr 1;cases h:dG k n<;>simp[hZ,h]
def Db(p:List M)(n:M)(k:eP):iC (p++[n]) k=if dG k n then (iC p k).or n.cond else iC p k:=by unfold iC;rw[List.filter_append,pg];cases h:dG k n<;>simp[hZ,h]
variable{p:List M}
def Oe{k:eP}(h:∀n∈p,n.cond≠ff->n.key≠k):iC p k=ff/\en p k=[]:=by
 have:p.filter (dG k)=[]:=List.filter_eq_nil_iff.2 fun n a hm=>by simp only[dG,cX,dA]at hm;exact h n a hm.2 hm.1
 unfold iC en;rw[this];exact⟨rfl,rfl⟩
def OV{a:T}(h:a.ok 0):T.or ff a=a:=T.ext (T.or_ok (show (ff:T).ok 0 from trivial) h) h fun c=>by rw[T.or_at (show (ff:T).ok 0 from trivial) h,CA,me]
structure lH(p out:List M):Prop where
 dist:out.Pairwise (fun a b=>a.key≠b.key)
 node:∀m∈out,m=iJ p m.key
 has:∀n∈p,n.cond≠ff->∃m∈out,m.key=n.key
 from':∀m∈out,∃n∈p,n.cond≠ff/\n.key=m.key
def lH.nil:lH [] []:=⟨List.Pairwise.nil,fun _ h=>(dH h).elim,fun _ h=>(dH h).elim,fun _ h=>(dH h).elim⟩
def Ex{n:M}{k:eP}(h:n.cond=ff\/n.key≠k):iJ (p++[n]) k=iJ p k:=by
 have:dG k n=false:=by rcases h with h|h<;>simp[dG,h]
 unfold iJ;rw[Ef,Db,this];simp
theorem lH.step{out:List M}{n:M}(h:lH p out)(P:n.cond.ok 0):lH (p++[n]) (mq out n):=by
 unfold mq;split
 .rename_i G;refine⟨h.dist,fun m hm=>by rw[Ex (.inl G)];exact h.node m hm,fun x q o=>?_,fun m hm=>?_⟩
  .rcases List.mem_append.1 q with e|e
   .exact h.has x e o
   .rw[List.mem_singleton.1 e]at o;exact absurd G o
  .obtain⟨x,q,k⟩:=h.from' m hm;exact⟨x,ge _ q,k⟩
 .rename_i o;by_cases H:∃m∈out,m.key=n.key
  .obtain⟨m,hm,C⟩:=H;obtain⟨i,hi⟩:=List.mem_iff_getElem?.1 hm;rw[zp h.dist hi C];have u:=(List.getElem?_eq_some_iff.1 hi).1;have f:dG n.key n=true:=by simp[dG,o]
   have S:({ m with kids:=m.kids++n.kids,cond:=m.cond.or n.cond }:M)=iJ (p++[n]) n.key:=by
    have e1:=h.node m hm;rw[C]at e1;have e2:m.kids=en p n.key:=by rw[e1];rfl
    have U:m.cond=iC p n.key:=by rw[e1];rfl
    have T:iJ (p++[n]) n.key=⟨n.key.kind,n.key.text,n.key.tok,n.key.slot,en p n.key++n.kids,(iC p n.key).or n.cond⟩:=by unfold iJ;rw[Ef,Db,ag f,ag f]
    rw[T,<-e2,<-U,<-C];rfl
   have s:∀{x:M} {j:Nat},(out.set i { m with kids:=m.kids++n.kids,cond:=m.cond.or n.cond })[j]?=some x->j=i/\x={ m with kids:=m.kids++n.kids,cond:=m.cond.or n.cond }\/j≠i/\out[j]?=some x:=fun{x j} e=>by
    rw[vX]at e;split at e
    .rename_i w
     first
      |exact .inl ⟨w.symm,(cW e).symm⟩
      |(rw[ag u]at e;exact .inl ⟨w.symm,(cW e).symm⟩)
    .rename_i w;exact .inr ⟨fun e2=>w e2.symm,e⟩
   have r:∀{x y:M} {j l:Nat},out[j]?=some x->out[l]?=some y->j≠l->x.key≠y.key:=fun{x y j l} h1 h2 h3=>by
    obtain⟨N,rfl⟩:=List.getElem?_eq_some_iff.1 h1;obtain⟨a2,rfl⟩:=List.getElem?_eq_some_iff.1 h2;rcases Nat.lt_or_gt_of_ne h3 with u|L
    .exact List.pairwise_iff_getElem.1 h.dist j l N a2 u
    .exact fun e=>List.pairwise_iff_getElem.1 h.dist l j a2 N L e.symm
   refine⟨?_,fun x q=>?_,fun x q g=>?_,fun x q=>?_⟩
   .refine List.pairwise_iff_getElem.2 fun j l v Q R=>?_;have g1:=s (aZ v);have g2:=s (aZ Q);rcases g1 with ⟨a,b⟩|⟨a,b⟩<;>rcases g2 with ⟨c,d⟩|⟨c,d⟩
    .omega
    .rw[b];exact(r (x:=m) hi d O:m.key≠_)
    .rw[d];exact(r (y:=m) b hi O:_≠m.key)
    .exact r b d O
   .obtain⟨j,v⟩:=List.mem_iff_getElem?.1 q;rcases s v with ⟨a,b⟩|⟨a,b⟩
    .have:x.key=n.key:=by rw[b];exact C
     rw[this,b,S]
    .rw[Ex (.inr fun e=>r hi b O (by rw[C,e]))];exact h.node x (cY b)
   .have put:∀y∈out,∃z∈out.set i { m with kids:=m.kids++n.kids,cond:=m.cond.or n.cond },z.key=y.key:=fun y F=>by
     obtain⟨j,v⟩:=List.mem_iff_getElem?.1 F;by_cases e:j=i
     .subst e;rw[hi]at v;cases v
      exact⟨{ m with kids:=m.kids++n.kids,cond:=m.cond.or n.cond },List.mem_iff_getElem?.2 ⟨j,List.getElem?_set_self u⟩,rfl⟩
     .exact⟨y,List.mem_iff_getElem?.2 ⟨j,by rw[List.getElem?_set_ne (fun e2=>e e2.symm)];exact v⟩,rfl⟩
    rcases List.mem_append.1 q with e|e
    .obtain⟨y,F,J⟩:=h.has x e g;obtain⟨z,I,A⟩:=put y F;exact⟨z,I,A.trans J⟩
    .rw[List.mem_singleton.1 e];obtain⟨z,I,A⟩:=put m hm;exact⟨z,I,A.trans C⟩
   .obtain⟨j,v⟩:=List.mem_iff_getElem?.1 q;rcases s v with ⟨a,b⟩|⟨a,b⟩
    .exact⟨n,gz _ (.head _),o,by rw[b];exact C.symm⟩
    .obtain⟨y,F,k⟩:=h.from' x (cY b);exact⟨y,ge _ F,k⟩
  .have t:∀m∈out,m.key≠n.key:=fun m hm e=>H ⟨m,hm,e⟩;rw[zq t];have f:dG n.key n=true:=by simp[dG,o]
   have B:∀x∈p,x.cond≠ff->x.key≠n.key:=fun x q g e=>by obtain⟨m,hm,K⟩:=h.has x q g;exact t m hm (K.trans e)
   obtain⟨c1,c2⟩:=Oe B;refine⟨List.pairwise_append.2 ⟨h.dist,su _ _,fun a ha b hb=>by rw[List.mem_singleton.1 hb];exact t a ha⟩,fun m hm=>?_,fun x q g=>?_,fun m hm=>?_⟩
   .rcases List.mem_append.1 hm with e|e
    .rw[Ex (.inr fun e2=>t m e e2.symm)];exact h.node m e
    .rw[List.mem_singleton.1 e];unfold iJ;rw[Ef,Db,ag f,ag f,c1,c2,OV P,aM];cases n;rfl
   .rcases List.mem_append.1 q with e|e
    .obtain⟨m,hm,k⟩:=h.has x e g;exact⟨m,ge _ hm,k⟩
    .exact⟨n,gz _ (.head _),by rw[List.mem_singleton.1 e]⟩
   .rcases List.mem_append.1 hm with e|e
    .obtain⟨x,q,k⟩:=h.from' m e;exact⟨x,ge _ q,k⟩
    .exact⟨n,gz _ (.head _),o,by rw[List.mem_singleton.1 e]⟩
def lH.of{l:List M}(h:∀n∈l,n.cond.ok 0):∀i,i<=l.length->lH (l.take i) ((l.take i).foldl mq [])
 |0,_=>lH.nil
 |i+1,hi=>by
  have a:i<l.length:=by omega
  rw[pj a,pg];exact(lH.of h i O).step (h _ (List.getElem_mem a))
def lH.sorted{l out L:List M}(h:lH l out)(hp:L.Perm out)(hs:L.Pairwise (fun a b=>jU b.key a.key=false)):L=(ks l).map (iJ l):=by
 have hd:L.Pairwise (fun a b=>a.key≠b.key):=(hp.pairwise_iff (fun{a b} h e=>h e.symm)).2 h.dist;have e1:L.map M.key=ks l:=by
  refine yj mH ?_ (oW mH _) fun k=>?_
  .rw[List.pairwise_map];refine(hs.and hd).imp fun{a b} h=>?_;cases i:jU a.key b.key with
   |true=>rfl
   |false=>exact absurd (mH.tri _ _ i h.1) h.2
  .rw[te];constructor
   .intro g;obtain⟨m,hm,rfl⟩:=List.mem_map.1 g;obtain⟨n,d,c,f⟩:=h.from' m (hp.mem_iff.1 hm);exact⟨n,d,f,c⟩
   .rintro⟨n,d,rfl,c⟩;obtain⟨m,hm,g⟩:=h.has n d c;exact List.mem_map.2 ⟨m,hp.mem_iff.2 hm,g⟩
 rw[<-e1,pi];have:L.map id=L.map (iJ l∘M.key):=m0 fun m hm=>h.node m (hp.mem_iff.1 hm)
 rwa [List.map_id]at this
def Jt(d:Nat)(l:List M):cO (d+1) l=((ks l).map (iJ l)).map fun m=>{ m with kids:=cO d m.kids }:=by rw[cO,pi];rfl
def Lb:∀(K:List eP) (l:List M),K.Pairwise (fun a b=>a≠b)->(∀k∈K,∃n∈l,n.key=k/\n.cond≠ff)->aO (K.map (iJ l))<=aO l
 | [],l,_,_=>aF _
 |k::K,l,h,f=>by
  have h2:=List.pairwise_cons.1 h;obtain⟨n0,m,o,p⟩:=f k (.head _);have e1:∀(l:List M),aO l=aO (l.filter fun n=>decide (n.key=k))+aO (l.filter fun n=>!decide (n.key=k)):=fun l=>by
   induction l with
   |nil=>rfl
   |cons n l i=>cases d:decide (n.key=k)<;>simp[hZ,d,dl]<;>omega
  have e2:∀(l:List M),aO (en l k)+((l.filter (dG k)).length)<=aO (l.filter fun n=>decide (n.key=k)):=fun l=>by
   induction l with
   |nil=>exact aR _
   |cons n l i=>
    unfold en at i |-;by_cases d:n.key=k
    .by_cases j:n.cond=ff
     .have g:dG k n=false:=by simp[dG,j]
      simp only[hZ,g,d,decide_true,co,dK,dD,dl];omega
     .have g:dG k n=true:=by simp[dG,d,j]
      simp only[hZ,g,d,decide_true,co,pf,lm,bm,dl];omega
    .have g:dG k n=false:=by simp[dG,d]
     simp only[hZ,g,d,decide_false,dK,dD];exact i
  have v:1<=(l.filter (dG k)).length:=by have:n0∈l.filter (dG k):=List.mem_filter.2 ⟨m,by simp[dG,o,p]⟩;exact List.length_pos_of_mem this
  have r:∀k'∈K,en (l.filter fun n=>!decide (n.key=k)) k'=en l k':=fun k' c=>by
   unfold en;rw[List.filter_filter];congr 1;refine List.filter_congr fun n _=>?_;have:=h2.1 k' c;by_cases e:n.key=k'
   .have h3:n.key≠k:=fun e2=>this (e2.symm.trans e);simp[dG,e,show k'≠k from fun e2=>this e2.symm]
   .simp[dG,e]
  have h5:=Lb K (l.filter fun n=>!decide (n.key=k)) h2.2 fun k' c=>by obtain⟨n,d,q,j⟩:=f k' (.tail _ c);refine⟨n,List.mem_filter.2 ⟨d,?_⟩,q,j⟩;have:=h2.1 k' c;rw[q];simp only[sm,Ce];exact fun e=>this e.symm
  have s:aO (K.map (iJ l))=aO (K.map (iJ (l.filter fun n=>!decide (n.key=k)))):=by
   clear h5 h h2 f
   induction K with
   |nil=>rfl
   |cons x K i=>rw[ib,ib,dl,dl,i fun k' c=>r k' (.tail _ c)];show aO (en l x)+1+_=aO (en _ x)+1+_;rw[r x (.head _)]
  have u:=e1 l;have t:=e2 l;rw[ib,dl,s];show aO (en l k)+1+_<=_;omega
def Lc{f:List M->List M}:∀{L:List M},(∀n∈L,aO (f n.kids)<=aO n.kids)->aO (L.map fun m=>{ m with kids:=f m.kids })<=aO L
 | [],_=>aR _
 |n::L,h=>by rw[ib,dl,dl];have h1:=h n (.head _);have h2:=Lc (f:=f) (L:=L) fun m hm=>h m (.tail _ hm);show aO (f n.kids)+1+_<=_;omega
def Ei(l:List M):(ks l).Pairwise (fun a b=>a≠b):=(oW mH _).imp fun{a b} h e=>by rw[e,mH.irr]at h;cases h
def Lf(l:List M):aO ((ks l).map (iJ l))<=aO l:=Lb _ l (Ei l) fun k a=>by obtain⟨n,h1,h2,h3⟩:=te.1 a;exact⟨n,h1,h2,h3⟩
def Ld:∀(d:Nat) (l:List M),aO (cO d l)<=aO l
 |0,l=>aF _
 |d+1,l=>by rw[Jt];exact fD (Lc fun n _=>Ld d n.kids) (Lf l)
def BI(c:aD):∀(l:List M),aO (pL c l)<=aO l
 | []=>aR _
 |⟨k,t,o,s,ks,e⟩::l=>by
  have h1:=BI c ks;have h2:=BI c l;rw[eF];split
  .rw[dl,dl];show aO (pL c ks)+1+_<=aO ks+1+_;omega
  .rw[dl];omega
mutual
def Ll:M->List Int
 |⟨_,_,o,_,ks,_⟩=>o::dr ks
def dr:List M->List Int
 | []=>[]
 |n::l=>Ll n++dr l
end
def ct(i:Int)(l:List M):Nat:=(dr l).count i
def rz(i k:Int):Nat:=if k=i then 1 else 0
def rm(i:Int):Option Nat->Nat
 |none=>0
 |some j=>if (j:Int)<=i then 1 else 0
def kE(n:M)(l:List M):dr (n::l)=n.tok::(dr n.kids++dr l):=by cases n;rfl
def Lk:∀a b:List M,dr (a++b)=dr a++dr b
 | [],_=>rfl
 |n::a,b=>by rw[aN,kE,kE,Lk a b];simp
section
variable (i:Int)
theorem kR:ct i []=0:=rfl
def ke(n:M)(l:List M):ct i (n::l)=rz i n.tok+ct i n.kids+ct i l:=by unfold ct rz;rw[kE,List.count_cons,List.count_append];simp only[beq_iff_eq];omega
def zP(a b:List M):ct i (a++b)=ct i a+ct i b:=by unfold ct;rw[Lk,List.count_append]
def G3:∀l:List M,ct i (slot0 l)=ct i l
 | []=>rfl
 |n::l=>by have:=G3 l;show ct i ({ n with slot:=0 }::slot0 l)=_;rw[ke,ke,this]
def kf{l k:List M}(h:l.length<=1):ct i (give l k)<=ct i l+ct i k:=by
 match l,h with
 | [],_=>exact aF _
 | [n],_=>show ct i [{ n with kids:=n.kids++k }]<=_;rw[ke,ke,zP,kR];simp only;omega
def l7(k:Nat):rz i k+rm i (some (k+1))=rm i (some k):=by unfold rz rm;simp only;split<;>split<;>split<;>omega
def Bm{j k:Nat}(h:j<=k):rm i (some k)<=rm i (some j):=by unfold rm;simp only;split<;>split<;>omega
variable {c:aD} {Z:List Tok}
def rX(p:Option Nat):rm i (p.map (nx c Z))<=rm i p:=by
 cases p with
 |none=>exact aR _
 |some p=>exact Bm i (qg c Z p)
def J9(p:Option Nat):rm i (p.map (·+1))<=rm i p:=by
 cases p with
 |none=>exact aR _
 |some p=>exact Bm i (Nat.le_succ p)
def J8(p q:Option Nat):rm i (p.or q)<=rm i p+rm i q:=by
 cases p with
 |none=>simp[rm]
 |some p=>simp
def qx(p:Option Nat)(is:Nat->Bool):rm i (bq c Z p is)+rm i (bq c Z p fun j=>!is j)<=rm i p:=by
 cases p with
 |none=>exact aR _
 |some p=>have:=Bm i (qg c Z p);unfold bq;cases h:is (nx c Z p)<;>simp only[cZ,Option.filter,h,cP,ds,co,dD,dK]<;>simp only[rm]at *<;>omega
def wS(p:Option Nat)(kd s:Nat):ct i (bS Z c p kd s).l+rm i (bS Z c p kd s).p<=rm i p/\(bS Z c p kd s).l.length<=1:=by
 have h:=rX i (c:=c) (Z:=Z) p;unfold bS;cases hp:p.map (nx c Z)with
 |none=>exact⟨aF _,aF _⟩
 |some j=>
  rw[hp]at h;simp only;split
  .exact⟨aF _,aF _⟩
  .refine⟨?_,aR _⟩;have:=l7 i j;simp only[ke,kR];omega
def Dc(p:Option Nat)(s:Nat):ct i (fL Z c p s).l+rm i (fL Z c p s).p<=rm i p:=by
 have h:=rX i (c:=c) (Z:=Z) p;unfold fL;cases hp:p.map (nx c Z)with
 |none=>exact aF _
 |some j=>
  rw[hp]at h;simp only;split
  .exact aF _
  .have:=l7 i j;simp only[ke,kR];omega
def oq(p:Option Nat)(s:al):rm i (de Z c p s).1<=rm i p:=by
 have h:=rX i (c:=c) (Z:=Z) p;unfold de;cases hp:p.map (nx c Z)with
 |none=>exact aF _
 |some j=>
  rw[hp]at h;simp only;split
  .have:=l7 i j;simp only;omega
  .exact aF _
def zQ(kd:Nat)(j:Option Nat)(s:Nat):ct i (jg kd j s)+rm i (j.map (·+1))<=rm i j/\(jg kd j s).length<=1:=by
 cases j with
 |none=>exact⟨aR _,aF _⟩
 |some j=>refine⟨?_,aR _⟩;have:=l7 i j;show ct i [⟨kd,[],(j:Int),s,[],tt⟩]+rm i (some (j+1))<=_;simp only[ke,kR];omega
def Wt:gY->Nat
 | .line _ _ p _=>rm i p
 | .lineL _ _ _ _ l g out=>ct i l+rm i g+rm i out
 | .lineO _ _ _ op l g=>ct i l+rm i op+rm i g
 | .unary _ p _=>rm i p
 | .unaryH _ j _=>rm i j
 | .calls _ j _ x names g=>match j,x with
  |some j,some k=>rz i j+rm i (some k)
  |_,_=>ct i names+rm i g
 | .inside _ p _=>rm i p
 | .listed _ _ p=>rm i p
 | .listL _ _ l g fin=>ct i l+rm i g+rm i fin
 | .item _ _ p=>rm i p
 | .behind _ _ p _ _=>rm i p
 | .vrb _ p=>rm i p
 | .function _ p=>rm i p
 | .block _ p _=>rm i p
 | .seqL _ _ p l out=>ct i l+rm i p+rm i out
 | .stmt _ j=>rm i j
 | .sCalls _ j x l g=>match j,x with
  |some j,some k=>rz i j+rm i (some k)
  |_,_=>ct i l+rm i g
 | .branch _ j _=>rm i j
 | .elses _ x l out=>ct i l+rm i x+rm i out
 | .ifs _ y l out=>ct i l+rm i y+rm i out
def Cp:gY->Prop
 | .elses _ _ l _=>l.length<=1
 | .ifs _ _ l _=>l.length<=1
 |_=>True
def GO(j:Nat){names:List M}{p g:Option Nat}(is:Nat->Bool)(hp:∀k,p=some k->j+1<=k)(h:ct i names+rm i g<=rm i (some j)):(match (some j:Option Nat),bq c Z p is with
  |some j,some k=>rz i j+rm i (some k)
  |_,_=>ct i names+rm i g)<=rm i (some j):=by
 cases a:bq c Z p is with
 |none=>exact h
 |some k=>
  have b:j+1<=k:=by
   cases p with
   |none=>cases a
   |some p=>have h1:=hp p rfl;have h2:=qg c Z p;unfold bq at a;simp only[cZ]at a;have:=Option.eq_some_of_filter_eq_some a;cases this;omega
  have h1:=Bm i b;have h2:=l7 i j;show rz i j+rm i (some k)<=_;omega
def JD{j:Nat}{kd s:Nat}:∀k,(bS Z c (some j) kd s).p=some k->j+1<=k:=by
 intro k a;have:=qg c Z j;unfold bS at a;simp only[cZ]at a;split at a
 .cases a
 .cases a;omega
def Nn{r:jJ}(R:∀x q,r x=some q->Cp x->ct i q.l+rm i q.p<=Wt i x):∀x q,ay c Z r x=some q->Cp x->ct i q.l+rm i q.p<=Wt i x:=by
 intro x q e w;cases x with
 |line k o p slot=>
  simp only[ay,mN]at e;split at e
  .exact(R _ _ e trivial :)
  .obtain⟨a,ha,e⟩:=aB e;obtain⟨b,hb,e⟩:=aB e;cases e
   have h1:=R _ _ ha trivial;have h2:=R _ _ hb trivial;simp only[Wt,rm]at h1 h2 |-;omega
 |lineL k o slot first l g out=>
  simp only[ay,oQ]at e;cases g with
  |none=>cases e;simp only[Wt,rm];omega
  |some p=>
   simp only at e;split at e
   .cases e;simp only[Wt];omega
   .obtain⟨a,ha,e⟩:=aB e;obtain⟨b,hb,e⟩:=aB e;cases e
    have h1:=R _ _ ha trivial;have h2:=R _ _ hb trivial;have h3:=qx i (c:=c) (Z:=Z) (some p) (kw Z k);simp only[Wt]at h1 h2 |-;simp only[show rm i none=0 from rfl]at h1;omega
 |lineO k o slot op l g=>
  simp only[ay,rS]at e;cases op with
  |none=>cases e;simp only[Wt,rm];omega
  |some j=>
   obtain⟨a,ha,e⟩:=aB e;cases e
   have h1:=R _ _ ha trivial;have h2:=l7 i j;simp only[Wt]at h1 |-;rw[ke,zP,G3,kR];simp only;omega
 |unary o p slot=>have h1:=R _ _ e trivial;have h2:=rX i (c:=c) (Z:=Z) p;simp only[Wt]at h1 |-;omega
 |unaryH o j slot=>
  simp only[ay,jW]at e;cases j with
  |none=>cases e;exact aF _
  |some j=>
   have h0:=l7 i j;simp only at e;split at e
   .split at e
    .cases e;exact aF _
    .obtain⟨a,ha,e⟩:=aB e;cases e
     have h1:=R _ _ ha trivial;simp only[Wt]at h1 |-;rw[ke,kR];simp only;omega
   .split at e
    .exact(R _ _ e trivial :)
    .split at e
     .cases e;simp only[Wt,ke,kR];omega
     .split at e
      .cases e;simp only[Wt,ke,kR];omega
      .split at e
       .cases e;simp only[Wt,ke,kR];omega
       .obtain⟨b,hb,e⟩:=aB e;cases e
        have h1:=R _ _ hb trivial;have h2:=(wS i (c:=c) (Z:=Z) (some j) 18 slot).1;have h3:=qx i (c:=c) (Z:=Z) (bS Z c (some j) 18 slot).p (aY Z cg);exact fD h1 (GO i j (aY Z cg) JD O)
 |calls o j slot x names g=>
  simp only[ay,oN]at e;cases j with
  |none=>cases e;exact aR _
  |some j=>
   cases x with
   |none=>cases e;exact aR _
   |some k=>
    obtain⟨a,ha,e⟩:=aB e;cases e
    have h1:=R _ _ ha trivial;simp only[Wt]at h1 |-;rw[ke,kR];simp only;omega
 |inside o p slot=>
  have h0:=rX i (c:=c) (Z:=Z) p;simp only[ay,nH]at e;cases hp:p.map (nx c Z)with
  |none=>rw[hp]at e;cases e;exact aF _
  |some j=>
   rw[hp]at e h0;simp only at e;split at e
   .cases e;exact aF _
   .split at e
    .cases e;exact aF _
    .obtain⟨a,ha,e⟩:=aB e;cases e
     have h1:=R _ _ ha trivial;have h2:=oq i (c:=c) (Z:=Z) a.p dm;have h3:=l7 i j;simp only[Wt]at h1 |-;omega
 |listed par o p=>
  have h0:=rX i (c:=c) (Z:=Z) p;simp only[ay,nI]at e;cases hp:p.map (nx c Z)with
  |none=>rw[hp]at e;cases e;exact aF _
  |some j=>
   rw[hp]at e h0;simp only at e;split at e
   .cases e;exact aF _
   .split at e
    .cases e;exact aF _
    .obtain⟨a,ha,e⟩:=aB e;cases e
     have h1:=R _ _ ha trivial;have h2:=oq i (c:=c) (Z:=Z) a.p dm;have h3:=l7 i j;have h4:=qx i (c:=c) (Z:=Z) (some (j+1)) (aY Z dm);simp only[Wt,kR]at h1 |-;omega
 |listL par o l g fin=>
  simp only[ay,rT]at e;cases g with
  |none=>cases e;simp only[Wt,rm];omega
  |some p=>
   obtain⟨a,ha,e⟩:=aB e;obtain⟨b,hb,e⟩:=aB e;cases e
   have h1:=R _ _ ha trivial;have h2:=R _ _ hb trivial;have h3:=qx i (c:=c) (Z:=Z) a.p (aY Z eM);have h4:=J9 i (bq c Z a.p (aY Z eM));simp only[Wt,zP]at h1 h2 |-;omega
 |item par o p=>
  simp only[ay,oP]at e;cases par with
  |true=>
   simp only[co]at e;cases e
   have h1:=wS i (c:=c) (Z:=Z) p 4 0;have h2:=oq i (c:=c) (Z:=Z) (bS Z c p 4 0).p du;have h3:=Dc i (c:=c) (Z:=Z) (de Z c (bS Z c p 4 0).p du).1 0;have h4:=kf i (k:=(fL Z c (de Z c (bS Z c p 4 0).p du).1 0).l) h1.2;simp only[Wt];omega
  |false=>simp only[dK,dD]at e;exact(R _ _ e trivial :)
 |behind typ o p sign slot=>
  simp only[ay,oM]at e;obtain⟨a,ha,e⟩:=aB e;cases e
  have h3:=qx i (c:=c) (Z:=Z) p (aY Z sign);have h4:=J9 i (bq c Z p (aY Z sign));have h5:=J8 i (bq c Z p fun i=>!aY Z sign i) a.p;have h1:ct i a.l+rm i a.p<=rm i ((bq c Z p (aY Z sign)).map (·+1)):=by
   unfold mL at ha;cases typ with
   |true=>simp only[co]at ha;cases ha;exact Dc i _ _
   |false=>simp only[dK,dD]at ha;exact(R _ _ ha trivial :)
  simp only[Wt];omega
 |vrb o p=>
  simp only[ay,qr]at e;obtain⟨d,hd,e⟩:=aB e;cases e
  have h1:=wS i (c:=c) (Z:=Z) p 2 0;have h2:=oq i (c:=c) (Z:=Z) (bS Z c p 2 0).p du;have h3:=Dc i (c:=c) (Z:=Z) (de Z c (bS Z c p 2 0).p du).1 0;have h4:=kf i (k:=(fL Z c (de Z c (bS Z c p 2 0).p du).1 0).l) h1.2;have h5:=R _ _ hd trivial;have h6:=kf i (l:=give (bS Z c p 2 0).l (fL Z c (de Z c (bS Z c p 2 0).p du).1 0).l) (k:=d.l) (by rw[eE];exact h1.2);have h:=oq i (c:=c) (Z:=Z) d.p bO;simp only[Wt]at h5 |-;omega
 |function o p=>
  simp only[ay,qp]at e;obtain⟨b,hb,e⟩:=aB e;obtain⟨d,hd,e⟩:=aB e;obtain⟨f,hf,e⟩:=aB e;cases e
  have h1:=wS i (c:=c) (Z:=Z) p 3 0;have h2:=R _ _ hb trivial;have h3:=R _ _ hd trivial;have h4:=R _ _ hf trivial;have g1:=kf i (k:=b.l) h1.2;have g2:=kf i (l:=give (bS Z c p 3 0).l b.l) (k:=d.l) (by rw[eE];exact h1.2);have m:=kf i (l:=give (give (bS Z c p 3 0).l b.l) d.l) (k:=f.l) (by rw[eE,eE];exact h1.2);simp only[Wt]at h2 h3 h4 |-;omega
 |block o p slot=>
  have h0:=rX i (c:=c) (Z:=Z) p;simp only[ay,nF]at e;cases hp:p.map (nx c Z)with
  |none=>rw[hp]at e;cases e;exact aF _
  |some j=>
   rw[hp]at e h0;simp only at e;split at e
   .cases e;exact aF _
   .split at e
    .cases e;exact aF _
    .obtain⟨a,ha,e⟩:=aB e;cases e
     have h1:=R _ _ ha trivial;have h2:=oq i (c:=c) (Z:=Z) a.p iR;have h3:=l7 i j;simp only[Wt,kR,show rm i none=0 from rfl]at h1 |-;rw[ke,kR];simp only;omega
 |seqL top o p l out=>
  have h0:=rX i (c:=c) (Z:=Z) p;simp only[ay,oS]at e;cases hp:p.map (nx c Z)with
  |none=>rw[hp]at e;cases e;simp only[Wt];omega
  |some j=>
   rw[hp]at e h0;simp only at e;split at e
   .cases e;simp only[Wt];omega
   .obtain⟨a,ha,e⟩:=aB e;obtain⟨b,hb,e⟩:=aB e;cases e
    have h3:=l7 i j;have h1:ct i a.l+rm i a.p<=rm i (some j):=by
     unfold kY at ha;cases top with
     |false=>simp only[dK,dD]at ha;exact(R _ _ ha trivial :)
     |true=>
      simp only[co]at ha;unfold nJ at ha;split at ha
      .have:=R _ _ ha trivial;simp only[Wt]at this;omega
      .split at ha
       .have:=R _ _ ha trivial;simp only[Wt]at this;omega
       .cases ha;exact aF _
    have h2:=R _ _ hb trivial;simp only[Wt,zP,show rm i none=0 from rfl]at h2 |-;omega
 |stmt o j=>
  simp only[ay,kz]at e;cases j with
  |none=>cases e;exact aF _
  |some j=>
   have h0:=l7 i j;simp only at e;split at e
   .have:=R _ _ e trivial;simp only[Wt]at this |-;omega
   .split at e
    .exact(R _ _ e trivial :)
    .split at e
     .obtain⟨a,ha,e⟩:=aB e;obtain⟨b,hb,e⟩:=aB e;cases e
      have h1:=R _ _ ha trivial;have h2:=R _ _ hb trivial;have h3:=zQ i 9 (some j) 0;have g1:=kf i (k:=a.l) h3.2;have g2:=kf i (l:=give (jg 9 (some j) 0) a.l) (k:=b.l) (by rw[eE];exact h3.2);simp only[Wt,cZ]at h1 h2 h3 |-;omega
     .split at e
      .exact(R _ _ e trivial :)
      .split at e
       .obtain⟨a,ha,e⟩:=aB e;cases e
        have h1:=R _ _ ha trivial;have h3:=zQ i 10 (some j) 0;have g1:=kf i (k:=a.l) h3.2;have h4:=qx i (c:=c) (Z:=Z) (some (j+1)) (aY Z bO);have h5:=J8 i a.p (bq c Z (some (j+1)) (aY Z bO));have h6:=oq i (c:=c) (Z:=Z) (a.p.or (bq c Z (some (j+1)) (aY Z bO))) bO;simp only[Wt,cZ]at h1 h3 |-;omega
       .split at e
        .obtain⟨a,ha,e⟩:=aB e;cases e
         have h1:=R _ _ ha trivial;have h3:=zQ i (if X Z j=jF then 12 else 11) (some j) 0;have g1:=kf i (k:=a.l) h3.2;have h6:=oq i (c:=c) (Z:=Z) a.p bO;simp only[Wt,cZ]at h1 h3 |-;omega
        .obtain⟨b,hb,e⟩:=aB e;obtain⟨d,hd,e⟩:=aB e;cases e
         have h1:=wS i (c:=c) (Z:=Z) (some j) 7 0;have h2:=qx i (c:=c) (Z:=Z) (bS Z c (some j) 7 0).p (aY Z cg);have h3:=oq i (c:=c) (Z:=Z) (bq c Z (bS Z c (some j) 7 0).p fun i=>!aY Z cg i) iw;have h4:=R _ _ hb trivial;have h5:=R _ _ hd trivial;have g1:=kf i (k:=b.l) h1.2;have h6:=oq i (c:=c) (Z:=Z) d.p bO;have h:=fD h5 (GO i j (aY Z cg) JD (by simp only[Wt]at h4;omega));simp only[Wt]at h |-;omega
 |sCalls o j x l g=>
  simp only[ay,oR]at e;cases j with
  |none=>cases e;exact aR _
  |some j=>
   cases x with
   |none=>cases e;exact aR _
   |some k=>
    obtain⟨a,ha,e⟩:=aB e;cases e
    have h1:=R _ _ ha trivial;simp only[Wt]at h1 |-;rw[ke,kR];simp only;omega
 |branch o j slot=>
  simp only[ay,ql]at e;obtain⟨a,ha,e⟩:=aB e;obtain⟨b,hb,e⟩:=aB e;obtain⟨d,hd,e⟩:=aB e;cases e
  have h1:=R _ _ ha trivial;have h2:=R _ _ hb trivial;have h3:=zQ i 8 j slot;have g1:=kf i (k:=a.l) h3.2;have g2:=kf i (l:=give (jg 8 j slot) a.l) (k:=b.l) (by rw[eE];exact h3.2);have h4:=R _ _ hd (by show (give (give _ _) _).length<=1;rw[eE,eE];exact h3.2);have h5:=qx i (c:=c) (Z:=Z) b.p (aY Z iQ);simp only[Wt]at h1 h2 h4 |-;omega
 |elses o x l out=>
  simp only[ay,qo]at e;cases x with
  |none=>cases e;simp only[Wt,rm];omega
  |some j=>
   obtain⟨a,ha,e⟩:=aB e;obtain⟨b,hb,e⟩:=aB e;cases e
   have h1:=R _ _ ha trivial;have g1:=kf i (k:=a.l) w;have h2:=R _ _ hb (by show (give _ _).length<=1;rw[eE];exact w);have h3:=l7 i j;have h4:=qx i (c:=c) (Z:=Z) (some (j+1)) (aY Z eG);simp only[Wt]at h1 h2 |-;omega
 |ifs o y l out=>
  simp only[ay,qq]at e;cases y with
  |none=>cases e;simp only[Wt,rm];omega
  |some j=>
   simp only at e;split at e
   .cases e;simp only[Wt];omega
   .obtain⟨a,ha,e⟩:=aB e;cases e
    have h1:=R _ _ ha trivial;have g1:=kf i (k:=a.l) w;simp only[Wt]at h1 |-;omega
def GG:∀n x q,dC c Z n x=some q->Cp x->ct i q.l+rm i q.p<=Wt i x
 |0,_,_,h,_=>by cases h
 |n+1,x,q,h,w=>Nn i (GG n) x q h w
end
open Dg
def bV:List Nat:=[19,13,14,15,16,17,18]
def dN:List Nat:=[2,7,19,8,9,10,11,12,6]
def rl(k:Nat):List (Nat×List Nat):=
 if k=1 then [(2,[2,3])]else if k=2 then [(0,[5]),(1,bV)]else if k=3 then [(2,[4]),(1,[5]),(0,[6])]
 else if k=4 then [(0,[5])]else if k=6 then [(2,dN)]else if k=7 then [(0,bV)]
 else if k=8 then [(0,bV),(0,[6]),(1,[6,8])]else if k=9 then [(0,bV),(0,[6])]else if k=10 then [(1,bV)]
 else if k=11 then [(0,bV)]else if k=12 then [(0,bV)]else if k=13 then [(0,bV),(0,bV)]
 else if k=14 then [(0,bV)]else if k=19 then [(2,bV)]else []
def lq(F:Nat->al->Prop)(k:Nat)(x:al):Prop:=
 if k=2\/k=3\/k=4\/k=7\/k=18\/k=19 then F 1 x/\fy x=false
 else if k=5 then x=nZ\/x=nY
 else if k=13 then fQ x≠9
 else if k=14 then x=sd\/x=o5
 else if k=15 then F 2 x
 else if k=16 then x=o6\/x=qD
 else x=[]
def cS(s:Int)(l:List M):Nat:=l.countP fun n=>decide (n.slot=s)
def xw(k:Nat)(m:M):Prop:=∃i:Nat,m.slot=(i:Int)/\∃r,(rl k)[i]?=some r/\m.kind∈r.2
def GY(k:Nat)(ks:List M):Prop:=∀(i:Nat) r,(rl k)[i]?=some r->(r.1=0->cS i ks=1)/\(r.1=1->cS i ks<=1)
section
variable (F:Nat->al->Prop)
mutual
def GN:M->Prop
 |⟨k,x,_,_,ks,_⟩=>(1<=k/\k<=19)/\lq F k x/\(∀m∈ks,xw k m)/\GY k ks/\GA ks
def GA:List M->Prop
 | []=>True
 |n::l=>GN n/\GA l
end
end
section
variable {F:Nat->al->Prop}
def qO(n:M):GN F n<->(1<=n.kind/\n.kind<=19)/\lq F n.kind n.text/\(∀m∈n.kids,xw n.kind m)/\GY n.kind n.kids/\GA F n.kids:=by cases n;rfl
variable{l:List M}
def tS:GA F l<->∀n∈l,GN F n:=by
 induction l with
 |nil=>simp[GA]
 |cons n l a=>simp[GA,a]
def fE(F:Nat->al->Prop)(K:List Nat)(s:Nat)(l:List M):Prop:=∀n∈l,n.slot=(s:Int)/\n.kind∈K/\GN F n
def bX(F:Nat->al->Prop)(K:List Nat)(s:Nat)(l:List M):Prop:=l.length=1/\fE F K s l
def kJ(F:Nat->al->Prop)(K:List Nat)(s:Nat)(l:List M):Prop:=l.length<=1/\fE F K s l
variable{s:Nat}
def bX.opt{K:List Nat}(h:bX F K s l):kJ F K s l:=⟨by rw[h.1];exact aR _,h.2⟩
def fE.nil(K:List Nat)(s:Nat):fE F K s []:=fun _ h=>(dH h).elim
def kJ.nil(K:List Nat)(s:Nat):kJ F K s []:=⟨aF _,fE.nil K s⟩
def fE.app{K:List Nat}{a b:List M}(h:fE F K s a)(k:fE F K s b):fE F K s (a++b):=fun n c=>by
 rcases List.mem_append.1 c with c|c
 .exact h n c
 .exact k n c
theorem fE.cS{K:List Nat}(h:fE F K s l)(i:Nat):cS i l=if i=s then l.length else 0:=by
 unfold Syn.cS;split
 .rename_i e;subst e;exact List.countP_eq_length.2 fun n a=>by simp[(h n a).1]
 .rename_i e;exact List.countP_eq_zero.2 fun n a=>by rw[(h n a).1];simp;omega
def CX(i:Int)(a b:List M):Syn.cS i (a++b)=Syn.cS i a+Syn.cS i b:=by unfold Syn.cS;rw[List.countP_append]
variable{K':List Nat}
def bX.mono{K:List Nat}(h:bX F K s l)(b:∀x∈K,x∈K'):bX F K' s l:=⟨h.1,fun n a=>⟨(h.2 n a).1,b _ (h.2 n a).2.1,(h.2 n a).2.2⟩⟩
variable{d:T}{o:Int}{x:al}{k:Nat}
theorem bX.mk{K:List Nat}{ks:List M}(b:k∈K)(h:GN F ⟨k,x,o,s,ks,d⟩):bX F K s [⟨k,x,o,s,ks,d⟩]:=⟨rfl,fun n a=>by rw[List.mem_singleton.1 a];exact⟨rfl,b,h⟩⟩
def xe{s:Int}(h1:1<=k/\k<=19)(hr:rl k=[])(a:lq F k x):GN F ⟨k,x,o,s,[],d⟩:=
 ⟨h1,a,fun _ h=>(dH h).elim,(fun i r h=>by rw[hr]at h;cases h),trivial⟩
def kU(h:Nat)(l:List M):Prop:=(h=0->l.length=1)/\(h=1->l.length<=1)
def ow{s:Int}{h:Nat}{K:List Nat}(h1:1<=k/\k<=19)(hr:rl k=[(h,K)])(c:lq F k x)(a:fE F K 0 l)(b:kU h l):GN F ⟨k,x,o,s,l,d⟩:=by
 refine⟨h1,c,fun m hm=>⟨0,(a m hm).1,_,by rw[hr];rfl,(a m hm).2.1⟩,fun i r hi=>?_,tS.2 fun n e=>(a n e).2.2⟩;rw[hr]at hi
 match i,hi with
 |0,hi=>
  cases hi
  rw[a.cS 0,ag rfl];exact b
def DE{s:Int}{h h':Nat}{K:List Nat}{l':List M}(h1:1<=k/\k<=19)(hr:rl k=[(h,K),(h',K')])(f:lq F k x)(a:fE F K 0 l)(e:fE F K' 1 l')(b:kU h l)(b':kU h' l'):GN F ⟨k,x,o,s,l++l',d⟩:=by
 refine⟨h1,f,fun m hm=>?_,fun i r hi=>?_,tS.2 fun n c=>?_⟩
 .rcases List.mem_append.1 hm with hm|hm
  .exact⟨0,(a m hm).1,_,by rw[hr];rfl,(a m hm).2.1⟩
  .exact⟨1,(e m hm).1,_,by rw[hr];rfl,(e m hm).2.1⟩
 .rw[hr]at hi;rw[CX,a.cS i,e.cS i]
  match i,hi with
  |0,hi=>cases hi;simpa[kU]using b
  |1,hi=>cases hi;simpa[kU]using b'
 .rcases List.mem_append.1 c with c|c
  .exact(a n c).2.2
  .exact(e n c).2.2
def HE{s:Int}{h h' h2:Nat}{K K2:List Nat}{l' l2:List M}(h1:1<=k/\k<=19)(hr:rl k=[(h,K),(h',K'),(h2,K2)])(f:lq F k x)(a:fE F K 0 l)(e:fE F K' 1 l')(a2:fE F K2 2 l2)(b:kU h l)(b':kU h' l')(g:kU h2 l2):GN F ⟨k,x,o,s,l++l'++l2,d⟩:=by
 refine⟨h1,f,fun m hm=>?_,fun i r hi=>?_,tS.2 fun n c=>?_⟩
 .rcases List.mem_append.1 hm with hm|hm
  .rcases List.mem_append.1 hm with hm|hm
   .exact⟨0,(a m hm).1,_,by rw[hr];rfl,(a m hm).2.1⟩
   .exact⟨1,(e m hm).1,_,by rw[hr];rfl,(e m hm).2.1⟩
  .exact⟨2,(a2 m hm).1,_,by rw[hr];rfl,(a2 m hm).2.1⟩
 .rw[hr]at hi;rw[CX,CX,a.cS i,e.cS i,a2.cS i]
  match i,hi with
  |0,hi=>cases hi;simpa[kU]using b
  |1,hi=>cases hi;simpa[kU]using b'
  |2,hi=>cases hi;simpa[kU]using g
 .rcases List.mem_append.1 c with c|c
  .rcases List.mem_append.1 c with c|c
   .exact(a n c).2.2
   .exact(e n c).2.2
  .exact(a2 n c).2.2
def bX.h0{K:List Nat}(h:bX F K s l):kU 0 l:=⟨fun _=>h.1,fun h=>by cases h⟩
def kJ.hOneV{K:List Nat}(h:kJ F K s l):kU 1 l:=⟨fun h=>(by cases h),fun _=>h.1⟩
def Ae(l:List M):kU 2 l:=⟨fun h=>(by cases h),fun h=>by cases h⟩
theorem bX.slot0{K:List Nat}(h:bX F K s l):bX F K 0 (slot0 l):=⟨by simp[Syn.slot0,h.1],fun n a=>by obtain⟨m,hm,rfl⟩:=List.mem_map.1 a;obtain⟨_,h2,h3⟩:=h.2 m hm;exact⟨rfl,h2,by rw[qO]at h3 |-;exact h3⟩⟩
def tU(F:Nat->al->Prop)(s:Nat)(l:List M):Prop:=∃o a b,l=[⟨8,[],o,s,a++b,tt⟩]/\bX F bV 0 a/\bX F [6] 1 b
def tU.fill{m:List M}(h:tU F s l)(k:kJ F [6,8] 2 m):bX F [8] s (give l m):=by obtain⟨o,a,b,rfl,ha,hb⟩:=h;exact bX.mk (k:=8) (by simp) (HE (k:=8) ⟨by decide,by decide⟩ rfl rfl ha.2 hb.2 k.2 ha.h0 hb.h0 k.hOneV)
theorem tU.one(h:tU F s l):bX F [8] s l:=by
 have h2:=h.fill (kJ.nil (F:=F) [6,8] 2);have:give l []=l:=by obtain⟨o,a,b,rfl,_⟩:=h;simp[Syn.give]
 rwa [this]at h2
end
end Syn
