import Derived.Test.YtfaclfkpnmcmlaaGreatDoorL00
import Derived.Test.YtfaclfkpnmcmlaaGreatDoorL03
import Derived.Test.YtfaclfkpnmcmlaaGreatDoorL04
import Derived.Test.YtfaclfkpnmcmlaaGreatDoorL05
import Derived.Shelf.LaysM
import Derived.Shelf.Strconv.Itoa3
import Derived.Shelf.LaysC
import Derived.Shelf.Strconv.AtoiAll
import Derived.Test.YtfaclfkpnmcmlaaGreatDoorProg
import Derived.Sort.AssemblyPlain
set_option maxHeartbeats 8000000
set_option linter.all false
open Go.Proofs.Tryz hiding d6 f8
namespace Syn
open Dg
mutual
def vL:M->Prop
 |⟨_,_,_,_,ks,d⟩=>d.ok 0/\d≠ff/\(∀m∈ks,nD m.cond d)/\(ks.map M.key).Pairwise (fun a b=>kf a b=true)/\vK ks
def vK:List M->Prop
 | []=>True
 |n::l=>vL n/\vK l
end
variable{l:List M}
def Kn:vK l<->∀n∈l,vL n:=by
 induction l with
 |nil=>simp[vK]
 |cons n l a=>simp[vK,a]
def sC(n:M):vL n<->n.cond.ok 0/\n.cond≠ff/\(∀m∈n.kids,nD m.cond n.cond)/\(n.kids.map M.key).Pairwise (fun a b=>kf a b=true)/\vK n.kids:=by cases n;rfl
def sB(l:List M):Prop:=(l.map M.key).Pairwise (fun a b=>kf a b=true)/\∀n∈l,vL n
variable{n:M}
def Bg(h:vL n):sB n.kids:=⟨((sC n).1 h).2.2.2.1,Kn.1 ((sC n).1 h).2.2.2.2⟩
def TV{c:aF}{k:eQ}:(∃x∈pL c l,x.key=k)<->∃n∈l,n.key=k/\n.cond.at' c=true:=by
 constructor
 .rintro⟨x,a,b⟩;obtain⟨n,h1,h2,e⟩:=ly.1 a;exact⟨n,h1,by rw[<-b,e];rfl,h2⟩
 .rintro⟨n,h1,h2,h3⟩;exact⟨_,ly.2 ⟨n,h1,h3,rfl⟩,h2⟩
def YT(h:wN n):∀m∈n.kids,nD m.cond n.cond:=fun m hm=>(Cy.1 ((Gr n).1 h) m hm).1
def Kl:∀(d:Nat) {l:List M},cF l->(∀n∈l,wN n)->sB (cR d l)
 |0,_,_,_=>⟨List.Pairwise.nil,fun n f=>(dJ f).elim⟩
 |d+1,l,a,g=>by
  have i:(cR (d+1) l).map M.key=ks l:=by
   simp only[cR,pF]
   conv=>rhs;rw[<-List.map_id (ks l)]
   exact nu fun k _=>rfl
  refine⟨by rw[i];exact pe mV _,fun n f=>?_⟩;simp only[cR,my]at f;obtain⟨k,i,rfl⟩:=f;obtain⟨p,i2⟩:=Kl d (yf (k:=k) a) (Gs (k:=k) g);refine⟨Pg a,fun e=>?_,fun m hm c j=>?_,p,Kn.2 i2⟩
  .obtain⟨x,h1,h2,h3⟩:=tV.1 i;obtain⟨c,j⟩:=T.some_of_ne (jm.1 (kg.1 a x h1)).1 h3;have:=(Ak (k:=k) a).2 ⟨x,h1,h2,j⟩;rw[e]at this;cases this
  .have b:∃x∈pL c (cR d (eC l k)),x.key=m.key:=TV.2 ⟨m,hm,rfl,j⟩;rw[Be c d (yf a) (Gs g)]at b;obtain⟨x,o,_⟩:=b;have h:pL c (eC l k)≠[]:=fun e=>by rw[e,x5]at o;exact dJ o
   obtain⟨y,q⟩:=List.exists_mem_of_ne_nil _ h;obtain⟨z,h1,h2,_⟩:=ly.1 q;obtain⟨n,h3,h4,_,h5⟩:=vJ h1;exact(Ak a).2 ⟨n,h3,h4,YT (g n h3) z h5 c h2⟩
open Dg
def Kq(h:sB (n::l)):sB l:=⟨(List.pairwise_cons.1 h.1).2,fun m hm=>h.2 m (.tail _ hm)⟩
def E1(e:List aI):Prop:=(e.map aI.key).Pairwise (fun a b=>gI a b=true)/\∀d∈e,d.cond.ok 0/\d.cond≠ff
variable{e:List aI}
def V9{c:aF}{x:aI}:x∈iB c e<->∃d∈e,d.cond.at' c=true/\x={ d with cond:=tt }:=by
 unfold iB;simp only[my,kw];constructor
 .rintro⟨d,⟨h1,h2⟩,h3⟩;exact⟨d,h1,h2,h3.symm⟩
 .rintro⟨d,h1,h2,h3⟩;exact⟨d,⟨h1,h2⟩,h3.symm⟩
def UV(h:jk e):E1 (iz e):=by
 have a:(iz e).map aI.key=qg e:=by
  simp only[iz,pF]
  conv=>rhs;rw[<-List.map_id (qg e)]
  exact nu fun k _=>rfl
 refine⟨by rw[a];exact pe j6 _,fun d hd=>?_⟩;simp only[iz,my]at hd;obtain⟨k,a,rfl⟩:=hd;refine⟨HP h,fun f=>?_⟩;unfold qg at a;rw[wl j6]at a;simp only[my,kw,dE]at a;obtain⟨x,⟨h1,h3⟩,h2⟩:=a;obtain⟨c,b⟩:=T.some_of_ne (h x h1) h3;have:=(DL (k:=k) h).2 ⟨x,h1,h2,b⟩;have e1:qd e k=ff:=f;rw[e1]at this;cases this
def Vc(t:Tr):Prop:=sB t.kids/\E1 t.diags
def PZ{Z:Zs}(a:bB Z){w:T}(g:w.ok 0){t:Tr}(h:mD Z w t):Vc t:=by
 rcases h with ⟨_,e⟩|⟨b,r,j,i⟩
 .subst e;exact⟨⟨List.Pairwise.nil,fun n c=>(dJ c).elim⟩,⟨List.Pairwise.nil,fun n c=>(dJ c).elim⟩⟩
 .obtain⟨q,_,R⟩:=qV a g b j (fun _=>false);obtain⟨f,d⟩:=yu R.fok R.lok;subst i;exact⟨Kl _ f d,UV R.eok⟩
mutual
def Mo:M->List Int
 |⟨_,_,o,_,ks,_⟩=>o::dy ks
def dy:List M->List Int
 | []=>[]
 |n::l=>Mo n++dy l
end
def ct(i:Int)(l:List M):Nat:=(dy l).count i
def r8(i k:Int):Nat:=if k=i then 1 else 0
def rm(i:Int):Option Nat->Nat
 |none=>0
 |some j=>if (j:Int)<=i then 1 else 0
def kU(n:M)(l:List M):dy (n::l)=n.tok::(dy n.kids++dy l):=by cases n;rfl
def Mn:∀a b:List M,dy (a++b)=dy a++dy b
 | [],_=>rfl
 |n::a,b=>by rw[aU,kU,kU,Mn a b];simp
section
variable (i:Int)
theorem lr:ct i []=0:=rfl
def kD(n:M)(l:List M):ct i (n::l)=r8 i n.tok+ct i n.kids+ct i l:=by unfold ct r8;rw[kU,List.count_cons,List.count_append];simp only[beq_iff_eq];omega
def Am(a b:List M):ct i (a++b)=ct i a+ct i b:=by unfold ct;rw[Mn,List.count_append]
def HK:∀l:List M,ct i (slot0 l)=ct i l
 | []=>rfl
 |n::l=>by have:=HK l;show ct i ({ n with slot:=0 }::slot0 l)=_;rw[kD,kD,this]
def kE{l k:List M}(h:l.length<=1):ct i (give l k)<=ct i l+ct i k:=by
 match l,h with
 | [],_=>exact aE _
 | [n],_=>show ct i [{ n with kids:=n.kids++k }]<=_;rw[kD,kD,Am,lr];simp only;omega
def ml(k:Nat):r8 i k+rm i (some (k+1))=rm i (some k):=by unfold r8 rm;simp only;split<;>split<;>split<;>omega
def BL{j k:Nat}(h:j<=k):rm i (some k)<=rm i (some j):=by unfold rm;simp only;split<;>split<;>omega
variable {c:aF} {Z:Zs}
def sL(p:Option Nat):rm i (p.map (nx c Z))<=rm i p:=by
 cases p with
 |none=>exact aR _
 |some p=>exact BL i (qB c Z p)
def La(p:Option Nat):rm i (p.map (·+1))<=rm i p:=by
 cases p with
 |none=>exact aR _
 |some p=>exact BL i (Nat.le_succ p)
def K9(p q:Option Nat):rm i (p.or q)<=rm i p+rm i q:=by
 cases p with
 |none=>simp[rm]
 |some p=>simp
def qR(p:Option Nat)(is:Nat->Bool):rm i (bv c Z p is)+rm i (bv c Z p fun j=>!is j)<=rm i p:=by
 cases p with
 |none=>exact aR _
 |some p=>have:=BL i (qB c Z p);unfold bv;cases h:is (nx c Z p)<;>simp only[df,Option.filter,h,cL,dg,cu,dG,dO]<;>simp only[rm]at *<;>omega
def xE(p:Option Nat)(kd s:Nat):ct i (bX Z c p kd s).l+rm i (bX Z c p kd s).p<=rm i p/\(bX Z c p kd s).l.length<=1:=by
 have h:=sL i (c:=c) (Z:=Z) p;unfold bX;cases hp:p.map (nx c Z)with
 |none=>exact⟨aE _,aE _⟩
 |some j=>
  rw[hp]at h;simp only;split
  .exact⟨aE _,aE _⟩
  .refine⟨?_,aR _⟩;have:=ml i j;simp only[kD,lr];omega
def DH(p:Option Nat)(s:Nat):ct i (fQ Z c p s).l+rm i (fQ Z c p s).p<=rm i p:=by
 have h:=sL i (c:=c) (Z:=Z) p;unfold fQ;cases hp:p.map (nx c Z)with
 |none=>exact aE _
 |some j=>
  rw[hp]at h;simp only;split
  .exact aE _
  .have:=ml i j;simp only[kD,lr];omega
def oI(p:Option Nat)(s:au):rm i (di Z c p s).1<=rm i p:=by
 have h:=sL i (c:=c) (Z:=Z) p;unfold di;cases hp:p.map (nx c Z)with
 |none=>exact aE _
 |some j=>
  rw[hp]at h;simp only;split
  .have:=ml i j;simp only;omega
  .exact aE _
def An(kd:Nat)(j:Option Nat)(s:Nat):ct i (jp kd j s)+rm i (j.map (·+1))<=rm i j/\(jp kd j s).length<=1:=by
 cases j with
 |none=>exact⟨aR _,aE _⟩
 |some j=>refine⟨?_,aR _⟩;have:=ml i j;show ct i [⟨kd,[],(j:Int),s,[],tt⟩]+rm i (some (j+1))<=_;simp only[kD,lr];omega
def Wt:hQ->Nat
 | .line _ _ p _=>rm i p
 | .lineL _ _ _ _ l g out=>ct i l+rm i g+rm i out
 | .lineO _ _ _ op l g=>ct i l+rm i op+rm i g
 | .unary _ p _=>rm i p
 | .unaryH _ j _=>rm i j
 | .calls _ j _ x names g=>match j,x with
  |some j,some k=>r8 i j+rm i (some k)
  |_,_=>ct i names+rm i g
 | .inside _ p _=>rm i p
 | .listed _ _ p=>rm i p
 | .listL _ _ l g fin=>ct i l+rm i g+rm i fin
 | .item _ _ p=>rm i p
 | .behind _ _ p _ _=>rm i p
 | .vrb _ p=>rm i p
 | .function _ p=>rm i p
 | .block _ p _=>rm i p
 | .seqL _ _ p l out=>ct i l+rm i p+rm i out
 | .stmt _ j=>rm i j
 | .sCalls _ j x l g=>match j,x with
  |some j,some k=>r8 i j+rm i (some k)
  |_,_=>ct i l+rm i g
 | .branch _ j _=>rm i j
 | .elses _ x l out=>ct i l+rm i x+rm i out
 | .ifs _ y l out=>ct i l+rm i y+rm i out
def CS:hQ->Prop
 | .elses _ _ l _=>l.length<=1
 | .ifs _ _ l _=>l.length<=1
 |_=>True
def Hu(j:Nat){names:List M}{p g:Option Nat}(is:Nat->Bool)(hp:∀k,p=some k->j+1<=k)(h:ct i names+rm i g<=rm i (some j)):(match (some j:Option Nat),bv c Z p is with
  |some j,some k=>r8 i j+rm i (some k)
  |_,_=>ct i names+rm i g)<=rm i (some j):=by
 cases a:bv c Z p is with
 |none=>exact h
 |some k=>
  have b:j+1<=k:=by
   cases p with
   |none=>cases a
   |some p=>have h1:=hp p rfl;have h2:=qB c Z p;unfold bv at a;simp only[df]at a;have:=Option.eq_some_of_filter_eq_some a;cases this;omega
  have h1:=BL i b;have h2:=ml i j;show r8 i j+rm i (some k)<=_;omega
def Kw{j:Nat}{kd s:Nat}:∀k,(bX Z c (some j) kd s).p=some k->j+1<=k:=by
 intro k a;have:=qB c Z j;unfold bX at a;simp only[df]at a;split at a
 .cases a
 .cases a;omega
def On{r:jU}(R:∀x q,r x=some q->CS x->ct i q.l+rm i q.p<=Wt i x):∀x q,aB c Z r x=some q->CS x->ct i q.l+rm i q.p<=Wt i x:=by
 intro x q e w;cases x with
 |line k o p slot=>
  simp only[aB,mZ]at e;split at e
  .exact(R _ _ e trivial :)
  .obtain⟨a,ha,e⟩:=aG e;obtain⟨b,hb,e⟩:=aG e;cases e
   have h1:=R _ _ ha trivial;have h2:=R _ _ hb trivial;simp only[Wt,rm]at h1 h2 |-;omega
 |lineL k o slot first l g out=>
  simp only[aB,o5]at e;cases g with
  |none=>cases e;simp only[Wt,rm];omega
  |some p=>
   simp only at e;split at e
   .cases e;simp only[Wt];omega
   .obtain⟨a,ha,e⟩:=aG e;obtain⟨b,hb,e⟩:=aG e;cases e
    have h1:=R _ _ ha trivial;have h2:=R _ _ hb trivial;have h3:=qR i (c:=c) (Z:=Z) (some p) (kM Z k);simp only[Wt]at h1 h2 |-;simp only[show rm i none=0 from rfl]at h1;omega
 |lineO k o slot op l g=>
  simp only[aB,sG]at e;cases op with
  |none=>cases e;simp only[Wt,rm];omega
  |some j=>
   obtain⟨a,ha,e⟩:=aG e;cases e
   have h1:=R _ _ ha trivial;have h2:=ml i j;simp only[Wt]at h1 |-;rw[kD,Am,HK,lr];simp only;omega
 |unary o p slot=>have h1:=R _ _ e trivial;have h2:=sL i (c:=c) (Z:=Z) p;simp only[Wt]at h1 |-;omega
 |unaryH o j slot=>
  simp only[aB,kh]at e;cases j with
  |none=>cases e;exact aE _
  |some j=>
   have h0:=ml i j;simp only at e;split at e
   .split at e
    .cases e;exact aE _
    .obtain⟨a,ha,e⟩:=aG e;cases e
     have h1:=R _ _ ha trivial;simp only[Wt]at h1 |-;rw[kD,lr];simp only;omega
   .split at e
    .exact(R _ _ e trivial :)
    .split at e
     .cases e;simp only[Wt,kD,lr];omega
     .split at e
      .cases e;simp only[Wt,kD,lr];omega
      .split at e
       .cases e;simp only[Wt,kD,lr];omega
       .obtain⟨b,hb,e⟩:=aG e;cases e
        have h1:=R _ _ hb trivial;have h2:=(xE i (c:=c) (Z:=Z) (some j) 18 slot).1;have h3:=qR i (c:=c) (Z:=Z) (bX Z c (some j) 18 slot).p (be Z cq);exact fJ h1 (Hu i j (be Z cq) Kw O)
 |calls o j slot x names g=>
  simp only[aB,oZ]at e;cases j with
  |none=>cases e;exact aR _
  |some j=>
   cases x with
   |none=>cases e;exact aR _
   |some k=>
    obtain⟨a,ha,e⟩:=aG e;cases e
    have h1:=R _ _ ha trivial;simp only[Wt]at h1 |-;rw[kD,lr];simp only;omega
 |inside o p slot=>
  have h0:=sL i (c:=c) (Z:=Z) p;simp only[aB,nW]at e;cases hp:p.map (nx c Z)with
  |none=>rw[hp]at e;cases e;exact aE _
  |some j=>
   rw[hp]at e h0;simp only at e;split at e
   .cases e;exact aE _
   .split at e
    .cases e;exact aE _
    .obtain⟨a,ha,e⟩:=aG e;cases e
     have h1:=R _ _ ha trivial;have h2:=oI i (c:=c) (Z:=Z) a.p dt;have h3:=ml i j;simp only[Wt]at h1 |-;omega
 |listed par o p=>
  have h0:=sL i (c:=c) (Z:=Z) p;simp only[aB,nX]at e;cases hp:p.map (nx c Z)with
  |none=>rw[hp]at e;cases e;exact aE _
  |some j=>
   rw[hp]at e h0;simp only at e;split at e
   .cases e;exact aE _
   .split at e
    .cases e;exact aE _
    .obtain⟨a,ha,e⟩:=aG e;cases e
     have h1:=R _ _ ha trivial;have h2:=oI i (c:=c) (Z:=Z) a.p dt;have h3:=ml i j;have h4:=qR i (c:=c) (Z:=Z) (some (j+1)) (be Z dt);simp only[Wt,lr]at h1 |-;omega
 |listL par o l g fin=>
  simp only[aB,sH]at e;cases g with
  |none=>cases e;simp only[Wt,rm];omega
  |some p=>
   obtain⟨a,ha,e⟩:=aG e;obtain⟨b,hb,e⟩:=aG e;cases e
   have h1:=R _ _ ha trivial;have h2:=R _ _ hb trivial;have h3:=qR i (c:=c) (Z:=Z) a.p (be Z eV);have h4:=La i (bv c Z a.p (be Z eV));simp only[Wt,Am]at h1 h2 |-;omega
 |item par o p=>
  simp only[aB,o4]at e;cases par with
  |true=>
   simp only[cu]at e;cases e
   have h1:=xE i (c:=c) (Z:=Z) p 4 0;have h2:=oI i (c:=c) (Z:=Z) (bX Z c p 4 0).p dA;have h3:=DH i (c:=c) (Z:=Z) (di Z c (bX Z c p 4 0).p dA).1 0;have h4:=kE i (k:=(fQ Z c (di Z c (bX Z c p 4 0).p dA).1 0).l) h1.2;simp only[Wt];omega
  |false=>simp only[dO,dG]at e;exact(R _ _ e trivial :)
 |behind typ o p sign slot=>
  simp only[aB,oY]at e;obtain⟨a,ha,e⟩:=aG e;cases e
  have h3:=qR i (c:=c) (Z:=Z) p (be Z sign);have h4:=La i (bv c Z p (be Z sign));have h5:=K9 i (bv c Z p fun i=>!be Z sign i) a.p;have h1:ct i a.l+rm i a.p<=rm i ((bv c Z p (be Z sign)).map (·+1)):=by
   unfold mY at ha;cases typ with
   |true=>simp only[cu]at ha;cases ha;exact DH i _ _
   |false=>simp only[dO,dG]at ha;exact(R _ _ ha trivial :)
  simp only[Wt];omega
 |vrb o p=>
  simp only[aB,qM]at e;obtain⟨d,hd,e⟩:=aG e;cases e
  have h1:=xE i (c:=c) (Z:=Z) p 2 0;have h2:=oI i (c:=c) (Z:=Z) (bX Z c p 2 0).p dA;have h3:=DH i (c:=c) (Z:=Z) (di Z c (bX Z c p 2 0).p dA).1 0;have h4:=kE i (k:=(fQ Z c (di Z c (bX Z c p 2 0).p dA).1 0).l) h1.2;have h5:=R _ _ hd trivial;have h6:=kE i (l:=give (bX Z c p 2 0).l (fQ Z c (di Z c (bX Z c p 2 0).p dA).1 0).l) (k:=d.l) (by rw[eK];exact h1.2);have h:=oI i (c:=c) (Z:=Z) d.p bT;simp only[Wt]at h5 |-;omega
 |function o p=>
  simp only[aB,qK]at e;obtain⟨b,hb,e⟩:=aG e;obtain⟨d,hd,e⟩:=aG e;obtain⟨f,hf,e⟩:=aG e;cases e
  have h1:=xE i (c:=c) (Z:=Z) p 3 0;have h2:=R _ _ hb trivial;have h3:=R _ _ hd trivial;have h4:=R _ _ hf trivial;have g1:=kE i (k:=b.l) h1.2;have g2:=kE i (l:=give (bX Z c p 3 0).l b.l) (k:=d.l) (by rw[eK];exact h1.2);have m:=kE i (l:=give (give (bX Z c p 3 0).l b.l) d.l) (k:=f.l) (by rw[eK,eK];exact h1.2);simp only[Wt]at h2 h3 h4 |-;omega
 |block o p slot=>
  have h0:=sL i (c:=c) (Z:=Z) p;simp only[aB,nU]at e;cases hp:p.map (nx c Z)with
  |none=>rw[hp]at e;cases e;exact aE _
  |some j=>
   rw[hp]at e h0;simp only at e;split at e
   .cases e;exact aE _
   .split at e
    .cases e;exact aE _
    .obtain⟨a,ha,e⟩:=aG e;cases e
     have h1:=R _ _ ha trivial;have h2:=oI i (c:=c) (Z:=Z) a.p iW;have h3:=ml i j;simp only[Wt,lr,show rm i none=0 from rfl]at h1 |-;rw[kD,lr];simp only;omega
 |seqL top o p l out=>
  have h0:=sL i (c:=c) (Z:=Z) p;simp only[aB,o7]at e;cases hp:p.map (nx c Z)with
  |none=>rw[hp]at e;cases e;simp only[Wt];omega
  |some j=>
   rw[hp]at e h0;simp only at e;split at e
   .cases e;simp only[Wt];omega
   .obtain⟨a,ha,e⟩:=aG e;obtain⟨b,hb,e⟩:=aG e;cases e
    have h3:=ml i j;have h1:ct i a.l+rm i a.p<=rm i (some j):=by
     unfold lz at ha;cases top with
     |false=>simp only[dO,dG]at ha;exact(R _ _ ha trivial :)
     |true=>
      simp only[cu]at ha;unfold nY at ha;split at ha
      .have:=R _ _ ha trivial;simp only[Wt]at this;omega
      .split at ha
       .have:=R _ _ ha trivial;simp only[Wt]at this;omega
       .cases ha;exact aE _
    have h2:=R _ _ hb trivial;simp only[Wt,Am,show rm i none=0 from rfl]at h2 |-;omega
 |stmt o j=>
  simp only[aB,kP]at e;cases j with
  |none=>cases e;exact aE _
  |some j=>
   have h0:=ml i j;simp only at e;split at e
   .have:=R _ _ e trivial;simp only[Wt]at this |-;omega
   .split at e
    .exact(R _ _ e trivial :)
    .split at e
     .obtain⟨a,ha,e⟩:=aG e;obtain⟨b,hb,e⟩:=aG e;cases e
      have h1:=R _ _ ha trivial;have h2:=R _ _ hb trivial;have h3:=An i 9 (some j) 0;have g1:=kE i (k:=a.l) h3.2;have g2:=kE i (l:=give (jp 9 (some j) 0) a.l) (k:=b.l) (by rw[eK];exact h3.2);simp only[Wt,df]at h1 h2 h3 |-;omega
     .split at e
      .exact(R _ _ e trivial :)
      .split at e
       .obtain⟨a,ha,e⟩:=aG e;cases e
        have h1:=R _ _ ha trivial;have h3:=An i 10 (some j) 0;have g1:=kE i (k:=a.l) h3.2;have h4:=qR i (c:=c) (Z:=Z) (some (j+1)) (be Z bT);have h5:=K9 i a.p (bv c Z (some (j+1)) (be Z bT));have h6:=oI i (c:=c) (Z:=Z) (a.p.or (bv c Z (some (j+1)) (be Z bT))) bT;simp only[Wt,df]at h1 h3 |-;omega
       .split at e
        .obtain⟨a,ha,e⟩:=aG e;cases e
         have h1:=R _ _ ha trivial;have h3:=An i (if X Z j=jP then 12 else 11) (some j) 0;have g1:=kE i (k:=a.l) h3.2;have h6:=oI i (c:=c) (Z:=Z) a.p bT;simp only[Wt,df]at h1 h3 |-;omega
        .obtain⟨b,hb,e⟩:=aG e;obtain⟨d,hd,e⟩:=aG e;cases e
         have h1:=xE i (c:=c) (Z:=Z) (some j) 7 0;have h2:=qR i (c:=c) (Z:=Z) (bX Z c (some j) 7 0).p (be Z cq);have h3:=oI i (c:=c) (Z:=Z) (bv c Z (bX Z c (some j) 7 0).p fun i=>!be Z cq i) iC;have h4:=R _ _ hb trivial;have h5:=R _ _ hd trivial;have g1:=kE i (k:=b.l) h1.2;have h6:=oI i (c:=c) (Z:=Z) d.p bT;have h:=fJ h5 (Hu i j (be Z cq) Kw (by simp only[Wt]at h4;omega));simp only[Wt]at h |-;omega
 |sCalls o j x l g=>
  simp only[aB,o6]at e;cases j with
  |none=>cases e;exact aR _
  |some j=>
   cases x with
   |none=>cases e;exact aR _
   |some k=>
    obtain⟨a,ha,e⟩:=aG e;cases e
    have h1:=R _ _ ha trivial;simp only[Wt]at h1 |-;rw[kD,lr];simp only;omega
 |branch o j slot=>
  simp only[aB,qH]at e;obtain⟨a,ha,e⟩:=aG e;obtain⟨b,hb,e⟩:=aG e;obtain⟨d,hd,e⟩:=aG e;cases e
  have h1:=R _ _ ha trivial;have h2:=R _ _ hb trivial;have h3:=An i 8 j slot;have g1:=kE i (k:=a.l) h3.2;have g2:=kE i (l:=give (jp 8 j slot) a.l) (k:=b.l) (by rw[eK];exact h3.2);have h4:=R _ _ hd (by show (give (give _ _) _).length<=1;rw[eK,eK];exact h3.2);have h5:=qR i (c:=c) (Z:=Z) b.p (be Z iV);simp only[Wt]at h1 h2 h4 |-;omega
 |elses o x l out=>
  simp only[aB,qJ]at e;cases x with
  |none=>cases e;simp only[Wt,rm];omega
  |some j=>
   obtain⟨a,ha,e⟩:=aG e;obtain⟨b,hb,e⟩:=aG e;cases e
   have h1:=R _ _ ha trivial;have g1:=kE i (k:=a.l) w;have h2:=R _ _ hb (by show (give _ _).length<=1;rw[eK];exact w);have h3:=ml i j;have h4:=qR i (c:=c) (Z:=Z) (some (j+1)) (be Z eN);simp only[Wt]at h1 h2 |-;omega
 |ifs o y l out=>
  simp only[aB,qL]at e;cases y with
  |none=>cases e;simp only[Wt,rm];omega
  |some j=>
   simp only at e;split at e
   .cases e;simp only[Wt];omega
   .obtain⟨a,ha,e⟩:=aG e;cases e
    have h1:=R _ _ ha trivial;have g1:=kE i (k:=a.l) w;simp only[Wt]at h1 |-;omega
def Hk:∀n x q,dF c Z n x=some q->CS x->ct i q.l+rm i q.p<=Wt i x
 |0,_,_,h,_=>by cases h
 |n+1,x,q,h,w=>On i (Hk n) x q h w
end
open Dg
def cd:Zp:=[19,13,14,15,16,17,18]
def dS:Zp:=[2,7,19,8,9,10,11,12,6]
def rl(k:Nat):List (Nat×Zp):=
 if k=1 then [(2,[2,3])]else if k=2 then [(0,[5]),(1,cd)]else if k=3 then [(2,[4]),(1,[5]),(0,[6])]
 else if k=4 then [(0,[5])]else if k=6 then [(2,dS)]else if k=7 then [(0,cd)]
 else if k=8 then [(0,cd),(0,[6]),(1,[6,8])]else if k=9 then [(0,cd),(0,[6])]else if k=10 then [(1,cd)]
 else if k=11 then [(0,cd)]else if k=12 then [(0,cd)]else if k=13 then [(0,cd),(0,cd)]
 else if k=14 then [(0,cd)]else if k=19 then [(2,cd)]else []
def lG(F:Nat->au->Prop)(k:Nat)(x:au):Prop:=
 if k=2\/k=3\/k=4\/k=7\/k=18\/k=19 then F 1 x/\fI x=false
 else if k=5 then x=om\/x=oj
 else if k=13 then fV x≠9
 else if k=14 then x=sR\/x=pq
 else if k=15 then F 2 x
 else if k=16 then x=pu\/x=qX
 else x=[]
def cS(s:Int)(l:List M):Nat:=l.countP fun n=>decide (n.slot=s)
def xZ(k:Nat)(m:M):Prop:=∃i:Nat,m.slot=(i:Int)/\∃r,(rl k)[i]?=some r/\m.kind∈r.2
def HF(k:Nat)(ks:List M):Prop:=∀(i:Nat) r,(rl k)[i]?=some r->(r.1=0->cS i ks=1)/\(r.1=1->cS i ks<=1)
section
variable (F:Nat->au->Prop)
mutual
def GN:M->Prop
 |⟨k,x,_,_,ks,_⟩=>(1<=k/\k<=19)/\lG F k x/\(∀m∈ks,xZ k m)/\HF k ks/\GA ks
def GA:List M->Prop
 | []=>True
 |n::l=>GN n/\GA l
end
end
section
variable {F:Nat->au->Prop}
def rq(n:M):GN F n<->(1<=n.kind/\n.kind<=19)/\lG F n.kind n.text/\(∀m∈n.kids,xZ n.kind m)/\HF n.kind n.kids/\GA F n.kids:=by cases n;rfl
variable{l:List M}
def uD:GA F l<->∀n∈l,GN F n:=by
 induction l with
 |nil=>simp[GA]
 |cons n l a=>simp[GA,a]
def fK(F:Nat->au->Prop)(K:Zp)(s:Nat)(l:List M):Prop:=∀n∈l,n.slot=(s:Int)/\n.kind∈K/\GN F n
def cg(F:Nat->au->Prop)(K:Zp)(s:Nat)(l:List M):Prop:=l.length=1/\fK F K s l
def kZ(F:Nat->au->Prop)(K:Zp)(s:Nat)(l:List M):Prop:=l.length<=1/\fK F K s l
variable{s:Nat}
def cg.opt{K:Zp}(h:cg F K s l):kZ F K s l:=⟨by rw[h.1];exact aR _,h.2⟩
def fK.nil(K:Zp)(s:Nat):fK F K s []:=fun _ h=>(dJ h).elim
def kZ.nil(K:Zp)(s:Nat):kZ F K s []:=⟨aE _,fK.nil K s⟩
def fK.app{K:Zp}{a b:List M}(h:fK F K s a)(k:fK F K s b):fK F K s (a++b):=fun n c=>by
 rcases List.mem_append.1 c with c|c
 .exact h n c
 .exact k n c
theorem fK.cS{K:Zp}(h:fK F K s l)(i:Nat):cS i l=if i=s then l.length else 0:=by
 unfold Syn.cS;split
 .rename_i e;subst e;exact List.countP_eq_length.2 fun n a=>by simp[(h n a).1]
 .rename_i e;exact List.countP_eq_zero.2 fun n a=>by rw[(h n a).1];simp;omega
def Dw(i:Int)(a b:List M):Syn.cS i (a++b)=Syn.cS i a+Syn.cS i b:=by unfold Syn.cS;rw[List.countP_append]
variable{K':Zp}
def cg.mono{K:Zp}(h:cg F K s l)(b:∀x∈K,x∈K'):cg F K' s l:=⟨h.1,fun n a=>⟨(h.2 n a).1,b _ (h.2 n a).2.1,(h.2 n a).2.2⟩⟩
variable{d:T}{o:Int}{x:au}
theorem cg.mk{K:Zp}{k:Nat}{ks:List M}(b:k∈K)(h:GN F ⟨k,x,o,s,ks,d⟩):cg F K s [⟨k,x,o,s,ks,d⟩]:=⟨rfl,fun n a=>by rw[List.mem_singleton.1 a];exact⟨rfl,b,h⟩⟩
def xN{k:Nat}{s:Int}(h1:1<=k/\k<=19)(hr:rl k=[])(a:lG F k x):GN F ⟨k,x,o,s,[],d⟩:=
 ⟨h1,a,fun _ h=>(dJ h).elim,(fun i r h=>by rw[hr]at h;cases h),trivial⟩
def lu(h:Nat)(l:List M):Prop:=(h=0->l.length=1)/\(h=1->l.length<=1)
def oL{k:Nat}{s:Int}{h:Nat}{K:Zp}(h1:1<=k/\k<=19)(hr:rl k=[(h,K)])(c:lG F k x)(a:fK F K 0 l)(b:lu h l):GN F ⟨k,x,o,s,l,d⟩:=by
 refine⟨h1,c,fun m hm=>⟨0,(a m hm).1,_,by rw[hr];rfl,(a m hm).2.1⟩,fun i r hi=>?_,uD.2 fun n e=>(a n e).2.2⟩;rw[hr]at hi
 match i,hi with
 |0,hi=>
  cases hi
  rw[a.cS 0,ah rfl];exact b
def Eh{k:Nat}{s:Int}{h h':Nat}{K:Zp}{l':List M}(h1:1<=k/\k<=19)(hr:rl k=[(h,K),(h',K')])(f:lG F k x)(a:fK F K 0 l)(e:fK F K' 1 l')(b:lu h l)(b':lu h' l'):GN F ⟨k,x,o,s,l++l',d⟩:=by
 refine⟨h1,f,fun m hm=>?_,fun i r hi=>?_,uD.2 fun n c=>?_⟩
 .rcases List.mem_append.1 hm with hm|hm
  .exact⟨0,(a m hm).1,_,by rw[hr];rfl,(a m hm).2.1⟩
  .exact⟨1,(e m hm).1,_,by rw[hr];rfl,(e m hm).2.1⟩
 .rw[hr]at hi;rw[Dw,a.cS i,e.cS i]
  match i,hi with
  |0,hi=>cases hi;simpa[lu]using b
  |1,hi=>cases hi;simpa[lu]using b'
 .rcases List.mem_append.1 c with c|c
  .exact(a n c).2.2
  .exact(e n c).2.2
def Iu{k:Nat}{s:Int}{h h' h2:Nat}{K K2:Zp}{l' l2:List M}(h1:1<=k/\k<=19)(hr:rl k=[(h,K),(h',K'),(h2,K2)])(f:lG F k x)(a:fK F K 0 l)(e:fK F K' 1 l')(a2:fK F K2 2 l2)(b:lu h l)(b':lu h' l')(g:lu h2 l2):GN F ⟨k,x,o,s,l++l'++l2,d⟩:=by
 refine⟨h1,f,fun m hm=>?_,fun i r hi=>?_,uD.2 fun n c=>?_⟩
 .rcases List.mem_append.1 hm with hm|hm
  .rcases List.mem_append.1 hm with hm|hm
   .exact⟨0,(a m hm).1,_,by rw[hr];rfl,(a m hm).2.1⟩
   .exact⟨1,(e m hm).1,_,by rw[hr];rfl,(e m hm).2.1⟩
  .exact⟨2,(a2 m hm).1,_,by rw[hr];rfl,(a2 m hm).2.1⟩
 .rw[hr]at hi;rw[Dw,Dw,a.cS i,e.cS i,a2.cS i]
  match i,hi with
  |0,hi=>cases hi;simpa[lu]using b
  |1,hi=>cases hi;simpa[lu]using b'
  |2,hi=>cases hi;simpa[lu]using g
 .rcases List.mem_append.1 c with c|c
  .rcases List.mem_append.1 c with c|c
   .exact(a n c).2.2
   .exact(e n c).2.2
  .exact(a2 n c).2.2
def cg.h0{K:Zp}(h:cg F K s l):lu 0 l:=⟨fun _=>h.1,fun h=>by cases h⟩
def kZ.hOneV{K:Zp}(h:kZ F K s l):lu 1 l:=⟨fun h=>(by cases h),fun _=>h.1⟩
def xS(l:List M):lu 2 l:=⟨fun h=>(by cases h),fun h=>by cases h⟩
theorem cg.slot0{K:Zp}(h:cg F K s l):cg F K 0 (slot0 l):=⟨by simp[Syn.slot0,h.1],fun n a=>by obtain⟨m,hm,rfl⟩:=List.mem_map.1 a;obtain⟨_,h2,h3⟩:=h.2 m hm;exact⟨rfl,h2,by rw[rq]at h3 |-;exact h3⟩⟩
def uG(F:Nat->au->Prop)(s:Nat)(l:List M):Prop:=∃o a b,l=[⟨8,[],o,s,a++b,tt⟩]/\cg F cd 0 a/\cg F [6] 1 b
def uG.fill{m:List M}(h:uG F s l)(k:kZ F [6,8] 2 m):cg F [8] s (give l m):=by obtain⟨o,a,b,rfl,ha,hb⟩:=h;exact cg.mk (k:=8) ao (Iu (k:=8) ⟨by decide,by decide⟩ rfl rfl ha.2 hb.2 k.2 ha.h0 hb.h0 k.hOneV)
theorem uG.one(h:uG F s l):cg F [8] s l:=by
 have h2:=h.fill (kZ.nil (F:=F) [6,8] 2);have:give l []=l:=by obtain⟨o,a,b,rfl,_⟩:=h;simp[Syn.give]
 rwa [this]at h2
end
open Dg
section
variable {F:Nat->au->Prop} {c:aF} {Z:Zs}
def vU(p:Nat)(is:Nat->Bool):(bv c Z (some p) is=some (nx c Z p)/\(bv c Z (some p) fun i=>!is i)=none/\is (nx c Z p)=true)\/(bv c Z (some p) is=none/\(bv c Z (some p) fun i=>!is i)=some (nx c Z p)):=by unfold bv;cases h:is (nx c Z p)<;>simp[Option.filter,h]
theorem sF(is:Nat->Bool):bv c Z none is=none:=rfl
variable{t:Nat}{p:Option Nat}
def oo{s:au}(h:(di Z c p s).1=some t):(di Z c p s).2=[]/\∃j,p=some j:=by
 cases p with
 |none=>cases h
 |some j=>
  refine⟨?_,j,rfl⟩;unfold di at h |-;simp only[df]at h |-;split at h
  .rename_i a;rw[ah a]
  .cases h
variable{s:Nat}
def x9(b:∀i,K Z i=1->F 1 (X Z i)){kd:Nat}(h:(bX Z c p kd s).p=some t):(bX Z c p kd s).e=[]/\∃i,p.map (nx c Z)=some i/\(bX Z c p kd s).l=[⟨kd,X Z i,(i:Int),s,[],tt⟩]/\F 1 (X Z i)/\fI (X Z i)=false:=by
 unfold bX at h |-;cases hp:p.map (nx c Z)with
 |none=>rw[hp]at h;cases h
 |some i=>
  rw[hp]at h;simp only at h |-;split at h
  .cases h
  .rename_i a;rw[ab a];simp only[not_or,Decidable.not_not,Bool.not_eq_true]at a;exact⟨rfl,i,rfl,rfl,b i a.1,a.2⟩
def Cn(h:(fQ Z c p s).p=some t):(fQ Z c p s).e=[]/\cg F [5] s (fQ Z c p s).l:=by
 unfold fQ at h |-;cases hp:p.map (nx c Z)with
 |none=>rw[hp]at h;cases h
 |some i=>
  rw[hp]at h;simp only at h |-;split at h
  .cases h
  .rename_i a;rw[ab a];refine⟨rfl,cg.mk ao (xN ⟨by decide,by decide⟩ rfl ?_)⟩;show X Z i=om\/X Z i=oj;by_cases h1:X Z i=om
   .exact .inl h1
   .by_cases h2:X Z i=oj
    .exact .inr h2
    .exact absurd ⟨h1,h2⟩ a
def Mx(h:(fQ Z c p s).p=some t):∃j,p=some j:=by
 cases p with
 |none=>cases h
 |some j=>exact⟨j,rfl⟩
def Gc(F:Nat->au->Prop)(Z:Zs):hQ->List M->Prop
 | .line _ _ _ s,q=>cg F cd s q
 | .lineL _ _ s _ l _ _,q=>cg F cd s l->cg F cd s q
 | .lineO _ _ s _ l _,q=>cg F cd s l->cg F cd s q
 | .unary _ _ s,q=>cg F cd s q
 | .unaryH _ _ s,q=>cg F cd s q
 | .calls _ j s _ names _,q=>cg F cd s names->(∀i,j=some i->F 1 (X Z i)/\fI (X Z i)=false)->cg F cd s q
 | .inside _ _ s,q=>cg F cd s q
 | .listed par _ _,q=>fK F (if par then [4]else cd) 0 q
 | .listL par _ l _ _,q=>fK F (if par then [4]else cd) 0 l->fK F (if par then [4]else cd) 0 q
 | .item par _ _,q=>cg F (if par then [4]else cd) 0 q
 | .behind typ _ _ _ s,q=>kZ F (if typ then [5]else cd) s q
 | .vrb _ _,q=>cg F [2] 0 q
 | .function _ _,q=>cg F [3] 0 q
 | .block _ _ s,q=>cg F [6] s q
 | .seqL top _ _ l _,q=>fK F (if top then [2,3]else dS) 0 l->fK F (if top then [2,3]else dS) 0 q
 | .stmt _ _,q=>cg F dS 0 q
 | .sCalls _ j x l _,q=>(x=none->cg F dS 0 l)->(∀i,j=some i->F 1 (X Z i)/\fI (X Z i)=false)->cg F dS 0 q
 | .branch _ _ s,q=>cg F [8] s q
 | .elses _ _ l _,q=>∀s,uG F s l->cg F [8] s q
 | .ifs _ y l _,q=>∀s,(y≠none->uG F s l)->(y=none->cg F [8] s l)->cg F [8] s q
def Wg(c:aF)(Z:Zs):hQ->Prop
 | .line k _ _ _=>k<=5
 | .lineL k _ _ _ _ g out=>k<=4/\(g=none\/out=none)
 | .lineO k _ _ op _ g=>k<=4/\(op=none\/g=none)/\∀i,op=some i->fV (X Z i)=k
 | .unaryH _ j _=>∀i,j=some i->nx c Z i=i
 | .stmt _ j=>∀i,j=some i->nx c Z i=i
 | .calls _ _ _ x _ g=>x=none\/g=none
 | .behind _ _ p sign _=>sign≠[]
 | .sCalls _ j x _ _=>x≠none->j≠none
 | .ifs _ y _ out=>y=none\/out=none
 |_=>True
variable{q:PR}{l:List M}{n o:Nat}
def JV{k slot:Nat}{f:Bool}{out:Option Nat}(h:dF c Z n (.lineL k o slot f l none out)=some q):q=⟨l,out,[]⟩:=by
 cases n with
 |zero=>cases h
 |succ n=>exact(cX h).symm
variable{g j:Option Nat}
def OL{slot:Nat}(h:dF c Z n (.calls o j slot none l g)=some q):q=⟨l,g,[]⟩:=by
 cases n with
 |zero=>cases h
 |succ n=>cases j<;>exact(cX h).symm
def Lk(h:dF c Z n (.sCalls o j none l g)=some q):q=⟨l,g,[]⟩:=by
 cases n with
 |zero=>cases h
 |succ n=>cases j<;>exact(cX h).symm
variable{par:Bool}
def UD(h:dF c Z n (.listL par o l none g)=some q):q=⟨l,g,[]⟩:=by
 cases n with
 |zero=>cases h
 |succ n=>exact(cX h).symm
def Sq(h:dF c Z n (.ifs o none l g)=some q):q=⟨l,g,[]⟩:=by
 cases n with
 |zero=>cases h
 |succ n=>exact(cX h).symm
def JX{k:Nat}(h:dF c Z n (.line k o p s)=some q)(hp:q.p=some t):∃j,p=some j:=by
 cases p with
 |none=>rw[PV.noneLine ⟨n,h⟩]at hp;cases hp
 |some j=>exact⟨j,rfl⟩
def Dt(h:dF c Z n (.block o p s)=some q)(hp:q.p=some t):∃j,p=some j:=by
 cases p with
 |none=>rw[PV.noneBlock ⟨n,h⟩]at hp;cases hp
 |some j=>exact⟨j,rfl⟩
def SL(h:dF c Z n (.inside o p s)=some q)(hp:q.p=some t):∃j,p=some j:=by
 cases p with
 |none=>rw[PV.noneInside ⟨n,h⟩]at hp;cases hp
 |some j=>exact⟨j,rfl⟩
def UH(h:dF c Z n (.listed par o p)=some q)(hp:q.p=some t):∃j,p=some j:=by
 cases p with
 |none=>rw[PV.noneListed ⟨n,h⟩]at hp;cases hp
 |some j=>exact⟨j,rfl⟩
def Hl{typ:Bool}{x:au}(h:dF c Z n (.behind typ o p x s)=some q)(hp:q.p=some t):∃j,p=some j:=by
 cases p with
 |none=>rw[PV.noneBehind ⟨n,h⟩]at hp;cases hp
 |some j=>exact⟨j,rfl⟩
def Qp(H:∀i,K Z i=1->F 1 (X Z i))(am:∀i,K Z i=2->F 2 (X Z i))(R:∀x q,dF c Z n x=some q->Wg c Z x->∀t,q.p=some t->q.e=[]/\Gc F Z x q.l):
  ∀x q,aB c Z (dF c Z n) x=some q->Wg c Z x->∀t,q.p=some t->q.e=[]/\Gc F Z x q.l:=by
 intro x q e w t hp;have z:∀{a b:List (Nat×Int)},a=[]->b=[]->a++b=[]:=fun h k=>by rw[h,k];rfl
 cases x with
 |line k o p slot=>
  have w:k<=5:=w;simp only[aB,mZ]at e;split at e
  .exact(R _ _ e trivial t hp :)
  .obtain⟨a,ha,e⟩:=aG e;obtain⟨b,hb,e⟩:=aG e;cases e
   have Q:k<=4:=O;cases m:a.p with
   |none=>rw[m]at hb;rw[JV hb]at hp;cases hp
   |some j=>obtain⟨e1,h1⟩:=R _ _ ha (show k+1<=5 by omega) j m;obtain⟨e2,h3⟩:=R _ _ hb ⟨Q,.inr rfl⟩ t hp;exact⟨z e1 e2,h3 h1⟩
 |lineL k o slot first l g out=>
  simp only[aB,o5]at e;obtain⟨Q,w⟩:=w;cases g with
  |none=>cases e;exact⟨rfl,fun r=>r⟩
  |some p=>
   simp only at e;split at e
   .cases e;exact⟨rfl,fun r=>r⟩
   .obtain⟨a,ha,e⟩:=aG e;obtain⟨b,hb,e⟩:=aG e;cases e
    rcases vU (c:=c) (Z:=Z) p (kM Z k)with ⟨h1,h2,h3⟩|⟨h1,h2⟩
    .rw[h1]at ha;rw[h2]at hb;cases m:a.p with
     |none=>rw[m]at hb;rw[JV hb]at hp;cases hp
     |some j=>
      obtain⟨e1,g1⟩:=R _ _ ha ⟨Q,.inr rfl,fun i hi=>by
       cases hi
       simp only[kM,cZ,dE]at h3;exact h3.2⟩ j m
      obtain⟨e2,g2⟩:=R _ _ hb ⟨Q,.inr rfl⟩ t hp;exact⟨z e1 e2,fun r=>g2 (g1 r)⟩
    .rw[h1]at ha;rw[h2]at hb;have ea:a=⟨l,none,[]⟩:=by
      cases n with
      |zero=>cases ha
      |succ n=>exact(cX ha).symm
     subst ea;exact(R _ _ hb ⟨Q,.inl rfl⟩ t hp :)
 |lineO k o slot op l g=>
  simp only[aB,sG]at e;obtain⟨Q,_,w⟩:=w;cases op with
  |none=>cases e;exact⟨rfl,fun r=>r⟩
  |some i=>
   obtain⟨a,ha,e⟩:=aG e;cases e
   obtain⟨e1,h1⟩:=R _ _ ha (show k+1<=5 by omega) t hp;have h1:cg F cd 1 a.l:=h1;have B:fV (X Z i)≠9:=by rw[w i rfl];omega
   exact⟨e1,fun r=>cg.mk (k:=13) (by simp[cd]) (Eh (k:=13) ⟨by decide,by decide⟩ rfl B r.slot0.2 h1.2 r.slot0.h0 h1.h0)⟩
 |unary o p slot=>
  have e:dF c Z n (.unaryH o (p.map (nx c Z)) slot)=some q:=e;exact(R _ _ e (fun i hi=>by
   cases p with
   |none=>cases hi
   |some p=>cases hi;exact oW c Z p) t hp :)
 |unaryH o j slot=>
  simp only[aB,kh]at e;cases j with
  |none=>cases e;cases hp
  |some j=>
   have w:nx c Z j=j:=w j rfl;simp only at e;split at e
   .rename_i B;split at e
    .cases e;cases hp
    .obtain⟨a,ha,e⟩:=aG e;cases e
     obtain⟨e1,h1⟩:=R _ _ ha trivial t hp;have h1:cg F cd 0 a.l:=h1;exact⟨e1,cg.mk (k:=14) (by simp[cd]) (oL (k:=14) ⟨by decide,by decide⟩ rfl B h1.2 h1.h0)⟩
   .split at e
    .exact(R _ _ e trivial t hp :)
    .split at e
     .rename_i hk;cases e;exact⟨rfl,cg.mk (k:=15) (by simp[cd]) (xN (k:=15) ⟨by decide,by decide⟩ rfl (am j hk))⟩
     .split at e
      .rename_i B;cases e;exact⟨rfl,cg.mk (k:=16) (by simp[cd]) (xN (k:=16) ⟨by decide,by decide⟩ rfl B)⟩
      .split at e
       .cases e;exact⟨rfl,cg.mk (k:=17) (by simp[cd]) (xN (k:=17) ⟨by decide,by decide⟩ rfl rfl)⟩
       .obtain⟨b,hb,e⟩:=aG e;cases e
        cases m:(bX Z c (some j) 18 slot).p with
        |none=>rw[m]at hb;rw[sF,sF]at hb;rw[OL hb]at hp;cases hp
        |some u=>
         obtain⟨e1,i,hi,r,h1,h2⟩:=x9 (F:=F) H m;obtain rfl:j=i:=by simp only[df,bf]at hi;rw[<-hi,w]
         have ho:cg F cd slot (bX Z c (some j) 18 slot).l:=by rw[r];exact cg.mk (k:=18) (by simp[cd]) (xN (k:=18) ⟨by decide,by decide⟩ rfl ⟨h1,h2⟩)
         have hw:Wg c Z (.calls o (some j) slot (bv c Z (bX Z c (some j) 18 slot).p (be Z cq)) (bX Z c (some j) 18 slot).l (bv c Z (bX Z c (some j) 18 slot).p fun i=>!be Z cq i)):=?_;obtain⟨e2,g2⟩:=R _ _ hb hw t hp;exact⟨z e1 e2,g2 ho fun i hi=>by cases hi;exact⟨h1,h2⟩⟩;rw[m];rcases vU (c:=c) (Z:=Z) u (be Z cq)with ⟨_,h,_⟩|⟨h,_⟩
         .exact .inr h
         .exact .inl h
 |calls o j slot x names g=>
  simp only[aB,oZ]at e;cases j with
  |none=>cases e;exact⟨rfl,fun hn _=>hn⟩
  |some j=>
   cases x with
   |none=>cases e;exact⟨rfl,fun hn _=>hn⟩
   |some k=>
    obtain⟨a,ha,e⟩:=aG e;cases e
    obtain⟨e1,h1⟩:=R _ _ ha trivial t hp;exact⟨e1,fun _ hi=>cg.mk (k:=19) (by simp[cd]) (oL (k:=19) ⟨by decide,by decide⟩ rfl (hi j rfl) h1 (xS _))⟩
 |inside o p slot=>
  simp only[aB,nW]at e;cases hm:p.map (nx c Z)with
  |none=>rw[hm]at e;cases e;cases hp
  |some i=>
   rw[hm]at e;simp only at e;split at e
   .cases e;cases hp
   .split at e
    .cases e;cases hp
    .obtain⟨a,ha,e⟩:=aG e;cases e
     obtain⟨e2,j,J⟩:=oo hp;obtain⟨e1,h1⟩:=R _ _ ha (aE _) j J;exact⟨z e1 e2,h1⟩
 |listed par o p=>
  simp only[aB,nX]at e;cases hm:p.map (nx c Z)with
  |none=>rw[hm]at e;cases e;cases hp
  |some i=>
   rw[hm]at e;simp only at e;split at e
   .cases e;cases hp
   .split at e
    .cases e;cases hp
    .obtain⟨a,ha,e⟩:=aG e;cases e
     obtain⟨e2,j,J⟩:=oo hp;obtain⟨e1,h1⟩:=R _ _ ha trivial j J;exact⟨z e1 e2,h1 (fK.nil _ _)⟩
 |listL par o l g fin=>
  simp only[aB,sH]at e;cases g with
  |none=>cases e;exact⟨rfl,fun r=>r⟩
  |some p=>
   obtain⟨a,ha,e⟩:=aG e;obtain⟨b,hb,e⟩:=aG e;cases e
   cases m:a.p with
   |none=>rw[m]at hb;rw[sF,sF]at hb;rw[UD hb]at hp;cases hp
   |some j=>obtain⟨e1,h1⟩:=R _ _ ha trivial j m;have h1:cg F (if par then [4]else cd) 0 a.l:=h1;obtain⟨e2,h3⟩:=R _ _ hb trivial t hp;exact⟨z e1 e2,fun r=>h3 (r.app h1.2)⟩
 |item par o p=>
  simp only[aB,o4]at e;cases par with
  |true=>
   simp only[cu]at e;cases e
   obtain⟨N,ty⟩:=Cn (F:=F) hp;obtain⟨j,J⟩:=Mx hp;obtain⟨e2,u,G⟩:=oo J;obtain⟨e1,i,_,r,h1,h2⟩:=x9 (F:=F) H G;refine⟨z (z e1 e2) N,?_⟩;show cg F [4] 0 (give _ _);rw[r];exact cg.mk (k:=4) ao (oL (k:=4) ⟨by decide,by decide⟩ rfl ⟨h1,h2⟩ ty.2 ty.h0)
  |false=>simp only[dO,dG]at e;exact(R _ _ e (aE _) t hp :)
 |behind typ o p sign slot=>
  simp only[aB,oY]at e;obtain⟨a,ha,e⟩:=aG e;cases e
  have A:∀{a:PR},mY c Z (dF c Z n) typ o none slot=some a->a=triv:=by
   intro a ha;unfold mY at ha;cases typ with
   |true=>simp only[cu]at ha;cases ha;rfl
   |false=>simp only[dO,dG]at ha;exact PV.noneLine ⟨n,ha⟩
  cases p with
  |none=>rw[sF]at ha;rw[A ha]at hp;cases hp
  |some s=>
   rcases vU (c:=c) (Z:=Z) s (be Z sign)with ⟨h1,h2,_⟩|⟨h1,h2⟩
   .rw[h1]at ha;rw[h2]at hp;simp only[Option.none_or]at hp;unfold mY at ha;cases typ with
    |true=>
     simp only[cu]at ha;cases ha
     exact⟨(Cn (F:=F) hp).1,(Cn hp).2.opt⟩
    |false=>simp only[dO,dG]at ha;obtain⟨e1,h1⟩:=R _ _ ha (aE _) t hp;have h1:cg F cd slot a.l:=h1;exact⟨e1,h1.opt⟩
   .rw[h1]at ha;refine⟨by show a.e=[];rw[A ha];rfl,?_⟩;show kZ F _ slot a.l;rw[A ha];exact kZ.nil _ _
 |vrb o p=>
  simp only[aB,qM]at e;obtain⟨d,hd,e⟩:=aG e;cases e
  obtain⟨e5,j,J⟩:=oo hp;obtain⟨v,hv⟩:=Hl hd J;obtain⟨N,ty⟩:=Cn (F:=F) hv;obtain⟨u,G⟩:=Mx hv;obtain⟨e2,u,G⟩:=oo G;obtain⟨e1,i,_,r,h1,h2⟩:=x9 (F:=F) H G;obtain⟨V,h3⟩:=R _ _ hd (by show iC≠[];decide) j J;have h3:kZ F cd 1 d.l:=h3;refine⟨z (z (z (z e1 e2) N) V) e5,?_⟩;show cg F [2] 0 (give (give _ _) _);rw[r];exact cg.mk (k:=2) ao (Eh (k:=2) ⟨by decide,by decide⟩ rfl ⟨h1,h2⟩ ty.2 h3.2 ty.h0 h3.hOneV)
 |function o p=>
  simp only[aB,qK]at e;obtain⟨b,hb,e⟩:=aG e;obtain⟨d,hd,e⟩:=aG e;obtain⟨f,hf,e⟩:=aG e;cases e
  obtain⟨j3,S⟩:=Dt hf hp;obtain⟨j2,T⟩:=Hl hd S;obtain⟨j1,aa⟩:=UH hb T;obtain⟨e1,i,_,r,h1,L⟩:=x9 (F:=F) H aa;obtain⟨e2,g1⟩:=R _ _ hb trivial j2 T;obtain⟨N,g2⟩:=R _ _ hd (by show dA≠[];decide) j3 S;obtain⟨V,W⟩:=R _ _ hf trivial t hp;have g1:fK F [4] 0 b.l:=g1;have g2:kZ F [5] 1 d.l:=g2;have W:cg F [6] 2 f.l:=W;refine⟨z (z (z e1 e2) N) V,?_⟩;show cg F [3] 0 (give (give (give _ _) _) _);rw[r];exact cg.mk (k:=3) ao (Iu (k:=3) ⟨by decide,by decide⟩ rfl ⟨h1,L⟩ g1 g2.2 W.2 (xS _) g2.hOneV W.h0)
 |block o p slot=>
  simp only[aB,nU]at e;cases hm:p.map (nx c Z)with
  |none=>rw[hm]at e;cases e;cases hp
  |some i=>
   rw[hm]at e;simp only at e;split at e
   .cases e;cases hp
   .split at e
    .cases e;cases hp
    .obtain⟨a,ha,e⟩:=aG e;cases e
     obtain⟨e2,j,J⟩:=oo hp;obtain⟨e1,h1⟩:=R _ _ ha trivial j J;have h1:fK F dS 0 a.l:=h1 (fK.nil _ _);exact⟨z e1 e2,cg.mk (k:=6) ao (oL (k:=6) ⟨by decide,by decide⟩ rfl rfl h1 (xS _))⟩
 |seqL top o p l out=>
  simp only[aB,o7]at e;cases hm:p.map (nx c Z)with
  |none=>rw[hm]at e;cases e;exact⟨rfl,fun r=>r⟩
  |some i=>
   rw[hm]at e;simp only at e;split at e
   .cases e;exact⟨rfl,fun r=>r⟩
   .obtain⟨a,ha,e⟩:=aG e;obtain⟨b,hb,e⟩:=aG e;cases e
    cases m:a.p with
    |none=>rw[m]at hb;rw[PV.noneSeq ⟨n,hb⟩]at hp;cases hp
    |some j=>
     have h1:a.e=[]/\fK F (if top then [2,3]else dS) 0 a.l:=by
      unfold lz at ha;cases top with
      |false=>
       simp only[dO,dG]at ha;have:=(R _ _ ha (fun i' ac=>by
        cases ac
        cases p with
        |none=>cases hm
        |some p=>cases hm;exact oW c Z p) j m :)
       exact⟨this.1,this.2.2⟩
      |true=>
       simp only[cu]at ha;unfold nY at ha;split at ha
       .obtain⟨e1,this⟩:=R _ _ ha trivial j m;have:cg F [2] 0 a.l:=this;exact⟨e1,(this.mono (K':=[2,3]) ao).2⟩
       .split at ha
        .obtain⟨e1,this⟩:=R _ _ ha trivial j m;have:cg F [3] 0 a.l:=this;exact⟨e1,(this.mono (K':=[2,3]) ao).2⟩
        .cases ha;cases m
     obtain⟨e2,h3⟩:=R _ _ hb trivial t hp;exact⟨z h1.1 e2,fun r=>h3 (r.app h1.2)⟩
 |stmt o j=>
  simp only[aB,kP]at e;cases j with
  |none=>cases e;cases hp
  |some j=>
   have w:nx c Z j=j:=w j rfl;simp only at e;split at e
   .obtain⟨e1,this⟩:=R _ _ e trivial t hp;have:cg F [2] 0 q.l:=this;exact⟨e1,this.mono (by simp[dS])⟩
   .split at e
    .obtain⟨e1,this⟩:=R _ _ e trivial t hp;have:cg F [8] 0 q.l:=this;exact⟨e1,this.mono (by simp[dS])⟩
    .split at e
     .obtain⟨a,ha,e⟩:=aG e;obtain⟨b,hb,e⟩:=aG e;cases e
      obtain⟨u,G⟩:=Dt hb hp;obtain⟨e1,h1⟩:=R _ _ ha trivial u G;obtain⟨e2,h3⟩:=R _ _ hb trivial t hp;have h1:cg F cd 0 a.l:=h1;have h3:cg F [6] 1 b.l:=h3;exact⟨z e1 e2,cg.mk (k:=9) (by simp[dS]) (Eh (k:=9) ⟨by decide,by decide⟩ rfl rfl h1.2 h3.2 h1.h0 h3.h0)⟩
     .split at e
      .obtain⟨e1,this⟩:=R _ _ e trivial t hp;have:cg F [6] 0 q.l:=this;exact⟨e1,this.mono (by simp[dS])⟩
      .split at e
       .obtain⟨a,ha,e⟩:=aG e;cases e
        have h1:a.e=[]/\kZ F cd 0 a.l:=by
         rcases vU (c:=c) (Z:=Z) (j+1) (be Z bT)with ⟨I,P,_⟩|⟨I,P⟩
         .rw[P]at ha;rw[PV.noneLine ⟨n,ha⟩];exact⟨rfl,kZ.nil _ _⟩
         .rw[I,Option.or_none]at hp;obtain⟨_,u,G⟩:=oo hp;obtain⟨e1,this⟩:=R _ _ ha (aE _) u G;have:cg F cd 0 a.l:=this;exact⟨e1,this.opt⟩
        exact⟨z h1.1 (oo hp).1,cg.mk (k:=10) (by simp[dS]) (oL (k:=10) ⟨by decide,by decide⟩ rfl rfl h1.2.2 h1.2.hOneV)⟩
       .split at e
        .obtain⟨a,ha,e⟩:=aG e;cases e
         obtain⟨e2,u,G⟩:=oo hp;obtain⟨e1,h1⟩:=R _ _ ha (aE _) u G;have h1:cg F cd 0 a.l:=h1;refine⟨z e1 e2,?_⟩;by_cases B:X Z j=jP
         .simp only[B,cu];exact cg.mk (k:=12) (by simp[dS]) (oL (k:=12) ⟨by decide,by decide⟩ rfl rfl h1.2 h1.h0)
         .simp only[B,dG];exact cg.mk (k:=11) (by simp[dS]) (oL (k:=11) ⟨by decide,by decide⟩ rfl rfl h1.2 h1.h0)
        .obtain⟨b,hb,e⟩:=aG e;obtain⟨d,hd,e⟩:=aG e;cases e
         obtain⟨e5,v,hv⟩:=oo hp;cases m:(bX Z c (some j) 7 0).p with
         |none=>rw[m]at hb hd;rw[sF]at hb hd;rw[Lk hd]at hv;obtain⟨_,h⟩:=JX hb hv;cases h
         |some u=>
          obtain⟨e1,i,hi,r,h1,L⟩:=x9 (F:=F) H m;obtain rfl:j=i:=by simp only[df,bf]at hi;rw[<-hi,w]
          obtain⟨V,g⟩:=R _ _ hd (fun _ h=>by cases h) v hv;have U:(di Z c (bv c Z (some u) fun i=>!be Z cq i) iC).2=[]/\b.e=[]/\(bv c Z (some u) (be Z cq)=none->cg F cd 0 b.l):=by
           rcases vU (c:=c) (Z:=Z) u (be Z cq)with ⟨I,P,_⟩|⟨I,P⟩
           .rw[m]at hb;rw[P]at hb |-;rw[PV.noneLine ⟨n,hb⟩];exact⟨rfl,rfl,fun h=>by rw[I]at h;cases h⟩
           .rw[m,I]at hd;have C:b.p=some v:=by rw[Lk hd]at hv;exact hv
            obtain⟨N,h3⟩:=R _ _ hb (aE _) v C;rw[m]at hb;obtain⟨x,B⟩:=JX hb C;exact⟨(oo B).1,N,fun _=>h3⟩
          refine⟨z (z (z (z e1 U.1) U.2.1) V) e5,g (fun B=>?_) fun i hi=>by cases hi;exact⟨h1,L⟩⟩;have h3:=U.2.2 (by rw[<-m];exact B);rw[r];exact cg.mk (k:=7) (by simp[dS]) (oL (k:=7) ⟨by decide,by decide⟩ rfl ⟨h1,L⟩ h3.2 h3.h0)
 |sCalls o j x l g=>
  simp only[aB,o6]at e;cases j with
  |none=>
   cases e
   refine⟨rfl,fun h1 _=>h1 ?_⟩;cases x with
   |none=>rfl
   |some x=>exact absurd rfl (w ao)
  |some j=>
   cases x with
   |none=>cases e;exact⟨rfl,fun h1 _=>h1 rfl⟩
   |some k=>
    obtain⟨a,ha,e⟩:=aG e;cases e
    obtain⟨e1,h4⟩:=R _ _ ha trivial t hp;exact⟨e1,fun _ h3=>cg.mk (k:=19) (by simp[dS]) (oL (k:=19) ⟨by decide,by decide⟩ rfl (h3 j rfl) h4 (xS _))⟩
 |branch o j slot=>
  simp only[aB,qH]at e;obtain⟨a,ha,e⟩:=aG e;obtain⟨b,hb,e⟩:=aG e;obtain⟨d,hd,e⟩:=aG e;cases e
  cases C:b.p with
  |none=>rw[C]at hd;rw[sF,sF]at hd;rw[PV.noneElses ⟨n,hd⟩]at hp;cases hp
  |some u=>
   obtain⟨v,hv⟩:=Dt hb C;obtain⟨x,B⟩:=SL ha hv;cases j with
   |none=>cases B
   |some j=>obtain⟨e1,h1⟩:=R _ _ ha trivial v hv;obtain⟨e2,h3⟩:=R _ _ hb trivial u C;obtain⟨N,h4⟩:=R _ _ hd trivial t hp;exact⟨z (z e1 e2) N,h4 slot ⟨j,a.l,b.l,rfl,h1,h3⟩⟩
 |elses o x l out=>
  simp only[aB,qJ]at e;cases x with
  |none=>cases e;exact⟨rfl,fun s r=>r.one⟩
  |some j=>
   obtain⟨a,ha,e⟩:=aG e;obtain⟨b,hb,e⟩:=aG e;cases e
   rcases vU (c:=c) (Z:=Z) (j+1) (be Z eN)with ⟨I,P,_⟩|⟨I,P⟩
   .rw[P]at ha;rw[I]at hb;have ea:=PV.noneBlock ⟨n,ha⟩;subst ea;obtain⟨e2,h3⟩:=R _ _ hb (.inr rfl) t hp;refine⟨e2,fun s r=>h3 s (fun _=>?_) (fun h=>by cases h)⟩;obtain⟨o,a,b,rfl,h1,h3⟩:=r;exact⟨o,a,b,by simp[give,triv],h1,h3⟩
   .rw[I]at hb;have U:=Sq hb;subst U;obtain⟨e1,h1⟩:=R _ _ ha trivial t hp;have h1:cg F [6] 2 a.l:=h1;exact⟨z e1 rfl,fun s r=>r.fill (h1.mono ao).opt⟩
 |ifs o y l out=>
  simp only[aB,qL]at e;cases y with
  |none=>cases e;exact⟨rfl,fun s _ h3=>h3 rfl⟩
  |some j=>
   simp only at e;split at e
   .cases e
    rw[w.resolve_left ao]at hp;cases hp
   .obtain⟨a,ha,e⟩:=aG e;cases e
    obtain⟨e1,h4⟩:=R _ _ ha trivial t hp;have h4:cg F [8] 2 a.l:=h4;exact⟨e1,fun s h1 _=>(h1 ao).fill (h4.mono ao).opt⟩
def Il(b:∀i,K Z i=1->F 1 (X Z i))(a:∀i,K Z i=2->F 2 (X Z i)):∀n x q,dF c Z n x=some q->Wg c Z x->∀t,q.p=some t->q.e=[]/\Gc F Z x q.l
 |0,_,_,h,_,_,_=>by cases h
 |n+1,x,q,h,w,t,hp=>Qp b a (Il b a n) x q h w t hp
end
open Dg
mutual
def xI:M->Prop
 |⟨_,_,_,_,ks,d⟩=>d=tt/\lX ks
def lX:List M->Prop
 | []=>True
 |n::l=>xI n/\lX l
end
def PQ(n:M):xI n=(n.cond=tt/\lX n.kids):=by cases n;simp only[xI]
def u9:∀{l:List M},lX l->∀n∈l,n.cond=tt/\lX n.kids
 |m::l,h,n,a=>by
  unfold lX at h;rcases List.mem_cons.1 a with rfl|a
  .rw[<-PQ];exact h.1
  .exact u9 h.2 n a
mutual
theorem PT(c:aF):∀(n m:M),pN c n=some m->xI m
 |⟨k,t,o,s,ks,d⟩,m,h=>by
  unfold pN at h
  split at h
  .cases h
   unfold xI
   exact⟨rfl,Ar c ks⟩
  .cases h
theorem Ar (c:aF):∀l:List M,lX (pL c l)
 | []=>by unfold pL lX;trivial
 |n::l=>by
  unfold pL
  cases h:pN c n with
  |none=>exact Ar c l
  |some m=>simp only;unfold lX;exact⟨PT c n m h,Ar c l⟩
end
def Gd{n:M}:∀{l:List M},n∈l->n.tok∈dy l
 |m::l,h=>by
  rw[kU];rcases List.mem_cons.1 h with rfl|h
  .exact .head _
  .exact .tail _ (gD _ (Gd h))
def Mp:∀{l:List M},(dy l).Nodup->l.Pairwise fun a b=>a.key≠b.key
 | [],_=>List.Pairwise.nil
 |n::l,h=>by rw[kU,List.nodup_cons]at h;refine List.pairwise_cons.2 ⟨fun b hb e=>h.1 ?_,Mp (List.nodup_append.1 h.2).2.1⟩;have:n.tok=b.tok:=congrArg eQ.tok e;rw[this];exact gD _ (Gd hb)
def Gb{n:M}:∀{l:List M},(dy l).Nodup->n∈l->(dy n.kids).Nodup
 |m::l,h,a=>by
  rw[kU,List.nodup_cons]at h;rcases List.mem_cons.1 a with rfl|a
  .exact(List.nodup_append.1 h.2).1
  .exact Gb (List.nodup_append.1 h.2).2.1 a
def Kg{n:M}:∀{l:List M},l.Pairwise (fun a b=>a.key≠b.key)->(∀m∈l,m.cond=tt)->n∈l->l.filter (dI n.key)=[n]
 |m::l,h,ht,c=>by
  rw[mz]at h;have hm:m.cond≠ff:=by rw[ht m (.head _)];decide
  rcases List.mem_cons.1 c with rfl|c
  .rw[ip,ah (by simp[dI,hm])];congr 1;exact List.filter_eq_nil_iff.2 fun b hb=>by simp only[dI,cZ,dE,not_and];exact fun e=>absurd e.symm (h.1 b hb)
  .rw[ip,ab (by simp only[dI,cZ,dE,not_and];exact fun e=>absurd e (h.1 n c))]
   exact Kg h.2 (fun m hm=>ht m (.tail _ hm)) c
def E0(d:Nat)(n:M):M:={ n with kids:=cR d n.kids }
variable{l:List M}
def x6{d:Nat}(h:(dy l).Nodup)(ht:∀m∈l,m.cond=tt):(cR (d+1) l).Perm (l.map (E0 d)):=by
 have f:=Mp h;have b:(ks l).Nodup:=EQ l;have a:(l.map M.key).Nodup:=List.pairwise_map.2 f;have hp:(ks l).Perm (l.map M.key):=(List.perm_ext_iff_of_nodup b a).2 fun k=>by
  rw[tV,my];constructor
  .rintro⟨n,h1,h2,_⟩;exact⟨n,h1,h2⟩
  .rintro⟨n,h1,h2⟩;exact⟨n,h1,h2,by rw[ht n h1];decide⟩
 have hm:=hp.map fun k=>(⟨k.kind,k.text,k.tok,k.slot,cR d (eC l k),iI l k⟩:M);rw[pF]at hm;refine hm.trans (List.Perm.of_eq (nu fun n c=>?_));have e:=Kg f ht c;have e1:eC l n.key=n.kids:=by unfold eC;rw[e];simp
 have e2:iI l n.key=n.cond:=by unfold iI;rw[e];simp only[g7,List.foldl_nil];rw[ht n c];rfl
 show (⟨n.kind,n.text,n.tok,n.slot,cR d (eC l n.key),iI l n.key⟩:M)=_;rw[e1,e2];rfl
def OJ{d:Nat}(h:(dy l).Nodup)(ht:∀m∈l,m.cond=tt)(s:Int):cS s (cR (d+1) l)=cS s l:=by unfold cS;rw[(x6 h ht).countP_eq,List.countP_map];rfl
def Gz{F:Nat->au->Prop}:∀(d:Nat) {l:List M},cJ l<=d->(dy l).Nodup->lX l->GA F l->GA F (cR d l)
 |0,l,hd,_,_,_=>trivial
 |d+1,l,hd,h,j,o=>uD.2 fun m hm=>by
  have ht:∀m∈l,m.cond=tt:=fun m hm=>(u9 j m hm).1;obtain⟨n,f,rfl⟩:=List.mem_map.1 ((x6 h ht).mem_iff.1 hm);obtain⟨g1,g2,s,q,p⟩:=(rq n).1 (uD.1 o n f);have c:cJ n.kids<=d:=by have:=r0 f;rw[qe]at this;omega
  have b:=(u9 j n f).2;have a:∀m∈n.kids,m.cond=tt:=fun m hm=>(u9 b m hm).1;have g:=Gb h f;refine(rq _).2 ⟨g1,g2,?_,?_,Gz d c g b p⟩
  .intro m hm;have hm:m∈cR d n.kids:=hm;cases d with
   |zero=>exact(dJ hm).elim
   |succ d=>obtain⟨x,k,rfl⟩:=List.mem_map.1 ((x6 g a).mem_iff.1 hm);exact s x k
  .intro i r hr;show (r.1=0->cS i (cR d n.kids)=1)/\(r.1=1->cS i (cR d n.kids)<=1);have e:cS i (cR d n.kids)=cS i n.kids:=by
    cases d with
    |zero=>rw[ER (Nat.le_zero.1 c)];rfl
    |succ d=>exact OJ g a i
   rw[e];exact q i r hr
def XZ{a b:List M}(h:a.Perm b):(dy a).Perm (dy b):=by
 induction h with
 |nil=>exact .refl _
 |cons x _ c=>rw[kU,kU];exact(c.append_left _).cons _
 |swap x y l=>have e:∀(x:M) (l:List M),dy (x::l)=Mo x++dy l:=fun x l=>rfl;rw[e,e,e,e,<-cD,<-cD];exact List.perm_append_comm.append_right _
 |trans _ _ h1 h2=>exact h1.trans h2
def Mq:∀(d:Nat) {l:List M},cJ l<=d->(dy l).Nodup->lX l->(dy (cR d l)).Perm (dy l)
 |0,l,hd,_,_=>by rw[ER (Nat.le_zero.1 hd)];exact .refl _
 |d+1,l,hd,h,c=>by
  have ht:∀m∈l,m.cond=tt:=fun m hm=>(u9 c m hm).1;refine(XZ (x6 h ht)).trans ?_;have key:∀m:List M,(∀n∈m,(dy (cR d n.kids)).Perm (dy n.kids))->(dy (m.map (E0 d))).Perm (dy m):=by
   intro m
   induction m with
   |nil=>intro _;exact .refl _
   |cons n m e=>intro b;rw[iq,kU,kU];exact((b n (.head _)).append (e fun n a=>b n (.tail _ a))).cons _
  exact key l fun n a=>Mq d (by have:=r0 a;rw[qe]at this;omega) (Gb h a) (u9 c n a).2
def KC:∀(t:Nat) (l:List Int),l.Nodup->(∀x∈l,0<=x/\x<(t:Int))->l.length<=t
 |0,l,_,h=>by
  cases l with
  |nil=>exact aR _
  |cons x l=>have:=h x (.head _);omega
 |t+1,l,a,h=>by
  have h1:=KC t (l.filter fun x=>decide (x≠(t:Int))) (a.filter _) fun x b=>by obtain⟨h1,h2⟩:=List.mem_filter.1 b;have:=h x h1;simp only[dE]at h2;omega
  have h2:l.count (t:Int)<=1:=List.nodup_iff_count.1 a _;have h3:∀m:List Int,m.length=(m.filter fun x=>decide (x≠(t:Int))).length+m.count (t:Int):=by
   intro m
   induction m with
   |nil=>rfl
   |cons x m c=>
    by_cases e:x=(t:Int)
    .subst e;rw[ip,ab ao,List.count_cons_self,bl];omega
    .rw[ip,ah (by simp[e]),List.count_cons_of_ne e,bl,bl];omega
  have:=h3 l;omega
def F9:∀(k:Nat) (l:List M),aL l<k->(dy l).length=aL l
 |0,_,h=>by omega
 |_+1,[],_=>rfl
 |k+1,n::l,h=>by rw[dj]at h |-;have h1:=F9 k n.kids O;have h2:=F9 k l O;rw[kU,bl,aH];omega
open Dg
section
variable {c:aF} {Z:Zs}
def Vv(p:Nat):nx c Z p<=nx c Z (p+1):=by
 unfold nx;cases h:Z.drop p with
 |nil=>
  have e:Z.drop (p+1)=[]:=by rw[<-lI,h];rfl
  rw[e];simp[gk]
 |cons t l=>
  have e:Z.drop (p+1)=l:=by rw[<-lI,h];rfl
  rw[e];simp only[gk];split
  .have:=(ye c l (p+1)).1;omega
  .exact aR _
def KE:∀(l:Zs) (i:Nat),gk c l i<=i+l.length
 | [],i=>aR _
 |t::l,i=>by have:=KE l (i+1);simp only[gk,bl];split<;>omega
def KF{p:Nat}(h:p<=Z.length):nx c Z p<=Z.length:=by have:=KE (c:=c) (Z.drop p) p;rw[wP]at this;unfold nx;omega
def MO(c:aF)(Z:Zs)(p:Option Nat)(e:List (Nat×Int))(t:Nat):Prop:=
 (e=[]/\∃j,p=some j/\nx c Z j=t)\/(p=none/\∃k,e=[(k,(t:Int))]/\nx c Z t=t/\(k=10\/k=11/\t<Z.length))
def bz(c:aF)(Z:Zs)(s p:Option Nat)(e:List (Nat×Int)):Prop:=
 match s with
 |none=>p=none/\e=[]
 |some s=>∃t,MO c Z p e t/\nx c Z s<=t/\(s<=Z.length->t<=Z.length/\∀j,p=some j->j<=Z.length)
def bz.self(p:Option Nat):bz c Z p p []:=by
 cases p with
 |none=>exact⟨rfl,rfl⟩
 |some j=>exact⟨_,.inl ⟨rfl,j,rfl,rfl⟩,aR _,fun h=>⟨KF h,fun _ e=>by cases e;exact h⟩⟩
def bz.err{i k:Nat}(h:nx c Z i=i)(a:k=10\/k=11/\i<Z.length):bz c Z (some i) none [(k,(i:Int))]:=⟨i,.inr ⟨rfl,k,rfl,h,a⟩,Nat.le_of_eq h,fun h=>⟨h,fun j e=>by cases e⟩⟩
variable{e:List (Nat×Int)}{p:Option Nat}
def bz.ofN{s:Option Nat}(h:bz c Z (s.map (nx c Z)) p e):bz c Z s p e:=by
 cases s with
 |none=>exact h
 |some s=>obtain⟨t,h1,h2,h3⟩:=h;rw[oW]at h2;exact⟨t,h1,h2,fun h=>h3 (KF h)⟩
def bz.up{s:Option Nat}(hs:Lt Z.length s)(h:bz c Z (s.map (·+1)) p e):bz c Z s p e:=by
 cases s with
 |none=>exact h
 |some s=>obtain⟨t,h1,h2,h3⟩:=h;exact⟨t,h1,fJ (Vv s) h2,fun _=>h3 (hs s rfl)⟩
def bz.next{i:Nat}(hi:i<Z.length):bz c Z (some i) (some (i+1)) []:=bz.up (s:=some i) (Lt.of hi) (bz.self (some (i+1)))
def bz.seq{s q:Option Nat}{f:List (Nat×Int)}(h:bz c Z s p e)(k:bz c Z p q f):bz c Z s q (e++f):=by
 cases s with
 |none=>obtain⟨rfl,rfl⟩:=h;exact k
 |some s=>
  obtain⟨t,h1,h2,h4⟩:=h;rcases h1 with ⟨rfl,j,rfl,h3⟩|⟨rfl,x,rfl,h3⟩
  .obtain⟨u,b,d,a⟩:=k;exact⟨u,b,O,fun h=>a ((h4 h).2 j rfl)⟩
  .obtain⟨rfl,rfl⟩:=k;exact⟨t,.inr ⟨rfl,x,rfl,h3⟩,h2,fun h=>⟨(h4 h).1,fun j e=>by cases e⟩⟩
def bz.side{x g:Option Nat}(a:x=none\/g=none)(h:bz c Z x p e):bz c Z (x.or g) (p.or g) e/\(p=none\/g=none):=by
 rcases a with rfl|rfl
 .obtain⟨rfl,rfl⟩:=h;exact⟨bz.self g,.inl rfl⟩
 .rw[Option.or_none,Option.or_none];exact⟨h,.inr rfl⟩
def Bw{x y:Option Nat}(h:x=none\/y=none):x.or y=y.or x:=by rcases h with rfl|rfl<;>simp
def nV(p:Option Nat)(is:Nat->Bool):bv c Z p is=none\/(bv c Z p fun i=>!is i)=none:=by
 unfold bv;cases p.map (nx c Z)with
 |none=>exact .inl rfl
 |some i=>cases h:is i<;>simp[Option.filter,h]
def yq(p:Option Nat)(is:Nat->Bool):(bv c Z p is).or (bv c Z p fun i=>!is i)=p.map (nx c Z):=by
 unfold bv;cases p.map (nx c Z)with
 |none=>rfl
 |some i=>cases h:is i<;>simp[Option.filter,h]
def BE(p:Option Nat)(is:Nat->Bool):(bv c Z p fun i=>!is i).or (bv c Z p is)=p.map (nx c Z):=by rw[Bw ((nV p is).symm),yq]
def bz.fork1{q:Option Nat}{s:au}(hs:s≠[])(h:bz c Z (((bv c Z p (be Z s)).map (·+1)).or (bv c Z p fun i=>!be Z s i)) q e):bz c Z p q e:=by
 refine bz.ofN ?_;rw[<-yq p (be Z s)];have a:=tX (c:=c) (Z:=Z) (p:=p) hs;rcases nV (c:=c) (Z:=Z) p (be Z s)with x|x
 .rw[x]at h |-;exact h
 .rw[x]at h |-;rw[Option.or_none]at h |-;exact bz.up a h
def Ku{i k kd s:Nat}{is:Nat->Bool}(h:bv c Z (bX Z c (some i) kd s).p is=some k):i<=k:=by
 have h0:=qB c Z i;unfold bX at h;simp only[df]at h;split at h
 .cases h
 .unfold bv at h;have h:=(Option.filter_eq_some_iff.1 h).1;simp only[df,bf]at h;have:=qB c Z (nx c Z i+1);omega
def rC(c:aF)(Z:Zs)(p:Option Nat):Prop:=∀j,p=some j->nx c Z j=j
def BD(p:Option Nat)(is:Nat->Bool):rC c Z (bv c Z p is):=by
 intro j h;unfold bv at h;have h:=(Option.filter_eq_some_iff.1 h).1;cases p with
 |none=>cases h
 |some i=>cases h;exact oW c Z i
def Ba(p:Option Nat):rC c Z (p.map (nx c Z)):=by
 intro j h;cases p with
 |none=>cases h
 |some i=>cases h;exact oW c Z i
def px(p:Option Nat){s:au}(hs:s≠[]):bz c Z p (di Z c p s).1 (di Z c p s).2:=by
 refine bz.ofN ?_;unfold di;have a:=Ba (c:=c) (Z:=Z) p;generalize p.map (nx c Z)=w at a |-;cases w with
 |none=>exact⟨rfl,rfl⟩
 |some i=>
  simp only;split
  .rename_i h;exact bz.next (eY (by rw[h];exact hs))
  .exact bz.err (a i rfl) (.inl rfl)
def x7(p:Option Nat)(k s:Nat):bz c Z p (bX Z c p k s).p (bX Z c p k s).e:=by
 refine bz.ofN ?_;unfold bX;have a:=Ba (c:=c) (Z:=Z) p;generalize p.map (nx c Z)=w at a |-;cases w with
 |none=>exact⟨rfl,rfl⟩
 |some i=>
  simp only;split
  .exact bz.err (a i rfl) (.inl rfl)
  .rename_i h;exact bz.next (rr fun h2=>h (.inl (by rw[h2];decide)))
def Gi(p:Option Nat)(s:Nat):bz c Z p (fQ Z c p s).p (fQ Z c p s).e:=by
 refine bz.ofN ?_;unfold fQ;have a:=Ba (c:=c) (Z:=Z) p;generalize p.map (nx c Z)=w at a |-;cases w with
 |none=>exact⟨rfl,rfl⟩
 |some i=>
  simp only;split
  .exact bz.err (a i rfl) (.inl rfl)
  .rename_i h;exact bz.next (eY fun h2=>h (by rw[h2];exact⟨by decide,by decide⟩))
end
section
variable {c:aF} {Z:Zs}
def FO:hQ->Option Nat
 | .line _ _ p _=>p
 | .lineL _ _ _ _ _ g out=>g.or out
 | .lineO _ _ _ op _ g=>op.or g
 | .unary _ p _=>p
 | .unaryH _ i _=>i
 | .calls _ _ _ x _ g=>x.or g
 | .inside _ p _=>p
 | .listed _ _ p=>p
 | .listL _ _ _ g fin=>g.or fin
 | .item _ _ p=>p
 | .behind _ _ p _ _=>p
 | .vrb _ p=>p
 | .function _ p=>p
 | .block _ p _=>p
 | .seqL _ _ p _ out=>p.or out
 | .stmt _ i=>i
 | .sCalls _ _ x _ g=>x.or g
 | .branch _ i _=>i
 | .elses _ x _ out=>x.or out
 | .ifs _ y _ out=>y.or out
def Dc(c:aF)(Z:Zs):hQ->Prop
 | .lineL _ _ _ _ _ g out=>g=none\/out=none
 | .lineO _ _ _ op _ g=>(op=none\/g=none)/\rC c Z op/\Lt Z.length op
 | .unaryH _ i _=>rC c Z i
 | .calls _ i _ x _ g=>(x=none\/g=none)/\rC c Z x/\∀k,x=some k->∃j,i=some j/\j<=k
 | .listL _ _ _ g fin=>g=none\/fin=none
 | .behind _ _ _ s _=>s≠[]
 | .seqL _ _ p _ out=>p=none\/out=none
 | .stmt _ i=>rC c Z i
 | .sCalls _ i x _ g=>(x=none\/g=none)/\rC c Z x/\∀k,x=some k->∃j,i=some j/\j<=k
 | .branch _ i _=>Lt Z.length i
 | .elses _ x _ out=>(x=none\/out=none)/\Lt Z.length x
 | .ifs _ y _ out=>(y=none\/out=none)/\rC c Z y/\Lt Z.length y
 |_=>True
def E5{p k:Nat}{s:au}{a:Option PR}{q:PR}(hs:s≠[])(f:Lt Z.length (some (nx c Z p))->a=some q->bz c Z (some (nx c Z p)) q.p q.e)
  (e:(if X Z (nx c Z p)≠s then some ⟨[],none,[(10,((nx c Z p:Nat):Int))]⟩else if k=64 then some ⟨[],none,[(11,((nx c Z p:Nat):Int))]⟩else a)=some q):bz c Z (some (nx c Z p)) q.p q.e:=by
 have b:=oW c Z p;split at e
 .cases e
  exact bz.err b (.inl rfl)
 .rename_i h1;have d:nx c Z p<Z.length:=eY (by rw[Classical.not_not.1 h1];exact hs);split at e
  .cases e
   exact bz.err b (.inr ⟨rfl,d⟩)
  .exact f (Lt.of d) e
def PE{r:jU}(H:∀x q,r x=some q->Dc c Z x->bz c Z (FO x) q.p q.e):∀x q,aB c Z r x=some q->Dc c Z x->bz c Z (FO x) q.p q.e:=by
 intro x q e w;cases x with
 |line k o p slot=>
  simp only[aB,mZ]at e |-;split at e
  .exact(H _ _ e trivial :)
  .obtain⟨a,ha,e⟩:=aG e;obtain⟨b,hb,e⟩:=aG e;cases e
   have n:bz c Z (a.p.or none) b.p b.e:=H _ _ hb (.inr rfl);rw[Option.or_none]at n;exact bz.seq (H _ _ ha trivial :) n
 |lineL k o slot first l g out=>
  simp only[aB,o5]at e |-;cases g with
  |none=>cases e;exact bz.self out
  |some p=>
   obtain rfl:out=none:=w.resolve_left ao;simp only at e |-;split at e
   .cases e;exact bz.self (some p)
   .obtain⟨a,ha,e⟩:=aG e;obtain⟨b,hb,e⟩:=aG e;cases e
    have C:bz c Z ((bv c Z (some p) (kM Z k)).or none) a.p a.e:=H _ _ ha ⟨.inr rfl,BD _ _,E9⟩;rw[Option.or_none]at C;obtain⟨m,t⟩:=bz.side (nV (c:=c) (Z:=Z) (some p) (kM Z k)) C;rw[yq]at m;exact m.ofN.seq (H _ _ hb t)
 |lineO k o slot op l g=>
  simp only[aB,sG]at e |-;cases op with
  |none=>cases e;exact bz.self g
  |some i=>
   obtain rfl:g=none:=w.1.resolve_left ao;obtain⟨a,ha,e⟩:=aG e;cases e
   exact bz.up (s:=some i) w.2.2 (H _ _ ha trivial :)
 |unary o p slot=>exact bz.ofN (H _ _ (show r (.unaryH o (p.map (nx c Z)) slot)=some q from e) (Ba p))
 |unaryH o i slot=>
  simp only[aB,kh]at e |-;cases i with
  |none=>cases e;exact⟨rfl,rfl⟩
  |some i=>
   have z:=w i rfl;simp only at e |-;split at e
   .rename_i h1;have L:i<Z.length:=eY (by rcases h1 with h|h<;>rw[h]<;>decide);split at e
    .cases e
     exact bz.err z (.inr ⟨rfl,L⟩)
    .obtain⟨a,ha,e⟩:=aG e;cases e
     exact bz.up (s:=some i) (Lt.of L) (H _ _ ha trivial :)
   split at e
   .exact(H _ _ e trivial :)
   split at e
   .rename_i h3;cases e
    exact bz.next (rr (by rw[h3];decide))
   split at e
   .rename_i h4;cases e
    exact bz.next (eY (by rcases h4 with h|h<;>rw[h]<;>decide))
   split at e
   .rename_i h5;cases e
    exact bz.next (eY (by rw[h5];decide))
   obtain⟨b,hb,e⟩:=aG e;cases e
   have n:bz c Z ((bv c Z (bX Z c (some i) 18 slot).p (be Z cq)).or (bv c Z (bX Z c (some i) 18 slot).p fun i=>!be Z cq i)) b.p b.e:=H _ _ hb ⟨nV _ _,BD _ _,fun k I=>⟨i,rfl,Ku I⟩⟩;rw[yq]at n;exact(x7 (some i) 18 slot).seq n.ofN
 |calls o i slot x names g=>
  simp only[aB,oZ]at e |-;obtain⟨v,w2,u⟩:=w;cases x with
  |none=>
   have G:q=⟨names,g,[]⟩:=by cases i<;>(cases e;rfl)
   subst G;exact bz.self g
  |some k=>
   obtain⟨j,rfl,J⟩:=u k rfl;obtain rfl:g=none:=v.resolve_left ao;obtain⟨a,ha,e⟩:=aG e;cases e
   exact(H _ _ ha trivial :)
 |inside o p slot=>
  simp only[aB,nW]at e |-;cases p with
  |none=>cases e;exact⟨rfl,rfl⟩
  |some p=>
   refine bz.ofN (s:=some p) (E5 (s:=cq) af ?_ e);intro h e;obtain⟨a,ha,e⟩:=aG e;cases e
   exact(bz.up (s:=some (nx c Z p)) h (H _ _ ha trivial :)).seq (px a.p af)
 |listed par o p=>
  simp only[aB,nX]at e |-;cases p with
  |none=>cases e;exact⟨rfl,rfl⟩
  |some p=>
   refine bz.ofN (s:=some p) (E5 (s:=cq) af ?_ e);intro h e;obtain⟨a,ha,e⟩:=aG e;cases e
   have C:bz c Z ((bv c Z (some (nx c Z p+1)) fun i=>!be Z dt i).or (bv c Z (some (nx c Z p+1)) (be Z dt))) a.p a.e:=H _ _ ha (nV _ _).symm;rw[BE]at C;exact(bz.up (s:=some (nx c Z p)) h C.ofN).seq (px a.p af)
 |listL par o l g fin=>
  simp only[aB,sH]at e |-;cases g with
  |none=>cases e;exact bz.self fin
  |some p=>
   obtain rfl:fin=none:=w.resolve_left ao;obtain⟨a,ha,e⟩:=aG e;obtain⟨b,hb,e⟩:=aG e;cases e
   exact bz.seq (H _ _ ha trivial :) (bz.fork1 (s:=eV) af (H _ _ hb ((nV (c:=c) (Z:=Z) a.p (be Z eV)).imp (fun h=>by rw[h];rfl) id)))
 |item par o p=>
  simp only[aB,o4]at e |-;cases par with
  |true=>
   simp only[cu]at e |-;cases e
   exact((x7 p 4 0).seq (px _ af)).seq (Gi _ 0)
  |false=>exact(H _ _ (show r (.line 0 o p 0)=some q from e) trivial :)
 |behind typ o p sign slot=>
  simp only[aB,oY]at e |-;obtain⟨a,ha,e⟩:=aG e;cases e
  have x:(bv c Z p (be Z sign)).map (·+1)=none\/(bv c Z p fun i=>!be Z sign i)=none:=(nV p (be Z sign)).imp (fun h=>by rw[h];rfl) id;have F:bz c Z ((bv c Z p (be Z sign)).map (·+1)) a.p a.e:=by
   unfold mY at ha;cases typ with
   |true=>
    simp only[cu]at ha;cases ha
    exact Gi _ slot
   |false=>exact H _ _ (show r (.line 0 o _ slot)=some a from ha) trivial
  obtain⟨m,t⟩:=bz.side x F;rw[Bw t.symm];exact bz.fork1 w m
 |vrb o p=>
  simp only[aB,qM]at e |-;obtain⟨d,hd,e⟩:=aG e;cases e
  exact((((x7 p 2 0).seq (px _ af)).seq (Gi _ 0)).seq (H _ _ hd (by show iC≠[];decide))).seq (px d.p af)
 |function o p=>
  simp only[aB,qK]at e |-;obtain⟨b,hb,e⟩:=aG e;obtain⟨d,hd,e⟩:=aG e;obtain⟨f,hf,e⟩:=aG e;cases e
  exact(((x7 p 3 0).seq (H _ _ hb trivial :)).seq (H _ _ hd (by show dA≠[];decide))).seq (H _ _ hf trivial)
 |block o p slot=>
  simp only[aB,nU]at e |-;cases p with
  |none=>cases e;exact⟨rfl,rfl⟩
  |some p=>
   refine bz.ofN (s:=some p) (E5 (s:=qY) af ?_ e);intro h e;obtain⟨a,ha,e⟩:=aG e;cases e
   exact(bz.up (s:=some (nx c Z p)) h (H _ _ ha (.inr rfl))).seq (px a.p af)
 |seqL top o p l out=>
  simp only[aB,o7]at e |-;cases p with
  |none=>cases e;exact bz.self out
  |some p=>
   obtain rfl:out=none:=w.resolve_left ao;simp only[df]at e |-;have z:=oW c Z p;refine bz.ofN (s:=some p) ?_;split at e
   .cases e
    exact bz.self _
   .obtain⟨a,ha,e⟩:=aG e;obtain⟨b,hb,e⟩:=aG e;cases e
    have F:bz c Z (some (nx c Z p)) a.p a.e:=by
     unfold lz at ha;cases top with
     |true=>
      simp only[cu]at ha;unfold nY at ha;split at ha
      .rename_i h2;exact bz.up (s:=some (nx c Z p)) (Lt.of (eY (by rw[h2];decide))) (H _ _ ha trivial :)
      split at ha
      .rename_i h5;exact bz.up (s:=some (nx c Z p)) (Lt.of (eY (by rw[h5];decide))) (H _ _ ha trivial :)
      cases ha
      exact bz.err z (.inl rfl)
     |false=>exact(H _ _ ha (fun j J=>by cases J;exact z) :)
    have n:bz c Z (a.p.or none) b.p b.e:=H _ _ hb (.inr rfl);rw[Option.or_none]at n;exact F.seq n
 |stmt o i=>
  simp only[aB,kP]at e |-;cases i with
  |none=>cases e;exact⟨rfl,rfl⟩
  |some i=>
   have z:=w i rfl;simp only at e |-;split at e
   .rename_i h1;exact bz.up (s:=some i) (Lt.of (eY (by rw[h1];decide))) (H _ _ e trivial :)
   split at e
   .rename_i h2;exact(H _ _ e (Lt.of (eY (by rw[h2];decide))) :)
   split at e
   .rename_i h3;obtain⟨a,ha,e⟩:=aG e;obtain⟨b,hb,e⟩:=aG e;cases e
    exact(bz.up (s:=some i) (Lt.of (eY (by rw[h3];decide))) (H _ _ ha trivial :)).seq (H _ _ hb trivial :)
   split at e
   .exact(H _ _ e trivial :)
   split at e
   .rename_i h5;obtain⟨a,ha,e⟩:=aG e;cases e
    obtain⟨m,t⟩:=bz.side (nV (c:=c) (Z:=Z) (some (i+1)) (be Z bT)).symm (H _ _ ha trivial :);rw[BE]at m;exact(bz.up (s:=some i) (Lt.of (eY (by rw[h5];decide))) m.ofN).seq (px _ af)
   split at e
   .rename_i h6;obtain⟨a,ha,e⟩:=aG e;cases e
    exact(bz.up (s:=some i) (Lt.of (eY (by rcases h6 with h|h<;>rw[h]<;>decide))) (H _ _ ha trivial :)).seq (px a.p af)
   obtain⟨b,hb,e⟩:=aG e;obtain⟨d,hd,e⟩:=aG e;cases e
   have K:=x7 (c:=c) (Z:=Z) (some i) 7 0;have A:=fun k=>Ku (c:=c) (Z:=Z) (i:=i) (k:=k) (kd:=7) (s:=0) (is:=be Z cq);generalize bX Z c (some i) 7 0=a at K A hb hd |-;obtain⟨m,t⟩:=bz.side (nV (c:=c) (Z:=Z) a.p (be Z cq)).symm ((px (bv c Z a.p fun i=>!be Z cq i) (s:=iC) af).seq (H _ _ hb trivial :));rw[BE]at m;have B:bz c Z ((bv c Z a.p (be Z cq)).or b.p) d.p d.e:=H _ _ hd ⟨t.symm,BD _ _,fun k I=>⟨i,rfl,A k I⟩⟩;rw[Bw t.symm]at B;have X:=((K.seq m.ofN).seq B).seq (px d.p (s:=bT) af);simp only[<-cD]at X;exact X
 |sCalls o i x l g=>
  simp only[aB,o6]at e |-;obtain⟨v,w2,u⟩:=w;cases x with
  |none=>
   have G:q=⟨l,g,[]⟩:=by cases i<;>(cases e;rfl)
   subst G;exact bz.self g
  |some k=>
   obtain⟨j,rfl,J⟩:=u k rfl;obtain rfl:g=none:=v.resolve_left ao;obtain⟨a,ha,e⟩:=aG e;cases e
   exact(H _ _ ha trivial :)
 |branch o i slot=>
  simp only[aB,qH]at e |-;obtain⟨a,ha,e⟩:=aG e;obtain⟨b,hb,e⟩:=aG e;obtain⟨d,hd,e⟩:=aG e;cases e
  have B:bz c Z ((bv c Z b.p (be Z iV)).or (bv c Z b.p fun i=>!be Z iV i)) d.p d.e:=H _ _ hd ⟨nV _ _,tX af⟩;rw[yq]at B;exact((bz.up w (H _ _ ha trivial :)).seq (H _ _ hb trivial :)).seq B.ofN
 |elses o x l out=>
  simp only[aB,qJ]at e |-;cases x with
  |none=>cases e;exact bz.self out
  |some j=>
   obtain rfl:out=none:=w.1.resolve_left ao;obtain⟨a,ha,e⟩:=aG e;obtain⟨b,hb,e⟩:=aG e;cases e
   obtain⟨m,t⟩:=bz.side (nV (c:=c) (Z:=Z) (some (j+1)) (be Z eN)).symm (H _ _ ha trivial :);rw[BE]at m;have n:bz c Z ((bv c Z (some (j+1)) (be Z eN)).or a.p) b.p b.e:=H _ _ hb ⟨t.symm,BD _ _,tX af⟩;rw[Bw t.symm]at n;exact bz.up (s:=some j) w.2 (m.ofN.seq n)
 |ifs o y l out=>
  simp only[aB,qL]at e |-;obtain⟨v,w2,u⟩:=w;cases y with
  |none=>cases e;exact bz.self out
  |some j=>
   obtain rfl:out=none:=v.resolve_left ao;simp only at e |-;split at e
   .cases e
    exact bz.err (w2 j rfl) (.inr ⟨rfl,u j rfl⟩)
   .obtain⟨a,ha,e⟩:=aG e;cases e
    exact(H _ _ ha u :)
def Lg:∀n x q,dF c Z n x=some q->Dc c Z x->bz c Z (FO x) q.p q.e
 |0=>fun x q e=>by cases e
 |n+1=>PE (Lg n)
end
open Dg
section
variable {F:Nat->au->Prop} {Z:Zs}
def VW{c:aF}(f:∀i,K Z i=1->F 1 (X Z i))(d:∀i,K Z i=2->F 2 (X Z i)){q:PR}(v:PV c Z (.seqL true 0 (some 0) [] none) q):
  (∃t,q.p=some t/\t<=Z.length/\q.e=[]/\GN F ⟨1,[],-1,0,q.l,tt⟩/\(dy q.l).Nodup/\∀x∈dy q.l,0<=x/\x<(t:Int))\/(q.p=none/\∃k t,q.e=[(k,((t:Nat):Int))]/\(k=10\/k=11)):=by
 obtain⟨n,h⟩:=v;obtain⟨u,h1,_,h2⟩:bz c Z (some 0) q.p q.e:=Lg n _ _ h (.inr rfl);obtain⟨_,h2⟩:=h2 (aE _);rcases h1 with ⟨a,t,hp,_⟩|⟨hp,k,a,_,w⟩
 .refine .inl ⟨t,hp,h2 t hp,a,?_⟩;have g:fK F [2,3] 0 q.l:=(Il f d n _ _ h trivial t hp).2 (fK.nil _ _);have b:∀i:Int,ct i q.l+rm i (some t)<=rm i (some 0):=fun i=>by
   have:=Hk i n _ _ h trivial;rw[hp]at this;have e:Wt i (hQ.seqL true 0 (some 0) [] none)=rm i (some 0):=by show ct i []+rm i (some 0)+rm i none=_;simp[ct,dy,rm]
   rw[e]at this;exact this
  have r:∀i:Int,rm i (some 0)<=1:=fun i=>by unfold rm;simp only;split<;>omega
  refine⟨oL (k:=1) ⟨by decide,by decide⟩ rfl rfl g (Syn.xS _),List.nodup_iff_count.2 fun x=>?_,fun x s=>?_⟩
  .have:=b x;have:=r x;unfold ct at *;omega
  .have h3:0<ct x q.l:=List.count_pos_iff.2 s;have h4:=b x;have o:∀j:Nat,rm x (some j)=if (j:Int)<=x then 1 else 0:=fun _=>rfl
   rw[o,o]at h4;by_cases m:((0:Nat):Int)<=x<;>by_cases a2:(t:Int)<=x
   .rw[ah m,ah a2]at h4;omega
   .omega
   .rw[ab m,ah a2]at h4;omega
   .rw[ab m,ab a2]at h4;omega
 .exact .inr ⟨hp,k,u,a,by rcases w with h|⟨h,_⟩<;>omega⟩
def PY(a:bB Z)(C:∀i,K Z i=1->F 1 (X Z i))(B:∀i,K Z i=2->F 2 (X Z i)){w:T}(G:w.ok 0){t:Tr}(h:mD Z w t){c:aF}(o:w.at' c=true):
  (∃ks,prj c t=⟨[⟨1,[],-1,0,ks,tt⟩],[]⟩/\GN F ⟨1,[],-1,0,ks,tt⟩/\(dy ks).Nodup/\∀x∈dy ks,0<=x/\x<(Z.length:Int))\/∃k x,prj c t=⟨[],[⟨k,x,tt⟩]⟩/\(k=10\/k=11)/\0<=x:=by
 obtain⟨q,H,e⟩:=DU a G h o;have n:lX q.l:=by
  rcases h with ⟨e,_⟩|⟨s,r,P,_⟩
  .rw[e]at o;cases o
  .obtain⟨Q,f,R⟩:=qV a G s P c;rw[o]at f;have:=H.det f;subst this;rw[<-R.l];exact Ar c _
 rw[e];unfold Fh;rcases VW C B H with ⟨u,hp,S,A,N,v,hb⟩|⟨hp,k,u,A,L⟩
 .left
  have g:(dy [(⟨1,[],-1,0,q.l,tt⟩:M)]).Nodup:=by rw[kU,List.nodup_cons];simp only[show dy []=[] from rfl,Y];exact⟨fun hm=>by have:=hb _ hm;omega,v⟩
  have hd:cJ [(⟨1,[],-1,0,q.l,tt⟩:M)]<=cJ q.l+1:=by simp[cJ,mO]
  have p:=x6 (d:=cJ q.l) g (fun m hm=>by rw[List.mem_singleton.1 hm]);have I:cR (cJ q.l+1) [⟨1,[],-1,0,q.l,tt⟩]=[⟨1,[],-1,0,cR (cJ q.l) q.l,tt⟩]:=List.perm_singleton.1 p;have z:lX [(⟨1,[],-1,0,q.l,tt⟩:M)]:=⟨⟨rfl,n⟩,trivial⟩;have y:GA F [(⟨1,[],-1,0,q.l,tt⟩:M)]:=⟨N,trivial⟩;have j:=Gz (cJ q.l+1) hd g z y;rw[I]at j;have b:=Mq (cJ q.l) (aR _) v n;refine⟨cR (cJ q.l) q.l,?_,j.1,b.nodup_iff.2 v,fun x J=>?_⟩
  .simp only[hp,A,Option.isSome_some,cu,I];rfl
  .have:=hb x (b.mem_iff.1 J);omega
 .right
  refine⟨k,u,?_,L,O⟩;simp only[hp,A,Option.isSome_none,dO,dG,x5];rfl
end
open Dg
mutual
def tH:M->List (Int×T)
 |⟨_,_,o,_,ks,d⟩=>(o,d)::iK ks
def iK:List M->List (Int×T)
 | []=>[]
 |n::l=>tH n++iK l
end
def DZ(n:M)(l:List M):iK (n::l)=(n.tok,n.cond)::(iK n.kids++iK l):=by cases n;rfl
def DY:∀a b:List M,iK (a++b)=iK a++iK b
 | [],_=>rfl
 |n::a,b=>by rw[aU,DZ,DZ,DY a b];simp
def uC(p q:Int×T):Prop:=p.1=q.1->∀c,¬(p.2.at' c=true/\q.2.at' c=true)
def HU:∀{L:List (Int×T)},(∀c,(L.filter fun p=>p.2.at' c).Pairwise fun p q=>p.1≠q.1)->L.Pairwise uC
 | [],_=>List.Pairwise.nil
 |p::L,h=>by
  refine List.pairwise_cons.2 ⟨fun q b e c a=>?_,HU fun c=>?_⟩
  .have:=h c;rw[ip,ah a.1,mz]at this;exact this.1 q (List.mem_filter.2 ⟨b,a.2⟩) e
  .have:=h c;rw[ip]at this;split at this
   .exact(List.pairwise_cons.1 this).2
   .exact this
def Ga(c:aF):∀(k:Nat) {l:List M},aL l<k->sB l->dy (pL c l)=((iK l).filter fun p=>p.2.at' c).map Prod.fst
 |0,_,h,_=>by omega
 |_+1,[],_,_=>rfl
 |k+1,n::l,h,b=>by
  rw[dj]at h;have a:=b.2 n (.head _);have h1:=Ga c k (l:=n.kids) O (Bg a);have h2:=Ga c k (l:=l) O (Kq b);rw[eD,DZ,ip];cases d:n.cond.at' c with
  |true=>simp only[cu];rw[kU,List.filter_append,iq,mw,<-h1,<-h2]
  |false=>
   simp only[dO,dG];have e:pL c n.kids=[]:=vV fun m hm=>by
    cases h2:m.cond.at' c with
    |false=>rfl
    |true=>exact absurd (((sC n).1 a).2.2.1 m hm c h2) (by rw[d];decide)
   rw[e]at h1;rw[List.filter_append,mw,<-h1,<-h2];rfl
variable{l:List M}
def P9(a:sB l)(h:∀c,(dy (pL c l)).Nodup):(iK l).Pairwise uC:=HU fun c=>by have:=h c;rw[Ga c _ (eF _) a]at this;exact List.pairwise_map.1 this
def xl(k:Nat)(a b:M):Prop:=∀(i:Nat) r,(rl k)[i]?=some r->r.1≠2->a.slot=(i:Int)->b.slot=(i:Int)->∀c,¬(a.cond.at' c=true/\b.cond.at' c=true)
mutual
def VN(F:Nat->au->Prop):T->M->Prop
 |w,⟨k,x,o,_,ks,d⟩=>(1<=k/\k<=19)/\lG F k x/\(d.ok 0/\d≠ff/\nD d w)/\(-1<=o/\o<1099511627776/\(o=-1<->k=1))/\(ks.map M.key).Pairwise (fun a b=>kf a b=true)/\
  (∀m∈ks,xZ k m)/\ks.Pairwise (xl k)/\(∀(i:Nat) r,(rl k)[i]?=some r->r.1=0->∀c,d.at' c=true->∃m∈ks,m.slot=(i:Int)/\m.cond.at' c=true)/\VL F d ks
def VL (F:Nat->au->Prop):T->List M->Prop
 |_,[]=>True
 |w,n::l=>VN F w n/\VL F w l
end
def rP{F:Nat->au->Prop}{w:T}:VL F w l<->∀n∈l,VN F w n:=by
 induction l with
 |nil=>simp[VL]
 |cons n l a=>simp[VL,a]
section
variable {F:Nat->au->Prop}
def HN(F:Nat->au->Prop)(n:M):Prop:=∀c,n.cond.at' c=true->GN F { n with kids:=pL c n.kids,cond:=tt }/\∀x∈dy (pL c n.kids),0<=x/\x<1099511627776
def Mr{m:M}{x:Int}:∀{l:List M},m∈l->x∈dy m.kids->x∈dy l
 |n::l,h,a=>by
  rw[kU];rcases List.mem_cons.1 h with rfl|h
  .exact .tail _ (gm _ a)
  .exact .tail _ (gD _ (Mr h a))
def HN.kid{n m:M}(h:HN F n)(d:nD m.cond n.cond)(hm:m∈n.kids):HN F m:=fun c a=>by obtain⟨g,b⟩:=h c (d c a);have hp:({ m with kids:=pL c m.kids,cond:=tt }:M)∈pL c n.kids:=ly.2 ⟨m,hm,a,rfl⟩;exact⟨uD.1 ((rq _).1 g).2.2.2.2 _ hp,fun x h=>b x (Mr hp h)⟩
def Dx(c:aF)(i:Int)(n:M)(l:List M):cS i (pL c (n::l))=(if n.cond.at' c=true/\n.slot=i then 1 else 0)+cS i (pL c l):=by
 rw[eD];unfold cS;cases a:n.cond.at' c with
 |true=>simp only[cu,List.countP_cons,fg,dE];split<;>omega
 |false=>simp
def Ht{c:aF}{i:Int}{n:M}:∀{l:List M},n∈l->n.cond.at' c=true->n.slot=i->1<=cS i (pL c l)
 |m::l,h,h1,h2=>by
  rw[Dx];rcases List.mem_cons.1 h with rfl|h
  .rw[ah ⟨h1,h2⟩];omega
  .have:=Ht h h1 h2;omega
def Lp{k:Nat}:∀{l:List M},(∀(i:Nat) r,(rl k)[i]?=some r->r.1≠2->∀c,cS i (pL c l)<=1)->l.Pairwise (xl k)
 | [],_=>List.Pairwise.nil
 |a::l,h=>by
  refine List.pairwise_cons.2 ⟨fun b hb i r hr h2 ha d c e=>?_,Lp fun i r hr h2 c=>?_⟩
  .have h1:=h i r hr h2 c;rw[Dx,ah ⟨e.1,ha⟩]at h1;have:=Ht (c:=c) hb e.2 d;omega
  .have h1:=h i r hr h2 c;rw[Dx]at h1;omega
def K4{k i:Nat}{r:Nat×Zp}(h:(rl k)[i]?=some r):(r.1=0\/r.1=1\/r.1=2)/\1∉r.2:=by
 have key:∀l:List (Nat×Zp),(l.all fun r=>(r.1=0\/r.1=1\/r.1=2) && decide (1∉r.2))=true->l[i]?=some r->(r.1=0\/r.1=1\/r.1=2)/\1∉r.2:=fun l b hi=>by have:=List.all_eq_true.1 b r (db hi);simpa using this
 refine key _ ?_ h;rcases aK k 20 with a|a
 .exact(by decide:∀k,k<20->((rl k).all fun r=>(r.1=0\/r.1=1\/r.1=2) && decide (1∉r.2))=true) k a
 .have:rl k=[]:=by
   unfold rl
   repeat rw[ab O]
  rw[this];rfl
def GU:∀(k:Nat) (n:M) {w:T},aL n.kids<k->vL n->nD n.cond w->HN F n->(-1<=n.tok/\n.tok<1099511627776/\(n.tok=-1<->n.kind=1))->VN F w n
 |0,_,_,h,_,_,_,_=>by omega
 |k+1,⟨kd,x,o,s,ks,d⟩,w,p,q,v,l,A=>by
  have f:=(sC _).1 q;obtain⟨c0,h0⟩:=T.some_of_ne f.1 f.2.1;obtain⟨g1,g2,_⟩:=(rq _).1 (l c0 h0).1;have kid:∀m∈ks,xZ kd m:=fun m hm=>by have b:=(sC m).1 ((Bg q).2 m hm);obtain⟨c,a⟩:=T.some_of_ne b.1 b.2.1;have hp:({ m with kids:=pL c m.kids,cond:=tt }:M)∈pL c ks:=ly.2 ⟨m,hm,a,rfl⟩;have:=((rq _).1 (l c (f.2.2.1 m hm c a)).1).2.2.1 { m with kids:=pL c m.kids,cond:=tt } hp;exact this
  have out:∀c,d.at' c=false->pL c ks=[]:=fun c a=>vV fun m hm=>by
   cases h2:m.cond.at' c with
   |false=>rfl
   |true=>exact absurd (f.2.2.1 m hm c h2) (by rw[show (⟨kd,x,o,s,ks,d⟩:M).cond=d from rfl,a];decide)
  refine⟨g1,g2,⟨f.1,f.2.1,v⟩,A,f.2.2.2.1,kid,Lp fun i r hr h2 c=>?_,fun i r hr h0 c a=>?_,rP.2 fun m hm=>?_⟩
  .cases a:d.at' c with
   |false=>rw[out c a];exact aE _
   |true=>
    have:=((rq _).1 (l c a).1).2.2.2.1 i r hr;rcases(K4 hr).1 with h|h|h
    .exact Nat.le_of_eq (this.1 h)
    .exact this.2 h
    .exact absurd h h2
  .have h1:cS i (pL c ks)=1:=(((rq _).1 (l c a).1).2.2.2.1 i r hr).1 h0;have h2:0<cS i (pL c ks):=O;obtain⟨y,u,hs⟩:=List.countP_pos_iff.1 h2;obtain⟨m,hm,t,rfl⟩:=ly.1 u;exact⟨m,hm,by simpa using hs,t⟩
  .have j:=f.2.2.1 m hm;have b:=(Bg q).2 m hm;have z:=uj hm;have p:aL ks<k+1:=p;refine GU k m O b j (l.kid j hm) ?_;have g:=(sC m).1 b;obtain⟨c,a⟩:=T.some_of_ne g.1 g.2.1;have hp:({ m with kids:=pL c m.kids,cond:=tt }:M)∈pL c ks:=ly.2 ⟨m,hm,a,rfl⟩;have h0:m.tok∈dy (pL c ks):=Gd (n:={ m with kids:=pL c m.kids,cond:=tt }) hp;have h1:0<=m.tok/\m.tok<1099511627776:=(l c (j c a)).2 _ h0;obtain⟨i,_,r,hr,p⟩:=kid m hm;have h2:m.kind≠1:=fun e=>(K4 hr).2 (by rw[<-e];exact p);exact⟨O,h1.2,O⟩
structure VT(F:Nat->au->Prop)(w:T)(m:Nat)(t:Tr):Prop where
 kids:t.kids=[]\/∃n,t.kids=[n]/\n.kind=1/\n.slot=0/\VN F tt n/\(iK [n]).Pairwise uC/\aL n.kids<=aL t.kids
 dep:cJ t.kids<=m+1
 sort:E1 t.diags
 code:∀d∈t.diags,(d.code=10\/d.code=11)/\0<=d.tok
 apart:(t.kids.map (·.cond)++t.diags.map (·.cond)).Pairwise fun a b=>∀c,¬(a.at' c=true/\b.at' c=true)
 all:∀c,w.at' c=(t.kids.any (·.cond.at' c) || t.diags.any (·.cond.at' c))
def VE{c:aF}{l:List M}:(l.any (·.cond.at' c))=!(pL c l).isEmpty:=by
 induction l with
 |nil=>rfl
 |cons n l a=>rw[List.any_cons,eD,a];cases n.cond.at' c<;>simp
def V8{c:aF}{e:List aI}:(e.any (·.cond.at' c))=!(iB c e).isEmpty:=by
 induction e with
 |nil=>rfl
 |cons d e a=>rw[List.any_cons,a];unfold iB;rw[ip];cases d.cond.at' c<;>simp
def P1{Z:Zs}(s:bB Z)(P:∀i,K Z i=1->F 1 (X Z i))(N:∀i,K Z i=2->F 2 (X Z i))(S:Z.length<=1099511627776){w:T}(I:w.ok 0){t:Tr}(h:mD Z w t):VT F w Z.length t:=by
 obtain⟨v,R⟩:=PZ s I h;have A:∀c,(w.at' c=false/\prj c t=⟨[],[]⟩)\/(w.at' c=true/\((∃ks,prj c t=⟨[⟨1,[],-1,0,ks,tt⟩],[]⟩/\GN F ⟨1,[],-1,0,ks,tt⟩/\(dy ks).Nodup/\∀x∈dy ks,0<=x/\x<(Z.length:Int))\/∃k x,prj c t=⟨[],[⟨k,x,tt⟩]⟩/\(k=10\/k=11)/\0<=x)):=fun c=>by
  cases f:w.at' c with
  |false=>exact .inl ⟨rfl,P0 s I h f⟩
  |true=>exact .inr ⟨rfl,PY s P N I h f⟩
 have G:∀c,pL c t.kids=(prj c t).kids:=fun _=>rfl;have H:∀c,iB c t.diags=(prj c t).diags:=fun _=>rfl;have top:∀n∈t.kids,n.kind=1/\n.text=[]/\n.tok=-1/\n.slot=0/\HN F n:=fun n r=>by
  have B:∀c,n.cond.at' c=true->∃ks,{ n with kids:=pL c n.kids,cond:=tt }=(⟨1,[],-1,0,ks,tt⟩:M)/\GN F ⟨1,[],-1,0,ks,tt⟩/\∀x∈dy ks,0<=x/\x<1099511627776:=fun c f=>by
   have hp:({ n with kids:=pL c n.kids,cond:=tt }:M)∈pL c t.kids:=ly.2 ⟨n,r,f,rfl⟩;rw[G]at hp;rcases A c with ⟨_,e⟩|⟨_,⟨ks,e,g,_,b⟩|⟨k,x,e,_⟩⟩
   .rw[e]at hp;exact(dJ hp).elim
   .rw[e]at hp;exact⟨ks,List.mem_singleton.1 hp,g,fun x j=>⟨(b x j).1,by have:=(b x j).2;omega⟩⟩
   .rw[e]at hp;exact(dJ hp).elim
  have j:=(sC n).1 (v.2 n r);obtain⟨c0,h0⟩:=T.some_of_ne j.1 j.2.1;obtain⟨ks,e,_⟩:=B c0 h0;simp only[M.mk.injEq]at e;obtain⟨e1,e2,e3,e4,_⟩:=e;refine⟨e1,e2,e3,e4,fun c f=>?_⟩;obtain⟨ks,e,g,b⟩:=B c f;refine⟨by rw[e];exact g,?_⟩;simp only[M.mk.injEq]at e;rw[e.2.2.2.2.1];exact b
 have Q:t.kids.length<=1:=by
  match o:t.kids with
  | []=>exact aE _
  | [_]=>exact aR _
  |a::b::l=>
   have h1:=v.1;rw[o,iq,iq,mz]at h1;have h2:=h1.1 b.key (.head _);obtain⟨C,a2,a3,a4,_⟩:=top a (by rw[o];exact .head _);obtain⟨b1,b2,b3,b4,_⟩:=top b (by rw[o];exact .tail _ (.head _));have:a.key=b.key:=by unfold M.key;rw[C,a2,a3,a4,b1,b2,b3,b4]
   rw[this,mV.irr]at h2;cases h2
 have u:∀c,(dy (pL c t.kids)).Nodup/\aL (pL c t.kids)<=Z.length+1:=fun c=>by
  rw[G];rcases A c with ⟨_,e⟩|⟨_,⟨ks,e,_,nd,b⟩|⟨k,x,e,_⟩⟩
  .rw[e];exact⟨List.nodup_nil,aE _⟩
  .rw[e];refine⟨?_,?_⟩
   .show (dy [(⟨1,[],-1,0,ks,tt⟩:M)]).Nodup;rw[kU,List.nodup_cons];simp only[show dy []=[] from rfl,Y];exact⟨fun hm=>by have:=(b _ hm).1;omega,nd⟩
   .show aL [(⟨1,[],-1,0,ks,tt⟩:M)]<=_;have:=KC Z.length (dy ks) nd b;rw[F9 _ ks (eF _)]at this;rw[dj,gB];simp only;omega
  .rw[e];exact⟨List.nodup_nil,aE _⟩
 have y:=P9 v fun c=>(u c).1;refine⟨?_,?_,R,fun d hd=>?_,?_,fun c=>?_⟩
 .match o:t.kids,Q with
  | [],_=>exact .inl rfl
  | [n],_=>
   right
   have r:n∈t.kids:=by rw[o];exact .head _
   obtain⟨C,_,a3,a4,hh⟩:=top n r;rw[o]at y;exact⟨n,rfl,C,a4,GU _ n (eF _) (v.2 n r) (fun _ _=>rfl) hh ⟨O,O,O⟩,y,by rw[dj];omega⟩
  |_::_::_,h=>simp at h
 ·
  have z:∀(k:Nat) {l:List M},aL l<k->sB l->∃c,cJ l<=cJ (pL c l):=by
   intro k
   induction k with
   |zero=>intro l h;omega
   |succ k p=>
    intro l o U;cases l with
    |nil=>exact⟨fun _=>false,aE _⟩
    |cons n l=>
     rw[dj]at o;have r:=U.2 n (.head _);have j:=(sC n).1 r;rcases Nat.le_total (mO n) (cJ l)with J|J
     .obtain⟨c,f⟩:=p (l:=l) O (Kq U);refine⟨c,?_⟩;have h1:cJ (n::l)=cJ l:=by simp only[cJ];omega
      rw[h1,eD];split
      .simp only[cJ];omega
      .exact f
     .have key:∃c,n.cond.at' c=true/\cJ n.kids<=cJ (pL c n.kids):=by
       obtain⟨c,f⟩:=p (l:=n.kids) O (Bg r);cases q:n.cond.at' c with
       |true=>exact⟨c,q,f⟩
       |false=>
        have:pL c n.kids=[]:=vV fun m hm=>by
         cases h2:m.cond.at' c with
         |false=>rfl
         |true=>exact absurd (j.2.2.1 m hm c h2) (by rw[q];decide)
        rw[this]at f;obtain⟨c',h'⟩:=T.some_of_ne j.1 j.2.1;exact⟨c',h',fJ f (aE _)⟩
      obtain⟨c,q,f⟩:=key;refine⟨c,?_⟩;have h1:cJ (n::l)=mO n:=by simp only[cJ];omega
      rw[h1,eD,ah q,qe];simp only[cJ,qe];omega
  obtain⟨c,f⟩:=z _ (eF _) v;have h1:∀(k:Nat) (l:List M),aL l<k->cJ l<=aL l:=by
   intro k
   induction k with
   |zero=>intro l h;omega
   |succ k p=>
    intro l h;cases l with
    |nil=>exact aE _
    |cons n l=>rw[dj]at h |-;have h1:=p n.kids O;have h2:=p l O;simp only[cJ,qe];omega
  have:=h1 _ (pL c t.kids) (eF _);have:=(u c).2;omega
 .obtain⟨o1,W⟩:=R.2 d hd;obtain⟨c,f⟩:=T.some_of_ne o1 W;have hp:({ d with cond:=tt }:aI)∈iB c t.diags:=V9.2 ⟨d,hd,f,rfl⟩;rw[H]at hp;rcases A c with ⟨_,e⟩|⟨_,⟨ks,e,_⟩|⟨k,x,e,o,j⟩⟩
  .rw[e]at hp;exact(dJ hp).elim
  .rw[e]at hp;exact(dJ hp).elim
  .rw[e]at hp;have:=List.mem_singleton.1 hp;simp only[aI.mk.injEq]at this;obtain⟨rfl,rfl,_⟩:=this;exact⟨o,j⟩
 .have one:∀c,((t.kids.map (·.cond)++t.diags.map (·.cond)).filter fun d=>d.at' c).length<=1:=fun c=>by
   have C:∀l:List M,((l.map (·.cond)).filter fun d=>d.at' c).length=(pL c l).length:=by
    intro l
    induction l with
    |nil=>rfl
    |cons n l p=>rw[iq,ip,eD];split<;>simp[p]
   have a2:((t.diags.map (·.cond)).filter fun d=>d.at' c).length=(iB c t.diags).length:=by unfold iB;rw[List.filter_map,eO,eO];rfl
   rw[List.filter_append,aH,C,a2,G,H];rcases A c with ⟨_,e⟩|⟨_,⟨ks,e,_⟩|⟨k,x,e,_⟩⟩<;>rw[e]<;>simp
  have V:∀L:Zr,(∀c,(L.filter fun d=>d.at' c).length<=1)->L.Pairwise fun a b=>∀c,¬(a.at' c=true/\b.at' c=true):=by
   intro L
   induction L with
   |nil=>intro _;exact List.Pairwise.nil
   |cons a L p=>
    intro h;refine List.pairwise_cons.2 ⟨fun b hb c f=>?_,p fun c=>?_⟩
    .have h1:=h c;rw[ip,ah f.1,bl]at h1;have h3:b∈L.filter fun d=>d.at' c:=List.mem_filter.2 ⟨hb,f.2⟩;have:=List.length_pos_of_mem h3;omega
    .have h1:=h c;rw[ip]at h1;split at h1
     .rw[bl]at h1;omega
     .exact h1
  exact V _ one
 .rw[VE,V8,G,H];rcases A c with ⟨f,e⟩|⟨f,⟨ks,e,_⟩|⟨k,x,e,_⟩⟩<;>rw[e,f]<;>rfl
end
end Syn
namespace Go.Proofs.YtfaclfkpnmcmlaaGreatDoor
open Go Go.Sx Dg Syn
def Q6:ay prog 265:=⟨_,func265,rfl,rfl⟩
def Ex:ay prog 266:=⟨_,func266,rfl,rfl⟩
def II:ay prog 212:=⟨_,func212,rfl,rfl⟩
def QT:ay prog 219:=⟨_,func219,rfl,rfl⟩
def Q8:ay prog 269:=⟨_,func269,rfl,rfl⟩
def IJ:ay prog 218:=⟨_,func218,rfl,rfl⟩
def QN:ay prog 210:=⟨_,func210,rfl,rfl⟩
def QP:ay prog 214:=⟨_,func214,rfl,rfl⟩
def IH:ay prog 211:=⟨_,func211,rfl,rfl⟩
def QO:ay prog 213:=⟨_,func213,rfl,rfl⟩
def oR(n:Int):Bool:=(decide (97<=n) && decide (n<=122)) || (decide (65<=n) && decide (n<=90))
def qf(n:Int):Bool:=decide (48<=n) && decide (n<=57)
def ng(n:Int):Bool:=oR n || qf n || (n == 95)
def tx(n:Int):Bool:=(n == 32) || (n == 9)
def mg(n:Int):Bool:=!((n != 9) && (decide (n<32) || decide (n>126)))
def Us(n:Int)(H:PH):Zv 265 #[.int .u8 n] H fun v H2=>v=.bool (oR n)/\H2=H:=by
 refine aP 17 func265 fun w0=>?_;cases h1:decide (97<=n)
 .cases h3:decide (65<=n)
  .refine lR h1 h3 ?_;exact aX (r:=[_]) rfl ⟨by simp only[oR,h1,h3];rfl,rfl⟩
  .cases h4:decide (n<=90)
   .apply RG;simp only[go_sem,h1,h3,h4];exact aX (r:=[_]) rfl ⟨by simp only[oR,h1,h3,h4];rfl,rfl⟩
   .apply RG;simp only[go_sem,h1,h3,h4];exact aX (r:=[_]) rfl ⟨by simp only[oR,h1,h3,h4];rfl,rfl⟩
 .cases h2:decide (n<=122)
  .cases h3:decide (65<=n)
   .apply RG;simp only[go_sem,h1,h2,h3];exact aX (r:=[_]) rfl ⟨by simp only[oR,h1,h2,h3];rfl,rfl⟩
   .cases h4:decide (n<=90)
    .apply RG;simp only[go_sem,h1,h2,h3,h4];exact aX (r:=[_]) rfl ⟨by simp only[oR,h1,h2,h3,h4];rfl,rfl⟩
    .apply RG;simp only[go_sem,h1,h2,h3,h4];exact aX (r:=[_]) rfl ⟨by simp only[oR,h1,h2,h3,h4];rfl,rfl⟩
  .refine lR h1 h2 ?_;exact aX (r:=[_]) rfl ⟨by simp only[oR,h1,h2];rfl,rfl⟩
def DN(n:Int)(H:PH):Zv 266 #[.int .u8 n] H fun v H2=>v=.bool (qf n)/\H2=H:=by
 refine aP 9 func266 fun w0=>?_;cases h1:decide (48<=n)
 .refine dB h1 ?_;exact aX (r:=[_]) rfl ⟨by simp only[qf,h1];rfl,rfl⟩
 .cases h2:decide (n<=57)
  .refine lR h1 h2 ?_;exact aX (r:=[_]) rfl ⟨by simp only[qf,h1,h2];rfl,rfl⟩
  .refine lR h1 h2 ?_;exact aX (r:=[_]) rfl ⟨by simp only[qf,h1,h2];rfl,rfl⟩
def KN(n:Int)(H:PH):Zv 212 #[.int .u8 n] H fun v H2=>v=.bool (ng n)/\H2=H:=by
 refine aP 13 func212 fun w0=>?_;refine ai ?_;refine Zl rfl Q6 (Us n H) ?_;rintro v H2⟨rfl,rfl⟩;cases h1:oR n
 .refine ai ?_;refine Zl rfl Ex (DN n _) ?_;rintro v H2⟨rfl,rfl⟩;cases h2:qf n
  .cases h3:(n == 95)
   .refine dB h3 ?_;exact aX (r:=[_]) rfl ⟨by simp only[ng,h1,h2,h3];rfl,rfl⟩
   .refine dB h3 ?_;exact aX (r:=[_]) rfl ⟨by simp only[ng,h1,h2,h3];rfl,rfl⟩
  .refine ai ?_;exact aX (r:=[_]) rfl ⟨by simp only[ng,h1,h2];rfl,rfl⟩
 .refine ai ?_;exact aX (r:=[_]) rfl ⟨by simp only[ng,h1];rfl,rfl⟩
def Oy(n:Int)(H:PH):Zv 219 #[.int .u8 n] H fun v H2=>v=.bool (tx n)/\H2=H:=by
 refine aP 9 func219 fun w0=>?_;cases h1:(n == 32)
 .cases h2:(n == 9)
  .refine lR h1 h2 ?_;exact aX (r:=[_]) rfl ⟨by simp only[tx,h1,h2];rfl,rfl⟩
  .refine lR h1 h2 ?_;exact aX (r:=[_]) rfl ⟨by simp only[tx,h1,h2];rfl,rfl⟩
 .refine dB h1 ?_;exact aX (r:=[_]) rfl ⟨by simp only[tx,h1];rfl,rfl⟩
theorem f8(s:au):(⟨⟨s⟩⟩:ByteArray).size=s.length:=rfl
def yW(s:au)(i k:Nat):(⟨⟨s⟩⟩:ByteArray).extract i k=⟨⟨(s.drop i).take (k-i)⟩⟩:=by apply ByteArray.ext;rw[ByteArray.data_extract];apply Array.ext';simp[List.extract_eq_take_drop]
def Wa(s t:au)(H:PH):Zv 269 #[.string ⟨⟨s⟩⟩,.string ⟨⟨t⟩⟩] H fun v H2=>v=.bool (t.isPrefixOf s)/\H2=H:=by
 refine aP 18 func269 fun w0=>?_;rcases aK s.length t.length with h|h
 .have h1:decide ((s.length:Int)>=(t.length:Int))=false:=ch O;have h2:t.isPrefixOf s=false:=by rw[Bool.eq_false_iff];intro e;have:=(List.isPrefixOf_iff_prefix.1 e).length_le;omega
  apply RG;simp only[go_sem,f8,h1];exact aX (r:=[_]) rfl ⟨by rw[h2];rfl,rfl⟩
 .have h1:decide ((s.length:Int)>=(t.length:Int))=true:=bm O;have h2:(s.take t.length == t)=t.isPrefixOf s:=by rw[Bool.eq_iff_iff,beq_iff_eq,List.isPrefixOf_iff_prefix,List.prefix_iff_eq_take];exact eq_comm
  apply RG;simp only[go_sem,f8,h1,yW,Int.toNat_zero,Nat.sub_zero,h2];refine⟨O,?_⟩;exact aX (r:=[_]) rfl ⟨rfl,rfl⟩
def KV(s t:au)(H:PH):Zv 218 #[.string ⟨⟨s⟩⟩,.string ⟨⟨t⟩⟩] H fun v H2=>v=.bool (t.isPrefixOf s)/\H2=H:=by refine aP 8 func218 fun w0=>?_;refine ai ?_;refine Zl rfl Q8 (Wa s t H) ?_;rintro v H2⟨rfl,rfl⟩;refine ai ?_;exact aX (r:=[_]) rfl ⟨rfl,rfl⟩
def bZ(c:UInt8):Int:=(c.toNat:Int)
variable{s:au}
def u5{i:Nat}{c:UInt8}(h:s[i]?=some c):((Ae ⟨⟨s⟩⟩ i:Nat):Int)=bZ c:=by unfold Ae bZ;rw[List.getD_eq_getElem?_getD,h];rfl
def xx(s:au)(i:Nat):St:=⟨dn 26 [(0,.v (.string ⟨⟨s⟩⟩)),(5,.v (E s.length)),(6,.v (E i))],[]⟩
def Od(s:au)(l:s.length<2^60)(H:PH):Zv 210 #[.string ⟨⟨s⟩⟩] H fun v H2=>v=.bool (s.all fun c=>mg (bZ c))/\H2=H:=by
 refine aP 26 func210 fun w0=>?_;apply RG;simp only[go_sem,f8];refine bV (fun x=>s.length-x) (xx s) (fun i H2=>H2=H/\i<=s.length/\((s.drop i).all fun c=>mg (bZ c))=(s.all fun c=>mg (bZ c))) 0 al (by simp only[go_sem,Y,xx]) ⟨rfl,aE _,rfl⟩ ?_;rintro i H2 ⟨rfl,hi,ha⟩ d;simp only[xx];rcases aK i s.length with e|k
 .have h:=Z5 i s.length;have e1:=Z7 i;obtain⟨c,j⟩:∃c,s[i]?=some c:=⟨_,aY e⟩;have hb:=u5 j;have hd:s.drop i=c::s.drop (i+1):=by rw[jz e];rw[aY e]at j;rw[cX j]
  rw[hd,List.all_cons]at ha;cases f:(bZ c != 9)
  .have g:mg (bZ c)=true:=by simp only[mg,f];rfl
   apply RG;simp only[go_sem,E,h,hb,f,e1];refine⟨by (try simp only[f8]);omega,?_⟩;exact d (i+1) _ _ O al (by simp only[go_sem,Y,xx]) ⟨rfl,e,by rw[<-ha,g,Bool.true_and]⟩
  .cases b:decide (bZ c<32)
   .cases a:decide (bZ c>126)
    .have g:mg (bZ c)=true:=by simp only[mg,f,b,a];rfl
     apply RG;simp only[go_sem,E,h,hb,f,b,a,e1];refine⟨by (try simp only[f8]);omega,?_⟩;exact d (i+1) _ _ O al (by simp only[go_sem,Y,xx]) ⟨rfl,e,by rw[<-ha,g,Bool.true_and]⟩
    .have g:mg (bZ c)=false:=by simp only[mg,f,b,a];rfl
     apply RG;simp only[go_sem,E,h,hb,f,b,a];refine⟨by (try simp only[f8]);omega,?_⟩;exact aX (r:=[_]) rfl ⟨by rw[<-ha,g];rfl,rfl⟩
   .have g:mg (bZ c)=false:=by simp only[mg,f,b];rfl
    apply RG;simp only[go_sem,E,h,hb,f,b];refine⟨by (try simp only[f8]);omega,?_⟩;exact aX (r:=[_]) rfl ⟨by rw[<-ha,g];rfl,rfl⟩
 .have:i=s.length:=by omega
  subst this;have h:decide ((s.length:Int)<(s.length:Int))=false:=ao;rw[js]at ha;refine bd h ?_;exact aX (r:=[_]) rfl ⟨by rw[<-ha];rfl,rfl⟩
def mW(s:au):Bool:=!(s.isEmpty || decide (s.length>32) || qf (bZ (s.getD 0 0))) && s.all fun c=>ng (bZ c)
def Bj(s:au)(i:Nat):St:=⟨dn 27 [(0,.v (.string ⟨⟨s⟩⟩)),(17,.v (E s.length)),(18,.v (E i))],[]⟩
def SS(s:au)(H:PH):Zv 214 #[.string ⟨⟨s⟩⟩] H fun v H2=>v=.bool (mW s)/\H2=H:=by
 refine aP 27 func214 fun w0=>?_;cases s with
 |nil=>refine ai ?_;exact aX (r:=[_]) rfl ⟨rfl,rfl⟩
 |cons c0 p=>
  generalize hs:c0::p=s;have f:(s == [])=false:=by rw[<-hs];rfl
  have q:0<s.length:=by rw[<-hs];simp
  have h:s.isEmpty=false:=by rw[<-hs];rfl
  have k:s[0]?=some (s.getD 0 0):=by rw[<-hs];rfl
  clear hs c0 p;have m:=u5 k;have u:(0:Int)<=0/\(0:Int)<((⟨⟨s⟩⟩:ByteArray).size:Int):=⟨O,by rw[f8];omega⟩;cases b:decide ((s.length:Int)>32)
  rotate_left
  .have e:mW s=false:=by have:decide (s.length>32)=true:=bm (by have:=lN b;omega);simp[mW,this]
   apply RG;simp only[go_sem,f,f8,b];exact aX (r:=[_]) rfl ⟨by rw[e];rfl,rfl⟩
  have t:=zy b;have g:decide (s.length>32)=false:=ch O;apply RG;simp only[go_sem,f,f8,b,Int.toNat_zero,m];refine⟨O,?_⟩;refine Zl rfl Ex (DN _ _) ?_;rintro v H2⟨rfl,rfl⟩;cases j:qf (bZ (s.getD 0 0))
  rotate_left
  .have e:mW s=false:=by simp only[mW,j,Bool.or_true,cL,Bool.false_and]
   refine ai ?_;exact aX (r:=[_]) rfl ⟨by rw[e];rfl,rfl⟩
  have e:mW s=s.all fun c=>ng (bZ c):=by simp only[mW,h,g,j];simp
  rw[e];apply RG;simp only[go_sem,f8];refine bV (fun x=>s.length-x) (Bj s) (fun i w=>w=H2/\i<=s.length/\((s.drop i).all fun c=>ng (bZ c))=(s.all fun c=>ng (bZ c))) 0 al (by simp only[go_sem,Y,Bj]) ⟨rfl,aE _,rfl⟩ ?_;rintro i w ⟨rfl,hi,ha⟩ d;simp only[Bj];rcases aK i s.length with a|y
  .have o:=Z5 i s.length;have e1:=Z7 i;obtain⟨c,l⟩:∃c,s[i]?=some c:=⟨_,aY a⟩;have hb:=u5 l;have hd:s.drop i=c::s.drop (i+1):=by rw[jz a];rw[aY a]at l;rw[cX l]
   rw[hd,List.all_cons]at ha;refine d6 o hb ?_;refine⟨by (try simp only[f8]);omega,?_⟩;refine Zl rfl II (KN _ _) ?_;rintro v H2⟨rfl,rfl⟩;cases hp:ng (bZ c)
   .apply RG;simp only[go_sem,dg];exact aX (r:=[_]) rfl ⟨by rw[<-ha,hp];rfl,rfl⟩
   .apply RG;simp only[go_sem,cL,e1];exact d (i+1) _ _ O al (by simp only[go_sem,Y,Bj]) ⟨rfl,a,by rw[<-ha,hp,Bool.true_and]⟩
  .have:i=s.length:=by omega
   subst this;have o:decide ((s.length:Int)<(s.length:Int))=false:=ao;rw[js]at ha;refine bd o ?_;exact aX (r:=[_]) rfl ⟨by rw[<-ha];rfl,rfl⟩
def fX:au->Nat
 | []=>0
 |c::s=>if ng (bZ c)then fX s+1 else 0
def BM(i:Nat)(sb k:Nat):St:=⟨dn 22 [(0,.v (E i)),(1,.v (pt sb)),(4,.v (E k))],[]⟩
def Lf{H:PH}{sb i:Nat}(hs:a8 H sb 0 [.string ⟨⟨s⟩⟩])(hi:i<=s.length)(m:s.length<2^60):Zv 211 #[E i,pt sb] H fun v H2=>v=.string ⟨⟨(s.drop i).take (fX (s.drop i))⟩⟩/\H2=H:=by
 refine aP 22 func211 fun w0=>?_
 try simp only[E,pt]
 refine ai ?_;refine bV (fun x=>s.length-x) (BM i sb) (fun k H2=>H2=H/\i<=k/\k<=s.length/\fX (s.drop i)=(k-i)+fX (s.drop k)) i cN (by simp only[go_sem,Y,BM]) ⟨rfl,aR _,hi,by simp⟩ ?_;rintro k H2 ⟨rfl,g,f,hr⟩ b;simp only[BM];have fin:fX (s.drop k)=0->k-i=fX (s.drop i):=fun h=>by omega
 rcases aK k s.length with a|j
 .have e:=Z5 k s.length;have e1:=Z7 k;obtain⟨c,d⟩:∃c,s[k]?=some c:=⟨_,aY a⟩;have hb:=u5 d;have hd:s.drop k=c::s.drop (k+1):=by rw[jz a];rw[aY a]at d;rw[cX d]
  refine dL ?_;refine Zm (l:=[.string ⟨⟨s⟩⟩]) rfl hs (.inr ⟨gF,rfl⟩) ?_;apply RG;simp only[go_sem,f8,e];refine Zm (l:=[.string ⟨⟨s⟩⟩]) rfl hs (.inr ⟨gF,rfl⟩) ?_;refine dB hb ?_;refine⟨by (try simp only[f8]);omega,?_⟩;refine Zl rfl II (KN _ _) ?_;rintro v H2⟨rfl,rfl⟩;cases hp:ng (bZ c)
  .have h0:fX (s.drop k)=0:=by rw[hd,fX,hp];rfl
   refine dL ?_;refine Zm (l:=[.string ⟨⟨s⟩⟩]) rfl hs (.inr ⟨gF,rfl⟩) ?_;apply RG;simp only[go_sem,yW,fin h0];refine⟨by (try simp only[f8]);omega,?_⟩;exact aX (r:=[_]) rfl ⟨rfl,rfl⟩
  .refine dB e1 ?_;exact b (k+1) _ _ O cN (by simp only[go_sem,Y,BM]) ⟨rfl,O,a,by rw[hr,hd,fX,hp];simp;omega⟩
 .have:k=s.length:=by omega
  subst this;have e:decide ((s.length:Int)<(s.length:Int))=false:=ao;have h0:fX (s.drop s.length)=0:=by rw[js];rfl
  refine dL ?_;refine Zm (l:=[.string ⟨⟨s⟩⟩]) rfl hs (.inr ⟨gF,rfl⟩) ?_;apply RG;simp only[go_sem,f8,e];refine Zm (l:=[.string ⟨⟨s⟩⟩]) rfl hs (.inr ⟨gF,rfl⟩) ?_;apply RG;simp only[go_sem,yW,fin h0];refine⟨by (try simp only[f8]);omega,?_⟩;exact aX (r:=[_]) rfl ⟨rfl,rfl⟩
def Ve{H:PH}{sb fb i:Nat}(hs:a8 H sb 0 [.string ⟨⟨s⟩⟩])(hf:a8 H fb 0 [.func (.func 211) #[] #[pt sb]])(hi:i<=s.length)(a:s.length<2^60):
  Zv 213 #[E i,pt fb] H fun v H2=>v=(if mW ((s.drop i).take (fX (s.drop i)))then .tuple #[.int .u8 1,.string ⟨⟨(s.drop i).take (fX (s.drop i))⟩⟩]else .tuple #[.int .u8 0,.string ⟨⟨[]⟩⟩])/\H2=H:=by
 refine aP 12 func213 fun w0=>?_
 try simp only[E,pt]
 refine ai ?_;refine Zm (l:=[.func (.func 211) #[] #[pt sb]]) rfl hf (.inr ⟨Di,rfl⟩) ?_;refine dL ?_;refine Zl rfl IH (Lf hs hi a) ?_;rintro v H2⟨rfl,rfl⟩;refine ai ?_;refine Zl rfl QP (SS _ _) ?_;rintro v H2⟨rfl,rfl⟩;cases h:mW ((s.drop i).take (fX (s.drop i)))
 .refine ai ?_;exact aX (r:=[_,_]) rfl ⟨rfl,rfl⟩
 .refine ai ?_;exact aX (r:=[_,_]) rfl ⟨rfl,rfl⟩
def QS:ay prog 217:=⟨_,func217,rfl,rfl⟩
section
variable {C:Cx} {P:Program} {k:List Item} {σ:St} {H:PH}
variable{v:Value}{cs:Array Value}{kk:IntKind}{e:TypeId}
def Xk{o:Oper}{T:TypeId}{len n:Nat}{x y:Operand}(aa:o.op=.index T x y)(f:P.underlying T=some (.array len e))(hi:∃i,P.info? e=some i/\i.size=1)(ha:bu P e=some none)
  (d:ev σ x=.v (.agg cs)) (c:ev σ y=.v (.int kk n)) (h:n<len) (hv:cs.toList[n]?=some v):bR σ o.op=true/\eJ P (execOp (bp σ) o) H fun sv H2=>sv=.v v/\H2=H:=by
 constructor
 .simp[bR,aa,fx,Op.operands,d,c,fN]
 .intro w g;obtain⟨i,hi,hs⟩:=hi;have b:(sizeOf e).run P w=.ok 1 w:=by simp[sizeOf,typeInfo,program,Sem.run,hi,hs]
  have hp:=nj (P:=P) (w:=w) (T:=e) (cs:=cs) (n:=n) (v:=v) (by unfold iS;rw[ha];exact hv);have h0:(0:Int)<=(n:Int)/\(n:Int)<(len:Int):=⟨O,O⟩;have a:(execOp (bp σ) o).run P w=.ok (.value v) w:=by simp[execOp,aa,bp,d,c,Instr.index,asIntOf,fe f,run_underlying f,Result.andThen,b,h0,hp,ah h]
  rw[a];exact⟨H,cP.refl g,rfl,rfl⟩
def MZ{ol rem:Zq}{o:Oper}{T:TypeId}{len n:Nat}{x y:Operand}(f:bH ol σ o=some true)(aa:o.op=.index T x y)(g:C.P.underlying T=some (.array len e))(hi:∃i,C.P.info? e=some i/\i.size=1)(ha:bu C.P e=some none)
  (d:ev σ x=.v (.agg cs)) (c:ev σ y=.v (.int kk n)) (h:n<len) (hv:cs.toList[n]?=some v) (j:RC C (.op ol rem k) (σ.put o.dst (.v v)) H):RC C (.op ol (o::rem) k) σ H:=by
 obtain⟨a,b⟩:=Xk (H:=H) aa g hi ha d c h hv;exact jE f a (b.mono fun sv H2 ⟨e1,e2⟩=>by subst e1;subst e2;exact j)
end
def kR:List au:=[[60,61],[62,61],[61,61],[33,61],[38,38],[124,124],[43],[45],[42],[47],[37],[60],[62],[61],[33],[40],[41],[123],[125],[44],[59],[58]]
def sN:Zo:=kR.map fun x=>.string ⟨⟨x⟩⟩
def xm(H:PH):Prop:=a8 H 0 0 sN
def xm.le{I J:PH}(h:xm I)(k:I.le J):xm J:=a8.le h k
def MB:prog.underlying 317=some (.array 22 9):=ae
def Sv:(prog.info? 9).map (·.size)=some 1:=ae
def Su:∃i,prog.info? 9=some i/\i.size=1:=by
 have h:=Sv;cases e:prog.info? 9 with
 |none=>rw[e]at h;cases h
 |some i=>rw[e]at h;exact⟨i,rfl,cX h⟩
def BT(i sb k:Nat):St:=⟨dn 18 [(0,.v (E i)),(1,.v (pt sb)),(7,.v (.agg sN.toArray)),(8,.v (E k))],[]⟩
def BW(s:au)(i:Nat):Value:=match kR.find? fun x=>x.isPrefixOf (s.drop i)with
 |some x=>.tuple #[.int .u8 3,.string ⟨⟨x⟩⟩]
 |none=>.tuple #[.int .u8 0,.string ⟨⟨[]⟩⟩]
def WY{H:PH}{sb i:Nat}{s:au}(g:xm H)(hs:a8 H sb 0 [.string ⟨⟨s⟩⟩])(hi:i<=s.length)(h:s.length<2^60):
  Zv 217 #[E i,pt sb] H fun v H2=>v=BW s i/\H2=H:=by
 refine aP 18 func217 fun w0=>?_
 try simp only[E,pt]
 refine ai ?_;refine Zm (l:=sN) (v:=.agg sN.toArray) rfl g (.inl ⟨G4,rfl⟩) ?_;refine ai ?_;refine bV (fun k=>22-k) (BT i sb) (fun k H2=>H2=H/\k<=22/\kR.find? (fun x=>x.isPrefixOf (s.drop i))=(kR.drop k).find? fun x=>x.isPrefixOf (s.drop i)) 0 cN (by simp only[go_sem,Y,BT]) ⟨rfl,aE _,rfl⟩ ?_;rintro k H2 ⟨rfl,j,hf⟩ b;simp only[BT];rcases aK k 22 with a|f
 .have e:decide ((k:Int)<22)=true:=bm O;have e1:=Z7 k;obtain⟨x,d⟩:∃x,kR[k]?=some x:=⟨_,aY (by simpa[kR]using a)⟩;have hd:kR.drop k=x::kR.drop (k+1):=by
   have c:k<kR.length:=by simpa[kR]using a
   rw[jz c];rw[aY c]at d;rw[cX d]
  have hv:sN.toArray.toList[k]?=some (.string ⟨⟨x⟩⟩):=by simp[sN,d]
  have tk:(s.drop i).take (s.length-i)=s.drop i:=uy ao;rw[hd,List.find?_cons]at hf;refine eB e ?_;refine MZ (n:=k) rfl rfl (by exact MB) Su (by exact gF) rfl rfl a hv ?_;refine dL ?_;refine Zm (l:=[.string ⟨⟨s⟩⟩]) rfl hs (.inr ⟨gF,rfl⟩) ?_;apply RG;simp only[go_sem,f8,yW,tk];refine⟨O,?_⟩;refine Zl rfl IJ (KV _ _ _) ?_;rintro v H2⟨rfl,rfl⟩;cases hp:x.isPrefixOf (s.drop i)
  .rw[hp]at hf;refine dB e1 ?_;exact b (k+1) _ _ O cN (by simp only[go_sem,Y,BT]) ⟨rfl,a,hf⟩
  .rw[hp]at hf;refine ai ?_;exact aX (r:=[_,_]) rfl ⟨by unfold BW;rw[hf];rfl,rfl⟩
 .have:k=22:=by omega
  subst this;have e:decide ((22:Int)<22)=false:=by decide
  apply RG;simp only[go_sem,E,pt,dP,e];exact aX (r:=[_,_]) rfl ⟨by unfold BW;rw[hf];rfl,rfl⟩
end Go.Proofs.YtfaclfkpnmcmlaaGreatDoor
namespace Go.Proofs
open Go.Shelf
def lays171_ren:Go.Shelf.Ren:=⟨fun|171=>268|243=>295|246=>308|283=>315|284=>316|285=>317|286=>318|129=>280|317=>321|318=>322|319=>323|320=>324|337=>325|338=>326|n=>n,fun|3=>3|9=>9|2=>2|4=>4|171=>398|0=>0|53=>366|37=>268|5=>5|173=>400|212=>406|51=>23|20=>20|213=>407|46=>325|232=>408|233=>409|n=>n,fun|17=>3|18=>4|19=>5|n=>n⟩
theorem lays171:Go.Proofs.Lays.n171 prog lays171_ren:={
 mixed:=ae
 f129:=func280.trans (congrArg some ae)
 f171:=func268.trans (congrArg some ae)
 f243:=func295.trans (congrArg some ae)
 f246:=func308.trans (congrArg some ae)
 f283:=func315.trans (congrArg some ae)
 f284:=func316.trans (congrArg some ae)
 f285:=func317.trans (congrArg some ae)
 f286:=func318.trans (congrArg some ae)
 f317:=func321.trans (congrArg some ae)
 f318:=func322.trans (congrArg some ae)
 f319:=func323.trans (congrArg some ae)
 f320:=func324.trans (congrArg some ae)
 f337:=func325.trans (congrArg some ae)
 f338:=func326.trans (congrArg some ae)
 t0:=underlying0
 a0:=isAgg0
 z0:=sizeOf0
 v0:=zeroValue0
 t2:=underlying2
 a2:=isAgg2
 z2:=sizeOf2
 v2:=zeroValue2
 t3:=underlying3
 a3:=isAgg3
 z3:=sizeOf3
 v3:=zeroValue3
 t4:=underlying4
 a4:=isAgg4
 z4:=sizeOf4
 v4:=zeroValue4
 t5:=underlying5
 a5:=isAgg5
 z5:=sizeOf5
 v5:=zeroValue5
 t9:=underlying9
 a9:=isAgg9
 z9:=sizeOf9
 v9:=zeroValue9
 t20:=underlying20
 a20:=isAgg20
 z20:=sizeOf20
 v20:=zeroValue20
 t37:=underlying268
 a37:=isAgg268
 z37:=sizeOf268
 v37:=zeroValue268
 t46:=underlying325
 a46:=isAgg325
 z46:=sizeOf325
 v46:=zeroValue325
 t51:=underlying23
 a51:=isAgg23
 z51:=sizeOf23
 v51:=zeroValue23
 t53:=underlying366
 a53:=isAgg366
 z53:=sizeOf366
 v53:=zeroValue366
 t171:=underlying398
 a171:=isAgg398
 z171:=sizeOf398
 v171:=zeroValue398
 t173:=underlying400
 a173:=isAgg400
 z173:=sizeOf400
 v173:=zeroValue400
 t212:=underlying406
 a212:=isAgg406
 z212:=sizeOf406
 v212:=zeroValue406
 t213:=underlying407
 a213:=isAgg407
 z213:=sizeOf407
 t232:=underlying408
 a232:=isAgg408
 z232:=sizeOf408
 v232:=zeroValue408
 t233:=underlying409
 a233:=isAgg409
 z233:=sizeOf409
 v233:=zeroValue409
 g17:=ae
 g18:=ae
 g19:=by kernel_rfl }
def laysC172_ren:Go.Shelf.Ren:=⟨fun|172=>267|244=>293|245=>294|247=>303|279=>304|280=>305|281=>306|282=>307|287=>312|316=>313|171=>268|205=>314|321=>319|322=>320|243=>295|246=>308|283=>315|284=>316|285=>317|286=>318|129=>280|317=>321|318=>322|319=>323|320=>324|337=>325|338=>326|n=>n,fun|9=>9|3=>3|75=>284|76=>285|4=>4|5=>5|167=>383|37=>268|0=>0|85=>384|2=>2|168=>386|53=>366|175=>393|46=>325|210=>396|127=>343|145=>405|143=>403|21=>21|171=>398|173=>400|212=>406|51=>23|20=>20|213=>407|232=>408|233=>409|80=>223|n=>n,fun|15=>1|16=>2|17=>3|18=>4|19=>5|n=>n⟩
theorem laysC172:Go.Proofs.LaysC.n172 prog laysC172_ren:={
 mixed:=ae
 f129:=func280.trans (congrArg some ae)
 f171:=func268.trans (congrArg some ae)
 f172:=func267.trans (congrArg some ae)
 f205:=func314.trans (congrArg some ae)
 f243:=func295.trans (congrArg some ae)
 f244:=func293.trans (congrArg some ae)
 f245:=func294.trans (congrArg some ae)
 f246:=func308.trans (congrArg some ae)
 f247:=func303.trans (congrArg some ae)
 f279:=func304.trans (congrArg some ae)
 f280:=func305.trans (congrArg some ae)
 f281:=func306.trans (congrArg some ae)
 f282:=func307.trans (congrArg some ae)
 f283:=func315.trans (congrArg some ae)
 f284:=func316.trans (congrArg some ae)
 f285:=func317.trans (congrArg some ae)
 f286:=func318.trans (congrArg some ae)
 f287:=func312.trans (congrArg some ae)
 f316:=func313.trans (congrArg some ae)
 f317:=func321.trans (congrArg some ae)
 f318:=func322.trans (congrArg some ae)
 f319:=func323.trans (congrArg some ae)
 f320:=func324.trans (congrArg some ae)
 f321:=func319.trans (congrArg some ae)
 f322:=func320.trans (congrArg some ae)
 f337:=func325.trans (congrArg some ae)
 f338:=func326.trans (congrArg some ae)
 t0:=underlying0
 a0:=isAgg0
 z0:=sizeOf0
 v0:=zeroValue0
 t2:=underlying2
 a2:=isAgg2
 z2:=sizeOf2
 v2:=zeroValue2
 t3:=underlying3
 a3:=isAgg3
 z3:=sizeOf3
 v3:=zeroValue3
 t4:=underlying4
 a4:=isAgg4
 z4:=sizeOf4
 v4:=zeroValue4
 t5:=underlying5
 a5:=isAgg5
 z5:=sizeOf5
 v5:=zeroValue5
 t9:=underlying9
 a9:=isAgg9
 z9:=sizeOf9
 v9:=zeroValue9
 t20:=underlying20
 a20:=isAgg20
 z20:=sizeOf20
 v20:=zeroValue20
 t21:=underlying21
 a21:=isAgg21
 z21:=sizeOf21
 v21:=zeroValue21
 t37:=underlying268
 a37:=isAgg268
 z37:=sizeOf268
 v37:=zeroValue268
 t46:=underlying325
 a46:=isAgg325
 z46:=sizeOf325
 v46:=zeroValue325
 t51:=underlying23
 a51:=isAgg23
 z51:=sizeOf23
 v51:=zeroValue23
 t53:=underlying366
 a53:=isAgg366
 z53:=sizeOf366
 v53:=zeroValue366
 t75:=underlying284
 a75:=isAgg284
 z75:=sizeOf284
 v75:=zeroValue284
 t76:=underlying285
 a76:=isAgg285
 z76:=sizeOf285
 v76:=zeroValue285
 t85:=underlying384
 a85:=isAgg384
 z85:=sizeOf384
 v85:=zeroValue384
 t127:=underlying343
 a127:=isAgg343
 z127:=sizeOf343
 v127:=zeroValue343
 t143:=underlying403
 a143:=isAgg403
 z143:=sizeOf403
 v143:=zeroValue403
 t145:=underlying405
 a145:=isAgg405
 z145:=sizeOf405
 v145:=zeroValue405
 t167:=underlying383
 a167:=isAgg383
 z167:=sizeOf383
 v167:=zeroValue383
 t168:=underlying386
 a168:=isAgg386
 z168:=sizeOf386
 v168:=zeroValue386
 t171:=underlying398
 a171:=isAgg398
 z171:=sizeOf398
 v171:=zeroValue398
 t173:=underlying400
 a173:=isAgg400
 z173:=sizeOf400
 v173:=zeroValue400
 t175:=underlying393
 a175:=isAgg393
 z175:=sizeOf393
 v175:=zeroValue393
 t210:=underlying396
 a210:=isAgg396
 z210:=sizeOf396
 v210:=zeroValue396
 t212:=underlying406
 a212:=isAgg406
 z212:=sizeOf406
 v212:=zeroValue406
 t213:=underlying407
 a213:=isAgg407
 z213:=sizeOf407
 t232:=underlying408
 a232:=isAgg408
 z232:=sizeOf408
 v232:=zeroValue408
 t233:=underlying409
 a233:=isAgg409
 z233:=sizeOf409
 v233:=zeroValue409
 g15:=ae
 g16:=ae
 g17:=ae
 g18:=ae
 g19:=ae
 t80:=underlying223
 a80:=isAgg223
 z80:=sizeOf223
 v80:=zeroValue223
 i0:=ae
 i2:=ae
 i3:=ae
 i4:=ae
 i5:=ae
 i9:=ae
 i20:=ae
 i21:=ae
 i37:=ae
 i46:=ae
 i51:=ae
 i53:=ae
 i75:=ae
 i76:=ae
 i80:=ae
 i85:=ae
 i127:=ae
 i143:=ae
 i145:=ae
 i167:=ae
 i168:=ae
 i171:=ae
 i173:=ae
 i175:=ae
 i210:=ae
 i212:=ae
 i232:=ae
 i233:=ae
 m15:=ae
 m16:=ae
 m17:=ae
 m18:=ae
 m19:=ae
 c0:=ae
 c2:=ae
 c3:=ae
 c4:=ae
 c5:=ae
 c9:=ae
 c20:=ae
 c21:=ae
 c37:=ae
 c46:=ae
 c51:=ae
 c53:=ae
 c75:=ae
 c76:=ae
 c80:=ae
 c85:=ae
 c127:=ae
 c143:=ae
 c145:=ae
 c167:=ae
 c168:=ae
 c171:=ae
 c173:=ae
 c175:=ae
 c210:=ae
 c212:=ae
 c213:=ae
 c232:=ae
 c233:=by kernel_rfl }
open Go.RowKit in
theorem strconv_Atoi_ok(s:ByteArray)(a:s.size<=9223372036854775806)(v:Int)(h:Lib.atoiAll s.data.toList=.ok v)(w:World):
  Calls prog 267 #[.string s] w fun e b=>e=.returned (.tuple #[.int .i64 v,.nilIface])/\(b=w\/∃t,b=Lib.bytesWorld w 5 t):=Any.strconv_Atoi_ok laysC172 s a v h w
open Go.RowKit in
theorem strconv_Atoi_syntax(s:ByteArray)(a:s.size<=281474976710656)(h:Lib.atoiAll s.data.toList=Lib.NumEnd.syntax)(ev:Value)(w:World)(hv:w.cell? ⟨1,0,none⟩=some ev)(b:ev=.nilIface\/∃d f,ev=.iface d f):
  Calls prog 267 #[.string s] w fun e c=>∃N,e=.returned (.tuple #[.int .i64 (0),.iface 386 (.pointer (some ⟨N,0,none⟩))])/\w.heap.size<=N/\c.heap[N]?=some (.cells #[.string ⟨#[65,116,111,105]⟩,.string s,ev] 396 (0,0))/\Below w.heap.size w c:=Any.strconv_Atoi_syntax laysC172 s a h ev w hv b
theorem laysM171:Go.Proofs.LaysM.n171 prog lays171_ren:={ lays171 with
 i0:=ae
 i2:=ae
 i3:=ae
 i4:=ae
 i5:=ae
 i9:=ae
 i20:=ae
 i37:=ae
 i46:=ae
 i51:=ae
 i53:=ae
 i171:=ae
 i173:=ae
 i212:=ae
 i232:=ae
 i233:=ae
 m17:=ae
 m18:=ae
 m19:=by kernel_rfl }
open Go.RowKit in
theorem strconv_Atoi_range(s:ByteArray)(a:s.size<=281474976710656)(h:Lib.atoiAll s.data.toList=.range)(ev:Value)(w:World)(hv:w.cell? ⟨2,0,none⟩=some ev)(b:ev=.nilIface\/∃d f,ev=.iface d f):
  Calls prog 267 #[.string s] w fun e c=>∃N,e=.returned (.tuple #[.int .i64 (Lib.atoiSat s.data.toList),.iface 386 (.pointer (some ⟨N,0,none⟩))])/\w.heap.size<=N/\c.heap[N]?=some (.cells #[.string ⟨#[65,116,111,105]⟩,.string s,ev] 396 (0,0))/\Below w.heap.size w c:=Any.strconv_Atoi_range laysC172 s a h ev w hv b
open Go.Sort in
theorem strconv_Itoa (n:Int) (h0:-9223372036854775808<=n) (h1:n<=9223372036854775807) (w:World) (a:Lib.TabIs prog w "internal/strconv.uint64pow10" .u64 Lib.pow10Tab) :
  Calls prog 268 #[.int .i64 n] w fun e b=>e=.returned (.string ⟨(Lib.itoa n).toArray⟩)/\∃k os,b=grow (w.drewN k) os:=Any.strconv_Itoa laysM171 n h0 h1 w a
end Go.Proofs
namespace Go.Proofs.YtfaclfkpnmcmlaaGreatDoor
open Go Go.Sx Dg Syn
def Ey:ay prog 267:=⟨_,func267,rfl,rfl⟩
def Q7:ay prog 268:=⟨_,func268,rfl,rfl⟩
def QR:ay prog 216:=⟨_,func216,rfl,rfl⟩
def QQ:ay prog 215:=⟨_,func215,rfl,rfl⟩
section
variable {C:Cx} {P:Program} {k:List Item} {σ:St} {H:PH}
variable{v:Value}{ms:Array (String×TypeId)}{T2:TypeId}
def Xi{o:Oper}{T:TypeId}{x y:Operand}{b:Bool}(aa:o.op=.binOp .eql T x y T2)(f:P.underlying T=some (.interface ms))
  (d:ev σ x=.v v) (i:y=.const .nilIface) (hv:v=.nilIface/\b=true\/(∃t p,v=.iface t p)/\b=false) :
  bR σ o.op=true/\eJ P (execOp (bp σ) o) H fun sv H2=>sv=.v (.bool b)/\H2=H:=by
 subst i;have c:ev σ (.const .nilIface)=.v .nilIface:=rfl;constructor
 .simp[bR,aa,fx,Op.operands,d,c,fN]
 .intro w e;have a:(execOp (bp σ) o).run P w=.ok (.value (.bool b)) w:=by
   have:∀k,Op.maxDepth=k+1->(Op.equal T v .nilIface).run P w=.ok b w:=by intro k g;unfold Op.equal;rw[g];rcases hv with ⟨rfl,rfl⟩|⟨⟨t,p,rfl⟩,rfl⟩<;>simp[Op.equalIn,run_underlying f,ew,Result.andThen]
   have h:=this 9999 rfl;rcases hv with ⟨rfl,rfl⟩|⟨⟨t,p,rfl⟩,rfl⟩<;>simp[execOp,aa,bp,d,c,eqGuard,binOp,ew,h,Result.andThen]
  rw[a];exact⟨H,cP.refl e,rfl,rfl⟩
def zF{ol rem:Zq}{o:Oper}{T:TypeId}{x y:Operand}(b:Bool)(c:bH ol σ o=some true)(aa:o.op=.binOp .eql T x y T2)(d:C.P.underlying T=some (.interface ms))
  (a:ev σ x=.v v) (f:y=.const .nilIface) (hv:v=.nilIface/\b=true\/(∃t p,v=.iface t p)/\b=false) (e:RC C (.op ol rem k) (σ.put o.dst (.v (.bool b))) H):RC C (.op ol (o::rem) k) σ H:=by
 obtain⟨p,q⟩:=Xi (H:=H) aa d a f hv;exact jE c p (q.mono fun sv H2 ⟨e1,e2⟩=>by subst e1;subst e2;exact e)
end
def wF:∃ms,prog.underlying 284=some (.interface ms):=⟨_,underlying284⟩
def cP.below{H:PH}{w w2:World}(a:Sx.Sub H w)(h:RowKit.Below w.heap.size w w2):cP H w H w2 where
 sub b o hb:=by
  have h1:=a b o hb;have:b<w.heap.size:=by
   rcases aK b w.heap.size with h|h
   .exact h
   .rw[CG h]at h1;cases h1
  rw[h.block b this];exact h1
 size:=h.size
 priv b hb _:=h.block b hb
 dom _ _ h:=h
 os:=h.os
 tape:=h.tape
 out:=h.output
variable{v:Int}{s:au}
def Ok{H:PH}(c:s.length<2^40)(h:Lib.atoiAll s=.ok v):Zv 267 #[.string ⟨⟨s⟩⟩] H fun r H2=>r=.tuple #[.int .i64 v,.nilIface]/\H2=H:=by
 intro w a;refine(strconv_Atoi_ok ⟨⟨s⟩⟩ (by (try simp only[f8]);omega) v h w).mono ?_;rintro e w2 ⟨rfl,b⟩;refine⟨H,cP.below a ?_,rfl,rfl⟩;rcases b with rfl|⟨t,rfl⟩
 .exact RowKit.Below.refl _ _
 .exact Lib.bytesWorld_below _ _ _
def wX(H:PH):Prop:=∃a b,a8 H 1 0 [.iface a b]
variable{I J:PH}
def wX.le(h:wX I)(k:I.le J):wX J:=let ⟨a,b,c⟩:=h;⟨a,b,a8.le c k⟩
def Oj{H:PH}(i:s.length<2^40)(h:Lib.atoiAll s=Lib.NumEnd.syntax)(g:wX H):Zv 267 #[.string ⟨⟨s⟩⟩] H fun r H2=>(∃p,r=.tuple #[.int .i64 0,.iface 386 p])/\H2=H:=by
 intro w c;obtain⟨a,b,cs,ty,j,h1,h2,h3⟩:=g;have hb:=c 1 _ h1;have hv:w.cell? ⟨1,0,none⟩=some (.iface a b):=by
  have d:cs[0]?=some (.iface a b):=by have:=congrArg (fun l:Zo=>l[0]?) h3;simpa using this
  simp[World.cell?,hb,d]
 refine(strconv_Atoi_syntax ⟨⟨s⟩⟩ (by (try simp only[f8]);omega) h _ w hv (.inr ⟨a,b,rfl⟩)).mono ?_;rintro e w2 ⟨N,rfl,_,_,f⟩;exact⟨H,cP.below c f,⟨_,rfl⟩,rfl⟩
def wY(H:PH):Prop:=∃a b,a8 H 2 0 [.iface a b]
def wY.le(h:wY I)(k:I.le J):wY J:=let ⟨a,b,c⟩:=h;⟨a,b,a8.le c k⟩
def Ol{H:PH}(i:s.length<2^40)(h:Lib.atoiAll s=.range)(g:wY H):Zv 267 #[.string ⟨⟨s⟩⟩] H fun r H2=>(∃p,r=.tuple #[.int .i64 (Lib.atoiSat s),.iface 386 p])/\H2=H:=by
 intro w c;obtain⟨a,b,cs,ty,j,h1,h2,h3⟩:=g;have hb:=c 2 _ h1;have hv:w.cell? ⟨2,0,none⟩=some (.iface a b):=by
  have d:cs[0]?=some (.iface a b):=by have:=congrArg (fun l:Zo=>l[0]?) h3;simpa using this
  simp[World.cell?,hb,d]
 refine(strconv_Atoi_range ⟨⟨s⟩⟩ (by (try simp only[f8]);omega) h _ w hv (.inr ⟨a,b,rfl⟩)).mono ?_;rintro e w2 ⟨N,rfl,_,_,f⟩;exact⟨H,cP.below c f,⟨_,rfl⟩,rfl⟩
def xp(H:PH):Prop:=∃ty a,H 3=some (.cells (Lib.pow10Tab.map fun z=>Value.int .u64 z).toArray ty a)
def xp.le(h:xp I)(k:I.le J):xp J:=let ⟨a,b,c⟩:=h;⟨a,b,k 3 _ c⟩
def Eg:prog.globalNamed "internal/strconv.uint64pow10"=some 3:=ae
theorem SY{H:PH}(h0:-9223372036854775808<=v)(h1:v<=9223372036854775807)(g:xp H):Zv 268 #[.int .i64 v] H fun r H2=>r=.string ⟨⟨Lib.itoa v⟩⟩/\H2=H:=by
 intro w d;obtain⟨ty,i,hb⟩:=g;have hb:=d 3 _ hb;have a:Lib.TabIs prog w "internal/strconv.uint64pow10" .u64 Lib.pow10Tab:=by unfold Lib.TabIs World.var?;rw[Eg];simp[hb]
 refine(strconv_Itoa v h0 h1 w a).mono ?_;rintro e w2 ⟨rfl,k,os,rfl⟩;refine⟨H,?_,rfl,rfl⟩;have f:∀(b:Nat) (o:Obj),w.heap[b]?=some o->(w.heap++os)[b]?=some o:=by
  intro b o h;have:b<w.heap.size:=by
   rcases aK b w.heap.size with h2|h2
   .exact h2
   .rw[CG h2]at h;cases h
  rw[Array.getElem?_append_left this];exact h
 exact{
     sub:=fun b o h=>f b o (d b o h)
     size:=by simp[Sort.grow,World.drewN]
     priv:=fun b c _=>by simp only[Sort.grow,World.drewN];rw[Array.getElem?_append_left c]
     dom:=fun _ _ h=>h
     os:=rfl
     tape:=rfl
     out:=rfl }
def me(s:au):Bool:=match Lib.atoiAll s with
 | .ok v=>decide (v<=2147483647) && decide (Lib.itoa v=s) && qf (bZ (s.getD 0 0))
 |_=>false
def ib(H:PH):Prop:=xm H/\wX H/\wY H/\xp H
def ib.le(h:ib I)(k:I.le J):ib J:=⟨h.1.le k,h.2.1.le k,h.2.2.1.le k,h.2.2.2.le k⟩
def Pp:∀u,Lib.decDigits u≠[]:=by intro u h;have:=Lib.decDigits_length u;rw[h]at this;rw[Lib.decDigits]at h;split at h<;>simp at h
def Jt(v:Int):Lib.itoa v≠[]:=by
 unfold Lib.itoa;split
 .simp
 .exact Pp _
def Oi(h:Lib.atoiAll s=.ok v):-9223372036854775808<=v/\v<=9223372036854775807:=by
 unfold Lib.atoiAll at h;split at h
 .cases h
 simp only at h;split at h
 .cases h
 .cases h
 split at h
 .cases h
 split at h
 .cases h
 cases h
 split<;>omega
def Oq{a b:au}:(a == b)=decide (a=b):=by
 by_cases h:a=b
 .subst h;simp
 .simp[h]
def SU{H:PH}(b:s.length<2^40)(g:ib H):Zv 216 #[.string ⟨⟨s⟩⟩] H fun v H2=>v=.bool (me s)/\H2=H:=by
 obtain⟨_,l,d,j⟩:=g;refine aP 27 func216 fun w0=>?_;refine ai ?_;cases h:Lib.atoiAll s with
 |ok v=>
  obtain⟨n,m⟩:=Oi h;refine Zl rfl Ey (Ok b h) ?_;rintro r H2⟨rfl,rfl⟩;cases a:decide (v<=2147483647)
  .refine dB a ?_;refine zF true rfl rfl wF.choose_spec rfl rfl (.inl ⟨rfl,rfl⟩) ?_;refine dB a ?_;exact aX (r:=[_]) rfl ⟨by unfold me;simp[h,a];rfl,rfl⟩
  .refine dB a ?_;refine zF true rfl rfl wF.choose_spec rfl rfl (.inl ⟨rfl,rfl⟩) ?_;refine dB a ?_;refine Zl rfl Q7 (SY n m j) ?_;rintro r H2⟨rfl,rfl⟩;by_cases hi:Lib.itoa v=s
   .subst hi;have hb:(Lib.itoa v == Lib.itoa v)=true:=ao;obtain⟨c,r,f⟩:∃c r,Lib.itoa v=c::r:=by
     cases e:Lib.itoa v with
     |nil=>exact absurd e (Jt v)
     |cons c r=>exact⟨c,r,rfl⟩
    refine dB hb ?_;refine⟨by rw[f];simp,?_⟩;refine Zl rfl Ex (DN _ _) ?_;rintro r H2⟨rfl,rfl⟩;have h0:(Lib.itoa v)[0]?=some ((Lib.itoa v).getD 0 0):=by rw[f];rfl
    rw[u5 (i:=0) h0];refine ai ?_;exact aX (r:=[_]) rfl ⟨by unfold me;simp[h,a];rfl,rfl⟩
   .have hb:(Lib.itoa v == s)=false:=by simp[hi]
    refine dB hb ?_;exact aX (r:=[_]) rfl ⟨by unfold me;simp[h,a,hi];rfl,rfl⟩
 |range=>refine Zl rfl Ey (Ol b h d) ?_;rintro v H2⟨⟨p,rfl⟩,rfl⟩;refine ai ?_;refine zF false rfl rfl wF.choose_spec rfl rfl (.inr ⟨⟨_,_,rfl⟩,rfl⟩) ?_;refine ai ?_;exact aX (r:=[_]) rfl ⟨by unfold me;rw[h];rfl,rfl⟩
 |_=>refine Zl rfl Ey (Oj b h l) ?_;rintro v H2⟨⟨p,rfl⟩,rfl⟩;refine ai ?_;refine zF false rfl rfl wF.choose_spec rfl rfl (.inr ⟨⟨_,_,rfl⟩,rfl⟩) ?_;refine ai ?_;exact aX (r:=[_]) rfl ⟨by unfold me;rw[h];rfl,rfl⟩
def Vs{H:PH}{sb fb i:Nat}(b:ib H)(hs:a8 H sb 0 [.string ⟨⟨s⟩⟩])(hf:a8 H fb 0 [.func (.func 211) #[] #[pt sb]])(hi:i<=s.length)(c:s.length<2^40):
  Zv 215 #[E i,pt fb] H fun v H2=>v=(if me ((s.drop i).take (fX (s.drop i)))then .tuple #[.int .u8 2,.string ⟨⟨(s.drop i).take (fX (s.drop i))⟩⟩]else .tuple #[.int .u8 0,.string ⟨⟨[]⟩⟩])/\H2=H:=by
 refine aP 12 func215 fun w0=>?_
 try simp only[E,pt]
 refine ai ?_;refine Zm (l:=[.func (.func 211) #[] #[pt sb]]) rfl hf (.inr ⟨Di,rfl⟩) ?_;refine dL ?_;refine Zl rfl IH (Lf hs hi O) ?_;rintro v H2⟨rfl,rfl⟩;refine ai ?_;have a:((s.drop i).take (fX (s.drop i))).length<2^40:=by simp only[lK,wP];omega
 refine Zl rfl QR (SU a b) ?_;rintro v H2⟨rfl,rfl⟩;cases hb:me ((s.drop i).take (fX (s.drop i)))
 .refine ai ?_;exact aX (r:=[_,_]) rfl ⟨rfl,rfl⟩
 .refine ai ?_;exact aX (r:=[_,_]) rfl ⟨rfl,rfl⟩
open Go Go.Sx Dg Syn
def iM(d:au):Nat×au:=
 if mW (d.take (fX d))then (1,d.take (fX d))
 else if me (d.take (fX d))then (2,d.take (fX d))
 else match kR.find? fun x=>x.isPrefixOf d with
  |some x=>(3,x)
  |none=>(0,[])
def Aj:au:=[47,47]
def su:Nat->au->Option (List (Nat×au))
 |0,_=>none
 |_+1,[]=>some []
 |n+1,c::s=>
  if tx (bZ c)then su n s
  else if Aj.isPrefixOf (c::s)then some []
  else if (iM (c::s)).1=0 then none
  else (su n ((c::s).drop (iM (c::s)).2.length)).map (iM (c::s)::·)
def Vr{x:au}(h:me x=true):x≠[]:=by
 unfold me at h;split at h
 .rename_i v hv;simp only[cZ,dE]at h;intro e;exact Jt v (h.1.2.trans e)
 .cases h
def Vm{x:au}(h:mW x=true):x≠[]:=by intro e;subst e;revert h;decide
def WZ:∀x∈kR,x≠[]:=by decide
def ES{d:au}(h:(iM d).1≠0):0<(iM d).2.length/\(iM d).2.length<=d.length/\((iM d).2 <+: d)/\(iM d).1<=3:=by
 unfold iM at h |-;have hp:=List.take_prefix (fX d) d;split
 .rename_i h1;exact⟨List.length_pos_iff.2 (Vm h1),hp.length_le,hp,show 1<=3 by decide⟩
 .split
  .rename_i h1;exact⟨List.length_pos_iff.2 (Vr h1),hp.length_le,hp,show 2<=3 by decide⟩
  .split
   .rename_i x a;have h2:=List.find?_some a;have h3:=List.mem_of_find?_eq_some a;have h4:=List.isPrefixOf_iff_prefix.1 h2;exact⟨List.length_pos_iff.2 (WZ x h3),h4.length_le,h4,show 3<=3 by decide⟩
   .rename_i h1 h2 _ a;rw[ab h1,ab h2,a]at h;exact absurd rfl h
def ET:∀(n m:Nat) (d:au),d.length<n->d.length<m->su n d=su m d
 |0,_,_,h,_=>by omega
 |_+1,0,_,_,h=>by omega
 |n+1,m+1,[],_,_=>rfl
 |n+1,m+1,c::s,h1,h2=>by
  simp only[bl]at h1 h2;rw[su,su,ET n m s O O];split
  .rfl
  .split
   .rfl
   .split
    .rfl
    .rename_i h3;obtain⟨a,b,_⟩:=ES h3;rw[ET n m ((c::s).drop (iM (c::s)).2.length) (by simp only[wP,bl]at b |-;omega) (by simp only[wP,bl]at b |-;omega)]
def qu(d:au):Option (List (Nat×au)):=su (d.length+1) d
theorem Uw:qu []=some []:=rfl
def Uv(c:UInt8)(s:au):qu (c::s)=if tx (bZ c)then qu s
  else if Aj.isPrefixOf (c::s)then some []
  else if (iM (c::s)).1=0 then none
  else (qu ((c::s).drop (iM (c::s)).2.length)).map (iM (c::s)::·):=by
 unfold qu;rw[bl,su];split
 .rfl
 .split
  .rfl
  .split
   .rfl
   .rename_i h3;obtain⟨a,b,_⟩:=ES h3;rw[ET (s.length+1) (((c::s).drop (iM (c::s)).2.length).length+1) _ (by simp only[wP,bl]at b |-;omega) O]
def qv(s:au):Option (List (Nat×au)):=if s.all fun c=>mg (bZ c)then qu s else none
def mP(k:Nat)(x:au):Bool:=decide (qv x=some [(k,x)])
def dC(x:Nat×au):Tok:=⟨x.1,x.2,tt,true⟩
def refit(t:Tok):Tok:={ t with fits:=mP t.kind t.text }
end Go.Proofs.YtfaclfkpnmcmlaaGreatDoor
namespace Go.Sx
open Go
section
variable {C:Cx} {P:Program} {k:List Item} {σ:St} {H:PH}
variable{n:Nat}
def Zj{zs:Array Value}(h:zs.toList.all one=true):(Builtin.zeroCells zs n).toList.length=n*zs.size/\(Builtin.zeroCells zs n).toList.all one=true:=by
 constructor
 .simp[Builtin.zeroCells]
 .rw[sZ];intro v hv;simp only[Builtin.zeroCells,Array.toList_map,my,Array.mem_toList_iff,Array.mem_range]at hv;obtain⟨i,hi,rfl⟩:=hv;have a:0<zs.size:=by
   rcases jA zs.size with h0|h0
   .rw[h0]at hi;simp at hi
   .exact h0
  have hm:=Nat.mod_lt i a;rw[getElem!_pos zs _ hm];exact List.all_eq_true.1 h _ (Array.mem_toList_iff.2 (Array.getElem_mem hm))
variable{cur:Array Value}{size:Nat}{z:Value}
def O3{t ty e:TypeId}(u:P.underlying t=some (.slice e))(a:br P e=some z)(l:z.cells.size=size)(h1:z.cells.toList.all one=true){g o c:Nat}
  (j:H g=some (.cells cur e (0,0))) (x:o+n*size<=cur.size) (w:World) (p:Sub H w) :
  ∃w2 ys,ys.length=n*size/\(Builtin.clear_ #[t] ty #[.slice (some ⟨g,o,none⟩) n c]).run P w=.ok (.tuple #[]) w2/\cP H w (H.put g (.cells (bN cur.toList o ys).toArray e (0,0))) w2:=by
 cases n with
 |zero=>
  refine⟨w,[],by simp,by simp[Builtin.clear_,run_underlying u],?_⟩;have K:H.put g (.cells (bN cur.toList o []).toArray e (0,0))=H:=by
   funext b;by_cases y:b=g
   .subst y;simp[PH.put,bN,j]
   .simp[PH.put,y]
  rw[K];exact cP.refl p
 |succ n=>
 have f:=p _ _ j;rw[show cur=cur.toList.toArray from by simp]at f;obtain⟨s,J⟩:=Zj (n:=n+1) h1;rw[l]at s;have m:(zeroValue e).run P w=.ok z w:=by
  unfold br at a;cases hi:P.info? e with
  |none=>rw[hi]at a;cases a
  |some i=>rw[hi]at a;have a:i.zero=some z:=a;simp[zeroValue,typeInfo,program,Sem.run,hi,a,Result.andThen]
 obtain⟨w2,I,G,r,L,F,B,A⟩:=yH (P:=P) g e (Builtin.zeroCells z.cells (n+1)).toList 0 o cur.toList w f (by simp only[ot]at *;omega) fun v hv=>List.all_eq_true.1 J v hv;refine⟨w2,_,s,?_,?_⟩
 .simp[Builtin.clear_,run_underlying u,m,Result.andThen,I]
 .refine⟨fun c o' h=>?_,O,fun c q d=>r c (fun e=>by subst e;rw[j]at d;cases d),fun c q d=>?_,F,B,A⟩
  .by_cases e:c=g
   .subst e;simp only[PH.put,cu]at h;cases h;simpa using G
   .simp only[PH.put,ab e]at h;rw[r c e];exact p _ _ h
  .have:c≠g:=fun e=>by subst e;rw[j]at d;cases d
   simp[PH.put,this,d]
variable{x:Operand}{o:Oper}
def Xh{t e:TypeId}{g off c:Nat}(j:P.underlying t=some (.slice e))(h:br P e=some z)(d:z.cells.size=size)(h1:z.cells.toList.all one=true)(aa:o.op=.call ⟨.builtin .clear,#[x],#[t]⟩)
  (f:ev σ x=.v (.slice (some ⟨g,off,none⟩) n c)) (m:H g=some (.cells cur e (0,0))) (b:off+n*size<=cur.size) :
  bR σ o.op=true/\eJ P (execOp (bp σ) o) H fun sv H2=>∃ys,sv=.v (.tuple #[])/\ys.length=n*size/\H2=H.put g (.cells (bN cur.toList off ys).toArray e (0,0)):=by
 constructor
 .simp[bR,aa,fx,Op.operands,Call.operands,f,fN]
 .intro w i;obtain⟨w2,ys,l,a,st⟩:=O3 (ty:=o.type) (c:=c) j h d h1 m b w i;have:(execOp (bp σ) o).run P w=.ok (.value (.tuple #[])) w2:=by simp[execOp,aa,resolve,bp,f,invoke,builtin,Result.andThen,a]
  rw[this];exact⟨_,st,ys,rfl,l,rfl⟩
def MY{ol rem:Zq}{t e:TypeId}{g off c:Nat}{I:PH}{l:Zt}(hd:Dj (I::sg g (.cells cur e (0,0))::l))(p:C.P.underlying t=some (.slice e))(i:br C.P e=some z)(f:z.cells.size=size)(h1:z.cells.toList.all one=true)
  (m:bH ol σ o=some true) (aa:o.op=.call ⟨.builtin .clear,#[x],#[t]⟩) (j:ev σ x=.v (.slice (some ⟨g,off,none⟩) n c)) (d:off+n*size<=cur.size)
  (q:∀ys,ys.length=n*size->Dj (I::sg g (.cells (bN cur.toList off ys).toArray e (0,0))::l)->RC C (.op ol rem k) (σ.put o.dst (.v (.tuple #[]))) (U (I::sg g (.cells (bN cur.toList off ys).toArray e (0,0))::l))):RC C (.op ol (o::rem) k) σ (U (I::sg g (.cells cur e (0,0))::l)):=by
 obtain⟨a,b⟩:=Xh (σ:=σ) p i f h1 aa j (ju hd _ _ (gZ _ _)) d;refine jE m a (b.mono fun sv H2 ⟨ys,e1,e2,r⟩=>?_);subst e1;subst r;obtain⟨e1,h⟩:=tY (o':=.cells (bN cur.toList off ys).toArray e (0,0)) hd;rw[e1];exact q ys e2 h
def uK{ol:Zq}{fr:cw}{str:cC}{r1 r2:List (Nat×Oper)}{i:Nat}{l':List (Nat×Oper)}{T:TypeId}{b off:Nat}{l:Zo}{v:Value}(hf:fr.j.contains i=true)(f:fr.J.le H)(c:bH ol σ o=some true)(aa:o.op=.load T x)(a:ev σ x=.v (.pointer (some ⟨b,off,none⟩)))(h:a8 fr.J b off l)
  (e:bu C.P T=some (some l.length)/\v=.agg l.toArray\/bu C.P T=some none/\l=[v]) (d:oC C ol fr str r1 r2 l' k (σ.put o.dst (.v v)) H):oC C ol fr str r1 r2 ((i,o)::l') k σ H:=by
 obtain⟨h1,h2⟩:=AY (P:=C.P) aa a h e;exact .inr ⟨c,by rw[show fm o.op=.val by rw[aa];rfl];exact⟨_,.inr (.inr ⟨hf,f,v,rfl,h1,h2⟩),d⟩⟩
def uH{α:Type}(S:α->St)(Q:α->PH->Prop){p:Prop}(h1:(∀a σ' H,Q a H->iT (S a).tm σ'.tm->kS (S a).bx σ'.bx->RC C (.st k) σ' H)->p)(h2:∀a H,Q a H->RC C (.st k) (S a) H):p:=
 h1 fun a _ H b ht hb=>gP ht hb (h2 a H b)
def GP{id:Nat}{ops:Array Oper}(hm:C.P.follows .mixedOrders=true)(κ:Zp)(p q:Nat)(l j:Zp)(fr str o f:Zp)(J:PH)(a:qC ops.toList κ p q l j ⟨fr,o,J,[],[]⟩ ⟨str,f,[]⟩=true)(hs:pm σ.bx=true)
  (h:oC C ops.toList ⟨fr,o,J,[],[]⟩ ⟨str,f,[]⟩ (pick ops.toList (p::q::l)) (pick ops.toList (q::p::j)) (pick ops.toList κ) k σ H):RC C (.st (.code (.region id ops true)::k)) σ H:=by
 have m:=a;simp only[qC,cZ,dE,sX]at m;obtain⟨⟨⟨⟨⟨⟨⟨⟨⟨⟨⟨⟨⟨⟨h1,h2⟩,v⟩,c⟩,b⟩,u⟩,t⟩,r⟩,e⟩,d⟩,A⟩,z⟩,w⟩,y⟩,x⟩:=m;have e1:=yr e;have e2:=yr d;refine(show R C (.code (.region id ops true)::k) σ H from zK fun _ _ s g=>HV rfl hm a (FL hs) ?_ s g);refine rN κ (fun i hi=>e1 i (gm _ hi)) (Gq (fun σ' H' n=>⟨rN _ (fun i hi=>?_) n.1,rN _ (fun i hi=>?_) n.2⟩) _ h)
 .rcases List.mem_cons.1 hi with rfl|hi
  .exact c
  .exact e1 i (gD _ hi)
 .rcases List.mem_cons.1 hi with rfl|hi
  .exact b
  .exact e2 i (gD _ hi)
end
def gO{C:Cx}{k kx:List Item}{σ:St}{H:PH}{α:Type}{c:Code}(μ:α->Nat)(S:α->St)(Q Z:α->PH->Prop)(a0:α)(hs:iT (S a0).tm σ.tm)(hb:kS (S a0).bx σ.bx)(e:Q a0 H)
  (h:∀a H,Q a H->(∀b d H',μ b<μ a->iT (S b).tm d.tm->kS (S b).bx d.bx->Q b H'->RC C (.st (.inLoop c::k)) d H')->(∀b d H',iT (S b).tm d.tm->kS (S b).bx d.bx->Z b H'->RC C (.st kx) d H')->RC C (.st (.code c::.inLoop c::k)) (S a) H)
  (rest:∀a H,Z a H->RC C (.st kx) (S a) H):RC C (.st (.code (.loop c)::k)) σ H:=
 bV μ S Q a0 hs hb e fun a H e f=>h a H e f fun b d H' h1 h2 h3=>gP h1 h2 (rest b H' h3)
end Go.Sx
namespace Go.Proofs.YtfaclfkpnmcmlaaGreatDoor
open Go Go.Sx Dg Syn
def Qx:ay prog 143:=⟨_,func143,rfl,rfl⟩
def Jf:ay prog 82:=⟨_,func82,rfl,rfl⟩
def Ek:ay prog 133:=⟨_,func133,rfl,rfl⟩
def ik(d:au):Nat->Nat×au
 |0=>if mW (d.take (fX d))then (1,d.take (fX d))else (0,[])
 |1=>if me (d.take (fX d))then (2,d.take (fX d))else (0,[])
 |_=>match kR.find? fun x=>x.isPrefixOf d with
  |some x=>(3,x)
  |none=>(0,[])
def sw(d:au):Nat->Nat×au
 |0=>iM d
 |1=>if me (d.take (fX d))then (2,d.take (fX d))else ik d 2
 |2=>ik d 2
 |_=>(0,[])
variable{d:au}
def JR{k:Nat}(h:(ik d k).1=0):ik d k=(0,[]):=by
 match k with
 |0=>
  simp only[ik]at h |-;split at h
  .cases h
  .rename_i h1;rw[ab h1]
 |1=>
  simp only[ik]at h |-;split at h
  .cases h
  .rename_i h1;rw[ab h1]
 |k+2=>
  simp only[ik]at h |-;split at h
  .cases h
  .rfl
def Ux{k:Nat}(a:k<3)(h:(ik d k).1=0):sw d k=sw d (k+1):=by
 match k,a with
 |0,_=>
  simp only[ik]at h;split at h
  .cases h
  .rename_i h1;simp only[sw,iM,ik,ab h1]<;>rfl
 |1,_=>
  simp only[ik]at h;split at h
  .cases h
  .rename_i h1;simp only[sw,ab h1]
 |2,_=>exact JR h
def Uy{k:Nat}(a:k<3)(h:(ik d k).1≠0):sw d k=ik d k:=by
 match k,a with
 |0,_=>
  simp only[ik]at h |-;split at h
  .rename_i h1;simp only[sw,iM,ah h1]
  .exact absurd rfl h
 |1,_=>
  simp only[ik]at h |-;split at h
  .rename_i h1;simp only[sw,ah h1]
  .exact absurd rfl h
 |2,_=>rfl
def wC(x:Nat×au):Value:=.tuple #[.int .u8 x.1,.string ⟨⟨x.2⟩⟩]
def Ay(sb a:Nat):Zo:=[.func (.func 213) #[] #[pt a],.func (.func 215) #[] #[pt a],.func (.func 217) #[] #[pt sb]]
variable{s:au}
def Yq{H:PH}{sb fb i k:Nat}(b:ib H)(hs:a8 H sb 0 [.string ⟨⟨s⟩⟩])(hf:a8 H fb 0 [.func (.func 211) #[] #[pt sb]])(hi:i<=s.length)(d:s.length<2^40)(e:k<3):
  ∃a c,(Ay sb fb)[k]?=some (.func (.func a) #[] #[c])/\ay prog a/\Zv a #[E i,c] H fun v H2=>v=wC (ik (s.drop i) k)/\H2=H:=by
 match k,e with
 |0,_=>refine⟨213,pt fb,rfl,QO,(Ve hs hf hi O).mono fun v H2 h=>⟨?_,h.2⟩⟩;rw[h.1];simp only[ik,wC];split<;>rfl
 |1,_=>refine⟨215,pt fb,rfl,QQ,(Vs b hs hf hi d).mono fun v H2 h=>⟨?_,h.2⟩⟩;rw[h.1];simp only[ik,wC];split<;>rfl
 |2,_=>refine⟨217,pt sb,rfl,QS,(WY b.1 hs hi O).mono fun v H2 h=>⟨?_,h.2⟩⟩;rw[h.1];unfold BW ik wC;cases kR.find? (fun x=>x.isPrefixOf (s.drop i))<;>rfl
abbrev iF(I A:PH)(v:Value)(l:Zs):Prop:=Ow cU 83 7 I A v l
def jC(_:PH)(c:Zo)(x:Nat):Prop:=c=[E x]
abbrev ti(I A:PH)(v:Value)(l:Zp):Prop:=Ow jC 3 1 I A v l
variable{v:Value}{I:PH}
def iF.le{J A:PH}{l:Zs}(h:iF I A v l)(k:I.le J):iF J A v l:=Ow.le (R:=cU) (fun{I J c a} h k=>cU.le h k) h k
def ti.le{J A:PH}{l:Zp}(h:ti I A v l)(k:I.le J):ti J A v l:=Ow.le (R:=jC) (fun{I J c a} h k=>h) h k
def cU.ones{c:Zo}{t:Tok}(h:cU I c t):c.all one=true:=by obtain⟨p,f,l,a,k,rfl,h1,_⟩:=h;simp only[List.all_cons,List.all_nil,h1];rfl
def yY(sb a:Nat)(x:Nat×Value×Value):St:=⟨dn 75 [(1,.v (pt sb)),(2,.v x.2.1),(3,.v x.2.2),(6,.v (.func (.func 213) #[] #[pt a])),(7,.v (.func (.func 215) #[] #[pt a])),(8,.v (.func (.func 217) #[] #[pt sb])),(9,.v (E x.1))],[]⟩
def XH(s:au)(b:PH)(x:Nat×Value×Value)(H:PH):Prop:=∃I A B l a,H=U [I,A,B]/\Dj [I,A,B]/\b.le I/\x.1<=s.length/\iF I A x.2.1 (l.map dC)/\ti I B x.2.2 a/\a.length=l.length/\l.length<=x.1/\qu s=(qu (s.drop x.1)).map (l++·)
def ur(sb a:Nat)(b vb:Value)(i nb:Nat)(x:Nat×Nat×au):St:=⟨dn 75 [(1,.v (pt sb)),(2,.v b),(3,.v vb),(6,.v (.func (.func 213) #[] #[pt a])),(7,.v (.func (.func 215) #[] #[pt a])),(8,.v (.func (.func 217) #[] #[pt sb])),(9,.v (E i)),(10,.v (.int .u8 x.2.1)),(11,.v (.string ⟨⟨x.2.2⟩⟩)),(38,.v (.slice (some ⟨nb,0,none⟩) 3 3)),(39,.v (E 3)),(40,.v (E x.1))],[]⟩
def uP(s:au)(v:Value)(c:PH)(b:Zt):Prop:=match qv s with
 |none=>v=.tuple #[.slice none 0 0,.slice none 0 0,.bool false]/\b=[]
 |some l=>∃A a vb,v=.tuple #[a,vb,.bool true]/\b=[A]/\iF c A a (l.map dC)
theorem WN(hl:s.length<2^40)(hV:ib I):Zu 143 #[.string ⟨⟨s⟩⟩] I [] (uP s):=by
 intro hd;refine aP 75 func143 fun w0=>?_;refine ai ?_;refine Zl rfl QN (Od s O _) ?_;rintro v H2⟨rfl,rfl⟩;cases Z:s.all fun c=>mg (bZ c)
 .have hx:qv s=none:=by unfold qv;rw[Z];rfl
  apply RG;simp only[go_sem,dg];exact az rfl hd (r:=[_,_,_]) rfl (aD _) (by unfold uP;rw[hx];exact⟨rfl,rfl⟩)
 have Q:qv s=qu s:=by unfold qv;rw[Z];rfl
 apply cE 5;simp only[go_sem,cL];refine jW 1 hd rfl fun sb cf=>?_;refine aJ (c:=.st _) cf fun I2 cc am cj=>?_;have hs:a8 I2 sb 0 [.string ⟨⟨s⟩⟩]:=(dz ao rfl:a8 (sg sb (.cells [.string ⟨⟨s⟩⟩].toArray 9 (0,0))) sb 0 [.string ⟨⟨s⟩⟩]).le cj;apply cE 5;simp only[go_sem,iR,List.map,pt];refine jW 5 cc rfl fun W cb=>?_;refine aJ (c:=.st _) cb fun I4 ca P ci=>?_;have hf:a8 I4 W 0 [.func (.func 211) #[] #[pt sb]]:=(dz ao rfl:a8 (sg W (.cells [.func (.func 211) #[] #[pt sb]].toArray 315 (0,0))) W 0 [.func (.func 211) #[] #[pt sb]]).le ci;have hs:=hs.le P;have G:=D am P;have cl:=hV.le G;apply RG;simp only[go_sem,iR,List.map,pt];refine de ca fun b8=>?_;refine de b8 fun b7=>?_;refine bV (fun x=>s.length-x.1) (yY sb W) (XH s I4) (0,.slice none 0 0,.slice none 0 0) cN (by simp only[go_sem,Y,yY]) ?_ ?_
 .exact⟨I4,_,_,[],[],rfl,b7,aD _,aE _,Ow.nil _ _ _ _,Ow.nil _ _ _ _,rfl,aE _,by simp⟩
 rintro⟨i,va,vb⟩ H ⟨I1,A1,B1,l,w,rfl,u,g,hi,V,hB,a6,b0,f⟩ y;simp only at hi V hB b0 f;simp only[yY];have K:=hs.le g;obtain⟨aa,ac,rfl⟩:=V.shape;obtain⟨ba,bc,rfl⟩:=hB.shape;refine dL ?_;refine Zm (l:=[.string ⟨⟨s⟩⟩]) rfl (cellsU u (.head _) K) (.inr ⟨gF,rfl⟩) ?_;rcases aK i s.length with N|c1
 .have T:=Z5 i s.length;have e1:=Z7 i;obtain⟨c,hc⟩:∃c,s[i]?=some c:=⟨_,aY N⟩;have hb:=u5 hc;have a3:s.drop i=c::s.drop (i+1):=by rw[jz N];rw[aY N]at hc;rw[cX hc]
  have tk:(s.drop i).take (s.length-i)=s.drop i:=uy ao;have bx:=f;rw[a3,Uv,<-a3]at f;apply RG;simp only[go_sem,f8,T];refine Zm (l:=[.string ⟨⟨s⟩⟩]) rfl (cellsU u (.head _) K) (.inr ⟨gF,rfl⟩) ?_;refine dB hb ?_;refine⟨by first|omega|(simp only[f8];omega),?_⟩;refine Zl rfl QT (Oy _ _) ?_;rintro v H2⟨rfl,rfl⟩;cases a5:tx (bZ c)
  rotate_left
  .rw[a5,ah rfl]at f;refine bd e1 ?_;exact y (i+1,.slice aa (l.map dC).length ac,.slice ba w.length bc) _ _ bi cN (by simp only[go_sem,Y,yY]) ⟨I1,A1,B1,l,w,rfl,u,g,N,V,hB,a6,by simp only;omega,f⟩
  rw[a5,ab ao]at f;refine ai ?_;refine Zm (l:=[.string ⟨⟨s⟩⟩]) rfl (cellsU u (.head _) K) (.inr ⟨gF,rfl⟩) ?_;apply RG;simp only[go_sem,f8,yW,tk];refine⟨O,?_⟩;refine Zl rfl IJ (KV _ Aj _) ?_;rintro v H2⟨rfl,rfl⟩;cases a4:Aj.isPrefixOf (s.drop i)
  rotate_left
  .rw[a4,ah rfl]at f;apply cE 4;simp only[go_sem];refine ak u [1,0] fun j=>?_;refine ak j [0,1] fun d=>?_;refine aJ (c:=.st _) d fun I9 d b a0=>?_;refine bJ ?_;refine az rfl d (r:=[_,_,_]) rfl (D G (D g b)) ?_;unfold uP;rw[Q,f];exact⟨A1,_,_,rfl,rfl,by simpa using iF.le V b⟩
  rw[a4,ab ao]at f;refine dL ?_;refine cI u (by exact W1) rfl rfl rfl rfl rfl af fun nb I3 j m bs=>?_;have b3:a8 I3 nb 0 (Ay sb W):=bA bs (by simp[ax,Value.cells,Ay]) (by simp[ax,Value.cells,Ay,pt]);have bb:=K.le m;have b5:=(hf.le g).le m;have cm:=(cl.le g).le m;refine dL ?_;apply gO (fun(x:Nat×Nat×au)=>3-x.1) (ur sb W (.slice aa (l.map dC).length ac) (.slice ba w.length bc) i nb) (fun x H=>H=U [I3,A1,B1]/\x.2=(0,[])/\x.1<=3/\iM (s.drop i)=sw (s.drop i) x.1) (fun x H=>H=U [I3,A1,B1]/\x.2=iM (s.drop i)) (0,0,[])
  .exact cN
  .exact(by simp only[go_sem,Y,ur])
  .exact⟨rfl,rfl,aE _,rfl⟩
  .rintro⟨k,kd,F⟩ H ⟨rfl,e0,b1,hr⟩ L C;simp only[gN]at e0 b1 hr;obtain⟨rfl,rfl⟩:=e0;simp only[ur];rcases aK k 3 with hk|hk
   .have S:decide ((k:Int)<3)=true:=bm O;have e40:=Z7 k;obtain⟨fid,cp,b4,b2,b6⟩:=Yq (cm.le (iL j)) (cellsU j (.head _) bb) (cellsU j (.head _) b5) hi hl hk;apply RG;simp only[go_sem,E,pt,dP,S];refine⟨O,?_⟩;refine Zm (l:=[.func (.func fid) #[] #[cp]]) rfl (cellsU j (.head _) (by simpa using b3.get b4)) (.inr ⟨G3,rfl⟩) ?_;refine bJ ?_;refine Zl rfl b2 b6 ?_;rintro v H2⟨rfl,rfl⟩;by_cases h0:(ik (s.drop i) k).1=0
    .rw[JR h0];apply RG;simp only[go_sem,wC,E,e40];exact L (k+1,0,[]) _ _ bi cN (by simp only[go_sem,Y,ur]) ⟨rfl,rfl,hk,by rw[hr,Ux hk h0]⟩
    .have cA:((((ik (s.drop i) k).1:Nat):Int) != 0)=true:=by simp;omega
     apply cE 13;simp only[go_sem,wC,E,cA];exact C (k,ik (s.drop i) k) _ _ cN (by simp only[go_sem,Y,ur]) ⟨rfl,by simp only;rw[hr,Uy hk h0]⟩
   .have:k=3:=by omega
    subst this;have S:decide ((3:Int)<3)=false:=by decide
    apply cE 7;simp only[go_sem,E,pt,dP,S];exact C (3,0,[]) _ _ cN (by simp only[go_sem,Y,ur]) ⟨rfl,by simp only;rw[hr];rfl⟩
  .rintro⟨k,kd,F⟩ H ⟨rfl,e⟩;simp only at e;simp only[ur];by_cases h0:kd=0
   .subst h0;rw[<-e,ah rfl]at f;refine ak j [1,0] fun d=>?_;refine ak d [0,1] fun q=>?_;refine aJ (c:=.st _) q fun I9 q o cr=>?_;refine ak q [0] fun p=>?_;refine aJ (c:=.st _) p fun c2 p t cx=>?_;apply RG;simp only[go_sem,E,dP];refine az rfl p (r:=[_,_,_]) rfl (D G (D g (D m (D o t)))) ?_;unfold uP;rw[Q,f];exact⟨rfl,rfl⟩
   .have cy:((kd:Int) == 0)=false:=by simp;omega
    have a1:(iM (s.drop i)).1≠0:=by rw[<-e];exact h0
    obtain⟨s1,s2,_,_⟩:=ES a1;rw[ab a1,<-e]at f;rw[<-e]at s1 s2;simp only[wP]at s1 s2;have a2:(l.map dC).length=l.length:=eO _;have e72:IntKind.i64.wrap ((i:Int)+(F.length:Int))=((i+F.length:Nat):Int):=by rw[<-wrap64 (n:=i+F.length) O];congr 1
    refine bd cy ?_;refine cI j (by exact kl) rfl rfl rfl rfl rfl af fun mb I5 d b c0=>?_;refine bJ ?_;refine Zl rfl xP (zf _) ?_;rintro v H2⟨rfl,rfl⟩;refine bJ ?_;refine cI d (by exact yL) rfl rfl rfl rfl rfl af fun tb I6 q o a9=>?_;have hT:Sl cU I6 (.slice (some ⟨tb,0,none⟩) 1 1) [dC (kd,F)]:=⟨_,_,rfl,.inr ⟨tb,0,[.int .u8 kd,.string ⟨⟨F⟩⟩,.slice (some ⟨mb,0,none⟩) 1 1,.int .i64 0,.int .i64 0,.slice none 0 0,E 1],rfl,bA a9 (by simp[ax,Value.cells]) (by simp[ax,Value.cells,E]),.one ⟨.slice (some ⟨mb,0,none⟩) 1 1,0,0,none,0,rfl,rfl,pd I6 true⟩⟩⟩;refine bJ ?_;refine fk (R:=cU) (xs:=l.map dC) (ys:=[dC (kd,F)]) q (by exact yL) (iF.le V (D m (D b o))) hT (fun{I J c a} h k=>cU.le h k) (fun{I} c a h=>cU.len c a h) (fun{I} c a h=>cU.ones h) rfl rfl rfl rfl (by rw[a2];simp only[bl,bg];omega) (by rw[a2];simp only[bl,bg];unfold maxLen;omega) fun ua uc I7 A7 p t cs=>?_;refine bJ ?_;refine cI p (by exact kl) rfl rfl rfl rfl rfl af fun xb I8 aS B a7=>?_;have hX:Sl jC I8 (.slice (some ⟨xb,0,none⟩) 1 1) [i]:=⟨_,_,rfl,.inr ⟨xb,0,[E i],rfl,bA a7 (by simp[ax,Value.cells]) (by simp[ax,Value.cells,E]),.one rfl⟩⟩;refine bJ ?_;refine ak aS [1,0] fun aq=>?_;have X:=D m (D b (D o (D t B)));refine fk (R:=jC) (xs:=w) (ys:=[i]) aq (by exact kl) (ti.le hB X) hX (fun{I J c a} h k=>h) (fun{I} c a h=>by rw[show c=_ from h];rfl) (fun{I} c a h=>by rw[show c=_ from h];rfl) rfl rfl rfl rfl (by simp only[bl,bg];omega) (by simp only[bl,bg];unfold maxLen;omega) fun wa wc I9 B9 ap A cn=>?_;apply RG;simp only[go_sem,E,f8,e72];refine ak ap [1,0] fun an=>?_
    refine y (i+F.length,.slice ua (l.map dC++[dC (kd,F)]).length uc,.slice wa (w++[i]).length wc) _ _ bi cN (by simp only[go_sem,Y,yY]) ⟨I9,A7,B9,l++[(kd,F)],w++[i],rfl,an,D g (D X A),by simp only;omega,?_,cn,by simp[a6],by simp only[aH,bl,bg];omega,?_⟩
    .simp only;rw[mw];exact iF.le cs (D B A)
    .simp only;rw[f,Option.map_map,lI];congr 1;funext z;simp
 .have:i=s.length:=by omega
  subst this;have T:decide ((s.length:Int)<(s.length:Int))=false:=ao;rw[js,Uw]at f;refine ak u [1,0] fun j=>?_;refine ak j [0,1] fun d=>?_;refine aJ d fun I9 d b a0=>?_;apply RG;simp only[go_sem,f8,T];refine az rfl d (r:=[_,_,_]) rfl (D G (D g b)) ?_;unfold uP;rw[Q,f];exact⟨A1,_,_,rfl,rfl,by simpa using iF.le V b⟩
def Rx:ay prog 76:=⟨_,func76,rfl,rfl⟩
def W9{α:Type}{l:List α}{i:Nat}{n:α}(h:l[i]?=some n):l.take (i+1)=l.take i++[n]:=by rw[List.take_add_one,h];rfl
def nQ(s:au):Option (List (Nat×au)):=match qv s with
 |some l=>if l.length>256 then none else some l
 |none=>none
def zC(s:au)(v:Value)(c:PH)(b:Zt):Prop:=match nQ s with
 |none=>(∃k:Nat,k≠0/\v=.tuple #[.slice none 0 0,E k])/\b=[]
 |some l=>∃A a,v=.tuple #[a,E 0]/\b=[A]/\iF c A a (l.map dC)
def JS(k:s.length<2^40)(m:ib I):Zu 82 #[.string ⟨⟨s⟩⟩] I [] (zC s):=by
 intro hd;refine aP 21 func82 fun w0=>?_;refine ai ?_;refine eG hd rfl Qx (WN k m) fun v w p b a e=>?_;unfold uP at e;unfold zC nQ;cases i:qv s with
 |none=>rw[i]at e;obtain⟨rfl,rfl⟩:=e;refine ai ?_;exact az rfl b (r:=[_,_]) rfl a ⟨⟨4,by decide,rfl⟩,rfl⟩
 |some l=>
  rw[i]at e;obtain⟨A,o,vb,rfl,rfl,j⟩:=e;simp only[Z3]at b |-;obtain⟨t,q,rfl⟩:=j.shape;simp only[eO];rcases aK 256 l.length with h|h
  .have d:decide ((l.length:Int)>256)=true:=bm O;refine ak b [0] fun c=>?_;refine aJ c fun u c g n=>?_;apply RG;simp only[go_sem,eO,d];exact az rfl c (r:=[_,_]) rfl (D a g) (by rw[ah h];exact⟨⟨5,by decide,rfl⟩,rfl⟩)
  .have d:decide ((l.length:Int)>256)=false:=ch O;apply RG;simp only[go_sem,eO,d];exact az rfl b (r:=[_,_]) rfl a (by rw[ab (Nat.not_lt.2 h)];exact⟨A,_,rfl,rfl,by rw[<-eO (f:=dC)];exact j⟩)
variable{x:au}
def P7{k:Nat}(h:nQ x=none):mP k x=false:=by unfold mP;apply ch;intro e;unfold nQ at h;rw[e]at h;simp at h
def P8{k:Nat}{l:List (Nat×au)}(h:nQ x=some l):mP k x=decide (l=[(k,x)]):=by
 unfold mP nQ at *;cases e:qv x with
 |none=>rw[e]at h;cases h
 |some m=>
  rw[e]at h;simp only at h;split at h
  .cases h
  .cases h;simp
def EL{k:Nat}(L:x.length<2^40)(N:ib I):Zu 133 #[.int .u8 k,.string ⟨⟨x⟩⟩] I [] fun r U F=>F=[]/\r=.bool (mP k x):=by
 intro hd;refine aP 35 func133 fun w0=>?_;refine ai ?_;refine eG hd rfl Jf (JS L N) fun v U F o g s=>?_;unfold zC at s;cases u:nQ x with
 |none=>
  rw[u]at s;obtain⟨⟨j,X,rfl⟩,rfl⟩:=s;have C:((j:Int) == 0)=false:=by simp;omega
  refine bd C ?_;exact az rfl o (r:=[_]) rfl g ⟨rfl,by rw[P7 u];rfl⟩
 |some l=>
  rw[u]at s;obtain⟨A,V,rfl,rfl,H⟩:=s;simp only[Z3]at o |-;rw[P8 u];obtain⟨S,Q,rfl⟩:=H.shape;refine ak o [0] fun d=>?_;refine aJ d fun T d f B=>?_;have P:Sl cU T (.slice S (l.map dC).length Q) (l.map dC):=i6 (R:=cU) (fun{I J c a} h k=>cU.le h k) H f B;by_cases h1:l.length=1
  .obtain⟨⟨p,y⟩,rfl⟩:=List.length_eq_one_iff.1 h1;obtain⟨b,off,cs,rfl,z,m⟩:=Sl.load (fun{I} c a h=>cU.len c a h) P (i:=0) (x:=dC (p,y)) rfl;obtain⟨G,K,line,a,W,rfl,_,hr⟩:=z;have c0:=m.get (i:=0) rfl;have c1:=m.get (i:=1) rfl;have q:(((1:Nat):Int) == 1)=true:=rfl;apply RG;simp only[go_sem,E,List.map,bl,bg,q];refine Zm (l:=[.int .u8 p]) rfl (cellsU d (.head _) (by simpa[dC]using c0)) (.inr ⟨tu,rfl⟩) ?_;cases t:((p:Int) == (k:Int))
   .have n:((p,y)::([]:List (Nat×au)))≠[(k,x)]:=by intro e;simp only[nt,gN,dZ]at e;rw[e.1]at t;simp at t
    refine dB t ?_;exact az rfl d (r:=[_]) rfl (D g f) ⟨rfl,by rw[ch n];rfl⟩
   .have w:p=k:=by have:=eq_of_beq t;omega
    subst w;refine dB t ?_;refine Zm (l:=[.string ⟨⟨y⟩⟩]) rfl (cellsU d (.head _) (by simpa[dC]using c1)) (.inr ⟨gF,rfl⟩) ?_;refine ai ?_;exact az rfl d (r:=[.bool (y == x)]) rfl (D g f) ⟨rfl,by show Value.bool _=_;congr 1;rw[Oq];simp⟩
  .have q:((((l.map dC).length:Nat):Int) == 1)=false:=by simp;omega
   have n:l≠[(k,x)]:=fun e=>h1 (by rw[e];rfl);refine bd q ?_;exact az rfl d (r:=[_]) rfl (D g f) ⟨rfl,by rw[ch n];rfl⟩
abbrev xf(I A:PH)(v:Value)(l:Zs):Prop:=Ow lP 4 1 I A v l
def xf.le{J A:PH}{l:Zs}(h:xf I A v l)(k:I.le J):xf J A v l:=Ow.le (R:=lP) (fun{I J c a} h k=>h) h k
def Bp(lv:Value)(n:Nat)(x:Nat×Value):St:=⟨dn 129 [(0,.v lv),(3,.p 20 0),(21,.v lv),(22,.v (E n)),(23,.v (E x.1))],[⟨20,161,[lv,x.2,.slice none 0 0,.int .i64 0,.slice none 0 0]⟩]⟩
def Vp(Z:Zs)(a:PH)(x:Nat×Value)(H:PH):Prop:=∃I A,H=U [I,A]/\Dj [I,A]/\a.le I/\x.1<=Z.length/\xf I A x.2 ((Z.map refit).take x.1)
theorem LR.refit{I:PH}:∀{Z:Zs} {xs:Zo},LR (cU I) xs Z->LR (cU I) xs (Z.map refit)
 | [],_,h=>h
 |_::_,_,⟨c,ys,e,h1,h2⟩=>⟨c,ys,e,h1,LR.refit h2⟩
theorem Sl.refit{Z:Zs}(h:Sl cU I v Z):Sl cU I v (Z.map refit):=by obtain⟨a,c,rfl,h⟩:=h;exact⟨a,c,by rw[eO],h.imp (fun e=>by rw[e];rfl) fun⟨b,off,xs,e1,e2,d⟩=>⟨b,off,xs,e1,e2,LR.refit d⟩⟩
theorem Vj{lv:Value}{Z:Zs}(hV:ib I)(W:Sl cU I lv Z)(hl:Z.length<=16384)(hx:∀t∈Z,t.text.length<2^40):
  Zu 76 #[lv] I [] fun r I2 U=>∃pb fv,r=pt pb/\U=[sg pb (bS lv fv (.slice none 0 0) (.slice none 0 0) 0)]/\Sl lP I2 fv (Z.map refit):=by
 obtain⟨la,lc,rfl,_⟩:=id W;intro hd;refine aP 129 func76 fun w0=>?_;refine ai ?_;refine de hd fun L=>?_;refine bV (fun x=>Z.length-x.1) (Bp (.slice la Z.length lc) Z.length) (Vp Z I) (0,.slice none 0 0) al (by simp only[go_sem,Y,Bp]) ?_ ?_
 .exact⟨I,PH.no,rfl,L,aD _,aE _,Ow.nil _ _ _ _⟩
 rintro⟨i,vo⟩ H ⟨I1,A1,rfl,s,e,hi,C⟩ p;simp only at hi C;simp only[Bp];obtain⟨oa,oc,rfl⟩:=C.shape;rcases aK i Z.length with A|aa
 .have w:=Z5 i Z.length;have e1:=Z7 i;obtain⟨t,ht⟩:∃t,Z[i]?=some t:=⟨_,aY A⟩;have F:(Z.map refit)[i]?=some (refit t):=by rw[iZ,ht];rfl
  have y:((Z.map refit).take i).length=i:=by simp;omega
  obtain⟨b,off,cs,rfl,N,u⟩:=Sl.load (fun{I} c a h=>cU.len c a h) (Sl.le (R:=cU) (fun{I J c a} h k=>cU.le h k) W e) ht;obtain⟨j,o,line,a,V,rfl,z,hr⟩:=N;refine bd w ?_;refine⟨O,?_⟩;refine Zm (l:=[.int .u8 t.kind,.string ⟨⟨t.text⟩⟩,j,.int .i64 o,.int .i64 line,sD a V t.cond,rD t.cond]) (v:=.agg #[.int .u8 t.kind,.string ⟨⟨t.text⟩⟩,j,.int .i64 o,.int .i64 line,sD a V t.cond,rD t.cond]) rfl (cellsU s (.head _) u) (.inl ⟨G7,rfl⟩) ?_;unfold one at z;refine dm z ?_;refine bG [0,1,2,3,4,5,6,7,8,9,10,11,12,13,14] [] [] ?_;refine bU ?_;refine cH s [0] [] [A1] rfl Ek rfl (EL (k:=t.kind) (hx t (db ht)) (hV.le e)) ?_;rintro v X U g d⟨rfl,rfl⟩;simp only[Z3]at g |-;refine bU ?_;refine iu g (by exact Lz) rfl rfl rfl rfl rfl af fun nb I4 q m G=>?_;have P:Sl lP I4 (.slice (some ⟨nb,0,none⟩) 1 1) [refit t]:=⟨_,_,rfl,.inr ⟨nb,0,_,rfl,bA G (by simp[ax,Value.cells]) (by simp[ax,Value.cells,refit]),.one rfl⟩⟩;refine bU ?_;refine uL (R:=lP) (xs:=(Z.map refit).take i) (ys:=[refit t]) q (by exact Lz) (xf.le C (D d m)) P (fun{I J c a} h k=>h) (fun{I} c a h=>lP.len (I:=I) c a h) (fun{I} c a h=>by rw[show c=_ from h];rfl) rfl rfl rfl rfl rfl rfl (by rw[y];simp only[bl,bg];omega) (by rw[y];simp only[bl,bg];unfold maxLen;omega) fun ua uc I5 A5 K B Q=>?_;refine bU ?_;apply aN;refine bd e1 ?_;exact p (i+1,.slice ua ((Z.map refit).take i++[refit t]).length uc) _ _ bi al (by simp only[go_sem,Y,Bp]) ⟨I5,A5,rfl,K,D e (D d (D m B)),A,by simp only;rw[W9 F];exact Q⟩
 .have:i=Z.length:=by omega
  subst this;have w:decide (((Z.length:Nat):Int)<(Z.length:Int))=false:=ao;have T:decide ((Z.length:Int)<=16384)=true:=bm O;have ef:(Z.map refit).take Z.length=Z.map refit:=by rw[<-eO (f:=refit),dK]
  rw[ef]at C |-;refine ak s [0] fun g=>?_;refine aJ (c:=.st _) g fun X g d S=>?_;have hF:Sl lP X (.slice oa (Z.map refit).length oc) (Z.map refit):=i6 (R:=lP) (fun{I J c a} h k=>h) C d S;apply cE 3;simp only[go_sem,E,w];refine jW 20 g rfl fun pb q=>?_;apply RG;simp only[go_sem,iR,List.map,T];exact az rfl q (r:=[pt pb]) rfl (D e d) ⟨pb,_,rfl,rfl,hF⟩
end Go.Proofs.YtfaclfkpnmcmlaaGreatDoor
namespace Syn
open Go Go.Sort
variable {α:Type} [Inhabited α] {lt:α->α->Bool}
variable{j:Nat}
theorem FC(d:Array α){i:Nat}(hi:i<d.size)(a:j<d.size)(k:Nat):(swp d i j)[k]! = if k=j then d[i]! else if k=i then d[j]! else d[k]!:=by
 by_cases h1:k=j
 .rw[ah h1,h1];exact swp_right d i j a
 .rw[ab h1];by_cases h2:k=i
  .rw[ah h2,h2];exact swp_left d i j hi (fun e=>h1 (h2.trans e))
  .rw[ab h2];exact swp_other d i j k h2 h1
def nC(a b i:Nat)(d e:Array α):Prop:=∀k,e[k]! = if a<=k/\k<a+i then d[k-a+b]! else if b<=k/\k<b+i then d[k-b+a]! else d[k]!
theorem nC.zero(a b:Nat)(d:Array α):nC a b 0 d d:=fun k=>by rw[ab O,ab O]
theorem nC.step{a b i n:Nat}{d e:Array α}(h:nC a b i d e)(hs:e.size=d.size)(hi:i<n)(c:a+n<=b)(hb:b+n<=d.size):nC a b (i+1) d (swp e (a+i) (b+i)):=fun k=>by
 rw[FC e O O k,h k,h (a+i),h (b+i)];clear h
 repeat' split
 all_goals first|rfl|(exfalso;omega)|(congr 1;omega)
def jc(m i j:Nat)(c t:Array α):Prop:=∀k,t[k]! = if m-i<=k/\k<m-i+j then c[k+i]! else if m-i+j<=k/\k<m+j then c[k-j]! else c[k]!
variable{m:Nat}
theorem jc.left{i:Nat}{c c' t:Array α}(h:jc m i j c t)(hs:nC (m-i) m j c c')(b:j<i)(a:i<=m):jc m (i-j) j c' t:=fun k=>by
 rw[h k,hs k,hs (k+(i-j)),hs (k-j)];clear h hs
 repeat' split
 all_goals first|rfl|(exfalso;omega)|(congr 1;omega)
theorem jc.right{i:Nat}{c c' t:Array α}(h:jc m i j c t)(hs:nC (m-i) (m+j-i) i c c')(b:i<j)(a:i<=m):jc m i (j-i) c' t:=fun k=>by
 rw[h k,hs k,hs (k+i),hs (k-(j-i))];clear h hs
 repeat' split
 all_goals first|rfl|(exfalso;omega)|(congr 1;omega)
theorem jc.last{i:Nat}{c c' t:Array α}(h:jc m i i c t)(hs:nC (m-i) m i c c')(b:i<=m)(a:t.size=c'.size):t=c':=by
 have key:∀k,t[k]! = c'[k]!:=fun k=>by
  rw[h k,hs k];clear h hs
  repeat' split
  all_goals first|rfl|(exfalso;omega)|(congr 1;omega)
 refine Array.ext a fun k h1 h2=>?_;have:=key k
 rwa [getElem!_pos t k h1,getElem!_pos c' k h2]at this
theorem jc.ex(m i j:Nat)(c:Array α)(b:i<=m)(d:m+j<=c.size):∃t,t.size=c.size/\jc m i j c t:=by
 refine⟨Array.ofFn (n:=c.size) fun k=>if m-i<=k.1/\k.1<m-i+j then c[k.1+i]! else if m-i+j<=k.1/\k.1<m+j then c[k.1-j]! else c[k.1]!,by simp,fun k=>?_⟩;by_cases a:k<c.size
 .rw[getElem!_pos _ k (by simpa using a)];simp[a]
 .rw[getElem!_neg _ k (by simpa using a),ab O,ab O,getElem!_neg c k a]
def rz(a k:Nat)(d e:Array α):Prop:=∀x,e[x]! = if a<=x/\x<k then d[x+1]! else if x=k then d[a]! else d[x]!
theorem rz.zero(a:Nat)(d:Array α):rz a a d d:=fun x=>by
 rw[ab O];split
 .rename_i h;rw[h]
 .rfl
theorem rz.step{a k:Nat}{d e:Array α}(h:rz a k d e)(hs:e.size=d.size)(c:a<=k)(b:k+1<d.size):rz a (k+1) d (swp e k (k+1)):=fun x=>by
 rw[FC e O O x,h x,h k,h (k+1)];clear h
 repeat' split
 all_goals first|rfl|(exfalso;omega)|(congr 1;omega)
def ry(m k:Nat)(d e:Array α):Prop:=∀x,e[x]! = if x=k then d[m]! else if k<x/\x<=m then d[x-1]! else d[x]!
theorem ry.zero(m:Nat)(d:Array α):ry m m d d:=fun x=>by
 split
 .rename_i h;rw[h]
 .rw[ab O]
theorem ry.step{k:Nat}{d e:Array α}(h:ry m (k+1) d e)(hs:e.size=d.size)(a:k+1<=m)(hm:m<d.size):ry m k d (swp e (k+1) k):=fun x=>by
 rw[FC e O O x,h x,h (k+1),h k];clear h
 repeat' split
 all_goals first|rfl|(exfalso;omega)|(congr 1;omega)
section
variable (h:SWO lt)
include h
omit [Inhabited α] in
theorem Cb{x y:α}(e:lt x y=true):lt y x=false:=by
 cases a:lt y x with
 |false=>rfl
 |true=>have:=h.trans _ _ _ e a;rw[h.irrefl]at this;cases this
theorem SJ{d e:Array α}{a m b i:Nat}(hm:m=a+1)(hs:SortedIn lt m b d)(j:m<=i)(p:i<=b)(o:i=m\/lt d[i-1]! d[a]! = true)(hr:i=b\/lt d[i]! d[a]! = false)(f:rz a (i-1) d e):SortedIn lt a b e:=by
 have lo:∀k,m<=k->k<i->lt d[k]! d[a]! = true:=fun k h1 h2=>by
  rcases o with c|c
  .omega
  .by_cases l:k=i-1
   .rw[l];exact c
   .cases q:lt d[k]! d[a]! with
    |true=>rfl
    |false=>have:=h.ntrans _ _ _ (hs k (i-1) h1 O O) q;rw[c]at this;cases this
 have hi:∀k,i<=k->k<b->lt d[k]! d[a]! = false:=fun k h1 h2=>by
  rcases hr with c|c
  .omega
  .by_cases l:k=i
   .rw[l];exact c
   .exact h.ntrans _ _ _ (hs i k j O h2) c
 intro x y r g n;rw[f x,f y];by_cases c1:a<=x/\x<i-1
 .rw[ah c1];by_cases c2:a<=y/\y<i-1
  .rw[ah c2];exact hs _ _ O O O
  .rw[ab c2];by_cases c3:y=i-1
   .rw[ah c3];exact Cb h (lo _ O O)
   .rw[ab c3];exact hs _ _ O O O
 .rw[ab c1,ab (show ¬(a<=y/\y<i-1) by omega)];by_cases c3:x=i-1
  .rw[ah c3,ab O];exact hi y O n
  .rw[ab c3,ab O];exact hs _ _ O g n
theorem SF{d e:Array α}{a m b i:Nat}(hb:b=m+1)(hs:SortedIn lt a m d)(n:a<=i)(p:i<=m)(o:i=a\/lt d[m]! d[i-1]! = false)(hr:i=m\/lt d[m]! d[i]! = true)(f:ry m i d e):SortedIn lt a b e:=by
 have lo:∀k,a<=k->k<i->lt d[m]! d[k]! = false:=fun k h1 h2=>by
  rcases o with c|c
  .omega
  .by_cases l:k=i-1
   .rw[l];exact c
   .exact h.ntrans _ _ _ c (hs k (i-1) h1 O O)
 have hi:∀k,i<=k->k<m->lt d[k]! d[m]! = false:=fun k h1 h2=>by
  rcases hr with c|c
  .omega
  .by_cases l:k=i
   .rw[l];exact Cb h c
   .exact h.ntrans _ _ _ (hs i k n O h2) (Cb h c)
 intro x y j g q;rw[f x,f y];by_cases c1:x=i
 .rw[ah c1,ab O,ah O];exact hi _ O O
 .rw[ab c1];by_cases c2:i<x/\x<=m
  .rw[ah c2,ab O,ah O];exact hs _ _ O O O
  .rw[ab c2];by_cases c3:y=i
   .rw[ah c3];exact lo x j O
   .rw[ab c3];by_cases c4:i<y/\y<=m
    .rw[ah c4];exact hs _ _ j O O
    .rw[ab c4];exact hs _ _ j g O
theorem XK{d e:Array α}{a m b s mid:Nat}(T:a<=m)(N:m<=b)(w:SortedIn lt a m d)(v:SortedIn lt m b d)(F:mid=(a+b) / 2)
  (L:a<=s) (K:s<=m) (J:s<=mid) (S:m<=mid+m-s) (R:mid+m-s<=b) (G:(m>mid->mid+m-s=b\/s=a\/lt d[mid+m-s]! d[s-1]! = false)/\(m<=mid->s=a\/lt d[mid+m-s]! d[s-1]! = false)) (hr:s=(if m>mid then mid else m)\/lt d[mid+m-s-1]! d[s]! = true)
  (A:jc m (m-s) (mid+m-s-m) d e) :
  SortedIn lt a s e/\SortedIn lt s mid e/\SortedIn lt mid (mid+m-s) e/\SortedIn lt (mid+m-s) b e/\∀i j,a<=i->i<mid->mid<=j->j<b->lt e[j]! e[i]! = false:=by
 have C:a<s->mid+m-s<b->lt d[mid+m-s]! d[s-1]! = false:=fun h1 h2=>by
  by_cases c:m>mid
  .rcases G.1 c with l|l|l
   .omega
   .omega
   .exact l
  .rcases G.2 O with l|l
   .omega
   .exact l
 have B:m<mid+m-s->s<m->lt d[s]! d[mid+m-s-1]! = false:=fun h1 h2=>by
  rcases hr with l|l
  .split at l<;>omega
  .exact Cb h l
 have g:∀k,a<=k->k<b->(k<s/\e[k]! = d[k]!)\/(s<=k/\k<mid/\e[k]! = d[k+(m-s)]!)\/(mid<=k/\k<mid+m-s/\e[k]! = d[k-(mid-s)]!)\/(mid+m-s<=k/\e[k]! = d[k]!):=fun k h1 h2=>by
  have o:=A k;by_cases c1:k<s
  .rw[ab O,ab O]at o;exact .inl ⟨c1,o⟩
  .by_cases c2:k<mid
   .rw[ah O]at o;exact .inr (.inl ⟨O,c2,o⟩)
   .by_cases c3:k<mid+m-s
    .rw[ab O,ah O]at o;exact .inr (.inr (.inl ⟨O,c3,by rw[o];congr 1;omega⟩))
    .rw[ab O,ab O]at o;exact .inr (.inr (.inr ⟨O,o⟩))
 refine⟨fun x y t n z=>?_,fun x y t n z=>?_,fun x y t n z=>?_,fun x y t n z=>?_,fun i j p Q P u=>?_⟩
 .rcases g x t O with ⟨_,e1⟩|⟨_,_,e1⟩|⟨_,_,e1⟩|⟨_,e1⟩<;>rcases g y O O with ⟨_,e2⟩|⟨_,_,e2⟩|⟨_,_,e2⟩|⟨_,e2⟩<;>try omega
  rw[e1,e2];exact w _ _ t n O
 .rcases g x O O with ⟨_,e1⟩|⟨_,_,e1⟩|⟨_,_,e1⟩|⟨_,e1⟩<;>rcases g y O O with ⟨_,e2⟩|⟨_,_,e2⟩|⟨_,_,e2⟩|⟨_,e2⟩<;>try omega
  rw[e1,e2];exact v _ _ O O O
 .rcases g x O O with ⟨_,e1⟩|⟨_,_,e1⟩|⟨_,_,e1⟩|⟨_,e1⟩<;>rcases g y O O with ⟨_,e2⟩|⟨_,_,e2⟩|⟨_,_,e2⟩|⟨_,e2⟩<;>try omega
  rw[e1,e2];exact w _ _ O O O
 .rcases g x O O with ⟨_,e1⟩|⟨_,_,e1⟩|⟨_,_,e1⟩|⟨_,e1⟩<;>rcases g y O O with ⟨_,e2⟩|⟨_,_,e2⟩|⟨_,_,e2⟩|⟨_,e2⟩<;>try omega
  rw[e1,e2];exact v _ _ O O O
 ·
  have q:∀x y,m<=x->x<=y->y<b->lt d[y]! d[x]! = false:=fun x y h1 h2 h3=>by
   rcases Nat.lt_or_eq_of_le h2 with c|c
   .exact v x y h1 c h3
   .rw[c];exact h.irrefl _
  have r:∀x y,a<=x->x<=y->y<m->lt d[y]! d[x]! = false:=fun x y h1 h2 h3=>by
   rcases Nat.lt_or_eq_of_le h2 with c|c
   .exact w x y h1 c h3
   .rw[c];exact h.irrefl _
  rcases g i p O with ⟨I,e1⟩|⟨I,V,e1⟩|⟨_,_,e1⟩|⟨_,e1⟩<;>rcases g j O u with ⟨_,e2⟩|⟨_,_,e2⟩|⟨H,U,e2⟩|⟨H,e2⟩<;>try omega
  .rw[e1,e2];exact w _ _ p O O
  .rw[e1,e2];have f:=C O O;exact h.ntrans _ _ _ (q (mid+m-s) j O O u) (h.ntrans _ _ _ f (r i (s-1) p O O))
  .rw[e1,e2];have f:=B O O;exact h.ntrans _ _ _ (r s (j-(mid-s)) O O O) (h.ntrans _ _ _ f (q (i+(m-s)) (mid+m-s-1) O O O))
  .rw[e1,e2];exact v _ _ O O O
omit h in
theorem L7{d1 d2 d3:Array α}{a b mid:Nat}(f:a<=mid)(e:mid<=b)(hb:b<=d1.size)(n:∀i j,a<=i->i<mid->mid<=j->j<b->lt d1[j]! d1[i]! = false)
  (d:PermIn a mid d1 d2) (m:SortedIn lt a mid d2) (c:PermIn mid b d2 d3) (l:SortedIn lt mid b d3):PermIn a b d1 d3/\SortedIn lt a b d3:=by
 have z2:=d.1;refine⟨permIn_trans _ _ _ a b (permIn_mono _ _ a mid a b (aR _) e hb d) (permIn_mono _ _ mid b a b f (aR _) O c),?_⟩;have k:∀j,mid<=j->j<b->∀i,a<=i->i<mid->lt d1[j]! d2[i]! = false:=fun j h1 h2=>permIn_all d1 d2 a mid (fun x=>lt d1[j]! x=false) O d (fun i h3 h4=>n i j h3 h4 h1 h2);have g:∀i,a<=i->i<mid->∀j,mid<=j->j<b->lt d3[j]! d2[i]! = false:=fun i h1 h2=>permIn_all d2 d3 mid b (fun y=>lt y d2[i]! = false) O c (fun j h3 h4=>by rw[d.2.1 j (.inr h3)];exact k j h3 h4 i h1 h2);intro i j h1 h2 h3;by_cases c1:j<mid
 .rw[c.2.1 i (.inl O),c.2.1 j (.inl c1)];exact m i j h1 h2 c1
 .by_cases c2:mid<=i
  .exact l i j c2 h2 h3
  .rw[c.2.1 i (.inl O)];exact g i h1 O j O h3
end
theorem SortedIn.sub{d:Array α}{a b a' b':Nat}(h:SortedIn lt a b d)(h1:a<=a')(h2:b'<=b):SortedIn lt a' b' d:=fun i j x y z=>h i j O y O
def rL(lt:α->α->Bool)(s x n:Nat)(d:Array α):Prop:=∀i j,x<=i->i<j->j<n->i / s=j / s->lt d[j]! d[i]! = false
def gR(lt:α->α->Bool)(s x:Nat)(d:Array α):Prop:=∀i j,i<j->j<x->i / s=j / s->lt d[j]! d[i]! = false
variable{s q:Nat}
theorem DO{i:Nat}(hs:0<s)(h1:s*q<=i)(h2:i<s*q+s):i / s=q:=by
 refine Nat.div_eq_of_lt_le ?_ ?_
 .rw[Nat.mul_comm];exact h1
 .rw[Nat.mul_comm,Nat.mul_add,Nat.mul_one];exact h2
theorem WC{i:Nat}(hs:0<s)(h:i / s=q):s*q<=i/\i<s*q+s:=by subst h;have h1:=Nat.div_add_mod i s;have h2:=Nat.mod_lt i hs;omega
theorem gR.zero(s:Nat)(d:Array α):gR lt s 0 d:=fun i j _ h=>by omega
theorem gR.step{x:Nat}{d e:Array α}(hs:0<s)(h:gR lt s (s*q) d)(g:x<=s*q+s)(hp:PermIn (s*q) x d e)(b:SortedIn lt (s*q) x e):gR lt s x e:=fun i j a f hd=>by
 by_cases c:j<s*q
 .rw[hp.2.1 i (.inl O),hp.2.1 j (.inl c)];exact h i j a c hd
 .have e1:j / s=q:=DO hs O O;have:=(WC hs (hd.trans e1)).1;exact b i j this a f
variable{n:Nat}
theorem gR.all{d:Array α}(h:gR lt s n d)(c:n<=s):SortedIn lt 0 n d:=fun i j _ a b=>by refine h i j a b ?_;rw[Nat.div_eq_of_lt O,Nat.div_eq_of_lt O]
theorem gR.runs{d:Array α}(h:gR lt s n d):rL lt s 0 n d:=fun i j _ a b hd=>h i j a b hd
theorem rL.at'{x:Nat}{d:Array α}(hs:0<s)(h:rL lt s x n d)(b:x<=s*q){y:Nat}(a:y<=s*q+s)(c:y<=n):SortedIn lt (s*q) y d:=fun i j h1 h2 h3=>
 h i j O h2 O (by rw[DO hs h1 O,DO hs (show s*q<=j by omega) O])
theorem rL.keep{x y:Nat}{d e:Array α}(h:rL lt s x n d)(b:x<=y)(a:∀k,y<=k->e[k]! = d[k]!):rL lt s y n e:=fun i j h1 h2 h3 h4=>by rw[a i h1,a j O];exact h i j O h2 h3 h4
theorem gR.rest{d:Array α}(hs:0<s)(h:gR lt s (s*q) d)(h2:SortedIn lt (s*q) n d)(a:n<=s*q+s):gR lt s n d:=h.step hs a (permIn_refl _ _ _) h2
end Syn
