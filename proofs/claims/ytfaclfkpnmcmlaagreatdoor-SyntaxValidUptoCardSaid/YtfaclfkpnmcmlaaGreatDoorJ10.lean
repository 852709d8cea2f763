import Derived.Test.YtfaclfkpnmcmlaaGreatDoorJ04
import Derived.Test.YtfaclfkpnmcmlaaGreatDoorJ09
set_option maxHeartbeats 8000000
set_option linter.all false
open Go.Proofs.Tryz
namespace Syn
open Dg
section
variable {F:Nat->al->Prop} {c:aD} {Z:List Tok}
def u9(p:Nat)(is:Nat->Bool):(bq c Z (some p) is=some (nx c Z p)/\(bq c Z (some p) fun i=>!is i)=none/\is (nx c Z p)=true)\/(bq c Z (some p) is=none/\(bq c Z (some p) fun i=>!is i)=some (nx c Z p)):=by unfold bq;cases h:is (nx c Z p)<;>simp[Option.filter,h]
theorem rR(is:Nat->Bool):bq c Z none is=none:=rfl
variable{t:Nat}{p:Option Nat}
def n5{s:al}(h:(de Z c p s).1=some t):(de Z c p s).2=[]/\∃j,p=some j:=by
 cases p with
 |none=>cases h
 |some j=>
  refine⟨?_,j,rfl⟩;unfold de at h |-;simp only[cZ]at h |-;split at h
  .rename_i a;rw[ag a]
  .cases h
variable{s:Nat}
def xD(b:∀i,K Z i=1->F 1 (X Z i)){kd:Nat}(h:(bS Z c p kd s).p=some t):(bS Z c p kd s).e=[]/\∃i,p.map (nx c Z)=some i/\(bS Z c p kd s).l=[⟨kd,X Z i,(i:Int),s,[],tt⟩]/\F 1 (X Z i)/\fy (X Z i)=false:=by
 unfold bS at h |-;cases hp:p.map (nx c Z)with
 |none=>rw[hp]at h;cases h
 |some i=>
  rw[hp]at h;simp only at h |-;split at h
  .cases h
  .rename_i a;rw[ab a];simp only[not_or,Decidable.not_not,Bool.not_eq_true]at a;exact⟨rfl,i,rfl,rfl,b i a.1,a.2⟩
def BN(h:(fL Z c p s).p=some t):(fL Z c p s).e=[]/\bX F [5] s (fL Z c p s).l:=by
 unfold fL at h |-;cases hp:p.map (nx c Z)with
 |none=>rw[hp]at h;cases h
 |some i=>
  rw[hp]at h;simp only at h |-;split at h
  .cases h
  .rename_i a;rw[ab a];refine⟨rfl,bX.mk (by simp) (xe ⟨by decide,by decide⟩ rfl ?_)⟩;show X Z i=nZ\/X Z i=nY;by_cases h1:X Z i=nZ
   .exact .inl h1
   .by_cases h2:X Z i=nY
    .exact .inr h2
    .exact absurd ⟨h1,h2⟩ a
def Lv(h:(fL Z c p s).p=some t):∃j,p=some j:=by
 cases p with
 |none=>cases h
 |some j=>exact⟨j,rfl⟩
def Gc(F:Nat->al->Prop)(Z:List Tok):gY->List M->Prop
 | .line _ _ _ s,q=>bX F bV s q
 | .lineL _ _ s _ l _ _,q=>bX F bV s l->bX F bV s q
 | .lineO _ _ s _ l _,q=>bX F bV s l->bX F bV s q
 | .unary _ _ s,q=>bX F bV s q
 | .unaryH _ _ s,q=>bX F bV s q
 | .calls _ j s _ names _,q=>bX F bV s names->(∀i,j=some i->F 1 (X Z i)/\fy (X Z i)=false)->bX F bV s q
 | .inside _ _ s,q=>bX F bV s q
 | .listed par _ _,q=>fE F (if par then [4]else bV) 0 q
 | .listL par _ l _ _,q=>fE F (if par then [4]else bV) 0 l->fE F (if par then [4]else bV) 0 q
 | .item par _ _,q=>bX F (if par then [4]else bV) 0 q
 | .behind typ _ _ _ s,q=>kJ F (if typ then [5]else bV) s q
 | .vrb _ _,q=>bX F [2] 0 q
 | .function _ _,q=>bX F [3] 0 q
 | .block _ _ s,q=>bX F [6] s q
 | .seqL top _ _ l _,q=>fE F (if top then [2,3]else dN) 0 l->fE F (if top then [2,3]else dN) 0 q
 | .stmt _ _,q=>bX F dN 0 q
 | .sCalls _ j x l _,q=>(x=none->bX F dN 0 l)->(∀i,j=some i->F 1 (X Z i)/\fy (X Z i)=false)->bX F dN 0 q
 | .branch _ _ s,q=>bX F [8] s q
 | .elses _ _ l _,q=>∀s,tU F s l->bX F [8] s q
 | .ifs _ y l _,q=>∀s,(y≠none->tU F s l)->(y=none->bX F [8] s l)->bX F [8] s q
def Wg(c:aD)(Z:List Tok):gY->Prop
 | .line k _ _ _=>k<=5
 | .lineL k _ _ _ _ g out=>k<=4/\(g=none\/out=none)
 | .lineO k _ _ op _ g=>k<=4/\(op=none\/g=none)/\∀i,op=some i->fQ (X Z i)=k
 | .unaryH _ j _=>∀i,j=some i->nx c Z i=i
 | .stmt _ j=>∀i,j=some i->nx c Z i=i
 | .calls _ _ _ x _ g=>x=none\/g=none
 | .behind _ _ p sign _=>sign≠[]
 | .sCalls _ j x _ _=>x≠none->j≠none
 | .ifs _ y _ out=>y=none\/out=none
 |_=>True
variable{q:PR}{l:List M}{n o:Nat}
def IZ{k slot:Nat}{f:Bool}{out:Option Nat}(h:dC c Z n (.lineL k o slot f l none out)=some q):q=⟨l,out,[]⟩:=by
 cases n with
 |zero=>cases h
 |succ n=>exact(cW h).symm
variable{g j:Option Nat}
def NH{slot:Nat}(h:dC c Z n (.calls o j slot none l g)=some q):q=⟨l,g,[]⟩:=by
 cases n with
 |zero=>cases h
 |succ n=>cases j<;>exact(cW h).symm
def Kk(h:dC c Z n (.sCalls o j none l g)=some q):q=⟨l,g,[]⟩:=by
 cases n with
 |zero=>cases h
 |succ n=>cases j<;>exact(cW h).symm
variable{par:Bool}
def Tq(h:dC c Z n (.listL par o l none g)=some q):q=⟨l,g,[]⟩:=by
 cases n with
 |zero=>cases h
 |succ n=>exact(cW h).symm
def Ra(h:dC c Z n (.ifs o none l g)=some q):q=⟨l,g,[]⟩:=by
 cases n with
 |zero=>cases h
 |succ n=>exact(cW h).symm
def Jb{k:Nat}(h:dC c Z n (.line k o p s)=some q)(hp:q.p=some t):∃j,p=some j:=by
 cases p with
 |none=>rw[PV.noneLine ⟨n,h⟩]at hp;cases hp
 |some j=>exact⟨j,rfl⟩
def CU(h:dC c Z n (.block o p s)=some q)(hp:q.p=some t):∃j,p=some j:=by
 cases p with
 |none=>rw[PV.noneBlock ⟨n,h⟩]at hp;cases hp
 |some j=>exact⟨j,rfl⟩
def Ru(h:dC c Z n (.inside o p s)=some q)(hp:q.p=some t):∃j,p=some j:=by
 cases p with
 |none=>rw[PV.noneInside ⟨n,h⟩]at hp;cases hp
 |some j=>exact⟨j,rfl⟩
def Tv(h:dC c Z n (.listed par o p)=some q)(hp:q.p=some t):∃j,p=some j:=by
 cases p with
 |none=>rw[PV.noneListed ⟨n,h⟩]at hp;cases hp
 |some j=>exact⟨j,rfl⟩
def GH{typ:Bool}{x:al}(h:dC c Z n (.behind typ o p x s)=some q)(hp:q.p=some t):∃j,p=some j:=by
 cases p with
 |none=>rw[PV.noneBehind ⟨n,h⟩]at hp;cases hp
 |some j=>exact⟨j,rfl⟩
def Pe(H:∀i,K Z i=1->F 1 (X Z i))(am:∀i,K Z i=2->F 2 (X Z i))(R:∀x q,dC c Z n x=some q->Wg c Z x->∀t,q.p=some t->q.e=[]/\Gc F Z x q.l):
  ∀x q,ay c Z (dC c Z n) x=some q->Wg c Z x->∀t,q.p=some t->q.e=[]/\Gc F Z x q.l:=by
 intro x q e w t hp;have z:∀{a b:List (Nat×Int)},a=[]->b=[]->a++b=[]:=fun h k=>by rw[h,k];rfl
 cases x with
 |line k o p slot=>
  have w:k<=5:=w;simp only[ay,mN]at e;split at e
  .exact(R _ _ e trivial t hp :)
  .obtain⟨a,ha,e⟩:=aB e;obtain⟨b,hb,e⟩:=aB e;cases e
   have Q:k<=4:=by omega
   cases m:a.p with
   |none=>rw[m]at hb;rw[IZ hb]at hp;cases hp
   |some j=>obtain⟨e1,h1⟩:=R _ _ ha (show k+1<=5 by omega) j m;obtain⟨e2,h3⟩:=R _ _ hb ⟨Q,.inr rfl⟩ t hp;exact⟨z e1 e2,h3 h1⟩
 |lineL k o slot first l g out=>
  simp only[ay,oQ]at e;obtain⟨Q,w⟩:=w;cases g with
  |none=>cases e;exact⟨rfl,fun r=>r⟩
  |some p=>
   simp only at e;split at e
   .cases e;exact⟨rfl,fun r=>r⟩
   .obtain⟨a,ha,e⟩:=aB e;obtain⟨b,hb,e⟩:=aB e;cases e
    rcases u9 (c:=c) (Z:=Z) p (kw Z k)with ⟨h1,h2,h3⟩|⟨h1,h2⟩
    .rw[h1]at ha;rw[h2]at hb;cases m:a.p with
     |none=>rw[m]at hb;rw[IZ hb]at hp;cases hp
     |some j=>
      obtain⟨e1,g1⟩:=R _ _ ha ⟨Q,.inr rfl,fun i hi=>by
       cases hi
       simp only[kw,cX,dA]at h3;exact h3.2⟩ j m
      obtain⟨e2,g2⟩:=R _ _ hb ⟨Q,.inr rfl⟩ t hp;exact⟨z e1 e2,fun r=>g2 (g1 r)⟩
    .rw[h1]at ha;rw[h2]at hb;have ea:a=⟨l,none,[]⟩:=by
      cases n with
      |zero=>cases ha
      |succ n=>exact(cW ha).symm
     subst ea;exact(R _ _ hb ⟨Q,.inl rfl⟩ t hp :)
 |lineO k o slot op l g=>
  simp only[ay,rS]at e;obtain⟨Q,_,w⟩:=w;cases op with
  |none=>cases e;exact⟨rfl,fun r=>r⟩
  |some i=>
   obtain⟨a,ha,e⟩:=aB e;cases e
   obtain⟨e1,h1⟩:=R _ _ ha (show k+1<=5 by omega) t hp;have h1:bX F bV 1 a.l:=h1;have B:fQ (X Z i)≠9:=by rw[w i rfl];omega
   exact⟨e1,fun r=>bX.mk (k:=13) (by simp[bV]) (DE (k:=13) ⟨by decide,by decide⟩ rfl B r.slot0.2 h1.2 r.slot0.h0 h1.h0)⟩
 |unary o p slot=>
  have e:dC c Z n (.unaryH o (p.map (nx c Z)) slot)=some q:=e;exact(R _ _ e (fun i hi=>by
   cases p with
   |none=>cases hi
   |some p=>cases hi;exact oK c Z p) t hp :)
 |unaryH o j slot=>
  simp only[ay,jW]at e;cases j with
  |none=>cases e;cases hp
  |some j=>
   have w:nx c Z j=j:=w j rfl;simp only at e;split at e
   .rename_i B;split at e
    .cases e;cases hp
    .obtain⟨a,ha,e⟩:=aB e;cases e
     obtain⟨e1,h1⟩:=R _ _ ha trivial t hp;have h1:bX F bV 0 a.l:=h1;exact⟨e1,bX.mk (k:=14) (by simp[bV]) (ow (k:=14) ⟨by decide,by decide⟩ rfl B h1.2 h1.h0)⟩
   .split at e
    .exact(R _ _ e trivial t hp :)
    .split at e
     .rename_i hk;cases e;exact⟨rfl,bX.mk (k:=15) (by simp[bV]) (xe (k:=15) ⟨by decide,by decide⟩ rfl (am j hk))⟩
     .split at e
      .rename_i B;cases e;exact⟨rfl,bX.mk (k:=16) (by simp[bV]) (xe (k:=16) ⟨by decide,by decide⟩ rfl B)⟩
      .split at e
       .cases e;exact⟨rfl,bX.mk (k:=17) (by simp[bV]) (xe (k:=17) ⟨by decide,by decide⟩ rfl rfl)⟩
       .obtain⟨b,hb,e⟩:=aB e;cases e
        cases m:(bS Z c (some j) 18 slot).p with
        |none=>rw[m]at hb;rw[rR,rR]at hb;rw[NH hb]at hp;cases hp
        |some u=>
         obtain⟨e1,i,hi,r,h1,h2⟩:=xD (F:=F) H m;obtain rfl:j=i:=by simp only[cZ,a8]at hi;rw[<-hi,w]
         have ho:bX F bV slot (bS Z c (some j) 18 slot).l:=by rw[r];exact bX.mk (k:=18) (by simp[bV]) (xe (k:=18) ⟨by decide,by decide⟩ rfl ⟨h1,h2⟩)
         have hw:Wg c Z (.calls o (some j) slot (bq c Z (bS Z c (some j) 18 slot).p (aY Z cg)) (bS Z c (some j) 18 slot).l (bq c Z (bS Z c (some j) 18 slot).p fun i=>!aY Z cg i)):=?_;obtain⟨e2,g2⟩:=R _ _ hb hw t hp;exact⟨z e1 e2,g2 ho fun i hi=>by cases hi;exact⟨h1,h2⟩⟩;rw[m];rcases u9 (c:=c) (Z:=Z) u (aY Z cg)with ⟨_,h,_⟩|⟨h,_⟩
         .exact .inr h
         .exact .inl h
 |calls o j slot x names g=>
  simp only[ay,oN]at e;cases j with
  |none=>cases e;exact⟨rfl,fun hn _=>hn⟩
  |some j=>
   cases x with
   |none=>cases e;exact⟨rfl,fun hn _=>hn⟩
   |some k=>
    obtain⟨a,ha,e⟩:=aB e;cases e
    obtain⟨e1,h1⟩:=R _ _ ha trivial t hp;exact⟨e1,fun _ hi=>bX.mk (k:=19) (by simp[bV]) (ow (k:=19) ⟨by decide,by decide⟩ rfl (hi j rfl) h1 (Ae _))⟩
 |inside o p slot=>
  simp only[ay,nH]at e;cases hm:p.map (nx c Z)with
  |none=>rw[hm]at e;cases e;cases hp
  |some i=>
   rw[hm]at e;simp only at e;split at e
   .cases e;cases hp
   .split at e
    .cases e;cases hp
    .obtain⟨a,ha,e⟩:=aB e;cases e
     obtain⟨e2,j,J⟩:=n5 hp;obtain⟨e1,h1⟩:=R _ _ ha (aF _) j J;exact⟨z e1 e2,h1⟩
 |listed par o p=>
  simp only[ay,nI]at e;cases hm:p.map (nx c Z)with
  |none=>rw[hm]at e;cases e;cases hp
  |some i=>
   rw[hm]at e;simp only at e;split at e
   .cases e;cases hp
   .split at e
    .cases e;cases hp
    .obtain⟨a,ha,e⟩:=aB e;cases e
     obtain⟨e2,j,J⟩:=n5 hp;obtain⟨e1,h1⟩:=R _ _ ha trivial j J;exact⟨z e1 e2,h1 (fE.nil _ _)⟩
 |listL par o l g fin=>
  simp only[ay,rT]at e;cases g with
  |none=>cases e;exact⟨rfl,fun r=>r⟩
  |some p=>
   obtain⟨a,ha,e⟩:=aB e;obtain⟨b,hb,e⟩:=aB e;cases e
   cases m:a.p with
   |none=>rw[m]at hb;rw[rR,rR]at hb;rw[Tq hb]at hp;cases hp
   |some j=>obtain⟨e1,h1⟩:=R _ _ ha trivial j m;have h1:bX F (if par then [4]else bV) 0 a.l:=h1;obtain⟨e2,h3⟩:=R _ _ hb trivial t hp;exact⟨z e1 e2,fun r=>h3 (r.app h1.2)⟩
 |item par o p=>
  simp only[ay,oP]at e;cases par with
  |true=>
   simp only[co]at e;cases e
   obtain⟨N,ty⟩:=BN (F:=F) hp;obtain⟨j,J⟩:=Lv hp;obtain⟨e2,u,G⟩:=n5 J;obtain⟨e1,i,_,r,h1,h2⟩:=xD (F:=F) H G;refine⟨z (z e1 e2) N,?_⟩;show bX F [4] 0 (give _ _);rw[r];exact bX.mk (k:=4) (by simp) (ow (k:=4) ⟨by decide,by decide⟩ rfl ⟨h1,h2⟩ ty.2 ty.h0)
  |false=>simp only[dK,dD]at e;exact(R _ _ e (aF _) t hp :)
 |behind typ o p sign slot=>
  simp only[ay,oM]at e;obtain⟨a,ha,e⟩:=aB e;cases e
  have A:∀{a:PR},mL c Z (dC c Z n) typ o none slot=some a->a=triv:=by
   intro a ha;unfold mL at ha;cases typ with
   |true=>simp only[co]at ha;cases ha;rfl
   |false=>simp only[dK,dD]at ha;exact PV.noneLine ⟨n,ha⟩
  cases p with
  |none=>rw[rR]at ha;rw[A ha]at hp;cases hp
  |some s=>
   rcases u9 (c:=c) (Z:=Z) s (aY Z sign)with ⟨h1,h2,_⟩|⟨h1,h2⟩
   .rw[h1]at ha;rw[h2]at hp;simp only[Option.none_or]at hp;unfold mL at ha;cases typ with
    |true=>
     simp only[co]at ha;cases ha
     exact⟨(BN (F:=F) hp).1,(BN hp).2.opt⟩
    |false=>simp only[dK,dD]at ha;obtain⟨e1,h1⟩:=R _ _ ha (aF _) t hp;have h1:bX F bV slot a.l:=h1;exact⟨e1,h1.opt⟩
   .rw[h1]at ha;refine⟨by show a.e=[];rw[A ha];rfl,?_⟩;show kJ F _ slot a.l;rw[A ha];exact kJ.nil _ _
 |vrb o p=>
  simp only[ay,qr]at e;obtain⟨d,hd,e⟩:=aB e;cases e
  obtain⟨e5,j,J⟩:=n5 hp;obtain⟨v,hv⟩:=GH hd J;obtain⟨N,ty⟩:=BN (F:=F) hv;obtain⟨u,G⟩:=Lv hv;obtain⟨e2,u,G⟩:=n5 G;obtain⟨e1,i,_,r,h1,h2⟩:=xD (F:=F) H G;obtain⟨V,h3⟩:=R _ _ hd (by show iw≠[];decide) j J;have h3:kJ F bV 1 d.l:=h3;refine⟨z (z (z (z e1 e2) N) V) e5,?_⟩;show bX F [2] 0 (give (give _ _) _);rw[r];exact bX.mk (k:=2) (by simp) (DE (k:=2) ⟨by decide,by decide⟩ rfl ⟨h1,h2⟩ ty.2 h3.2 ty.h0 h3.hOneV)
 |function o p=>
  simp only[ay,qp]at e;obtain⟨b,hb,e⟩:=aB e;obtain⟨d,hd,e⟩:=aB e;obtain⟨f,hf,e⟩:=aB e;cases e
  obtain⟨j3,S⟩:=CU hf hp;obtain⟨j2,T⟩:=GH hd S;obtain⟨j1,aa⟩:=Tv hb T;obtain⟨e1,i,_,r,h1,L⟩:=xD (F:=F) H aa;obtain⟨e2,g1⟩:=R _ _ hb trivial j2 T;obtain⟨N,g2⟩:=R _ _ hd (by show du≠[];decide) j3 S;obtain⟨V,W⟩:=R _ _ hf trivial t hp;have g1:fE F [4] 0 b.l:=g1;have g2:kJ F [5] 1 d.l:=g2;have W:bX F [6] 2 f.l:=W;refine⟨z (z (z e1 e2) N) V,?_⟩;show bX F [3] 0 (give (give (give _ _) _) _);rw[r];exact bX.mk (k:=3) (by simp) (HE (k:=3) ⟨by decide,by decide⟩ rfl ⟨h1,L⟩ g1 g2.2 W.2 (Ae _) g2.hOneV W.h0)
 |block o p slot=>
  simp only[ay,nF]at e;cases hm:p.map (nx c Z)with
  |none=>rw[hm]at e;cases e;cases hp
  |some i=>
   rw[hm]at e;simp only at e;split at e
   .cases e;cases hp
   .split at e
    .cases e;cases hp
    .obtain⟨a,ha,e⟩:=aB e;cases e
     obtain⟨e2,j,J⟩:=n5 hp;obtain⟨e1,h1⟩:=R _ _ ha trivial j J;have h1:fE F dN 0 a.l:=h1 (fE.nil _ _);exact⟨z e1 e2,bX.mk (k:=6) (by simp) (ow (k:=6) ⟨by decide,by decide⟩ rfl rfl h1 (Ae _))⟩
 |seqL top o p l out=>
  simp only[ay,oS]at e;cases hm:p.map (nx c Z)with
  |none=>rw[hm]at e;cases e;exact⟨rfl,fun r=>r⟩
  |some i=>
   rw[hm]at e;simp only at e;split at e
   .cases e;exact⟨rfl,fun r=>r⟩
   .obtain⟨a,ha,e⟩:=aB e;obtain⟨b,hb,e⟩:=aB e;cases e
    cases m:a.p with
    |none=>rw[m]at hb;rw[PV.noneSeq ⟨n,hb⟩]at hp;cases hp
    |some j=>
     have h1:a.e=[]/\fE F (if top then [2,3]else dN) 0 a.l:=by
      unfold kY at ha;cases top with
      |false=>
       simp only[dK,dD]at ha;have:=(R _ _ ha (fun i' ac=>by
        cases ac
        cases p with
        |none=>cases hm
        |some p=>cases hm;exact oK c Z p) j m :)
       exact⟨this.1,this.2.2⟩
      |true=>
       simp only[co]at ha;unfold nJ at ha;split at ha
       .obtain⟨e1,this⟩:=R _ _ ha trivial j m;have:bX F [2] 0 a.l:=this;exact⟨e1,(this.mono (K':=[2,3]) (by simp)).2⟩
       .split at ha
        .obtain⟨e1,this⟩:=R _ _ ha trivial j m;have:bX F [3] 0 a.l:=this;exact⟨e1,(this.mono (K':=[2,3]) (by simp)).2⟩
        .cases ha;cases m
     obtain⟨e2,h3⟩:=R _ _ hb trivial t hp;exact⟨z h1.1 e2,fun r=>h3 (r.app h1.2)⟩
 |stmt o j=>
  simp only[ay,kz]at e;cases j with
  |none=>cases e;cases hp
  |some j=>
   have w:nx c Z j=j:=w j rfl;simp only at e;split at e
   .obtain⟨e1,this⟩:=R _ _ e trivial t hp;have:bX F [2] 0 q.l:=this;exact⟨e1,this.mono (by simp[dN])⟩
   .split at e
    .obtain⟨e1,this⟩:=R _ _ e trivial t hp;have:bX F [8] 0 q.l:=this;exact⟨e1,this.mono (by simp[dN])⟩
    .split at e
     .obtain⟨a,ha,e⟩:=aB e;obtain⟨b,hb,e⟩:=aB e;cases e
      obtain⟨u,G⟩:=CU hb hp;obtain⟨e1,h1⟩:=R _ _ ha trivial u G;obtain⟨e2,h3⟩:=R _ _ hb trivial t hp;have h1:bX F bV 0 a.l:=h1;have h3:bX F [6] 1 b.l:=h3;exact⟨z e1 e2,bX.mk (k:=9) (by simp[dN]) (DE (k:=9) ⟨by decide,by decide⟩ rfl rfl h1.2 h3.2 h1.h0 h3.h0)⟩
     .split at e
      .obtain⟨e1,this⟩:=R _ _ e trivial t hp;have:bX F [6] 0 q.l:=this;exact⟨e1,this.mono (by simp[dN])⟩
      .split at e
       .obtain⟨a,ha,e⟩:=aB e;cases e
        have h1:a.e=[]/\kJ F bV 0 a.l:=by
         rcases u9 (c:=c) (Z:=Z) (j+1) (aY Z bO)with ⟨I,P,_⟩|⟨I,P⟩
         .rw[P]at ha;rw[PV.noneLine ⟨n,ha⟩];exact⟨rfl,kJ.nil _ _⟩
         .rw[I,Option.or_none]at hp;obtain⟨_,u,G⟩:=n5 hp;obtain⟨e1,this⟩:=R _ _ ha (aF _) u G;have:bX F bV 0 a.l:=this;exact⟨e1,this.opt⟩
        exact⟨z h1.1 (n5 hp).1,bX.mk (k:=10) (by simp[dN]) (ow (k:=10) ⟨by decide,by decide⟩ rfl rfl h1.2.2 h1.2.hOneV)⟩
       .split at e
        .obtain⟨a,ha,e⟩:=aB e;cases e
         obtain⟨e2,u,G⟩:=n5 hp;obtain⟨e1,h1⟩:=R _ _ ha (aF _) u G;have h1:bX F bV 0 a.l:=h1;refine⟨z e1 e2,?_⟩;by_cases B:X Z j=jF
         .simp only[B,co];exact bX.mk (k:=12) (by simp[dN]) (ow (k:=12) ⟨by decide,by decide⟩ rfl rfl h1.2 h1.h0)
         .simp only[B,dD];exact bX.mk (k:=11) (by simp[dN]) (ow (k:=11) ⟨by decide,by decide⟩ rfl rfl h1.2 h1.h0)
        .obtain⟨b,hb,e⟩:=aB e;obtain⟨d,hd,e⟩:=aB e;cases e
         obtain⟨e5,v,hv⟩:=n5 hp;cases m:(bS Z c (some j) 7 0).p with
         |none=>rw[m]at hb hd;rw[rR]at hb hd;rw[Kk hd]at hv;obtain⟨_,h⟩:=Jb hb hv;cases h
         |some u=>
          obtain⟨e1,i,hi,r,h1,L⟩:=xD (F:=F) H m;obtain rfl:j=i:=by simp only[cZ,a8]at hi;rw[<-hi,w]
          obtain⟨V,g⟩:=R _ _ hd (fun _ h=>by cases h) v hv;have U:(de Z c (bq c Z (some u) fun i=>!aY Z cg i) iw).2=[]/\b.e=[]/\(bq c Z (some u) (aY Z cg)=none->bX F bV 0 b.l):=by
           rcases u9 (c:=c) (Z:=Z) u (aY Z cg)with ⟨I,P,_⟩|⟨I,P⟩
           .rw[m]at hb;rw[P]at hb |-;rw[PV.noneLine ⟨n,hb⟩];exact⟨rfl,rfl,fun h=>by rw[I]at h;cases h⟩
           .rw[m,I]at hd;have C:b.p=some v:=by rw[Kk hd]at hv;exact hv
            obtain⟨N,h3⟩:=R _ _ hb (aF _) v C;rw[m]at hb;obtain⟨x,B⟩:=Jb hb C;exact⟨(n5 B).1,N,fun _=>h3⟩
          refine⟨z (z (z (z e1 U.1) U.2.1) V) e5,g (fun B=>?_) fun i hi=>by cases hi;exact⟨h1,L⟩⟩;have h3:=U.2.2 (by rw[<-m];exact B);rw[r];exact bX.mk (k:=7) (by simp[dN]) (ow (k:=7) ⟨by decide,by decide⟩ rfl ⟨h1,L⟩ h3.2 h3.h0)
 |sCalls o j x l g=>
  simp only[ay,oR]at e;cases j with
  |none=>
   cases e
   refine⟨rfl,fun h1 _=>h1 ?_⟩;cases x with
   |none=>rfl
   |some x=>exact absurd rfl (w (by simp))
  |some j=>
   cases x with
   |none=>cases e;exact⟨rfl,fun h1 _=>h1 rfl⟩
   |some k=>
    obtain⟨a,ha,e⟩:=aB e;cases e
    obtain⟨e1,h4⟩:=R _ _ ha trivial t hp;exact⟨e1,fun _ h3=>bX.mk (k:=19) (by simp[dN]) (ow (k:=19) ⟨by decide,by decide⟩ rfl (h3 j rfl) h4 (Ae _))⟩
 |branch o j slot=>
  simp only[ay,ql]at e;obtain⟨a,ha,e⟩:=aB e;obtain⟨b,hb,e⟩:=aB e;obtain⟨d,hd,e⟩:=aB e;cases e
  cases C:b.p with
  |none=>rw[C]at hd;rw[rR,rR]at hd;rw[PV.noneElses ⟨n,hd⟩]at hp;cases hp
  |some u=>
   obtain⟨v,hv⟩:=CU hb C;obtain⟨x,B⟩:=Ru ha hv;cases j with
   |none=>cases B
   |some j=>obtain⟨e1,h1⟩:=R _ _ ha trivial v hv;obtain⟨e2,h3⟩:=R _ _ hb trivial u C;obtain⟨N,h4⟩:=R _ _ hd trivial t hp;exact⟨z (z e1 e2) N,h4 slot ⟨j,a.l,b.l,rfl,h1,h3⟩⟩
 |elses o x l out=>
  simp only[ay,qo]at e;cases x with
  |none=>cases e;exact⟨rfl,fun s r=>r.one⟩
  |some j=>
   obtain⟨a,ha,e⟩:=aB e;obtain⟨b,hb,e⟩:=aB e;cases e
   rcases u9 (c:=c) (Z:=Z) (j+1) (aY Z eG)with ⟨I,P,_⟩|⟨I,P⟩
   .rw[P]at ha;rw[I]at hb;have ea:=PV.noneBlock ⟨n,ha⟩;subst ea;obtain⟨e2,h3⟩:=R _ _ hb (.inr rfl) t hp;refine⟨e2,fun s r=>h3 s (fun _=>?_) (fun h=>by cases h)⟩;obtain⟨o,a,b,rfl,h1,h3⟩:=r;exact⟨o,a,b,by simp[give,triv],h1,h3⟩
   .rw[I]at hb;have U:=Ra hb;subst U;obtain⟨e1,h1⟩:=R _ _ ha trivial t hp;have h1:bX F [6] 2 a.l:=h1;exact⟨z e1 rfl,fun s r=>r.fill (h1.mono (by simp)).opt⟩
 |ifs o y l out=>
  simp only[ay,qq]at e;cases y with
  |none=>cases e;exact⟨rfl,fun s _ h3=>h3 rfl⟩
  |some j=>
   simp only at e;split at e
   .cases e
    rw[w.resolve_left (by simp)]at hp;cases hp
   .obtain⟨a,ha,e⟩:=aB e;cases e
    obtain⟨e1,h4⟩:=R _ _ ha trivial t hp;have h4:bX F [8] 2 a.l:=h4;exact⟨e1,fun s h1 _=>(h1 (by simp)).fill (h4.mono (by simp)).opt⟩
def Hx(b:∀i,K Z i=1->F 1 (X Z i))(a:∀i,K Z i=2->F 2 (X Z i)):∀n x q,dC c Z n x=some q->Wg c Z x->∀t,q.p=some t->q.e=[]/\Gc F Z x q.l
 |0,_,_,h,_,_,_=>by cases h
 |n+1,x,q,h,w,t,hp=>Pe b a (Hx b a n) x q h w t hp
end
open Dg
mutual
def wW:M->Prop
 |⟨_,_,_,_,ks,d⟩=>d=tt/\lO ks
def lO:List M->Prop
 | []=>True
 |n::l=>wW n/\lO l
end
def OJ(n:M):wW n=(n.cond=tt/\lO n.kids):=by cases n;simp only[wW]
def uC:∀{l:List M},lO l->∀n∈l,n.cond=tt/\lO n.kids
 |m::l,h,n,a=>by
  unfold lO at h;rcases List.mem_cons.1 a with rfl|a
  .rw[<-OJ];exact h.1
  .exact uC h.2 n a
mutual
theorem OL(c:aD):∀(n m:M),pN c n=some m->wW m
 |⟨k,t,o,s,ks,d⟩,m,h=>by
  unfold pN at h
  split at h
  .cases h
   unfold wW
   exact⟨rfl,zT c ks⟩
  .cases h
theorem zT (c:aD):∀l:List M,lO (pL c l)
 | []=>by unfold pL lO;trivial
 |n::l=>by
  unfold pL
  cases h:pN c n with
  |none=>exact zT c l
  |some m=>simp only;unfold lO;exact⟨OL c n m h,zT c l⟩
end
def Fy{n:M}:∀{l:List M},n∈l->n.tok∈dr l
 |m::l,h=>by
  rw[kE];rcases List.mem_cons.1 h with rfl|h
  .exact .head _
  .exact .tail _ (gz _ (Fy h))
def Lm:∀{l:List M},(dr l).Nodup->l.Pairwise fun a b=>a.key≠b.key
 | [],_=>List.Pairwise.nil
 |n::l,h=>by rw[kE,List.nodup_cons]at h;refine List.pairwise_cons.2 ⟨fun b hb e=>h.1 ?_,Lm (List.nodup_append.1 h.2).2.1⟩;have:n.tok=b.tok:=congrArg eP.tok e;rw[this];exact gz _ (Fy hb)
def Fx{n:M}:∀{l:List M},(dr l).Nodup->n∈l->(dr n.kids).Nodup
 |m::l,h,a=>by
  rw[kE,List.nodup_cons]at h;rcases List.mem_cons.1 a with rfl|a
  .exact(List.nodup_append.1 h.2).1
  .exact Fx (List.nodup_append.1 h.2).2.1 a
def Jp{n:M}:∀{l:List M},l.Pairwise (fun a b=>a.key≠b.key)->(∀m∈l,m.cond=tt)->n∈l->l.filter (dG n.key)=[n]
 |m::l,h,ht,c=>by
  rw[mh]at h;have hm:m.cond≠ff:=by rw[ht m (.head _)];decide
  rcases List.mem_cons.1 c with rfl|c
  .rw[hZ,ag (by simp[dG,hm])];congr 1;exact List.filter_eq_nil_iff.2 fun b hb=>by simp only[dG,cX,dA,not_and];exact fun e=>absurd e.symm (h.1 b hb)
  .rw[hZ,ab (by simp only[dG,cX,dA,not_and];exact fun e=>absurd e (h.1 n c))]
   exact Jp h.2 (fun m hm=>ht m (.tail _ hm)) c
def Et(d:Nat)(n:M):M:={ n with kids:=cO d n.kids }
variable{l:List M}
def xA{d:Nat}(h:(dr l).Nodup)(ht:∀m∈l,m.cond=tt):(cO (d+1) l).Perm (l.map (Et d)):=by
 have f:=Lm h;have b:(ks l).Nodup:=Ei l;have a:(l.map M.key).Nodup:=List.pairwise_map.2 f;have hp:(ks l).Perm (l.map M.key):=(List.perm_ext_iff_of_nodup b a).2 fun k=>by
  rw[te,mg];constructor
  .rintro⟨n,h1,h2,_⟩;exact⟨n,h1,h2⟩
  .rintro⟨n,h1,h2⟩;exact⟨n,h1,h2,by rw[ht n h1];decide⟩
 have hm:=hp.map fun k=>(⟨k.kind,k.text,k.tok,k.slot,cO d (en l k),iC l k⟩:M);rw[pi]at hm;refine hm.trans (List.Perm.of_eq (m0 fun n c=>?_));have e:=Jp f ht c;have e1:en l n.key=n.kids:=by unfold en;rw[e];simp
 have e2:iC l n.key=n.cond:=by unfold iC;rw[e];simp only[gW,List.foldl_nil];rw[ht n c];rfl
 show (⟨n.kind,n.text,n.tok,n.slot,cO d (en l n.key),iC l n.key⟩:M)=_;rw[e1,e2];rfl
def NF{d:Nat}(h:(dr l).Nodup)(ht:∀m∈l,m.cond=tt)(s:Int):cS s (cO (d+1) l)=cS s l:=by unfold cS;rw[(xA h ht).countP_eq,List.countP_map];rfl
def FV{F:Nat->al->Prop}:∀(d:Nat) {l:List M},cG l<=d->(dr l).Nodup->lO l->GA F l->GA F (cO d l)
 |0,l,hd,_,_,_=>trivial
 |d+1,l,hd,h,j,o=>tS.2 fun m hm=>by
  have ht:∀m∈l,m.cond=tt:=fun m hm=>(uC j m hm).1;obtain⟨n,f,rfl⟩:=List.mem_map.1 ((xA h ht).mem_iff.1 hm);obtain⟨g1,g2,s,q,p⟩:=(qO n).1 (tS.1 o n f);have c:cG n.kids<=d:=by have:=ry f;rw[pJ]at this;omega
  have b:=(uC j n f).2;have a:∀m∈n.kids,m.cond=tt:=fun m hm=>(uC b m hm).1;have g:=Fx h f;refine(qO _).2 ⟨g1,g2,?_,?_,FV d c g b p⟩
  .intro m hm;have hm:m∈cO d n.kids:=hm;cases d with
   |zero=>exact(dH hm).elim
   |succ d=>obtain⟨x,k,rfl⟩:=List.mem_map.1 ((xA g a).mem_iff.1 hm);exact s x k
  .intro i r hr;show (r.1=0->cS i (cO d n.kids)=1)/\(r.1=1->cS i (cO d n.kids)<=1);have e:cS i (cO d n.kids)=cS i n.kids:=by
    cases d with
    |zero=>rw[Ej (Nat.le_zero.1 c)];rfl
    |succ d=>exact NF g a i
   rw[e];exact q i r hr
def WO{a b:List M}(h:a.Perm b):(dr a).Perm (dr b):=by
 induction h with
 |nil=>exact .refl _
 |cons x _ c=>rw[kE,kE];exact(c.append_left _).cons _
 |swap x y l=>have e:∀(x:M) (l:List M),dr (x::l)=Ll x++dr l:=fun x l=>rfl;rw[e,e,e,e,<-cq,<-cq];exact List.perm_append_comm.append_right _
 |trans _ _ h1 h2=>exact h1.trans h2
def Ln:∀(d:Nat) {l:List M},cG l<=d->(dr l).Nodup->lO l->(dr (cO d l)).Perm (dr l)
 |0,l,hd,_,_=>by rw[Ej (Nat.le_zero.1 hd)];exact .refl _
 |d+1,l,hd,h,c=>by
  have ht:∀m∈l,m.cond=tt:=fun m hm=>(uC c m hm).1;refine(WO (xA h ht)).trans ?_;have key:∀m:List M,(∀n∈m,(dr (cO d n.kids)).Perm (dr n.kids))->(dr (m.map (Et d))).Perm (dr m):=by
   intro m
   induction m with
   |nil=>intro _;exact .refl _
   |cons n m e=>intro b;rw[ib,kE,kE];exact((b n (.head _)).append (e fun n a=>b n (.tail _ a))).cons _
  exact key l fun n a=>Ln d (by have:=ry a;rw[pJ]at this;omega) (Fx h a) (uC c n a).2
def JI:∀(t:Nat) (l:List Int),l.Nodup->(∀x∈l,0<=x/\x<(t:Int))->l.length<=t
 |0,l,_,h=>by
  cases l with
  |nil=>exact aR _
  |cons x l=>have:=h x (.head _);omega
 |t+1,l,a,h=>by
  have h1:=JI t (l.filter fun x=>decide (x≠(t:Int))) (a.filter _) fun x b=>by obtain⟨h1,h2⟩:=List.mem_filter.1 b;have:=h x h1;simp only[dA]at h2;omega
  have h2:l.count (t:Int)<=1:=List.nodup_iff_count.1 a _;have h3:∀m:List Int,m.length=(m.filter fun x=>decide (x≠(t:Int))).length+m.count (t:Int):=by
   intro m
   induction m with
   |nil=>rfl
   |cons x m c=>
    by_cases e:x=(t:Int)
    .subst e;rw[hZ,ab (by simp),List.count_cons_self,bm];omega
    .rw[hZ,ag (by simp[e]),List.count_cons_of_ne e,bm,bm];omega
  have:=h3 l;omega
def Fv:∀(k:Nat) (l:List M),aO l<k->(dr l).length=aO l
 |0,_,h=>by omega
 |_+1,[],_=>rfl
 |k+1,n::l,h=>by rw[dl]at h |-;have h1:=Fv k n.kids O;have h2:=Fv k l O;rw[kE,bm,aE];omega
open Dg
section
variable {c:aD} {Z:List Tok}
def Uk(p:Nat):nx c Z p<=nx c Z (p+1):=by
 unfold nx;cases h:Z.drop p with
 |nil=>
  have e:Z.drop (p+1)=[]:=by rw[<-lr,h];rfl
  rw[e];simp[gd]
 |cons t l=>
  have e:Z.drop (p+1)=l:=by rw[<-lr,h];rfl
  rw[e];simp only[gd];split
  .have:=(xF c l (p+1)).1;omega
  .exact aR _
def JK:∀(l:List Tok) (i:Nat),gd c l i<=i+l.length
 | [],i=>aR _
 |t::l,i=>by have:=JK l (i+1);simp only[gd,bm];split<;>omega
def JL{p:Nat}(h:p<=Z.length):nx c Z p<=Z.length:=by have:=JK (c:=c) (Z.drop p) p;rw[vY]at this;unfold nx;omega
def LP(c:aD)(Z:List Tok)(p:Option Nat)(e:List (Nat×Int))(t:Nat):Prop:=
 (e=[]/\∃j,p=some j/\nx c Z j=t)\/(p=none/\∃k,e=[(k,(t:Int))]/\nx c Z t=t/\(k=10\/k=11/\t<Z.length))
def bt(c:aD)(Z:List Tok)(s p:Option Nat)(e:List (Nat×Int)):Prop:=
 match s with
 |none=>p=none/\e=[]
 |some s=>∃t,LP c Z p e t/\nx c Z s<=t/\(s<=Z.length->t<=Z.length/\∀j,p=some j->j<=Z.length)
def bt.self(p:Option Nat):bt c Z p p []:=by
 cases p with
 |none=>exact⟨rfl,rfl⟩
 |some j=>exact⟨_,.inl ⟨rfl,j,rfl,rfl⟩,aR _,fun h=>⟨JL h,fun _ e=>by cases e;exact h⟩⟩
def bt.err{i k:Nat}(h:nx c Z i=i)(a:k=10\/k=11/\i<Z.length):bt c Z (some i) none [(k,(i:Int))]:=⟨i,.inr ⟨rfl,k,rfl,h,a⟩,Nat.le_of_eq h,fun h=>⟨h,fun j e=>by cases e⟩⟩
variable{e:List (Nat×Int)}{p:Option Nat}
def bt.ofN{s:Option Nat}(h:bt c Z (s.map (nx c Z)) p e):bt c Z s p e:=by
 cases s with
 |none=>exact h
 |some s=>obtain⟨t,h1,h2,h3⟩:=h;rw[oK]at h2;exact⟨t,h1,h2,fun h=>h3 (JL h)⟩
def bt.up{s:Option Nat}(hs:Lt Z.length s)(h:bt c Z (s.map (·+1)) p e):bt c Z s p e:=by
 cases s with
 |none=>exact h
 |some s=>obtain⟨t,h1,h2,h3⟩:=h;exact⟨t,h1,fD (Uk s) h2,fun _=>h3 (hs s rfl)⟩
def bt.next{i:Nat}(hi:i<Z.length):bt c Z (some i) (some (i+1)) []:=bt.up (s:=some i) (Lt.of hi) (bt.self (some (i+1)))
def bt.seq{s q:Option Nat}{f:List (Nat×Int)}(h:bt c Z s p e)(k:bt c Z p q f):bt c Z s q (e++f):=by
 cases s with
 |none=>obtain⟨rfl,rfl⟩:=h;exact k
 |some s=>
  obtain⟨t,h1,h2,h4⟩:=h;rcases h1 with ⟨rfl,j,rfl,h3⟩|⟨rfl,x,rfl,h3⟩
  .obtain⟨u,b,d,a⟩:=k;exact⟨u,b,O,fun h=>a ((h4 h).2 j rfl)⟩
  .obtain⟨rfl,rfl⟩:=k;exact⟨t,.inr ⟨rfl,x,rfl,h3⟩,h2,fun h=>⟨(h4 h).1,fun j e=>by cases e⟩⟩
def bt.side{x g:Option Nat}(a:x=none\/g=none)(h:bt c Z x p e):bt c Z (x.or g) (p.or g) e/\(p=none\/g=none):=by
 rcases a with rfl|rfl
 .obtain⟨rfl,rfl⟩:=h;exact⟨bt.self g,.inl rfl⟩
 .rw[Option.or_none,Option.or_none];exact⟨h,.inr rfl⟩
def AW{x y:Option Nat}(h:x=none\/y=none):x.or y=y.or x:=by rcases h with rfl|rfl<;>simp
def nG(p:Option Nat)(is:Nat->Bool):bq c Z p is=none\/(bq c Z p fun i=>!is i)=none:=by
 unfold bq;cases p.map (nx c Z)with
 |none=>exact .inl rfl
 |some i=>cases h:is i<;>simp[Option.filter,h]
def xP(p:Option Nat)(is:Nat->Bool):(bq c Z p is).or (bq c Z p fun i=>!is i)=p.map (nx c Z):=by
 unfold bq;cases p.map (nx c Z)with
 |none=>rfl
 |some i=>cases h:is i<;>simp[Option.filter,h]
def Be(p:Option Nat)(is:Nat->Bool):(bq c Z p fun i=>!is i).or (bq c Z p is)=p.map (nx c Z):=by rw[AW ((nG p is).symm),xP]
def bt.fork1{q:Option Nat}{s:al}(hs:s≠[])(h:bt c Z (((bq c Z p (aY Z s)).map (·+1)).or (bq c Z p fun i=>!aY Z s i)) q e):bt c Z p q e:=by
 refine bt.ofN ?_;rw[<-xP p (aY Z s)];have a:=th (c:=c) (Z:=Z) (p:=p) hs;rcases nG (c:=c) (Z:=Z) p (aY Z s)with x|x
 .rw[x]at h |-;exact h
 .rw[x]at h |-;rw[Option.or_none]at h |-;exact bt.up a h
def JB{i k kd s:Nat}{is:Nat->Bool}(h:bq c Z (bS Z c (some i) kd s).p is=some k):i<=k:=by
 have h0:=qg c Z i;unfold bS at h;simp only[cZ]at h;split at h
 .cases h
 .unfold bq at h;have h:=(Option.filter_eq_some_iff.1 h).1;simp only[cZ,a8]at h;have:=qg c Z (nx c Z i+1);omega
def qU(c:aD)(Z:List Tok)(p:Option Nat):Prop:=∀j,p=some j->nx c Z j=j
def Bd(p:Option Nat)(is:Nat->Bool):qU c Z (bq c Z p is):=by
 intro j h;unfold bq at h;have h:=(Option.filter_eq_some_iff.1 h).1;cases p with
 |none=>cases h
 |some i=>cases h;exact oK c Z i
def AB(p:Option Nat):qU c Z (p.map (nx c Z)):=by
 intro j h;cases p with
 |none=>cases h
 |some i=>cases h;exact oK c Z i
def o8(p:Option Nat){s:al}(hs:s≠[]):bt c Z p (de Z c p s).1 (de Z c p s).2:=by
 refine bt.ofN ?_;unfold de;have a:=AB (c:=c) (Z:=Z) p;generalize p.map (nx c Z)=w at a |-;cases w with
 |none=>exact⟨rfl,rfl⟩
 |some i=>
  simp only;split
  .rename_i h;exact bt.next (eS (by rw[h];exact hs))
  .exact bt.err (a i rfl) (.inl rfl)
def xB(p:Option Nat)(k s:Nat):bt c Z p (bS Z c p k s).p (bS Z c p k s).e:=by
 refine bt.ofN ?_;unfold bS;have a:=AB (c:=c) (Z:=Z) p;generalize p.map (nx c Z)=w at a |-;cases w with
 |none=>exact⟨rfl,rfl⟩
 |some i=>
  simp only;split
  .exact bt.err (a i rfl) (.inl rfl)
  .rename_i h;exact bt.next (qP fun h2=>h (.inl (by rw[h2];decide)))
def FE(p:Option Nat)(s:Nat):bt c Z p (fL Z c p s).p (fL Z c p s).e:=by
 refine bt.ofN ?_;unfold fL;have a:=AB (c:=c) (Z:=Z) p;generalize p.map (nx c Z)=w at a |-;cases w with
 |none=>exact⟨rfl,rfl⟩
 |some i=>
  simp only;split
  .exact bt.err (a i rfl) (.inl rfl)
  .rename_i h;exact bt.next (eS fun h2=>h (by rw[h2];exact⟨by decide,by decide⟩))
end
section
variable {c:aD} {Z:List Tok}
def Fa:gY->Option Nat
 | .line _ _ p _=>p
 | .lineL _ _ _ _ _ g out=>g.or out
 | .lineO _ _ _ op _ g=>op.or g
 | .unary _ p _=>p
 | .unaryH _ i _=>i
 | .calls _ _ _ x _ g=>x.or g
 | .inside _ p _=>p
 | .listed _ _ p=>p
 | .listL _ _ _ g fin=>g.or fin
 | .item _ _ p=>p
 | .behind _ _ p _ _=>p
 | .vrb _ p=>p
 | .function _ p=>p
 | .block _ p _=>p
 | .seqL _ _ p _ out=>p.or out
 | .stmt _ i=>i
 | .sCalls _ _ x _ g=>x.or g
 | .branch _ i _=>i
 | .elses _ x _ out=>x.or out
 | .ifs _ y _ out=>y.or out
def CG(c:aD)(Z:List Tok):gY->Prop
 | .lineL _ _ _ _ _ g out=>g=none\/out=none
 | .lineO _ _ _ op _ g=>(op=none\/g=none)/\qU c Z op/\Lt Z.length op
 | .unaryH _ i _=>qU c Z i
 | .calls _ i _ x _ g=>(x=none\/g=none)/\qU c Z x/\∀k,x=some k->∃j,i=some j/\j<=k
 | .listL _ _ _ g fin=>g=none\/fin=none
 | .behind _ _ _ s _=>s≠[]
 | .seqL _ _ p _ out=>p=none\/out=none
 | .stmt _ i=>qU c Z i
 | .sCalls _ i x _ g=>(x=none\/g=none)/\qU c Z x/\∀k,x=some k->∃j,i=some j/\j<=k
 | .branch _ i _=>Lt Z.length i
 | .elses _ x _ out=>(x=none\/out=none)/\Lt Z.length x
 | .ifs _ y _ out=>(y=none\/out=none)/\qU c Z y/\Lt Z.length y
 |_=>True
def Ey{p k:Nat}{s:al}{a:Option PR}{q:PR}(hs:s≠[])(f:Lt Z.length (some (nx c Z p))->a=some q->bt c Z (some (nx c Z p)) q.p q.e)
  (e:(if X Z (nx c Z p)≠s then some ⟨[],none,[(10,((nx c Z p:Nat):Int))]⟩else if k=64 then some ⟨[],none,[(11,((nx c Z p:Nat):Int))]⟩else a)=some q):bt c Z (some (nx c Z p)) q.p q.e:=by
 have b:=oK c Z p;split at e
 .cases e
  exact bt.err b (.inl rfl)
 .rename_i h1;have d:nx c Z p<Z.length:=eS (by rw[Classical.not_not.1 h1];exact hs);split at e
  .cases e
   exact bt.err b (.inr ⟨rfl,d⟩)
  .exact f (Lt.of d) e
def OF{r:jJ}(H:∀x q,r x=some q->CG c Z x->bt c Z (Fa x) q.p q.e):∀x q,ay c Z r x=some q->CG c Z x->bt c Z (Fa x) q.p q.e:=by
 intro x q e w;cases x with
 |line k o p slot=>
  simp only[ay,mN]at e |-;split at e
  .exact(H _ _ e trivial :)
  .obtain⟨a,ha,e⟩:=aB e;obtain⟨b,hb,e⟩:=aB e;cases e
   have n:bt c Z (a.p.or none) b.p b.e:=H _ _ hb (.inr rfl);rw[Option.or_none]at n;exact bt.seq (H _ _ ha trivial :) n
 |lineL k o slot first l g out=>
  simp only[ay,oQ]at e |-;cases g with
  |none=>cases e;exact bt.self out
  |some p=>
   obtain rfl:out=none:=w.resolve_left (by simp);simp only at e |-;split at e
   .cases e;exact bt.self (some p)
   .obtain⟨a,ha,e⟩:=aB e;obtain⟨b,hb,e⟩:=aB e;cases e
    have C:bt c Z ((bq c Z (some p) (kw Z k)).or none) a.p a.e:=H _ _ ha ⟨.inr rfl,Bd _ _,EC⟩;rw[Option.or_none]at C;obtain⟨m,t⟩:=bt.side (nG (c:=c) (Z:=Z) (some p) (kw Z k)) C;rw[xP]at m;exact m.ofN.seq (H _ _ hb t)
 |lineO k o slot op l g=>
  simp only[ay,rS]at e |-;cases op with
  |none=>cases e;exact bt.self g
  |some i=>
   obtain rfl:g=none:=w.1.resolve_left (by simp);obtain⟨a,ha,e⟩:=aB e;cases e
   exact bt.up (s:=some i) w.2.2 (H _ _ ha trivial :)
 |unary o p slot=>exact bt.ofN (H _ _ (show r (.unaryH o (p.map (nx c Z)) slot)=some q from e) (AB p))
 |unaryH o i slot=>
  simp only[ay,jW]at e |-;cases i with
  |none=>cases e;exact⟨rfl,rfl⟩
  |some i=>
   have z:=w i rfl;simp only at e |-;split at e
   .rename_i h1;have L:i<Z.length:=eS (by rcases h1 with h|h<;>rw[h]<;>decide);split at e
    .cases e
     exact bt.err z (.inr ⟨rfl,L⟩)
    .obtain⟨a,ha,e⟩:=aB e;cases e
     exact bt.up (s:=some i) (Lt.of L) (H _ _ ha trivial :)
   split at e
   .exact(H _ _ e trivial :)
   split at e
   .rename_i h3;cases e
    exact bt.next (qP (by rw[h3];decide))
   split at e
   .rename_i h4;cases e
    exact bt.next (eS (by rcases h4 with h|h<;>rw[h]<;>decide))
   split at e
   .rename_i h5;cases e
    exact bt.next (eS (by rw[h5];decide))
   obtain⟨b,hb,e⟩:=aB e;cases e
   have n:bt c Z ((bq c Z (bS Z c (some i) 18 slot).p (aY Z cg)).or (bq c Z (bS Z c (some i) 18 slot).p fun i=>!aY Z cg i)) b.p b.e:=H _ _ hb ⟨nG _ _,Bd _ _,fun k I=>⟨i,rfl,JB I⟩⟩;rw[xP]at n;exact(xB (some i) 18 slot).seq n.ofN
 |calls o i slot x names g=>
  simp only[ay,oN]at e |-;obtain⟨v,w2,u⟩:=w;cases x with
  |none=>
   have G:q=⟨names,g,[]⟩:=by cases i<;>(cases e;rfl)
   subst G;exact bt.self g
  |some k=>
   obtain⟨j,rfl,J⟩:=u k rfl;obtain rfl:g=none:=v.resolve_left (by simp);obtain⟨a,ha,e⟩:=aB e;cases e
   exact(H _ _ ha trivial :)
 |inside o p slot=>
  simp only[ay,nH]at e |-;cases p with
  |none=>cases e;exact⟨rfl,rfl⟩
  |some p=>
   refine bt.ofN (s:=some p) (Ey (s:=cg) af ?_ e);intro h e;obtain⟨a,ha,e⟩:=aB e;cases e
   exact(bt.up (s:=some (nx c Z p)) h (H _ _ ha trivial :)).seq (o8 a.p af)
 |listed par o p=>
  simp only[ay,nI]at e |-;cases p with
  |none=>cases e;exact⟨rfl,rfl⟩
  |some p=>
   refine bt.ofN (s:=some p) (Ey (s:=cg) af ?_ e);intro h e;obtain⟨a,ha,e⟩:=aB e;cases e
   have C:bt c Z ((bq c Z (some (nx c Z p+1)) fun i=>!aY Z dm i).or (bq c Z (some (nx c Z p+1)) (aY Z dm))) a.p a.e:=H _ _ ha (nG _ _).symm;rw[Be]at C;exact(bt.up (s:=some (nx c Z p)) h C.ofN).seq (o8 a.p af)
 |listL par o l g fin=>
  simp only[ay,rT]at e |-;cases g with
  |none=>cases e;exact bt.self fin
  |some p=>
   obtain rfl:fin=none:=w.resolve_left (by simp);obtain⟨a,ha,e⟩:=aB e;obtain⟨b,hb,e⟩:=aB e;cases e
   exact bt.seq (H _ _ ha trivial :) (bt.fork1 (s:=eM) af (H _ _ hb ((nG (c:=c) (Z:=Z) a.p (aY Z eM)).imp (fun h=>by rw[h];rfl) id)))
 |item par o p=>
  simp only[ay,oP]at e |-;cases par with
  |true=>
   simp only[co]at e |-;cases e
   exact((xB p 4 0).seq (o8 _ af)).seq (FE _ 0)
  |false=>exact(H _ _ (show r (.line 0 o p 0)=some q from e) trivial :)
 |behind typ o p sign slot=>
  simp only[ay,oM]at e |-;obtain⟨a,ha,e⟩:=aB e;cases e
  have x:(bq c Z p (aY Z sign)).map (·+1)=none\/(bq c Z p fun i=>!aY Z sign i)=none:=(nG p (aY Z sign)).imp (fun h=>by rw[h];rfl) id;have F:bt c Z ((bq c Z p (aY Z sign)).map (·+1)) a.p a.e:=by
   unfold mL at ha;cases typ with
   |true=>
    simp only[co]at ha;cases ha
    exact FE _ slot
   |false=>exact H _ _ (show r (.line 0 o _ slot)=some a from ha) trivial
  obtain⟨m,t⟩:=bt.side x F;rw[AW t.symm];exact bt.fork1 w m
 |vrb o p=>
  simp only[ay,qr]at e |-;obtain⟨d,hd,e⟩:=aB e;cases e
  exact((((xB p 2 0).seq (o8 _ af)).seq (FE _ 0)).seq (H _ _ hd (by show iw≠[];decide))).seq (o8 d.p af)
 |function o p=>
  simp only[ay,qp]at e |-;obtain⟨b,hb,e⟩:=aB e;obtain⟨d,hd,e⟩:=aB e;obtain⟨f,hf,e⟩:=aB e;cases e
  exact(((xB p 3 0).seq (H _ _ hb trivial :)).seq (H _ _ hd (by show du≠[];decide))).seq (H _ _ hf trivial)
 |block o p slot=>
  simp only[ay,nF]at e |-;cases p with
  |none=>cases e;exact⟨rfl,rfl⟩
  |some p=>
   refine bt.ofN (s:=some p) (Ey (s:=qE) af ?_ e);intro h e;obtain⟨a,ha,e⟩:=aB e;cases e
   exact(bt.up (s:=some (nx c Z p)) h (H _ _ ha (.inr rfl))).seq (o8 a.p af)
 |seqL top o p l out=>
  simp only[ay,oS]at e |-;cases p with
  |none=>cases e;exact bt.self out
  |some p=>
   obtain rfl:out=none:=w.resolve_left (by simp);simp only[cZ]at e |-;have z:=oK c Z p;refine bt.ofN (s:=some p) ?_;split at e
   .cases e
    exact bt.self _
   .obtain⟨a,ha,e⟩:=aB e;obtain⟨b,hb,e⟩:=aB e;cases e
    have F:bt c Z (some (nx c Z p)) a.p a.e:=by
     unfold kY at ha;cases top with
     |true=>
      simp only[co]at ha;unfold nJ at ha;split at ha
      .rename_i h2;exact bt.up (s:=some (nx c Z p)) (Lt.of (eS (by rw[h2];decide))) (H _ _ ha trivial :)
      split at ha
      .rename_i h5;exact bt.up (s:=some (nx c Z p)) (Lt.of (eS (by rw[h5];decide))) (H _ _ ha trivial :)
      cases ha
      exact bt.err z (.inl rfl)
     |false=>exact(H _ _ ha (fun j J=>by cases J;exact z) :)
    have n:bt c Z (a.p.or none) b.p b.e:=H _ _ hb (.inr rfl);rw[Option.or_none]at n;exact F.seq n
 |stmt o i=>
  simp only[ay,kz]at e |-;cases i with
  |none=>cases e;exact⟨rfl,rfl⟩
  |some i=>
   have z:=w i rfl;simp only at e |-;split at e
   .rename_i h1;exact bt.up (s:=some i) (Lt.of (eS (by rw[h1];decide))) (H _ _ e trivial :)
   split at e
   .rename_i h2;exact(H _ _ e (Lt.of (eS (by rw[h2];decide))) :)
   split at e
   .rename_i h3;obtain⟨a,ha,e⟩:=aB e;obtain⟨b,hb,e⟩:=aB e;cases e
    exact(bt.up (s:=some i) (Lt.of (eS (by rw[h3];decide))) (H _ _ ha trivial :)).seq (H _ _ hb trivial :)
   split at e
   .exact(H _ _ e trivial :)
   split at e
   .rename_i h5;obtain⟨a,ha,e⟩:=aB e;cases e
    obtain⟨m,t⟩:=bt.side (nG (c:=c) (Z:=Z) (some (i+1)) (aY Z bO)).symm (H _ _ ha trivial :);rw[Be]at m;exact(bt.up (s:=some i) (Lt.of (eS (by rw[h5];decide))) m.ofN).seq (o8 _ af)
   split at e
   .rename_i h6;obtain⟨a,ha,e⟩:=aB e;cases e
    exact(bt.up (s:=some i) (Lt.of (eS (by rcases h6 with h|h<;>rw[h]<;>decide))) (H _ _ ha trivial :)).seq (o8 a.p af)
   obtain⟨b,hb,e⟩:=aB e;obtain⟨d,hd,e⟩:=aB e;cases e
   have K:=xB (c:=c) (Z:=Z) (some i) 7 0;have A:=fun k=>JB (c:=c) (Z:=Z) (i:=i) (k:=k) (kd:=7) (s:=0) (is:=aY Z cg);generalize bS Z c (some i) 7 0=a at K A hb hd |-;obtain⟨m,t⟩:=bt.side (nG (c:=c) (Z:=Z) a.p (aY Z cg)).symm ((o8 (bq c Z a.p fun i=>!aY Z cg i) (s:=iw) af).seq (H _ _ hb trivial :));rw[Be]at m;have B:bt c Z ((bq c Z a.p (aY Z cg)).or b.p) d.p d.e:=H _ _ hd ⟨t.symm,Bd _ _,fun k I=>⟨i,rfl,A k I⟩⟩;rw[AW t.symm]at B;have X:=((K.seq m.ofN).seq B).seq (o8 d.p (s:=bO) af);simp only[<-cq]at X;exact X
 |sCalls o i x l g=>
  simp only[ay,oR]at e |-;obtain⟨v,w2,u⟩:=w;cases x with
  |none=>
   have G:q=⟨l,g,[]⟩:=by cases i<;>(cases e;rfl)
   subst G;exact bt.self g
  |some k=>
   obtain⟨j,rfl,J⟩:=u k rfl;obtain rfl:g=none:=v.resolve_left (by simp);obtain⟨a,ha,e⟩:=aB e;cases e
   exact(H _ _ ha trivial :)
 |branch o i slot=>
  simp only[ay,ql]at e |-;obtain⟨a,ha,e⟩:=aB e;obtain⟨b,hb,e⟩:=aB e;obtain⟨d,hd,e⟩:=aB e;cases e
  have B:bt c Z ((bq c Z b.p (aY Z iQ)).or (bq c Z b.p fun i=>!aY Z iQ i)) d.p d.e:=H _ _ hd ⟨nG _ _,th af⟩;rw[xP]at B;exact((bt.up w (H _ _ ha trivial :)).seq (H _ _ hb trivial :)).seq B.ofN
 |elses o x l out=>
  simp only[ay,qo]at e |-;cases x with
  |none=>cases e;exact bt.self out
  |some j=>
   obtain rfl:out=none:=w.1.resolve_left (by simp);obtain⟨a,ha,e⟩:=aB e;obtain⟨b,hb,e⟩:=aB e;cases e
   obtain⟨m,t⟩:=bt.side (nG (c:=c) (Z:=Z) (some (j+1)) (aY Z eG)).symm (H _ _ ha trivial :);rw[Be]at m;have n:bt c Z ((bq c Z (some (j+1)) (aY Z eG)).or a.p) b.p b.e:=H _ _ hb ⟨t.symm,Bd _ _,th af⟩;rw[AW t.symm]at n;exact bt.up (s:=some j) w.2 (m.ofN.seq n)
 |ifs o y l out=>
  simp only[ay,qq]at e |-;obtain⟨v,w2,u⟩:=w;cases y with
  |none=>cases e;exact bt.self out
  |some j=>
   obtain rfl:out=none:=v.resolve_left (by simp);simp only at e |-;split at e
   .cases e
    exact bt.err (w2 j rfl) (.inr ⟨rfl,u j rfl⟩)
   .obtain⟨a,ha,e⟩:=aB e;cases e
    exact(H _ _ ha u :)
def Ke:∀n x q,dC c Z n x=some q->CG c Z x->bt c Z (Fa x) q.p q.e
 |0=>fun x q e=>by cases e
 |n+1=>OF (Ke n)
end
open Dg
section
variable {F:Nat->al->Prop} {Z:List Tok}
def UI{c:aD}(f:∀i,K Z i=1->F 1 (X Z i))(d:∀i,K Z i=2->F 2 (X Z i)){q:PR}(v:PV c Z (.seqL true 0 (some 0) [] none) q):
  (∃t,q.p=some t/\t<=Z.length/\q.e=[]/\GN F ⟨1,[],-1,0,q.l,tt⟩/\(dr q.l).Nodup/\∀x∈dr q.l,0<=x/\x<(t:Int))\/(q.p=none/\∃k t,q.e=[(k,((t:Nat):Int))]/\(k=10\/k=11)):=by
 obtain⟨n,h⟩:=v;obtain⟨u,h1,_,h2⟩:bt c Z (some 0) q.p q.e:=Ke n _ _ h (.inr rfl);obtain⟨_,h2⟩:=h2 (aF _);rcases h1 with ⟨a,t,hp,_⟩|⟨hp,k,a,_,w⟩
 .refine .inl ⟨t,hp,h2 t hp,a,?_⟩;have g:fE F [2,3] 0 q.l:=(Hx f d n _ _ h trivial t hp).2 (fE.nil _ _);have b:∀i:Int,ct i q.l+rm i (some t)<=rm i (some 0):=fun i=>by
   have:=GG i n _ _ h trivial;rw[hp]at this;have e:Wt i (gY.seqL true 0 (some 0) [] none)=rm i (some 0):=by show ct i []+rm i (some 0)+rm i none=_;simp[ct,dr,rm]
   rw[e]at this;exact this
  have r:∀i:Int,rm i (some 0)<=1:=fun i=>by unfold rm;simp only;split<;>omega
  refine⟨ow (k:=1) ⟨by decide,by decide⟩ rfl rfl g (Syn.Ae _),List.nodup_iff_count.2 fun x=>?_,fun x s=>?_⟩
  .have:=b x;have:=r x;unfold ct at *;omega
  .have h3:0<ct x q.l:=List.count_pos_iff.2 s;have h4:=b x;have o:∀j:Nat,rm x (some j)=if (j:Int)<=x then 1 else 0:=fun _=>rfl
   rw[o,o]at h4;by_cases m:((0:Nat):Int)<=x<;>by_cases a2:(t:Int)<=x
   .rw[ag m,ag a2]at h4;omega
   .omega
   .rw[ab m,ag a2]at h4;omega
   .rw[ab m,ab a2]at h4;omega
 .exact .inr ⟨hp,k,u,a,by rcases w with h|⟨h,_⟩<;>omega⟩
def OP(a:bw Z)(C:∀i,K Z i=1->F 1 (X Z i))(B:∀i,K Z i=2->F 2 (X Z i)){w:T}(G:w.ok 0){t:Tr}(h:ml Z w t){c:aD}(o:w.at' c=true):
  (∃ks,prj c t=⟨[⟨1,[],-1,0,ks,tt⟩],[]⟩/\GN F ⟨1,[],-1,0,ks,tt⟩/\(dr ks).Nodup/\∀x∈dr ks,0<=x/\x<(Z.length:Int))\/∃k x,prj c t=⟨[],[⟨k,x,tt⟩]⟩/\(k=10\/k=11)/\0<=x:=by
 obtain⟨q,H,e⟩:=Dq a G h o;have n:lO q.l:=by
  rcases h with ⟨e,_⟩|⟨s,r,P,_⟩
  .rw[e]at o;cases o
  .obtain⟨Q,f,R⟩:=qB a G s P c;rw[o]at f;have:=H.det f;subst this;rw[<-R.l];exact zT c _
 rw[e];unfold EI;rcases UI C B H with ⟨u,hp,S,A,N,v,hb⟩|⟨hp,k,u,A,L⟩
 .left
  have g:(dr [(⟨1,[],-1,0,q.l,tt⟩:M)]).Nodup:=by rw[kE,List.nodup_cons];simp only[show dr []=[] from rfl,Y];exact⟨fun hm=>by have:=hb _ hm;omega,v⟩
  have hd:cG [(⟨1,[],-1,0,q.l,tt⟩:M)]<=cG q.l+1:=by simp[cG,mD]
  have p:=xA (d:=cG q.l) g (fun m hm=>by rw[List.mem_singleton.1 hm]);have I:cO (cG q.l+1) [⟨1,[],-1,0,q.l,tt⟩]=[⟨1,[],-1,0,cO (cG q.l) q.l,tt⟩]:=List.perm_singleton.1 p;have z:lO [(⟨1,[],-1,0,q.l,tt⟩:M)]:=⟨⟨rfl,n⟩,trivial⟩;have y:GA F [(⟨1,[],-1,0,q.l,tt⟩:M)]:=⟨N,trivial⟩;have j:=FV (cG q.l+1) hd g z y;rw[I]at j;have b:=Ln (cG q.l) (aR _) v n;refine⟨cO (cG q.l) q.l,?_,j.1,b.nodup_iff.2 v,fun x J=>?_⟩
  .simp only[hp,A,Option.isSome_some,co,I];rfl
  .have:=hb x (b.mem_iff.1 J);omega
 .right
  refine⟨k,u,?_,L,O⟩;simp only[hp,A,Option.isSome_none,dK,dD,xz];rfl
end
open Dg
mutual
def sX:M->List (Int×T)
 |⟨_,_,o,_,ks,d⟩=>(o,d)::iF ks
def iF:List M->List (Int×T)
 | []=>[]
 |n::l=>sX n++iF l
end
def Du(n:M)(l:List M):iF (n::l)=(n.tok,n.cond)::(iF n.kids++iF l):=by cases n;rfl
def Dt:∀a b:List M,iF (a++b)=iF a++iF b
 | [],_=>rfl
 |n::a,b=>by rw[aN,Du,Du,Dt a b];simp
def tQ(p q:Int×T):Prop:=p.1=q.1->∀c,¬(p.2.at' c=true/\q.2.at' c=true)
def Hc:∀{L:List (Int×T)},(∀c,(L.filter fun p=>p.2.at' c).Pairwise fun p q=>p.1≠q.1)->L.Pairwise tQ
 | [],_=>List.Pairwise.nil
 |p::L,h=>by
  refine List.pairwise_cons.2 ⟨fun q b e c a=>?_,Hc fun c=>?_⟩
  .have:=h c;rw[hZ,ag a.1,mh]at this;exact this.1 q (List.mem_filter.2 ⟨b,a.2⟩) e
  .have:=h c;rw[hZ]at this;split at this
   .exact(List.pairwise_cons.1 this).2
   .exact this
def Fw(c:aD):∀(k:Nat) {l:List M},aO l<k->rP l->dr (pL c l)=((iF l).filter fun p=>p.2.at' c).map Prod.fst
 |0,_,h,_=>by omega
 |_+1,[],_,_=>rfl
 |k+1,n::l,h,b=>by
  rw[dl]at h;have a:=b.2 n (.head _);have h1:=Fw c k (l:=n.kids) O (AI a);have h2:=Fw c k (l:=l) O (Jx b);rw[eF,Du,hZ];cases d:n.cond.at' c with
  |true=>simp only[co];rw[kE,List.filter_append,ib,mf,<-h1,<-h2]
  |false=>
   simp only[dK,dD];have e:pL c n.kids=[]:=ve fun m hm=>by
    cases h2:m.cond.at' c with
    |false=>rfl
    |true=>exact absurd (((rQ n).1 a).2.2.1 m hm c h2) (by rw[d];decide)
   rw[e]at h1;rw[List.filter_append,mf,<-h1,<-h2];rfl
variable{l:List M}
def O1(a:rP l)(h:∀c,(dr (pL c l)).Nodup):(iF l).Pairwise tQ:=Hc fun c=>by have:=h c;rw[Fw c _ (eO _) a]at this;exact List.pairwise_map.1 this
def wz(k:Nat)(a b:M):Prop:=∀(i:Nat) r,(rl k)[i]?=some r->r.1≠2->a.slot=(i:Int)->b.slot=(i:Int)->∀c,¬(a.cond.at' c=true/\b.cond.at' c=true)
mutual
def VN(F:Nat->al->Prop):T->M->Prop
 |w,⟨k,x,o,_,ks,d⟩=>(1<=k/\k<=19)/\lq F k x/\(d.ok 0/\d≠ff/\np d w)/\(-1<=o/\o<1099511627776/\(o=-1<->k=1))/\(ks.map M.key).Pairwise (fun a b=>jU a b=true)/\
  (∀m∈ks,xw k m)/\ks.Pairwise (wz k)/\(∀(i:Nat) r,(rl k)[i]?=some r->r.1=0->∀c,d.at' c=true->∃m∈ks,m.slot=(i:Int)/\m.cond.at' c=true)/\VL F d ks
def VL (F:Nat->al->Prop):T->List M->Prop
 |_,[]=>True
 |w,n::l=>VN F w n/\VL F w l
end
def sN{F:Nat->al->Prop}{w:T}:VL F w l<->∀n∈l,VN F w n:=by
 induction l with
 |nil=>simp[VL]
 |cons n l a=>simp[VL,a]
section
variable {F:Nat->al->Prop}
def HN(F:Nat->al->Prop)(n:M):Prop:=∀c,n.cond.at' c=true->GN F { n with kids:=pL c n.kids,cond:=tt }/\∀x∈dr (pL c n.kids),0<=x/\x<1099511627776
def Lo{m:M}{x:Int}:∀{l:List M},m∈l->x∈dr m.kids->x∈dr l
 |n::l,h,a=>by
  rw[kE];rcases List.mem_cons.1 h with rfl|h
  .exact .tail _ (ge _ a)
  .exact .tail _ (gz _ (Lo h a))
def HN.kid{n m:M}(h:HN F n)(d:np m.cond n.cond)(hm:m∈n.kids):HN F m:=fun c a=>by obtain⟨g,b⟩:=h c (d c a);have hp:({ m with kids:=pL c m.kids,cond:=tt }:M)∈pL c n.kids:=kX.2 ⟨m,hm,a,rfl⟩;exact⟨tS.1 ((qO _).1 g).2.2.2.2 _ hp,fun x h=>b x (Lo hp h)⟩
def CY(c:aD)(i:Int)(n:M)(l:List M):cS i (pL c (n::l))=(if n.cond.at' c=true/\n.slot=i then 1 else 0)+cS i (pL c l):=by
 rw[eF];unfold cS;cases a:n.cond.at' c with
 |true=>simp only[co,List.countP_cons,eW,dA];split<;>omega
 |false=>simp
def GM{c:aD}{i:Int}{n:M}:∀{l:List M},n∈l->n.cond.at' c=true->n.slot=i->1<=cS i (pL c l)
 |m::l,h,h1,h2=>by
  rw[CY];rcases List.mem_cons.1 h with rfl|h
  .rw[ag ⟨h1,h2⟩];omega
  .have:=GM h h1 h2;omega
def Ko{k:Nat}:∀{l:List M},(∀(i:Nat) r,(rl k)[i]?=some r->r.1≠2->∀c,cS i (pL c l)<=1)->l.Pairwise (wz k)
 | [],_=>List.Pairwise.nil
 |a::l,h=>by
  refine List.pairwise_cons.2 ⟨fun b hb i r hr h2 ha d c e=>?_,Ko fun i r hr h2 c=>?_⟩
  .have h1:=h i r hr h2 c;rw[CY,ag ⟨e.1,ha⟩]at h1;have:=GM (c:=c) hb e.2 d;omega
  .have h1:=h i r hr h2 c;rw[CY]at h1;omega
def J7{k i:Nat}{r:Nat×List Nat}(h:(rl k)[i]?=some r):(r.1=0\/r.1=1\/r.1=2)/\1∉r.2:=by
 have key:∀l:List (Nat×List Nat),(l.all fun r=>(r.1=0\/r.1=1\/r.1=2) && decide (1∉r.2))=true->l[i]?=some r->(r.1=0\/r.1=1\/r.1=2)/\1∉r.2:=fun l b hi=>by have:=List.all_eq_true.1 b r (cY hi);simpa using this
 refine key _ ?_ h;rcases aI k 20 with a|a
 .exact(by decide:∀k,k<20->((rl k).all fun r=>(r.1=0\/r.1=1\/r.1=2) && decide (1∉r.2))=true) k a
 .have:rl k=[]:=by
   unfold rl
   repeat rw[ab O]
  rw[this];rfl
def Ge:∀(k:Nat) (n:M) {w:T},aO n.kids<k->uV n->np n.cond w->HN F n->(-1<=n.tok/\n.tok<1099511627776/\(n.tok=-1<->n.kind=1))->VN F w n
 |0,_,_,h,_,_,_,_=>by omega
 |k+1,⟨kd,x,o,s,ks,d⟩,w,p,q,v,l,A=>by
  have f:=(rQ _).1 q;obtain⟨c0,h0⟩:=T.some_of_ne f.1 f.2.1;obtain⟨g1,g2,_⟩:=(qO _).1 (l c0 h0).1;have kid:∀m∈ks,xw kd m:=fun m hm=>by have b:=(rQ m).1 ((AI q).2 m hm);obtain⟨c,a⟩:=T.some_of_ne b.1 b.2.1;have hp:({ m with kids:=pL c m.kids,cond:=tt }:M)∈pL c ks:=kX.2 ⟨m,hm,a,rfl⟩;have:=((qO _).1 (l c (f.2.2.1 m hm c a)).1).2.2.1 { m with kids:=pL c m.kids,cond:=tt } hp;exact this
  have out:∀c,d.at' c=false->pL c ks=[]:=fun c a=>ve fun m hm=>by
   cases h2:m.cond.at' c with
   |false=>rfl
   |true=>exact absurd (f.2.2.1 m hm c h2) (by rw[show (⟨kd,x,o,s,ks,d⟩:M).cond=d from rfl,a];decide)
  refine⟨g1,g2,⟨f.1,f.2.1,v⟩,A,f.2.2.2.1,kid,Ko fun i r hr h2 c=>?_,fun i r hr h0 c a=>?_,sN.2 fun m hm=>?_⟩
  .cases a:d.at' c with
   |false=>rw[out c a];exact aF _
   |true=>
    have:=((qO _).1 (l c a).1).2.2.2.1 i r hr;rcases(J7 hr).1 with h|h|h
    .exact Nat.le_of_eq (this.1 h)
    .exact this.2 h
    .exact absurd h h2
  .have h1:cS i (pL c ks)=1:=(((qO _).1 (l c a).1).2.2.2.1 i r hr).1 h0;have h2:0<cS i (pL c ks):=by omega
   obtain⟨y,u,hs⟩:=List.countP_pos_iff.1 h2;obtain⟨m,hm,t,rfl⟩:=kX.1 u;exact⟨m,hm,by simpa using hs,t⟩
  .have j:=f.2.2.1 m hm;have b:=(AI q).2 m hm;have z:=vK hm;have p:aO ks<k+1:=p;refine Ge k m O b j (l.kid j hm) ?_;have g:=(rQ m).1 b;obtain⟨c,a⟩:=T.some_of_ne g.1 g.2.1;have hp:({ m with kids:=pL c m.kids,cond:=tt }:M)∈pL c ks:=kX.2 ⟨m,hm,a,rfl⟩;have h0:m.tok∈dr (pL c ks):=Fy (n:={ m with kids:=pL c m.kids,cond:=tt }) hp;have h1:0<=m.tok/\m.tok<1099511627776:=(l c (j c a)).2 _ h0;obtain⟨i,_,r,hr,p⟩:=kid m hm;have h2:m.kind≠1:=fun e=>(J7 hr).2 (by rw[<-e];exact p);exact⟨O,h1.2,O⟩
structure VT(F:Nat->al->Prop)(w:T)(m:Nat)(t:Tr):Prop where
 kids:t.kids=[]\/∃n,t.kids=[n]/\n.kind=1/\n.slot=0/\VN F tt n/\(iF [n]).Pairwise tQ/\aO n.kids<=aO t.kids
 dep:cG t.kids<=m+1
 sort:Eu t.diags
 code:∀d∈t.diags,(d.code=10\/d.code=11)/\0<=d.tok
 apart:(t.kids.map (·.cond)++t.diags.map (·.cond)).Pairwise fun a b=>∀c,¬(a.at' c=true/\b.at' c=true)
 all:∀c,w.at' c=(t.kids.any (·.cond.at' c) || t.diags.any (·.cond.at' c))
def Us{c:aD}{l:List M}:(l.any (·.cond.at' c))=!(pL c l).isEmpty:=by
 induction l with
 |nil=>rfl
 |cons n l a=>rw[List.any_cons,eF,a];cases n.cond.at' c<;>simp
def UT{c:aD}{e:List aG}:(e.any (·.cond.at' c))=!(jD c e).isEmpty:=by
 induction e with
 |nil=>rfl
 |cons d e a=>rw[List.any_cons,a];unfold jD;rw[hZ];cases d.cond.at' c<;>simp
def OT{Z:List Tok}(s:bw Z)(P:∀i,K Z i=1->F 1 (X Z i))(N:∀i,K Z i=2->F 2 (X Z i))(S:Z.length<=1099511627776){w:T}(I:w.ok 0){t:Tr}(h:ml Z w t):VT F w Z.length t:=by
 obtain⟨v,R⟩:=OQ s I h;have A:∀c,(w.at' c=false/\prj c t=⟨[],[]⟩)\/(w.at' c=true/\((∃ks,prj c t=⟨[⟨1,[],-1,0,ks,tt⟩],[]⟩/\GN F ⟨1,[],-1,0,ks,tt⟩/\(dr ks).Nodup/\∀x∈dr ks,0<=x/\x<(Z.length:Int))\/∃k x,prj c t=⟨[],[⟨k,x,tt⟩]⟩/\(k=10\/k=11)/\0<=x)):=fun c=>by
  cases f:w.at' c with
  |false=>exact .inl ⟨rfl,OR s I h f⟩
  |true=>exact .inr ⟨rfl,OP s P N I h f⟩
 have G:∀c,pL c t.kids=(prj c t).kids:=fun _=>rfl;have H:∀c,jD c t.diags=(prj c t).diags:=fun _=>rfl;have top:∀n∈t.kids,n.kind=1/\n.text=[]/\n.tok=-1/\n.slot=0/\HN F n:=fun n r=>by
  have B:∀c,n.cond.at' c=true->∃ks,{ n with kids:=pL c n.kids,cond:=tt }=(⟨1,[],-1,0,ks,tt⟩:M)/\GN F ⟨1,[],-1,0,ks,tt⟩/\∀x∈dr ks,0<=x/\x<1099511627776:=fun c f=>by
   have hp:({ n with kids:=pL c n.kids,cond:=tt }:M)∈pL c t.kids:=kX.2 ⟨n,r,f,rfl⟩;rw[G]at hp;rcases A c with ⟨_,e⟩|⟨_,⟨ks,e,g,_,b⟩|⟨k,x,e,_⟩⟩
   .rw[e]at hp;exact(dH hp).elim
   .rw[e]at hp;exact⟨ks,List.mem_singleton.1 hp,g,fun x j=>⟨(b x j).1,by have:=(b x j).2;omega⟩⟩
   .rw[e]at hp;exact(dH hp).elim
  have j:=(rQ n).1 (v.2 n r);obtain⟨c0,h0⟩:=T.some_of_ne j.1 j.2.1;obtain⟨ks,e,_⟩:=B c0 h0;simp only[M.mk.injEq]at e;obtain⟨e1,e2,e3,e4,_⟩:=e;refine⟨e1,e2,e3,e4,fun c f=>?_⟩;obtain⟨ks,e,g,b⟩:=B c f;refine⟨by rw[e];exact g,?_⟩;simp only[M.mk.injEq]at e;rw[e.2.2.2.2.1];exact b
 have Q:t.kids.length<=1:=by
  match o:t.kids with
  | []=>exact aF _
  | [_]=>exact aR _
  |a::b::l=>
   have h1:=v.1;rw[o,ib,ib,mh]at h1;have h2:=h1.1 b.key (.head _);obtain⟨C,a2,a3,a4,_⟩:=top a (by rw[o];exact .head _);obtain⟨b1,b2,b3,b4,_⟩:=top b (by rw[o];exact .tail _ (.head _));have:a.key=b.key:=by unfold M.key;rw[C,a2,a3,a4,b1,b2,b3,b4]
   rw[this,mH.irr]at h2;cases h2
 have u:∀c,(dr (pL c t.kids)).Nodup/\aO (pL c t.kids)<=Z.length+1:=fun c=>by
  rw[G];rcases A c with ⟨_,e⟩|⟨_,⟨ks,e,_,nd,b⟩|⟨k,x,e,_⟩⟩
  .rw[e];exact⟨List.nodup_nil,aF _⟩
  .rw[e];refine⟨?_,?_⟩
   .show (dr [(⟨1,[],-1,0,ks,tt⟩:M)]).Nodup;rw[kE,List.nodup_cons];simp only[show dr []=[] from rfl,Y];exact⟨fun hm=>by have:=(b _ hm).1;omega,nd⟩
   .show aO [(⟨1,[],-1,0,ks,tt⟩:M)]<=_;have:=JI Z.length (dr ks) nd b;rw[Fv _ ks (eO _)]at this;rw[dl,gG];simp only;omega
  .rw[e];exact⟨List.nodup_nil,aF _⟩
 have y:=O1 v fun c=>(u c).1;refine⟨?_,?_,R,fun d hd=>?_,?_,fun c=>?_⟩
 .match o:t.kids,Q with
  | [],_=>exact .inl rfl
  | [n],_=>
   right
   have r:n∈t.kids:=by rw[o];exact .head _
   obtain⟨C,_,a3,a4,hh⟩:=top n r;rw[o]at y;exact⟨n,rfl,C,a4,Ge _ n (eO _) (v.2 n r) (fun _ _=>rfl) hh ⟨O,O,O⟩,y,by rw[dl];omega⟩
  |_::_::_,h=>simp at h
 ·
  have z:∀(k:Nat) {l:List M},aO l<k->rP l->∃c,cG l<=cG (pL c l):=by
   intro k
   induction k with
   |zero=>intro l h;omega
   |succ k p=>
    intro l o U;cases l with
    |nil=>exact⟨fun _=>false,aF _⟩
    |cons n l=>
     rw[dl]at o;have r:=U.2 n (.head _);have j:=(rQ n).1 r;rcases Nat.le_total (mD n) (cG l)with J|J
     .obtain⟨c,f⟩:=p (l:=l) O (Jx U);refine⟨c,?_⟩;have h1:cG (n::l)=cG l:=by simp only[cG];omega
      rw[h1,eF];split
      .simp only[cG];omega
      .exact f
     .have key:∃c,n.cond.at' c=true/\cG n.kids<=cG (pL c n.kids):=by
       obtain⟨c,f⟩:=p (l:=n.kids) O (AI r);cases q:n.cond.at' c with
       |true=>exact⟨c,q,f⟩
       |false=>
        have:pL c n.kids=[]:=ve fun m hm=>by
         cases h2:m.cond.at' c with
         |false=>rfl
         |true=>exact absurd (j.2.2.1 m hm c h2) (by rw[q];decide)
        rw[this]at f;obtain⟨c',h'⟩:=T.some_of_ne j.1 j.2.1;exact⟨c',h',fD f (aF _)⟩
      obtain⟨c,q,f⟩:=key;refine⟨c,?_⟩;have h1:cG (n::l)=mD n:=by simp only[cG];omega
      rw[h1,eF,ag q,pJ];simp only[cG,pJ];omega
  obtain⟨c,f⟩:=z _ (eO _) v;have h1:∀(k:Nat) (l:List M),aO l<k->cG l<=aO l:=by
   intro k
   induction k with
   |zero=>intro l h;omega
   |succ k p=>
    intro l h;cases l with
    |nil=>exact aF _
    |cons n l=>rw[dl]at h |-;have h1:=p n.kids O;have h2:=p l O;simp only[cG,pJ];omega
  have:=h1 _ (pL c t.kids) (eO _);have:=(u c).2;omega
 .obtain⟨o1,W⟩:=R.2 d hd;obtain⟨c,f⟩:=T.some_of_ne o1 W;have hp:({ d with cond:=tt }:aG)∈jD c t.diags:=UU.2 ⟨d,hd,f,rfl⟩;rw[H]at hp;rcases A c with ⟨_,e⟩|⟨_,⟨ks,e,_⟩|⟨k,x,e,o,j⟩⟩
  .rw[e]at hp;exact(dH hp).elim
  .rw[e]at hp;exact(dH hp).elim
  .rw[e]at hp;have:=List.mem_singleton.1 hp;simp only[aG.mk.injEq]at this;obtain⟨rfl,rfl,_⟩:=this;exact⟨o,j⟩
 .have one:∀c,((t.kids.map (·.cond)++t.diags.map (·.cond)).filter fun d=>d.at' c).length<=1:=fun c=>by
   have C:∀l:List M,((l.map (·.cond)).filter fun d=>d.at' c).length=(pL c l).length:=by
    intro l
    induction l with
    |nil=>rfl
    |cons n l p=>rw[ib,hZ,eF];split<;>simp[p]
   have a2:((t.diags.map (·.cond)).filter fun d=>d.at' c).length=(jD c t.diags).length:=by unfold jD;rw[List.filter_map,eN,eN];rfl
   rw[List.filter_append,aE,C,a2,G,H];rcases A c with ⟨_,e⟩|⟨_,⟨ks,e,_⟩|⟨k,x,e,_⟩⟩<;>rw[e]<;>simp
  have V:∀L:List T,(∀c,(L.filter fun d=>d.at' c).length<=1)->L.Pairwise fun a b=>∀c,¬(a.at' c=true/\b.at' c=true):=by
   intro L
   induction L with
   |nil=>intro _;exact List.Pairwise.nil
   |cons a L p=>
    intro h;refine List.pairwise_cons.2 ⟨fun b hb c f=>?_,p fun c=>?_⟩
    .have h1:=h c;rw[hZ,ag f.1,bm]at h1;have h3:b∈L.filter fun d=>d.at' c:=List.mem_filter.2 ⟨hb,f.2⟩;have:=List.length_pos_of_mem h3;omega
    .have h1:=h c;rw[hZ]at h1;split at h1
     .rw[bm]at h1;omega
     .exact h1
  exact V _ one
 .rw[Us,UT,G,H];rcases A c with ⟨f,e⟩|⟨f,⟨ks,e,_⟩|⟨k,x,e,_⟩⟩<;>rw[e,f]<;>rfl
end
end Syn
namespace Go.Proofs.YtfaclfkpnmcmlaaGreatDoor
open Go Go.Sx
theorem MW:Sx.bp prog 266=some none:=by kernel_rfl
theorem WC:Sx.bD prog 266=some 1:=by kernel_rfl
theorem XZ:Sx.bk prog 266=some (.slice none 0 0):=by kernel_rfl
theorem OB:Sx.bI prog 266=.sl 2:=by kernel_rfl
theorem SI:Sx.bB prog 266=.sl:=by kernel_rfl
theorem Q7:Sx.bP prog 266=true:=by kernel_rfl
def lh:Sx.cL prog 266 270 2 32:=cL.of (by kernel_rfl) (by kernel_rfl) O
theorem CJ:Sx.bp prog 270=some (some 2):=by kernel_rfl
theorem WD:Sx.bD prog 270=some 2:=by kernel_rfl
theorem X0:Sx.bk prog 270=some (.agg #[.int .u8 0,.slice none 0 0]):=by kernel_rfl
theorem O5:Sx.bv prog 270 0=some (0,5):=by kernel_rfl
theorem O6:Sx.bv prog 270 1=some (1,268):=by kernel_rfl
theorem Rw:Sx.fd prog 270=true:=by kernel_rfl
theorem OC:Sx.bI prog 270=.none:=by kernel_rfl
theorem SJ:Sx.bB prog 270=.other:=by kernel_rfl
theorem Q8:Sx.bP prog 270=true:=by kernel_rfl
theorem MX:Sx.bp prog 337=some (some 20):=by kernel_rfl
theorem WE:Sx.bD prog 337=some 20:=by kernel_rfl
theorem OD:Sx.bI prog 337=.arr 20 1:=by kernel_rfl
theorem SK:Sx.bB prog 337=.other:=by kernel_rfl
theorem Q9:Sx.bP prog 337=true:=by kernel_rfl
theorem X1:Sx.bk prog 337=some (.agg #[.slice none 0 0,.slice none 0 0,.slice none 0 0,.slice none 0 0,.slice none 0 0,.slice none 0 0,.slice none 0 0,.slice none 0 0,.slice none 0 0,.slice none 0 0,.slice none 0 0,.slice none 0 0,.slice none 0 0,.slice none 0 0,.slice none 0 0,.slice none 0 0,.slice none 0 0,.slice none 0 0,.slice none 0 0,.slice none 0 0]):=by kernel_rfl
attribute [go_sem] MW WC XZ OB SI Q7 CJ WD X0 O5 O6 Rw OC SJ Q8 MX WE OD SK Q9 X1
end Go.Proofs.YtfaclfkpnmcmlaaGreatDoor
