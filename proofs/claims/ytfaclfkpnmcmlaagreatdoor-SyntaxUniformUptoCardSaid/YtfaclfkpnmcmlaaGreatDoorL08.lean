import Derived.Test.YtfaclfkpnmcmlaaGreatDoorL04
import Derived.Test.YtfaclfkpnmcmlaaGreatDoorL05
import Derived.Test.YtfaclfkpnmcmlaaGreatDoorL07
set_option maxHeartbeats 8000000
set_option linter.all false
open Go.Proofs.Tryz hiding d6
namespace Go.Proofs.YtfaclfkpnmcmlaaGreatDoor
open Go Go.Sx Dg Syn
open Go.Sort (PermIn SortedIn SWO permIn_refl permIn_trans permIn_mono swp_permIn)
variable{α:Type}
def LB{K:Type}{lt:K->K->Bool}(so:SO lt)(f:α->K):SWO fun x y:α=>lt (f x) (f y) where
 irrefl:=fun x=>so.irr _
 trans:=fun x y z=>so.tr _ _ _
 ntrans:=fun x y z h1 h2=>by
  cases h:lt (f x) (f z)with
  |false=>rfl
  |true=>
   cases h3:lt (f y) (f x)with
   |true=>rw[so.tr _ _ _ h3 h]at h2;cases h2
   |false=>rw[so.tri _ _ h1 h3,h2]at h;cases h
def Cc:SWO cT:=LB j6 aI.key
def yX:SWO aV:=LB mV M.key
def ED:ay prog 310:=⟨_,func310,rfl,rfl⟩
def Rl:ay prog 301:=⟨_,func301,rfl,rfl⟩
def Ca(v b vb a:Value)(i:Nat):St:=⟨dn 38 [(0,.v v),(1,.v b),(2,.v vb),(3,.v a),(10,.v (E i))],[]⟩
variable{a b n:Nat}{v vc:Value}{I A:PH}
theorem FQ{d:Array aI}(Q:bt I A v d.toList)(L:a+n<=b)(hb:b+n<=d.size)(hn:d.size<=ar):
  Zu 310 #[v,E a,E b,E n,vc] I [A] fun _ I2 X=>∃o e,X=[o]/\bt I2 o v e.toList/\e.size=d.size/\nC a b n d e/\∀lo hi,lo<=a->b+n<=hi->hi<=d.size->PermIn lo hi d e:=by
 intro hd;unfold ar at hn;obtain⟨P,N,rfl⟩:=Ow.one' Q;refine aP 38 func310 fun w0=>?_
 try simp only[E]
 refine ai ?_;refine bV (fun k=>n-k) (Ca (.slice P d.size N) (E a) (E b) (E n)) (fun k H=>∃o e,H=U [I,o]/\Dj [I,o]/\k<=n/\e.size=d.size/\bt I o (.slice P d.size N) e.toList/\nC a b k d e/\∀lo hi,lo<=a->b+n<=hi->hi<=d.size->PermIn lo hi d e) 0 al (by simp only[go_sem,Y,Ca]) ?_ ?_
 .exact⟨A,d,rfl,hd,aE _,rfl,Q,nC.zero _ _ _,fun lo hi _ _ _=>permIn_refl _ _ _⟩
 rintro k H ⟨o,e,rfl,m,hk,f,x,u,w⟩ p;simp only[Ca];rcases aK k n with t|aa
 .have q:=Z5 k n;have z:IntKind.i64.wrap ((a:Int)+(k:Int))=((a+k:Nat):Int):=by have y:(a:Int)+(k:Int)=((a+k:Nat):Int):=O;rw[y];exact wrap64 O
  have w2:IntKind.i64.wrap ((b:Int)+(k:Int))=((b+k:Nat):Int):=by have y:(b:Int)+(k:Int)=((b+k:Nat):Int):=O;rw[y];exact wrap64 O
  have T:IntKind.i64.wrap ((k:Int)+1)=((k+1:Nat):Int):=by have y:(k:Int)+1=((k+1:Nat):Int):=O;rw[y];exact wrap64 O
  refine bd q ?_;obtain⟨g,cp,cur,S,R,ev,rfl,K,W,V,C,B,ki,Z,s⟩:=Ow.two x (fun{I} c a h=>bj.len c a h) (fun{I J c a} h k=>bj.le h k) (i:=a+k) (j:=b+k) O O;rw[f]at ev K;cases ev
  have mi:((a+k)+1)*4<=d.size*4:=cv _ O;have mj:((b+k)+1)*4<=d.size*4:=cv _ O;refine bG [0,1,2,3,4,5,6,7,8,9,10,11,12,13,14,15,16,17,18,19,20,21,22,23] [13,19] [] ?_;refine lg z w2 ?_;refine⟨O,?_⟩;refine Zn (l:=R) (v:=.agg R.toArray) rfl (cellsU m (.tail _ (.head _)) (by simpa using Z)) (.inl ⟨by rw[B];exact gh,rfl⟩) ?_;refine lg z w2 ?_;refine⟨O,?_⟩;refine Zn (l:=S) (v:=.agg S.toArray) rfl (cellsU m (.tail _ (.head _)) (by simpa using ki)) (.inl ⟨by rw[C];exact gh,rfl⟩) ?_;refine lg z w2 ?_;refine⟨O,?_⟩;refine cY m rfl rfl rfl rfl rfl (dN (bj.ones V)) (by rw[B];exact pp) (by rw[B];omega) fun F=>?_;refine lg z w2 ?_;refine⟨O,?_⟩;refine cY F rfl rfl rfl rfl rfl (dN (bj.ones W)) (by rw[C];exact pp) (by rw[C];simp[eL];omega) fun G=>?_;apply aN;refine bd T ?_;exact p (k+1) _ _ O al (by simp only[go_sem,Y,Ca]) ⟨_,_,rfl,G,t,by rw[iU];exact f,s I (aD _),u.step f t L hb,fun lo hi h1 h2 h3=>permIn_trans _ _ _ lo hi (w lo hi h1 h2 h3) (swp_permIn _ lo hi _ _ O O O O O)⟩
 .have q:decide ((k:Int)<(n:Int))=false:=ch O;have:k=n:=O;subst this;refine bd q ?_;exact jX rfl m (r:=[]) rfl (aD _) ⟨o,e,rfl,x,f,u,w⟩
def yF(v a vc:Value)(x:Nat×Nat):St:=⟨dn 58 [(0,.v v),(2,.v a),(4,.v vc),(10,.v (E x.1)),(11,.v (E x.2))],[]⟩
theorem Wv{d:Array aI}{m:Nat}(hA:bt I A v d.toList)(an:a<m)(am:m<b)(hb:b<=d.size)(hn:d.size<=ar):
  Zu 301 #[v,E a,E m,E b,vc] I [A] fun _ C P=>∃s e,P=[s]/\bt C s v e.toList/\PermIn a b d e/\jc m (m-a) (b-m) d e:=by
 intro hd;have V:=hn;unfold ar at V;obtain⟨va,vk,rfl⟩:=Ow.one' hA;obtain⟨t,ac,G⟩:=jc.ex m (m-a) (b-m) d O O;refine aP 58 func301 fun w0=>?_
 try simp only[E]
 have w1:IntKind.i64.wrap ((m:Int)-(a:Int))=((m-a:Nat):Int):=by rw[fF O O];omega
 have w2:IntKind.i64.wrap ((b:Int)-(m:Int))=((b-m:Nat):Int):=by rw[fF O O];omega
 refine lR w1 w2 ?_;refine bV (fun x=>x.1+x.2) (yF (.slice va d.size vk) (E m) vc) (fun x H=>∃C s c,H=U [C,s]/\Dj [C,s]/\I.le C/\bt C s (.slice va d.size vk) c.toList/\PermIn a b d c/\0<x.1/\0<x.2/\x.1<=m-a/\x.2<=b-m/\jc m x.1 x.2 c t) (m-a,b-m) al (by simp only[go_sem,Y,yF]) ?_ ?_
 .exact⟨I,A,d,rfl,hd,aD _,hA,permIn_refl _ _ _,by simp only;omega,by simp only;omega,aR _,aR _,G⟩
 rintro⟨i,j⟩ H ⟨C,s,c,rfl,y,k,z,w,L,K,hi,hj,u⟩ h;simp only at L K hi hj u;simp only[yF];have aa:=w.1;have S:IntKind.i64.wrap ((m:Int)-(i:Int))=((m-i:Nat):Int):=by rw[fF O O];omega
 have w4:IntKind.i64.wrap ((m:Int)+(j:Int))=((m+j:Nat):Int):=by have e0:(m:Int)+(j:Int)=((m+j:Nat):Int):=O;rw[e0];exact wrap64 O
 rcases s6 i j with W|Z|X
 .have q:((i:Int) != (j:Int))=true:=by rw[bne_iff_ne];omega
  have B:decide ((i:Int)>(j:Int))=false:=ch O;have w5:IntKind.i64.wrap (((m+j:Nat):Int)-(i:Int))=((m+j-i:Nat):Int):=by rw[fF O O];omega
  have R:IntKind.i64.wrap ((j:Int)-(i:Int))=((j-i:Nat):Int):=by rw[fF O O];omega
  apply RG;simp only[go_sem,E,q,B,S,w4,w5];refine av y [0] [s] [] rfl ED rfl (FQ (a:=m-i) (b:=m+j-i) (n:=i) z O O O) ?_;rintro v Q P g f⟨N,e,rfl,p,F,l,o⟩;simp only[Z3]at g |-;refine bd R ?_;exact h (i,j-i) _ _ bi al (by simp only[go_sem,Y,yF]) ⟨Q,N,e,rfl,g,D k f,p,permIn_trans _ _ _ a b w (o a b O O O),L,by simp only;omega,hi,by simp only;omega,u.right l W O⟩
 .subst Z;have q:((i:Int) != (i:Int))=false:=ao;refine d6 q S ?_;refine av y [0] [s] [] rfl ED rfl (FQ (a:=m-i) (b:=m) (n:=i) z O O O) ?_;rintro v Q P g f⟨N,e,rfl,p,F,l,o⟩;simp only[Z3]at g |-;refine bJ ?_;have T:=u.last l O O;exact jX rfl g (r:=[]) rfl (D k f) ⟨N,e,rfl,p,permIn_trans _ _ _ a b w (o a b O O O),by rw[<-T];exact G⟩
 .have q:((i:Int) != (j:Int))=true:=by rw[bne_iff_ne];omega
  have B:decide ((i:Int)>(j:Int))=true:=bm O;have R:IntKind.i64.wrap ((i:Int)-(j:Int))=((i-j:Nat):Int):=by rw[fF O O];omega
  refine nB q B S ?_;refine av y [0] [s] [] rfl ED rfl (FQ (a:=m-i) (b:=m) (n:=j) z O O O) ?_;rintro v Q P g f⟨N,e,rfl,p,F,l,o⟩;simp only[Z3]at g |-;refine bd R ?_;exact h (i-j,j) _ _ bi al (by simp only[go_sem,Y,yF]) ⟨Q,N,e,rfl,g,D k f,p,permIn_trans _ _ _ a b w (o a b O O O),by simp only;omega,K,by simp only;omega,hj,u.left l X O⟩
def IY:ay prog 296:=⟨_,func296,rfl,rfl⟩
def Ra:ay prog 272:=⟨_,func272,rfl,rfl⟩
def wq(v a vf vc:Value)(r:Nat):St:=⟨dn 82 [(0,.v v),(2,.v a),(3,.v vf),(4,.v vc),(10,.v (E r))],[]⟩
variable{d:Array M}
theorem Lw{lo hi first:Nat}(hA:aw I A v d.toList)(hc:it ag aV vc)(hb:first+hi<=d.size)(hn:d.size<=ar)(an:lo<=d.size):
  Zu 296 #[v,E lo,E hi,E first,vc] I [A] fun _ I2 qs=>∃A2,qs=[A2]/\aw I2 A2 v (Sort.siftDown aV hi first lo d).toList/\(Sort.siftDown aV hi first lo d).size=d.size:=by
 intro hd;unfold ar at hn;obtain⟨f,fst,cap,rfl,gf,cf⟩:=id hc;obtain⟨va,vk,rfl⟩:=Ow.one' hA;refine aP 82 func296 fun w0=>?_
 try simp only[E]
 refine ai ?_;refine bV (fun r=>hi-r) (wq (.slice va d.size vk) (E hi) (E first) (.func (.func f) fst cap)) (fun r H=>∃I2 A2 R,H=U [I2,A2]/\Dj [I2,A2]/\I.le I2/\r<=d.size/\R.size=d.size/\aw I2 A2 (.slice va d.size vk) R.toList/\Sort.siftDown aV hi first r R=Sort.siftDown aV hi first lo d) lo al (by simp only[go_sem,Y,wq]) ?_ ?_
 .exact⟨I,A,d,rfl,hd,aD _,an,rfl,hA,rfl⟩
 rintro r H ⟨I2,A2,R,rfl,V,C,hr,y,P,b⟩ S;simp only[wq];have w1:IntKind.i64.wrap (2*(r:Int))=((2*r:Nat):Int):=by rw[<-wrap64 (n:=2*r) O];congr 1<;>omega
 have w2:IntKind.i64.wrap (((2*r:Nat):Int)+1)=((2*r+1:Nat):Int):=by rw[<-wrap64 (n:=2*r+1) O];congr 1<;>omega
 have w3:IntKind.i64.wrap (((2*r+1:Nat):Int)+1)=((2*r+2:Nat):Int):=by rw[<-wrap64 (n:=2*r+2) O];congr 1<;>omega
 rcases aK (2*r+1) hi with aS|ap
 .have ac:decide (((2*r+1:Nat):Int)>=(hi:Int))=false:=ch O;rw[Sort.siftDown,dif_neg O]at b;have x:IntKind.i64.wrap ((first:Int)+((2*r+1:Nat):Int))=((first+(2*r+1):Nat):Int):=by rw[<-wrap64 (n:=first+(2*r+1)) O];congr 1<;>omega
  have a2:IntKind.i64.wrap (((first+(2*r+1):Nat):Int)+1)=((first+(2*r+2):Nat):Int):=by rw[<-wrap64 (n:=first+(2*r+2)) O];congr 1<;>omega
  have a3:IntKind.i64.wrap ((first:Int)+(r:Int))=((first+r:Nat):Int):=by rw[<-wrap64 (n:=first+r) O];congr 1<;>omega
  have a4:IntKind.i64.wrap ((first:Int)+((2*r+2:Nat):Int))=((first+(2*r+2):Nat):Int):=by rw[<-wrap64 (n:=first+(2*r+2)) O];congr 1<;>omega
  refine nB w1 w2 ac ?_;rcases aK (2*r+2) hi with h2|h2
  .have Z:=Z5 (2*r+2) hi;obtain⟨g,cp,cur,ci,cj,ev,rfl,aq,ri,rj,li,lj,ki,kj,am⟩:=Ow.two P (fun{I} c a h=>ag.len c a h) (fun{I J c a} h k=>ag.le h k) (i:=first+(2*r+1)) (j:=first+(2*r+2)) O O;rw[y]at ev aq;cases ev
   refine bG [0,1,2,3,4,5,6,7,8,9,10,11,12,13,14,15,16,17,18,19,20,21] [11,18] [] ?_;refine ge w3 Z x a2 ?_;refine⟨O,?_⟩;refine Zn (l:=ci) (v:=.agg ci.toArray) rfl (cellsU V (.tail _ (.head _)) (by simpa using ki)) (.inl ⟨by rw[li];exact b9,rfl⟩) ?_;refine ge w3 Z x a2 ?_;refine⟨O,?_⟩;refine Zn (l:=cj) (v:=.agg cj.toArray) rfl (cellsU V (.tail _ (.head _)) (by simpa using kj)) (.inl ⟨by rw[lj];exact b9,rfl⟩) ?_;refine ge w3 Z x a2 ?_;refine cH V [0] [] [_] rfl gf rfl (cf I2 _ _ _ _ ri rj) ?_;rintro v I3 qs T w⟨rfl,z,rfl,hz⟩;simp only[Z3]at T |-;refine bU ?_;apply aN;cases hl:aV R[first+(2*r+1)]! R[first+(2*r+2)]! with
   |true=>
    rw[hl]at hz;have aa:aV R[first+(2*r+1)]! R[first+(2*r+1)+1]! = true:=hl;rw[ah (by simp only[aa,rd,dE];omega)]at b;refine d6 hz w3 ?_;obtain⟨gq,cpq,curq,u,t,Q,eAq,N,G,F,p,o,L,K,B⟩:=Ow.two (aw.le P w) (fun{I} c a h=>ag.len c a h) (fun{I J c a} h k=>ag.le h k) (i:=first+r) (j:=first+(2*r+2)) O O;rw[y]at Q N;cases Q
    obtain rfl:=Lv eAq;clear eAq;refine bG [0,1,2,3,4,5,6,7,8,9,10,11,12,13,14,15] [6,12] [] ?_;refine ge x a2 a3 a4 ?_;refine⟨O,?_⟩;refine Zn (l:=u) (v:=.agg u.toArray) rfl (cellsU T (.tail _ (.head _)) (by simpa using L)) (.inl ⟨by rw[p];exact b9,rfl⟩) ?_;refine ge x a2 a3 a4 ?_;refine⟨O,?_⟩;refine Zn (l:=t) (v:=.agg t.toArray) rfl (cellsU T (.tail _ (.head _)) (by simpa using K)) (.inl ⟨by rw[o];exact b9,rfl⟩) ?_;refine ge x a2 a3 a4 ?_;refine cH T [0] [] [_] rfl gf rfl (cf I3 _ _ _ _ G F) ?_;rintro v I6 qs m e⟨rfl,z,rfl,q⟩;simp only[Z3]at m |-;refine bU ?_;apply aN;cases s:aV R[first+r]! R[first+(2*r+2)]! with
    |false=>rw[s]at q;rw[ah (by simp[s])]at b;apply RG;simp only[go_sem,E,q,dg];exact az rfl m (r:=[]) rfl (D C (D w e)) ⟨_,rfl,by rw[<-b];exact aw.le P (D w e),by rw[<-b];exact y⟩
    |true=>rw[s]at q;rw[ab (by simp[s])]at b;rw[dif_pos h2]at b;apply RG;simp only[go_sem,E,q,cL];have mi:((first+r)+1)*7<=d.size*7:=cv _ O;have mj:((first+(2*r+2))+1)*7<=d.size*7:=cv _ O;refine bG [0,1,2,3,4,5,6,7,8,9,10,11,12,13,14,15,16,17,18,19,20,21,22,23] [13,19] [] ?_;refine ge x a2 a3 a4 ?_;refine⟨O,?_⟩;refine Zn (l:=t) (v:=.agg t.toArray) rfl (cellsU m (.tail _ (.head _)) (by simpa using K)) (.inl ⟨by rw[o];exact b9,rfl⟩) ?_;refine ge x a2 a3 a4 ?_;refine⟨O,?_⟩;refine Zn (l:=u) (v:=.agg u.toArray) rfl (cellsU m (.tail _ (.head _)) (by simpa using L)) (.inl ⟨by rw[p];exact b9,rfl⟩) ?_;refine ge x a2 a3 a4 ?_;refine⟨O,?_⟩;refine cY m rfl rfl rfl rfl rfl (dN (ag.ones F)) (by rw[o];exact eM) (by rw[o];omega) fun W=>?_;refine ge x a2 a3 a4 ?_;refine⟨O,?_⟩;refine cY W rfl rfl rfl rfl rfl (dN (ag.ones G)) (by rw[p];exact eM) (by rw[p];simp[eL];omega) fun X=>?_;apply aN;refine bJ ?_;exact S (2*r+2) _ _ O al (by simp only[go_sem,Y,wq]) ⟨I6,_,_,rfl,X,D C (D w e),O,by rw[iU];exact y,B I6 e,b⟩
   |false=>
    rw[hl]at hz;have aa:aV R[first+(2*r+1)]! R[first+(2*r+1)+1]! = false:=hl;rw[ab (by simp only[aa,Bool.and_false];decide)]at b;refine bd hz ?_;obtain⟨gq,cpq,curq,u,t,Q,eAq,N,G,F,p,o,L,K,B⟩:=Ow.two (aw.le P w) (fun{I} c a h=>ag.len c a h) (fun{I J c a} h k=>ag.le h k) (i:=first+r) (j:=first+(2*r+1)) O O;rw[y]at Q N;cases Q
    obtain rfl:=Lv eAq;clear eAq;refine bG [0,1,2,3,4,5,6,7,8,9,10,11,12,13,14,15] [6,12] [] ?_;refine ge x a2 a3 a4 ?_;refine⟨O,?_⟩;refine Zn (l:=u) (v:=.agg u.toArray) rfl (cellsU T (.tail _ (.head _)) (by simpa using L)) (.inl ⟨by rw[p];exact b9,rfl⟩) ?_;refine ge x a2 a3 a4 ?_;refine⟨O,?_⟩;refine Zn (l:=t) (v:=.agg t.toArray) rfl (cellsU T (.tail _ (.head _)) (by simpa using K)) (.inl ⟨by rw[o];exact b9,rfl⟩) ?_;refine ge x a2 a3 a4 ?_;refine cH T [0] [] [_] rfl gf rfl (cf I3 _ _ _ _ G F) ?_;rintro v I6 qs m e⟨rfl,z,rfl,q⟩;simp only[Z3]at m |-;refine bU ?_;apply aN;cases s:aV R[first+r]! R[first+(2*r+1)]! with
    |false=>rw[s]at q;rw[ah (by simp[s])]at b;apply RG;simp only[go_sem,E,q,dg];exact az rfl m (r:=[]) rfl (D C (D w e)) ⟨_,rfl,by rw[<-b];exact aw.le P (D w e),by rw[<-b];exact y⟩
    |true=>rw[s]at q;rw[ab (by simp[s])]at b;apply RG;simp only[go_sem,E,q,cL];have mi:((first+r)+1)*7<=d.size*7:=cv _ O;have mj:((first+(2*r+1))+1)*7<=d.size*7:=cv _ O;refine bG [0,1,2,3,4,5,6,7,8,9,10,11,12,13,14,15,16,17,18,19,20,21,22,23] [13,19] [] ?_;refine ge x a2 a3 a4 ?_;refine⟨O,?_⟩;refine Zn (l:=t) (v:=.agg t.toArray) rfl (cellsU m (.tail _ (.head _)) (by simpa using K)) (.inl ⟨by rw[o];exact b9,rfl⟩) ?_;refine ge x a2 a3 a4 ?_;refine⟨O,?_⟩;refine Zn (l:=u) (v:=.agg u.toArray) rfl (cellsU m (.tail _ (.head _)) (by simpa using L)) (.inl ⟨by rw[p];exact b9,rfl⟩) ?_;refine ge x a2 a3 a4 ?_;refine⟨O,?_⟩;refine cY m rfl rfl rfl rfl rfl (dN (ag.ones F)) (by rw[o];exact eM) (by rw[o];omega) fun W=>?_;refine ge x a2 a3 a4 ?_;refine⟨O,?_⟩;refine cY W rfl rfl rfl rfl rfl (dN (ag.ones G)) (by rw[p];exact eM) (by rw[p];simp[eL];omega) fun X=>?_;apply aN;refine bJ ?_;exact S (2*r+1) _ _ O al (by simp only[go_sem,Y,wq]) ⟨I6,_,_,rfl,X,D C (D w e),O,by rw[iU];exact y,B I6 e,b⟩
  .have Z:decide (((2*r+2:Nat):Int)<(hi:Int))=false:=ch O;rw[ab (by simp;omega)]at b;refine bG [0,1,2,3,4,5,6,7,8,9,10,11,12,13,14,15,16,17,18,19,20,21] [11,18] [] ?_;refine lg w3 Z ?_;apply aN;refine bJ ?_;obtain⟨gq,cpq,curq,u,t,Q,rfl,N,G,F,p,o,L,K,B⟩:=Ow.two (aw.le P (aD _)) (fun{I} c a h=>ag.len c a h) (fun{I J c a} h k=>ag.le h k) (i:=first+r) (j:=first+(2*r+1)) O O;rw[y]at Q N;cases Q
   refine bG [0,1,2,3,4,5,6,7,8,9,10,11,12,13,14,15] [6,12] [] ?_;refine ge x a2 a3 a4 ?_;refine⟨O,?_⟩;refine Zn (l:=u) (v:=.agg u.toArray) rfl (cellsU V (.tail _ (.head _)) (by simpa using L)) (.inl ⟨by rw[p];exact b9,rfl⟩) ?_;refine ge x a2 a3 a4 ?_;refine⟨O,?_⟩;refine Zn (l:=t) (v:=.agg t.toArray) rfl (cellsU V (.tail _ (.head _)) (by simpa using K)) (.inl ⟨by rw[o];exact b9,rfl⟩) ?_;refine ge x a2 a3 a4 ?_;refine cH V [0] [] [_] rfl gf rfl (cf I2 _ _ _ _ G F) ?_;rintro v I6 qs m e⟨rfl,z,rfl,q⟩;simp only[Z3]at m |-;refine bU ?_;apply aN;cases s:aV R[first+r]! R[first+(2*r+1)]! with
   |false=>rw[s]at q;rw[ah (by simp[s])]at b;apply RG;simp only[go_sem,E,q,dg];exact az rfl m (r:=[]) rfl (D C (D (aD _) e)) ⟨_,rfl,by rw[<-b];exact aw.le P (D (aD _) e),by rw[<-b];exact y⟩
   |true=>rw[s]at q;rw[ab (by simp[s])]at b;apply RG;simp only[go_sem,E,q,cL];have mi:((first+r)+1)*7<=d.size*7:=cv _ O;have mj:((first+(2*r+1))+1)*7<=d.size*7:=cv _ O;refine bG [0,1,2,3,4,5,6,7,8,9,10,11,12,13,14,15,16,17,18,19,20,21,22,23] [13,19] [] ?_;refine ge x a2 a3 a4 ?_;refine⟨O,?_⟩;refine Zn (l:=t) (v:=.agg t.toArray) rfl (cellsU m (.tail _ (.head _)) (by simpa using K)) (.inl ⟨by rw[o];exact b9,rfl⟩) ?_;refine ge x a2 a3 a4 ?_;refine⟨O,?_⟩;refine Zn (l:=u) (v:=.agg u.toArray) rfl (cellsU m (.tail _ (.head _)) (by simpa using L)) (.inl ⟨by rw[p];exact b9,rfl⟩) ?_;refine ge x a2 a3 a4 ?_;refine⟨O,?_⟩;refine cY m rfl rfl rfl rfl rfl (dN (ag.ones F)) (by rw[o];exact eM) (by rw[o];omega) fun W=>?_;refine ge x a2 a3 a4 ?_;refine⟨O,?_⟩;refine cY W rfl rfl rfl rfl rfl (dN (ag.ones G)) (by rw[p];exact eM) (by rw[p];simp[eL];omega) fun X=>?_;apply aN;refine bJ ?_;exact S (2*r+1) _ _ O al (by simp only[go_sem,Y,wq]) ⟨I6,_,_,rfl,X,D C (D (aD _) e),O,by rw[iU];exact y,B I6 e,b⟩
 .have ac:decide (((2*r+1:Nat):Int)>=(hi:Int))=true:=bm O;rw[Sort.siftDown,dif_pos ap]at b;refine nB w1 w2 ac ?_;exact jX rfl V (r:=[]) rfl C ⟨A2,rfl,by rw[<-b];exact P,by rw[<-b];exact y⟩
def Rd:ay prog 275:=⟨_,func275,rfl,rfl⟩
def kr{k:Nat}(h:k<2^61):IntKind.i64.wrap ((k:Int)-1)=(k:Int)-1:=by
 have:=fF (a:=k) (b:=1) O O
 rwa [show ((1:Nat):Int)=1 from rfl]at this
def AG(v vf a vc:Value)(k:Nat):St:=⟨dn 60 [(0,.v v),(3,.v vc),(8,.v vf),(9,.v (.int .i64 0)),(10,.v a),(11,.v (.int .i64 ((k:Int)-1)))],[]⟩
def AH(v vf vc:Value)(k:Nat):St:=⟨dn 60 [(0,.v v),(3,.v vc),(8,.v vf),(9,.v (.int .i64 0)),(12,.v (.int .i64 ((k:Int)-1)))],[]⟩
theorem Si(hA:aw I A v d.toList)(hc:it ag aV vc)(a0:a<=b)(hb:b<=d.size)(hn:d.size<=ar):
  Zu 272 #[v,E a,E b,vc] I [A] fun _ w qs=>∃x,qs=[x]/\aw w x v (Sort.heapSort aV d a b).toList:=by
 intro hd;unfold ar at hn;obtain⟨f,fst,cap,rfl,gf,cf⟩:=id hc;obtain⟨Z,X,rfl⟩:=Ow.one' hA;refine aP 60 func272 fun w0=>?_
 try simp only[E]
 have w1:IntKind.i64.wrap ((b:Int)-(a:Int))=((b-a:Nat):Int):=by rw[fF O O];omega
 have w2:=kr (k:=b-a) O;have w3:IntKind.i64.wrap ((((b-a:Nat):Int)-1).tdiv 2)=(((b-a-1) / 2+1:Nat):Int)-1:=by
  have e:(((b-a:Nat):Int)-1).tdiv 2=(((b-a-1) / 2:Nat):Int):=by
   rcases jA (b-a)with h|h
   .rw[h];decide
   .rw[show ((b-a:Nat):Int)-1=((b-a-1:Nat):Int) by omega];rfl
  rw[e,wrap64 O];omega
 apply RG;simp only[go_sem,w1,w2,w3];refine bV (fun k=>k) (AG (.slice Z d.size X) (E a) (E (b-a)) (.func (.func f) fst cap)) (fun k H=>∃w x N,H=U [w,x]/\Dj [w,x]/\I.le w/\k<=d.size+1/\N.size=d.size/\aw w x (.slice Z d.size X) N.toList/\Sort.heapBuild aV (b-a) a k N=Sort.heapBuild aV (b-a) a ((b-a-1) / 2+1) d) ((b-a-1) / 2+1) al (by simp only[go_sem,Y,AG]) ?_ ?_
 .exact⟨I,A,d,rfl,hd,aD _,O,rfl,hA,rfl⟩
 rintro k H ⟨w,x,N,rfl,S,y,hk,C,T,t⟩ F;simp only[AG];cases k with
 |succ k=>have e:(((k+1:Nat):Int)-1)=(k:Int):=O;have K:decide ((k:Int)>=0)=true:=bm O;have w4:=kr (k:=k) O;rw[Sort.heapBuild]at t;refine d6 e K ?_;refine av S [0] [x] [] rfl IY rfl (Lw (d:=N) (lo:=k) (hi:=b-a) (first:=a) T hc O (by rw[C];exact hn) O) ?_;rintro v z qs m o⟨L,rfl,u,p⟩;simp only[Z3]at m |-;refine bd w4 ?_;exact F k _ _ O al (by simp only[go_sem,Y,AG]) ⟨z,L,_,rfl,m,D y o,O,by rw[p];exact C,u,t⟩
 |zero=>
  have K:decide ((0:Int)-1>=0)=false:=rfl;rw[Sort.heapBuild]at t;refine d6 K w2 ?_;refine bV (fun k=>k) (AH (.slice Z d.size X) (E a) (.func (.func f) fst cap)) (fun k H=>∃z L V,H=U [z,L]/\Dj [z,L]/\w.le z/\k<=b-a/\V.size=d.size/\aw z L (.slice Z d.size X) V.toList/\Sort.heapPop aV a k V=Sort.heapSort aV d a b) (b-a) al (by simp only[go_sem,Y,AH]) ?_ ?_
  .exact⟨w,x,N,rfl,S,aD _,aR _,C,T,by rw[t];rfl⟩
  rintro k H ⟨z,L,V,rfl,m,o,aS,p,u,s⟩ q;simp only[AH];cases k with
  |succ k=>
   have e:(((k+1:Nat):Int)-1)=(k:Int):=O;have G:decide ((k:Int)>=0)=true:=bm O;have w4:=kr (k:=k) O;rw[Sort.heapPop]at s;refine d6 e G ?_;have W:IntKind.i64.wrap ((a:Int)+(k:Int))=((a+k:Nat):Int):=by rw[<-wrap64 (n:=a+k) O];congr 1<;>omega
   obtain⟨g,cp,cur,ci,cj,ev,rfl,an,ri,rj,li,lj,ki,kj,P⟩:=Ow.two u (fun{I} c a h=>ag.len c a h) (fun{I J c a} h k=>ag.le h k) (i:=a) (j:=a+k) O O;rw[p]at ev an;cases ev
   have mi:(a+1)*7<=d.size*7:=cv _ O;have mj:((a+k)+1)*7<=d.size*7:=cv _ O;refine bG [0,1,2,3,4,5,6,7,8,9,10,11,12,13,14,15,16,17,18,19] [11,15] [] ?_;refine bQ W ?_;refine⟨O,?_⟩;refine Zn (l:=cj) (v:=.agg cj.toArray) rfl (cellsU m (.tail _ (.head _)) (by simpa using kj)) (.inl ⟨by rw[lj];exact b9,rfl⟩) ?_;refine bQ W ?_;refine⟨O,?_⟩;refine Zn (l:=ci) (v:=.agg ci.toArray) rfl (cellsU m (.tail _ (.head _)) (by simpa using ki)) (.inl ⟨by rw[li];exact b9,rfl⟩) ?_;refine bQ W ?_;refine⟨O,?_⟩;refine cY m rfl rfl rfl rfl rfl (dN (ag.ones rj)) (by rw[lj];exact eM) (by rw[lj];omega) fun ac=>?_;refine bQ W ?_;refine⟨O,?_⟩;refine cY ac rfl rfl rfl rfl rfl (dN (ag.ones ri)) (by rw[li];exact eM) (by rw[li];simp[eL];omega) fun am=>?_;apply aN;refine bd e ?_;have aq:=P z (aD _);have B:(Sort.swp V a (a+k)).size=d.size:=by rw[iU];exact p
   refine av am [0] [sg g _] [] rfl IY rfl (Lw (lo:=0) (hi:=k) (first:=a) aq hc (by rw[B];omega) (by rw[B];exact hn) (aE _)) ?_;rintro v I5 qs R Q⟨A5,rfl,ap,aa⟩;simp only[Z3]at R |-;refine bd w4 ?_;exact q k _ _ O al (by simp only[go_sem,Y,AH]) ⟨I5,A5,_,rfl,R,D o Q,O,by rw[aa];exact B,ap,s⟩
  |zero=>have G:decide ((0:Int)-1>=0)=false:=rfl;rw[Sort.heapPop]at s;refine bd G ?_;exact jX rfl m (r:=[]) rfl (D y o) ⟨L,rfl,by rw[<-s];exact u⟩
def BO(v:Value)(x:Nat×Nat):St:=⟨dn 34 [(0,.v v),(8,.v (E x.1)),(9,.v (.int .i64 ((x.2:Int)-1)))],[]⟩
def Ws(P:aw I A v d.toList)(ac:a<b)(hb:b<=d.size)(hn:d.size<=ar):
  Zu 275 #[v,E a,E b,vc] I [A] fun _ I2 X=>∃o,X=[o]/\aw I2 o v (Sort.reverseRange d a b).toList:=by
 intro hd;unfold ar at hn;obtain⟨N,L,rfl⟩:=Ow.one' P;refine aP 34 func275 fun w0=>?_
 try simp only[E]
 have w2:=kr (k:=b) O;refine dB w2 ?_;refine bV (fun x=>x.2-x.1) (BO (.slice N d.size L)) (fun x H=>∃o w,H=U [I,o]/\Dj [I,o]/\x.1<=b/\1<=x.2/\x.2<=b/\w.size=d.size/\aw I o (.slice N d.size L) w.toList/\Sort.reverseLoop x.1 (x.2-1) w=Sort.reverseRange d a b) (a,b) al (by simp only[go_sem,Y,BO]) ?_ ?_
 .exact⟨A,d,rfl,hd,by simp only;omega,by simp only;omega,aR _,rfl,P,rfl⟩
 rintro⟨i,j⟩ H ⟨o,w,rfl,m,hi,C,hj,s,u,f⟩ p;simp only at hi C hj f;simp only[BO];obtain⟨j,rfl⟩:∃j',j=j'+1:=⟨j-1,O⟩;have e:(((j+1:Nat):Int)-1)=(j:Int):=O;rw[uz]at f;have T:=kr (k:=j) O;have S:IntKind.i64.wrap ((i:Int)+1)=((i+1:Nat):Int):=by rw[<-wrap64 (n:=i+1) O];congr 1<;>omega
 rcases aK i j with B|aa
 .have q:=Z5 i j;rw[Sort.reverseLoop,ah B]at f;refine d6 e q ?_;obtain⟨g,cp,cur,R,Q,ev,rfl,K,W,V,z,y,ki,Z,t⟩:=Ow.two u (fun{I} c a h=>ag.len c a h) (fun{I J c a} h k=>ag.le h k) (i:=i) (j:=j) O O;rw[s]at ev K;cases ev
  have mi:(i+1)*7<=d.size*7:=cv _ O;have mj:(j+1)*7<=d.size*7:=cv _ O;refine bG [0,1,2,3,4,5,6,7,8,9,10,11,12,13,14,15] [7,11] [] ?_;refine bQ e ?_;refine⟨O,?_⟩;refine Zn (l:=Q) (v:=.agg Q.toArray) rfl (cellsU m (.tail _ (.head _)) (by simpa using Z)) (.inl ⟨by rw[y];exact b9,rfl⟩) ?_;refine bQ e ?_;refine⟨O,?_⟩;refine Zn (l:=R) (v:=.agg R.toArray) rfl (cellsU m (.tail _ (.head _)) (by simpa using ki)) (.inl ⟨by rw[z];exact b9,rfl⟩) ?_;refine bQ e ?_;refine⟨O,?_⟩;refine cY m rfl rfl rfl rfl rfl (dN (ag.ones V)) (by rw[y];exact eM) (by rw[y];omega) fun F=>?_;refine bQ e ?_;refine⟨O,?_⟩;refine cY F rfl rfl rfl rfl rfl (dN (ag.ones W)) (by rw[z];exact eM) (by rw[z];simp[eL];omega) fun G=>?_;apply aN;refine d6 T S ?_;exact p (i+1,j) _ _ bi al (by simp only[go_sem,Y,BO]) ⟨_,_,rfl,G,by simp only;omega,by simp only;omega,by simp only;omega,by rw[iU];exact s,t I (aD _),f⟩
 .have q:decide ((i:Int)<(j:Int))=false:=ch O;rw[Sort.reverseLoop,ab O]at f;refine d6 e q ?_;exact jX rfl m (r:=[]) rfl (aD _) ⟨o,rfl,by rw[<-f];exact u⟩
def EC:ay prog 309:=⟨_,func309,rfl,rfl⟩
def EB:ay prog 300:=⟨_,func300,rfl,rfl⟩
def EA:ay prog 299:=⟨_,func299,rfl,rfl⟩
def Rc:ay prog 274:=⟨_,func274,rfl,rfl⟩
abbrev jO(b n:Nat):PH:=sg b (.cells #[E n] 3 (0,0))
theorem E6{sb:Nat}(y:aw I A v d.toList)(T:it ag aV vc)(ha:a<d.size)(hb:b<d.size)(R:d.size<=ar)(hs:n<2^20):
  Zu 309 #[v,E a,E b,pt sb,vc] I [A,jO sb n] fun r X w=>w=[A,jO sb (Sort.order2 aV d a b n).2.2]/\r=.tuple #[E (Sort.order2 aV d a b n).1,E (Sort.order2 aV d a b n).2.1]:=by
 intro hd;unfold ar at R;obtain⟨f,fst,cap,rfl,U,W⟩:=id T;obtain⟨va,Z,rfl⟩:=Ow.one' y;refine aP 32 func309 fun w0=>?_
 try simp only[E,pt]
 have F:IntKind.i64.wrap ((n:Int)+1)=((n+1:Nat):Int):=by have V:(n:Int)+1=((n+1:Nat):Int):=O;rw[V];exact wrap64 O
 obtain⟨g,cp,cur,C,B,ev,rfl,S,H,G,L,K,P,N,x⟩:=Ow.two y (fun{I} c a h=>ag.len c a h) (fun{I J c a} h k=>ag.le h k) (i:=b) (j:=a) O O;cases ev
 refine ai ?_;refine bG [0,1,2,3,4,5,6,7,8,9,10] [4,8] [] ?_;refine bU ?_;refine⟨O,?_⟩;refine Zn (l:=C) (v:=.agg C.toArray) rfl (cellsU hd (.tail _ (.head _)) (by simpa using P)) (.inl ⟨by rw[L];exact b9,rfl⟩) ?_;refine bU ?_;refine⟨O,?_⟩;refine Zn (l:=B) (v:=.agg B.toArray) rfl (cellsU hd (.tail _ (.head _)) (by simpa using N)) (.inl ⟨by rw[K];exact b9,rfl⟩) ?_;refine bU ?_;refine cH hd [0,1] [] [_,_] rfl U rfl (W I _ _ _ _ H G) ?_;rintro v X w m o⟨rfl,z,rfl,p⟩;simp only[Z3]at m |-;refine bU ?_;apply aN;cases q:aV d[b]! d[a]! with
 |true=>
  rw[q]at p;have e:Sort.order2 aV d a b n=(b,a,n+1):=by simp[Sort.order2,q]
  rw[e];refine bd p ?_;refine Zm (l:=[E n]) rfl (cellsU m (.tail _ (.tail _ (.head _))) (dz ao rfl)) (.inr ⟨eR,rfl⟩) ?_;refine bd F ?_;refine ak m [1,0] fun u=>?_;refine k0 u rfl rfl rfl rfl rfl (by exact sQ) ao fun t=>?_;refine bJ ?_;refine ak t [1,0] fun s=>?_;exact az rfl s (r:=[E b,E a]) rfl o ⟨rfl,rfl⟩
 |false=>
  rw[q]at p;have e:Sort.order2 aV d a b n=(a,b,n):=by simp[Sort.order2,q]
  rw[e];refine bd p ?_;exact az rfl m (r:=[E a,E b]) rfl o ⟨rfl,rfl⟩
def E7(d:Array M)(a b n:Nat):((Sort.order2 aV d a b n).1=a/\(Sort.order2 aV d a b n).2.1=b\/(Sort.order2 aV d a b n).1=b/\(Sort.order2 aV d a b n).2.1=a)/\(Sort.order2 aV d a b n).2.2<=n+1:=by
 unfold Sort.order2;split
 .exact⟨.inr ⟨rfl,rfl⟩,aR _⟩
 .exact⟨.inl ⟨rfl,rfl⟩,Nat.le_succ _⟩
def EY{c sb:Nat}(x:aw I A v d.toList)(w:it ag aV vc)(ha:a<d.size)(hb:b<d.size)(B:c<d.size)(z:d.size<=ar)(hs:n<2^19):
  Zu 300 #[v,E a,E b,E c,pt sb,vc] I [A,jO sb n] fun r L u=>∃H m,H<=n+3/\(m=a\/m=b\/m=c)/\u=[A,jO sb H]/\r=E m:=by
 intro hd;obtain⟨f,fst,cap,rfl,T,U⟩:=id w;obtain⟨P,N,rfl⟩:=Ow.one' x;refine aP 41 func300 fun w0=>?_
 try simp only[E,pt]
 refine ai ?_;refine av hd [0,1] [A,jO sb n] [] rfl EC rfl (E6 (a:=a) (b:=b) x w ha hb z O) ?_;rintro v L u t g⟨rfl,rfl⟩;obtain⟨G,S⟩:=E7 d a b n;generalize Sort.order2 aV d a b n=e at *;simp only[Z3]at t |-;refine dL ?_;have C:e.2.1<d.size/\e.1<d.size:=by rcases G with p|p<;>omega
 refine av t [0,1] [A,jO sb e.2.2] [] rfl EC rfl (E6 (a:=e.2.1) (b:=c) (aw.le x g) w C.1 B z O) ?_;rintro v W u o h⟨rfl,rfl⟩;obtain⟨F,R⟩:=E7 d e.2.1 c e.2.2;generalize Sort.order2 aV d e.2.1 c e.2.2=i at *;simp only[Z3]at o |-;refine dL ?_;have J:i.1<d.size:=by rcases F with q|q<;>omega
 refine av o [0,1] [A,jO sb i.2.2] [] rfl EC rfl (E6 (a:=e.1) (b:=i.1) (aw.le x (D g h)) w C.2 J z O) ?_;rintro v V u l k⟨rfl,rfl⟩;obtain⟨K,Q⟩:=E7 d e.1 i.1 i.2.2;generalize Sort.order2 aV d e.1 i.1 i.2.2=y at *;simp only[Z3]at l |-;refine dL ?_;exact az rfl l (r:=[E y.2.1]) rfl (D g (D h k)) ⟨y.2.2,y.2.1,O,by rcases G with p|p<;>rcases F with q|q<;>rcases K with s|s<;>omega,rfl,rfl⟩
def EX{sb:Nat}(o:aw I A v d.toList)(l:it ag aV vc)(h1:1<=a)(ha:a+1<d.size)(k:d.size<=ar)(hs:n<2^19):
  Zu 299 #[v,E a,pt sb,vc] I [A,jO sb n] fun r u j=>∃h m,h<=n+3/\a-1<=m/\m<=a+1/\j=[A,jO sb h]/\r=E m:=by
 intro hd;have i:=k;unfold ar at i;obtain⟨f,fst,cap,rfl,z,B⟩:=id l;obtain⟨x,w,rfl⟩:=Ow.one' o;refine aP 18 func299 fun w0=>?_
 try simp only[E,pt]
 have w2:IntKind.i64.wrap ((a:Int)-1)=((a-1:Nat):Int):=by rw[kr O];omega
 have p:IntKind.i64.wrap ((a:Int)+1)=((a+1:Nat):Int):=by have t:(a:Int)+1=((a+1:Nat):Int):=O;rw[t];exact wrap64 O
 refine lR p w2 ?_;refine av hd [0,1] [A,jO sb n] [] rfl EB rfl (EY (a:=a-1) (b:=a) (c:=a+1) o l O O O k hs) ?_;rintro v u j g e⟨h,m,q,y,rfl,rfl⟩;simp only[Z3]at g |-;refine dL ?_;exact az rfl g (r:=[E m]) rfl e ⟨h,m,q,O,O,rfl,rfl⟩
theorem VR(J:aw I A v d.toList)(H:it ag aV vc)(am:12<b-a)(hb:b<=d.size)(G:d.size<=ar):
  Zu 274 #[v,E a,E b,vc] I [A] fun r I2 F=>∃m h,a<=m/\m<b/\h<=2/\F=[A]/\r=.tuple #[E m,E h]:=by
 intro hd;have V:=G;unfold ar at V;obtain⟨f,fst,cap,rfl,gf,cf⟩:=id H;obtain⟨va,vk,rfl⟩:=Ow.one' J;refine aP 63 func274 fun w0=>?_
 try simp only[E,pt]
 have w1:IntKind.i64.wrap ((b:Int)-(a:Int))=((b-a:Nat):Int):=by rw[fF O O];omega
 obtain⟨q,o⟩:∃q,q=(b-a) / 4:=⟨_,rfl⟩;have ac:4*q<=b-a:=O;have aa:3<=q:=O;have X:IntKind.i64.wrap ((((b-a:Nat):Int)).tdiv 4)=(q:Int):=by rw[show (((b-a:Nat):Int)).tdiv 4=(((b-a) / 4:Nat):Int) from rfl,<-o,wrap64 O]
 have m1:IntKind.i64.wrap ((q:Int)*1)=((q:Nat):Int):=by have u:(q:Int)*1=((q:Nat):Int):=O;rw[u];exact wrap64 O
 have m2:IntKind.i64.wrap ((q:Int)*2)=((2*q:Nat):Int):=by have u:(q:Int)*2=((2*q:Nat):Int):=O;rw[u];exact wrap64 O
 have m3:IntKind.i64.wrap ((q:Int)*3)=((3*q:Nat):Int):=by have u:(q:Int)*3=((3*q:Nat):Int):=O;rw[u];exact wrap64 O
 have s1:IntKind.i64.wrap ((a:Int)+(q:Int))=((a+q:Nat):Int):=by have u:(a:Int)+(q:Int)=((a+q:Nat):Int):=O;rw[u];exact wrap64 O
 have s2:IntKind.i64.wrap ((a:Int)+((2*q:Nat):Int))=((a+2*q:Nat):Int):=by have u:(a:Int)+((2*q:Nat):Int)=((a+2*q:Nat):Int):=O;rw[u];exact wrap64 O
 have Z:IntKind.i64.wrap ((a:Int)+((3*q:Nat):Int))=((a+3*q:Nat):Int):=by have u:(a:Int)+((3*q:Nat):Int)=((a+3*q:Nat):Int):=O;rw[u];exact wrap64 O
 have R:decide (((b-a:Nat):Int)>=8)=true:=bm O;apply cE 15;simp only[go_sem,w1];refine jW 11 hd rfl fun sb Q=>?_;have W:Dj [I,jO sb 0,A]:=Q
 change RC _ _ _ (U [I,jO sb 0,A])
 clear Q;refine ak W [1,0] fun P=>?_;rcases aK (b-a) 50 with h5|h5
 .have C:decide (((b-a:Nat):Int)>=50)=false:=ch O;apply RG;simp only[go_sem,iR,List.map,E,pt,X,m1,m2,m3,s1,s2,Z,R,C];refine av P [0,1] [A,jO sb 0] [] rfl EB rfl (EY (a:=a+q) (b:=a+2*q) (c:=a+3*q) (n:=0) J H O O O G O) ?_;rintro v I2 F j i⟨w,m,p1,p2,rfl,rfl⟩;simp only[Z3]at j |-;refine dL ?_;refine Zm (l:=[E w]) rfl (cellsU j (.tail _ (.tail _ (.head _))) (dz ao rfl)) (.inr ⟨eR,rfl⟩) ?_;have hm:a<=m/\m<b:=O;by_cases z0:w=0
  .have x:((w:Int) == 0)=true:=by rw[z0];rfl
   refine bd x ?_;refine ak j [1,0] fun e=>?_;refine aJ e fun S e g t=>?_;exact az rfl e (r:=[E m,E 1]) rfl (D i g) ⟨m,1,hm.1,hm.2,O,rfl,rfl⟩
  .have x:((w:Int) == 0)=false:=by rw[i7];omega
   by_cases T:w=12
   .have z:((w:Int) == 12)=true:=by rw[T];rfl
    refine d6 x z ?_;refine ak j [1,0] fun e=>?_;refine aJ e fun S e g t=>?_;exact az rfl e (r:=[E m,E 2]) rfl (D i g) ⟨m,2,hm.1,hm.2,O,rfl,rfl⟩
   .have z:((w:Int) == 12)=false:=by rw[i7];omega
    refine d6 x z ?_;refine ak j [1,0] fun e=>?_;refine aJ e fun S e g t=>?_;exact az rfl e (r:=[E m,E 0]) rfl (D i g) ⟨m,0,hm.1,hm.2,O,rfl,rfl⟩
 .have C:decide (((b-a:Nat):Int)>=50)=true:=bm O;apply RG;simp only[go_sem,iR,List.map,E,pt,X,m1,m2,m3,s1,s2,Z,R,C];refine av P [0,1] [A,jO sb 0] [] rfl EA rfl (EX (a:=a+q) (n:=0) J H O O G O) ?_;rintro v I2 F j i⟨w,x1,p1,p2,p3,rfl,rfl⟩;simp only[Z3]at j |-;refine dL ?_;refine av j [0,1] [A,jO sb w] [] rfl EA rfl (EX (a:=a+2*q) (n:=w) (aw.le J i) H O O G O) ?_;rintro v I3 F N p⟨n3,x2,p4,p5,p6,rfl,rfl⟩;simp only[Z3]at N |-;refine dL ?_;refine av N [0,1] [A,jO sb n3] [] rfl EA rfl (EX (a:=a+3*q) (n:=n3) (aw.le J (D i p)) H O O G O) ?_;rintro v I4 F L y⟨n4,x3,p7,p8,p9,rfl,rfl⟩;simp only[Z3]at L |-;refine dL ?_;refine av L [0,1] [A,jO sb n4] [] rfl EB rfl (EY (a:=x1) (b:=x2) (c:=x3) (n:=n4) (aw.le J (D i (D p y))) H O O O G O) ?_;rintro v I5 F s K⟨B,m,p10,p11,rfl,rfl⟩;simp only[Z3]at s |-;refine dL ?_;have k:=D i (D p (D y K));refine Zm (l:=[E B]) rfl (cellsU s (.tail _ (.tail _ (.head _))) (dz ao rfl)) (.inr ⟨eR,rfl⟩) ?_;have hm:a<=m/\m<b:=O;by_cases z0:B=0
  .have x:((B:Int) == 0)=true:=by rw[z0];rfl
   refine bd x ?_;refine ak s [1,0] fun e=>?_;refine aJ e fun S e g t=>?_;exact az rfl e (r:=[E m,E 1]) rfl (D k g) ⟨m,1,hm.1,hm.2,O,rfl,rfl⟩
  .have x:((B:Int) == 0)=false:=by rw[i7];omega
   by_cases T:B=12
   .have z:((B:Int) == 12)=true:=by rw[T];rfl
    refine d6 x z ?_;refine ak s [1,0] fun e=>?_;refine aJ e fun S e g t=>?_;exact az rfl e (r:=[E m,E 2]) rfl (D k g) ⟨m,2,hm.1,hm.2,O,rfl,rfl⟩
   .have z:((B:Int) == 12)=false:=by rw[i7];omega
    refine d6 x z ?_;refine ak s [1,0] fun e=>?_;refine aJ e fun S e g t=>?_;exact az rfl e (r:=[E m,E 0]) rfl (D k g) ⟨m,0,hm.1,hm.2,O,rfl,rfl⟩
def Rg:ay prog 278:=⟨_,func278,rfl,rfl⟩
def Rf:ay prog 277:=⟨_,func277,rfl,rfl⟩
def eT(v a vc:Value)(x:Nat×Nat):St:=⟨dn 178 [(0,.v v),(1,.v a),(4,.v vc),(12,.v (E x.1)),(13,.v (E x.2))],[]⟩
def iQ(v a vc:Value)(x:Nat×Nat):St:=⟨dn 90 [(0,.v v),(1,.v a),(4,.v vc),(11,.v (E x.1)),(12,.v (E x.2))],[]⟩
theorem VK{pivot:Nat}(hA:aw I A v d.toList)(hc:it ag aV vc)(dk:a<=pivot)(c3:pivot<b)(hb:b<=d.size)(hn:d.size<=ar):
  Zu 278 #[v,E a,E b,E pivot,vc] I [A] fun r I2 qs=>∃A2,qs=[A2]/\aw I2 A2 v (Sort.partition aV d a b pivot).2.2.toList/\r=.tuple #[E (Sort.partition aV d a b pivot).1,.bool (Sort.partition aV d a b pivot).2.1]:=by
 intro hd;unfold ar at hn;obtain⟨f,fst,cap,rfl,gf,cf⟩:=id hc;obtain⟨g0,vk,rfl⟩:=Ow.addr hA O;refine aP 178 func278 fun w0=>?_
 try simp only[E]
 have w1:IntKind.i64.wrap ((a:Int)+1)=((a+1:Nat):Int):=by have e0:(a:Int)+1=((a+1:Nat):Int):=O;rw[e0];exact wrap64 O
 have w2:IntKind.i64.wrap ((b:Int)-1)=((b-1:Nat):Int):=by rw[kr O];omega
 refine ai ?_;obtain⟨g,cp,cur,Q,P,ev,rfl,B,Z,X,L,K,ki,kj,s⟩:=Ow.two hA (fun{I} c a h=>ag.len c a h) (fun{I J c a} h k=>ag.le h k) (i:=a) (j:=pivot) O O;simp only[Value.slice.injEq,bf,Addr.mk.injEq,dZ,fg]at ev;obtain⟨eg,ek⟩:=ev;subst eg;subst ek;have mi:(a+1)*7<=d.size*7:=cv _ O;have mj:(pivot+1)*7<=d.size*7:=cv _ O;refine bG [0,1,2,3,4,5,6,7,8,9,10,11,12,13,14,15] [7,11] [] ?_;refine bU ?_;refine⟨O,?_⟩;refine Zn (l:=P) (v:=.agg P.toArray) rfl (cellsU hd (.tail _ (.head _)) (by simpa using kj)) (.inl ⟨by rw[K];exact b9,rfl⟩) ?_;refine bU ?_;refine⟨O,?_⟩;refine Zn (l:=Q) (v:=.agg Q.toArray) rfl (cellsU hd (.tail _ (.head _)) (by simpa using ki)) (.inl ⟨by rw[L];exact b9,rfl⟩) ?_;refine bU ?_;refine⟨O,?_⟩;refine cY hd rfl rfl rfl rfl rfl (dN (ag.ones X)) (by rw[K];exact eM) (by rw[K];omega) fun W=>?_;refine bU ?_;refine⟨O,?_⟩;refine cY W rfl rfl rfl rfl rfl (dN (ag.ones Z)) (by rw[L];exact eM) (by rw[L];simp[eL];omega) fun dd=>?_;apply aN;have cj:=s I (aD _);have am:(Sort.swp d a pivot).size=d.size:=(iU _ _ _).trans rfl;obtain⟨G,ed1⟩:∃G,G=Sort.swp d a pivot:=⟨_,rfl⟩;rw[<-ed1]at cj am;refine d6 w1 w2 ?_;have c2:=cj;apply gO (fun x=>(b-1)+2-x) (fun x=>eT (.slice (some ⟨g0,0,none⟩) d.size vk) (E a) (.func (.func f) fst cap) (x,(b-1))) (fun x H=>∃n w,H=U [n,w]/\Dj [n,w]/\I.le n/\aw n w (.slice (some ⟨g0,0,none⟩) d.size vk) G.toList/\(a+1)<=x/\x<=(b-1)+2/\Sort.scanUp (fun y=>aV y G[a]!) G (b-1) x=Sort.scanUp (fun y=>aV y G[a]!) G (b-1) (a+1)) (fun x H=>∃n w,H=U [n,w]/\Dj [n,w]/\I.le n/\aw n w (.slice (some ⟨g0,0,none⟩) d.size vk) G.toList/\(a+1)<=x/\x<=(b-1)+2/\x=Sort.scanUp (fun y=>aV y G[a]!) G (b-1) (a+1)) (a+1)
 .exact al
 .exact(by simp only[go_sem,Y,eT])
 .exact⟨I,_,rfl,‹_›,aD _,‹_›,aR _,O,rfl⟩
 .rintro x H ⟨n,w,rfl,t,o,u,a0,R,e⟩ C p;simp only[eT];rcases aK (b-1) x with b3|bx
  .have q:decide (((x:Nat):Int)<=(((b-1):Nat):Int))=false:=ch O;rw[Sort.scanUp,ab (by simp;omega)]at e;have ac:=e;refine bJ ?_;refine bG [0,1,2,3,4,5,6,7,8,9,10,11,12,13,14,15] [8,12] [] ?_;refine bQ q ?_;apply aN;apply cE 3;simp only[go_sem,E];exact p x _ _ al (by simp only[go_sem,Y,eT]) ⟨n,w,rfl,t,o,u,a0,R,ac⟩
  .have q:decide (((x:Nat):Int)<=(((b-1):Nat):Int))=true:=bm O;rw[Sort.scanUp]at e;have p1:IntKind.i64.wrap ((x:Int)+1)=((x+1:Nat):Int):=by have e0:(x:Int)+1=((x+1:Nat):Int):=O;rw[e0];exact wrap64 O
   obtain⟨g,cp,cur,Q,P,ev,rfl,B,Z,X,L,K,ki,kj,s⟩:=Ow.two u (fun{I} c a h=>ag.len c a h) (fun{I J c a} h k=>ag.le h k) (i:=x) (j:=a) O O;rw[am]at ev B;simp only[Value.slice.injEq,bf,Addr.mk.injEq,dZ,fg]at ev;obtain⟨eg,ek⟩:=ev;subst eg;subst ek;refine bJ ?_;refine bG [0,1,2,3,4,5,6,7,8,9,10,11,12,13,14,15] [8,12] [] ?_;refine bQ q ?_;refine⟨O,?_⟩;refine Zn (l:=Q) (v:=.agg Q.toArray) rfl (cellsU t (.tail _ (.head _)) (by simpa using ki)) (.inl ⟨by rw[L];exact b9,rfl⟩) ?_;refine bQ q ?_;refine⟨O,?_⟩;refine Zn (l:=P) (v:=.agg P.toArray) rfl (cellsU t (.tail _ (.head _)) (by simpa using kj)) (.inl ⟨by rw[K];exact b9,rfl⟩) ?_;refine bQ q ?_;refine cH t [0] [] [_] rfl gf rfl (cf n _ _ _ _ Z X) ?_;rintro v Jy qs F m⟨rfl,z,rfl,T⟩;simp only[Z3]at F |-;refine bU ?_;apply aN;cases V:aV G[x]! G[a]! with
   |true=>rw[V]at T;rw[ah (by simp[V];omega)]at e;apply RG;simp only[go_sem,E,T,cL,p1];exact C (x+1) _ _ O al (by simp only[go_sem,Y,eT]) ⟨Jy,_,rfl,F,D o m,aw.le u m,O,O,e⟩
   |false=>rw[V]at T;rw[ab (by simp[V])]at e;apply cE 3;simp only[go_sem,E,T,dg];exact p (x) _ _ al (by simp only[go_sem,Y,eT]) ⟨Jy,_,rfl,F,D o m,aw.le u m,a0,R,e⟩
 rintro i H ⟨I2,A2,rfl,dc,bs,dw,c8,c7,cx⟩;simp only[eT];refine bJ ?_;apply gO (fun x=>x) (fun x=>eT (.slice (some ⟨g0,0,none⟩) d.size vk) (E a) (.func (.func f) fst cap) (i,x)) (fun x H=>∃n w,H=U [n,w]/\Dj [n,w]/\I2.le n/\aw n w (.slice (some ⟨g0,0,none⟩) d.size vk) G.toList/\x<=(b-1)/\Sort.scanDown (fun y=>!aV y G[a]!) G i x=Sort.scanDown (fun y=>!aV y G[a]!) G i (b-1)) (fun x H=>∃n w,H=U [n,w]/\Dj [n,w]/\I2.le n/\aw n w (.slice (some ⟨g0,0,none⟩) d.size vk) G.toList/\x<=(b-1)/\x=Sort.scanDown (fun y=>!aV y G[a]!) G i (b-1)) (b-1)
 .exact al
 .exact(by simp only[go_sem,Y,eT])
 .exact⟨I2,_,rfl,‹_›,aD _,‹_›,aR _,rfl⟩
 .rintro x H ⟨n,w,rfl,t,o,u,R,e⟩ C p;simp only[eT];rcases aK x i with b3|bx
  .have q:decide (((i:Nat):Int)<=((x:Nat):Int))=false:=ch O;have ac:x=Sort.scanDown (fun y=>!aV y G[a]!) G i (b-1):=by
    rw[<-e];cases x with
    |zero=>rw[Sort.scanDown]
    |succ x=>rw[Sort.scanDown,ab (by simp;omega)]
   refine bJ ?_;refine bG [0,1,2,3,4,5,6,7,8,9,10,11,12,13,14,15,16] [8,12] [] ?_;refine bQ q ?_;apply aN;apply cE 3;simp only[go_sem,E];exact p x _ _ al (by simp only[go_sem,Y,eT]) ⟨n,w,rfl,t,o,u,R,ac⟩
  .have q:decide (((i:Nat):Int)<=((x:Nat):Int))=true:=bm O;obtain⟨x,rfl⟩:∃x',x=x'+1:=⟨x-1,O⟩;have p1:=pA (j:=x) O;rw[Sort.scanDown]at e;obtain⟨g,cp,cur,Q,P,ev,rfl,B,Z,X,L,K,ki,kj,s⟩:=Ow.two u (fun{I} c a h=>ag.len c a h) (fun{I J c a} h k=>ag.le h k) (i:=x+1) (j:=a) O O;rw[am]at ev B;simp only[Value.slice.injEq,bf,Addr.mk.injEq,dZ,fg]at ev;obtain⟨eg,ek⟩:=ev;subst eg;subst ek;refine bJ ?_;refine bG [0,1,2,3,4,5,6,7,8,9,10,11,12,13,14,15,16] [8,12] [] ?_;refine bQ q ?_;refine⟨O,?_⟩;refine Zn (l:=Q) (v:=.agg Q.toArray) rfl (cellsU t (.tail _ (.head _)) (by simpa using ki)) (.inl ⟨by rw[L];exact b9,rfl⟩) ?_;refine bQ q ?_;refine⟨O,?_⟩;refine Zn (l:=P) (v:=.agg P.toArray) rfl (cellsU t (.tail _ (.head _)) (by simpa using kj)) (.inl ⟨by rw[K];exact b9,rfl⟩) ?_;refine bQ q ?_;refine cH t [0] [] [_] rfl gf rfl (cf n _ _ _ _ Z X) ?_;rintro v Jy qs F m⟨rfl,z,rfl,T⟩;simp only[Z3]at F |-;refine bU ?_;apply aN;cases V:aV G[x+1]! G[a]! with
   |true=>rw[V]at T;rw[ab (by simp[V])]at e;apply cE 3;simp only[go_sem,E,T,cL];exact p (x+1) _ _ al (by simp only[go_sem,Y,eT]) ⟨Jy,_,rfl,F,D o m,aw.le u m,R,e⟩
   |false=>rw[V]at T;rw[ah (by simp[V];omega)]at e;apply RG;simp only[go_sem,E,T,dg,p1];exact C x _ _ O al (by simp only[go_sem,Y,eT]) ⟨Jy,_,rfl,F,D o m,aw.le u m,O,e⟩
 rintro j H ⟨I3,A3,rfl,aS,bc,ci,c5,cn⟩;simp only[eT];have hP:Sort.partition aV d a b pivot=if i>j then (j,true,Sort.swp G j a)else ((Sort.partLoop aV a (i+1) (j-1) (Sort.swp G i j)).1,false,Sort.swp (Sort.partLoop aV a (i+1) (j-1) (Sort.swp G i j)).2 (Sort.partLoop aV a (i+1) (j-1) (Sort.swp G i j)).1 a):=by unfold Sort.partition;simp only[<-ed1,<-cx,<-cn]
 have k3:=D bs bc;by_cases cb:i>j
 .have aq:decide ((i:Int)>(j:Int))=true:=bm O;rw[ah cb]at hP;rw[hP];refine bd aq ?_;obtain⟨g,cp,cur,Q,P,ev,rfl,B,Z,X,L,K,ki,kj,s⟩:=Ow.two ci (fun{I} c a h=>ag.len c a h) (fun{I J c a} h k=>ag.le h k) (i:=j) (j:=a) O O;rw[am]at ev B;simp only[Value.slice.injEq,bf,Addr.mk.injEq,dZ,fg]at ev;obtain⟨eg,ek⟩:=ev;subst eg;subst ek;have mi:(j+1)*7<=d.size*7:=cv _ O;have mj:(a+1)*7<=d.size*7:=cv _ O;refine bG [0,1,2,3,4,5,6,7,8,9,10,11,12,13,14,15] [7,11] [] ?_;refine bU ?_;refine⟨O,?_⟩;refine Zn (l:=P) (v:=.agg P.toArray) rfl (cellsU aS (.tail _ (.head _)) (by simpa using kj)) (.inl ⟨by rw[K];exact b9,rfl⟩) ?_;refine bU ?_;refine⟨O,?_⟩;refine Zn (l:=Q) (v:=.agg Q.toArray) rfl (cellsU aS (.tail _ (.head _)) (by simpa using ki)) (.inl ⟨by rw[L];exact b9,rfl⟩) ?_;refine bU ?_;refine⟨O,?_⟩;refine cY aS rfl rfl rfl rfl rfl (dN (ag.ones X)) (by rw[K];exact eM) (by rw[K];omega) fun W=>?_;refine bU ?_;refine⟨O,?_⟩;refine cY W rfl rfl rfl rfl rfl (dN (ag.ones Z)) (by rw[L];exact eM) (by rw[L];simp[eL];omega) fun b5=>?_;apply aN;have a5:=s I3 (aD _);have a6:(Sort.swp G j a).size=d.size:=(iU _ _ _).trans am;refine bJ ?_;exact az rfl b5 (r:=[E j,.bool true]) rfl k3 ⟨_,rfl,a5,rfl⟩
 have aq:decide ((i:Int)>(j:Int))=false:=ch O;rw[ab cb]at hP;rw[hP];clear hP;refine bd aq ?_;obtain⟨g,cp,cur,Q,P,ev,rfl,B,Z,X,L,K,ki,kj,s⟩:=Ow.two ci (fun{I} c a h=>ag.len c a h) (fun{I J c a} h k=>ag.le h k) (i:=i) (j:=j) O O;rw[am]at ev B;simp only[Value.slice.injEq,bf,Addr.mk.injEq,dZ,fg]at ev;obtain⟨eg,ek⟩:=ev;subst eg;subst ek;have mi:(i+1)*7<=d.size*7:=cv _ O;have mj:(j+1)*7<=d.size*7:=cv _ O;refine bG [0,1,2,3,4,5,6,7,8,9,10,11,12,13,14,15] [7,11] [] ?_;refine bU ?_;refine⟨O,?_⟩;refine Zn (l:=P) (v:=.agg P.toArray) rfl (cellsU aS (.tail _ (.head _)) (by simpa using kj)) (.inl ⟨by rw[K];exact b9,rfl⟩) ?_;refine bU ?_;refine⟨O,?_⟩;refine Zn (l:=Q) (v:=.agg Q.toArray) rfl (cellsU aS (.tail _ (.head _)) (by simpa using ki)) (.inl ⟨by rw[L];exact b9,rfl⟩) ?_;refine bU ?_;refine⟨O,?_⟩;refine cY aS rfl rfl rfl rfl rfl (dN (ag.ones X)) (by rw[K];exact eM) (by rw[K];omega) fun W=>?_;refine bU ?_;refine⟨O,?_⟩;refine cY W rfl rfl rfl rfl rfl (dN (ag.ones Z)) (by rw[L];exact eM) (by rw[L];simp[eL];omega) fun b5=>?_;apply aN;have a5:=s I3 (aD _);have a6:(Sort.swp G i j).size=d.size:=(iU _ _ _).trans am;obtain⟨d4,ed4⟩:∃d4,d4=Sort.swp G i j:=⟨_,rfl⟩;rw[<-ed4]at a5 a6 |-;have w3:IntKind.i64.wrap ((i:Int)+1)=((i+1:Nat):Int):=by have e0:(i:Int)+1=((i+1:Nat):Int):=O;rw[e0];exact wrap64 O
 have w4:IntKind.i64.wrap ((j:Int)-1)=((j-1:Nat):Int):=by rw[kr O];omega
 refine d6 w3 w4 ?_;apply gO (fun x=>x.2+3-x.1) (fun x=>eT (.slice (some ⟨g0,0,none⟩) d.size vk) (E a) (.func (.func f) fst cap) x) (fun x H=>∃I5 A5 N,H=U [I5,A5]/\Dj [I5,A5]/\I3.le I5/\N.size=d.size/\aw I5 A5 (.slice (some ⟨g0,0,none⟩) d.size vk) N.toList/\1<=x.1/\x.1<=x.2+2/\x.2<=b-1/\Sort.partLoop aV a x.1 x.2 N=Sort.partLoop aV a (i+1) (j-1) d4) (fun x H=>∃I5 A5,H=U [I5,A5]/\Dj [I5,A5]/\I3.le I5/\(Sort.partLoop aV a (i+1) (j-1) d4).2.size=d.size/\aw I5 A5 (.slice (some ⟨g0,0,none⟩) d.size vk) (Sort.partLoop aV a (i+1) (j-1) d4).2.toList/\x.2<=b-1/\x.2=(Sort.partLoop aV a (i+1) (j-1) d4).1) (i+1,j-1)
 .exact al
 .exact(by simp only[go_sem,Y,eT])
 .exact⟨I3,_,d4,rfl,b5,aD _,a6,a5,by simp only;omega,by simp only;omega,by simp only;omega,rfl⟩
 .rintro⟨i5,j5⟩ H ⟨I5,A5,N,rfl,da,bb,a1,dv,cy,b1,cs,aa⟩ an ap;simp only at cy b1 cs aa;simp only[eT];refine bJ ?_;apply gO (fun x=>j5+2-x) (fun x=>eT (.slice (some ⟨g0,0,none⟩) d.size vk) (E a) (.func (.func f) fst cap) (x,j5)) (fun x H=>∃n w,H=U [n,w]/\Dj [n,w]/\I5.le n/\aw n w (.slice (some ⟨g0,0,none⟩) d.size vk) N.toList/\i5<=x/\x<=j5+2/\Sort.scanUp (fun y=>aV y N[a]!) N j5 x=Sort.scanUp (fun y=>aV y N[a]!) N j5 i5) (fun x H=>∃n w,H=U [n,w]/\Dj [n,w]/\I5.le n/\aw n w (.slice (some ⟨g0,0,none⟩) d.size vk) N.toList/\i5<=x/\x<=j5+2/\x=Sort.scanUp (fun y=>aV y N[a]!) N j5 i5) i5
  .exact al
  .exact(by simp only[go_sem,Y,eT])
  .exact⟨I5,_,rfl,‹_›,aD _,‹_›,aR _,O,rfl⟩
  .rintro x H ⟨n,w,rfl,t,o,u,a0,R,e⟩ C p;simp only[eT];rcases aK j5 x with b3|bx
   .have q:decide (((x:Nat):Int)<=((j5:Nat):Int))=false:=ch O;rw[Sort.scanUp,ab (by simp;omega)]at e;have ac:=e;refine bJ ?_;refine bG [0,1,2,3,4,5,6,7,8,9,10,11,12,13,14,15] [8,12] [] ?_;refine bQ q ?_;apply aN;apply cE 3;simp only[go_sem,E];exact p x _ _ al (by simp only[go_sem,Y,eT]) ⟨n,w,rfl,t,o,u,a0,R,ac⟩
   .have q:decide (((x:Nat):Int)<=((j5:Nat):Int))=true:=bm O;rw[Sort.scanUp]at e;have p1:IntKind.i64.wrap ((x:Int)+1)=((x+1:Nat):Int):=by have e0:(x:Int)+1=((x+1:Nat):Int):=O;rw[e0];exact wrap64 O
    obtain⟨g,cp,cur,Q,P,ev,rfl,B,Z,X,L,K,ki,kj,s⟩:=Ow.two u (fun{I} c a h=>ag.len c a h) (fun{I J c a} h k=>ag.le h k) (i:=x) (j:=a) O O;rw[a1]at ev B;simp only[Value.slice.injEq,bf,Addr.mk.injEq,dZ,fg]at ev;obtain⟨eg,ek⟩:=ev;subst eg;subst ek;refine bJ ?_;refine bG [0,1,2,3,4,5,6,7,8,9,10,11,12,13,14,15] [8,12] [] ?_;refine bQ q ?_;refine⟨O,?_⟩;refine Zn (l:=Q) (v:=.agg Q.toArray) rfl (cellsU t (.tail _ (.head _)) (by simpa using ki)) (.inl ⟨by rw[L];exact b9,rfl⟩) ?_;refine bQ q ?_;refine⟨O,?_⟩;refine Zn (l:=P) (v:=.agg P.toArray) rfl (cellsU t (.tail _ (.head _)) (by simpa using kj)) (.inl ⟨by rw[K];exact b9,rfl⟩) ?_;refine bQ q ?_;refine cH t [0] [] [_] rfl gf rfl (cf n _ _ _ _ Z X) ?_;rintro v Jy qs F m⟨rfl,z,rfl,T⟩;simp only[Z3]at F |-;refine bU ?_;apply aN;cases V:aV N[x]! N[a]! with
    |true=>rw[V]at T;rw[ah (by simp[V];omega)]at e;apply RG;simp only[go_sem,E,T,cL,p1];exact C (x+1) _ _ O al (by simp only[go_sem,Y,eT]) ⟨Jy,_,rfl,F,D o m,aw.le u m,O,O,e⟩
    |false=>rw[V]at T;rw[ab (by simp[V])]at e;apply cE 3;simp only[go_sem,E,T,dg];exact p (x) _ _ al (by simp only[go_sem,Y,eT]) ⟨Jy,_,rfl,F,D o m,aw.le u m,a0,R,e⟩
  rintro S H ⟨I6,A6,rfl,c9,ba,ds,c6,hi6b,b2⟩;simp only[eT];refine bJ ?_;apply gO (fun x=>x) (fun x=>eT (.slice (some ⟨g0,0,none⟩) d.size vk) (E a) (.func (.func f) fst cap) (S,x)) (fun x H=>∃n w,H=U [n,w]/\Dj [n,w]/\I6.le n/\aw n w (.slice (some ⟨g0,0,none⟩) d.size vk) N.toList/\x<=j5/\Sort.scanDown (fun y=>!aV y N[a]!) N S x=Sort.scanDown (fun y=>!aV y N[a]!) N S j5) (fun x H=>∃n w,H=U [n,w]/\Dj [n,w]/\I6.le n/\aw n w (.slice (some ⟨g0,0,none⟩) d.size vk) N.toList/\x<=j5/\x=Sort.scanDown (fun y=>!aV y N[a]!) N S j5) j5
  .exact al
  .exact(by simp only[go_sem,Y,eT])
  .exact⟨I6,_,rfl,‹_›,aD _,‹_›,aR _,rfl⟩
  .rintro x H ⟨n,w,rfl,t,o,u,R,e⟩ C p;simp only[eT];rcases aK x S with b3|bx
   .have q:decide (((S:Nat):Int)<=((x:Nat):Int))=false:=ch O;have ac:x=Sort.scanDown (fun y=>!aV y N[a]!) N S j5:=by
     rw[<-e];cases x with
     |zero=>rw[Sort.scanDown]
     |succ x=>rw[Sort.scanDown,ab (by simp;omega)]
    refine bJ ?_;refine bG [0,1,2,3,4,5,6,7,8,9,10,11,12,13,14,15,16] [8,12] [] ?_;refine bQ q ?_;apply aN;apply cE 3;simp only[go_sem,E];exact p x _ _ al (by simp only[go_sem,Y,eT]) ⟨n,w,rfl,t,o,u,R,ac⟩
   .have q:decide (((S:Nat):Int)<=((x:Nat):Int))=true:=bm O;obtain⟨x,rfl⟩:∃x',x=x'+1:=⟨x-1,O⟩;have p1:=pA (j:=x) O;rw[Sort.scanDown]at e;obtain⟨g,cp,cur,Q,P,ev,rfl,B,Z,X,L,K,ki,kj,s⟩:=Ow.two u (fun{I} c a h=>ag.len c a h) (fun{I J c a} h k=>ag.le h k) (i:=x+1) (j:=a) O O;rw[a1]at ev B;simp only[Value.slice.injEq,bf,Addr.mk.injEq,dZ,fg]at ev;obtain⟨eg,ek⟩:=ev;subst eg;subst ek;refine bJ ?_;refine bG [0,1,2,3,4,5,6,7,8,9,10,11,12,13,14,15,16] [8,12] [] ?_;refine bQ q ?_;refine⟨O,?_⟩;refine Zn (l:=Q) (v:=.agg Q.toArray) rfl (cellsU t (.tail _ (.head _)) (by simpa using ki)) (.inl ⟨by rw[L];exact b9,rfl⟩) ?_;refine bQ q ?_;refine⟨O,?_⟩;refine Zn (l:=P) (v:=.agg P.toArray) rfl (cellsU t (.tail _ (.head _)) (by simpa using kj)) (.inl ⟨by rw[K];exact b9,rfl⟩) ?_;refine bQ q ?_;refine cH t [0] [] [_] rfl gf rfl (cf n _ _ _ _ Z X) ?_;rintro v Jy qs F m⟨rfl,z,rfl,T⟩;simp only[Z3]at F |-;refine bU ?_;apply aN;cases V:aV N[x+1]! N[a]! with
    |true=>rw[V]at T;rw[ab (by simp[V])]at e;apply cE 3;simp only[go_sem,E,T,cL];exact p (x+1) _ _ al (by simp only[go_sem,Y,eT]) ⟨Jy,_,rfl,F,D o m,aw.le u m,R,e⟩
    |false=>rw[V]at T;rw[ah (by simp[V];omega)]at e;apply RG;simp only[go_sem,E,T,dg,p1];exact C x _ _ O al (by simp only[go_sem,Y,eT]) ⟨Jy,_,rfl,F,D o m,aw.le u m,O,e⟩
  rintro j7 H ⟨I7,A7,rfl,a4,a9,cc,c4,b0⟩;simp only[eT];rw[Sort.partLoop_eq,<-b2,<-b0]at aa;have b8:=D bb (D ba a9);by_cases a3:S>j7
  .have aq:decide ((S:Int)>(j7:Int))=true:=bm O;rw[ah a3]at aa;apply cE 8;simp only[go_sem,E,aq];exact ap (S,j7) _ _ al (by simp only[go_sem,Y,eT]) ⟨I7,A7,rfl,a4,b8,by rw[<-aa];exact a1,by rw[<-aa];exact cc,by simp only;omega,by rw[<-aa]⟩
  have aq:decide ((S:Int)>(j7:Int))=false:=ch O;rw[ab a3]at aa;refine bd aq ?_;obtain⟨g,cp,cur,Q,P,ev,rfl,B,Z,X,L,K,ki,kj,s⟩:=Ow.two cc (fun{I} c a h=>ag.len c a h) (fun{I J c a} h k=>ag.le h k) (i:=S) (j:=j7) O O;rw[a1]at ev B;simp only[Value.slice.injEq,bf,Addr.mk.injEq,dZ,fg]at ev;obtain⟨eg,ek⟩:=ev;subst eg;subst ek;have mi:(S+1)*7<=d.size*7:=cv _ O;have mj:(j7+1)*7<=d.size*7:=cv _ O;refine bG [0,1,2,3,4,5,6,7,8,9,10,11,12,13,14,15] [7,11] [] ?_;refine bU ?_;refine⟨O,?_⟩;refine Zn (l:=P) (v:=.agg P.toArray) rfl (cellsU a4 (.tail _ (.head _)) (by simpa using kj)) (.inl ⟨by rw[K];exact b9,rfl⟩) ?_;refine bU ?_;refine⟨O,?_⟩;refine Zn (l:=Q) (v:=.agg Q.toArray) rfl (cellsU a4 (.tail _ (.head _)) (by simpa using ki)) (.inl ⟨by rw[L];exact b9,rfl⟩) ?_;refine bU ?_;refine⟨O,?_⟩;refine cY a4 rfl rfl rfl rfl rfl (dN (ag.ones X)) (by rw[K];exact eM) (by rw[K];omega) fun W=>?_;refine bU ?_;refine⟨O,?_⟩;refine cY W rfl rfl rfl rfl rfl (dN (ag.ones Z)) (by rw[L];exact eM) (by rw[L];simp[eL];omega) fun cA=>?_;apply aN;have c1:=s I7 (aD _);have cl:(Sort.swp N S j7).size=d.size:=(iU _ _ _).trans a1;have w8:IntKind.i64.wrap ((S:Int)+1)=((S+1:Nat):Int):=by have e0:(S:Int)+1=((S+1:Nat):Int):=O;rw[e0];exact wrap64 O
  have w9:IntKind.i64.wrap ((j7:Int)-1)=((j7-1:Nat):Int):=by rw[kr O];omega
  refine d6 w8 w9 ?_;exact an (S+1,j7-1) _ _ bi al (by simp only[go_sem,Y,eT]) ⟨I7,_,_,rfl,cA,b8,cl,c1,by simp only;omega,by simp only;omega,by simp only;omega,aa⟩
 rintro⟨i9,j9⟩ H ⟨I9,A9,rfl,b4,a7,ca,c0,cr,a2⟩;simp only at cr a2;simp only[eT];rw[<-a2];generalize (Sort.partLoop aV a (i+1) (j-1) d4).2=d9 at *;refine bJ ?_;obtain⟨g,cp,cur,Q,P,ev,rfl,B,Z,X,L,K,ki,kj,s⟩:=Ow.two c0 (fun{I} c a h=>ag.len c a h) (fun{I J c a} h k=>ag.le h k) (i:=j9) (j:=a) O O;rw[ca]at ev B;simp only[Value.slice.injEq,bf,Addr.mk.injEq,dZ,fg]at ev;obtain⟨eg,ek⟩:=ev;subst eg;subst ek;have mi:(j9+1)*7<=d.size*7:=cv _ O;have mj:(a+1)*7<=d.size*7:=cv _ O;refine bG [0,1,2,3,4,5,6,7,8,9,10,11,12,13,14,15] [7,11] [] ?_;refine bU ?_;refine⟨O,?_⟩;refine Zn (l:=P) (v:=.agg P.toArray) rfl (cellsU b4 (.tail _ (.head _)) (by simpa using kj)) (.inl ⟨by rw[K];exact b9,rfl⟩) ?_;refine bU ?_;refine⟨O,?_⟩;refine Zn (l:=Q) (v:=.agg Q.toArray) rfl (cellsU b4 (.tail _ (.head _)) (by simpa using ki)) (.inl ⟨by rw[L];exact b9,rfl⟩) ?_;refine bU ?_;refine⟨O,?_⟩;refine cY b4 rfl rfl rfl rfl rfl (dN (ag.ones X)) (by rw[K];exact eM) (by rw[K];omega) fun W=>?_;refine bU ?_;refine⟨O,?_⟩;refine cY W rfl rfl rfl rfl rfl (dN (ag.ones Z)) (by rw[L];exact eM) (by rw[L];simp[eL];omega) fun b6=>?_;apply aN;have b7:=s I9 (aD _);have cm:(Sort.swp d9 j9 a).size=d.size:=(iU _ _ _).trans ca;refine bJ ?_;exact az rfl b6 (r:=[E j9,.bool false]) rfl (D k3 a7) ⟨_,rfl,b7,rfl⟩
def AC:ay prog 284:=⟨_,func284,rfl,rfl⟩
def uh(v a vc:Value)(x:Nat×Nat):St:=⟨dn 220 [(0,.v v),(1,.v a),(4,.v vc),(10,.v (E x.1)),(11,.v (E x.2))],[]⟩
def Cd(v vi:Value)(k:Nat):St:=⟨dn 220 [(0,.v v),(10,.v vi),(13,.v (E k))],[]⟩
def ui(v a vc:Value)(x:Nat×Nat):St:=⟨dn 220 [(0,.v v),(2,.v a),(4,.v vc),(14,.v (E x.1)),(15,.v (E x.2))],[]⟩
def Ce(v vi:Value)(k:Nat):St:=⟨dn 220 [(0,.v v),(14,.v vi),(17,.v (E k))],[]⟩
def mo(v e c vb vc d b a:Value)(x:Nat×Nat):St:=⟨dn 220 [(0,.v v),(1,.v e),(2,.v c),(3,.v vb),(4,.v vc),(18,.v d),(19,.v b),(20,.v (E x.1)),(21,.v (E x.2)),(22,.v a)],[]⟩
def wx(v:Value)(d:Array aI)(a b:Nat):Value->PH->Zt->Prop:=fun _ g f=>∃c e,f=[c]/\bt g c v e.toList/\PermIn a b d e/\SortedIn cT a b e
def yZ(v d vb vc c a b:Value):St:=⟨dn 220 [(0,.v v),(1,.v d),(3,.v vb),(4,.v vc),(18,.v c),(20,.v a),(24,.v b)],[]⟩
def y0(v vb vc b a:Value):St:=⟨dn 220 [(0,.v v),(3,.v vb),(4,.v vc),(18,.v b),(24,.v a)],[]⟩
def CU{C:Cx}{k:List Item}(σ0:St)(Z:PH->Prop){P:Prop}(h1:(∀H,Z H->RC C (.st k) σ0 H)->P)(h:∀H,Z H->RC C (.st k) σ0 H):P:=h1 h
theorem jc.triv[Inhabited α]{m i j:Nat}{d:Array α}(h:i=0\/j=0)(hi:i<=m):jc m i j d d:=fun k=>by
 by_cases h1:m-i<=k/\k<m-i+j
 .rw[ah h1];congr 1;omega
 .rw[ab h1];by_cases h2:m-i+j<=k/\k<m+j
  .rw[ah h2];congr 1;omega
  .rw[ab h2]
theorem XI{d:Array aI}{m:Nat}(hA:bt I A v d.toList)(hc:it bj cT vc)(a0:m=a+1)(a6:m<b)(hb:b<=d.size)(hn:d.size<=ar)(hs:SortedIn cT m b d):
  Zu 284 #[v,E a,E m,E b,vc] I [A] (wx v d a b):=by
 intro hd;unfold ar at hn;obtain⟨f,fst,cap,rfl,gf,cf⟩:=id hc;obtain⟨g0,S,rfl⟩:=Ow.addr hA O;refine aP 220 func284 fun w0=>?_
 try simp only[E]
 have w1:IntKind.i64.wrap ((m:Int)-(a:Int))=1:=by rw[fF O O];omega
 have q1:((1:Int) == 1)=true:=rfl;refine lR w1 q1 ?_;apply gO (fun x=>x.2-x.1) (fun x=>uh (.slice (some ⟨g0,0,none⟩) d.size S) (E a) (.func (.func f) fst cap) x) (fun x H=>∃q B,H=U [q,B]/\Dj [q,B]/\I.le q/\bt q B (.slice (some ⟨g0,0,none⟩) d.size S) d.toList/\m<=x.1/\x.1<=x.2/\x.2<=b/\(x.1=m\/cT d[x.1-1]! d[a]! = true)/\(x.2=b\/cT d[x.2]! d[a]! = false)) (fun x H=>∃q B,H=U [q,B]/\Dj [q,B]/\I.le q/\bt q B (.slice (some ⟨g0,0,none⟩) d.size S) d.toList/\m<=x.1/\x.1<=b/\(x.1=m\/cT d[x.1-1]! d[a]! = true)/\(x.1=b\/cT d[x.1]! d[a]! = false)) (m,b)
 .exact al
 .exact(by simp only[go_sem,Y,uh])
 .exact⟨I,A,rfl,hd,aD _,hA,aR _,by simp only;omega,aR _,.inl rfl,.inl rfl⟩
 .rintro⟨i,j⟩ H ⟨q,B,rfl,u,o,w,hi,an,hj,Q,hr⟩ y K;simp only at hi an hj Q hr;simp only[uh];rcases aK i j with ac|ap
  .have P:=Z5 i j;have a1:(i:Int)+(j:Int)=((i+j:Nat):Int):=O;have a2:=wrap64 (n:=i+j) O;have a3:=wJ (n:=i+j) O;have a4:mn .u64 (((i+j:Nat)):Int) 1=(((i+j) / 2:Nat):Int):=by have:=yK (a:=i+j) (i:=1) O;rw[rg]at this;exact this
   obtain⟨h,eh⟩:∃h,h=(i+j) / 2:=⟨_,rfl⟩;rw[<-eh]at a4;have a5:=wrap64 (n:=h) O;apply RG;simp only[go_sem,E,P,a1,a2,a3,a4,a5];obtain⟨g,cp,cur,ci,cj,ev,rfl,L,ri,rj,V,T,ki,kj,F⟩:=Ow.two w (fun{I} c a h=>bj.len c a h) (fun{I J c a} h k=>bj.le h k) (i:=h) (j:=a) O O;rw[(show d.size=d.size from rfl)]at ev L;simp only[Value.slice.injEq,bf,Addr.mk.injEq,dZ,fg]at ev;obtain⟨eg,ek⟩:=ev;subst eg;subst ek;refine bG [0,1,2,3,4,5,6,7,8,9,10] [4,8] [] ?_;refine bU ?_;refine⟨O,?_⟩;refine Zn (l:=ci) (v:=.agg ci.toArray) rfl (cellsU u (.tail _ (.head _)) (by simpa using ki)) (.inl ⟨by rw[V];exact gh,rfl⟩) ?_;refine bU ?_;refine⟨O,?_⟩;refine Zn (l:=cj) (v:=.agg cj.toArray) rfl (cellsU u (.tail _ (.head _)) (by simpa using kj)) (.inl ⟨by rw[T];exact gh,rfl⟩) ?_;refine bU ?_;refine cH u [0] [] [_] rfl gf rfl (cf q _ _ _ _ ri rj) ?_;rintro v I3 qs p t⟨rfl,z,rfl,hz⟩;simp only[Z3]at p |-;refine bU ?_;apply aN;cases s:cT d[h]! d[a]! with
   |true=>
    rw[s]at hz;have w3:IntKind.i64.wrap ((h:Int)+1)=((h+1:Nat):Int):=by have e0:(h:Int)+1=((h+1:Nat):Int):=O;rw[e0];exact wrap64 O
    refine d6 hz w3 ?_;exact y (h+1,j) _ _ bi al (by simp only[go_sem,Y,uh]) ⟨I3,_,rfl,p,D o t,bt.le w t,by simp only;omega,by simp only;omega,hj,.inr s,hr⟩
   |false=>rw[s]at hz;refine bd hz ?_;exact y (i,h) _ _ bi al (by simp only[go_sem,Y,uh]) ⟨I3,_,rfl,p,D o t,bt.le w t,hi,by simp only;omega,by simp only;omega,Q,.inr s⟩
  .have P:decide ((i:Int)<(j:Int))=false:=ch O;have:i=j:=O;subst this;apply cE 9;simp only[go_sem,E,P];exact K (i,i) _ _ al (by simp only[go_sem,Y,uh]) ⟨q,B,rfl,u,o,w,hi,hj,Q,hr⟩
 rintro⟨i,j⟩ H ⟨q,B,rfl,u,o,w,hi,W,Q,hr⟩;simp only at hi W Q hr;simp only[uh];refine bJ ?_;have w4:IntKind.i64.wrap ((i:Int)-1)=((i-1:Nat):Int):=by rw[kr O];omega
 refine bV (fun k=>i-k) (Cd (.slice (some ⟨g0,0,none⟩) d.size S) (E i)) (fun k H=>∃A3 e,H=U [q,A3]/\Dj [q,A3]/\a<=k/\k<=i-1/\e.size=d.size/\bt q A3 (.slice (some ⟨g0,0,none⟩) d.size S) e.toList/\rz a k d e/\PermIn a b d e) a al (by simp only[go_sem,Y,Cd]) ?_ ?_
 .exact⟨B,d,rfl,u,aR _,O,rfl,w,rz.zero _ _,permIn_refl _ _ _⟩
 rintro k H ⟨A3,e,rfl,p,am,a7,G,aa,Z,X⟩ C;simp only[Cd];rcases aK k (i-1)with ac|ap
 .have N:=Z5 k (i-1);have R:IntKind.i64.wrap ((k:Int)+1)=((k+1:Nat):Int):=by have e0:(k:Int)+1=((k+1:Nat):Int):=O;rw[e0];exact wrap64 O
  refine d6 w4 N ?_;obtain⟨g,cp,cur,ci,cj,ev,rfl,L,ri,rj,V,T,ki,kj,F⟩:=Ow.two aa (fun{I} c a h=>bj.len c a h) (fun{I J c a} h k=>bj.le h k) (i:=k) (j:=k+1) O O;rw[G]at ev L;simp only[Value.slice.injEq,bf,Addr.mk.injEq,dZ,fg]at ev;obtain⟨eg,ek⟩:=ev;subst eg;subst ek;have mi:(k+1)*4<=d.size*4:=cv _ O;have mj:((k+1)+1)*4<=d.size*4:=cv _ O;refine bG [0,1,2,3,4,5,6,7,8,9,10,11,12,13,14,15,16,17] [9,13] [] ?_;refine bQ R ?_;refine⟨O,?_⟩;refine Zn (l:=cj) (v:=.agg cj.toArray) rfl (cellsU p (.tail _ (.head _)) (by simpa using kj)) (.inl ⟨by rw[T];exact gh,rfl⟩) ?_;refine bQ R ?_;refine⟨O,?_⟩;refine Zn (l:=ci) (v:=.agg ci.toArray) rfl (cellsU p (.tail _ (.head _)) (by simpa using ki)) (.inl ⟨by rw[V];exact gh,rfl⟩) ?_;refine bQ R ?_;refine⟨O,?_⟩;refine cY p rfl rfl rfl rfl rfl (dN (bj.ones rj)) (by rw[T];exact pp) (by rw[T];omega) fun aq=>?_;refine bQ R ?_;refine⟨O,?_⟩;refine cY aq rfl rfl rfl rfl rfl (dN (bj.ones ri)) (by rw[V];exact pp) (by rw[V];simp[eL];omega) fun aS=>?_;apply aN;refine bd R ?_;exact C (k+1) _ _ O al (by simp only[go_sem,Y,Cd]) ⟨_,_,rfl,aS,O,O,by rw[iU];exact G,F q (aD _),Z.step G am O,permIn_trans _ _ _ a b X (swp_permIn _ a b _ _ O O O O O)⟩
 .have N:decide ((k:Int)<((i-1:Nat):Int))=false:=ch O;have:k=i-1:=O;subst this;refine d6 w4 N ?_;exact az rfl p (r:=[]) rfl o ⟨A3,e,rfl,aa,X,SJ Cc a0 hs hi W Q hr Z⟩
theorem XJ{d:Array aI}{m:Nat}(hA:bt I A v d.toList)(hc:it bj cT vc)(a7:a+1<m)(ac:b=m+1)(hb:b<=d.size)(hn:d.size<=ar)(hs:SortedIn cT a m d):
  Zu 284 #[v,E a,E m,E b,vc] I [A] (wx v d a b):=by
 intro hd;unfold ar at hn;obtain⟨f,fst,cap,rfl,gf,cf⟩:=id hc;obtain⟨g0,T,rfl⟩:=Ow.addr hA O;refine aP 220 func284 fun w0=>?_
 try simp only[E]
 have w1:IntKind.i64.wrap ((m:Int)-(a:Int))=((m-a:Nat):Int):=by rw[fF O O];omega
 have w2:IntKind.i64.wrap ((b:Int)-(m:Int))=1:=by rw[fF O O];omega
 have q1:(((m-a:Nat):Int) == 1)=false:=by rw[i7];omega
 have q2:((1:Int) == 1)=true:=rfl;apply RG;simp only[go_sem,w1,w2,q1,q2];apply gO (fun x=>x.2-x.1) (fun x=>ui (.slice (some ⟨g0,0,none⟩) d.size T) (E m) (.func (.func f) fst cap) x) (fun x H=>∃q B,H=U [q,B]/\Dj [q,B]/\I.le q/\bt q B (.slice (some ⟨g0,0,none⟩) d.size T) d.toList/\a<=x.1/\x.1<=x.2/\x.2<=m/\(x.1=a\/cT d[m]! d[x.1-1]! = false)/\(x.2=m\/cT d[m]! d[x.2]! = true)) (fun x H=>∃q B,H=U [q,B]/\Dj [q,B]/\I.le q/\bt q B (.slice (some ⟨g0,0,none⟩) d.size T) d.toList/\a<=x.1/\x.1<=m/\(x.1=a\/cT d[m]! d[x.1-1]! = false)/\(x.1=m\/cT d[m]! d[x.1]! = true)) (a,m)
 .exact al
 .exact(by simp only[go_sem,Y,ui])
 .exact⟨I,A,rfl,hd,aD _,hA,aR _,by simp only;omega,aR _,.inl rfl,.inl rfl⟩
 .rintro⟨i,j⟩ H ⟨q,B,rfl,u,o,w,hi,ap,hj,R,hr⟩ y L;simp only at hi ap hj R hr;simp only[ui];rcases aK i j with am|aq
  .have Q:=Z5 i j;have a1:(i:Int)+(j:Int)=((i+j:Nat):Int):=O;have a2:=wrap64 (n:=i+j) O;have a3:=wJ (n:=i+j) O;have a4:mn .u64 (((i+j:Nat)):Int) 1=(((i+j) / 2:Nat):Int):=by have:=yK (a:=i+j) (i:=1) O;rw[rg]at this;exact this
   obtain⟨h,eh⟩:∃h,h=(i+j) / 2:=⟨_,rfl⟩;rw[<-eh]at a4;have a5:=wrap64 (n:=h) O;apply RG;simp only[go_sem,E,Q,a1,a2,a3,a4,a5];obtain⟨g,cp,cur,ci,cj,ev,rfl,N,ri,rj,W,V,ki,kj,F⟩:=Ow.two w (fun{I} c a h=>bj.len c a h) (fun{I J c a} h k=>bj.le h k) (i:=m) (j:=h) O O;rw[(show d.size=d.size from rfl)]at ev N;simp only[Value.slice.injEq,bf,Addr.mk.injEq,dZ,fg]at ev;obtain⟨eg,ek⟩:=ev;subst eg;subst ek;refine bG [0,1,2,3,4,5,6,7,8,9,10,11] [4,8] [] ?_;refine bU ?_;refine⟨O,?_⟩;refine Zn (l:=ci) (v:=.agg ci.toArray) rfl (cellsU u (.tail _ (.head _)) (by simpa using ki)) (.inl ⟨by rw[W];exact gh,rfl⟩) ?_;refine bU ?_;refine⟨O,?_⟩;refine Zn (l:=cj) (v:=.agg cj.toArray) rfl (cellsU u (.tail _ (.head _)) (by simpa using kj)) (.inl ⟨by rw[V];exact gh,rfl⟩) ?_;refine bU ?_;refine cH u [0] [] [_] rfl gf rfl (cf q _ _ _ _ ri rj) ?_;rintro v I3 qs p t⟨rfl,z,rfl,hz⟩;simp only[Z3]at p |-;refine bU ?_;apply aN;cases s:cT d[m]! d[h]! with
   |false=>
    rw[s]at hz;have w3:IntKind.i64.wrap ((h:Int)+1)=((h+1:Nat):Int):=by have e0:(h:Int)+1=((h+1:Nat):Int):=O;rw[e0];exact wrap64 O
    apply RG;simp only[go_sem,E,hz,dg,w3];exact y (h+1,j) _ _ bi al (by simp only[go_sem,Y,ui]) ⟨I3,_,rfl,p,D o t,bt.le w t,by simp only;omega,by simp only;omega,hj,.inr s,hr⟩
   |true=>rw[s]at hz;apply RG;simp only[go_sem,E,hz,cL];exact y (i,h) _ _ bi al (by simp only[go_sem,Y,ui]) ⟨I3,_,rfl,p,D o t,bt.le w t,hi,by simp only;omega,by simp only;omega,R,.inr s⟩
  .have Q:decide ((i:Int)<(j:Int))=false:=ch O;have:i=j:=O;subst this;apply cE 9;simp only[go_sem,E,Q];exact L (i,i) _ _ al (by simp only[go_sem,Y,ui]) ⟨q,B,rfl,u,o,w,hi,hj,R,hr⟩
 rintro⟨i,j⟩ H ⟨q,B,rfl,u,o,w,hi,K,R,hr⟩;simp only at hi K R hr;simp only[ui];refine bJ ?_;refine bV (fun k=>k) (Ce (.slice (some ⟨g0,0,none⟩) d.size T) (E i)) (fun k H=>∃A3 e,H=U [q,A3]/\Dj [q,A3]/\i<=k/\k<=m/\e.size=d.size/\bt q A3 (.slice (some ⟨g0,0,none⟩) d.size T) e.toList/\ry m k d e/\PermIn a b d e) m al (by simp only[go_sem,Y,Ce]) ?_ ?_
 .exact⟨B,d,rfl,u,K,aR _,rfl,w,ry.zero _ _,permIn_refl _ _ _⟩
 rintro k H ⟨A3,e,rfl,p,a6,an,G,aa,Z,X⟩ C;simp only[Ce];rcases aK i k with am|aq
 .obtain⟨k,rfl⟩:∃k',k=k'+1:=⟨k-1,O⟩;have P:decide (((k+1:Nat):Int)>(i:Int))=true:=bm O;have S:=pA (j:=k) O;refine bd P ?_;obtain⟨g,cp,cur,ci,cj,ev,rfl,N,ri,rj,W,V,ki,kj,F⟩:=Ow.two aa (fun{I} c a h=>bj.len c a h) (fun{I J c a} h k=>bj.le h k) (i:=k+1) (j:=k) O O;rw[G]at ev N;simp only[Value.slice.injEq,bf,Addr.mk.injEq,dZ,fg]at ev;obtain⟨eg,ek⟩:=ev;subst eg;subst ek;have mi:((k+1)+1)*4<=d.size*4:=cv _ O;have mj:(k+1)*4<=d.size*4:=cv _ O;refine bG [0,1,2,3,4,5,6,7,8,9,10,11,12,13,14,15,16,17] [9,13] [] ?_;refine bQ S ?_;refine⟨O,?_⟩;refine Zn (l:=cj) (v:=.agg cj.toArray) rfl (cellsU p (.tail _ (.head _)) (by simpa using kj)) (.inl ⟨by rw[V];exact gh,rfl⟩) ?_;refine bQ S ?_;refine⟨O,?_⟩;refine Zn (l:=ci) (v:=.agg ci.toArray) rfl (cellsU p (.tail _ (.head _)) (by simpa using ki)) (.inl ⟨by rw[W];exact gh,rfl⟩) ?_;refine bQ S ?_;refine⟨O,?_⟩;refine cY p rfl rfl rfl rfl rfl (dN (bj.ones rj)) (by rw[V];exact pp) (by rw[V];omega) fun aS=>?_;refine bQ S ?_;refine⟨O,?_⟩;refine cY aS rfl rfl rfl rfl rfl (dN (bj.ones ri)) (by rw[W];exact pp) (by rw[W];simp[eL];omega) fun a0=>?_;apply aN;refine bd S ?_;exact C k _ _ O al (by simp only[go_sem,Y,Ce]) ⟨_,_,rfl,a0,O,O,by rw[iU];exact G,F q (aD _),Z.step G an O,permIn_trans _ _ _ a b X (swp_permIn _ a b _ _ O O O O O)⟩
 .have P:decide ((k:Int)>(i:Int))=false:=ch O;have:k=i:=O;subst this;refine bd P ?_;exact az rfl p (r:=[]) rfl o ⟨A3,e,rfl,aa,X,SF Cc ac hs hi K R hr Z⟩
theorem L6:∀(N:Nat) {I A:PH} {v vc:Value} {d:Array aI} {a m b:Nat},b-a<N->bt I A v d.toList->it bj cT vc->a<m->m<b->b<=d.size->d.size<=ar->SortedIn cT a m d->SortedIn cT m b d->
  Zu 284 #[v,E a,E m,E b,vc] I [A] (wx v d a b):=by
 intro N
 induction N with
 |zero=>intro I A v vc d a m b h;omega
 |succ N ih=>
 intro I A v vc d a m b hN hA hc cn b7 hb hn b0 bx;by_cases c1:m=a+1
 .exact XI hA hc c1 b7 hb hn bx
 by_cases c2:b=m+1
 .exact XJ hA hc O c2 hb hn b0
 intro hd;have cb:=hn;unfold ar at cb;obtain⟨f,fst,cap,rfl,gf,cf⟩:=id hc;obtain⟨g0,vk,rfl⟩:=Ow.addr hA O;refine aP 220 func284 fun w0=>?_
 try simp only[E]
 have w1:IntKind.i64.wrap ((m:Int)-(a:Int))=((m-a:Nat):Int):=by rw[fF O O];omega
 have w2:IntKind.i64.wrap ((b:Int)-(m:Int))=((b-m:Nat):Int):=by rw[fF O O];omega
 have q1:(((m-a:Nat):Int) == 1)=false:=by rw[i7];omega
 have q2:(((b-m:Nat):Int) == 1)=false:=by rw[i7];omega
 have a1:(a:Int)+(b:Int)=((a+b:Nat):Int):=O;have a2:=wrap64 (n:=a+b) O;have a3:=wJ (n:=a+b) O;have a4:mn .u64 (((a+b:Nat)):Int) 1=(((a+b) / 2:Nat):Int):=by have:=yK (a:=a+b) (i:=1) O;rw[rg]at this;exact this
 obtain⟨o,emid⟩:∃o,o=(a+b) / 2:=⟨_,rfl⟩;rw[<-emid]at a4;have a5:=wrap64 (n:=o) O;have w3:IntKind.i64.wrap ((o:Int)+(m:Int))=((o+m:Nat):Int):=by have e0:(o:Int)+(m:Int)=((o+m:Nat):Int):=O;rw[e0];exact wrap64 O
 have w4:IntKind.i64.wrap (((o+m:Nat):Int)-1)=((o+m-1:Nat):Int):=by have e0:((o+m:Nat):Int)-1=((o+m-1:Nat):Int):=O;rw[e0];exact wrap64 O
 obtain⟨S,T,c0,c5⟩:∃S T,(m>o/\S=o+m-b\/m<=o/\S=a)/\(m>o/\T=o\/m<=o/\T=m):=by
  rcases aK o m with h|h
  .exact⟨o+m-b,o,.inl ⟨h,rfl⟩,.inl ⟨h,rfl⟩⟩
  .exact⟨a,m,.inr ⟨h,rfl⟩,.inr ⟨h,rfl⟩⟩
 have aS:S<=T/\a<=S/\T<=m/\T<=o/\o+m-S<=b:=O;apply CU (mo (.slice (some ⟨g0,0,none⟩) d.size vk) (E a) (E m) (E b) (.func (.func f) fst cap) (E o) (E (o+m)) (E (o+m-1)) (S,T)) (fun H=>H=U [I,A])
 .intro t;rcases aK o m with cc|cc
  .have aq:decide ((m:Int)>(o:Int))=true:=bm O;have es:S=o+m-b:=O;have er:T=o:=O;have w5:IntKind.i64.wrap (((o+m:Nat):Int)-(b:Int))=((o+m-b:Nat):Int):=by rw[fF O O];omega
   apply cE 67;simp only[go_sem,w1,w2,q1,q2,a1,a2,a3,a4,a5,w3,w4,aq,w5];refine gP ?_ ?_ (t _ rfl)
   .simp only[mo];rw[es,er];exact al
   .exact(by simp only[go_sem,Y,mo])
  .have aq:decide ((m:Int)>(o:Int))=false:=ch O;have es:S=a:=O;have er:T=m:=O;apply cE 65;simp only[go_sem,w1,w2,q1,q2,a1,a2,a3,a4,a5,w3,w4,aq];refine gP ?_ ?_ (t _ rfl)
   .simp only[mo];rw[es,er];exact al
   .exact(by simp only[go_sem,Y,mo])
 rintro H rfl;simp only[mo];refine bJ ?_;apply gO (fun x=>x.2-x.1) (fun x=>mo (.slice (some ⟨g0,0,none⟩) d.size vk) (E a) (E m) (E b) (.func (.func f) fst cap) (E o) (E (o+m)) (E (o+m-1)) x) (fun x H=>∃R Z,H=U [R,Z]/\Dj [R,Z]/\I.le R/\bt R Z (.slice (some ⟨g0,0,none⟩) d.size vk) d.toList/\S<=x.1/\x.1<=x.2/\x.2<=T/\(x.1=S\/cT d[o+m-x.1]! d[x.1-1]! = false)/\(x.2=T\/cT d[o+m-x.2-1]! d[x.2]! = true)) (fun x H=>∃R Z,H=U [R,Z]/\Dj [R,Z]/\I.le R/\bt R Z (.slice (some ⟨g0,0,none⟩) d.size vk) d.toList/\S<=x.1/\x.1<=T/\(x.1=S\/cT d[o+m-x.1]! d[x.1-1]! = false)/\(x.1=T\/cT d[o+m-x.1-1]! d[x.1]! = true)) (S,T)
 .exact al
 .exact(by simp only[go_sem,Y,mo])
 .exact⟨I,A,rfl,hd,aD _,hA,aR _,aS.1,aR _,.inl rfl,.inl rfl⟩
 .rintro⟨i,j⟩ H ⟨R,Z,rfl,F,w,G,hi,cl,hj,hl,hr⟩ aa a0;simp only at hi cl hj hl hr;simp only[mo];rcases aK i j with c6|c7
  .have ap:=Z5 i j;have b1:(i:Int)+(j:Int)=((i+j:Nat):Int):=O;have b2:=wrap64 (n:=i+j) O;have b3:=wJ (n:=i+j) O;have b4:mn .u64 (((i+j:Nat)):Int) 1=(((i+j) / 2:Nat):Int):=by have:=yK (a:=i+j) (i:=1) O;rw[rg]at this;exact this
   obtain⟨h,eh⟩:∃h,h=(i+j) / 2:=⟨_,rfl⟩;rw[<-eh]at b4;have b5:=wrap64 (n:=h) O;have w7:IntKind.i64.wrap (((o+m-1:Nat):Int)-(h:Int))=((o+m-1-h:Nat):Int):=by rw[fF O O];omega
   apply RG;simp only[go_sem,E,ap,b1,b2,b3,b4,b5];obtain⟨g,cp,cur,ci,cj,ev,rfl,cm,ri,rj,li,lj,ki,kj,ca⟩:=Ow.two G (fun{I} c a h=>bj.len c a h) (fun{I J c a} h k=>bj.le h k) (i:=o+m-1-h) (j:=h) O O;rw[(show d.size=d.size from rfl)]at ev cm;simp only[Value.slice.injEq,bf,Addr.mk.injEq,dZ,fg]at ev;obtain⟨eg,ek⟩:=ev;subst eg;subst ek;refine bG [0,1,2,3,4,5,6,7,8,9,10,11,12,13] [6,10] [] ?_;refine bQ w7 ?_;refine⟨O,?_⟩;refine Zn (l:=ci) (v:=.agg ci.toArray) rfl (cellsU F (.tail _ (.head _)) (by simpa using ki)) (.inl ⟨by rw[li];exact gh,rfl⟩) ?_;refine bQ w7 ?_;refine⟨O,?_⟩;refine Zn (l:=cj) (v:=.agg cj.toArray) rfl (cellsU F (.tail _ (.head _)) (by simpa using kj)) (.inl ⟨by rw[lj];exact gh,rfl⟩) ?_;refine bQ w7 ?_;refine cH F [0] [] [_] rfl gf rfl (cf R _ _ _ _ ri rj) ?_;rintro v I3 qs B u⟨rfl,z,rfl,hz⟩;simp only[Z3]at B |-;refine bU ?_;apply aN;cases V:cT d[o+m-1-h]! d[h]! with
   |false=>
    rw[V]at hz;have w8:IntKind.i64.wrap ((h:Int)+1)=((h+1:Nat):Int):=by have e0:(h:Int)+1=((h+1:Nat):Int):=O;rw[e0];exact wrap64 O
    apply RG;simp only[go_sem,E,hz,dg,w8];exact aa (h+1,j) _ _ bi al (by simp only[go_sem,Y,mo]) ⟨I3,_,rfl,B,D w u,bt.le G u,by simp only;omega,by simp only;omega,hj,.inr (by simp only;rw[show o+m-(h+1)=o+m-1-h by omega];exact V),hr⟩
   |true=>rw[V]at hz;apply RG;simp only[go_sem,E,hz,cL];exact aa (i,h) _ _ bi al (by simp only[go_sem,Y,mo]) ⟨I3,_,rfl,B,D w u,bt.le G u,hi,by simp only;omega,by simp only;omega,hl,.inr (by simp only;rw[show o+m-h-1=o+m-1-h by omega];exact V)⟩
  .have ap:decide ((i:Int)<(j:Int))=false:=ch O;have:i=j:=O;subst this;apply cE 9;simp only[go_sem,E,ap];exact a0 (i,i) _ _ al (by simp only[go_sem,Y,mo]) ⟨R,Z,rfl,F,w,G,hi,hj,hl,hr⟩
 rintro⟨s,j⟩ H ⟨R,Z,rfl,F,w,G,hi,hj,hl,hr⟩;simp only at hi hj hl hr;simp only[mo];have ba:a<=s/\s<=m/\s<=o/\m<=o+m-s/\o+m-s<=b/\o<=o+m-s:=O;have w9:IntKind.i64.wrap (((o+m:Nat):Int)-(s:Int))=((o+m-s:Nat):Int):=by rw[fF O O];omega
 obtain⟨z,ez⟩:∃z,z=o+m-s:=⟨_,rfl⟩;rw[<-ez]at w9 hl hr ba;apply CU (yZ (.slice (some ⟨g0,0,none⟩) d.size vk) (E a) (E b) (.func (.func f) fst cap) (E o) (E s) (E z)) (fun H=>∃I3 A3 e,H=U [I3,A3]/\Dj [I3,A3]/\I.le I3/\bt I3 A3 (.slice (some ⟨g0,0,none⟩) d.size vk) e.toList/\PermIn a b d e/\jc m (m-s) (z-m) d e)
 .intro t;by_cases c3:s<m/\m<z
  .have P:=Z5 s m;have an:=Z5 m z;refine nB w9 P an ?_;refine av F [0] [Z] [] rfl Rl rfl (Wv (a:=s) (m:=m) (b:=z) G c3.1 c3.2 O hn) ?_;rintro v I3 qs B u⟨A3,e,rfl,a7,X,bc⟩;simp only[Z3]at B |-;apply cE 1;simp only[go_sem,E];refine gP ?_ ?_ (t _ ⟨I3,A3,e,rfl,B,D w u,a7,permIn_mono _ _ s z a b O O hb X,bc⟩)
   .exact al
   .exact(by simp only[go_sem,Y,yZ])
  .have b6:m-s=0\/z-m=0:=by omega
   rcases aK s m with c4|c4
   .have P:=Z5 s m;have an:decide ((m:Int)<(z:Int))=false:=ch O;apply cE 21;simp only[go_sem,E,w9,P,an];refine gP ?_ ?_ (t _ ⟨R,Z,d,rfl,F,w,G,permIn_refl _ _ _,jc.triv b6 O⟩)
    .exact al
    .exact(by simp only[go_sem,Y,yZ])
   .have P:decide ((s:Int)<(m:Int))=false:=ch O;apply cE 21;simp only[go_sem,E,w9,P];refine gP ?_ ?_ (t _ ⟨R,Z,d,rfl,F,w,G,permIn_refl _ _ _,jc.triv b6 O⟩)
    .exact al
    .exact(by simp only[go_sem,Y,yZ])
 rintro H ⟨I3,A3,e,rfl,B,u,a7,X,bc⟩;have cA:=X.1;rw[ez]at bc hl hr;obtain⟨y1,y2,y3,y4,y5⟩:=XK Cc (lM cn) (lM b7) b0 bx emid ba.1 ba.2.1 ba.2.2.1 O O ⟨fun hm=>by
  rcases hl with h|h
  .exact .inl O
  .exact .inr (.inr h),fun hm=>by
  rcases hl with h|h
  .exact .inl O
  .exact .inr h⟩ (by
  rcases hr with h|h
  .refine .inl ?_;split<;>omega
  .exact .inr h) bc
 rw[<-ez]at y3 y4;simp only[yZ];apply CU (y0 (.slice (some ⟨g0,0,none⟩) d.size vk) (E b) (.func (.func f) fst cap) (E o) (E z)) (fun H=>∃I4 A4 e2,H=U [I4,A4]/\Dj [I4,A4]/\I.le I4/\bt I4 A4 (.slice (some ⟨g0,0,none⟩) d.size vk) e2.toList/\PermIn a o e e2/\SortedIn cT a o e2)
 .intro t;by_cases c3:a<s/\s<o
  .have L:=Z5 a s;have am:=Z5 s o;refine d6 L am ?_;refine av B [0] [A3] [] rfl AC rfl (ih (a:=a) (m:=s) (b:=o) O a7 hc c3.1 c3.2 O O y1 y2) ?_;rintro v I4 qs W C⟨A4,e2,rfl,a6,Q,bb⟩;simp only[Z3]at W |-;apply cE 1;simp only[go_sem,E];refine gP ?_ ?_ (t _ ⟨I4,A4,e2,rfl,W,D u C,a6,Q,bb⟩)
   .exact al
   .exact(by simp only[go_sem,Y,y0])
  .have a9:SortedIn cT a o e:=by
    rcases aK a s with h|h
    .have:s=o:=by omega
     rw[<-this];exact y1
    .have:s=a:=by omega
     rw[<-this];exact y2
   rcases aK a s with c4|c4
   .have L:=Z5 a s;have am:decide ((s:Int)<(o:Int))=false:=ch O;apply cE 14;simp only[go_sem,E,L,am];refine gP ?_ ?_ (t _ ⟨I3,A3,e,rfl,B,u,a7,permIn_refl _ _ _,a9⟩)
    .exact al
    .exact(by simp only[go_sem,Y,y0])
   .have L:decide ((a:Int)<(s:Int))=false:=ch O;apply cE 14;simp only[go_sem,E,L];refine gP ?_ ?_ (t _ ⟨I3,A3,e,rfl,B,u,a7,permIn_refl _ _ _,a9⟩)
    .exact al
    .exact(by simp only[go_sem,Y,y0])
 rintro H ⟨I4,A4,e2,rfl,W,C,a6,Q,bb⟩;have cy:=Q.1;simp only[y0];have tr:∀x y,o<=x->SortedIn cT x y e->SortedIn cT x y e2:=fun x y hx h i j h1 h2 h3=>by rw[Q.2.1 i (.inr O),Q.2.1 j (.inr O)];exact h i j h1 h2 h3
 by_cases c3:o<z/\z<b
 .have K:=Z5 o z;have ac:=Z5 z b;refine d6 K ac ?_;refine av W [0] [A4] [] rfl AC rfl (ih (a:=o) (m:=z) (b:=b) O a6 hc c3.1 c3.2 O O (tr _ _ (aR _) y3) (tr _ _ O y4)) ?_;rintro v I5 qs b8 bs⟨A5,e3,rfl,cx,cs,cr⟩;simp only[Z3]at b8 |-;refine bJ ?_;obtain⟨p,q⟩:=L7 O O O y5 Q bb cs cr;exact jX rfl b8 (r:=[]) rfl (D C bs) ⟨A5,e3,rfl,cx,permIn_trans _ _ _ a b X p,q⟩
 .have a9:SortedIn cT o b e2:=by
   rcases aK o z with h|h
   .have:z=b:=by omega
    rw[<-this];exact tr _ _ (aR _) y3
   .have:z=o:=by omega
    exact tr _ _ (aR _) (this▸y4)
  obtain⟨p,q⟩:=L7 O O O y5 Q bb (permIn_refl _ _ _) a9;rcases aK o z with c4|c4
  .have K:=Z5 o z;have ac:decide ((z:Int)<(b:Int))=false:=ch O;refine d6 K ac ?_;exact jX rfl W (r:=[]) rfl C ⟨A4,e2,rfl,a6,permIn_trans _ _ _ a b X p,q⟩
  .have K:decide ((o:Int)<(z:Int))=false:=ch O;refine bd K ?_;exact jX rfl W (r:=[]) rfl C ⟨A4,e2,rfl,a6,permIn_trans _ _ _ a b X p,q⟩
def QY:ay prog 235:=⟨_,func235,rfl,rfl⟩
def QG:ay prog 167:=⟨_,func167,rfl,rfl⟩
def Jm{d:Array aI}(h:bt I A v d.toList)(g:it bj cT vc)(c:a<=b)(hb:b<=d.size)(e:d.size<=ar):
  Zu 283 #[v,E a,E b,vc] I [A] (wx v d a b):=
 (SD h g hb e O).mono fun r k j f ⟨i,e1,e2⟩=>⟨i,_,e1,e2,Sort.insertionSort_holds Cc d a b c hb⟩
def wn(v b vc:Value)(a:Nat):St:=⟨dn 63 [(0,.v v),(1,.v b),(2,.v vc),(6,.v (.int .i64 20)),(7,.v (E a)),(8,.v (E (a+20)))],[]⟩
def yI(v a vc:Value)(s:Nat):St:=⟨dn 63 [(0,.v v),(1,.v a),(2,.v vc),(6,.v (E s))],[]⟩
def wo(v b vc:Value)(s a:Nat):St:=⟨dn 63 [(0,.v v),(1,.v b),(2,.v vc),(6,.v (E s)),(7,.v (E a)),(8,.v (E (a+2*s)))],[]⟩
def Cz(h:a+b<2^62):IntKind.i64.wrap ((a:Int)+(b:Int))=((a+b:Nat):Int):=by rw[<-wrap64 h];congr 1<;>omega
def YU{s:Nat}(h:2*s<2^62):IntKind.i64.wrap (2*(s:Int))=((2*s:Nat):Int):=by rw[<-wrap64 h];congr 1<;>omega
def YV{s:Nat}(h:2*s<2^62):IntKind.i64.wrap ((s:Int)*2)=((2*s:Nat):Int):=by rw[<-wrap64 h];congr 1<;>omega
theorem Xv{d:Array aI}(hA:bt I A v d.toList)(hc:it bj cT vc)(hn:d.size<=ar):
  Zu 235 #[v,E d.size,vc] I [A] (wx v d 0 d.size):=by
 intro hd;have bc:=hn;unfold ar at bc;obtain⟨f,fst,cap,rfl,gf,cf⟩:=id hc;obtain⟨va,vk,rfl⟩:=Ow.one' hA;refine aP 63 func235 fun w0=>?_
 try simp only[E]
 refine ai ?_;apply gO (fun a=>d.size-a) (fun a=>wn (.slice va d.size vk) (E d.size) (.func (.func f) fst cap) a) (fun a H=>∃q F G e,H=U [F,G]/\Dj [F,G]/\I.le F/\bt F G (.slice va d.size vk) e.toList/\PermIn 0 d.size d e/\a=20*q/\a<=d.size/\gR cT 20 a e) (fun a H=>∃q F G e,H=U [F,G]/\Dj [F,G]/\I.le F/\bt F G (.slice va d.size vk) e.toList/\PermIn 0 d.size d e/\a=20*q/\a<=d.size/\d.size<a+20/\gR cT 20 a e) 0
 .exact al
 .exact(by simp only[go_sem,Y,wn])
 .exact⟨0,I,A,d,rfl,hd,aD _,hA,permIn_refl _ _ _,rfl,aE _,gR.zero _ _⟩
 .rintro a H ⟨q,F,G,e,rfl,R,p,X,z,c,w,V⟩ g an;have bb:=z.1;simp only[wn];rcases aK d.size (a+20)with i|u
  .have a5:decide (((a+20:Nat):Int)<=(d.size:Int))=false:=ch O;apply cE 9;simp only[go_sem,E,a5];exact an a _ _ al (by simp only[go_sem,Y,wn]) ⟨q,F,G,e,rfl,R,p,X,z,c,w,i,V⟩
  .have a5:decide (((a+20:Nat):Int)<=(d.size:Int))=true:=bm O;have w1:IntKind.i64.wrap (((a+20:Nat):Int)+20)=((a+20+20:Nat):Int):=Cz (b:=20) O;refine bd a5 ?_;refine av R [0] [G] [] rfl IW rfl (Jm (a:=a) (b:=a+20) X hc O O O) ?_;rintro v I3 qs Q L⟨A3,e3,rfl,a1,x,ap⟩;simp only[Z3]at Q |-;refine bd w1 ?_;subst c;exact g (20*q+20) _ _ O al (by simp only[go_sem,Y,wn]) ⟨q+1,I3,A3,e3,rfl,Q,D p L,a1,permIn_trans _ _ _ 0 d.size z (permIn_mono _ _ (20*q) (20*q+20) 0 d.size O u O x),O,u,V.step O (aR _) x ap⟩
 rintro a H ⟨q,F,G,e,rfl,R,p,X,z,c,w,i,V⟩;have bb:=z.1;simp only[wn];refine bJ ?_;refine av R [0] [G] [] rfl IW rfl (Jm (a:=a) (b:=d.size) X hc O O O) ?_;rintro v I3 qs Q L⟨A3,e3,rfl,a1,x,ap⟩;simp only[Z3]at Q |-;refine bJ ?_;subst c;have b1:gR cT 20 d.size e3:=V.step O O x ap;have aS:=permIn_trans _ _ _ 0 d.size z (permIn_mono _ _ (20*q) d.size 0 d.size O (aR _) O x);clear V x ap X R i w;have k3:=D p L;refine bV (fun s=>d.size-s) (fun s=>yI (.slice va d.size vk) (E d.size) (.func (.func f) fst cap) s) (fun s H=>∃I4 A4 e4,H=U [I4,A4]/\Dj [I4,A4]/\I.le I4/\bt I4 A4 (.slice va d.size vk) e4.toList/\PermIn 0 d.size d e4/\0<s/\gR cT s d.size e4) 20 al (by simp only[go_sem,Y,yI]) ?_ ?_
 .exact⟨I3,A3,e3,rfl,Q,k3,a1,aS,O,b1⟩
 rintro s H ⟨I4,A4,e4,rfl,a6,am,a9,aq,J,a7⟩ g;have b2:=aq.1;simp only[yI];rcases aK s d.size with b3|b0
 rotate_left
 .have a4:decide ((s:Int)<(d.size:Int))=false:=ch O;refine bd a4 ?_;exact jX rfl a6 (r:=[]) rfl am ⟨A4,e4,rfl,a9,aq,a7.all b0⟩
 have a4:=Z5 s d.size;have w2:=YU (s:=s) O;have w3:=YV (s:=s) O;refine d6 a4 w2 ?_;apply gO (fun a=>d.size-a) (fun a=>wo (.slice va d.size vk) (E d.size) (.func (.func f) fst cap) s a) (fun a H=>∃q B C t,H=U [B,C]/\Dj [B,C]/\I.le B/\bt B C (.slice va d.size vk) t.toList/\PermIn 0 d.size d t/\a=2*s*q/\a<=d.size/\gR cT (2*s) a t/\rL cT s a d.size t) (fun a H=>∃q B C t,H=U [B,C]/\Dj [B,C]/\I.le B/\bt B C (.slice va d.size vk) t.toList/\PermIn 0 d.size d t/\a=2*s*q/\a<=d.size/\d.size<a+2*s/\gR cT (2*s) a t/\rL cT s a d.size t) 0
 .exact(fE (by simp only[go_sem,Y,E,g8]))
 .exact(by simp only[go_sem,Y,wo])
 .exact⟨0,I4,A4,e4,rfl,a6,am,a9,aq,by simp,aE _,gR.zero _ _,a7.runs⟩
 .rintro a H ⟨q,B,C,t,rfl,P,h,W,o,c,w,j,n⟩ aa ac;have ba:=o.1;have p1:s*(2*q)=a:=by rw[c,Nat.mul_left_comm,Nat.mul_assoc]
  have p2:s*(2*q+1)=a+s:=by rw[Nat.mul_add,Nat.mul_one,p1]
  simp only[wo];rcases aK d.size (a+2*s)with i|u
  .have a3:decide (((a+2*s:Nat):Int)<=(d.size:Int))=false:=ch O;apply cE 9;simp only[go_sem,E,a3];exact ac a _ _ al (by simp only[go_sem,Y,wo]) ⟨q,B,C,t,rfl,P,h,W,o,c,w,i,j,n⟩
  .have a3:decide (((a+2*s:Nat):Int)<=(d.size:Int))=true:=bm O;have w4:=Cz (a:=a) (b:=s) O;have w5:=Cz (a:=a+2*s) (b:=2*s) O;have Z:=n.at' J O (y:=a+s) (q:=2*q) O O;have y2:=n.at' J O (y:=a+2*s) (q:=2*q+1) O u;rw[p1]at Z;rw[p2]at y2;refine d6 a3 w4 ?_;refine av P [0] [C] [] rfl AC rfl (L6 (a+2*s-a+1) (a:=a) (m:=a+s) (b:=a+2*s) O W hc O O O O Z y2) ?_;rintro v I6 qs N K⟨A6,e6,rfl,a0,l,S⟩;simp only[Z3]at N |-;refine d6 w2 w5 ?_;have T:gR cT (2*s) (a+2*s) e6:=by rw[c]at j l S |-;exact j.step O (aR _) l S
   exact aa (a+2*s) _ _ O al (by simp only[go_sem,Y,wo]) ⟨q+1,I6,A6,e6,rfl,N,D h K,a0,permIn_trans _ _ _ 0 d.size o (permIn_mono _ _ a (a+2*s) 0 d.size O u O l),by rw[Nat.mul_add,Nat.mul_one,<-c],u,T,n.keep O fun k hk=>l.2.1 k (.inr hk)⟩
 rintro a H ⟨q,B,C,t,rfl,P,h,W,o,c,w,i,j,n⟩;have ba:=o.1;have p1:s*(2*q)=a:=by rw[c,Nat.mul_left_comm,Nat.mul_assoc]
 have p2:s*(2*q+1)=a+s:=by rw[Nat.mul_add,Nat.mul_one,p1]
 have w4:=Cz (a:=a) (b:=s) O;simp only[wo];rcases aK (a+s) d.size with bs|bx
 .have a2:=Z5 (a+s) d.size;have Z:=n.at' J O (y:=a+s) (q:=2*q) O O;have y2:=n.at' J O (y:=d.size) (q:=2*q+1) O (aR _);rw[p1]at Z;rw[p2]at y2;refine d6 w4 a2 ?_;refine av P [0] [C] [] rfl AC rfl (L6 (d.size-a+1) (a:=a) (m:=a+s) (b:=d.size) O W hc O O O O Z y2) ?_;rintro v I6 qs N K⟨A6,e6,rfl,a0,l,S⟩;simp only[Z3]at N |-;refine bd w3 ?_;have T:gR cT (2*s) d.size e6:=by rw[c]at j l S i;exact j.step O O l S
  exact g (2*s) _ _ O al (by simp only[go_sem,Y,yI]) ⟨I6,A6,e6,rfl,N,D h K,a0,permIn_trans _ _ _ 0 d.size o (permIn_mono _ _ a d.size 0 d.size O (aR _) O l),O,T⟩
 .have a2:decide (((a+s:Nat):Int)<(d.size:Int))=false:=ch O;have Z:=n.at' J O (y:=d.size) (q:=2*q) O (aR _);rw[p1]at Z;refine nB w4 a2 w3 ?_;have T:gR cT (2*s) d.size t:=by rw[c]at j Z i;exact j.rest O Z O
  exact g (2*s) _ _ O al (by simp only[go_sem,Y,yI]) ⟨B,C,t,rfl,P,h,W,o,O,T⟩
def Xa{d:Array aI}(i:bt I A v d.toList)(h:it bj cT vc)(k:d.size<=ar):
  Zu 167 #[v,vc] I [A] (wx v d 0 d.size):=by
 intro hd;obtain⟨f,fst,cap,rfl,p,q⟩:=id h;obtain⟨n,m,rfl⟩:=Ow.one' i;refine aP 9 func167 fun w0=>?_;refine ai ?_;refine av hd [0] [A] [] rfl QY rfl (Xv i h k) ?_;rintro v s o b a⟨l,e2,rfl,g,e,c⟩;simp only[Z3]at b |-;refine ai ?_;exact jX rfl b (r:=[]) rfl a ⟨l,e2,rfl,g,e,c⟩
def RI:ay prog 95:=⟨_,func95,rfl,rfl⟩
def QE:ay prog 164:=⟨_,func164,rfl,rfl⟩
def QF:ay prog 165:=⟨_,func165,rfl,rfl⟩
def IC:ay prog 166:=⟨_,func166,rfl,rfl⟩
def QX:ay prog 234:=⟨_,func234,rfl,rfl⟩
variable{size:Nat}{e:TypeId}
def Ow.elem{R:PH->Zo->α->Prop}{l:List α}(h:Ow R e size I A v l)(j:∀{I} c a,R I c a->c.length=size)(n:∀{I J c a},R I c a->I.le J->R J c a){i:Nat}{x:α}(hi:l[i]?=some x):
  ∃g cap cur c,v=.slice (some ⟨g,0,none⟩) l.length cap/\A=sg g (.cells cur e (0,0))/\l.length*size<=cur.size/\l.length<=cap/\R I c x/\c.length=size/\a8 A g (i*size) c/\
   ∀J c' y,I.le J->R J c' y->Ow R e size J (sg g (.cells (bN cur.toList (i*size) c').toArray e (0,0))) v (l.set i y):=by
 have d:=(List.getElem?_eq_some_iff.1 hi).1;obtain⟨g,cap,cur,xs,ev,rfl,c1,c2,c3,c4,c5,f⟩:=h.open' O fun c a k=>j c a k;have s:l.length*size<=cap*size:=cv _ c1;have p:(i+1)*size<=l.length*size:=cv _ d;rw[ir,rf]at p;have r:=f.get (fun c a k=>j c a k) hi;have b:=j _ _ r;have t:=qb (k:=0) (m:=size) (e:=e) (g:=g) (cur:=cur) (fun c a k=>j c a k) f d O c4 rfl O;refine⟨g,cap,cur,_,ev,rfl,O,c1,r,b,?_,?_⟩
 .simpa[b,ou]using t
 .intro J c' y u q;have o:=j _ _ q;refine⟨bN xs (i*size+0) c',?_,?_⟩
  .rw[ev,lJ];exact tZ c5 c1 c2 c3 c4 O
  .refine qy (fun c a k=>j c a k) (f.mono fun _ _ h=>n h u) d rfl O ?_;have:bN ((xs.drop (i*size)).take size) 0 c'=c':=by rw[n9 _ _ _ O];simp[b,o]
   rw[this];exact q
def Gm:prog.underlying 34=some (.slice 80):=by obtain⟨i,z,h,_⟩:=nn;exact h
variable{l:List aI}
def O5(o:Sl bj I v l)(s:l.length<=ar):Zu 165 #[v] I [] fun r p q=>∃A,q=[A]/\bt p A r l:=by
 intro hd;obtain⟨t,x,rfl,i⟩:=id o;unfold ar at s;refine aP 8 func165 fun w0=>?_;cases t with
 |none=>
  have j:l=[]:=by
   rcases i with h|⟨b,off,xs,e,_⟩
   .exact h
   .cases e
  subst j;refine ai ?_;refine rH rfl rfl (by exact Gm) rfl rfl ?_;apply RG;simp only[go_sem,Option.isNone];refine de hd fun d=>?_;exact az rfl d (r:=[_]) rfl (aD _) ⟨_,rfl,Ow.nil _ _ _ _⟩
 |some a=>refine ai ?_;refine rH rfl rfl (by exact Gm) rfl rfl ?_;apply RG;simp only[go_sem,Option.isNone];refine rG hd (by exact nn) rfl rfl rfl rfl rfl af fun b A d f=>?_;refine ai ?_;refine fk d (by exact nn) (xs:=([]:List aI)) (R:=bj) ⟨[],f,rfl⟩ o (fun{I J c a} h k=>bj.le h k) (fun{I} c a h=>bj.len c a h) (fun{I} c a h=>bj.ones h) rfl rfl rfl rfl (by simp only[bg];omega) (by simp only[bg];unfold maxLen;omega) fun w u p y m g n=>?_;apply RG;simp only[go_sem,aQ];exact az rfl m (r:=[_]) rfl g ⟨_,rfl,n⟩
def KD{H:PH}{c:Zo}{d:aI}(h:bj I c d):Zv 166 #[.agg c.toArray] H fun v H2=>v=.bool (decide (d.cond=ff))/\H2=H:=by
 obtain⟨a,k,rfl,hr⟩:=h;refine aP 6 func166 fun w0=>?_
 try simp only[sD,rD,E]
 refine bK ?_;refine Zl rfl jj (ji hr) ?_;rintro v H2⟨rfl,rfl⟩;refine ai ?_;exact aX (r:=[_]) rfl ⟨rfl,rfl⟩
def AL(v vf:Value)(n i:Nat):St:=⟨dn 19 [(0,.v v),(1,.v vf),(6,.v v),(7,.v (E n)),(8,.v (E i))],[]⟩
def MR(l:List aI)(r:Value):Prop:=(∀d∈l,d.cond≠ff)/\r=.int .i64 (-1)\/∃i d,l[i]?=some d/\d.cond=ff/\(∀x∈l.take i,x.cond≠ff)/\r=E i
def Sw(t:bt I A v l)(y:l.length<=ar):Zu 234 #[v,.func (.func 166) #[] #[]] I [A] fun r C w=>w=[A]/\C=I/\MR l r:=by
 intro hd;unfold ar at y;obtain⟨u,vc,rfl⟩:=t.shape;refine aP 19 func234 fun w0=>?_;refine ai ?_;refine bV (fun i=>l.length-i) (AL (.slice u l.length vc) (.func (.func 166) #[] #[]) l.length) (fun i H=>H=U [I,A]/\i<=l.length/\∀x∈l.take i,x.cond≠ff) 0 al (by simp only[go_sem,Y,AL]) ?_ ?_
 .exact⟨rfl,aE _,fun x m=>by simp at m⟩
 rintro i H ⟨rfl,hi,o⟩ b;simp only[AL];rcases aK i l.length with j|z
 .have s:=Z5 i l.length;have e1:=Z7 i;obtain⟨d,e⟩:∃d,l[i]?=some d:=⟨_,aY j⟩;obtain⟨g,cap,cur,c,ev,rfl,c1,c2,B,q,f,_⟩:=t.elem (fun{I} c a h=>bj.len c a h) (fun{I J c a} h k=>bj.le h k) e;cases ev
  refine bd s ?_;refine⟨O,?_⟩;refine Zm (l:=c) (v:=.agg c.toArray) rfl (by simpa using cellsU hd (.tail _ (.head _)) f) (.inl ⟨by rw[q];exact gh,rfl⟩) ?_;refine bJ ?_;refine Zl rfl IC (KD B) ?_;rintro v H2⟨rfl,rfl⟩;cases hb:decide (d.cond=ff)
  .refine bd e1 ?_;have p:d.cond≠ff:=zy hb;exact b (i+1) _ _ O al (by simp only[go_sem,Y,AL]) ⟨rfl,j,fun x m=>by
    rw[g6 e]at m;rcases List.mem_append.1 m with h|h
    .exact o x h
    .rw[List.mem_singleton.1 h];exact p⟩
  .refine bJ ?_;exact az rfl hd (r:=[E i]) rfl (aD _) ⟨rfl,rfl,.inr ⟨i,d,e,lN hb,o,rfl⟩⟩
 .have:i=l.length:=by omega
  subst this;have s:decide (((l.length:Nat):Int)<(l.length:Int))=false:=ao;rw[dK]at o;refine bd s ?_;exact az rfl hd (r:=[.int .i64 (-1)]) rfl (aD _) ⟨rfl,rfl,.inl ⟨o,rfl⟩⟩
def l8(l:List aI):List aI:=l.filter fun d=>decide (d.cond≠ff)
def EU(a b:List aI):l8 (a++b)=l8 a++l8 b:=List.filter_append ..
def J0(h:∀d∈l,d.cond≠ff):l8 l=l:=List.filter_eq_self.2 fun d hd=>bm (h d hd)
def xF(v vf:Value)(i j:Nat):St:=⟨dn 42 [(0,.v v),(1,.v vf),(5,.v (E i)),(6,.v (E j))],[]⟩
def Ow.short{R:PH->Zo->α->Prop}{g cap:Nat}{cur:Array Value}{l:List α}{ys:Zo}{i:Nat}(h:Ow R e size I (sg g (.cells cur e (0,0))) (.slice (some ⟨g,0,none⟩) n cap) l)(r:∀{I} c a,R I c a->c.length=size)(m:l.length=n)(u:0<n)(hi:i<=n)(x:ys.length=(n-i)*size):
  Ow R e size I (sg g (.cells (bN cur.toList (i*size) ys).toArray e (0,0))) (.slice (some ⟨g,0,none⟩) i cap) (l.take i):=by
 subst m;obtain⟨g',s,b,xs,ev,w,c1,c2,c3,c4,c5,j⟩:=h.open' u fun c a k=>r c a k;cases ev
 have v:(.cells cur e (0,0):Obj)=.cells b e (0,0):=by have:=congrFun w g;simp only[sg,cu,bf]at this;exact this
 cases v
 have t:l.length*size<=cap*size:=cv _ c1;have o:i*size<=l.length*size:=cv _ hi;have f:=(LR.split (fun c a k=>r c a k) i j).1;have q:i*size+(l.length-i)*size=l.length*size:=by rw[<-ir];congr 1;omega
 have d:(xs.take (i*size)).length=i*size:=by rw[lK,c5];omega
 have p:(bN cur.toList (i*size) ys).toArray.size=cap*size:=by simp[eL,c3]
 refine⟨xs.take (i*size),?_,f⟩;rw[lK,jB hi];refine dH.of_sg d O c2 p ?_;show (bN cur.toList (i*size) ys).take (i*size)=_;rw[n9 _ _ _ (by simp only[ot];omega),<-c4];rw[cD,List.take_left' (by simp only[lK,ot];omega),ou,jB o]
theorem Pr(R:bt I A v l)(hl:l.length<=ar):Zu 164 #[v,.func (.func 166) #[] #[]] I [A] fun r G qs=>∃A2,qs=[A2]/\G=I/\bt I A2 r (l8 l):=by
 intro hd;have an:=hl;unfold ar at an;obtain⟨va,vc,rfl⟩:=R.shape;refine aP 42 func164 fun w0=>?_;refine ai ?_;refine av hd [0] [A] [] rfl QX rfl (Sw R hl) ?_;rintro v G qs z am⟨rfl,rfl,X⟩;simp only[Z3]at z |-;rcases X with ⟨Z,rfl⟩|⟨i0,d0,P,ap,Z,rfl⟩
 .refine ai ?_;exact az rfl z (r:=[_]) rfl (aD _) ⟨A,rfl,rfl,by rw[J0 Z];exact R⟩
 have L:=(List.getElem?_eq_some_iff.1 P).1;have q1:((i0:Int) == -1)=false:=by rw[i7];omega
 have e1:=Z7 i0;obtain⟨o,rfl⟩:∃o,va=some ⟨o,0,none⟩:=by obtain⟨g,cap,cur,xs,ev,_⟩:=R.open' O fun c a k=>bj.len c a k;simp only[Value.slice.injEq]at ev;exact⟨g,ev.1⟩
 refine d6 q1 e1 ?_;refine bV (fun x=>l.length-x.2) (fun x=>xF (.slice (some ⟨o,0,none⟩) l.length vc) (.func (.func 166) #[] #[]) x.1 x.2) (fun(x:Nat×Nat) H=>∃B m,H=U [G,B]/\Dj [G,B]/\m.length=l.length/\bt G B (.slice (some ⟨o,0,none⟩) l.length vc) m/\x.1<x.2/\x.2<=l.length/\m.take x.1=l8 (l.take x.2)/\m.drop x.2=l.drop x.2) (i0,i0+1) al (by simp only[go_sem,Y,xF]) ?_ ?_
 .refine⟨A,l,rfl,z,rfl,R,eF _,L,?_,rfl⟩;simp only;rw[g6 P,EU,J0 Z];simp[l8,ap]
 rintro⟨i,j⟩ H ⟨B,m,rfl,f,s,Q,N,hj,ht,e⟩ b;simp only at N hj ht e;simp only[xF];rcases aK j l.length with t|a2
 .have F:=Z5 j l.length;have w1:=Z7 j;have w2:=Z7 i;obtain⟨d,u⟩:∃d,l[j]?=some d:=⟨_,aY t⟩;have ac:m[j]?=some d:=by have:=congrArg (fun x:List aI=>x[0]?) e;simpa[u]using this
  obtain⟨g,cap,cur,c,ev,rfl,c1,c2,hc,a5,C,aa⟩:=Q.elem (fun{I} c a h=>bj.len c a h) (fun{I J c a} h k=>bj.le h k) ac;simp only[Value.slice.injEq,bf,Addr.mk.injEq,dZ]at ev;obtain⟨eg,_,ek⟩:=ev;subst eg;subst ek;obtain⟨ca,ck,rfl,a4⟩:=id hc;refine bd F ?_;refine⟨O,?_⟩;refine Zm (l:=[.int .u8 d.code,.int .i64 d.tok,sD ca ck d.cond,rD d.cond]) (v:=.agg #[.int .u8 d.code,.int .i64 d.tok,sD ca ck d.cond,rD d.cond]) rfl (by simpa using cellsU f (.tail _ (.head _)) C) (.inl ⟨gh,rfl⟩) ?_;refine bK ?_;refine Zl rfl IC (KD hc) ?_;rintro v H2⟨rfl,rfl⟩;cases hb:decide (d.cond=ff)
  .have q:d.cond≠ff:=zy hb;refine bK ?_;refine⟨O,?_⟩;have mi:(i+1)*4<=m.length*4:=cv _ O;refine k0 f rfl rfl rfl rfl rfl (by exact pp) (by simp;omega) fun w=>?_;refine d6 w1 w2 ?_;have hi:i<m.length:=O;obtain⟨y,hy⟩:∃y,m[i]?=some y:=⟨_,aY hi⟩;obtain⟨g',cap',T,c',S,eA,_,_,_,_,_,p⟩:=Q.elem (fun{I} c a h=>bj.len c a h) (fun{I J c a} h k=>bj.le h k) hy;simp only[Value.slice.injEq,bf,Addr.mk.injEq,dZ]at S;obtain⟨eg',_,ek'⟩:=S;subst eg';have ec:cur=T:=by have:=congrFun eA o;simp only[sg,cu,bf,Obj.cells.injEq,dZ,fg]at this;exact this
   subst ec;have aq:=p G [.int .u8 d.code,.int .i64 d.tok,sD ca ck d.cond,rD d.cond] d (aD _) hc;refine b (i+1,j+1) _ _ bi al (by simp only[go_sem,Y,xF]) ⟨_,m.set i d,rfl,w,by rw[lJ];exact s,aq,by simp only;omega,t,?_,?_⟩
   .simp only;rw[g6 u,EU,<-ht];have:(m.set i d)[i]?=some d:=List.getElem?_set_self hi;rw[g6 this,List.take_set_of_le (aR i)];simp[l8,q]
   .simp only;rw[List.drop_set_of_lt O];rw[<-lI (i:=1) (j:=j),<-lI (i:=1) (j:=j),e]
  .have q:d.cond=ff:=lN hb;refine dm w1 ?_;refine b (i,j+1) _ _ bi al (by simp only[go_sem,Y,xF]) ⟨_,m,rfl,f,s,Q,by simp only;omega,t,?_,?_⟩
   .simp only;rw[g6 u,EU,<-ht];simp[l8,q]
   .simp only;rw[<-lI (i:=1) (j:=j),<-lI (i:=1) (j:=j),e]
 .have:j=l.length:=by omega
  subst this;have F:decide (((l.length:Nat):Int)<(l.length:Int))=false:=ao;rw[dK]at ht;have aS:=Q;obtain⟨g,cap,cur,xs,ev,rfl,c1,c2,c3,c4,c5,a0⟩:=Q.open' O fun c a k=>bj.len c a k;simp only[Value.slice.injEq,bf,Addr.mk.injEq,dZ]at ev;obtain⟨eg,_,ek⟩:=ev;subst eg;subst ek;have a3:l.length*4<=vc*4:=cv _ O;have a1:i*4+(l.length-i)*4=l.length*4:=by rw[<-ir];congr 1;omega
  have W:fZ (some ⟨o,0,none⟩) 4 i vc=some ⟨o,i*4,none⟩:=by have:¬vc=i:=O;simp[fZ,this,Addr.add];intro h;omega
  have K:fZ (some ⟨o,0,none⟩) 4 0 vc=some ⟨o,0,none⟩:=by simp[fZ,Addr.add]
  refine d6 F W ?_;refine⟨O,?_⟩;refine MY (off:=i*4) f (by exact Gm) (by exact ML) (size:=4) rfl rfl rfl rfl (by rfl) O fun ys V w=>?_;refine bd K ?_;refine⟨O,?_⟩;refine bd K ?_;have hS:=aS.short (fun{I} c a h=>bj.len c a h) s O (lM N) V;rw[ht]at hS;exact az rfl w (r:=[_]) rfl (aD _) ⟨_,rfl,rfl,hS⟩
end Go.Proofs.YtfaclfkpnmcmlaaGreatDoor
namespace Syn
open Dg
def n5(o:List aI)(d:aI):List aI:=
 match o.getLast? with
 |some x=>if x.key=d.key then o.dropLast++[{ x with cond:=x.cond.or d.cond }]else o++[d]
 |none=>[d]
structure lO(p o:List aI):Prop where
 so:o.Pairwise fun a b=>gI a.key b.key=true
 ks:∀k,k∈o.map aI.key<->k∈p.map aI.key
 ok:∀x∈o,x.cond.ok 0
 at':∀x∈o,∀c,x.cond.at' c=true<->∃d∈p,d.key=x.key/\d.cond.at' c=true
def lO.nil:lO [] []:=⟨List.Pairwise.nil,fun k=>Iff.rfl,fun x h=>by simp at h,fun x h=>by simp at h⟩
theorem lO.put{p o:List aI}{d:aI}(h:lO p o)(hd:d.cond.ok 0)(hs:∀x∈p,gI d.key x.key=false):lO (p++[d]) (n5 o d):=by
 have u:∀x∈o,gI d.key x.key=false:=fun x t=>by obtain⟨y,f,e⟩:=List.mem_map.1 ((h.ks x.key).1 (List.mem_map_of_mem t));rw[<-e];exact hs y f
 unfold n5;cases v:o.getLast? with
 |none=>
  have w:o=[]:=List.getLast?_eq_none_iff.1 v;subst w;have hp:p=[]:=by
   cases p with
   |nil=>rfl
   |cons y p=>exact absurd ((h.ks y.key).2 ao) ao
  subst hp;refine⟨s0 _ _,fun k=>by simp,fun x t=>?_,fun x t c=>?_⟩
  .rw[List.mem_singleton.1 t];exact hd
  .rw[List.mem_singleton.1 t];constructor
   .intro n;exact⟨d,by simp,rfl,n⟩
   .rintro⟨y,f,_,n⟩;have:y=d:=by simpa using f
    rw[<-this];exact n
 |some x=>
  obtain⟨q,rfl⟩:=List.getLast?_eq_some_iff.1 v;simp only;have l:x∈q++[x]:=ao;have m:∀y∈q,gI y.key x.key=true:=fun y f=>by have:=(List.pairwise_append.1 h.so).2.2 y f x ao;exact this
  split
  .rename_i e;rw[List.dropLast_concat];have r:=h.ok x l;refine⟨?_,fun k=>?_,fun y f=>?_,fun y f c=>?_⟩
   .have:=List.pairwise_append.1 h.so;refine List.pairwise_append.2 ⟨this.1,s0 _ _,fun a ha b hb=>?_⟩;rw[List.mem_singleton.1 hb];exact m a ha
   .have:=h.ks k;simp only[mw,jR,iq,List.map_nil,List.mem_singleton]at this |-;show k∈q.map aI.key\/k=x.key<->_;rw[this,<-e];constructor
    .exact .inl
    .rintro(h1|h1)
     .exact h1
     .rw[h1];exact(h.ks x.key).1 (List.mem_map_of_mem l)
   .rcases List.mem_append.1 f with h1|h1
    .exact h.ok y (gm _ h1)
    .rw[List.mem_singleton.1 h1];exact T.or_ok r hd
   .rcases List.mem_append.1 f with h1|h1
    .rw[h.at' y (gm _ h1) c];have i:d.key≠y.key:=fun e2=>by have:=m y h1;rw[e,e2,j6.irr]at this;cases this
     constructor
     .rintro⟨z,g,e1,e2⟩;exact⟨z,by simp[g],e1,e2⟩
     .rintro⟨z,g,e1,e2⟩;rcases List.mem_append.1 g with h2|h2
      .exact⟨z,h2,e1,e2⟩
      .rw[List.mem_singleton.1 h2]at e1;exact absurd e1 i
    .rw[List.mem_singleton.1 h1];show (x.cond.or d.cond).at' c=true<->_;rw[T.or_at r hd,sY,h.at' x l c];show _<->∃z∈p++[d],z.key=x.key/\_;constructor
     .rintro(⟨z,g,e1,e2⟩|n)
      .exact⟨z,by simp[g],e1,e2⟩
      .exact⟨d,by simp,e.symm,n⟩
     .rintro⟨z,g,e1,e2⟩;rcases List.mem_append.1 g with h2|h2
      .exact .inl ⟨z,h2,e1,e2⟩
      .rw[List.mem_singleton.1 h2]at e2;exact .inr e2
  .rename_i i;have s:gI x.key d.key=true:=by
    have h1:=u x l;cases h2:gI x.key d.key with
    |true=>rfl
    |false=>exact absurd (j6.tri _ _ h2 h1) i
   have j:∀y∈q++[x],gI y.key d.key=true:=fun y f=>by
    rcases List.mem_append.1 f with h1|h1
    .exact j6.tr _ _ _ (m y h1) s
    .rw[List.mem_singleton.1 h1];exact s
   refine⟨List.pairwise_append.2 ⟨h.so,s0 _ _,fun a ha b hb=>by rw[List.mem_singleton.1 hb];exact j a ha⟩,fun k=>?_,fun y f=>?_,fun y f c=>?_⟩
   .rw[mw (l₁:=q++[x]),mw (l₁:=p),jR,jR,h.ks k]
   .rcases List.mem_append.1 f with h1|h1
    .exact h.ok y h1
    .rw[List.mem_singleton.1 h1];exact hd
   .rcases List.mem_append.1 f with h1|h1
    .rw[h.at' y h1 c];have i:d.key≠y.key:=fun e2=>by have:=j y h1;rw[<-e2,j6.irr]at this;cases this
     constructor
     .rintro⟨z,g,e1,e2⟩;exact⟨z,by simp[g],e1,e2⟩
     .rintro⟨z,g,e1,e2⟩;rcases List.mem_append.1 g with h2|h2
      .exact⟨z,h2,e1,e2⟩
      .rw[List.mem_singleton.1 h2]at e1;exact absurd e1 i
    .rw[List.mem_singleton.1 h1];constructor
     .intro n;exact⟨d,by simp,rfl,n⟩
     .rintro⟨z,g,e1,e2⟩;rcases List.mem_append.1 g with h2|h2
      .have h3:=(h.ks d.key).2 (by rw[<-e1];exact List.mem_map_of_mem h2);obtain⟨y,f,A⟩:=List.mem_map.1 h3;have:=j y f;rw[A,j6.irr]at this;cases this
      .rw[List.mem_singleton.1 h2]at e2;exact e2
def lO.all:∀(l p o:List aI),lO p o->(∀d∈l,d.cond.ok 0)->(p++l).Pairwise (fun a b=>gI b.key a.key=false)->lO (p++l) (l.foldl n5 o)
 | [],p,o,h,_,_=>by simpa using h
 |d::l,p,o,h,c,hs=>by have h1:=List.pairwise_append.1 hs;have:=lO.all l (p++[d]) (n5 o d) (h.put (c d (.head _)) fun x f=>h1.2.2 x f d (.head _)) (fun y e=>c y (.tail _ e)) (by simpa using hs);simpa using this
def lO.eq{p o l:List aI}(h:lO p o)(hp:∀d,d∈p<->d∈l/\d.cond≠ff)(b:jk l):o=iz l:=by
 have f:o.map aI.key=qg l:=by
  refine yP j6 (List.pairwise_map.2 h.so) (pe j6 _) fun k=>?_;unfold qg;rw[h.ks k,wl j6];simp only[my,kw,dE];constructor
  .rintro⟨d,hd,e⟩;exact⟨d,(hp d).1 hd,e⟩
  .rintro⟨d,hd,e⟩;exact⟨d,(hp d).2 hd,e⟩
 unfold iz;rw[<-f,pF]
 conv=>lhs;rw[<-List.map_id o]
 refine nu fun x a=>?_;have g:x.cond=qd l x.key:=by
  refine T.ext (h.ok x a) (HP b) fun c=>?_;have h1:=h.at' x a c;have h2:=DL (k:=x.key) (c:=c) b;have h3:x.cond.at' c=true<->(qd l x.key).at' c=true:=by
   rw[h1,h2];constructor
   .rintro⟨d,hd,e1,e2⟩;exact⟨d,((hp d).1 hd).1,e1,e2⟩
   .rintro⟨d,hd,e1,e2⟩;exact⟨d,(hp d).2 ⟨hd,fun e=>by rw[e]at e2;cases e2⟩,e1,e2⟩
  cases ha:x.cond.at' c<;>cases hb:(qd l x.key).at' c<;>simp_all
 simp only[id,Function.comp];rw[<-g];cases x;rfl
end Syn
namespace Go.Proofs.YtfaclfkpnmcmlaaGreatDoor
open Go Go.Sx Dg Syn
def Rh:ay prog 280:=⟨_,func280,rfl,rfl⟩
def IM:ay prog 225:=⟨_,func225,rfl,rfl⟩
def Rj:ay prog 297:=⟨_,func297,rfl,rfl⟩
def Rk:ay prog 298:=⟨_,func298,rfl,rfl⟩
def Rb:ay prog 273:=⟨_,func273,rfl,rfl⟩
def Ds:∀(f x k:Nat),x<2^f->(Lib.bitLenAux f x<=k<->x<2^k)
 |0,x,k,h=>by
  have:x=0:=by simpa using h
  subst this;simp[Lib.bitLenAux,Nat.two_pow_pos]
 |f+1,x,k,h=>by
  rw[Lib.bitLenAux];by_cases a:x=0
  .subst a;simp[Nat.two_pow_pos]
  .rw[ab a];cases k with
   |zero=>simp;omega
   |succ k=>have:=Ds f (x / 2) k (by rw[uA]at h;omega);rw[uA];omega
variable{n:Nat}
def Ou(h:n<2^64):Lib.bitLen n=Sort.bitsLen n:=by
 apply Nat.le_antisymm
 .exact(Ds 64 n _ h).2 (Sort.lt_two_pow_bitsLen n)
 .exact(Sort.bitsLen_le_iff n _).2 ((Ds 64 n _ h).1 (aR _))
def Ur(b:n<2^63)(H:PH):Zv 280 #[.int .u64 n] H fun v H2=>v=E (Sort.bitsLen n)/\H2=H:=by intro w a;refine(Any.bits_Len64 { lays171 with } (n:Int) w O O).mono ?_;rintro e w2 ⟨rfl,rfl⟩;exact⟨H,cP.refl a,by rw[Int.toNat_natCast,Ou O];rfl,rfl⟩
def JM(a:n<2^63)(H:PH):Zv 225 #[.int .u64 n] H fun v H2=>v=E (Sort.bitsLen n)/\H2=H:=by refine aP 8 func225 fun w0=>?_;refine ai ?_;refine Zl rfl Rh (Ur a H) ?_;rintro v H2⟨rfl,rfl⟩;refine ai ?_;exact aX (r:=[_]) rfl ⟨rfl,rfl⟩
def zj(h:n<2^64):IntKind.u64.wrap (n:Int)=(n:Int):=by simp only[IntKind.wrap,show IntKind.bits .u64=64 from rfl,show IntKind.signed .u64=false from rfl];simp;omega
def Vq(b:n<2^41)(H:PH):Zv 297 #[E n] H fun v H2=>v=.int .u64 ((2^Sort.bitsLen n:Nat):Int)/\H2=H:=by
 have hb:Sort.bitsLen n<=41:=(Sort.bitsLen_le_iff n 41).2 b;refine aP 7 func297 fun w0=>?_
 try simp only[E]
 have a:=zj (n:=n) O;refine dB a ?_;refine Zl rfl IM (JM O H) ?_;rintro v H2⟨rfl,rfl⟩;have h0:(0:Int)<=(Sort.bitsLen n:Int):=gL _;have w2:qT .u64 1 (Sort.bitsLen n:Int)=((2^Sort.bitsLen n:Nat):Int):=by unfold qT;rw[show IntKind.bits .u64=64 from rfl,Int.toNat_natCast,jB O];have h2:2^Sort.bitsLen n<=2^41:=wS O hb;have:=zj (n:=2^Sort.bitsLen n) O;rw[show (1:Int)*2^Sort.bitsLen n=((2^Sort.bitsLen n:Nat):Int) by simp];exact this
 apply RG;simp only[go_sem,E,h0,w2];exact aX (r:=[_]) rfl ⟨rfl,rfl⟩
abbrev sM(b:Nat)(x:Int):PH:=sg b (.cells #[.int .u64 x] 377 (0,0))
variable{I:PH}
def Vk{rb:Nat}{x:Int}:Zu 298 #[pt rb] I [sM rb x] fun r e d=>e=I/\∃y,d=[sM rb y]/\r=.int .u64 y:=by
 intro hd;refine aP 33 func298 fun w0=>?_
 try simp only[pt]
 have c:∀x,a8 (sM rb x) rb 0 [.int .u64 x]:=fun x=>dz ao rfl;refine ai ?_;refine bG [0,1,2,3,4,5,6,7,8,9] [2,5] [9] ?_;refine pM ?_;refine Zn (l:=[.int .u64 x]) rfl (cellsU hd (.tail _ (.head _)) (c x)) (.inr ⟨rT,rfl⟩) ?_;refine pM ?_;refine Zn (l:=[.int .u64 x]) rfl (cellsU hd (.tail _ (.head _)) (c x)) (.inr ⟨rT,rfl⟩) ?_;refine pM ?_;refine cY hd rfl rfl rfl rfl rfl rfl (by exact Cg) ao fun a=>?_;apply aN;clear hd;simp only[bN,List.set]at a |-;obtain⟨x,b⟩:∃y,y=q9 .u64 x (qT .u64 x 13):=⟨_,rfl⟩;rw[<-b]at a |-;clear b;have hd:=a;clear a;refine rJ ?_;refine bG [0,1,2,3,4,5,6,7,8,9] [2,5] [9] ?_;refine pM ?_;refine Zn (l:=[.int .u64 x]) rfl (cellsU hd (.tail _ (.head _)) (c x)) (.inr ⟨rT,rfl⟩) ?_;refine pM ?_;refine Zn (l:=[.int .u64 x]) rfl (cellsU hd (.tail _ (.head _)) (c x)) (.inr ⟨rT,rfl⟩) ?_;refine pM ?_;refine cY hd rfl rfl rfl rfl rfl rfl (by exact Cg) ao fun a=>?_;apply aN;clear hd;simp only[bN,List.set]at a |-;obtain⟨x,b⟩:∃y,y=q9 .u64 x (mn .u64 x 7):=⟨_,rfl⟩;rw[<-b]at a |-;clear b;have hd:=a;clear a;refine rJ ?_;refine bG [0,1,2,3,4,5,6,7,8,9] [2,5] [9] ?_;refine pM ?_;refine Zn (l:=[.int .u64 x]) rfl (cellsU hd (.tail _ (.head _)) (c x)) (.inr ⟨rT,rfl⟩) ?_;refine pM ?_;refine Zn (l:=[.int .u64 x]) rfl (cellsU hd (.tail _ (.head _)) (c x)) (.inr ⟨rT,rfl⟩) ?_;refine pM ?_;refine cY hd rfl rfl rfl rfl rfl rfl (by exact Cg) ao fun a=>?_;apply aN;clear hd;simp only[bN,List.set]at a |-;obtain⟨x,b⟩:∃y,y=q9 .u64 x (qT .u64 x 17):=⟨_,rfl⟩;rw[<-b]at a |-;clear b;have hd:=a;clear a;refine rJ ?_;refine Zm (l:=[.int .u64 x]) rfl (cellsU hd (.tail _ (.head _)) (c x)) (.inr ⟨rT,rfl⟩) ?_;refine rJ ?_;exact az rfl hd (r:=[_]) rfl (aD _) ⟨rfl,x,rfl,rfl⟩
def Oe{x:Int}{m:Nat}(hm:m<2^62):∃z:Nat,mK .u64 x (m:Int)=(z:Int)/\z<=m:=by
 unfold mK;rw[show IntKind.bits .u64=64 from rfl,BitVec.toNat_and];have h2:(BitVec.ofInt 64 (m:Int)).toNat=m:=by rw[BitVec.toNat_ofInt];omega
 rw[h2];have h3:(BitVec.ofInt 64 x).toNat&&&m<=m:=Nat.and_le_right;exact⟨_,zj O,h3⟩
def z8(v:Value)(a n m rb b:Nat):St:=⟨dn 67 [(0,.v v),(1,.v (E a)),(8,.v (E n)),(9,.v (pt rb)),(10,.v (.int .u64 m)),(11,.v (E b))],[]⟩
variable{d:Array M}{v vc:Value}{A:PH}
theorem OD{a b:Nat}(hA:aw I A v d.toList)(a6:a<=b)(hb:b<=d.size)(hn:d.size<=ar):
  Zu 273 #[v,E a,E b,vc] I [A] fun _ I2 qs=>∃s p,qs=[s]/\Sort.PermIn a b d p/\aw I2 s v p.toList:=by
 intro hd;unfold ar at hn;obtain⟨va,vk,rfl⟩:=Ow.one' hA;refine aP 67 func273 fun w0=>?_
 try simp only[E]
 have w1:IntKind.i64.wrap ((b:Int)-(a:Int))=((b-a:Nat):Int):=by rw[fF O O];omega
 rcases aK (b-a) 8 with h8|h8
 .have L:decide (((b-a:Nat):Int)>=8)=false:=ch O;refine lR w1 L ?_;exact jX rfl hd (r:=[]) rfl (aD _) ⟨A,d,rfl,Sort.permIn_refl d a b,hA⟩
 have L:decide (((b-a:Nat):Int)>=8)=true:=bm O;have w2:IntKind.u64.wrap ((b-a:Nat):Int)=((b-a:Nat):Int):=zj O;apply cE 20;simp only[go_sem,w1,L,w2];refine jW 9 hd rfl fun rb S=>?_;have R:Dj [I,sM rb ((b-a:Nat):Int),A]:=S
 change RC _ _ _ (U [I,sM rb ((b-a:Nat):Int),A])
 clear S hd;refine ak R [1,0] fun a1=>?_;clear R;have B:(((b-a:Nat):Int)).tdiv 4=(((b-a) / 4:Nat):Int):=rfl;obtain⟨q,an⟩:∃q,q=(b-a) / 4:=⟨_,rfl⟩;have u:IntKind.i64.wrap ((((b-a) / 4:Nat):Int))=(q:Int):=by rw[<-an];exact wrap64 O
 have X:IntKind.i64.wrap ((q:Int)*2)=((2*q:Nat):Int):=by rw[<-wrap64 (n:=2*q) O];congr 1;omega
 have W:IntKind.i64.wrap ((a:Int)+((2*q:Nat):Int))=((a+2*q:Nat):Int):=by rw[<-wrap64 (n:=a+2*q) O];congr 1
 have w5:IntKind.i64.wrap (((a+2*q:Nat):Int)-1)=((a+2*q-1:Nat):Int):=by rw[<-wrap64 (n:=a+2*q-1) O];congr 1;omega
 have w6:IntKind.i64.wrap (((a+2*q:Nat):Int)+1)=((a+2*q+1:Nat):Int):=by rw[<-wrap64 (n:=a+2*q+1) O];congr 1
 apply RG;simp only[go_sem,iR,List.map,E,pt];refine Zl rfl Rj (Vq (n:=b-a) O _) ?_;rintro r H2⟨rfl,rfl⟩;have aq:=Sort.two_pow_bitsLen_le (n:=b-a) O;have ap:0<2^Sort.bitsLen (b-a):=Nat.two_pow_pos _;generalize 2^Sort.bitsLen (b-a)=m at aq ap |-;have w7:IntKind.u64.wrap ((m:Int)-1)=((m-1:Nat):Int):=by rw[<-zj (n:=m-1) O];congr 1;omega
 apply RG;simp only[go_sem,iR,List.map,E,pt,B,u,X,W,w5];refine bV (fun x=>a+2*q+2-x) (z8 (.slice va d.size vk) a (b-a) m rb) (fun x H=>∃y s p,H=U [I,s,sM rb y]/\Dj [I,s,sM rb y]/\a<=x/\x<=a+2*q+2/\Sort.PermIn a b d p/\aw I s (.slice va d.size vk) p.toList) (a+2*q-1) cN (by simp only[go_sem,Y,z8,E,pt]) ?_ ?_
 .exact⟨_,A,d,rfl,a1,O,O,Sort.permIn_refl d a b,hA⟩
 rintro x H ⟨y,s,p,rfl,Q,ac,a5,C,T⟩ F;simp only[z8];have am:p.size=d.size:=C.1;have V:decide ((x:Int)<=((a+2*q+1:Nat):Int))=decide (x<=a+2*q+1):=by simp only[Int.ofNat_le]
 by_cases hx:x<=a+2*q+1
 .have w:decide (x<=a+2*q+1)=true:=bm hx;have w8:=Z7 x;apply RG;simp only[go_sem,E,pt,B,u,X,W,w6,V,w];refine av Q [1,0] [sM rb y] [s] rfl Rk rfl (Vk) ?_;rintro r I3 qs P aS⟨rfl,y2,rfl,rfl⟩;simp only[Z3]at P |-;obtain⟨z,hz,a4⟩:=Oe (x:=y2) (m:=m-1) O;have w9:IntKind.i64.wrap (z:Int)=(z:Int):=wrap64 O;refine ak P [1,0] fun G=>?_;rcases aK z (b-a)with aa|aa
  have K:decide ((z:Int)>=((b-a:Nat):Int))=false:=ch O;apply RG;simp only[go_sem,E,pt,w7,hz,w9,K];have ho:z<b-a:=O;have e:IntKind.i64.wrap ((a:Int)+((z:Nat):Int))=((a+(z):Nat):Int):=by rw[<-wrap64 (n:=a+(z)) O];congr 1
  generalize z=o at ho e |-
  rotate_left
  have K:decide ((z:Int)>=((b-a:Nat):Int))=true:=bm O;have Z:IntKind.i64.wrap ((z:Int)-((b-a:Nat):Int))=((z-(b-a):Nat):Int):=by rw[fF O O];omega
  apply RG;simp only[go_sem,E,pt,w7,hz,w9,K,Z];have ho:z-(b-a)<b-a:=O;have e:IntKind.i64.wrap ((a:Int)+((z-(b-a):Nat):Int))=((a+(z-(b-a)):Nat):Int):=by rw[<-wrap64 (n:=a+(z-(b-a))) O];congr 1
  generalize z-(b-a)=o at ho e |-
  all_goals
   obtain⟨g,cp,cur,ci,cj,ev,rfl,a2,ri,rj,li,lj,ki,kj,N⟩:=Ow.two T (fun{I} c a h=>ag.len c a h) (fun{I J c a} h k=>ag.le h k) (i:=x) (j:=a+o) O O;rw[am]at ev a2;cases ev
   have mi:(x+1)*7<=d.size*7:=cv _ O;have mj:((a+o)+1)*7<=d.size*7:=cv _ O;refine bG [0,1,2,3,4,5,6,7,8,9,10,11,12,13,14,15,16,17,18,19] [11,15] [] ?_;refine bQ e ?_;refine⟨O,?_⟩;refine Zn (l:=cj) (v:=.agg cj.toArray) rfl (cellsU G (.tail _ (.head _)) (by simpa using kj)) (.inl ⟨by rw[lj];exact b9,rfl⟩) ?_;refine bQ e ?_;refine⟨O,?_⟩;refine Zn (l:=ci) (v:=.agg ci.toArray) rfl (cellsU G (.tail _ (.head _)) (by simpa using ki)) (.inl ⟨by rw[li];exact b9,rfl⟩) ?_;refine bQ e ?_;refine⟨O,?_⟩;refine cY G rfl rfl rfl rfl rfl (dN (ag.ones rj)) (by rw[lj];exact eM) (by rw[lj];omega) fun a0=>?_;refine bQ e ?_;refine⟨O,?_⟩;refine cY a0 rfl rfl rfl rfl rfl (dN (ag.ones ri)) (by rw[li];exact eM) (by rw[li];simp[eL];omega) fun f=>?_;apply aN;refine bd w8 ?_;have a3:=N I3 (aD _);exact F (x+1) _ _ O cN (by simp only[go_sem,Y,z8,E,pt]) ⟨y2,_,_,rfl,f,O,O,Sort.permIn_trans _ _ _ _ _ C (Sort.swp_permIn p a b x (a+o) ac O O O O),a3⟩
 .have w:decide (x<=a+2*q+1)=false:=ch hx;apply RG;simp only[go_sem,E,pt,B,u,X,W,w6,V,w];refine ak Q [1,0] fun f=>?_;refine aJ (c:=.st _) f fun I9 f t a7=>?_;exact jX rfl f (r:=[]) rfl t ⟨s,p,rfl,C,aw.le T t⟩
def GJ{C:Cx}{kx:List Item}{c:Cf}{σ:St}{H:PH}{α:Type}(S:α->St)(Z:α->PH->Prop)
  (first:(∀a b H',iT (S a).tm b.tm->kS (S a).bx b.bx->Z a H'->RC C (.st kx) b H')->RC C c σ H)
  (rest:∀a H,Z a H->RC C (.st kx) (S a) H):RC C c σ H:=first fun a b H' h1 h2 h3=>gP h1 h2 (rest a H' h3)
def Re:ay prog 276:=⟨_,func276,rfl,rfl⟩
def jq(v a vb vc:Value)(x:Nat×Nat):St:=⟨dn 141 [(0,.v v),(1,.v a),(2,.v vb),(3,.v vc),(9,.v (E x.2)),(10,.v (E x.1))],[]⟩
def sI(v a vb vc:Value)(st i j:Nat):St:=⟨dn 141 [(0,.v v),(1,.v a),(2,.v vb),(3,.v vc),(9,.v (E i)),(10,.v (E st)),(11,.v (E j))],[]⟩
def sJ(v a vb vc:Value)(st i j:Nat):St:=⟨dn 141 [(0,.v v),(1,.v a),(2,.v vb),(3,.v vc),(9,.v (E i)),(10,.v (E st)),(12,.v (E j))],[]⟩
theorem VQ{a b:Nat}(hA:aw I A v d.toList)(hc:it ag aV vc)(c4:a<b)(hb:b<=d.size)(hn:d.size<=ar):
  Zu 276 #[v,E a,E b,vc] I [A] fun r I2 qs=>∃A2,qs=[A2]/\aw I2 A2 v (Sort.partialInsertionSort aV d a b).1.toList/\r=.bool (Sort.partialInsertionSort aV d a b).2:=by
 intro hd;unfold ar at hn;obtain⟨f,fst,cap,rfl,gf,cf⟩:=id hc;obtain⟨g0,vk,rfl⟩:=Ow.addr hA O;refine aP 141 func276 fun w0=>?_
 try simp only[E]
 have w1:IntKind.i64.wrap ((a:Int)+1)=((a+1:Nat):Int):=by have e0:(a:Int)+1=((a+1:Nat):Int):=O;rw[e0];exact wrap64 O
 refine dB w1 ?_;refine bV (fun x=>5-x.1) (jq (.slice (some ⟨g0,0,none⟩) d.size vk) (E a) (E b) (.func (.func f) fst cap)) (fun x H=>∃I2 A2 d2,H=U [I2,A2]/\Dj [I2,A2]/\I.le I2/\x.1<=5/\a+1<=x.2/\x.2<=b/\d2.size=d.size/\aw I2 A2 (.slice (some ⟨g0,0,none⟩) d.size vk) d2.toList/\Sort.partialIns aV a b (5-x.1) x.2 d2=Sort.partialInsertionSort aV d a b) (0,a+1) al (by simp only[go_sem,Y,jq]) ?_ ?_
 .exact⟨I,A,d,rfl,hd,aD _,aE _,aR _,c4,rfl,hA,rfl⟩
 rintro⟨st,i0⟩ H ⟨I2,A2,d2,rfl,cx,a5,c0,c3,cn,b4,cy,n⟩ a4;simp only at c0 c3 cn n;simp only[jq];rcases aK st 5 with c5|c8
 .have cl:decide ((st:Int)<5)=true:=bm O;have ws:IntKind.i64.wrap ((st:Int)+1)=((st+1:Nat):Int):=by have e0:(st:Int)+1=((st+1:Nat):Int):=O;rw[e0];exact wrap64 O
  obtain⟨s,hs⟩:∃s,5-st=s+1:=⟨5-st-1,O⟩;rw[hs,Sort.partialIns]at n;have c1:5-(st+1)=s:=O;refine bd cl ?_;apply gO (fun x=>b-x) (fun x=>jq (.slice (some ⟨g0,0,none⟩) d.size vk) (E a) (E b) (.func (.func f) fst cap) (st,x)) (fun x H=>∃V A3,H=U [V,A3]/\Dj [V,A3]/\I2.le V/\aw V A3 (.slice (some ⟨g0,0,none⟩) d.size vk) d2.toList/\i0<=x/\x<=b/\Sort.scanSorted aV d2 b x=Sort.scanSorted aV d2 b i0) (fun x H=>∃V A3,H=U [V,A3]/\Dj [V,A3]/\I2.le V/\aw V A3 (.slice (some ⟨g0,0,none⟩) d.size vk) d2.toList/\i0<=x/\x<=b/\x=Sort.scanSorted aV d2 b i0) i0
  .exact al
  .exact(by simp only[go_sem,Y,jq])
  .exact⟨I2,A2,rfl,cx,aD _,cy,aR _,cn,rfl⟩
  .rintro x H ⟨V,A3,rfl,C,X,R,cm,b1,e⟩ an am;simp only[jq];rw[Sort.scanSorted]at e;rcases aK x b with ba|ba
   .have a9:=Z5 x b;obtain⟨x,rfl⟩:∃x',x=x'+1:=⟨x-1,O⟩;have p1:=pA (j:=x) O;have p2:IntKind.i64.wrap (((x+1:Nat):Int)+1)=((x+1+1:Nat):Int):=by have e0:((x+1:Nat):Int)+1=((x+1+1:Nat):Int):=O;rw[e0];exact wrap64 O
    obtain⟨g,cp,cur,ci,cj,ev,rfl,b7,ri,rj,li,lj,ki,kj,a3⟩:=Ow.two R (fun{I} c a h=>ag.len c a h) (fun{I J c a} h k=>ag.le h k) (i:=x+1) (j:=x) O O;rw[b4]at ev b7;simp only[Value.slice.injEq,bf,Addr.mk.injEq,dZ,fg]at ev;obtain⟨eg,ek⟩:=ev;subst eg;subst ek;refine bJ ?_;refine bG [0,1,2,3,4,5,6,7,8,9,10,11,12,13,14,15,16,17] [8,13] [] ?_;refine lg a9 p1 ?_;refine⟨O,?_⟩;refine Zn (l:=ci) (v:=.agg ci.toArray) rfl (cellsU C (.tail _ (.head _)) (by simpa using ki)) (.inl ⟨by rw[li];exact b9,rfl⟩) ?_;refine lg a9 p1 ?_;refine⟨O,?_⟩;refine Zn (l:=cj) (v:=.agg cj.toArray) rfl (cellsU C (.tail _ (.head _)) (by simpa using kj)) (.inl ⟨by rw[lj];exact b9,rfl⟩) ?_;refine lg a9 p1 ?_;refine cH C [0] [] [_] rfl gf rfl (cf V _ _ _ _ ri rj) ?_;rintro v I4 qs aq ac⟨rfl,z,rfl,hz⟩;simp only[Z3]at aq |-;refine bU ?_;apply aN;rw[uz]at e;cases hl:aV d2[x+1]! d2[x]! with
    |true=>rw[hl]at hz;rw[ab (by simp[hl])]at e;apply cE 3;simp only[go_sem,E,hz,cL];exact am (x+1) _ _ al (by simp only[go_sem,Y,jq]) ⟨I4,_,rfl,aq,D X ac,aw.le R ac,cm,b1,e⟩
    |false=>rw[hl]at hz;rw[ah (by simp[hl];omega)]at e;apply RG;simp only[go_sem,E,hz,dg,p2];exact an (x+1+1) _ _ O al (by simp only[go_sem,Y,jq]) ⟨I4,_,rfl,aq,D X ac,aw.le R ac,O,O,e⟩
   .have a9:decide ((x:Int)<(b:Int))=false:=ch O;rw[ab (by simp;omega)]at e;refine bJ ?_;refine bG [0,1,2,3,4,5,6,7,8,9,10,11,12,13,14,15,16,17] [8,13] [] ?_;refine bQ a9 ?_;apply aN;apply cE 3;simp only[go_sem,E];exact am x _ _ al (by simp only[go_sem,Y,jq]) ⟨V,A3,rfl,C,X,R,cm,b1,e⟩
  rintro i H ⟨V,A3,rfl,C,X,R,c7,c6,c2⟩;simp only[jq];rw[<-c2]at n;simp only at n;have k3:=D a5 X;by_cases b5:i=b
  .have b0:((i:Int) == (b:Int))=true:=by rw[b5];simp
   rw[ah b5]at n;refine bd b0 ?_;exact az rfl C (r:=[.bool true]) rfl k3 ⟨A3,rfl,by rw[<-n];exact R,by rw[<-n];rfl⟩
  have b0:((i:Int) == (b:Int))=false:=by rw[i7];omega
  rw[ab b5]at n;have w3:IntKind.i64.wrap ((b:Int)-(a:Int))=((b-a:Nat):Int):=by rw[fF O O];omega
  by_cases cA:b-a<50
  .have cc:decide (((b-a:Nat):Int)<50)=true:=bm O;rw[ah cA]at n;refine nB b0 w3 cc ?_;exact az rfl C (r:=[.bool false]) rfl k3 ⟨A3,rfl,by rw[<-n];exact R,by rw[<-n];rfl⟩
  have cc:decide (((b-a:Nat):Int)<50)=false:=ch O;rw[ab cA]at n;obtain⟨i,rfl⟩:∃x',i=x'+1:=⟨i-1,O⟩;have p1:=pA (j:=i) O;rw[uz]at n;refine nB b0 w3 cc ?_;obtain⟨g,cp,cur,ci,cj,ev,rfl,b7,ri,rj,li,lj,ki,kj,a3⟩:=Ow.two R (fun{I} c a h=>ag.len c a h) (fun{I J c a} h k=>ag.le h k) (i:=i+1) (j:=i) O O;rw[b4]at ev b7;simp only[Value.slice.injEq,bf,Addr.mk.injEq,dZ,fg]at ev;obtain⟨eg,ek⟩:=ev;subst eg;subst ek;have mi:((i+1)+1)*7<=d.size*7:=cv _ O;have mj:(i+1)*7<=d.size*7:=cv _ O;refine bG [0,1,2,3,4,5,6,7,8,9,10,11,12,13,14,15,16,17] [9,13] [] ?_;refine bQ p1 ?_;refine⟨O,?_⟩;refine Zn (l:=cj) (v:=.agg cj.toArray) rfl (cellsU C (.tail _ (.head _)) (by simpa using kj)) (.inl ⟨by rw[lj];exact b9,rfl⟩) ?_;refine bQ p1 ?_;refine⟨O,?_⟩;refine Zn (l:=ci) (v:=.agg ci.toArray) rfl (cellsU C (.tail _ (.head _)) (by simpa using ki)) (.inl ⟨by rw[li];exact b9,rfl⟩) ?_;refine bQ p1 ?_;refine⟨O,?_⟩;refine cY C rfl rfl rfl rfl rfl (dN (ag.ones rj)) (by rw[lj];exact eM) (by rw[lj];omega) fun a6=>?_;refine bQ p1 ?_;refine⟨O,?_⟩;refine cY a6 rfl rfl rfl rfl rfl (dN (ag.ones ri)) (by rw[li];exact eM) (by rw[li];simp[eL];omega) fun aq=>?_;apply aN;have bx:=a3 V (aD _);obtain⟨d4,ed4⟩:∃d4,d4=Sort.swp d2 (i+1) i:=⟨_,rfl⟩;have b3:d4.size=d.size:=by rw[ed4,iU];exact b4
  rw[<-ed4]at bx n;have w5:IntKind.i64.wrap (((i+1:Nat):Int)-(a:Int))=((i+1-a:Nat):Int):=by rw[fF O O];omega
  have w6:IntKind.i64.wrap ((b:Int)-((i+1:Nat):Int))=((b-(i+1):Nat):Int):=by rw[fF O O];omega
  have w7:IntKind.i64.wrap (((i+1:Nat):Int)+1)=((i+1+1:Nat):Int):=by have e0:((i+1:Nat):Int)+1=((i+1+1:Nat):Int):=O;rw[e0];exact wrap64 O
  obtain⟨d5,B⟩:∃d5,d5=if i+1-a>=2 then Sort.shiftDown aV i d4 else d4:=⟨_,rfl⟩
  rw[<-B]at n;obtain⟨p,w⟩:∃p,p=if b-(i+1)>=2 then Sort.shiftUp aV b (i+1+1) d5 else d5:=⟨_,rfl⟩
  rw[<-w]at n;apply GJ (fun _:Unit=>jq (.slice (some ⟨g0,0,none⟩) d.size vk) (E a) (E b) (.func (.func f) fst cap) (st,i+1)) (fun _ H=>∃I5 A5,H=U [I5,A5]/\Dj [I5,A5]/\V.le I5/\d5.size=d.size/\aw I5 A5 (.slice (some ⟨g0,0,none⟩) d.size vk) d5.toList)
  .intro hm;rcases aK (i+1-a) 2 with a7|a7
   .have cb:decide (((i+1-a:Nat):Int)>=2)=false:=ch O;rw[ab (show ¬(i+1-a>=2) by omega)]at B;apply cE 10;simp only[go_sem,E,w5,cb];exact hm () _ _ al (by simp only[go_sem,Y,jq]) ⟨V,_,rfl,aq,aD _,by rw[B];exact b3,by rw[B];exact bx⟩
   .have cb:decide (((i+1-a:Nat):Int)>=2)=true:=bm O;rw[ah (show i+1-a>=2 from a7)]at B;refine nB w5 cb p1 ?_;apply gO (fun x=>x) (fun x=>sI (.slice (some ⟨g0,0,none⟩) d.size vk) (E a) (E b) (.func (.func f) fst cap) st (i+1) x) (fun x H=>∃t W p,H=U [t,W]/\Dj [t,W]/\V.le t/\x<=i/\p.size=d.size/\aw t W (.slice (some ⟨g0,0,none⟩) d.size vk) p.toList/\Sort.shiftDown aV x p=Sort.shiftDown aV i d4) (fun x H=>∃t W p,H=U [t,W]/\Dj [t,W]/\V.le t/\p.size=d.size/\aw t W (.slice (some ⟨g0,0,none⟩) d.size vk) p.toList/\p=Sort.shiftDown aV i d4) (i)
    .exact al
    .exact(by simp only[go_sem,Y,sI])
    .exact⟨V,_,d4,rfl,aq,aD _,aR _,b3,bx,rfl⟩
    .rintro x H ⟨t,W,p,rfl,Q,u,hx,L,a0,e⟩ N q;simp only[sI];cases x with
     |zero=>have ca:decide ((0:Int)>=1)=false:=rfl;rw[Sort.shiftDown]at e;apply cE 8;simp only[go_sem,E,ca];exact q 0 _ _ al (by simp only[go_sem,Y,sI]) ⟨t,W,p,rfl,Q,u,L,a0,e⟩
     |succ x=>
      have ca:decide (((x+1:Nat):Int)>=1)=true:=bm O;rw[Sort.shiftDown]at e;have Z:=pA (j:=x) O;refine bd ca ?_;obtain⟨gs,cps,curs,T,S,evs,rfl,aS,ris,rjs,G,F,kis,kjs,aa⟩:=Ow.two a0 (fun{I} c a h=>ag.len c a h) (fun{I J c a} h k=>ag.le h k) (i:=x+1) (j:=x) O O;rw[L]at evs aS;simp only[Value.slice.injEq,bf,Addr.mk.injEq,dZ,fg]at evs;obtain⟨egs,eks⟩:=evs;subst egs;subst eks;refine bG [0,1,2,3,4,5,6,7,8,9,10,11,12] [4,9] [] ?_;refine bQ Z ?_;refine⟨O,?_⟩;refine Zn (l:=T) (v:=.agg T.toArray) rfl (cellsU Q (.tail _ (.head _)) (by simpa using kis)) (.inl ⟨by rw[G];exact b9,rfl⟩) ?_;refine bQ Z ?_;refine⟨O,?_⟩;refine Zn (l:=S) (v:=.agg S.toArray) rfl (cellsU Q (.tail _ (.head _)) (by simpa using kjs)) (.inl ⟨by rw[F];exact b9,rfl⟩) ?_;refine bQ Z ?_;refine cH Q [0] [] [_] rfl gf rfl (cf t _ _ _ _ ris rjs) ?_;rintro v I7 qs o m⟨rfl,z,rfl,K⟩;simp only[Z3]at o |-;refine bU ?_;apply aN;cases P:aV p[x+1]! p[x]! with
      |false=>rw[P]at K;rw[ah (by simp[P])]at e;apply cE 2;simp only[go_sem,E,K,dg];exact q (x+1) _ _ al (by simp only[go_sem,Y,sI]) ⟨I7,_,p,rfl,o,D u m,L,aw.le a0 m,e⟩
      |true=>rw[P]at K;rw[ab (by simp[P])]at e;apply RG;simp only[go_sem,E,K,cL];have mi:((x+1)+1)*7<=d.size*7:=cv _ O;have mj:(x+1)*7<=d.size*7:=cv _ O;refine bG [0,1,2,3,4,5,6,7,8,9,10,11,12,13,14,15,16,17] [9,13] [] ?_;refine bQ Z ?_;refine⟨O,?_⟩;refine Zn (l:=S) (v:=.agg S.toArray) rfl (cellsU o (.tail _ (.head _)) (by simpa using kjs)) (.inl ⟨by rw[F];exact b9,rfl⟩) ?_;refine bQ Z ?_;refine⟨O,?_⟩;refine Zn (l:=T) (v:=.agg T.toArray) rfl (cellsU o (.tail _ (.head _)) (by simpa using kis)) (.inl ⟨by rw[G];exact b9,rfl⟩) ?_;refine bQ Z ?_;refine⟨O,?_⟩;refine cY o rfl rfl rfl rfl rfl (dN (ag.ones rjs)) (by rw[F];exact eM) (by rw[F];omega) fun a6=>?_;refine bQ Z ?_;refine⟨O,?_⟩;refine cY a6 rfl rfl rfl rfl rfl (dN (ag.ones ris)) (by rw[G];exact eM) (by rw[G];simp[eL];omega) fun b6=>?_;apply aN;refine bd Z ?_;exact N x _ _ O al (by simp only[go_sem,Y,sI]) ⟨I7,_,_,rfl,b6,D u m,O,by rw[iU];exact L,aa I7 m,e⟩
    rintro y H ⟨I5,A5,d5',rfl,bc,ap,bb,bs,cs⟩;exact hm () _ _ (fE (by simp only[go_sem,Y,sI,E])) (by simp only[go_sem,Y,jq,sI]) ⟨I5,A5,rfl,bc,ap,by rw[B,<-cs];exact bb,by rw[B,<-cs];exact bs⟩
  rintro _ H ⟨I5,A5,rfl,bc,ap,bb,bs⟩;simp only[jq];have k5:=D k3 ap;clear aq bx b3 C R;apply GJ (fun _:Unit=>jq (.slice (some ⟨g0,0,none⟩) d.size vk) (E a) (E b) (.func (.func f) fst cap) (st,i+1)) (fun _ H=>∃I7 A7,H=U [I7,A7]/\Dj [I7,A7]/\I5.le I7/\p.size=d.size/\aw I7 A7 (.slice (some ⟨g0,0,none⟩) d.size vk) p.toList)
  .intro hm;rcases aK (b-(i+1)) 2 with a7|a7
   .have a2:decide (((b-(i+1):Nat):Int)>=2)=false:=ch O;rw[ab (show ¬(b-(i+1)>=2) by omega)]at w;apply cE 9;simp only[go_sem,E,w6,a2];exact hm () _ _ al (by simp only[go_sem,Y,jq]) ⟨I5,_,rfl,bc,aD _,by rw[w];exact bb,by rw[w];exact bs⟩
   .have a2:decide (((b-(i+1):Nat):Int)>=2)=true:=bm O;rw[ah (show b-(i+1)>=2 from a7)]at w;refine nB w6 a2 w7 ?_;apply gO (fun x=>b-x) (fun x=>sJ (.slice (some ⟨g0,0,none⟩) d.size vk) (E a) (E b) (.func (.func f) fst cap) st (i+1) x) (fun x H=>∃t W p,H=U [t,W]/\Dj [t,W]/\I5.le t/\i+1+1<=x/\x<=b/\p.size=d.size/\aw t W (.slice (some ⟨g0,0,none⟩) d.size vk) p.toList/\Sort.shiftUp aV b x p=Sort.shiftUp aV b (i+1+1) d5) (fun x H=>∃t W p,H=U [t,W]/\Dj [t,W]/\I5.le t/\p.size=d.size/\aw t W (.slice (some ⟨g0,0,none⟩) d.size vk) p.toList/\p=Sort.shiftUp aV b (i+1+1) d5) (i+1+1)
    .exact al
    .exact(by simp only[go_sem,Y,sJ])
    .exact⟨I5,_,d5,rfl,bc,aD _,aR _,O,bb,bs,rfl⟩
    .rintro x H ⟨t,W,p,rfl,Q,u,hx,b1,L,a0,e⟩ N q;simp only[sJ];rw[Sort.shiftUp]at e;rcases aK x b with ba|ba
     rotate_left
     .have a1:decide ((x:Int)<(b:Int))=false:=ch O;rw[ab O]at e;apply cE 9;simp only[go_sem,E,a1];exact q x _ _ al (by simp only[go_sem,Y,sJ]) ⟨t,W,p,rfl,Q,u,L,a0,e⟩
     .have a1:=Z5 x b;obtain⟨x,rfl⟩:∃x',x=x'+1:=⟨x-1,O⟩;rw[ah ba,uz]at e;have Z:=pA (j:=x) O;have q2:IntKind.i64.wrap (((x+1:Nat):Int)+1)=((x+1+1:Nat):Int):=by have e0:((x+1:Nat):Int)+1=((x+1+1:Nat):Int):=O;rw[e0];exact wrap64 O
      refine bd a1 ?_;obtain⟨gs,cps,curs,T,S,evs,rfl,aS,ris,rjs,G,F,kis,kjs,aa⟩:=Ow.two a0 (fun{I} c a h=>ag.len c a h) (fun{I J c a} h k=>ag.le h k) (i:=x+1) (j:=x) O O;rw[L]at evs aS;simp only[Value.slice.injEq,bf,Addr.mk.injEq,dZ,fg]at evs;obtain⟨egs,eks⟩:=evs;subst egs;subst eks;refine bG [0,1,2,3,4,5,6,7,8,9,10,11,12] [4,9] [] ?_;refine bQ Z ?_;refine⟨O,?_⟩;refine Zn (l:=T) (v:=.agg T.toArray) rfl (cellsU Q (.tail _ (.head _)) (by simpa using kis)) (.inl ⟨by rw[G];exact b9,rfl⟩) ?_;refine bQ Z ?_;refine⟨O,?_⟩;refine Zn (l:=S) (v:=.agg S.toArray) rfl (cellsU Q (.tail _ (.head _)) (by simpa using kjs)) (.inl ⟨by rw[F];exact b9,rfl⟩) ?_;refine bQ Z ?_;refine cH Q [0] [] [_] rfl gf rfl (cf t _ _ _ _ ris rjs) ?_;rintro v I7 qs o m⟨rfl,z,rfl,K⟩;simp only[Z3]at o |-;refine bU ?_;apply aN;cases P:aV p[x+1]! p[x]! with
      |false=>rw[P]at K;rw[ah (by simp[P])]at e;apply cE 2;simp only[go_sem,E,K,dg];exact q (x+1) _ _ al (by simp only[go_sem,Y,sJ]) ⟨I7,_,p,rfl,o,D u m,L,aw.le a0 m,e⟩
      |true=>rw[P]at K;rw[ab (by simp[P])]at e;apply RG;simp only[go_sem,E,K,cL];have mi:((x+1)+1)*7<=d.size*7:=cv _ O;have mj:(x+1)*7<=d.size*7:=cv _ O;refine bG [0,1,2,3,4,5,6,7,8,9,10,11,12,13,14,15,16,17] [9,13] [] ?_;refine bQ Z ?_;refine⟨O,?_⟩;refine Zn (l:=S) (v:=.agg S.toArray) rfl (cellsU o (.tail _ (.head _)) (by simpa using kjs)) (.inl ⟨by rw[F];exact b9,rfl⟩) ?_;refine bQ Z ?_;refine⟨O,?_⟩;refine Zn (l:=T) (v:=.agg T.toArray) rfl (cellsU o (.tail _ (.head _)) (by simpa using kis)) (.inl ⟨by rw[G];exact b9,rfl⟩) ?_;refine bQ Z ?_;refine⟨O,?_⟩;refine cY o rfl rfl rfl rfl rfl (dN (ag.ones rjs)) (by rw[F];exact eM) (by rw[F];omega) fun a6=>?_;refine bQ Z ?_;refine⟨O,?_⟩;refine cY a6 rfl rfl rfl rfl rfl (dN (ag.ones ris)) (by rw[G];exact eM) (by rw[G];simp[eL];omega) fun b6=>?_;apply aN;refine bd q2 ?_;exact N (x+1+1) _ _ O al (by simp only[go_sem,Y,sJ]) ⟨I7,_,_,rfl,b6,D u m,O,O,by rw[iU];exact L,aa I7 m,e⟩
    rintro y H ⟨I7,A7,d7,rfl,o,m,b2,b8,cr⟩;exact hm () _ _ (fE (by simp only[go_sem,Y,sJ,E])) (by simp only[go_sem,Y,jq,sJ]) ⟨I7,A7,rfl,o,m,by rw[w,<-cr];exact b2,by rw[w,<-cr];exact b8⟩
  rintro _ H ⟨I7,A7,rfl,o,m,b2,b8⟩;simp only[jq];refine bd ws ?_;exact a4 (st+1,i+1) _ _ bi al (by simp only[go_sem,Y,jq]) ⟨I7,A7,p,rfl,o,D k5 m,by simp only;omega,by simp only;omega,by simp only;omega,b2,b8,by simp only;rw[c1];exact n⟩
 .have cl:decide ((st:Int)<5)=false:=ch O;have:st=5:=O;subst this;rw[Nat.sub_self,Sort.partialIns]at n;refine bd cl ?_;exact az rfl cx (r:=[.bool false]) rfl a5 ⟨A2,rfl,by rw[<-n];exact cy,by rw[<-n];rfl⟩
theorem VM{a b pivot:Nat}(hA:aw I A v d.toList)(hc:it ag aV vc)(cm:a<=pivot)(cb:pivot<b)(hb:b<=d.size)(hn:d.size<=ar):
  Zu 277 #[v,E a,E b,E pivot,vc] I [A] fun r I2 qs=>∃A2,qs=[A2]/\aw I2 A2 v (Sort.partitionEqual aV d a b pivot).2.toList/\r=E (Sort.partitionEqual aV d a b pivot).1:=by
 intro hd;unfold ar at hn;obtain⟨f,fst,cap,rfl,gf,cf⟩:=id hc;obtain⟨g0,X,rfl⟩:=Ow.addr hA O;refine aP 90 func277 fun w0=>?_
 try simp only[E]
 have w1:IntKind.i64.wrap ((a:Int)+1)=((a+1:Nat):Int):=by have e0:(a:Int)+1=((a+1:Nat):Int):=O;rw[e0];exact wrap64 O
 have w2:IntKind.i64.wrap ((b:Int)-1)=((b-1:Nat):Int):=by rw[kr O];omega
 refine ai ?_;obtain⟨g,cp,cur,V,T,ev,rfl,N,ri,rj,R,Q,ki,kj,C⟩:=Ow.two hA (fun{I} c a h=>ag.len c a h) (fun{I J c a} h k=>ag.le h k) (i:=a) (j:=pivot) O O;simp only[Value.slice.injEq,bf,Addr.mk.injEq,dZ,fg]at ev;obtain⟨eg,ek⟩:=ev;subst eg;subst ek;have mi:(a+1)*7<=d.size*7:=cv _ O;have mj:(pivot+1)*7<=d.size*7:=cv _ O;refine bG [0,1,2,3,4,5,6,7,8,9,10,11,12,13,14,15] [7,11] [] ?_;refine bU ?_;refine⟨O,?_⟩;refine Zn (l:=T) (v:=.agg T.toArray) rfl (cellsU hd (.tail _ (.head _)) (by simpa using kj)) (.inl ⟨by rw[Q];exact b9,rfl⟩) ?_;refine bU ?_;refine⟨O,?_⟩;refine Zn (l:=V) (v:=.agg V.toArray) rfl (cellsU hd (.tail _ (.head _)) (by simpa using ki)) (.inl ⟨by rw[R];exact b9,rfl⟩) ?_;refine bU ?_;refine⟨O,?_⟩;refine cY hd rfl rfl rfl rfl rfl (dN (ag.ones rj)) (by rw[Q];exact eM) (by rw[Q];omega) fun a7=>?_;refine bU ?_;refine⟨O,?_⟩;refine cY a7 rfl rfl rfl rfl rfl (dN (ag.ones ri)) (by rw[R];exact eM) (by rw[R];simp[eL];omega) fun b7=>?_;apply aN;have bx:=C I (aD _);have bc:(Sort.swp d a pivot).size=d.size:=(iU _ _ _).trans rfl;obtain⟨d4,ed4⟩:∃d4,d4=Sort.swp d a pivot:=⟨_,rfl⟩;have hP:Sort.partitionEqual aV d a b pivot=Sort.partEqLoop aV a (a+1) (b-1) d4:=by rw[ed4];rfl
 rw[<-ed4]at bx bc;rw[hP];clear hP;refine d6 w1 w2 ?_;apply gO (fun x=>x.2+3-x.1) (fun x=>iQ (.slice (some ⟨g0,0,none⟩) d.size X) (E a) (.func (.func f) fst cap) x) (fun x H=>∃P A5 n,H=U [P,A5]/\Dj [P,A5]/\I.le P/\n.size=d.size/\aw P A5 (.slice (some ⟨g0,0,none⟩) d.size X) n.toList/\1<=x.1/\x.1<=x.2+2/\x.2<=b-1/\Sort.partEqLoop aV a x.1 x.2 n=Sort.partEqLoop aV a (a+1) (b-1) d4) (fun x H=>∃P A5,H=U [P,A5]/\Dj [P,A5]/\I.le P/\aw P A5 (.slice (some ⟨g0,0,none⟩) d.size X) (Sort.partEqLoop aV a (a+1) (b-1) d4).2.toList/\x.1=(Sort.partEqLoop aV a (a+1) (b-1) d4).1) (a+1,b-1)
 .exact al
 .exact(by simp only[go_sem,Y,iQ])
 .exact⟨I,_,d4,rfl,b7,aD _,bc,bx,by simp only;omega,by simp only;omega,by simp only;omega,rfl⟩
 .rintro⟨i5,F⟩ H ⟨P,A5,n,rfl,cl,a3,ap,cr,b3,a5,b2,L⟩ aa ac;simp only at b3 a5 b2 L;simp only[iQ];refine bJ ?_;apply gO (fun x=>F+2-x) (fun x=>iQ (.slice (some ⟨g0,0,none⟩) d.size X) (E a) (.func (.func f) fst cap) (x,F)) (fun x H=>∃o B,H=U [o,B]/\Dj [o,B]/\P.le o/\aw o B (.slice (some ⟨g0,0,none⟩) d.size X) n.toList/\i5<=x/\x<=F+2/\Sort.scanUp (fun y=>!aV n[a]! y) n F x=Sort.scanUp (fun y=>!aV n[a]! y) n F i5) (fun x H=>∃o B,H=U [o,B]/\Dj [o,B]/\P.le o/\aw o B (.slice (some ⟨g0,0,none⟩) d.size X) n.toList/\i5<=x/\x<=F+2/\x=Sort.scanUp (fun y=>!aV n[a]! y) n F i5) i5
  .exact al
  .exact(by simp only[go_sem,Y,iQ])
  .exact⟨P,_,rfl,‹_›,aD _,‹_›,aR _,O,rfl⟩
  .rintro x H ⟨o,B,rfl,u,p,w,bb,S,e⟩ G q;simp only[iQ];rcases aK F x with b4|b1
   .have s:decide (((x:Nat):Int)<=((F:Nat):Int))=false:=ch O;rw[Sort.scanUp,ab (by simp;omega)]at e;have aS:=e;refine bJ ?_;refine bG [0,1,2,3,4,5,6,7,8,9,10,11,12,13,14,15,16] [8,12] [] ?_;refine bQ s ?_;apply aN;apply cE 3;simp only[go_sem,E];exact q x _ _ al (by simp only[go_sem,Y,iQ]) ⟨o,B,rfl,u,p,w,bb,S,aS⟩
   .have s:decide (((x:Nat):Int)<=((F:Nat):Int))=true:=bm O;rw[Sort.scanUp]at e;have p1:IntKind.i64.wrap ((x:Int)+1)=((x+1:Nat):Int):=by have e0:(x:Int)+1=((x+1:Nat):Int):=O;rw[e0];exact wrap64 O
    obtain⟨g,cp,cur,V,T,ev,rfl,N,ri,rj,R,Q,ki,kj,C⟩:=Ow.two w (fun{I} c a h=>ag.len c a h) (fun{I J c a} h k=>ag.le h k) (i:=x) (j:=a) O O;rw[ap]at ev N;simp only[Value.slice.injEq,bf,Addr.mk.injEq,dZ,fg]at ev;obtain⟨eg,ek⟩:=ev;subst eg;subst ek;refine bJ ?_;refine bG [0,1,2,3,4,5,6,7,8,9,10,11,12,13,14,15,16] [8,12] [] ?_;refine bQ s ?_;refine⟨O,?_⟩;refine Zn (l:=T) (v:=.agg T.toArray) rfl (cellsU u (.tail _ (.head _)) (by simpa using kj)) (.inl ⟨by rw[Q];exact b9,rfl⟩) ?_;refine bQ s ?_;refine⟨O,?_⟩;refine Zn (l:=V) (v:=.agg V.toArray) rfl (cellsU u (.tail _ (.head _)) (by simpa using ki)) (.inl ⟨by rw[R];exact b9,rfl⟩) ?_;refine bQ s ?_;refine cH u [0] [] [_] rfl gf rfl (cf o _ _ _ _ rj ri) ?_;rintro v Jy qs K m⟨rfl,z,rfl,Z⟩;simp only[Z3]at K |-;refine bU ?_;apply aN;cases hl:aV n[a]! n[x]! with
    |true=>rw[hl]at Z;rw[ab (by simp[hl])]at e;apply cE 3;simp only[go_sem,E,Z,cL];exact q (x) _ _ al (by simp only[go_sem,Y,iQ]) ⟨Jy,_,rfl,K,D p m,aw.le w m,bb,S,e⟩
    |false=>rw[hl]at Z;rw[ah (by simp[hl];omega)]at e;apply RG;simp only[go_sem,E,Z,dg,p1];exact G (x+1) _ _ O al (by simp only[go_sem,Y,iQ]) ⟨Jy,_,rfl,K,D p m,aw.le w m,O,O,e⟩
  rintro t H ⟨I6,A6,rfl,cj,a2,cn,ci,hi6b,a6⟩;simp only[iQ];refine bJ ?_;apply gO (fun x=>x) (fun x=>iQ (.slice (some ⟨g0,0,none⟩) d.size X) (E a) (.func (.func f) fst cap) (t,x)) (fun x H=>∃o B,H=U [o,B]/\Dj [o,B]/\I6.le o/\aw o B (.slice (some ⟨g0,0,none⟩) d.size X) n.toList/\x<=F/\Sort.scanDown (fun y=>aV n[a]! y) n t x=Sort.scanDown (fun y=>aV n[a]! y) n t F) (fun x H=>∃o B,H=U [o,B]/\Dj [o,B]/\I6.le o/\aw o B (.slice (some ⟨g0,0,none⟩) d.size X) n.toList/\x<=F/\x=Sort.scanDown (fun y=>aV n[a]! y) n t F) F
  .exact al
  .exact(by simp only[go_sem,Y,iQ])
  .exact⟨I6,_,rfl,‹_›,aD _,‹_›,aR _,rfl⟩
  .rintro x H ⟨o,B,rfl,u,p,w,S,e⟩ G q;simp only[iQ];rcases aK x t with b4|b1
   .have s:decide (((t:Nat):Int)<=((x:Nat):Int))=false:=ch O;have aS:x=Sort.scanDown (fun y=>aV n[a]! y) n t F:=by
     rw[<-e];cases x with
     |zero=>rw[Sort.scanDown]
     |succ x=>rw[Sort.scanDown,ab (by simp;omega)]
    refine bJ ?_;refine bG [0,1,2,3,4,5,6,7,8,9,10,11,12,13,14,15] [8,12] [] ?_;refine bQ s ?_;apply aN;apply cE 3;simp only[go_sem,E];exact q x _ _ al (by simp only[go_sem,Y,iQ]) ⟨o,B,rfl,u,p,w,S,aS⟩
   .have s:decide (((t:Nat):Int)<=((x:Nat):Int))=true:=bm O;obtain⟨x,rfl⟩:∃x',x=x'+1:=⟨x-1,O⟩;have p1:=pA (j:=x) O;rw[Sort.scanDown]at e;obtain⟨g,cp,cur,V,T,ev,rfl,N,ri,rj,R,Q,ki,kj,C⟩:=Ow.two w (fun{I} c a h=>ag.len c a h) (fun{I J c a} h k=>ag.le h k) (i:=x+1) (j:=a) O O;rw[ap]at ev N;simp only[Value.slice.injEq,bf,Addr.mk.injEq,dZ,fg]at ev;obtain⟨eg,ek⟩:=ev;subst eg;subst ek;refine bJ ?_;refine bG [0,1,2,3,4,5,6,7,8,9,10,11,12,13,14,15] [8,12] [] ?_;refine bQ s ?_;refine⟨O,?_⟩;refine Zn (l:=T) (v:=.agg T.toArray) rfl (cellsU u (.tail _ (.head _)) (by simpa using kj)) (.inl ⟨by rw[Q];exact b9,rfl⟩) ?_;refine bQ s ?_;refine⟨O,?_⟩;refine Zn (l:=V) (v:=.agg V.toArray) rfl (cellsU u (.tail _ (.head _)) (by simpa using ki)) (.inl ⟨by rw[R];exact b9,rfl⟩) ?_;refine bQ s ?_;refine cH u [0] [] [_] rfl gf rfl (cf o _ _ _ _ rj ri) ?_;rintro v Jy qs K m⟨rfl,z,rfl,Z⟩;simp only[Z3]at K |-;refine bU ?_;apply aN;cases hl:aV n[a]! n[x+1]! with
    |true=>rw[hl]at Z;rw[ah (by simp[hl];omega)]at e;apply RG;simp only[go_sem,E,Z,cL,p1];exact G x _ _ O al (by simp only[go_sem,Y,iQ]) ⟨Jy,_,rfl,K,D p m,aw.le w m,O,e⟩
    |false=>rw[hl]at Z;rw[ab (by simp[hl])]at e;apply cE 3;simp only[go_sem,E,Z,dg];exact q (x+1) _ _ al (by simp only[go_sem,Y,iQ]) ⟨Jy,_,rfl,K,D p m,aw.le w m,S,e⟩
  rintro W H ⟨I7,A7,rfl,aq,a1,bs,cc,a4⟩;simp only[iQ];rw[Sort.partEqLoop_eq,<-a6,<-a4]at L;have ba:=D a3 (D a2 a1);by_cases am:t>W
  .have a9:decide ((t:Int)>(W:Int))=true:=bm O;rw[ah am]at L;apply cE 8;simp only[go_sem,E,a9];exact ac (t,W) _ _ al (by simp only[go_sem,Y,iQ]) ⟨I7,A7,rfl,aq,ba,by rw[<-L];exact bs,by rw[<-L]⟩
  have a9:decide ((t:Int)>(W:Int))=false:=ch O;rw[ab am]at L;refine bd a9 ?_;obtain⟨g,cp,cur,V,T,ev,rfl,N,ri,rj,R,Q,ki,kj,C⟩:=Ow.two bs (fun{I} c a h=>ag.len c a h) (fun{I J c a} h k=>ag.le h k) (i:=t) (j:=W) O O;rw[ap]at ev N;simp only[Value.slice.injEq,bf,Addr.mk.injEq,dZ,fg]at ev;obtain⟨eg,ek⟩:=ev;subst eg;subst ek;have mi:(t+1)*7<=d.size*7:=cv _ O;have mj:(W+1)*7<=d.size*7:=cv _ O;refine bG [0,1,2,3,4,5,6,7,8,9,10,11,12,13,14,15] [7,11] [] ?_;refine bU ?_;refine⟨O,?_⟩;refine Zn (l:=T) (v:=.agg T.toArray) rfl (cellsU aq (.tail _ (.head _)) (by simpa using kj)) (.inl ⟨by rw[Q];exact b9,rfl⟩) ?_;refine bU ?_;refine⟨O,?_⟩;refine Zn (l:=V) (v:=.agg V.toArray) rfl (cellsU aq (.tail _ (.head _)) (by simpa using ki)) (.inl ⟨by rw[R];exact b9,rfl⟩) ?_;refine bU ?_;refine⟨O,?_⟩;refine cY aq rfl rfl rfl rfl rfl (dN (ag.ones rj)) (by rw[Q];exact eM) (by rw[Q];omega) fun a7=>?_;refine bU ?_;refine⟨O,?_⟩;refine cY a7 rfl rfl rfl rfl rfl (dN (ag.ones ri)) (by rw[R];exact eM) (by rw[R];simp[eL];omega) fun b6=>?_;apply aN;have ca:=C I7 (aD _);have b0:(Sort.swp n t W).size=d.size:=(iU _ _ _).trans ap;have w8:IntKind.i64.wrap ((t:Int)+1)=((t+1:Nat):Int):=by have e0:(t:Int)+1=((t+1:Nat):Int):=O;rw[e0];exact wrap64 O
  have w9:IntKind.i64.wrap ((W:Int)-1)=((W-1:Nat):Int):=by rw[kr O];omega
  refine d6 w8 w9 ?_;exact aa (t+1,W-1) _ _ bi al (by simp only[go_sem,Y,iQ]) ⟨I7,_,_,rfl,b6,ba,b0,ca,by simp only;omega,by simp only;omega,by simp only;omega,L⟩
 rintro⟨i9,j9⟩ H ⟨I9,A9,rfl,b5,a0,b8,an⟩;simp only at an;simp only[iQ];rw[<-an];refine bJ ?_;exact az rfl b5 (r:=[E i9]) rfl a0 ⟨A9,rfl,b8,rfl⟩
open Go.Sort (PermIn SortedIn SWO permIn_refl permIn_trans permIn_mono swp_permIn)
def Ev:ay prog 224:=⟨_,func224,rfl,rfl⟩
def Qz:ay prog 147:=⟨_,func147,rfl,rfl⟩
def zG{α:Type}{C:Cx}{k:List Item}(S:α->St)(Z:α->PH->Prop){P:Prop}(h1:(∀a H,Z a H->RC C (.st k) (S a) H)->P)(h:∀a H,Z a H->RC C (.st k) (S a) H):P:=h1 h
structure zE where
 a:Nat
 b:Nat
 lim:Nat
 wb:Bool
 wp:Bool
def vY(v vc:Value)(x:zE):St:=⟨dn 148 [(0,.v v),(1,.v (E x.a)),(2,.v (E x.b)),(3,.v (E x.lim)),(4,.v vc),(10,.v (.bool x.wb)),(11,.v (.bool x.wp))],[]⟩
def vZ(v vc:Value)(x:zE)(lim:Nat):St:=⟨dn 148 [(0,.v v),(1,.v (E x.a)),(2,.v (E x.b)),(3,.v (E lim)),(4,.v vc),(10,.v (.bool x.wb)),(11,.v (.bool x.wp)),(12,.v (E (x.b-x.a)))],[]⟩
def BH(v vc:Value)(x:zE)(lim:Nat)(y:Nat×Nat):St:=⟨dn 148 [(0,.v v),(1,.v (E x.a)),(2,.v (E x.b)),(3,.v (E lim)),(4,.v vc),(10,.v (.bool x.wb)),(11,.v (.bool x.wp)),(12,.v (E (x.b-x.a))),(13,.v (E y.1)),(14,.v (E y.2))],[]⟩
def lD(v vc:Value)(x:zE)(lim p:Nat):St:=⟨dn 148 [(0,.v v),(1,.v (E x.a)),(2,.v (E x.b)),(3,.v (E lim)),(4,.v vc),(10,.v (.bool x.wb)),(11,.v (.bool x.wp)),(12,.v (E (x.b-x.a))),(13,.v (E p))],[]⟩
def KU(v:Value)(d:Array M)(a b:Nat):Value->PH->Zt->Prop:=fun _ g f=>∃c e,f=[c]/\aw g c v e.toList/\PermIn a b d e/\SortedIn aV a b e
theorem VO:∀(N:Nat) {I A:PH} {v vc:Value} {d:Array M} {a b lim:Nat},b-a<N->aw I A v d.toList->it ag aV vc->a<=b->b<=d.size->d.size<=ar->Sort.Below aV a b d->lim<2^60->
  Zu 224 #[v,E a,E b,E lim,vc] I [A] (KU v d a b):=by
 intro N
 induction N with
 |zero=>intro I A v vc d a b lim h;omega
 |succ N ih=>
 intro I A v vc d a b lim hN hA hc c7 hb hn hB b3 hd;have c1:=hn;unfold ar at c1;obtain⟨f,fst,cap,rfl,gf,cf⟩:=id hc;obtain⟨va,vk,rfl⟩:=Ow.one' hA;refine aP 148 func224 fun w0=>?_
 try simp only[E]
 refine ai ?_;refine bV (fun x=>x.b-x.a) (vY (.slice va d.size vk) (.func (.func f) fst cap)) (fun x H=>∃I2 A2 c,H=U [I2,A2]/\Dj [I2,A2]/\I.le I2/\aw I2 A2 (.slice va d.size vk) c.toList/\c.size=d.size/\x.a<=x.b/\a<=x.a/\x.b<=b/\x.lim<2^60/\Sort.Below aV x.a x.b c/\∀R,PermIn x.a x.b c R->SortedIn aV x.a x.b R->PermIn a b d R/\SortedIn aV a b R) ⟨a,b,lim,true,true⟩ al (by simp only[go_sem,Y,vY]) ?_ ?_
 .exact⟨I,A,d,rfl,hd,aD _,hA,rfl,c7,aR _,aR _,b3,hB,fun R h1 h2=>⟨h1,h2⟩⟩
 rintro x H ⟨I2,A2,c,rfl,bb,ac,bc,cx,a3,cA,ca,cy,cm,hG⟩ Z;simp only[vY];have X:x.b<=c.size:=O;have b0:c.size<=ar:=O;have w1:IntKind.i64.wrap ((x.b:Int)-(x.a:Int))=((x.b-x.a:Nat):Int):=by rw[fF O O];omega
 rcases aK 12 (x.b-x.a)with c6|b1
 rotate_left
 .have a7:decide (((x.b-x.a:Nat):Int)<=12)=true:=bm O;refine d6 w1 a7 ?_;refine av bb [0] [A2] [] rfl Q9 rfl (SE (a:=x.a) (b:=x.b) bc hc X b0 O) ?_;rintro v Q qs K u⟨L,rfl,T⟩;simp only[Z3]at K |-;refine bJ ?_;obtain⟨q1,q2⟩:=Sort.insertionSort_holds yX c x.a x.b a3 X;obtain⟨q3,q4⟩:=hG _ q1 q2;exact az rfl K (r:=[]) rfl (D ac u) ⟨L,_,rfl,T,q3,q4⟩
 have a7:decide (((x.b-x.a:Nat):Int)<=12)=false:=ch O;by_cases c3:x.lim=0
 .have bs:((x.lim:Int) == 0)=true:=by rw[c3];rfl
  refine nB w1 a7 bs ?_;refine av bb [0] [A2] [] rfl Ra rfl (Si (a:=x.a) (b:=x.b) bc hc a3 X b0) ?_;rintro v Q qs K u⟨L,rfl,T⟩;simp only[Z3]at K |-;refine bJ ?_;obtain⟨q1,q2⟩:=Sort.heapSort_holds yX c x.a x.b a3 X;obtain⟨q3,q4⟩:=hG _ q1 q2;exact az rfl K (r:=[]) rfl (D ac u) ⟨L,_,rfl,T,q3,q4⟩
 have bs:((x.lim:Int) == 0)=false:=by rw[i7];omega
 apply zG (vZ (.slice va d.size vk) (.func (.func f) fst cap) x) (fun o H=>∃Q L e,H=U [Q,L]/\Dj [Q,L]/\I2.le Q/\aw Q L (.slice va d.size vk) e.toList/\PermIn x.a x.b c e/\o<2^60)
 .intro n;cases a9:x.wb
  .apply RG;simp only[go_sem,E,w1,a7,bs,a9,dg];refine av bb [0] [A2] [] rfl Rb rfl (OD (a:=x.a) (b:=x.b) bc a3 X b0) ?_;rintro v Q qs K u⟨L,e,rfl,a2,T⟩;simp only[Z3]at K |-;have w2:IntKind.i64.wrap ((x.lim:Int)-1)=((x.lim-1:Nat):Int):=by rw[kr O];omega
   apply cE 6;simp only[go_sem,E,w2];refine gP ?_ ?_ (n (x.lim-1) _ ⟨Q,L,e,rfl,K,u,T,a2,O⟩)
   .simp only[vZ,a9];exact al
   .exact(by simp only[go_sem,Y,vZ])
  .apply cE 32;simp only[go_sem,E,w1,a7,bs,a9,cL];refine gP ?_ ?_ (n x.lim _ ⟨I2,A2,c,rfl,bb,aD _,bc,permIn_refl _ _ _,cy⟩)
   .simp only[vZ,a9];exact al
   .exact(by simp only[go_sem,Y,vZ])
 rintro o H ⟨Q,L,e3,rfl,K,u,T,a2,G⟩;have cs:=a2.1;simp only[vZ];refine bJ ?_;refine av K [0] [L] [] rfl Rc rfl (VR (a:=x.a) (b:=x.b) T hc O O O) ?_;rintro v I4 qs ba aa⟨p,h,W,V,hh,rfl,rfl⟩;simp only[Z3]at ba |-;have b6:=aw.le T aa;apply zG (BH (.slice va d.size vk) (.func (.func f) fst cap) x o) (fun y H=>∃Q L e,H=U [Q,L]/\Dj [Q,L]/\I2.le Q/\aw Q L (.slice va d.size vk) e.toList/\PermIn x.a x.b c e/\x.a<=y.1/\y.1<x.b/\y.2<=2)
 .intro n;by_cases c4:h=2
  .have b8:((h:Int) == 2)=true:=by rw[c4];rfl
   refine bd b8 ?_;refine av ba [0] [L] [] rfl Rd rfl (Ws (vc:=(.func (.func f) fst cap)) (a:=x.a) (b:=x.b) b6 O O O) ?_;rintro v I5 qs B s⟨A5,rfl,F⟩;simp only[Z3]at B |-;have w3:IntKind.i64.wrap ((x.b:Int)-1)=((x.b-1:Nat):Int):=by rw[kr O];omega
   have w4:IntKind.i64.wrap ((p:Int)-(x.a:Int))=((p-x.a:Nat):Int):=by rw[fF O O];omega
   have w5:IntKind.i64.wrap (((x.b-1:Nat):Int)-((p-x.a:Nat):Int))=((x.b-1-(p-x.a):Nat):Int):=by rw[fF O O];omega
   apply cE 14;simp only[go_sem,E,w3,w4,w5];refine gP ?_ ?_ (n (x.b-1-(p-x.a),1) _ ⟨I5,A5,_,rfl,B,D u (D aa s),F,permIn_trans _ _ _ x.a x.b a2 (Sort.reverseRange_holds e3 x.a x.b a3 O),by simp only;omega,by simp only;omega,by simp only;omega⟩)
   .exact al
   .exact(by simp only[go_sem,Y,BH])
  .have b8:((h:Int) == 2)=false:=by rw[i7];omega
   apply cE 14;simp only[go_sem,E,b8];refine gP ?_ ?_ (n (p,h) _ ⟨I4,L,e3,rfl,ba,D u aa,b6,a2,W,V,hh⟩)
   .exact al
   .exact(by simp only[go_sem,Y,BH])
 clear W V hh ba b6 aa K T a2 u cs;clear p h I4 Q L e3;rintro⟨p,h⟩ H ⟨I5,A5,e5,rfl,B,s,F,w,W,V,hh⟩;have bx:=w.1;simp only at W V hh;simp only[BH];apply zG (lD (.slice va d.size vk) (.func (.func f) fst cap) x o) (fun y H=>∃Q L e,H=U [Q,L]/\Dj [Q,L]/\I2.le Q/\aw Q L (.slice va d.size vk) e.toList/\PermIn x.a x.b c e/\y=p)
 .intro n;by_cases cb:x.wb=true/\x.wp=true/\h=1
  .obtain⟨g1,g2,g3⟩:=cb;have b7:((h:Int) == 1)=true:=by rw[g3];rfl
   refine nB g1 g2 b7 ?_;refine av B [0] [A5] [] rfl Re rfl (VQ (a:=x.a) (b:=x.b) F hc O O O) ?_;rintro v I6 qs S t⟨A6,rfl,cn,rfl⟩;simp only[Z3]at S |-;obtain⟨q1,q2⟩:=Sort.partialInsertionSort_holds yX e5 x.a x.b O O (cm.perm X w);have k6:=D ac (D s t);cases b2:(Sort.partialInsertionSort aV e5 x.a x.b).2
   .apply cE 3;simp only[go_sem,E,b2];refine gP ?_ ?_ (n p _ ⟨I6,A6,_,rfl,S,D s t,cn,permIn_trans _ _ _ x.a x.b w q1,rfl⟩)
    .simp only[lD,g1,g2];exact al
    .exact(by simp only[go_sem,Y,lD])
   .refine bd b2 ?_;obtain⟨q3,q4⟩:=hG _ (permIn_trans _ _ _ x.a x.b w q1) (q2 b2);exact az rfl S (r:=[]) rfl k6 ⟨A6,_,rfl,cn,q3,q4⟩
  .cases g1:x.wb
   .apply cE 14;simp only[go_sem,E,g1];refine gP ?_ ?_ (n p _ ⟨I5,A5,e5,rfl,B,s,F,w,rfl⟩)
    .simp only[lD,g1];exact al
    .exact(by simp only[go_sem,Y,lD])
   .cases g2:x.wp
    .apply cE 14;simp only[go_sem,E,g1,g2];refine gP ?_ ?_ (n p _ ⟨I5,A5,e5,rfl,B,s,F,w,rfl⟩)
     .simp only[lD,g1,g2];exact al
     .exact(by simp only[go_sem,Y,lD])
    .have b7:((h:Int) == 1)=false:=by rw[i7];intro e;exact cb ⟨g1,g2,O⟩
     apply cE 14;simp only[go_sem,E,g1,g2,b7];refine gP ?_ ?_ (n p _ ⟨I5,A5,e5,rfl,B,s,F,w,rfl⟩)
     .simp only[lD,g1,g2];exact al
     .exact(by simp only[go_sem,Y,lD])
 clear B F w s bx;clear I5 A5 e5;rintro y H ⟨I5,A5,e5,rfl,B,s,F,w,rfl⟩;have bx:=w.1;have cl:=cm.perm X w;have k5:=D ac s;simp only[lD];have part:∀(C:Cx) (k:List Item),True:=fun _ _=>trivial;clear part;obtain⟨g0,rfl⟩:∃g0,va=some ⟨g0,0,none⟩:=by obtain⟨g,c',ev⟩:=Ow.addr F O;simp only[Value.slice.injEq]at ev;exact⟨g,ev.1⟩
 apply zG (α:=Unit) (fun _=>lD (.slice (some ⟨g0,0,none⟩) d.size vk) (.func (.func f) fst cap) x o y) (fun _ H=>∃I6,H=U [I6,A5]/\Dj [I6,A5]/\I5.le I6)
 .intro n;rcases jA x.a with cc|cc
  .have a6:decide ((x.a:Int)>0)=false:=ch O;refine bJ ?_;refine bG [0,1,2,3,4,5,6,7,8,9,10,11,12,13,14,15,16] [8,12] [] ?_;refine bQ a6 ?_;apply aN;apply cE 2;simp only[go_sem,E];refine gP ?_ ?_ (n () _ ⟨I5,rfl,B,aD _⟩)
   .exact al
   .exact(by simp only[go_sem,Y,lD])
  .have a6:decide ((x.a:Int)>0)=true:=bm O;have w6:IntKind.i64.wrap ((x.a:Int)-1)=((x.a-1:Nat):Int):=by rw[kr O];omega
   obtain⟨g,cp,cur,ci,cj,ev,rfl,c5,ri,rj,li,lj,ki,kj,c0⟩:=Ow.two F (fun{I} c a h=>ag.len c a h) (fun{I J c a} h k=>ag.le h k) (i:=x.a-1) (j:=y) O O;rw[bx.trans cx]at ev c5;simp only[Value.slice.injEq,bf,Addr.mk.injEq,dZ,fg]at ev;obtain⟨eg,ek⟩:=ev;subst eg;subst ek;refine bJ ?_;refine bG [0,1,2,3,4,5,6,7,8,9,10,11,12,13,14,15,16] [8,12] [] ?_;refine lg a6 w6 ?_;refine⟨O,?_⟩;refine Zn (l:=ci) (v:=.agg ci.toArray) rfl (cellsU B (.tail _ (.head _)) (by simpa using ki)) (.inl ⟨by rw[li];exact b9,rfl⟩) ?_;refine lg a6 w6 ?_;refine⟨O,?_⟩;refine Zn (l:=cj) (v:=.agg cj.toArray) rfl (cellsU B (.tail _ (.head _)) (by simpa using kj)) (.inl ⟨by rw[lj];exact b9,rfl⟩) ?_;refine lg a6 w6 ?_;refine cH B [0] [] [_] rfl gf rfl (cf I5 _ _ _ _ ri rj) ?_;rintro v I6 qs S t⟨rfl,z,rfl,hz⟩;simp only[Z3]at S |-;refine bU ?_;apply aN;cases am:aV e5[x.a-1]! e5[y]! with
   |true=>
    rw[am]at hz;apply cE 2;simp only[go_sem,E,hz,cL];refine gP ?_ ?_ (n () _ ⟨I6,rfl,S,t⟩)
    .exact al
    .exact(by simp only[go_sem,Y,lD])
   |false=>
    rw[am]at hz;apply RG;simp only[go_sem,E,hz,dg];refine av S [0] [_] [] rfl Rf rfl (VM (a:=x.a) (b:=x.b) (pivot:=y) (aw.le F t) hc W V O O) ?_;rintro v I7 qs a1 aq⟨A7,rfl,aS,rfl⟩;simp only[Z3]at a1 |-;obtain⟨m,e7,hx⟩:∃m e7,Sort.partitionEqual aV e5 x.a x.b y=(m,e7):=⟨_,_,rfl⟩;rw[hx]at aS |-;obtain⟨r1,r2,r3,r4,r5⟩:=Sort.round_eq yX (Sort.partitionEqual_holds aV) cc W V O cl am hx;refine bJ ?_;exact Z ⟨m,x.b,o,x.wb,x.wp⟩ _ _ bi al (by simp only[go_sem,Y,vY]) ⟨I7,A7,e7,rfl,a1,D k5 (D t aq),aS,O,r2,by simp only;omega,ca,G,r4,fun R p q=>by obtain⟨s1,s2⟩:=r5 R p q;exact hG R (permIn_trans _ _ _ x.a x.b w s1) s2⟩
 rintro⟨⟩ H ⟨I6,rfl,S,t⟩;simp only[lD];refine bJ ?_;refine av S [0] [A5] [] rfl Rg rfl (VK (a:=x.a) (b:=x.b) (pivot:=y) (aw.le F t) hc W V O O) ?_;rintro v I7 qs a1 aq⟨A7,rfl,aS,rfl⟩;simp only[Z3]at a1 |-;obtain⟨m,ap,e7,hx⟩:∃m ap e7,Sort.partition aV e5 x.a x.b y=(m,ap,e7):=⟨_,_,_,rfl⟩;rw[hx]at aS |-;obtain⟨r1,r2,r3,r4,r5,r6,r7⟩:=Sort.round_part yX (Sort.partition_holds aV) W V O cl hx;have k7:=D k5 (D t aq);simp only at aS;have w7:IntKind.i64.wrap ((m:Int)-(x.a:Int))=((m-x.a:Nat):Int):=by rw[fF O O];omega
 have w8:IntKind.i64.wrap ((x.b:Int)-(m:Int))=((x.b-m:Nat):Int):=by rw[fF O O];omega
 have w9:IntKind.i64.wrap ((((x.b-x.a:Nat):Int)).tdiv 8)=(((x.b-x.a) / 8:Nat):Int):=by rw[show (((x.b-x.a:Nat):Int)).tdiv 8=(((x.b-x.a) / 8:Nat):Int) from rfl,wrap64 O]
 have w10:IntKind.i64.wrap ((m:Int)+1)=((m+1:Nat):Int):=by have e0:(m:Int)+1=((m+1:Nat):Int):=O;rw[e0];exact wrap64 O
 rcases aK (m-x.a) (x.b-m)with c2|c2
 .have a0:=Z5 (m-x.a) (x.b-m);apply RG;simp only[go_sem,E,w7,w8,w9,a0];refine av a1 [0] [A7] [] rfl Ev rfl (ih (a:=x.a) (b:=m) (lim:=o) O aS hc r1 O O r4 G) ?_;rintro v I8 qs a4 an⟨A8,e8,rfl,b5,a5,b4⟩;simp only[Z3]at a4 |-;obtain⟨t1,t2⟩:=r6 e8 a5 b4;have cr:=a5.1;refine bd w10 ?_;exact Z ⟨m+1,x.b,o,decide (((m-x.a:Nat):Int)>=(((x.b-x.a) / 8:Nat):Int)),ap⟩ _ _ bi al (by simp only[go_sem,Y,vY]) ⟨I8,A8,e8,rfl,a4,D k7 an,b5,O,by simp only;omega,by simp only;omega,ca,G,t1,fun R p q=>by obtain⟨s1,s2⟩:=t2 R p q;exact hG R (permIn_trans _ _ _ x.a x.b w s1) s2⟩
 .have a0:decide (((m-x.a:Nat):Int)<((x.b-m:Nat):Int))=false:=ch O;apply RG;simp only[go_sem,E,w7,w8,w9,a0,w10];refine av a1 [0] [A7] [] rfl Ev rfl (ih (a:=m+1) (b:=x.b) (lim:=o) O aS hc O O O r5 G) ?_;rintro v I8 qs a4 an⟨A8,e8,rfl,b5,a5,b4⟩;simp only[Z3]at a4 |-;obtain⟨t1,t2⟩:=r7 e8 a5 b4;have cr:=a5.1;refine bJ ?_;exact Z ⟨x.a,m,o,decide (((x.b-m:Nat):Int)>=(((x.b-x.a) / 8:Nat):Int)),ap⟩ _ _ bi al (by simp only[go_sem,Y,vY]) ⟨I8,A8,e8,rfl,a4,D k7 an,b5,O,r1,cA,by simp only;omega,G,t1,fun R p q=>by obtain⟨s1,s2⟩:=t2 R p q;exact hG R (permIn_trans _ _ _ x.a x.b w s1) s2⟩
def Xb(m:aw I A v d.toList)(l:it ag aV vc)(k:d.size<=ar):
  Zu 147 #[v,vc] I [A] (KU v d 0 d.size):=by
 intro hd;have g:=k;unfold ar at g;obtain⟨f,fst,cap,rfl,x,y⟩:=id l;obtain⟨u,t,rfl⟩:=Ow.one' m;have q:Sort.bitsLen d.size<=41:=(Sort.bitsLen_le_iff d.size 41).2 O;have o:=wJ (n:=d.size) O;refine aP 14 func147 fun w0=>?_;refine dB o ?_;refine Zl rfl IM (JM O _) ?_;rintro v H2⟨rfl,rfl⟩;refine bJ ?_;refine av hd [0] [A] [] rfl Ev rfl (VO (d.size-0+1) (a:=0) (b:=d.size) (lim:=Sort.bitsLen d.size) O m l (aE _) (aR _) k (.inl rfl) O) ?_;rintro v z w e c⟨s,e2,rfl,j,i,h⟩;simp only[Z3]at e |-;refine bJ ?_;exact jX rfl e (r:=[]) rfl c ⟨s,e2,rfl,j,i,h⟩
end Go.Proofs.YtfaclfkpnmcmlaaGreatDoor
