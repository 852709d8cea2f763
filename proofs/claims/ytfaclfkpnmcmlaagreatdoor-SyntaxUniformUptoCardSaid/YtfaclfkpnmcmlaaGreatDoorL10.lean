/- Proved: for all lists of items and cubes and any two configurations, of bulk at most 1048576 in all, the law SyntaxUniform answers true and leaves its arguments as they were. Condition: the six package variables that the row lists hold what they hold when the program starts. -/
import Derived.Test.YtfaclfkpnmcmlaaGreatDoorL00
import Derived.Test.YtfaclfkpnmcmlaaGreatDoorL06
import Derived.Test.YtfaclfkpnmcmlaaGreatDoorL09
import Derived.Deep.Slices
import Derived.Deep.Strs
import Derived.Deep.DeepHandedRow
import Derived.Deep.DeepWitnessRowRef
import Derived.ProofKit
import Derived.ChangeSame
import Derived.RowKit
import Derived.LaidMore
import Derived.LaidHandle
import Derived.Lib.LaidU8
import Derived.SevenTiedAt
import Derived.Test.YtfaclfkpnmcmlaaGreatDoorRows
import Derived.Test.YtfaclfkpnmcmlaaGreatDoorCards
import Derived.Test.YtfaclfkpnmcmlaaGreatDoorTie
import Derived.Carry
import Derived.MakeChecks
import Derived.OpenShut
set_option maxHeartbeats 8000000
set_option linter.all false
open Go.Proofs.Tryz
namespace Go.Proofs.YtfaclfkpnmcmlaaGreatDoor
open Go Go.Sx Dg Syn
def Ix:ay prog 117:=⟨_,func117,rfl,rfl⟩
def Rt:ay prog 61:=⟨_,func61,rfl,rfl⟩
mutual
def CR:M->Prop
 |⟨_,_,_,_,ks,d⟩=>(∀m∈ks,m.cond=d)/\NoL ks
def NoL:List M->Prop
 | []=>True
 |n::l=>CR n/\NoL l
end
theorem NoN_eq(n:M):CR n<->(∀m∈n.kids,m.cond=n.cond)/\NoL n.kids:=by cases n;exact Iff.rfl
theorem NoL_iff{l:List M}:NoL l<->∀n∈l,CR n:=by
 induction l with
 |nil=>simp[NoL]
 |cons n l a=>simp[NoL,a]
def lm(_:PH)(c:Zo)(_:Unit):Prop:=∃a n k s b m d,c=[.slice a n k,.int .i64 s,.slice b m d]
variable{I:PH}
def lm.len(c:Zo)(x:Unit)(h:lm I c x):c.length=3:=by obtain⟨_,_,_,_,_,_,_,e⟩:=h;rw[e];rfl
def lm.ones{c:Zo}{x:Unit}(h:lm I c x):c.all Sx.one=true:=by obtain⟨_,_,_,_,_,_,_,e⟩:=h;rw[e];rfl
def iD.ones{c:Zo}{x:T}(h:iD I c x):c.all Sx.one=true:=by obtain⟨_,_,e,_⟩:=h;rw[e];rfl
abbrev GR(I:PH)(v:Value)(l:List Unit):Prop:=Sl lm I v l
abbrev uF(I A:PH)(v:Value)(l:List Unit):Prop:=Ow lm 278 3 I A v l
def uF.le{J A:PH}{v:Value}{l:List Unit}(h:uF I A v l)(k:I.le J):uF J A v l:=Ow.le (R:=lm) (fun{I J c a} h k=>h) h k
def cB(s:Nat)(l:List M):Nat:=l.countP fun m=>decide (m.slot<(s:Int))
def Hq(s:Nat)(l:List M):cB s l<=l.length:=List.countP_le_length
def Hr(s:Nat)(l:List M):cB s l<=cB (s+1) l:=List.countP_mono_left fun m _ h=>by have:=lN h;exact bm O
def Hs{s:Nat}:∀{l:List M} {m:M},m∈l->m.slot=(s:Int)->cB s l+1<=cB (s+1) l
 |n::l,m,h,e=>by
  have e1:∀k,cB k (n::l)=cB k l+if n.slot<(k:Int)then 1 else 0:=fun k=>by simp[cB,List.countP_cons]
  rw[e1,e1];rcases List.mem_cons.1 h with rfl|h
  .have:=Hr s l;rw[ab O,ah O];omega
  .have:=Hs h e;split<;>split<;>omega
def Co(a vl vo:Value)(n i:Nat):St:=⟨dn 81 [(1,.v a),(5,.v vo),(14,.v vl),(15,.v (E n)),(16,.v (E i))],[]⟩
def Yw(l:List M)(a:PH)(x:Nat×Value)(H:PH):Prop:=∃I A ys,H=U [I,A]/\Dj [I,A]/\a.le I/\x.1<=l.length/\uF I A x.2 ys/\ys.length+x.1<=aL (l.take x.1)/\(ys=[]->NoL (l.take x.1))
def ut(a vl oX:Value)(nb:Zo)(n i b:Nat)(x:Nat×Value):St:=⟨dn 81 [(1,.v a),(5,.v x.2),(7,.p 7 0),(8,.v oX),(14,.v vl),(15,.v (E n)),(16,.v (E i)),(29,.v (E b)),(30,.v (E x.1))],[⟨7,60,nb⟩]⟩
def My(n:M)(b:Nat)(a:Nat)(P:Prop)(c:PH)(x:Nat×Value)(H:PH):Prop:=∃I A ys,H=U [I,A]/\Dj [I,A]/\c.le I/\x.1<=a/\uF I A x.2 ys/\ys.length<=b+cB x.1 n.kids/\(ys=[]->P/\∀m∈n.kids,m.slot<(x.1:Int)->m.cond=n.cond)
def sS(b vl oX vo a:Value)(nb:Zo)(n i c s d:Nat)(x:Nat×Bool×Value):St:=⟨dn 81 [(1,.v b),(5,.v vo),(7,.p 7 0),(8,.v oX),(9,.v (E s)),(10,.p 10 0),(11,.v (.bool x.2.1)),(14,.v vl),(15,.v (E n)),(16,.v (E i)),(29,.v (E c)),(30,.v (E s)),(37,.v a),(38,.v (E d)),(39,.v (E x.1))],[⟨7,60,nb⟩,⟨10,278,[oX,E s,x.2.2]⟩]⟩
def Mz(n:M)(s:Nat)(A:PH)(a:PH)(x:Nat×Bool×Value)(H:PH):Prop:=∃I B Z,H=U [I,A,B]/\Dj [I,A,B]/\a.le I/\x.1<=n.kids.length/\oA I B x.2.2 Z/\Z.length<=x.1/\(x.2.1=true->∃m∈n.kids,m.slot=(s:Int))/\(x.2.1=false->∀m∈n.kids.take x.1,m.slot=(s:Int)->m.cond=n.cond)
theorem YP:∀(k:Nat) {I:PH} {v vp:Value} {l:List M} {p:Zp} {w:T},aL l<k->bk I v l->ky v->oE I vp p->VL FX w l->aL l<=2^40->p.length+aL l<2^42->
  Zu 117 #[v,vp] I [] fun r I2 qs=>∃A ys,qs=[A]/\uF I2 A r ys/\ys.length+l.length<=aL l/\(ys=[]->NoL l):=by
 intro k
 induction k with
 |zero=>intro I v vp l p w h;omega
 |succ k ih=>
 intro I v vp l p w hk hS hC hP hv hz hp hd;obtain⟨va,vc,rfl,_⟩:=id hS;obtain⟨qa,qc,rfl,_⟩:=id hP;refine aP 81 func117 fun w0=>?_;refine ai ?_;refine de hd fun ee=>?_;refine bV (fun x=>l.length-x.1) (fun x=>Co (.slice qa p.length qc) (.slice va l.length vc) x.2 l.length x.1) (Yw l I) (0,.slice none 0 0) al (by simp only[go_sem,Y,Co,E]) ⟨I,PH.no,[],rfl,ee,aD _,aE _,Ow.nil _ _ _ _,aE _,fun _=>trivial⟩ ?_;rintro⟨i,vo⟩ H ⟨I1,A1,ys,rfl,cm,N,hi,b4,b6,b0⟩ aq;simp only at hi b4 b6 b0;simp only[Co];obtain⟨oa,oc,rfl⟩:=b4.shape;rcases aK i l.length with cb|e8
 .have c0:=Z5 i l.length;have ex:=nr hC cb;obtain⟨n,hn⟩:∃n,l[i]?=some n:=⟨_,aY cb⟩;have dw:=db hn;have e0:aL (l.take (i+1))=aL (l.take i)+(aL n.kids+1):=by rw[g6 hn,km,dj,gB]
  have e1:aL (l.take (i+1))<=aL l:=by
   conv=>rhs;rw[<-pG (i+1) l]
   rw[km];omega
  have e6:=mp n.kids;obtain⟨b,off,cs,ev,ef,a5⟩:=Sl.load ag.len (bk.le hS N) hn;cases ev
  obtain⟨vkn,na,nk,rfl,b8,K,a6⟩:=ef.shape;obtain⟨ka,kc,rfl,_⟩:=id K;obtain⟨⟨d1,d0⟩,_,⟨e5,_,_⟩,_,_,a4,_,_,ei⟩:=(ts n).1 (rP.1 hv n dw);refine dm c0 ?_;refine⟨O,?_⟩;refine Zm (l:=[.int .u8 n.kind,.string ⟨⟨n.text⟩⟩,.int .i64 n.tok,.int .i64 n.slot,.slice ka n.kids.length kc,sD na nk n.cond,rD n.cond]) (v:=.agg #[.int .u8 n.kind,.string ⟨⟨n.text⟩⟩,.int .i64 n.tok,.int .i64 n.slot,.slice ka n.kids.length kc,sD na nk n.cond,rD n.cond]) rfl (cellsU cm (.head _) a5) (.inl ⟨b9,rfl⟩) ?_;refine bK ?_;refine av cm [0] [] [A1] rfl Iv rfl (HC (oE.le hP N) O) ?_;rintro v I2 qs c8 cf⟨A2,rfl,dc⟩;simp only[Z3]at c8 |-;obtain⟨ua,uc,rfl⟩:=dc.shape;refine bK ?_;refine cI c8 (by exact kl) rfl rfl rfl rfl rfl af fun zb I3 ed a0 dx=>?_;have ek:oE I3 (.slice (some ⟨zb,0,none⟩) 1 1) [i]:=⟨_,_,rfl,.inr ⟨zb,0,_,rfl,bA dx (by simp[ax,Value.cells]) (by simp[ax,Value.cells,E]),.one rfl⟩⟩;refine bK ?_;refine fk (R:=jC) (xs:=p) (ys:=[i]) ed (by exact kl) (ti.le dc a0) ek (fun{I J c a} h k=>h) (fun{I} c a h=>jC.len (I:=I) c a h) (fun{I} c a h=>jC.ones (I:=I) h) rfl rfl rfl rfl (by simp only[bl,bg];omega) (by simp only[bl,bg];unfold maxLen;omega) fun xa xc I4 A4 d9 cc er=>?_;refine aJ d9 fun I5 d7 aS eq=>?_;have c9:oE I5 (.slice xa (p++[i]).length xc) (p++[i]):=i6 (R:=jC) (fun{I J c a} h k=>h) er aS eq;have e4:(p++[i]).length=p.length+1:=ao;have dd:=D cf (D a0 (D cc aS));refine bK ?_;refine av d7 [0] [] [A1] rfl IE rfl (Ld ⟨d1,d0⟩) ?_;rintro v6 I6 qs c7 V⟨rfl,el⟩;obtain⟨ra,rc,rfl,_⟩:=id el;simp only[Z3]at c7 |-;have e3:=K5 n.kind;have b5:=D dd V;refine bK ?_
  apply gO (fun x=>(rl n.kind).length-x.1) (ut (.slice qa p.length qc) (.slice (some ⟨b,off,none⟩) l.length vc) (.slice xa (p++[i]).length xc) [.int .u8 n.kind,.string ⟨⟨n.text⟩⟩,.int .i64 n.tok,.int .i64 n.slot,.slice ka n.kids.length kc,sD na nk n.cond,rD n.cond] l.length i (rl n.kind).length) (My n ys.length (rl n.kind).length (NoL (l.take i)) I6) (fun x H=>x.1=(rl n.kind).length/\My n ys.length (rl n.kind).length (NoL (l.take i)) I6 x H) (0,.slice oa ys.length oc)
  .exact al
  .exact(by simp only[go_sem,Y,ut,E,sD,rD])
  .refine⟨I6,A1,ys,rfl,c7,aD _,aE _,b4.le b5,Nat.le_add_right _ _,fun h=>⟨b0 h,fun m hm hs=>?_⟩⟩;obtain⟨s',e,_⟩:=a4 m hm;rw[e]at hs;simp only at hs;omega
  .rintro⟨s,vo2⟩ H ⟨I7,A7,q,rfl,b3,o,hs,z,bs,t⟩ L am;simp only at hs z bs t;simp only[ut];obtain⟨o2a,o2c,rfl⟩:=z.shape;rcases aK s (rl n.kind).length with ap|e2
   rotate_left
   .have:s=(rl n.kind).length:=by omega
    subst this;have cA:decide (((rl n.kind).length:Int)<((rl n.kind).length:Int))=false:=ao;apply cE 7;simp only[go_sem,cA,E];exact am ((rl n.kind).length,.slice o2a q.length o2c) _ _ al (by simp only[go_sem,Y,ut,E,sD,rD]) ⟨rfl,I7,A7,q,rfl,b3,o,aR _,z,bs,t⟩
   have cA:decide ((s:Int)<((rl n.kind).length:Int))=true:=bm O;have es:=Z7 s;have fa:=Hr s n.kids;have eg:=Hq (s+1) n.kids;refine dm cA ?_;refine de b3 fun d5=>?_;refine ak d5 [1,0] fun d4=>?_;apply gO (fun x=>n.kids.length-x.1) (sS (.slice qa p.length qc) (.slice (some ⟨b,off,none⟩) l.length vc) (.slice xa (p++[i]).length xc) (.slice o2a q.length o2c) (.slice ka n.kids.length kc) [.int .u8 n.kind,.string ⟨⟨n.text⟩⟩,.int .i64 n.tok,.int .i64 n.slot,.slice ka n.kids.length kc,sD na nk n.cond,rD n.cond] l.length i (rl n.kind).length s n.kids.length) (Mz n s A7 I7) (fun x H=>x.1=n.kids.length/\Mz n s A7 I7 x H) (0,false,.slice none 0 0)
   .exact al
   .exact(by simp only[go_sem,Y,sS,E,sD,rD])
   .exact⟨I7,PH.no,[],rfl,d4,aD _,aE _,Ow.nil _ _ _ _,aR _,(fun h=>by cases h),fun _ m hm=>by cases hm⟩
   .rintro⟨j,bb,vc3⟩ H ⟨I8,B8,Z,rfl,y,g,hj,F,bx,Q,C⟩ u ac;simp only at hj F bx Q C;simp only[sS];obtain⟨ca3,cc3,rfl⟩:=F.shape;rcases aK j n.kids.length with W|e7
    rotate_left
    .have:j=n.kids.length:=by omega
     subst this;have cy:decide (((n.kids.length:Nat):Int)<(n.kids.length:Int))=false:=ao;apply cE 7;simp only[go_sem,cy,E];exact ac (n.kids.length,bb,.slice ca3 Z.length cc3) _ _ al (by simp only[go_sem,Y,sS,E,sD,rD]) ⟨rfl,I8,B8,Z,rfl,y,g,aR _,F,bx,Q,C⟩
    have cy:=Z5 j n.kids.length;have ej:=nr a6 W;obtain⟨m,hm⟩:∃m,n.kids[j]?=some m:=⟨_,aY W⟩;have c5:=db hm;have c1:=D b5 (D o g);obtain⟨b2,off2,cs2,ev2,cn,an⟩:=Sl.load ag.len (bk.le K c1) hm;cases ev2
    obtain⟨vkm,ma,mk,rfl,U,aa,_⟩:=cn.shape;obtain⟨kma,kmc,rfl,_⟩:=id aa;refine dm cy ?_;refine⟨O,?_⟩;refine Zm (l:=[.int .u8 m.kind,.string ⟨⟨m.text⟩⟩,.int .i64 m.tok,.int .i64 m.slot,.slice kma m.kids.length kmc,sD ma mk m.cond,rD m.cond]) (v:=.agg #[.int .u8 m.kind,.string ⟨⟨m.text⟩⟩,.int .i64 m.tok,.int .i64 m.slot,.slice kma m.kids.length kmc,sD ma mk m.cond,rD m.cond]) rfl (cellsU y (.head _) an) (.inl ⟨b9,rfl⟩) ?_;cases a9:(m.slot == (s:Int))
    .apply RG;simp only[go_sem,E,sD,rD,a9,ej];refine u (j+1,bb,.slice ca3 Z.length cc3) _ _ bi al (by simp only[go_sem,Y,sS,E,sD,rD]) ⟨I8,B8,Z,rfl,y,g,W,F,by simp only;omega,Q,fun hb x G=>?_⟩;simp only at G;rw[g6 hm,jR,List.mem_singleton]at G;rcases G with G|rfl
     .exact C hb x G
     .intro e;rw[e]at a9;simp at a9
    .have c4:m.slot=(s:Int):=eq_of_beq a9;refine dm a9 ?_;refine cI y (by exact FG) rfl rfl rfl rfl rfl af fun yb I9 B d b7=>?_;have cp:Sl iD I9 (.slice (some ⟨yb,0,none⟩) 1 1) [m.cond]:=⟨_,_,rfl,.inr ⟨yb,0,_,rfl,bA b7 (by simp[ax,Value.cells]) (by simp[ax,Value.cells,E,sD,rD]),.one ⟨ma,mk,rfl,U.le d⟩⟩⟩;refine bK ?_;refine ak B [1,0] fun d3=>?_;refine fk (R:=iD) (xs:=Z) (ys:=[m.cond]) d3 (by exact FG) (oA.le F d) cp (fun{I J c a} h k=>iD.le h k) (fun{I} c a h=>iD.len c a h) (fun{I} c a h=>iD.ones h) rfl rfl rfl rfl (by simp only[bl,bg];omega) (by simp only[bl,bg];unfold maxLen;omega) fun ea ec ba B10 d2 f a7=>?_;refine ak d2 [1,0] fun b1=>?_;cases bb
     .refine bK ?_;refine Zl rfl vt (Lo (U.le (D d (D f (iL b1)))) (b8.le (D c1 (D d (D f (iL b1)))))) ?_;rintro v H2⟨⟨b',rfl,eh⟩,rfl⟩;refine dm ej ?_;refine u (j+1,!b',.slice ea (Z++[m.cond]).length ec) _ _ bi al (by simp only[go_sem,Y,sS,E,sD,rD]) ⟨ba,B10,Z++[m.cond],rfl,b1,D g (D d f),W,a7,by simp;omega,fun _=>⟨m,c5,c4⟩,fun hb x G=>?_⟩;simp only at G hb;rw[g6 hm,jR,List.mem_singleton]at G;rcases G with G|rfl
      .exact C rfl x G
      .intro _;exact eh (by simpa using hb)
     .refine dm ej ?_;exact u (j+1,true,.slice ea (Z++[m.cond]).length ec) _ _ bi al (by simp only[go_sem,Y,sS,E,sD,rD]) ⟨ba,B10,Z++[m.cond],rfl,b1,D g (D d f),W,a7,by simp;omega,fun _=>⟨m,c5,c4⟩,fun hb=>by cases hb⟩
   rintro⟨j,bb,vc3⟩ H ⟨c6,I8,B8,Z,rfl,y,g,_,F,bx,Q,C⟩;simp only at c6 F bx Q C;subst c6;rw[dK]at C;simp only[sS];obtain⟨ca3,cc3,rfl⟩:=F.shape;refine ak y [1,0] fun B=>?_;refine aJ (c:=.st _) B fun I9 B d fc=>?_;have bc:=D g d;cases bb
   .refine dm es ?_;refine L (s+1,.slice o2a q.length o2c) _ _ bi al (by simp only[go_sem,Y,ut,E,sD,rD]) ⟨I9,A7,q,rfl,B,D o bc,ap,z.le bc,by simp only;omega,fun h=>⟨(t h).1,fun m hm dk=>?_⟩⟩;simp only at dk;by_cases e:m.slot=(s:Int)
    .exact C rfl m hm e
    .exact(t h).2 m hm O
   .obtain⟨m0,dT,ds⟩:=Q rfl;have fb:=Hs dT ds;refine bK ?_;refine av B [0] [] [A7] rfl Iv rfl (HC (oE.le c9 (D V (D o bc))) O) ?_;rintro v ba qs P f⟨A10,rfl,X⟩;simp only[Z3]at P |-;obtain⟨ta,tc,rfl⟩:=X.shape;refine aJ P fun fh cl a3 et=>?_;refine bK ?_;refine cI cl (by exact FF) rfl rfl rfl rfl rfl af fun yb ez cj a2 b7=>?_;have cr:GR ez (.slice (some ⟨yb,0,none⟩) 1 1) [()]:=⟨_,_,rfl,.inr ⟨yb,0,_,rfl,bA b7 (by simp[ax,Value.cells]) (by simp[ax,Value.cells,E,sD,rD]),.one ⟨ta,(p++[i]).length,tc,s,ca3,Z.length,cc3,rfl⟩⟩⟩;refine bK ?_;have k712:=D bc (D f (D a3 a2));refine fk (R:=lm) (xs:=q) (ys:=[()]) cj (by exact FF) (z.le k712) cr (fun{I J c a} h k=>h) (fun{I} c a h=>lm.len (I:=I) c a h) (fun{I} c a h=>lm.ones (I:=I) h) rfl rfl rfl rfl (by simp only[bl,bg];omega) (by simp only[bl,bg];unfold maxLen;omega) fun ea ec ey A13 ci a1 cx=>?_;refine dm es ?_;exact L (s+1,.slice ea (q++[()]).length ec) _ _ bi al (by simp only[go_sem,Y,ut,E,sD,rD]) ⟨ey,A13,q++[()],rfl,ci,D o (D k712 a1),ap,cx,by simp;omega,fun h=>by simp at h⟩
  rintro⟨s,vo2⟩ H ⟨c3,I7,A7,q,rfl,b3,o,_,z,bs,t⟩;simp only at c3 z bs t;subst c3;simp only[ut];obtain⟨o2a,o2c,rfl⟩:=z.shape;have eg:=Hq (rl n.kind).length n.kids;have c2:=D b5 o;refine bK ?_;refine av b3 [0] [] [A7] rfl Ix rfl (ih (l:=n.kids) (p:=p++[i]) O (bk.le K c2) a6 (oE.le c9 (D V o)) ei O O) ?_;rintro v I8 qs y g⟨A8,S,rfl,da,eA,ca⟩;simp only[Z3]at y |-;obtain⟨ta,tc,rfl⟩:=da.shape;refine aJ y fun I9 B d em=>?_;have cp:GR I9 (.slice ta S.length tc) S:=i6 (R:=lm) (fun{I J c a} h k=>h) da d em;refine bK ?_;refine fk (R:=lm) (xs:=q) (ys:=S) B (by exact FF) (z.le (D g d)) cp (fun{I J c a} h k=>h) (fun{I} c a h=>lm.len (I:=I) c a h) (fun{I} c a h=>lm.ones (I:=I) h) rfl rfl rfl rfl O (by unfold maxLen;omega) fun ea ec ba A10 P f X=>?_;refine dm ex ?_;refine aq (i+1,.slice ea (q++S).length ec) _ _ bi al (by simp only[go_sem,Y,Co,E,sD,rD]) ⟨ba,A10,q++S,rfl,P,D N (D c2 (D g (D d f))),cb,X,by simp only[aH];omega,fun h=>?_⟩;obtain⟨h2,h3⟩:=List.append_eq_nil_iff.1 h;obtain⟨g1,g2⟩:=t h2;simp only;rw[g6 hn,NoL_iff];intro x G;rw[jR,List.mem_singleton]at G;rcases G with G|rfl
  .exact NoL_iff.1 g1 x G
  .refine(NoN_eq x).2 ⟨fun m hm=>g2 m hm ?_,ca h3⟩;obtain⟨s',e,r',dv,_⟩:=a4 m hm;have:=(List.getElem?_eq_some_iff.1 dv).1;omega
 .have:i=l.length:=by omega
  subst this;have c0:decide (((l.length:Nat):Int)<(l.length:Int))=false:=ao;rw[dK]at b6 b0;refine dm c0 ?_;exact az rfl cm (r:=[_]) rfl N ⟨A1,ys,rfl,b4,b6,b0⟩
end Go.Proofs.YtfaclfkpnmcmlaaGreatDoor
namespace Syn
open Dg
def Fb{c d:aF}:∀(k:Nat) {l:List M},aL l<k->Go.Proofs.YtfaclfkpnmcmlaaGreatDoor.NoL l->(∀n∈l,n.cond.at' c=true/\n.cond.at' d=true)->pL c l=pL d l
 |0,_,h,_,_=>by omega
 |_+1,[],_,_,_=>rfl
 |k+1,n::l,h,hN,ha=>by rw[dj]at h;obtain⟨h1,h2⟩:=ha n (.head _);obtain⟨g1,g2⟩:=(Go.Proofs.YtfaclfkpnmcmlaaGreatDoor.NoN_eq n).1 (Go.Proofs.YtfaclfkpnmcmlaaGreatDoor.NoL_iff.1 hN n (.head _));rw[eD,eD,ah h1,ah h2,Fb k (l:=n.kids) O g2 fun m hm=>by rw[g1 m hm];exact⟨h1,h2⟩,Fb k (l:=l) O (Go.Proofs.YtfaclfkpnmcmlaaGreatDoor.NoL_iff.2 fun m hm=>Go.Proofs.YtfaclfkpnmcmlaaGreatDoor.NoL_iff.1 hN m (.tail _ hm)) fun m hm=>ha m (.tail _ hm)]
end Syn
namespace Go.Proofs.YtfaclfkpnmcmlaaGreatDoor
open Go Go.Sx Dg Syn
variable{I:PH}{args:Array Value}{f:FuncId}{P:Program}
def bh.keepP{Q:Value->Prop}(h:bh P f args I fun v H2=>Q v/\H2=I):aT P f args I [] fun v b a=>a=[]/\Q v:=
 bh.toI (h.mono fun v H2 ⟨e1,e2⟩=>⟨by rw[e2];exact aD _,e1⟩)
def YE{F:Nat->au->Prop}{w:T}{m:Nat}{t:Tr}(hv:VT F w m t)(hN:NoL t.kids)(f:∀c,w.at' c=t.kids.any (·.cond.at' c)){c d:aF}(b:w.at' c=true)(hd:w.at' d=true):prj c t=prj d t:=by
 rw[f]at b hd;have one:∀n∈t.kids,n.cond.at' c=true/\n.cond.at' d=true:=fun n a=>by
  rcases hv.kids with h|⟨i,h,_⟩
  .rw[h]at a;cases a
  .rw[h]at a b hd;rw[List.mem_singleton]at a;subst a;simp at b hd;exact⟨b,hd⟩
 have none:∀{c:aF},(t.kids.any (·.cond.at' c))=true->iB c t.diags=[]:=fun{c} h=>by obtain⟨n,a,h1⟩:=List.any_eq_true.1 h;have ha:=hv.apart;rw[List.pairwise_append]at ha;unfold iB;rw[List.filter_eq_nil_iff.2 fun e g h2=>ha.2.2 n.cond (List.mem_map.2 ⟨n,a,rfl⟩) e.cond (List.mem_map.2 ⟨e,g,rfl⟩) c ⟨h1,h2⟩];rfl
 show (⟨pL c t.kids,iB c t.diags⟩:Tr)=⟨pL d t.kids,iB d t.diags⟩;rw[none b,none hd,Fb _ (eF _) hN one]
variable{v:Value}
def YO{t:Tr}{w:T}{m:Nat}(F:ib I)(y:jt I v t)(hv:VT FX w m t)(hm:m<=16000)(B:aL t.kids<=2^40):Zu 61 #[v] I [] fun r L f=>f=[]/\∃a k c,r=.tuple #[.slice a k c,.int .i64 0]/\(k=0->NoL t.kids):=by
 obtain⟨N,P,rfl,z,s,H,G⟩:=id y;obtain⟨S,R,rfl,_⟩:=id z;obtain⟨V,U,rfl,_⟩:=id H;have q:VL FX tt t.kids:=by
  rcases hv.kids with h|⟨n,h,_,_,C,_⟩
  .rw[h];trivial
  .rw[h];exact⟨C,trivial⟩
 intro hd;refine aP 10 func61 fun w0=>?_;refine ai ?_;refine eG hd rfl Rs (YL F y hv hm) ?_;rintro Q X f o b⟨rfl,rfl⟩;apply RG;simp only[go_sem,cL];refine eG o rfl Ix (YP (aL t.kids+1) (p:=[]) (eF _) (bk.le z b) s ⟨none,0,rfl,.inl rfl⟩ q B (by simp only[bg];omega)) ?_;rintro v2 L f l e⟨A,ys,rfl,K,_,i⟩;obtain⟨x,u,rfl⟩:=K.shape;refine aJ l fun W j d J=>?_;refine ai ?_;exact az rfl j (r:=[.slice x ys.length u,.int .i64 0]) (by simp only[results61,go_sem]) (D b (D e d)) ⟨rfl,x,_,u,rfl,fun h=>i (List.length_eq_zero_iff.1 h)⟩
theorem YF{vl vw:Value}{l:List It}{w:List (Nat×Nat)}{c d:Nat}(U:ib I)(hS:pQ I vl l)(hW:gE I vw w)(hb:∀x∈l,zB x)(hl:l.length<2^40)(hw:w.length<2^40)(hc:c<2^32)(W:d<2^32):
  Zu 13 #[vl,vw,.int .u32 c,.int .u32 d] I [] fun r I2 g=>g=[]/\r=.bool true:=by
 obtain⟨la,lc,rfl,_⟩:=id hS;obtain⟨wa,wc,rfl,_⟩:=id hW;intro hd;refine aP 69 func13 fun w0=>?_;refine ai ?_;refine eG hd rfl Rm (Sy hS hW hb hl hw) ?_;rintro v I2 g aS k⟨rfl,a⟩;rcases a with rfl|⟨lv,rfl,T,bs,_⟩
 .refine ai ?_;refine eG aS rfl ID (Hj (U.le k)) ?_;rintro v I3 g Q e⟨rfl,rfl⟩;refine ai ?_;exact az rfl Q (r:=[_]) rfl (D k e) ⟨rfl,rfl⟩
 obtain⟨⟨tv,ga,gn,gc,rfl,hT⟩,_⟩:=id T;obtain⟨ta,tc,rfl,_⟩:=id hT;refine ai ?_;refine eG aS rfl ID (Hj (U.le k)) ?_;rintro v I3 g Q e⟨rfl,rfl⟩;have k3:=D k e;refine ai ?_;refine eG Q rfl Ew (FA (gE.le hW k3) O) ?_;rintro v4 I4 g a6 q⟨rfl,m⟩;obtain⟨qa,qk,rfl⟩:=m.shape2;have k4:=D k3 q;refine bK ?_;refine eG a6 rfl Eu (DW (U.le k4) (T.le (D e q)) m) ?_;rintro v5 I5 g a5 p⟨rfl,t,hF,hR,hB⟩;have k5:=D k4 p;have K:=wj T.ok;have V:=P1 (F:=FX) K (fun i h=>K0 T.txt af i h) (fun i h=>K0 T.txt af i h) (by simp;omega) m.1 hF;have hm:((l.map fU).map refit).length<=16000:=by simp;omega
 obtain⟨vk,vd,rfl,hK,bx,hD,b0⟩:=id hR;obtain⟨ka,kc,rfl,_⟩:=id hK;obtain⟨da,dc,rfl,_⟩:=id hD;refine bK ?_;refine eG a5 rfl Rt (YO (U.le k5) hR V hm hB.1) ?_;rintro v6 I6 g aq j⟨rfl,oa,n,oc,rfl,a2⟩;have k6:=D k5 j;refine bK ?_;refine bG [0,1,2,3,4,6,5,7,8,9,10,11,12,13,14,15,16,17,18,19,20,21] [] [] ?_;cases hn:decide ((n:Int)>0)
 rotate_left
 .refine ny hn ?_;apply aN;refine bK ?_;exact az rfl aq (r:=[_]) rfl k6 ⟨rfl,rfl⟩
 have a3:n=0:=by have:=zy hn;omega
 have bc:=a2 a3;refine ny hn ?_;refine dU aq rfl Rr (YY (hR.le j)) ?_;rintro v7 I7 g a4 o⟨rfl,S0,a0,an⟩;obtain⟨s0a,s0k,rfl⟩:=a0.shape2;have k7:=D k6 o;refine cz ?_;refine dU a4 rfl vt (bh.keepP (Lo a0 (m.le (D p (D j o))))) ?_;rintro v8 I8 g Z H⟨rfl,b,rfl,a7⟩;have k8:=D k7 H;cases b
 .apply bo;simp only[go_sem,sD,rD,E,dg];apply aN;refine bK ?_;exact az rfl Z (r:=[_]) rfl k8 ⟨rfl,rfl⟩
 have bb:=a7 rfl;have a1:∀c,(nI w).at' c=t.kids.any (·.cond.at' c):=fun c=>by rw[<-bb];exact an c
 apply bo;simp only[go_sem,sD,rD,E,cL];refine dU Z rfl EE (bh.keep (EK (gE.le hW k8) O hc)) ?_;rintro v9 I9 g X G⟨rfl,rfl⟩;have k9:=D k8 G;cases P:mU w c
 .apply bo;simp only[go_sem,sD,rD,E,P,dg];apply aN;refine bK ?_;exact az rfl X (r:=[_]) rfl k9 ⟨rfl,rfl⟩
 apply bo;simp only[go_sem,sD,rD,E,P,cL];refine dU X rfl EE (bh.keep (EK (gE.le hW k9) O W)) ?_;rintro v10 b4 g J u⟨rfl,rfl⟩;have B:=D k9 u;cases N:mU w d
 .apply bo;simp only[go_sem,sD,rD,E,N,dg];apply aN;refine bK ?_;exact az rfl J (r:=[_]) rfl B ⟨rfl,rfl⟩
 apply bo;simp only[go_sem,sD,rD,E,N,cL];apply aN;have C:=D e (D q (D p (D j (D o (D H (D G u))))));have S:=HO w c;have R:=HO w d;rw[P]at S;rw[N]at R;have hu:=YE V bc a1 S R;refine bK ?_;refine bG [0,1,3,4,2,5,6,7] [] [] ?_;refine cz ?_;refine dU J rfl Er (Fi (U.le B) (T.le C) hc) ?_;rintro v11 b3 g am f⟨rfl,u1,ba,z,ap⟩;have e1:=DV K m.1 (Ap _ _) hF ba S (DJ c);rw[<-e1]at z ap;obtain⟨_,_,rfl,⟨xa,xc,rfl,_⟩,_,⟨xa',xc',rfl,_⟩,_⟩:=id z;refine cz ?_;refine dU am rfl Er (Fi (U.le (D B f)) (T.le (D C f)) W) ?_;rintro v12 b2 g ac s⟨rfl,u2,a9,y,A⟩;have e2:=DV K m.1 (Ap _ _) hF a9 R (DJ d);rw[<-e2,<-hu]at y A;obtain⟨_,_,rfl,⟨ya,yc,rfl,_⟩,_,⟨ya',yc',rfl,_⟩,_⟩:=id y;refine cz ?_;refine dU ac rfl Ro (WL (z.le s) y A.1 A.2) ?_;rintro v13 b1 g aa L⟨rfl,rfl⟩;refine cz ?_;apply aN;refine bK ?_;exact az rfl aa (r:=[_]) rfl (D B (D f (D s L))) ⟨rfl,rfl⟩
open Go.ChangeShapes (trodAll_one trodAll_two trodAll_three trodVars_none trodAll_mk1 trodAll_mk2 trodAll_mk3 trod_struct2)
open Go.RowKit (shut_bool)
def oG(W:World):PH:=fun b=>W.heap[b]?
theorem aT.calls{W:World}(h:aT P f args (oG W) [] fun r j i=>i=[]/\r=v):
  Calls P f args W fun e n=>e=.returned v/\RowKit.Below W.heap.size W n:=by
 have hd:Dj [oG W]:=s0 _ _;have m:U [oG W]=oG W:=PH.uni_no _;refine(h hd W (by rw[m];exact fun b o hb=>hb)).mono fun e w2 g=>?_;cases e with
 |returned r=>obtain⟨H2,st,j,i,e1,_,d,rfl,rfl⟩:=g;subst e1;refine⟨rfl,⟨st.os,st.tape,st.out,st.size,fun k l=>?_⟩⟩;have a:oG W k=some W.heap[k]:=sW l;have:=st.sub k _ (PH.le_uni j _ k _ (d k _ a));rw[this];exact a.symm
 |outgrown=>exact g.elim
 |panicked c=>exact g.elim
def EV{α:Type}{R:Zo->α->Prop}{C:Nat->Zo}{g:Nat->α}:∀(is:Zp),(∀i∈is,R (C i) (g i))->LR R (is.flatMap C) (is.map g)
 | [],_=>rfl
 |i::is,h=>⟨C i,is.flatMap C,rfl,h i (.head _),EV is fun j a=>h j (.tail _ a)⟩
def D1{C:Nat->Zo}{size:Nat}:∀(is:Zp),(∀i∈is,(C i).length=size)->(is.flatMap C).length=is.length*size
 | [],_=>by simp
 |i::is,h=>by rw[pC,aH,h i (.head _),D1 is fun j a=>h j (.tail _ a),bl,ir];omega
variable{size:Nat}{C:Nat->Zo}
def Qa{len:Nat}(h:∀i,i<len->(C i).length=size){i j:Nat}(hi:i<len)(d:j<size):((List.range len).flatMap C)[i*size+j]?=(C i)[j]?:=by
 induction len with
 |zero=>omega
 |succ n c=>
  have a:((List.range n).flatMap C).length=n*size:=by have:=D1 (C:=C) (size:=size) (List.range n) fun k b=>h k (by have:=List.mem_range.1 b;omega);simpa using this
  rw[List.range_succ,zo,pC,List.flatMap_nil,Y];rcases aK i n with h1|h1
  .have h2:(i+1)*size<=n*size:=cv _ h1;rw[ir,rf]at h2;rw[wK (by rw[a];omega)];exact c (fun k b=>h k O) h1
  .have:i=n:=by omega
   subst this;rw[zr (by rw[a];omega),a];congr 1;omega
def HA{W:World}{jH:Nat}{a:Addr}{len:Nat}(h:∀i,i<len->W.cells? jH (a.add (i*size)) size=some (C i))(hs:0<size)(q:0<len):
  ∃b off,a=⟨b,off,none⟩/\a8 (oG W) b off ((List.range len).flatMap C):=by
 have n:∀i,i<len->(C i).length=size/\∀j,j<size->W.cell? (a.add (i*size+j))=(C i)[j]?:=fun i hi=>by obtain⟨_,h1,h2⟩:=World.cells?_some (h i hi);exact⟨h1,fun j r=>by rw[<-Deep.add_add];exact h2 j r⟩
 obtain⟨b,off,spot⟩:=a;have m:spot=none:=by have h1:=(n 0 q).2 0 hs;obtain⟨x,d⟩:∃x,(C 0)[0]?=some x:=⟨_,aY (by rw[(n 0 q).1];exact hs)⟩;rw[d]at h1;simpa[Addr.add]using World.cell?_spot h1
 subst m;have c:((List.range len).flatMap C).length=len*size:=by have:=D1 (C:=C) (size:=size) (List.range len) fun k g=>(n k (List.mem_range.1 g)).1;simpa using this
 have f:∀k x,((List.range len).flatMap C)[k]?=some x->W.cell? ⟨b,off+k,none⟩=some x:=fun k x d=>by
  have g:k<len*size:=by rw[<-c];exact(List.getElem?_eq_some_iff.1 d).1
  have e:k=(k / size)*size+k % size:=by rw[Nat.mul_comm];exact(Nat.div_add_mod k size).symm
  have hi:k / size<len:=Nat.div_lt_of_lt_mul (by rw[Nat.mul_comm];exact g);have r:k % size<size:=Nat.mod_lt _ hs;have h1:=(n _ hi).2 _ r;rw[<-Qa (fun i hi=>(n i hi).1) hi r,<-e,d]at h1;rw[<-h1];unfold Addr.add;split
  .rename_i h0;rw[h0,s5]
  .rfl
 obtain⟨cs,ty,p,hb,l⟩:∃cs ty p,W.heap[b]?=some (.cells cs ty p)/\∀k x,((List.range len).flatMap C)[k]?=some x->cs[off+k]?=some x:=by
  obtain⟨t,s⟩:∃x,((List.range len).flatMap C)[0]?=some x:=⟨_,aY (by rw[c];exact Nat.mul_pos q hs)⟩;have h0:=f 0 t s;unfold World.cell? at h0;cases hb:W.heap[b]? with
  |none=>simp[hb]at h0
  |some o=>
   cases o with
   |cells cs ty p=>refine⟨cs,ty,p,rfl,fun k x d=>?_⟩;have:=f k x d;simpa[World.cell?,hb]using this
   |_=>simp[hb]at h0
 refine⟨b,off,rfl,cs,ty,p,hb,?_,?_⟩
 .rw[c];have hp:0<len*size:=Nat.mul_pos q hs;obtain⟨x,d⟩:∃x,((List.range len).flatMap C)[len*size-1]?=some x:=⟨_,aY (by rw[c];omega)⟩;have:=(Array.getElem?_eq_some_iff.1 (l _ _ d)).1;show off+len*size<=_;omega
 .apply List.ext_getElem?;intro k;rcases aK k ((List.range len).flatMap C).length with g|g
  .rw[List.getElem?_take_of_lt g,zu];have d:=aY g;rw[d];simpa using l k _ d
  .rw[fp (by rw[lK];exact fJ (Nat.min_le_left _ _) g),fp g]
section
variable {H:Type} {enc:TypeId×Value->H} {W:World}
def OI:∀d:DataW H,1<=Rows.uptoBulk d:=by
 intro d;cases d with
 |lit l=>cases l<;>simp[Rows.uptoBulk]
 |_=>simp[Rows.uptoBulk]
def Du(Z:Nat->DataW H):∀(is:Zp),is.length<=Rows.uptoBulkAll (is.map Z)/\∀i∈is,Rows.uptoBulk (Z i)<=Rows.uptoBulkAll (is.map Z)
 | []=>⟨aE _,fun _ h=>(dJ h).elim⟩
 |i::is=>by
  obtain⟨h1,h2⟩:=Du Z is;have h3:=OI (Z i);simp only[iq,bl,Rows.uptoBulkAll];refine⟨O,fun j a=>?_⟩;rcases List.mem_cons.1 a with rfl|a
  .omega
  .have:=h2 j a;omega
def MD:prog.underlying 46=some (.slice 164):=ae
def YA:∃b a,prog.underlying 164=some (.struct #[b,a])/\b.type=23/\b.offset=0/\a.type=23/\a.offset=1:=⟨_,_,underlying164,rfl,rfl,rfl,rfl⟩
def MA:prog.underlying 22=some (.slice 134):=ae
def Yy:∃c b a,prog.underlying 134=some (.struct #[c,b,a])/\c.type=5/\c.offset=0/\b.type=9/\b.offset=1/\a.type=46/\a.offset=2:=⟨_,_,_,underlying134,rfl,rfl,rfl,rfl,rfl,rfl⟩
def wE:prog.underlying 23=some (.int .u32):=ae
def Hw:prog.cellsOf 164=2:=ae
def Hv:prog.cellsOf 134=3:=ae
def Hx:prog.cellsOf 23=1:=ae
def OS:prog.cellsOf 46=1:=ae
def CA{n:Int}(h:(Lit.int .u32 n).wf=true):∃k:Nat,n=(k:Int)/\k<2^32:=by
 have h1:IntKind.min .u32=0:=by decide
 have h2:IntKind.max .u32=4294967295:=by decide
 simp only[Lit.wf,h1,h2,cZ,dE]at h;exact⟨n.toNat,O,O⟩
def YX{n:Int}(h:(Lit.int .u8 n).wf=true):∃k:Nat,n=(k:Int):=by
 have h1:IntKind.min .u8=0:=by decide
 simp only[Lit.wf,h1,cZ,dE]at h;exact⟨n.toNat,O⟩
variable{p:List MemPlace}{v:Value}
def KH{e9:Nat}{d:DataW H}(h:DataW.trod enc prog W 0 (fun _=>true) true e9 46 [v]=some (d,p)):∃l,gE (oG W) v l/\l.length<=Rows.uptoBulk d:=by
 rcases Deep.open_slice MD h with ⟨e,e2⟩|⟨a,len,cap,m,n,Z,T,e,_,B,F,hm,e2,z⟩
 .simp only[nt,dZ]at e;subst e;exact⟨[],⟨none,0,rfl,.inl rfl⟩,aE _⟩
 .simp only[nt,dZ]at e;subst e;simp only[gN]at e2;obtain⟨rfl,_⟩:=e2;have c:m=cap:=by simpa using hm
  subst c;obtain⟨S,R,A,t0,t,r,s⟩:=YA;obtain⟨g,k⟩:=Deep.choose_lt (α:=Nat×Nat) (n:=len) (p:=fun i x=>W.cells? 0 (a.add (i*2)) 2=some [.int .u32 x.1,.int .u32 x.2]/\x.1<2^32/\x.2<2^32) (fun i hi=>by
   obtain⟨cs,h1,h2⟩:=z i O;rw[Hw]at h1;obtain⟨L,K,N,_,f,h3,h4⟩:=trod_struct2 A h2;rw[t0,t,Hx]at h3;rw[r,s,Hx]at h4;obtain⟨Q,o,_,w0⟩:=DataW.trod_int wE h3;obtain⟨P,e1,_,q⟩:=DataW.trod_int wE h4;obtain⟨w,rfl,J⟩:=CA w0;obtain⟨u,rfl,I⟩:=CA q;rw[Hw]at f
   match cs,f with
   | [x,y],_=>simp at o e1;subst o;subst e1;exact⟨(w,u),h1,J,I⟩)
  have hb:len<=Rows.uptoBulk (DataW.slice ((List.range len).map Z) ((List.range (m-len)).map fun j=>Z (len+j))):=by have:=(Du Z (List.range len)).1;simp only[wQ]at this;simp only[Rows.uptoBulk];omega
  rcases jA len with h0|h0
  .subst h0;exact⟨[],⟨some a,m,rfl,.inl rfl⟩,aE _⟩
  .obtain⟨b,off,rfl,G⟩:=HA (size:=2) (C:=fun i=>[.int .u32 (g i).1,.int .u32 (g i).2]) (fun i hi=>(k i hi).1) af h0;refine⟨(List.range len).map g,⟨_,m,by rw[eO,wQ],.inr ⟨b,off,_,rfl,G,EV _ fun i hi=>?_⟩⟩,by rw[eO,wQ];exact hb⟩;exact⟨rfl,(k i (List.mem_range.1 hi)).2⟩
instance:Inhabited It:=⟨⟨0,[],[]⟩⟩
def Vw{e9:Nat}{d:DataW H}(h:DataW.trod enc prog W 0 (fun _=>true) true e9 22 [v]=some (d,p)):∃l,pQ (oG W) v l/\l.length<=Rows.uptoBulk d/\∀x∈l,x.cubes.length<=Rows.uptoBulk d/\x.text.length<=Rows.uptoBulk d:=by
 rcases Deep.open_slice MA h with ⟨e,e2⟩|⟨a,len,cap,m,n,Z,Pl,e,_,c,N,hm,e2,k⟩
 .simp only[nt,dZ]at e;subst e;exact⟨[],⟨none,0,rfl,.inl rfl⟩,aE _,fun _ h=>(dJ h).elim⟩
 .simp only[nt,dZ]at e;subst e;simp only[gN]at e2;obtain⟨rfl,_⟩:=e2;have o:m=cap:=by simpa using hm
  subst o;obtain⟨f0,f1,f2,J,t0,I,A,G,t2,F⟩:=Yy;obtain⟨g,q⟩:=Deep.choose_lt (α:=Zo×It) (n:=len) (p:=fun i x=>W.cells? 0 (a.add (i*3)) 3=some x.1/\nv (oG W) x.1 x.2/\x.2.cubes.length<=Rows.uptoBulk (Z i)/\x.2.text.length<=Rows.uptoBulk (Z i)) (fun i hi=>by
   obtain⟨cs,h1,h2⟩:=k i O;rw[Hv]at h1;obtain⟨T,S,r,V,f,u,h3,h4,h5⟩:=Deep.trod_struct3 J h2;rw[t0,I,Hy]at h3;rw[A,G,Dz]at h4;rw[t2,F,OS]at h5;simp only[gN]at f;obtain⟨f,_⟩:=f;obtain⟨X,w,U,w0⟩:=DataW.trod_int Gn h3;obtain⟨s,e1,B,_⟩:=DataW.trod_string Cr h4;obtain⟨t,rfl⟩:=YX w0;rw[Hv]at u
   match cs,u with
   | [x,y,z],_=>
    simp at w e1 h5;subst w;subst e1;obtain⟨l,c,L⟩:=KH (d:=r.1) (p:=r.2) h5;refine⟨([.int .u8 (t:Int),.string s,z],⟨t,s.data.toList,l⟩),h1,⟨z,by simp,c⟩,?_,?_⟩
    .show l.length<=_;rw[f];simp only[Rows.uptoBulk,Rows.uptoBulkAll];omega
    .show s.data.toList.length<=_;rw[f,B];simp only[Rows.uptoBulk,Rows.uptoBulkAll];omega)
  obtain⟨R,Q⟩:=Du Z (List.range len);simp only[wQ]at R;have K:Rows.uptoBulkAll ((List.range len).map Z)<=Rows.uptoBulk (DataW.slice ((List.range len).map Z) ((List.range (m-len)).map fun j=>Z (len+j))):=by simp only[Rows.uptoBulk];omega
  rcases jA len with h0|h0
  .subst h0;exact⟨[],⟨some a,m,rfl,.inl rfl⟩,aE _,fun _ h=>(dJ h).elim⟩
  .obtain⟨b,off,rfl,P⟩:=HA (size:=3) (C:=fun i=>(g i).1) (fun i hi=>(q i hi).1) af h0;refine⟨(List.range len).map fun i=>(g i).2,⟨_,m,by rw[eO,wQ],.inr ⟨b,off,_,rfl,P,EV _ fun i hi=>(q i (List.mem_range.1 hi)).2.1⟩⟩,by rw[eO,wQ];omega,fun x k=>?_⟩;obtain⟨i,hi,rfl⟩:=List.mem_map.1 k;obtain⟨_,_,c1,c2⟩:=q i (List.mem_range.1 hi);have:=Q i hi;exact⟨O,O⟩
end
open Go Go.Sx Dg Syn
open Go.ChangeShapes (trodVars_none trodAll_mk1)
open Go.RowKit (shut_bool trodAll_four trodAll_mk4)
def Cw{W:World}{n:String}{g:Nat}{cs:Array Value}(b:prog.globalNamed n=some g)(h:W.var? prog n=some cs):∃ty a,W.heap[g]?=some (.cells cs ty a):=by
 unfold World.var? at h;rw[b]at h;simp only[dD]at h;cases hb:W.heap[g]? with
 |none=>rw[hb]at h;cases h
 |some o=>
  rw[hb]at h;cases o with
  |cells c ty a=>simp only[bf]at h;subst h;exact⟨ty,a,rfl⟩
  |_=>cases h
def Oh{H:Type}{enc:TypeId×Value->H}{W:World}{jH e9 t n:Nat}{sp:Nat->Bool}{aa:Bool}{cs:Zo}{T:List au}{p:List MemPlace}(ht:prog.underlying t=some (.array n 9))(d:prog.cellsOf t=n)
  (h:DataW.trod enc prog W jH sp aa e9 t cs=some (.agg (T.map fun x=>.lit (.string x)),p)):cs=T.map fun x=>.string ⟨⟨x⟩⟩:=by
 obtain⟨xs,m,_,b,g,f,c⟩:=DataW.trod_array ht h;simp only[gN,DataW.agg.injEq]at b;obtain⟨b,_⟩:=b;rw[d]at g;have j:T.length=n:=by have:=congrArg List.length b;simp at this;omega
 apply List.ext_getElem?;intro i;rcases aK i n with hi|hi
 .have h1:=c i hi;obtain⟨y,e⟩:∃y,xs[i]?=some y:=⟨_,aY O⟩;rw[Dz,Nat.mul_one,e]at h1;obtain⟨s,e1,e2,_⟩:=DataW.trod_string Cr h1;have h2:(xs.map (·.1))[i]?=some (.lit (.string s.data.toList)):=by rw[iZ,e,e2];rfl
  rw[<-b,iZ]at h2;obtain⟨x,a⟩:∃x,T[i]?=some x:=⟨_,aY O⟩;rw[a]at h2;simp only[df,bf,DataW.lit.injEq,Lit.string.injEq]at h2;have h3:cs[i]?=some (.string s):=by have:=congrArg (fun l:Zo=>l[0]?) e1;simpa[CI,zu]using this
  rw[h3,iZ,a,h2];rfl
 .rw[fp O,fp (by rw[eO];omega)]
def OP:prog.cellsOf 317=22:=ae
def Iq:prog.globalNamed "motley/source.signs"=some 0:=ae
def Ir:prog.globalNamed "strconv.ErrSyntax"=some 1:=ae
def Is:prog.globalNamed "strconv.ErrRange"=some 2:=ae
def R7:(prog.globals[0]?).map (·.type)=some 317:=ae
def R8:(prog.globals[1]?).map (·.type)=some 284:=ae
def R9:(prog.globals[2]?).map (·.type)=some 284:=ae
def Sa:(prog.globals[3]?).map (·.type)=some 406:=ae
def YC:prog.underlying 406=some (.array 20 366):=ae
def YB:prog.underlying 366=some (.int .u64):=ae
def OQ:prog.cellsOf 366=1:=ae
def OR:prog.cellsOf 406=20:=ae
def YQ{W:World}(d:laidMetH prog Rows.syntaxUniformUptoRow.laid W):ib (oG W):=by
 rw[MakeChecks.laidMetH_plain _ _ _ ae]at d;have e:=Lib.laidMet.reads d (.tail _ (.tail _ (.head _)));have f:=Lib.laidMet.reads d (.tail _ (.tail _ (.tail _ (.head _))));have h:=Lib.laidMet.reads d (.tail _ (.tail _ (.tail _ (.tail _ (.head _)))));have i:=Lib.laidMet.reads d (.tail _ (.tail _ (.tail _ (.tail _ (.tail _ (.head _))))));refine⟨?_,?_,?_,?_⟩
 .obtain⟨g,t,cs,e9,p,b,ht,hv,hd⟩:=i;obtain rfl:=cX (Iq.symm.trans b);obtain rfl:=cX (R7.symm.trans ht);obtain⟨ty,c,hb⟩:=Cw Iq hv;have a:=Oh (T:=kR) MB OP hd;refine⟨cs,ty,c,hb,?_,?_⟩
  .have:=congrArg List.length a;simp only[ot]at this;rw[this];simp[sN]
  .rw[io,a];exact uy (by simp[sN])
 .obtain⟨g,t,cs,e9,p,b,ht,hv,hd⟩:=h;obtain rfl:=cX (Ir.symm.trans b);obtain rfl:=cX (R8.symm.trans ht);obtain⟨ty,c,hb⟩:=Cw Ir hv;obtain⟨_,u,v,a,_⟩:=iface_of_trod wF.choose_spec hd;exact⟨u,v,cs,ty,c,hb,by have:=congrArg List.length a;simp at this;simp[this],by simp[a]⟩
 .obtain⟨g,t,cs,e9,p,b,ht,hv,hd⟩:=f;obtain rfl:=cX (Is.symm.trans b);obtain rfl:=cX (R9.symm.trans ht);obtain⟨ty,c,hb⟩:=Cw Is hv;obtain⟨_,u,v,a,_⟩:=iface_of_trod wF.choose_spec hd;exact⟨u,v,cs,ty,c,hb,by have:=congrArg List.length a;simp at this;simp[this],by simp[a]⟩
 .obtain⟨g,t,cs,e9,p,b,ht,hv,hd⟩:=e;obtain rfl:=cX (Eg.symm.trans b);obtain rfl:=cX (Sa.symm.trans ht);obtain⟨ty,c,hb⟩:=Cw Eg hv;have a:=Lib.cells_of_tab (zs:=Lib.pow10Tab) (k:=.u64) YC YB OQ OR hd;refine⟨ty,c,?_⟩;show W.heap[3]?=_;rw[hb,<-a]
def oX:ownKnob prog.godebug=none:=ae
def JI:laidOutB prog=true:=ae
def Pt(os:Os)(args:Array Value):laidMetH prog Rows.syntaxUniformUptoRow.laid ((World.doorLaid prog 67 os).forCall (fun _ _=>0) ⟨#[],args,[]⟩).memory:=
 (@laidMetH_of_parts3 _ _ _ 8 (laidMet_of_run' 8 ae ae) ae ae)
def xy:Array Value:=#[.slice none 0 0,.slice none 0 0,.int .u32 0,.int .u32 0]
def Y1(os:Os){H:Type}(enc:TypeId×Value->H):
  (Rows.OpenSpec.upto Rows.syntaxUniformSpec).preRow enc prog f13 Rows.syntaxUniformUptoRow.domain false Rows.syntaxUniformUptoRow.laid ((World.doorLaid prog 67 os).forCall (fun _ _=>0) ⟨#[],xy,[]⟩).memory xy:=by
 have c:(DataW.whole enc prog ((World.doorLaid prog 67 os).forCall (fun _ _=>0) ⟨#[],xy,[]⟩).memory f13.params.toList (Rows.OpenSpec.upto Rows.syntaxUniformSpec).vars false xy.toList 8).map (fun x=>(x.1,x.2.1)) =
   some ([.nil,.nil,.lit (.int .u32 0),.lit (.int .u32 0)],[]):=ae
 obtain⟨⟨g,f,e⟩,b,a⟩:=Option.map_eq_some_iff.1 c;simp only[gN]at a;obtain⟨rfl,rfl⟩:=a;exact OpenSpec.preRow_of_cond 8 b ae (fun k d=>by cases d;rfl) ae (Pt os _)
set_option maxRecDepth 100000 in
theorem YH(os:Os)(b:os.Started)(H:Type)(enc:TypeId×Value->H)(F:Stop.Interp):
  ReturnsInHanded {} checked os 13 .any ((Rows.OpenSpec.upto Rows.syntaxUniformSpec).preRow enc prog f13 Rows.syntaxUniformUptoRow.domain false Rows.syntaxUniformUptoRow.laid) (((Rows.OpenSpec.upto Rows.syntaxUniformSpec).at F).post enc prog f13 false true false false):=by
 refine returnsInHanded_of_row (C:=checked) (s:=Rows.OpenSpec.upto Rows.syntaxUniformSpec) oX b ae func13
  (witness_row_atRef (enc:=enc) (C:=checked) false (World.doorLaid prog 67 os) xy rfl ae ae ae (Y1 os enc)) ?_
 intro W jH args ds gs z c Z _ f _ hL _ _;have d:Rows.uptoSmall H (ds++gs)=true:=f _ rfl;have a:∀(j:Nat) t v,f13.params[j]?=some t->args[j]?=some v->Value.okWide prog W .any jH t v:=c;have i:=Z;obtain⟨p,q,y,u,rfl,_,_⟩:=Z;have hA:DataW.TrodAll enc prog W 0 (fun _=>true) true f13.params.toList args.toList ds p:=y;rw[params13]at hA a;obtain⟨v0,v1,v2,v3,S,R,d2,d3,U,T,p2,p3,rfl,rfl,rfl,h0,h1,h2,h3⟩:=trodAll_four hA;obtain⟨rfl,rfl⟩:=trodVars_none u;have Q:=h0;have P:=h1;clear y u c;simp only[Y]at i d;have r:∀x∈U++T++p2++p3,x.block<W.heap.size:=fun x g=>by simpa using i.lt x g
 have K:Rows.uptoBulk S+(Rows.uptoBulk R+(Rows.uptoBulk d2+(Rows.uptoBulk d3+0)))<=1048576:=lN d;obtain⟨a0,l0,c0,rfl⟩:=WideShapes.okWide_slice MA (a 0 22 v0 rfl rfl);obtain⟨f0,J⟩:=h0;obtain⟨l,N,ac,A⟩:=Vw J;obtain⟨a1,l1,c1,rfl⟩:=WideShapes.okWide_slice MD (a 1 46 v1 rfl rfl);obtain⟨f1,I⟩:=h1;obtain⟨w,L,aa⟩:=KH I;obtain⟨c2,rfl,rfl,rfl,n⟩:=ChangeShapes.open_int wE (a 2 23 v2 rfl rfl) h2;obtain⟨X,rfl,G⟩:=CA n;obtain⟨c3,rfl,rfl,rfl,m⟩:=ChangeShapes.open_int wE (a 3 23 v3 rfl rfl) h3;obtain⟨V,rfl,B⟩:=CA m;have hV:=YQ hL;have o:=YF hV N L (fun x g=>by obtain⟨b1,b2⟩:=A x g;exact⟨O,O⟩) O O G B;refine(aT.calls o).mono ?_;rintro e W' ⟨rfl,k⟩;have e1:((Rows.OpenSpec.upto Rows.syntaxUniformSpec).at F).fn H ([S,R,.lit (.int .u32 (X:Int)),.lit (.int .u32 (V:Int))]++[])={ results:=[.lit (.bool true)],args:=[S,R,.lit (.int .u32 (X:Int)),.lit (.int .u32 (V:Int))] }:=rfl;refine⟨_,rfl,_,_,_,[],U++(T++([]++[])),[],i,?_,?_,?_,k.frame _,fun h=>by cases h⟩
 .rw[e1];exact trodAll_mk1 (shut_bool underlying4 _)
 .rw[e1];exact trodAll_mk4 (RowKit.Below.trod JI ae (lN ae) Q k (fun x g=>r x (by simp[g]))) (RowKit.Below.trod JI ae (lN ae) P k (fun x g=>r x (by simp[g]))) (ChangeShapes.shut_int wE n) (ChangeShapes.shut_int wE m)
 .rw[e1];rfl
open Go
def S7:(Rows.syntaxUniformUptoRow.wf (OpenSpec.ofChange (OpenSpec.bare (Rows.OpenSpec.upto Rows.syntaxUniformSpec))))=true:=ae
def Ty:(namedTie prog Rows.syntaxUniformUptoRow.named (OpenSpec.bare (Rows.OpenSpec.upto Rows.syntaxUniformSpec)).vars)=true:=ae
def TC:((prog.stopKnobs == []))=true:=ae
def Tb:((Rows.syntaxUniformUptoRow.named == prog.varsNamed 13))=true:=ae
def Tf:((Rows.syntaxUniformUptoRow.loops == (f13.params.toList++(OpenSpec.bare (Rows.OpenSpec.upto Rows.syntaxUniformSpec)).plain.varTypes prog).any (prog.loopsFrom ·)))=true:=ae
def Tk:((Rows.syntaxUniformUptoRow.ifacesOut == f13.resultTypes.toList.any (prog.ifacesRec ·)))=true:=ae
def To:(prog.stopsHeard)=true:=ae
def Tt:((Rows.syntaxUniformUptoRow.kinds == (if Rows.syntaxUniformUptoRow.domain.isEmpty then []else f13.params.toList.map fun t=>match prog.underlying t with|some (.int k)=>some k|_=>none)))=true:=ae
def S1:Rows.syntaxUniformUptoRow.wfByText (Rows.OpenSpec.upto Rows.syntaxUniformSpec)=true:=ae
def S2:prog.mainIs=some (true,("fb6f3cea10b2bce7ccd9e68c58951443a6981fe33c0f78952a9ec7f837153f3e":String).toList):=ae
def Ju:prog.funcNamed "motley/motleylaw07.SyntaxUniform"=some 13:=ae
def S3:true=prog.looks []:=ae
def S4:([22,46,23,23].all fun u=>!prog.wantsStandIn u)=true:=ae
def S5:false=Rows.syntaxUniformUptoRow.goesBy prog:=ae
def S6:f13.isInstance prog Rows.syntaxUniformUptoRow.origin Rows.syntaxUniformUptoRow.targs:=lN ae
def S8:(laidOutB prog)=true:=ae
def Tz:((Rows.syntaxUniformUptoRow.stops == []))=true:=ae
def TD:((Rows.syntaxUniformUptoRow.inPlace == prog.inPlace 13))=true:=ae
def Tc:((Rows.syntaxUniformUptoRow.maps == (f13.params.toList++(OpenSpec.bare (Rows.OpenSpec.upto Rows.syntaxUniformSpec)).plain.varTypes prog).any (prog.mapsRec ·)))=true:=ae
def Tg:((Rows.syntaxUniformUptoRow.wideKeys == (f13.params.toList++(OpenSpec.bare (Rows.OpenSpec.upto Rows.syntaxUniformSpec)).plain.varTypes prog++f13.resultTypes.toList).any (prog.wideKeysFrom ·)))=true:=ae
def Tl:((Rows.syntaxUniformUptoRow.loopsOut == f13.resultTypes.toList.any (prog.loopsFrom ·)))=true:=ae
def Tp:(prog.mayEnter)=true:=ae
def Tu:((Rows.syntaxUniformUptoRow.pinned == Rows.syntaxUniformUptoRow.pinnedBy))=true:=ae
def Tj:(mapsRowed prog)=true:=ae
def TA:((prog.stops == []))=true:=ae
def S9:((Rows.syntaxUniformUptoRow.unfollowed == prog.unfollowed 13))=true:=ae
def Td:((Rows.syntaxUniformUptoRow.ifaces == (f13.params.toList++(OpenSpec.bare (Rows.OpenSpec.upto Rows.syntaxUniformSpec)).plain.varTypes prog).any (prog.ifacesRec ·)))=true:=ae
def Th:((OpenSpec.bare (Rows.OpenSpec.upto Rows.syntaxUniformSpec)).vars.all (prog.varReadable ·))=true:=ae
def Tm:((Rows.syntaxUniformUptoRow.plainKeys == prog.plainKeys))=true:=ae
def Tq:((Rows.syntaxUniformUptoRow.lifted == prog.liftsFinal))=true:=ae
def Tw:((Rows.syntaxUniformUptoRow.veiled == (f13.params.toList++(OpenSpec.bare (Rows.OpenSpec.upto Rows.syntaxUniformSpec)).plain.varTypes prog++f13.resultTypes.toList).any (prog.veiledRec ·)))=true:=ae
def Tv:(f13.params.all (prog.readableRec ·))=true:=ae
def TB:((Rows.syntaxUniformUptoRow.knobs == []))=true:=ae
def Ta:((Rows.syntaxUniformUptoRow.recurses == prog.recurses 13))=true:=ae
def Te:((Rows.syntaxUniformUptoRow.mapsOut == prog.mapsAmong f13.resultTypes.toList))=true:=ae
def Ti:(f13.resultTypes.all (fun t=>prog.readableRec t && decide (t<prog.types.size)))=true:=ae
def Tn:(Rows.syntaxUniformUptoRow.shortTexts.isNone)=true:=ae
def Ts:((prog.make == some Rows.syntaxUniformUptoRow.make))=true:=ae
def Tx:(Rows.syntaxUniformUptoRow.veiledFits prog f13.params.toList (f13.params.toList++(OpenSpec.bare (Rows.OpenSpec.upto Rows.syntaxUniformSpec)).plain.varTypes prog++f13.resultTypes.toList))=true:=ae
def fw{a b:Bool}(h:a=true)(k:b=true):(a && b)=true:=by rw[h,k];rfl
set_option maxRecDepth 100000 in
theorem SZ:joinedFacts prog 13 f13 (OpenSpec.bare (Rows.OpenSpec.upto Rows.syntaxUniformSpec)) Rows.syntaxUniformUptoRow=true:=by unfold joinedFacts;exact(fw (fw (fw (fw (fw (fw (fw (fw (fw (fw (fw (fw (fw (fw (fw (fw (fw (fw (fw (fw (fw (fw (fw (fw (fw (fw (fw (fw (fw (fw (fw S7 S8) Tj) Tv) Ty) Tz) TA) TB) TC) TD) S9) Ta) Tb) Tc) Td) Te) Tf) Tg) Th) Ti) Tk) Tl) Tm) Tn) To) Tp) Tq) Ts) Tt) Tu) Tw) Tx)
def TE:f13.isWrapper prog Rows.syntaxUniformUptoRow.wrapper Rows.syntaxUniformUptoRow.mainSum:=by
 unfold Func.isWrapper
 first|(rw[ah (by decide +kernel)];kernel_rfl)|(rw[ab (by decide +kernel)];exact⟨rfl,rfl⟩)
def YG:Rows.SyntaxUniformUptoSaid:=
 OpenClaim.holds_of_cond 13 f13 rfl rfl rfl rfl rfl rfl rfl ⟨rfl,rfl,rfl,rfl,rfl⟩ rfl rfl rfl rfl rfl Ju func13 SZ S6 TE
  (fun os a H enc _ F=>by rw[OpenClaim.pre_eq_preRow];exact YH os a H enc F)
theorem syntaxUniform_card:Rows.SyntaxUniformUptoCardSaid:=
 Claim7.holds_tied_plain_at .later [] [.data,.data,.data,.sentinel,.sentinel,.data] true (true,"fb6f3cea10b2bce7ccd9e68c58951443a6981fe33c0f78952a9ec7f837153f3e") true
  YG (fun _ h=>by cases h) S1 (fun _ h=>by cases h) syntaxUniformUpto_row_tie rfl ⟨rfl,rfl⟩ S2 rfl
  (fun f fn hf a=>by
   obtain rfl:f=13:=(cX (Ju.symm.trans hf)).symm;obtain rfl:fn=f13:=(cX (func13.symm.trans a)).symm;exact⟨S3,fun j t ht=>by
    rw[params13]at ht;have hm:t∈[22,46,23,23]:=by simpa using Array.mem_of_getElem? ht
    exact(show prog.wantsStandIn t=false by simpa using List.all_eq_true.1 S4 t hm)⟩)
  S5
end Go.Proofs.YtfaclfkpnmcmlaaGreatDoor
