import Derived.Test.YtfaclfkpnmcmlaaGreatDoorG10
import Derived.Test.YtfaclfkpnmcmlaaGreatDoorG13
import Derived.Test.YtfaclfkpnmcmlaaGreatDoorG16
import Derived.Test.YtfaclfkpnmcmlaaGreatDoorG20
import Derived.Test.YtfaclfkpnmcmlaaGreatDoorG21
set_option maxHeartbeats 8000000
set_option linter.all false
open Go.Proofs.Tryz
namespace Go.Proofs.YtfaclfkpnmcmlaaGreatDoor
open Go Go.Sx Dg Syn
def Hd:ay prog 75:=⟨_,func75,rfl,rfl⟩
def OQ:ay prog 108:=⟨_,func108,rfl,rfl⟩
def P0:ay prog 54:=⟨_,func54,rfl,rfl⟩
def P3:ay prog 59:=⟨_,func59,rfl,rfl⟩
def P1:ay prog 56:=⟨_,func56,rfl,rfl⟩
mutual
def kq(t:T):Nd->Nd
 |⟨k,x,o,s,ks,_⟩=>⟨k,x,o,s,eQ t ks,t⟩
def eQ (t:T):List Nd->List Nd
 | []=>[]
 |n::l=>kq t n::eQ t l
end
def yX(t:T)(n:Nd):kq t n=⟨n.kind,n.text,n.tok,n.slot,eQ t n.kids,t⟩:=by cases n;rw[kq]
def yW(t:T):∀l:List Nd,eQ t l=l.map (kq t)
 | []=>by rw[eQ];rfl
 |n::l=>by rw[eQ,yW t l];rfl
def H8(t:T)(l:List Nd):(eQ t l).length=l.length:=by rw[yW,dW]
variable{x:Nd}{i:Nat}{l:List Nd}
def H9{t:T}(h:l[i]?=some x):eQ t (l.take (i+1))=eQ t (l.take i)++[kq t x]:=by rw[yW,yW,cw h,jV];rfl
def yl(n:Nd)(a w w2:Value)(x:Nat×Value):St:=⟨dn 29 [(1,.v w),(2,.p 2 0),(4,.p 4 0),(5,.v x.2),(6,.v (E x.1))],[⟨2,67,[.int .u8 n.kind,.string ⟨⟨n.text⟩⟩,.int .i64 n.tok,.int .i64 n.slot,a,w2]⟩,⟨4,67,[.int .u8 0,.string ⟨#[]⟩,.int .i64 0,.int .i64 0,.slice none 0 0,.slice none 0 0]⟩]⟩
def OM(u d:Nat)(t:T)(n:Nd)(a:PH)(x:Nat×Value)(H:PH):Prop:=∃I A,H=U [I,A]/\Dj [I,A]/\a.le I/\x.1<=n.kids.length/\gM u d I A x.2 (eQ t (n.kids.take x.1))
variable{u:Nat}
def SG(A:u<2^32)(hp:bM u 32<=8):∀(d:Nat) {I:PH} {c:List Value} {vw:Value} {n:Nd} {t:T},aw n.kids<2^40->aU (aP u) d I c n->aP u I vw t->aI prog 75 #[.agg c.toArray,vw] I [] fun r I2 qs=>qs=[]/\∃c2,r=.agg c2.toArray/\aU (aP u) d I2 c2 (kq t n):=by
 have L:=js A hp;intro d
 induction d with
 |zero=>intro I c vw n t _ h;exact h.elim
 |succ d ih=>
 intro I c vw n t hz hn hD hd;obtain⟨vk,vw0,rfl,hw,hk⟩:=hn;obtain⟨ka,kc,rfl,_⟩:=id hk;obtain⟨Q,N,P,rfl⟩:=L.sh hD;obtain⟨xa,xn,xc,rfl⟩:=L.sh hw;have ap:=fJ n.kids;refine aG 29 func75 fun w0=>?_;refine av ?_;refine dR hd fun aa=>?_;refine bz (fun x=>n.kids.length-x.1) (yl n (.slice ka n.kids.length kc) (.slice Q N P) (.slice Q N P)) (OM u d t n I) (0,.slice none 0 0) ae (by simp only[go_sem,ab,yl]) ?_ ?_
 .exact⟨I,_,rfl,aa,ax _,bg _,Ow.nil _ _ _ _⟩
 rintro⟨i,vo⟩ H ⟨I1,A1,rfl,s,f,hi,M⟩ p;simp only at hi M;simp only[yl];obtain⟨oa,oc,rfl⟩:=M.shape;have B:(eQ t (n.kids.take i)).length=i:=by rw[H8,eE];omega
 rcases aB i n.kids.length with F|aq
 .have z:=Z5 i n.kids.length;have e1:=Z7 i;obtain⟨m,hm⟩:∃m,n.kids[i]?=some m:=⟨_,aL F⟩;have am:=iK (cH hm);obtain⟨b,off,cs,rfl,w,y⟩:=Sl.load (R:=aU (aP u) d) (fun{I} c a h=>aU.len (I:=I) c a h) (c7.le A hp hk f) hm;have K:=w;cases d with
  |zero=>exact w.elim
  |succ d=>
  obtain⟨vk2,vw2,rfl,S,W⟩:=w;obtain⟨qa,qc,rfl,_⟩:=id W;obtain⟨ya,yn,yc,rfl⟩:=L.sh S;refine aj z ?_
  try refine⟨O,?_⟩
  refine Xb (l:=[.int .u8 m.kind,.string ⟨⟨m.text⟩⟩,.int .i64 m.tok,.int .i64 m.slot,.slice qa m.kids.length qc,.slice ya yn yc]) (v:=.agg #[.int .u8 m.kind,.string ⟨⟨m.text⟩⟩,.int .i64 m.tok,.int .i64 m.slot,.slice qa m.kids.length qc,.slice ya yn yc]) rfl (cellsU s (.head _) (by simpa using y)) (.inl ⟨jK,rfl⟩) ?_;refine av ?_;refine ce s [0] [] [A1] rfl Hd rfl (ih O K (hD.le f)) ?_;rintro v I3 qs g e⟨rfl,c3,rfl,D⟩;simp only[Z3]at g |-;have C:=D;obtain⟨vk3,vw3,rfl,o,q⟩:=D;rw[yX]at q o;simp only at q o;obtain⟨ra,rc,rfl,_⟩:=id q;obtain⟨za,zn,zc,rfl⟩:=L.sh o;refine av ?_;refine cd g (by exact i8) rfl rfl rfl rfl rfl aR fun nb I4 Z j V=>?_;have ac:Sl (aU (aP u) (d+1)) I4 (.slice (some ⟨nb,0,none⟩) 1 1) [kq t m]:=⟨_,_,rfl,.inr ⟨nb,0,_,rfl,bD V (by simp[aD,Value.cells]) (by simp[aD,Value.cells]),.one (fy A hp C j)⟩⟩;refine av ?_;refine dX (R:=aU (aP u) (d+1)) (xs:=eQ t (n.kids.take i)) (ys:=[kq t m]) Z (by exact i8) (gM.le A hp M (Y e j)) ac (fun{I J c a} h k=>fy A hp h k) (fun{I} c a h=>aU.len (I:=I) c a h) (fun{I} c a h=>aU.ones L h) rfl rfl rfl rfl (by rw[B];simp only[bf,bA];omega) (by rw[B];simp only[bf,bA];unfold maxLen;omega) fun ua uc I5 A5 X G ag=>?_;refine aj e1 ?_;exact p (i+1,.slice ua (eQ t (n.kids.take i)++[kq t m]).length uc) _ _ bC ae (by simp only[go_sem,ab,yl]) ⟨I5,A5,rfl,X,Y f (Y e (Y j G)),F,by simp only;rw[H9 hm];exact ag⟩
 .have:i=n.kids.length:=by omega
  subst this;have z:decide ((n.kids.length:Int)<(n.kids.length:Int))=false:=ai;rw[cB]at M |-;refine bq s [0] fun g=>?_;refine bH (c:=.st _) g fun I3 g e al=>?_;refine aj z ?_;exact ao rfl g (r:=[.agg #[.int .u8 n.kind,.string ⟨⟨n.text⟩⟩,.int .i64 n.tok,.int .i64 n.slot,.slice oa (eQ t n.kids).length oc,.slice Q N P]]) (by simp only[results75,go_sem,E]) (Y f e) ⟨rfl,_,rfl,by rw[yX];exact⟨_,_,rfl,hD.le (Y f e),fZ (R:=aU (aP u) d) (fun{I J c a} h k=>fy A hp h k) M e al⟩⟩
def jR(t:T)(l:List aN):List aN:=l.map fun d=>{ d with cond:=t }
def SY{t:T}{l:List aN}{x:aN}(h:l[i]?=some x):jR t (l.take (i+1))=jR t (l.take i)++[{ x with cond:=t }]:=by unfold jR;rw[cw h,jV];rfl
def yi(b vd a:Value)(x:Nat×Value):St:=⟨dn 49 [(1,.v a),(2,.p 2 0),(4,.p 4 0),(5,.p 5 0),(6,.v (E x.1))],[⟨2,41,[b,vd]⟩,⟨4,41,[.slice none 0 0,.slice none 0 0]⟩,⟨5,41,[x.2,.slice none 0 0]⟩]⟩
def yj(c vd b a:Value)(x:Nat×Value):St:=⟨dn 49 [(1,.v b),(2,.p 2 0),(4,.p 4 0),(5,.p 5 0),(7,.v (E x.1))],[⟨2,41,[c,vd]⟩,⟨4,41,[.slice none 0 0,.slice none 0 0]⟩,⟨5,41,[a,x.2]⟩]⟩
def OJ(u d:Nat)(t:T)(l:List Nd)(a:PH)(x:Nat×Value)(H:PH):Prop:=∃I A,H=U [I,A]/\Dj [I,A]/\a.le I/\x.1<=l.length/\gM u d I A x.2 (eQ t (l.take x.1))
def OK(u:Nat)(t:T)(l:List aN)(a:PH)(x:Nat×Value)(H:PH):Prop:=∃I A,H=U [I,A]/\Dj [I,A]/\a.le I/\x.1<=l.length/\ir u I A x.2 (jR t (l.take x.1))
variable{t:Tr}{v:Value}{I:PH}{d:Nat}
def Oa(D:u<2^32)(hp:bM u 32<=8){vw:Value}{s:T}(hT:gy u d I v t)(hD:aP u I vw s)(hz:aw t.kids<2^40)(ba:t.diags.length<2^40):aI prog 108 #[v,vw] I [] fun r I2 qs=>qs=[]/\gy u d I2 r ⟨eQ s t.kids,jR s t.diags⟩:=by
 have hW:=js D hp;obtain⟨vk,vd,rfl,hK,hE⟩:=hT;obtain⟨ka,kc,rfl,_⟩:=id hK;obtain⟨ea,ec,rfl,_⟩:=id hE;obtain⟨wa,wn,wc,rfl⟩:=hW.sh hD;have bc:=fJ t.kids;intro hd;refine aG 49 func108 fun w0=>?_;refine af ?_;refine dR hd fun a1=>?_;refine bz (fun x=>t.kids.length-x.1) (yi (.slice ka t.kids.length kc) (.slice ea t.diags.length ec) (.slice wa wn wc)) (OJ u d s t.kids I) (0,.slice none 0 0) ae (by simp only[go_sem,ab,yi]) ?_ ?_
 .exact⟨I,_,rfl,a1,ax _,bg _,Ow.nil _ _ _ _⟩
 .rintro⟨i,vo⟩ H ⟨I1,A1,rfl,M,p,hi,w⟩ f;simp only at hi w;simp only[yi];obtain⟨oa,oc,rfl⟩:=w.shape;have q:(eQ s (t.kids.take i)).length=i:=by rw[H8,eE];omega
  rcases aB i t.kids.length with y|ap
  .have Q:=Z5 i t.kids.length;have e1:=Z7 i;obtain⟨m,hm⟩:∃m,t.kids[i]?=some m:=⟨_,aL y⟩;have bb:=iK (cH hm);obtain⟨b,off,cs,rfl,N,o⟩:=Sl.load (R:=aU (aP u) d) (fun{I} c a h=>aU.len (I:=I) c a h) (c7.le D hp hK p) hm;have ac:=N;cases d with
   |zero=>exact N.elim
   |succ d=>
   obtain⟨vk2,vw2,rfl,ag,am⟩:=N;obtain⟨U,S,rfl,_⟩:=id am;obtain⟨ya,yn,yc,rfl⟩:=hW.sh ag;refine aj Q ?_;refine aV [0,1,2,3,4,5,6,7,8,9,10,11,12] [6] [] ?_;refine aC ?_
   try refine⟨O,?_⟩
   refine Xc (l:=[.int .u8 m.kind,.string ⟨⟨m.text⟩⟩,.int .i64 m.tok,.int .i64 m.slot,.slice U m.kids.length S,.slice ya yn yc]) (v:=.agg #[.int .u8 m.kind,.string ⟨⟨m.text⟩⟩,.int .i64 m.tok,.int .i64 m.slot,.slice U m.kids.length S,.slice ya yn yc]) rfl (cellsU M (.head _) (by simpa using o)) (.inl ⟨jK,rfl⟩) ?_;refine aC ?_;refine cv M [0] [] [A1] rfl Hd rfl (SG D hp (d+1) O ac (hD.le p)) ?_;rintro v I3 qs j e⟨rfl,c3,rfl,Z⟩;simp only[Z3]at j |-;have X:=Z;obtain⟨vk3,vw3,rfl,G,L⟩:=Z;rw[yX]at L G;simp only at L G;obtain⟨ra,rc,rfl,_⟩:=id L;obtain⟨za,zn,zc,rfl⟩:=hW.sh G;refine aC ?_;refine lV j (by exact i8) rfl rfl rfl rfl rfl aR fun V I4 C A K=>?_;have a3:Sl (aU (aP u) (d+1)) I4 (.slice (some ⟨V,0,none⟩) 1 1) [kq s m]:=⟨_,_,rfl,.inr ⟨V,0,_,rfl,bD K (by simp[aD,Value.cells]) (by simp[aD,Value.cells]),.one (fy D hp X A)⟩⟩;refine aC ?_;refine oD (R:=aU (aP u) (d+1)) (xs:=eQ s (t.kids.take i)) (ys:=[kq s m]) C (by exact i8) (gM.le D hp w (Y e A)) a3 (fun{I J c a} h k=>fy D hp h k) (fun{I} c a h=>aU.len (I:=I) c a h) (fun{I} c a h=>aU.ones hW h) rfl rfl rfl rfl rfl rfl (by rw[q];simp only[bf,bA];omega) (by rw[q];simp only[bf,bA];unfold maxLen;omega) fun ua uc I5 A5 B g a7=>?_;refine aC ?_;apply an;refine aj e1 ?_;exact f (i+1,.slice ua (eQ s (t.kids.take i)++[kq s m]).length uc) _ _ bC ae (by simp only[go_sem,ab,yi]) ⟨I5,A5,rfl,B,Y p (Y e (Y A g)),y,by simp only;rw[H9 hm];exact a7⟩
  .have:i=t.kids.length:=by omega
   subst this;have Q:decide ((t.kids.length:Int)<(t.kids.length:Int))=false:=ai;rw[cB]at w |-;refine bq M [0] fun j=>?_;refine bH (c:=.st _) j fun I3 j e a9=>?_;refine aj Q ?_;have a4:c7 u d I3 (.slice oa (eQ s t.kids).length oc) (eQ s t.kids):=fZ (R:=aU (aP u) d) (fun{I J c a} h k=>fy D hp h k) w e a9;have F:=Y p e;clear f w q;generalize oa=U at *;generalize oc=S at *;refine dR j fun j=>?_;refine bz (fun x=>t.diags.length-x.1) (yj (.slice ka t.kids.length kc) (.slice ea t.diags.length ec) (.slice wa wn wc) (.slice U (eQ s t.kids).length S)) (OK u s t.diags I3) (0,.slice none 0 0) ae (by simp only[go_sem,ab,yj]) ?_ ?_
   .exact⟨I3,_,rfl,j,ax _,bg _,Ow.nil _ _ _ _⟩
   rintro⟨i,vo⟩ H ⟨I3,A3,rfl,C,e,hi,w⟩ f;simp only at hi w;simp only[yj];obtain⟨oa,oc,rfl⟩:=w.shape;have q:(jR s (t.diags.take i)).length=i:=by unfold jR;rw[dW,eE];omega
   rcases aB i t.diags.length with y|ap
   .have P:=Z5 i t.diags.length;have e1:=Z7 i;obtain⟨x,hx⟩:∃x,t.diags[i]?=some x:=⟨_,aL y⟩;have W:=Y F e;obtain⟨b,off,cs,rfl,⟨vx,rfl,hw⟩,o⟩:=Sl.load (R:=bB (aP u)) (fun{I} c a h=>bB.len (I:=I) c a h) (Sl.le (R:=bB (aP u)) (fun{I J c a} h k=>gn h k) hE W) hx;obtain⟨xa,xn,xc,rfl⟩:=hW.sh hw;refine aj P ?_;refine⟨O,?_⟩;refine Xb (l:=[.int .u8 x.code,.int .i64 x.tok,.slice xa xn xc]) (v:=.agg #[.int .u8 x.code,.int .i64 x.tok,.slice xa xn xc]) rfl (cellsU C (.head _) o) (.inl ⟨l6,rfl⟩) ?_;refine av ?_;refine cd C (by exact mE) rfl rfl rfl rfl rfl aR fun V I6 a0 z K=>?_;have a2:Sl (bB (aP u)) I6 (.slice (some ⟨V,0,none⟩) 1 1) [{ x with cond:=s }]:=⟨_,_,rfl,.inr ⟨V,0,_,rfl,bD K (by simp[aD,Value.cells]) (by simp[aD,Value.cells]),.one ⟨_,rfl,hD.le (Y W z)⟩⟩⟩;refine av ?_;refine dX (R:=bB (aP u)) (xs:=jR s (t.diags.take i)) (ys:=[{ x with cond:=s }]) a0 (by exact mE) (ir.le w z) a2 (fun{I J c a} h k=>gn h k) (fun{I} c a h=>bB.len (I:=I) c a h) (fun{I} c a h=>xX h) rfl rfl rfl rfl (by rw[q];simp only[bf,bA];omega) (by rw[q];simp only[bf,bA];unfold maxLen;omega) fun ua uc I7 A7 aq aa a6=>?_;refine aj e1 ?_;exact f (i+1,.slice ua (jR s (t.diags.take i)++[{ x with cond:=s }]).length uc) _ _ bC ae (by simp only[go_sem,ab,yj]) ⟨I7,A7,rfl,aq,Y e (Y z aa),y,by simp only;rw[SY hx];exact a6⟩
   .have:i=t.diags.length:=by omega
    subst this;have P:decide (((t.diags.length:Nat):Int)<(t.diags.length:Int))=false:=ai;rw[cB]at w |-;refine bq C [0] fun B=>?_;refine bH (c:=.st _) B fun I5 B g a5=>?_;refine aj P ?_;exact ao rfl B (r:=[.agg #[.slice U (eQ s t.kids).length S,.slice oa (jR s t.diags).length oc]]) (by simp only[results108,go_sem,E]) (Y F (Y e g)) ⟨rfl,_,_,rfl,c7.le D hp a4 (Y e g),fZ (R:=bB (aP u)) (fun{I J c a} h k=>gn h k) w g a5⟩
open Go Go.Sx Dg Syn
mutual
def uO(u:Nat):Nd->Prop
 |⟨_,_,_,_,ks,c⟩=>cQ u c/\o0 u ks
def o0 (u:Nat):List Nd->Prop
 | []=>True
 |n::l=>uO u n/\o0 u l
end
def F8(u:Nat)(n:Nd):uO u n<->cQ u n.cond/\o0 u n.kids:=by cases n;rw[uO]
def sF{u:Nat}:∀{l:List Nd},o0 u l<->∀n∈l,uO u n
 | []=>by simp[o0]
 |n::l=>by rw[o0,sF (l:=l)];simp
def LR.mem{α:Type}{R:List Value->α->Prop}:∀{l:List α} {xs:List Value} {a:α},LR R xs l->a∈l->∃c,R c a
 |b::l,_,a,⟨c,ys,_,h1,h2⟩,h=>by
  rcases List.mem_cons.1 h with rfl|h
  .exact⟨c,h1⟩
  .exact LR.mem h2 h
def Sl.mem{α:Type}{R:PH->List Value->α->Prop}{l:List α}{a:α}(h:Sl R I v l)(ha:a∈l):∃c,R I c a:=by
 obtain⟨_,_,_,h⟩:=h;rcases h with rfl|⟨_,_,_,_,_,h⟩
 .cases ha
 .exact LR.mem h ha
def aU.du{u:Nat}:∀{d:Nat} {I:PH} {c:List Value} {n:Nd},aU (aP u) d I c n->uO u n
 |0,_,_,_,h=>h.elim
 |d+1,I,c,n,⟨e,w,f,hw,a⟩=>(F8 u n).2 ⟨hw.1,sF.2 fun m hm=>by obtain⟨c,b⟩:=Sl.mem a hm;exact aU.du b⟩
def c7.du(h:c7 u d I v l):o0 u l:=sF.2 fun m hm=>by obtain⟨c,a⟩:=Sl.mem h hm;exact aU.du a
def NI{l:List aN}(h:Sl (bB (aP u)) I v l):∀x∈l,cQ u x.cond:=fun x a=>by obtain⟨c,w,_,hw⟩:=Sl.mem h a;exact hw.1
def J9{c:Nat}(a:u<2^24):gI u c≠ff:=fun e=>by have:=FM (c:=c) a;rw[e,qv]at this;cases this
def Iw{c:Nat}(a:u<2^24){t:T}(ht:cQ u t):(gI u c).and t=if t.at' (co c)then gI u c else .lf false:=by have h:(gI u c).ok 0:=(cQ.cubes (Dm u c)).1;rw[xB h ht.1];exact L4 a ht
def SZ(t:T)(n:Nd)(l:List Nd):eQ t (n::l)=kq t n::eQ t l:=by rw[eQ]
def Dc{u c:Nat}(a:u<2^24):∀(m:Nat) (l:List Nd),aw l<m->o0 u l->eQ tt (dO (gI u c) l)=pL (co c) l
 |0,_,h,_=>by omega
 |m+1,[],_,_=>by rfl
 |m+1,n::l,hm,e=>by
  rw[eK]at hm;have d:=(F8 u n).1 (sF.1 e n (.head _));have f:=Dc a (c:=c) m l O (sF.2 fun x g=>sF.1 e x (.tail _ g));have b:=Dc a (c:=c) m n.kids O d.2;rw[show n::l=[n]++l from rfl,ID,(FP c).one,<-f,show [n]++l=n::l from rfl,qO,Iw a d.1];unfold kT;cases i:n.cond.at' (co c)
  .simp
  .have:=J9 (u:=u) (c:=c) a;simp only[cY,this,gT];rw[SZ,yX,b];simp
def Ie{u c:Nat}(a:u<2^24):∀(l:List aN),(∀x∈l,cQ u x.cond)->jR tt (gt (gI u c) l)=s9 (co c) l
 | [],_=>rfl
 |x::l,h=>by have b:=Ie a (c:=c) l fun y d=>h y (.tail _ d);have h1:=Iw (c:=c) a (h x (.head _));unfold gt s9 jR at b |-;rw[List.filterMap_cons,gJ,h1];have:=J9 (u:=u) (c:=c) a;cases e:x.cond.at' (co c)<;>simp[this,b]
def TR(n:u<2^24)(hp:bM u 32<=8){c:Nat}{vw:Value}(F:gy u d I v t)(J:dh I vw (cI u 32))(D:aw t.kids<2^40)(h:t.diags.length<2^40):aI prog 54 #[v,.int .u32 (c&&&u:Nat),vw] I [] fun r I2 qs=>qs=[]/\gy u d I2 r (prj (co c) t):=by
 have a:u<2^32:=O;obtain⟨vk,vd,rfl,G,H⟩:=id F;obtain⟨ka,kc,rfl,_⟩:=id G;obtain⟨ea,ec,rfl,_⟩:=id H;obtain⟨Z,X,rfl,_⟩:=id J;have j:c&&&u<2^32:=jy Nat.and_le_right a;intro hd;refine aG 13 func54 fun w0=>?_;refine af ?_;refine cd hd (by exact ik) rfl rfl rfl rfl rfl aR fun C T w b p=>?_;have x:dh T (.slice (some ⟨C,0,none⟩) 1 1) [c&&&u]:=⟨_,_,rfl,.inr ⟨C,0,_,rfl,bD p (by simp[aD,Value.cells]) (by simp[aD,Value.cells]),.one ⟨rfl,j⟩⟩⟩;refine af ?_;refine dq w rfl Ha (IU a hp (F.le a hp b) (VF n x) D h) ?_;rintro v I2 qs s f⟨rfl,k⟩;obtain⟨L,N,rfl,z,B⟩:=id k;have m:aw (dO (gI u c) t.kids)<2^40:=jy (wI _ _) D;have l:(gt (gI u c) t.diags).length<2^40:=jy (DJ _ _) h;obtain⟨W,V,rfl,_⟩:=id z;obtain⟨U,yc,rfl,_⟩:=id B;refine af ?_;refine dq s rfl OQ (Oa a hp k (JS (dh.le J (Y b f))) m l) ?_;rintro v I3 qs q i⟨rfl,g⟩;have e:(⟨eQ (.lf true) (wi (gI u c) t).kids,jR (.lf true) (wi (gI u c) t).diags⟩:Tr)=prj (co c) t:=by show (⟨eQ tt (dO (gI u c) t.kids),jR tt (gt (gI u c) t.diags)⟩:Tr)=_;rw[Dc n (aw t.kids+1) t.kids O (c7.du G),Ie n _ (NI H)];rfl
 rw[e]at g;obtain⟨K,M,rfl,y,A⟩:=id g;obtain⟨S,R,rfl,_⟩:=id y;obtain⟨Q,P,rfl,_⟩:=id A;refine af ?_;exact ao rfl q (r:=[.agg #[.slice S (prj (co c) t).kids.length R,.slice Q (prj (co c) t).diags.length P]]) (by simp only[results54,go_sem]) (Y b (Y f i)) ⟨rfl,g⟩
open Go Go.Sx Dg Syn
def pT(l:List Nd):T:=l.foldl (fun s n=>T.or s n.cond) (.lf false)
def WF(l:List Nd)(n:Nd):pT (l++[n])=T.or (pT l) n.cond:=by unfold pT;rw[lP];rfl
def Eu(c:dp):∀(l:List Nd) (s:T),s.ok 0->(∀n∈l,n.cond.ok 0)->(l.foldl (fun s n=>T.or s n.cond) s).ok 0/\(l.foldl (fun s n=>T.or s n.cond) s).at' c=(s.at' c || l.any fun n=>n.cond.at' c)
 | [],s,h,_=>⟨h,by simp⟩
 |n::l,s,h,d=>by have b:=d n (.head _);have a:=Eu c l (T.or s n.cond) (T.or_ok h b) fun m hm=>d m (.tail _ hm);rw[List.foldl_cons];exact⟨a.1,by rw[a.2,T.or_at h b,List.any_cons,Bool.or_assoc]⟩
def WD(c:dp)(h:∀n∈l,n.cond.ok 0):(pT l).at' c=l.any fun n=>n.cond.at' c:=by have:=(Eu c l (.lf false) trivial h).2;rw[show (T.lf false).at' c=false from rfl,ju]at this;exact this
def WE(h:∀n∈l,n.cond.ok 0):(pT l).ok 0:=(Eu (fun _=>false) l (.lf false) trivial h).1
def wK(u:Nat)(I:PH):aP u I (.slice none 0 0) (.lf false):=⟨cQ.lf u false,by rw[qv];exact⟨none,0,rfl,.inl rfl⟩⟩
def yB(a vd:Value)(x:Nat×Value):St:=⟨dn 21 [(1,.p 1 0),(3,.v x.2),(4,.v (E x.1))],[⟨1,41,[a,vd]⟩]⟩
def Qw(u:Nat)(l:List Nd)(a:PH)(x:Nat×Value)(H:PH):Prop:=∃I,H=U [I]/\Dj [I]/\a.le I/\x.1<=l.length/\aP u I x.2 (pT (l.take x.1))
def WG(B:u<2^32)(hp:bM u 32<=8)(V:gy u d I v t)(hz:aw t.kids<2^40):aI prog 59 #[v] I [] fun r I2 qs=>qs=[]/\aP u I2 r (pT t.kids):=by
 have A:=js B hp;obtain⟨vk,vd,rfl,D,W⟩:=id V;obtain⟨Q,P,rfl,_⟩:=id D;obtain⟨Z,X,rfl,_⟩:=id W;have T:=fJ t.kids;intro hd;refine aG 21 func59 fun w0=>?_;refine af ?_;refine bz (fun x=>t.kids.length-x.1) (yB (.slice Q t.kids.length P) (.slice Z t.diags.length X)) (Qw u t.kids I) (0,.slice none 0 0) ae (by simp only[go_sem,ab,yB]) ?_ ?_
 .exact⟨I,rfl,hd,ax _,bg _,wK u I⟩
 rintro⟨i,vo⟩ H ⟨I1,rfl,g,e,hi,w⟩ f;simp only at hi w;simp only[yB];obtain⟨oa,on,oc,rfl⟩:=A.sh w;rcases aB i t.kids.length with p|U
 .have k:=Z5 i t.kids.length;have e1:=Z7 i;obtain⟨n,C⟩:∃n,t.kids[i]?=some n:=⟨_,aL p⟩;obtain⟨b,off,cs,rfl,s,j⟩:=Sl.load (R:=aU (aP u) d) (fun{I} c a h=>aU.len (I:=I) c a h) (c7.le B hp D e) C;cases d with
  |zero=>exact s.elim
  |succ d=>
  obtain⟨N,M,rfl,m,y⟩:=s;obtain⟨qa,qc,rfl,_⟩:=id y;obtain⟨L,K,yc,rfl⟩:=A.sh m;have c5:=j.get (i:=5) rfl;refine aj k ?_
  try refine⟨O,?_⟩
  refine Xb (l:=[.slice L K yc]) rfl (cellsU g (.head _) (by simpa using c5)) (.inr ⟨kO,rfl⟩) ?_;refine av ?_;refine dq g rfl uW (wP hp w m) ?_;rintro v I3 qs z q⟨rfl,o⟩;obtain⟨J,F,G,rfl⟩:=A.sh o;refine aj e1 ?_;exact f (i+1,.slice J F G) _ _ bC ae (by simp only[go_sem,ab,yB]) ⟨I3,rfl,z,Y e q,p,by simp only;rw[cw C,WF];exact o⟩
 .have:i=t.kids.length:=by omega
  subst this;have k:decide ((t.kids.length:Int)<(t.kids.length:Int))=false:=ai;rw[cB]at w;refine aj k ?_;exact ao rfl g (r:=[_]) rfl e ⟨rfl,w⟩
def kX(w:List (List Nat×Nd)):Nat:=w.foldl (fun m x=>max m x.1.length) 0
def HS(w:List (List Nat×Nd))(x:List Nat×Nd):kX (w++[x])=max (kX w) x.1.length:=by unfold kX;rw[lP];rfl
def yx(b vd a:Value)(x:Nat×Nat):St:=⟨dn 26 [(1,.p 1 0),(2,.v (E 0)),(3,.v (E 0)),(4,.v a),(5,.v (E x.2)),(6,.v (E x.1))],[⟨1,41,[b,vd]⟩]⟩
def UL(M:u<2^32)(hp:bM u 32<=8)(A:kL (dZ u) I v t)(L:aw t.kids<2^30)(z:∀x∈cq [] 0 t.kids,x.1.length<2^40):aI prog 56 #[v] I [] fun r I2 qs=>qs=[]/\r=.tuple #[E (aw t.kids),E (kX (cq [] 0 t.kids))]:=by
 obtain⟨vk,vd,dd,rfl,T,V⟩:=id A;obtain⟨K,J,rfl,_⟩:=id T;obtain⟨X,W,rfl,_⟩:=id V;intro hd;refine aG 26 func56 fun w0=>?_;refine af ?_;refine dq hd rfl G8 (Kg M hp A L) ?_;rintro v I1 qs o k⟨rfl,y⟩;have f:=mN [] 0 t.kids;generalize cq [] 0 t.kids=w at y z f |-;rw[<-f];obtain⟨D,C,rfl,_⟩:=id y;refine af ?_;refine bz (fun x=>w.length-x.1) (yx (.slice K t.kids.length J) (.slice X t.diags.length W) (.slice D w.length C)) (fun x H=>H=U [I1]/\x.1<=w.length/\x.2=kX (w.take x.1)) (0,0) ae (by simp only[go_sem,ab,yx]) ⟨rfl,bg _,rfl⟩ ?_;rintro⟨i,m⟩ H ⟨rfl,hi,hm⟩ d;simp only at hi hm;simp only[yx];rcases aB i w.length with j|Q
 .have e:=Z5 i w.length;have Z:=Z7 i;obtain⟨⟨p,n⟩,s⟩:∃n,w[i]?=some n:=⟨_,aL j⟩;have P:=z (p,n) (cH s);obtain⟨wb,wo,B,rfl,⟨F,cn,dn2,rfl,g,S⟩,b⟩:=Sl.load (R:=eH u) (fun{I} c a h=>eH.len (I:=I) c a h) y s;obtain⟨sa,G,rfl,_⟩:=id g;have q:=b.get (i:=0) rfl;have e2:(if (m:Int)<(p.length:Int)then (p.length:Int)else (m:Int))=((max m p.length:Nat):Int):=by split<;>omega
  refine aj e ?_
  try refine⟨O,?_⟩
  refine Xb (l:=[.slice sa p.length G]) rfl (cellsU o (.head _) (by simpa using q)) (.inr ⟨Fh,rfl⟩) ?_;refine bW Z e2 ?_;exact d (i+1,max m p.length) _ _ bC ae (by simp only[go_sem,ab,yx]) ⟨rfl,j,by simp only;rw[cw s,HS,<-hm]⟩
 .have:i=w.length:=by omega
  subst this;rw[cB]at hm;have e:decide ((w.length:Int)<(w.length:Int))=false:=ai;refine aj e ?_;exact ao rfl o (r:=[E w.length,E m]) (by simp only[results56,go_sem,E]) k ⟨rfl,by rw[hm];rfl⟩
def sK:ay prog 180:=⟨_,func180,rfl,rfl⟩
def Cs:ay prog 175:=⟨_,func175,rfl,rfl⟩
def uV:ay prog 112:=⟨_,func112,rfl,rfl⟩
def sQ(b:Bool)(H:PH):aJ prog 180 #[.bool b] H fun v H2=>v=.int .i64 (if b then -1 else 1)/\H2=H:=by
 refine aG 4 func180 fun w0=>?_;cases b
 .refine af ?_;exact au (r:=[_]) rfl ⟨rfl,rfl⟩
 .refine af ?_;exact au (r:=[_]) rfl ⟨rfl,rfl⟩
def iz{a b:Int}(h:a≠b):(a != b)=true:=by simpa using h
def iU{a b:Int}(h:a=b):(a != b)=false:=by simp[h]
def Dr(x y:fc)(o e2 n m:Option Addr)(k j m1 l p c2 d1 d2:Nat)(H:PH):aJ prog 175 #[.agg #[.int .u8 x.kind,.string ⟨⟨x.text⟩⟩,.int .i64 x.tok,.int .i64 x.slot,.slice o k p,.slice e2 j c2],.agg #[.int .u8 y.kind,.string ⟨⟨y.text⟩⟩,.int .i64 y.tok,.int .i64 y.slot,.slice n m1 d1,.slice m l d2]] H fun v H2=>v=.int .i64 (fT x y)/\H2=H:=by
 refine aG 53 func175 fun w0=>?_;have a:∀{z:Int},z=fT x y->(Value.int .i64 z=.int .i64 (fT x y)):=fun h=>by rw[h]
 by_cases b:x.slot=y.slot
 rotate_left
 .have q:=iz b;refine db q ?_;refine Xa rfl sK (sQ _ _) ?_;rintro v H2⟨rfl,rfl⟩;refine af ?_;refine au (r:=[_]) rfl ⟨a ?_,rfl⟩;rcases Int.lt_or_gt_of_ne b with h|h
  .simp[fT,cU,cS,h]
  .have d:¬x.slot<y.slot:=by omega
   simp[fT,cU,cS,h,d]
 have e:=iU b;by_cases ht:x.tok=y.tok
 rotate_left
 .have q:=iz ht;refine je e q ?_;refine Xa rfl sK (sQ _ _) ?_;rintro v H2⟨rfl,rfl⟩;refine af ?_;refine au (r:=[_]) rfl ⟨a ?_,rfl⟩;rcases Int.lt_or_gt_of_ne ht with h|h
  .simp[fT,cU,cS,h,b]
  .have d:¬x.tok<y.tok:=by omega
   simp[fT,cU,cS,h,d,b]
 have g:=iU ht;by_cases c:(x.kind:Int)=(y.kind:Int)
 rotate_left
 .have q:=iz c;apply RG;simp only[go_sem,e,g,q];refine Xa rfl sK (sQ _ _) ?_;rintro v H2⟨rfl,rfl⟩;refine af ?_;refine au (r:=[_]) rfl ⟨a ?_,rfl⟩;rcases Int.lt_or_gt_of_ne c with h|h
  .simp[fT,cU,cS,h,b,ht]
  .have d:¬(x.kind:Int)<(y.kind:Int):=by omega
   simp[fT,cU,cS,h,d,b,ht]
 have i:=iU c;by_cases f:x.text=y.text
 .have q:(x.text == y.text)=true:=by simpa using f
  apply RG;simp only[go_sem,e,g,i,q,bX];refine au (r:=[_]) rfl ⟨a ?_,rfl⟩;simp[fT,cU,cS,kP,b,ht,c,f,n5.irr]
 .have q:(x.text == y.text)=false:=by simpa using f
  apply RG;simp only[go_sem,e,g,i,q,cF];refine Xa rfl sK (sQ _ _) ?_;rintro v H2⟨rfl,rfl⟩;refine af ?_;refine au (r:=[_]) rfl ⟨a ?_,rfl⟩;rw[xL];cases h1:fL x.text y.text
  .have h2:fL y.text x.text=true:=by
    cases h2:fL y.text x.text
    .exact absurd (n5.tri _ _ h1 h2) f
    .rfl
   simp[fT,cU,cS,kP,b,ht,c,h1,h2]
  .simp[fT,cU,cS,kP,b,ht,c,h1]
def vM(x y:aN)(e2 i:Option Addr)(f g c2 d2:Nat)(H:PH):aJ prog 112 #[.agg #[.int .u8 x.code,.int .i64 x.tok,.slice e2 f c2],.agg #[.int .u8 y.code,.int .i64 y.tok,.slice i g d2]] H fun v H2=>v=.int .i64 (eV x y)/\H2=H:=by
 refine aG 29 func112 fun w0=>?_;have a:∀{z:Int},z=eV x y->(Value.int .i64 z=.int .i64 (eV x y)):=fun h=>by rw[h]
 by_cases ht:x.tok=y.tok
 rotate_left
 .have q:=iz ht;refine db q ?_;refine Xa rfl sK (sQ _ _) ?_;rintro v H2⟨rfl,rfl⟩;refine af ?_;refine au (r:=[_]) rfl ⟨a ?_,rfl⟩;rcases Int.lt_or_gt_of_ne ht with h|h
  .simp[eV,cU,cS,h]
  .have c:¬x.tok<y.tok:=by omega
   simp[eV,cU,cS,h,c]
 have d:=iU ht;by_cases b:(x.code:Int)=(y.code:Int)
 rotate_left
 .have q:=iz b;refine je d q ?_;refine Xa rfl sK (sQ _ _) ?_;rintro v H2⟨rfl,rfl⟩;refine af ?_;refine au (r:=[_]) rfl ⟨a ?_,rfl⟩;rcases Int.lt_or_gt_of_ne b with h|h
  .simp[eV,cU,cS,h,ht]
  .have c:¬(x.code:Int)<(y.code:Int):=by omega
   simp[eV,cU,cS,h,c,ht]
 have e:=iU b;refine je d e ?_;refine au (r:=[_]) rfl ⟨a ?_,rfl⟩;simp[eV,cU,cS,ht,b]
def HO{α:Type}{R:List Value->α->Prop}(h1:∀c a,R c a->c.all Sx.one=true):∀{l:List α} {xs:List Value},LR R xs l->xs.all Sx.one=true
 | [],xs,h=>by rw[show xs=[] from h];rfl
 |a::l,xs,⟨c,ys,e,h,k⟩=>by rw[e,List.all_append,h1 c a h,HO h1 k];rfl
variable{size:Nat}{e:TypeId}
def Ow.shift{α:Type}{R:PH->List Value->α->Prop}{A:PH}{l:List α}(h:Ow R e size I A v l)(j:∀{I} c a,R I c a->c.length=size)(h1:∀{I} c a,R I c a->c.all Sx.one=true){k:Nat}(y:k<l.length):
  ∃g cap cur ys,v=.slice (some ⟨g,0,none⟩) l.length cap/\A=sg g (.cells cur e (0,0))/\l.length<=cap/\cap<=maxLen/\aX A g (k*size) ys/\ys.length=(l.length-(k+1))*size/\ys.all Sx.one=true/\(k+1)*size+ys.length<=cur.size/\
   Ow R e size I (sg g (.cells (bi cur.toList ((k+1)*size) ys).toArray e (0,0))) v (l.take (k+1)++(l.drop k).take (l.length-(k+1))):=by
 obtain⟨g,cap,cur,xs,ev,rfl,o,c2,c3,c4,c5,d⟩:=h.open' O fun c a k=>j c a k;have s:l.length*size<=cap*size:=bS _ o;have x:(l.length-(k+1))*size+(k+1)*size=l.length*size:=by rw[<-fm];congr 1;omega
 have t:(k+1)*size=k*size+size:=by rw[fm,lQ]
 obtain⟨w,r⟩:=d.split (fun c a k=>j c a k) k;obtain⟨p,_⟩:=r.split (fun c a k=>j c a k) (l.length-(k+1));obtain⟨q,t2⟩:=d.split (fun c a k=>j c a k) (k+1);have m:((xs.drop (k*size)).take ((l.length-(k+1))*size)).length=(l.length-(k+1))*size:=by rw[eE,kC,c5];omega
 have f:((xs.drop (k*size)).take ((l.length-(k+1))*size)).all Sx.one=true:=HO (fun c a k=>h1 c a k) p;have b:aX (sg g (.cells cur e (0,0))) g (k*size) ((xs.drop (k*size)).take ((l.length-(k+1))*size)):=by
  have u:aX (sg g (.cells cur e (0,0))) g 0 xs:=gX O (by rw[jU,c5];exact c4);have:=u.sub (k*size) ((l.length-(k+1))*size) O
  rwa [eR]at this
 generalize (xs.drop (k*size)).take ((l.length-(k+1))*size)=ys at *;have i:bi xs ((k+1)*size) ys=xs.take ((k+1)*size)++ys:=by have hd:xs.drop ((k+1)*size+ys.length)=[]:=List.drop_eq_nil_of_le O;rw[lg _ _ _ O,hd,ab]
 have n:(l.take (k+1)++(l.drop k).take (l.length-(k+1))).length=l.length:=by rw[dG,eE,eE,kC];omega
 refine⟨g,cap,cur,ys,ev,rfl,o,c2,b,m,f,O,bi xs ((k+1)*size) ys,?_,?_⟩
 .rw[n,ev];exact ti c5 o c2 c3 c4 O
 .rw[i];exact q.app p
def GM:ay prog 116:=⟨_,func116,rfl,rfl⟩
variable{p out:List Nd}
def fu.perm{out':List Nd}(h:fu p out)(hp:out'.Perm out):fu p out' where
 dist:=(hp.pairwise_iff (fun{a b} h e=>h e.symm)).2 h.dist
 node:=fun m hm=>h.node m (hp.mem_iff.1 hm)
 has:=fun n c d=>by obtain⟨m,h1,h2⟩:=h.has n c d;exact⟨m,hp.mem_iff.2 h1,h2⟩
 from':=fun m hm=>h.from' m (hp.mem_iff.1 hm)
abbrev nI(out:List Nd):Prop:=out.Pairwise (fun a b=>dE a.key b.key=true)
def IN(h:fu p out)(c:nI out):out=(ks p).map (gF p):=
 fu.sorted h (List.Perm.refl _) (c.imp fun{a b} h=>by
  cases hb:dE b.key a.key
  .rfl
  .have:=jj.tr _ _ _ h hb;rw[jj.irr]at this;cases this)
def TX(h:fu p out)(a:nI out):aw out<=aw p:=by rw[IN h a];exact Eh p
def RX{x y:fc}(h:dE x y=false):(fT x y == 0)=!dE y x:=by
 have h1:=vm x y;rw[h]at h1;have f:dE y x=true<->fT x y≠0:=by
  constructor
  .intro c e;have e2:x=y:=by
    unfold fT cU cU cU cU cU at e;unfold cS kP at e;have s:x.slot=y.slot:=by
     rcases Int.lt_trichotomy x.slot y.slot with q|q|q
     .simp[q]at e
     .exact q
     .have:¬x.slot<y.slot:=by omega
      simp[q,this]at e
    have t:x.tok=y.tok:=by
     rcases Int.lt_trichotomy x.tok y.tok with q|q|q
     .simp[q,s]at e
     .exact q
     .have:¬x.tok<y.tok:=by omega
      simp[q,this,s]at e
    have k:x.kind=y.kind:=by
     rcases oe x.kind y.kind with q|q|q
     .simp[q,s,t]at e
     .exact q
     .have:¬x.kind<y.kind:=by omega
      simp[q,this,s,t]at e
    have w:x.text=y.text:=by
     simp[s,t,k]at e;by_cases a:fL x.text y.text=true
     .simp[a]at e
     .by_cases b:fL y.text x.text=true
      .simp[a,b]at e
      .exact n5.tri _ _ (by simpa using a) (by simpa using b)
    cases x;cases y;simp_all
   rw[e2,jj.irr]at c;cases c
  .intro d;cases c:dE y x
   .exact absurd (by have:=jj.tri _ _ h c;subst this;simp[fT,cU,cS,kP,n5.irr]) d
   .rfl
 cases c:dE y x
 .have:fT x y=0:=Classical.byContradiction fun d=>by rw[f.2 d]at c;cases c
  simp[this]
 .have:=f.1 c;simp[this]
variable{j:Nat}{n:Nd}
def R7(c:nI out)(h1:∀m∈out.take j,dE m.key n.key=true)(h2:∀m∈out.drop j,dE n.key m.key=true):nI (out.take j++[n]++out.drop j):=by
 rw[eD];have h3:(out.take j++out.drop j).Pairwise fun a b=>dE a.key b.key=true:=by rw[fl];exact c
 rw[List.pairwise_append]at h3;refine List.pairwise_append.2 ⟨h3.1,List.pairwise_cons.2 ⟨h2,h3.2.1⟩,fun a ha b hb=>?_⟩;rcases List.mem_cons.1 hb with rfl|hb
 .exact h1 a ha
 .exact h3.2.2 a ha b hb
def R6(e:nI out)(h:∀m,out[j]?=some m->dE n.key m.key=true):∀m∈out.drop j,dE n.key m.key=true:=fun m hm=>by
 have hd:(out.drop j).Pairwise fun a b=>dE a.key b.key=true:=e.sublist (List.drop_sublist _ _);cases c:out.drop j with
 |nil=>rw[c]at hm;cases hm
 |cons x r=>
  rw[c]at hm hd;have d:=h x (sE c).1;rcases List.mem_cons.1 hm with rfl|hm
  .exact d
  .exact jj.tr _ _ _ d ((List.pairwise_cons.1 hd).1 m hm)
def TW(h:fu p out)(d:nI out)(a:n.cond.ok 0)(c:n.cond≠ff)(h1:∀m∈out.take j,dE m.key n.key=true)(h2:∀m∈out.drop j,dE n.key m.key=true):fu (p++[n]) (out.take j++[n]++out.drop j):=by
 have b:∀m∈out,m.key≠n.key:=fun m hm e=>by
  rw[<-fl j out]at hm;rcases List.mem_append.1 hm with hm|hm
  .have:=h1 m hm;rw[e,jj.irr]at this;cases this
  .have:=h2 m hm;rw[e,jj.irr]at this;cases this
 have h3:=h.step a;rw[jf,ad c,un b]at h3;refine fu.perm h3 ?_;have e:out++[n]=(out.take j++out.drop j)++[n]:=by rw[fl]
 rw[e,eD,eD];exact List.Perm.append_left _ List.perm_append_comm
def TV{m:Nd}(h:fu p out)(a:n.cond.ok 0)(d:n.cond≠ff)(c:out[j]?=some m)(b:m.key=n.key):fu (p++[n]) (out.set j { m with kids:=m.kids++n.kids,cond:=m.cond.or n.cond }):=by
 have h3:=h.step a
 rwa [jf,ad d,um h.dist c b]at h3
def R8{m m':Nd}(d:nI out)(c:out[j]?=some m)(f:m'.key=m.key):nI (out.set j m'):=by
 have e:(out.set j m').map Nd.key=out.map Nd.key:=by
  apply List.ext_getElem?;intro i;rw[fX,fX,pY];split
  .rename_i hi;subst hi;rw[c,ak (List.getElem?_eq_some_iff.1 c).1];simp[f]
  .rfl
 have h2:(out.map Nd.key).Pairwise fun a b=>dE a b=true:=List.pairwise_map.2 d;rw[<-e]at h2;exact List.pairwise_map.1 h2
def lE(f:Nd->Nd)(j:Nat)(L:List Nd):List Nd:=(L.take j).map f++L.drop j
variable{L:List Nd}{f:Nd->Nd}
def SU(h:L[j]?=some x):(lE f j L)[j]?=some x:=by have a:=(List.getElem?_eq_some_iff.1 h).1;unfold lE;rw[pW (by simp;omega),dW,eE,kF O,Nat.sub_self,rA];exact h
def SW(f:Nd->Nd)(j:Nat)(L:List Nd):(lE f j L).length=L.length:=by unfold lE;rw[dG,dW,<-dG,fl]
def SX(h:L[j]?=some x):(lE f j L).set j (f x)=lE f (j+1) L:=by
 have a:=(List.getElem?_eq_some_iff.1 h).1;have c:((L.take j).map f).length=j:=by rw[dW,eE];omega
 unfold lE;rw[cw h,jV,jv a];have b:L[j]=x:=by rw[aL a]at h;exact df h
 rw[b,List.set_append_right _ _ O,c,Nat.sub_self];simp
variable{c:List Value}{cur:Array Value}
def BB{g p:Nat}(h:aX (sg g (.cells cur e (0,0))) g p c):p+c.length<=cur.size/\(cur.toList.drop p).take c.length=c:=by
 obtain⟨cs,ty,a,hb,h1,h2⟩:=h;rw[dV]at hb;cases hb
 exact⟨h1,h2⟩
def UB{L cs:List Value}{p k:Nat}(d:(L.drop p).take c.length=c)(b:k+cs.length<=c.length)(hp:p+c.length<=L.length):bi L (p+k) cs=bi L p (bi c k cs):=by
 have a:(bi c k cs).length=c.length:=eJ _ _ _;rw[lg L cs (p+k) O,lg L _ p (by rw[a];exact hp),a,lg c cs k b];have e:L.take (p+k)=L.take p++c.take k:=by rw[List.take_add,<-d,rF,kF O]
 have e2:L.drop (p+k+cs.length)=c.drop (k+cs.length)++L.drop (p+c.length):=by
  have h1:L.drop p=c++L.drop (p+c.length):=by conv=>lhs;rw[<-fl c.length (L.drop p),d,kB]
  rw[show p+k+cs.length=p+(k+cs.length) by omega,<-kB,h1,List.drop_append_of_le_length b]
 rw[e,e2];simp only[eD]
theorem Ow.put{α:Type}{R:PH->List Value->α->Prop}{l:List α}{g:Nat}(h:Ow R e size I (sg g (.cells cur e (0,0))) v l)(s:∀{I} c a,R I c a->c.length=size)(m:∀{I J c a},R I c a->I.le J->R J c a){k:Nat}{x y:α}{cs:List Value}{J:PH}(hi:l[i]?=some x)(r:aX (sg g (.cells cur e (0,0))) g (i*size) c)(q:c.length=size)(B:k+cs.length<=size)(t:I.le J)(p:R J (bi c k cs) y):
  Ow R e size J (sg g (.cells (bi cur.toList (i*size+k) cs).toArray e (0,0))) v (l.set i y):=by
 obtain⟨n,cap,d,c',ev,o,A,z,h1,h2,h3,f⟩:=h.elem s m hi;have u:n=g:=by apply Classical.byContradiction;intro j;have b:=dV g (Obj.cells cur e (0,0));rw[o]at b;unfold sg at b;rw[ad (fun e=>j e.symm)]at b;cases b
 subst u;have w:d=cur:=by have b:=dV n (Obj.cells cur e (0,0));rw[o,dV]at b;cases b;rfl
 subst w;obtain⟨b1,b2⟩:=BB r;rw[UB b2 O (by simpa using b1)];exact f J _ y t p
def Lw{J B A:PH}(hd:Dj [I,A])(d:Dj [J,B,A])(c:I.le J):(U [I,A]).le (U [J,B,A]):=fun b o h=>by
 rw[j3 hd]at h;obtain⟨P,a,hb⟩:=h;rcases List.mem_cons.1 a with rfl|a
 .exact jk d (.head _) b o (c b o hb)
 .rw[List.mem_singleton]at a;subst a;exact jk d (.tail _ (.tail _ (.head _))) b o hb
section
variable {C:Cx} {k:List Item} {σ:St} {α:Type} {R:PH->List Value->α->Prop}
def KW{ol:List Oper}{fr:bI}{str:bJ}{i:Nat}{lo:List (Nat×Oper)}{o:Oper}{t e:TypeId}{size bytes:Nat}{x y:Operand}{v vy:Value}{xs ys:List α}{I A:PH}{l:List PH}(hd:Dj (I::A::l))(ht:ch C.P t e size bytes)(m:Ow R e size I A v xs)(r:Sl R I vy ys)(G:∀{I J c a},R I c a->I.le J->R J c a)(D:∀{I} c a,R I c a->c.length=size)(h1:∀{I} c a,R I c a->c.all Sx.one=true)
  (B:str.h.contains i=false) (N:∀I2 d,Dj (I2::d::l)->I.le I2->fr.J.le (U (I2::d::l))) (hw:be ol σ o=some true) (aa:o.op=.call ⟨.builtin .append,#[x,y],#[t,t]⟩) (z:ev σ x=.v v) (w:ev σ y=.v vy) (hb:(xs.length+ys.length)*bytes<=140737488355328) (s:xs.length+ys.length<=maxLen)
  (F:∀a c I2 d,Dj (I2::d::l)->I.le I2->Ow R e size I2 d (.slice a (xs++ys).length c) (xs++ys)->RD C ol fr str lo k (σ.put o.dst (.v (.slice a (xs++ys).length c))) (U (I2::d::l))):RD C ol fr str ((i,o)::lo) k σ (U (I::A::l)):=by
 obtain⟨V,yc,rfl,r⟩:=r;rcases r with rfl|⟨b,off,zs,rfl,M,hr⟩
 .have g:=m.cap fun c a h=>D c a h;obtain⟨L,vc,rfl⟩:=m.shape;obtain⟨a,b⟩:=wy (H:=U (I::A::l)) ht aa z g w;refine oE hw a (by rw[aa];rfl) (b.mono fun sv H2 ⟨j,e2⟩=>⟨⟨fun q=>Bool.noConfusion (B.symm.trans q),fun _ q=>by rw[e2];exact q⟩,?_⟩);subst j;subst e2;have:=F L vc I A hd (ax _) (by simpa using m);simpa using this
 .obtain⟨T,f,p⟩:=m;obtain⟨a,b'⟩:=zS (σ:=σ) ht aa z w (f.1.le (nJ hd)) (cellsU hd (.head _) M) (hr.len fun c a h=>D c a h) (hr.ones fun c a h=>h1 c a h) hb s;refine oE hw a (by rw[aa];rfl) (b'.mono fun sv H2 ⟨W,j,e2,S,Q⟩=>?_);subst j;obtain⟨I2,d,j,K,n,u⟩:=DH hd f e2 S Q;subst j;refine⟨⟨fun q=>Bool.noConfusion (B.symm.trans q),fun _ _=>N I2 d K n⟩,?_⟩;obtain⟨a,c,rfl⟩:=u.slice;have e:xs.length+ys.length=(xs++ys).length:=ai;have:=F a c I2 d K n ⟨T++zs,by rw[e]at u;exact u,LR.app (p.mono fun _ _ h=>G h n) (hr.mono fun _ _ h=>G h n)⟩;rw[e];exact this
end
def Hq{α:Type}(out:List α)(z n:α){j:Nat}(a:j<=out.length):(((out++[z]).take (j+1)++((out++[z]).drop j).take ((out++[z]).length-(j+1))).set j n)=out.take j++[n]++out.drop j:=by
 have h1:((out++[z]).drop j).take ((out++[z]).length-(j+1))=out.drop j:=by rw[List.drop_append_of_le_length a,n9 ai];exact tM ai
 obtain⟨x,b⟩:∃x,(out++[z])[j]?=some x:=⟨_,aL (by simp;omega)⟩;have h2:(out++[z]).take (j+1)=out.take j++[x]:=by rw[cw b,n9 a]
 have c:(out.take j).length=j:=by rw[eE];omega
 rw[h1,h2,eD,List.set_append_right _ _ O,c,Nat.sub_self];simp
def Hp{α:Type}(out:List α)(z:α){j:Nat}(a:j<=out.length):∃x,((out++[z]).take (j+1)++((out++[z]).drop j).take ((out++[z]).length-(j+1)))[j]?=some x:=by refine⟨_,aL ?_⟩;rw[dG,eE,eE,kC,dG,List.length_singleton];omega
def V1:prog.underlying 38=some (.slice 67):=by obtain⟨i,z,h,_⟩:=i8;exact h
def QG:∃i,prog.info? 67=some i/\i.size=6:=by obtain⟨i,z,_,h,_,h2,_⟩:=i8;exact⟨i,h,h2⟩
def V3:prog.underlying 39=some (.slice 102):=by obtain⟨i,z,h,_⟩:=mE;exact h
def QF:∃i,prog.info? 102=some i/\i.size=3:=by obtain⟨i,z,_,h,_,h2,_⟩:=mE;exact⟨i,h,h2⟩
open Go Go.Sx Dg Syn
def nB(v:Value)(x:Nat×Value):St:=⟨dn 122 [(0,.v v),(3,.v x.2),(4,.v (E x.1))],[]⟩
def pf(v a:Value)(i j:Nat):St:=⟨dn 122 [(0,.v v),(3,.v a),(4,.v (E i)),(5,.v (E j))],[]⟩
def qC(a:Value)(j:Nat):St:=⟨dn 122 [(3,.v a),(6,.v (E j))],[]⟩
def OO(u d:Nat)(l:List Nd)(a:PH)(x:Nat×Value)(H:PH):Prop:=∃I A out,H=U [I,A]/\Dj [I,A]/\a.le I/\x.1<=l.length/\gM u d I A x.2 out/\fu (l.take x.1) out/\nI out
def zN:Nd:=⟨0,[],0,0,[],ff⟩
def Tc {u : Nat} (hu : u < 2 ^ 32) (hp : bM u 32 ≤ 8) : ∀ (d : Nat) {I : PH} {v : Value} {l : List Nd}, c7 u d I v l → aw l < 2 ^ 36 → aI prog 116 #[v] I [] fun r I2 qs => qs = [] ∧ c7 u d I2 r (dj d l) := by
  have hW := js hu hp
  intro d
  induction d with
  | zero =>
    intro I v l hS hz hd
    have cx : l = [] := by
      cases l with
      | nil => rfl
      | cons n l => obtain ⟨c, hc⟩ := Sl.mem hS (.head _); exact hc.elim
    subst cx
    obtain ⟨va, vc, rfl, _⟩ := id hS
    refine aG 122 func116 fun w0 => ?_
    have h0 : decide ((0 : Int) < (([] : List Nd).length : Int)) = false := rfl
    refine af ?_
    refine bz (fun _ => 0) (fun _ : Unit => nB (.slice va ([] : List Nd).length vc) (0, .slice none 0 0)) (fun _ H => H = U [I]) () ae (by simp only [go_sem, ab, nB]) rfl ?_
    rintro _ H rfl _
    simp only [nB]
    (apply RG; simp only [go_sem, E, bG, h0])
    refine bz (fun _ => 0) (fun _ : Unit => qC (.slice none 0 0) 0) (fun _ H => H = U [I]) () ae (by simp only [go_sem, ab, qC]) rfl ?_
    rintro _ H rfl _
    simp only [qC]
    (apply RG; simp only [go_sem, E, bG])
    exact ao rfl hd (r := [.slice none 0 0]) (by simp only [results116, go_sem, E]) (ax _) ⟨rfl, ⟨none, 0, rfl, .inl rfl⟩⟩
  | succ d ih =>
  intro I v l hS hz hd
  obtain ⟨va, vc, rfl, _⟩ := id hS
  have fz := fJ l
  refine aG 122 func116 fun w0 => ?_
  refine af ?_
  refine dR hd fun e7 => ?_
  refine bz (fun x => l.length - x.1) (nB (.slice va l.length vc)) (OO u (d + 1) l I) (0, .slice none 0 0) ae (by simp only [go_sem, ab, nB]) ?_ ?_
  · exact ⟨I, _, [], rfl, e7, ax _, bg _, Ow.nil _ _ _ _, fu.nil, List.Pairwise.nil⟩
  rintro ⟨i, vo⟩ H ⟨I1, A1, out, rfl, a4, a3, hi, hA, al, bc⟩ aq
  simp only at hi hA al
  simp only [nB]
  obtain ⟨oa, oc, rfl⟩ := hA.shape
  have er : aw out ≤ aw l := by
    refine cO (TX al bc) ?_
    conv => rhs; rw [← fl i l]
    rw [jr]; omega
  have fr := fJ out
  rcases aB i l.length with ci | f0
  rotate_left
  · have : i = l.length := by omega
    subst this
    have d4 : decide ((l.length : Int) < (l.length : Int)) = false := ai
    rw [cB] at al
    have b0 := IN al bc
    have ca : dj (d + 1) l = out.map fun m => { m with kids := dj d m.kids } := by rw [De, ← b0]
    rw [ca]
    clear ca b0 aq al
    refine aj d4 ?_
    refine bz (fun j => out.length - j) (qC (.slice oa out.length oc)) (fun j H => ∃ I2 A2, H = U [I2, A2] ∧ Dj [I2, A2] ∧ I1.le I2 ∧ j ≤ out.length ∧ gM u (d + 1) I2 A2 (.slice oa out.length oc) (lE (fun m => { m with kids := dj d m.kids }) j out)) 0 ae (by simp only [go_sem, ab, qC]) ⟨I1, A1, rfl, a4, ax _, bg _, hA⟩ ?_
    rintro j H ⟨I2, A2, rfl, a9, b4, hj, ba⟩ ap
    simp only [qC]
    rcases aB j out.length with a7 | a7
    · have bo : decide ((j : Int) < (out.length : Int)) = true := ar O
      have e2 : IntKind.i64.wrap ((j : Int) + 1) = ((j + 1 : Nat) : Int) := by rw [← wrap64 (n := j + 1) O]; congr 1
      obtain ⟨m, hm⟩ : ∃ m, out[j]? = some m := ⟨_, aL a7⟩
      have ey := iK (cH hm)
      have d6 := SU (f := fun m => { m with kids := dj d m.kids }) hm
      obtain ⟨g, cap, cur, cm, ev, eA, q1, q2, d1, e8, aa, _⟩ := ba.elem (fun {I} c a h => aU.len (I := I) c a h) (fun {I J c a} h k => fy hu hp h k) d6
      rw [SW] at ev q1
      cases ev
      subst eA
      obtain ⟨vkm, vwm, rfl, bx, b5⟩ := d1
      obtain ⟨pa, pc, rfl, _⟩ := id b5
      obtain ⟨ya, yc, rfl, _⟩ := id bx.2
      have c0 := aa.get (i := 4) rfl
      refine aj bo ?_
      try refine ⟨O, ?_⟩
      refine Xb (l := [.slice pa m.kids.length pc]) rfl (cellsU a9 (.tail _ (.head _)) (by simpa using c0)) (.inr ⟨rZ, rfl⟩) ?_
      refine av ?_
      refine ce a9 [0] [] [_] rfl GM rfl (ih b5 O) fun v I4 qs a2 ac hq => ?_
      obtain ⟨rfl, d9⟩ := hq
      obtain ⟨ra, rc, rfl, _⟩ := id d9
      simp only [Z3] at a2 ⊢
      refine av ?_
      try refine ⟨O, ?_⟩
      refine oB a2 rfl rfl rfl rfl rfl (by exact Ed) (by simp; omega) fun a1 => ?_
      have ei : gM u (d + 1) I4 (sg g (.cells (bi cur.toList (j * 6 + 4) [.slice ra (dj d m.kids).length rc]).toArray 67 (0, 0))) (.slice (some ⟨g, 0, none⟩) out.length oc) ((lE (fun m => { m with kids := dj d m.kids }) j out).set j { m with kids := dj d m.kids }) :=
        Ow.put ba (fun {I} c a h => aU.len (I := I) c a h) (fun {I J c a} h k => fy hu hp h k) (k := 4) d6 aa rfl ai ac ⟨.slice ra (dj d m.kids).length rc, .slice ya (aF u m.cond).length yc, rfl, bx.le ac, d9⟩
      rw [SX (f := fun m => { m with kids := dj d m.kids }) hm] at ei
      refine aj e2 ?_
      exact ap (j + 1) _ _ O ae (by simp only [go_sem, ab, qC]) ⟨I4, _, rfl, a1, Y b4 ac, a7, ei⟩
    · have : j = out.length := by omega
      subst this
      have bo : decide ((out.length : Int) < (out.length : Int)) = false := ai
      have cy : lE (fun m => { m with kids := dj d m.kids }) out.length out = out.map fun m => { m with kids := dj d m.kids } := by unfold lE; rw [cB, jw, ab]
      rw [cy] at ba
      refine bq a9 [0] fun a2 => ?_
      refine bH (c := .st _) a2 fun I4 a2 ac d2 => ?_
      refine aj bo ?_
      exact ao rfl a2 (r := [.slice oa out.length oc]) (by simp only [results116, go_sem, E]) (Y a3 (Y b4 ac)) ⟨rfl, fZ (R := aU (aP u) (d + 1)) (fun {I J c a} h k => fy hu hp h k) ba ac d2⟩
  have d4 : decide ((i : Int) < (l.length : Int)) = true := ar O
  have e1 : IntKind.i64.wrap ((i : Int) + 1) = ((i + 1 : Nat) : Int) := by rw [← wrap64 (n := i + 1) O]; congr 1
  obtain ⟨n, hn⟩ : ∃ n, l[i]? = some n := ⟨_, aL ci⟩
  obtain ⟨b, off, cs, rfl, ed, am⟩ := Sl.load (R := aU (aP u) (d + 1)) (fun {I} c a h => aU.len (I := I) c a h) (c7.le hu hp hS a3) hn
  have dT := ed
  obtain ⟨vk, vw, rfl, hw, hk⟩ := ed
  obtain ⟨ka, kc, rfl, _⟩ := id hk
  obtain ⟨wa, wc, rfl, _⟩ := id hw.2
  have et := iK (cH hn)
  have c5 := am.get (i := 5) rfl
  refine aj d4 ?_
  try refine ⟨O, ?_⟩
  refine Xb (l := [.slice wa (aF u n.cond).length wc]) rfl (cellsU a4 (.head _) (by simpa using c5)) (.inr ⟨kO, rfl⟩) ?_
  by_cases cb : n.cond = ff
  · have d3 : (((aF u n.cond).length : Int) == 0) = true := by rw [cb]; show (((aF u (.lf false)).length : Int) == 0) = true; rw [qv]; rfl
    refine bW d3 e1 ?_
    refine aq (i + 1, .slice oa out.length oc) _ _ bC ae (by simp only [go_sem, ab, nB]) ⟨I1, A1, out, rfl, a4, a3, ci, hA, ?_, bc⟩
    simp only
    rw [cw hn]
    have h3 := al.step (n := n) hw.1.1
    rwa [jf, ak cb] at h3
  have d3 : (((aF u n.cond).length : Int) == 0) = false := by
    have : aF u n.cond ≠ [] := fun e => cb ((sy hu hw.1).1 e)
    have := List.length_pos_iff.2 this
    rw [hU]; omega
  refine aj d3 ?_
  apply qg (pf (.slice (some ⟨b, off, none⟩) l.length vc) (.slice oa out.length oc) i) (fun j H => H = U [I1, A1] ∧ j ≤ out.length ∧ (∀ m ∈ out.take j, dE m.key n.key = true) ∧ ∀ m ∈ out.drop j, dE n.key m.key = true)
  · intro hg
    refine bz (fun j => out.length - j) (pf (.slice (some ⟨b, off, none⟩) l.length vc) (.slice oa out.length oc) i) (fun j H => H = U [I1, A1] ∧ j ≤ out.length ∧ ∀ m ∈ out.take j, dE m.key n.key = true) 0 ae (by simp only [go_sem, ab, pf]) ⟨rfl, bg _, fun m hm => by simp at hm⟩ ?_
    rintro j H ⟨rfl, hj, bs⟩ ap
    simp only [pf]
    rcases aB j out.length with a7 | a7
    rotate_left
    · have : j = out.length := by omega
      subst this
      have cc : decide ((out.length : Int) < (out.length : Int)) = false := ai
      refine av ?_
      refine aV [0, 1, 2, 3, 4, 5, 6, 7, 8, 9, 10, 11, 12, 13, 14, 15] [8, 12] [] ?_
      refine aM cc ?_
      apply an
      refine av ?_
      refine aV [0, 1, 2, 3, 4, 5, 6, 7, 8, 9, 10, 11, 12, 13, 14, 15] [8, 12] [] ?_
      refine aM cc ?_
      apply an
      (apply bU 2; simp only [go_sem, E])
      exact hg out.length _ _ ⟨rfl, aW _, bs, fun m hm => by rw [jw] at hm; cases hm⟩ ae (by simp only [go_sem, ab, pf])
    have cc : decide ((j : Int) < (out.length : Int)) = true := ar O
    have e2 : IntKind.i64.wrap ((j : Int) + 1) = ((j + 1 : Nat) : Int) := by rw [← wrap64 (n := j + 1) O]; congr 1
    obtain ⟨m, hm⟩ : ∃ m, out[j]? = some m := ⟨_, aL a7⟩
    obtain ⟨g, cap, cur, cm, ev, eA, q1, q2, d1, e8, aa, eq⟩ := hA.elem (fun {I} c a h => aU.len (I := I) c a h) (fun {I J c a} h k => fy hu hp h k) hm
    cases ev
    obtain ⟨vkm, vwm, rfl, bx, b5⟩ := d1
    obtain ⟨pa, pc, rfl, _⟩ := id b5
    obtain ⟨ya, yc, rfl, _⟩ := id bx.2
    refine av ?_
    refine aV [0, 1, 2, 3, 4, 5, 6, 7, 8, 9, 10, 11, 12, 13, 14, 15] [8, 12] [] ?_
    refine aM cc ?_
    try refine ⟨O, ?_⟩
    refine Xc (l := [.int .u8 m.kind, .string ⟨⟨m.text⟩⟩, .int .i64 m.tok, .int .i64 m.slot, .slice pa m.kids.length pc, .slice ya (aF u m.cond).length yc]) (v := .agg #[.int .u8 m.kind, .string ⟨⟨m.text⟩⟩, .int .i64 m.tok, .int .i64 m.slot, .slice pa m.kids.length pc, .slice ya (aF u m.cond).length yc]) rfl (cellsU a4 (.tail _ (.head _)) (by simpa using aa)) (.inl ⟨jK, rfl⟩) ?_
    refine aC ?_
    try refine ⟨O, ?_⟩
    refine Xc (l := [.int .u8 n.kind, .string ⟨⟨n.text⟩⟩, .int .i64 n.tok, .int .i64 n.slot, .slice ka n.kids.length kc, .slice wa (aF u n.cond).length wc]) (v := .agg #[.int .u8 n.kind, .string ⟨⟨n.text⟩⟩, .int .i64 n.tok, .int .i64 n.slot, .slice ka n.kids.length kc, .slice wa (aF u n.cond).length wc]) rfl (cellsU a4 (.head _) (by simpa using am)) (.inl ⟨jK, rfl⟩) ?_
    refine aC ?_
    refine lW rfl rfl rfl rfl Cs (Dr m.key n.key _ _ _ _ _ _ _ _ _ _ _ _ _) fun v H2 hv => ?_
    obtain ⟨rfl, rfl⟩ := hv
    refine ⟨gL.le (ax _), ?_⟩
    have cl := vm m.key n.key
    cases b6 : dE m.key n.key
    rotate_left
    · rw [b6] at cl
      refine aM cl ?_
      apply an
      refine aj e2 ?_
      exact ap (j + 1) _ _ O ae (by simp only [go_sem, ab, pf]) ⟨rfl, a7, fun x hx => by rw [cw hm] at hx; rcases List.mem_append.1 hx with hx | hx; exact bs x hx; rw [List.mem_singleton] at hx; rw [hx]; exact b6⟩
    rw [b6] at cl
    refine aM cl ?_
    apply an
    refine av ?_
    refine aV [0, 1, 2, 3, 4, 5, 6, 7, 8, 9, 10, 11, 12, 13, 14, 15] [8, 12] [] ?_
    refine aM cc ?_
    try refine ⟨O, ?_⟩
    refine Xc (l := [.int .u8 m.kind, .string ⟨⟨m.text⟩⟩, .int .i64 m.tok, .int .i64 m.slot, .slice pa m.kids.length pc, .slice ya (aF u m.cond).length yc]) (v := .agg #[.int .u8 m.kind, .string ⟨⟨m.text⟩⟩, .int .i64 m.tok, .int .i64 m.slot, .slice pa m.kids.length pc, .slice ya (aF u m.cond).length yc]) rfl (cellsU a4 (.tail _ (.head _)) (by simpa using aa)) (.inl ⟨jK, rfl⟩) ?_
    refine aC ?_
    try refine ⟨O, ?_⟩
    refine Xc (l := [.int .u8 n.kind, .string ⟨⟨n.text⟩⟩, .int .i64 n.tok, .int .i64 n.slot, .slice ka n.kids.length kc, .slice wa (aF u n.cond).length wc]) (v := .agg #[.int .u8 n.kind, .string ⟨⟨n.text⟩⟩, .int .i64 n.tok, .int .i64 n.slot, .slice ka n.kids.length kc, .slice wa (aF u n.cond).length wc]) rfl (cellsU a4 (.head _) (by simpa using am)) (.inl ⟨jK, rfl⟩) ?_
    refine aC ?_
    refine lW rfl rfl rfl rfl Cs (Dr m.key n.key _ _ _ _ _ _ _ _ _ _ _ _ _) fun v H2 hv => ?_
    obtain ⟨rfl, rfl⟩ := hv
    refine ⟨gL.le (ax _), ?_⟩
    have ck := RX b6
    cases cj : dE n.key m.key
    rotate_left
    · rw [cj] at ck
      (apply bp; simp only [go_sem, E, ck, bX])
      apply an
      (apply bU 2; simp only [go_sem, E])
      exact hg j _ _ ⟨rfl, hj, bs, R6 bc fun x hx => by rw [hm] at hx; cases hx; exact cj⟩ ae (by simp only [go_sem, ab, pf])
    have c3 : m.key = n.key := jj.tri _ _ b6 cj
    rw [cj] at ck
    (apply bp; simp only [go_sem, E, ck, cF])
    apply an
    refine av ?_
    have c9 := iK (cH hm)
    have ez := aa.get (i := 5) rfl
    subst eA
    refine aV [0, 1, 2, 3, 4, 5, 6, 7, 8, 9, 10, 11, 12, 13, 14, 15] [6, 11] [] ?_
    refine aC ?_
    try refine ⟨O, ?_⟩
    refine Xc (l := [.slice ya (aF u m.cond).length yc]) rfl (cellsU a4 (.tail _ (.head _)) (by simpa using ez)) (.inr ⟨kO, rfl⟩) ?_
    refine aC ?_
    try refine ⟨O, ?_⟩
    refine Xc (l := [.slice wa (aF u n.cond).length wc]) rfl (cellsU a4 (.head _) (by simpa using c5)) (.inr ⟨kO, rfl⟩) ?_
    refine aC ?_
    refine cv a4 [0] [] [_] rfl uW rfl (wP hp bx hw) fun v I3 qs a9 ag hq => ?_
    obtain ⟨rfl, nG⟩ := hq
    obtain ⟨za, zc, rfl, _⟩ := id nG.2
    simp only [Z3] at a9 ⊢
    refine aC ?_
    try refine ⟨O, ?_⟩
    refine cg a9 rfl rfl rfl rfl rfl rfl (by exact Ee) (by simp; omega) fun a2 => ?_
    refine aC ?_
    apply an
    have ba : gM u (d + 1) I3 (sg g (.cells (bi cur.toList (j * 6 + 5) [.slice za (aF u (m.cond.or n.cond)).length zc]).toArray 67 (0, 0))) (.slice (some ⟨g, 0, none⟩) out.length oc) (out.set j { m with cond := m.cond.or n.cond }) :=
      Ow.put hA (fun {I} c a h => aU.len (I := I) c a h) (fun {I J c a} h k => fy hu hp h k) (k := 5) hm aa rfl ai ag ⟨.slice pa m.kids.length pc, .slice za (aF u (m.cond.or n.cond)).length zc, rfl, nG, c7.le hu hp b5 ag⟩
    have a1 : Dj [I3, sg g (.cells (bi cur.toList (j * 6 + 5) [.slice za (aF u (m.cond.or n.cond)).length zc]).toArray 67 (0, 0))] := a2
    change RC _ _ _ (U [I3, sg g (.cells (bi cur.toList (j * 6 + 5) [.slice za (aF u (m.cond.or n.cond)).length zc]).toArray 67 (0, 0))])
    clear a2 eq
    generalize sg g (.cells (bi cur.toList (j * 6 + 5) [.slice za (aF u (m.cond.or n.cond)).length zc]).toArray 67 (0, 0)) = A2 at ba a1
    have d7 : (out.set j { m with cond := m.cond.or n.cond })[j]? = some { m with cond := m.cond.or n.cond } := List.getElem?_set_self a7
    obtain ⟨g2, cap2, cur2, cm2, ev2, eA2, q3, q4, d0, _, a0, em⟩ := ba.elem (fun {I} c a h => aU.len (I := I) c a h) (fun {I J c a} h k => fy hu hp h k) d7
    rw [kD] at ev2
    cases ev2
    obtain ⟨vk2, vw2, rfl, d5, ea⟩ := d0
    obtain ⟨p2, c2, rfl, _⟩ := id ea
    obtain ⟨y2, yc2, rfl, _⟩ := id d5.2
    have c0 := a0.get (i := 4) rfl
    have c4 := (am.le ag).get (i := 4) rfl
    have fv := fJ m.kids
    have fs := fJ n.kids
    subst eA2
    rw [kD] at q3
    refine av ?_
    refine tZ mixed [0, 1, 3, 4, 5, 6, 7, 9, 10, 11, 12, 13, 2, 8, 14, 15, 16, 17] [] [] [7, 13] [2, 8] (U [I3, sg g (.cells cur2 67 (0, 0))]) rfl rfl ?_
    refine aC ?_
    try refine ⟨O, ?_⟩
    refine jH (l := [.slice p2 m.kids.length c2]) rfl (ax _) rfl rfl rfl (cellsU a1 (.tail _ (.head _)) (by simpa using c0)) (.inr ⟨rZ, rfl⟩) ?_
    refine aC ?_
    try refine ⟨O, ?_⟩
    refine jH (l := [.slice ka n.kids.length kc]) rfl (ax _) rfl rfl rfl (cellsU a1 (.head _) (by simpa using c4)) (.inr ⟨rZ, rfl⟩) ?_
    refine aC ?_
    refine KX a1 (by exact i8) rfl rfl rfl rfl rfl aR fun nb B dd ct => ?_
    refine aC ?_
    refine KW (R := aU (aP u) d) (xs := ([] : List Nd)) (ys := m.kids) dd (by exact i8) (⟨[], ct, rfl⟩ : gM u d I3 B _ []) ea (fun {I J c a} h k => fy hu hp h k) (fun {I} c a h => aU.len (I := I) c a h) (fun {I} c a h => aU.ones hW h) rfl (fun J2 A2 e3 eN => Lw a1 e3 eN) rfl rfl rfl rfl (by simp only [bA]; omega) (by simp only [bA]; unfold maxLen; omega) fun ua uc I6 B6 e6 b3 ee => ?_
    rw [gk] at ee ⊢
    refine aC ?_
    refine oD (R := aU (aP u) d) (xs := m.kids) (ys := n.kids) e6 (by exact i8) ee (c7.le hu hp hk (Y ag b3)) (fun {I J c a} h k => fy hu hp h k) (fun {I} c a h => aU.len (I := I) c a h) (fun {I} c a h => aU.ones hW h) rfl rfl rfl rfl rfl rfl O (by unfold maxLen; omega) fun uv uw I7 B7 e5 c1 fp => ?_
    refine aC ?_
    try refine ⟨O, ?_⟩
    refine gw e5 [1, 0] fun e4 => ?_
    refine cg e4 rfl rfl rfl rfl rfl rfl (by exact Ed) (by simp; omega) fun du => ?_
    refine aC ?_
    apply an
    refine bq du [1, 0] fun ds => ?_
    refine bH (c := .st _) ds fun I8 dl b2 fn => ?_
    have cn := Y b3 (Y c1 b2)
    have ej : gM u (d + 1) I8 (sg g (.cells (bi cur2.toList (j * 6 + 4) [.slice uv (m.kids ++ n.kids).length uw]).toArray 67 (0, 0))) (.slice (some ⟨g, 0, none⟩) out.length oc) ((out.set j { m with cond := m.cond.or n.cond }).set j { m with kids := m.kids ++ n.kids, cond := m.cond.or n.cond }) :=
      Ow.put ba (fun {I} c a h => aU.len (I := I) c a h) (fun {I J c a} h k => fy hu hp h k) (k := 4) d7 a0 rfl ai cn ⟨.slice uv (m.kids ++ n.kids).length uw, .slice y2 (aF u (m.cond.or n.cond)).length yc2, rfl, d5.le cn, fZ (R := aU (aP u) d) (fun {I J c a} h k => fy hu hp h k) fp b2 fn⟩
    rw [List.set_set] at ej
    refine aj e1 ?_
    exact aq (i + 1, .slice (some ⟨g, 0, none⟩) out.length oc) _ _ bC ae (by simp only [go_sem, ab, nB]) ⟨I8, _, out.set j { m with kids := m.kids ++ n.kids, cond := m.cond.or n.cond }, rfl, dl, Y a3 (Y ag cn), ci, ej, by simp only; rw [cw hn]; exact TV al hw.1.1 cb hm c3, R8 bc hm rfl⟩
  rintro j H ⟨rfl, hj, bs, ec⟩
  simp only [pf]
  refine av ?_
  refine cd a4 (by exact i8) rfl rfl rfl rfl rfl aR fun nb I3 a9 ag ex => ?_
  have fb : c7 u (d + 1) I3 (.slice (some ⟨nb, 0, none⟩) 1 1) [zN] := ⟨_, _, rfl, .inr ⟨nb, 0, _, rfl, bD ex (by simp [aD, Value.cells]) (by simp [aD, Value.cells, zN]), .one ⟨.slice none 0 0, .slice none 0 0, rfl, wK u I3, none, 0, rfl, .inl rfl⟩⟩⟩
  refine av ?_
  refine dX (R := aU (aP u) (d + 1)) (xs := out) (ys := [zN]) a9 (by exact i8) (gM.le hu hp hA ag) fb (fun {I J c a} h k => fy hu hp h k) (fun {I} c a h => aU.len (I := I) c a h) (fun {I} c a h => aU.ones hW h) rfl rfl rfl rfl (by simp only [bf, bA]; omega) (by simp only [bf, bA]; unfold maxLen; omega) fun ua uc I4 A4 a2 ac d2 => ?_
  have bb : (out ++ [zN]).length = out.length + 1 := ai
  obtain ⟨g, cap, cur, ys, ev, eA, q1, q2, ek, cp, el, dc, cf⟩ := d2.shift (fun {I} c a h => aU.len (I := I) c a h) (fun {I} c a h => aU.ones hW h) (k := j) O
  rw [bb] at ev q1 cp ⊢
  cases ev
  subst eA
  have e2 : IntKind.i64.wrap ((j : Int) + 1) = ((j + 1 : Nat) : Int) := by rw [← wrap64 (n := j + 1) O]; congr 1
  obtain ⟨o1, s1, es, b8⟩ : ∃ o1, eZ (some ⟨g, 0, none⟩) 6 (j + 1) uc = some ⟨g, o1, none⟩ ∧ bi cur.toList o1 ys = bi cur.toList ((j + 1) * 6) ys ∧ o1 + ys.length ≤ cur.size := by
    rcases aB (j + 1) uc with h | h
    · exact ⟨(j + 1) * 6, zP h, rfl, dc⟩
    · have hy : ys = [] := List.length_eq_zero_iff.1 (by rw [cp]; have : out.length + 1 - (j + 1) = 0 := by omega
                                                         rw [this])
      subst hy
      refine ⟨0, ?_, rfl, by simp⟩
      have : j + 1 = uc := O
      subst this
      unfold eZ; rw [ak O]
  have s2 := zP (g := g) (l := j) (cap := uc) (size := 6) O
  obtain ⟨inf, da, cr⟩ := QG
  refine av ?_
  refine aV [0, 1, 2, 3, 4, 5, 6, 7] [] [] ?_
  (apply bp; simp only [go_sem, E, e2, s1, s2])
  try refine ⟨O, ?_⟩
  refine ER (by exact a2) (by exact V1) (by exact da) rfl rfl rfl rfl rfl rfl (cellsU a2 (.tail _ (.head _)) ek) (by rw [cr, cp, Nat.min_eq_right O]) b8 el fun a1 => ?_
  apply an
  rw [es] at a1 ⊢
  generalize (bi cur.toList ((j + 1) * 6) ys).toArray = cur5 at a1 cf ⊢
  obtain ⟨x, hx⟩ := Hp out zN hj
  rw [bb] at hx cf
  obtain ⟨g5, cap5, cur6, c6, ev6, eA6, _, _, f1, a6, a5, _⟩ := cf.elem (fun {I} c a h => aU.len (I := I) c a h) (fun {I J c a} h k => fy hu hp h k) hx
  have eg : g5 = g := by simp only [Value.slice.injEq, bv, Addr.mk.injEq, dP, dm] at ev6; exact ev6.1.symm
  subst eg
  have bd := (am.le (Y ag ac))
  have c9 : (j + 1) * 6 ≤ cur5.size := by
    obtain ⟨b1, _⟩ := BB a5
    rw [a6] at b1; omega
  refine av ?_
  try refine ⟨O, ?_⟩
  refine Xb (l := [.int .u8 n.kind, .string ⟨⟨n.text⟩⟩, .int .i64 n.tok, .int .i64 n.slot, .slice ka n.kids.length kc, .slice wa (aF u n.cond).length wc]) (v := .agg #[.int .u8 n.kind, .string ⟨⟨n.text⟩⟩, .int .i64 n.tok, .int .i64 n.slot, .slice ka n.kids.length kc, .slice wa (aF u n.cond).length wc]) rfl (cellsU a1 (.head _) bd) (.inl ⟨jK, rfl⟩) ?_
  refine av ?_
  try refine ⟨O, ?_⟩
  refine oB a1 rfl rfl rfl rfl rfl (by exact JJ) (by simp [Value.cells]; omega) fun dd => ?_
  have eh : gM u (d + 1) I4 (sg g5 (.cells (bi cur5.toList (j * 6 + 0) [.int .u8 n.kind, .string ⟨⟨n.text⟩⟩, .int .i64 n.tok, .int .i64 n.slot, .slice ka n.kids.length kc, .slice wa (aF u n.cond).length wc]).toArray 67 (0, 0))) (.slice (some ⟨g5, 0, none⟩) (out.length + 1) uc) (((out ++ [zN]).take (j + 1) ++ ((out ++ [zN]).drop j).take (out.length + 1 - (j + 1))).set j n) :=
    Ow.put cf (fun {I} c a h => aU.len (I := I) c a h) (fun {I J c a} h k => fy hu hp h k) hx a5 a6 ai (ax _) (by
      rw [lg _ _ _ (by rw [a6]; simp), od, List.drop_eq_nil_of_le (by rw [a6]; simp)]
      exact fy hu hp dT (Y ag ac))
  have b7 := Hq out zN n hj
  rw [bb] at b7
  rw [b7] at eh
  refine aj e1 ?_
  have eU : (out.take j ++ [n] ++ out.drop j).length = out.length + 1 := by simp; omega
  refine aq (i + 1, .slice (some ⟨g5, 0, none⟩) (out.length + 1) uc) _ _ bC ae (by simp only [go_sem, ab, nB]) ⟨I4, _, out.take j ++ [n] ++ out.drop j, rfl, dd, Y a3 (Y ag ac), ci, eh, by simp only; rw [cw hn]; exact TW al bc hw.1.1 cb bs ec, R7 bc bs ec⟩
end Go.Proofs.YtfaclfkpnmcmlaaGreatDoor
