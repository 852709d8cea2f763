import Derived.Test.YtfaclfkpnmcmlaaGreatDoorS04
import Derived.Test.YtfaclfkpnmcmlaaGreatDoorS06
set_option maxHeartbeats 8000000
set_option linter.all false
namespace Go.Proofs.YtfaclfkpnmcmlaaGreatDoor
open Go Go.Sx Dg Syn
section
variable {pb:Nat} {ts:List Tok} {lv fv ov:Value}
def qw(ts:List Tok)(par:Bool)(o:Nat)(a:Syn.bE)(m:Nat)(l:List Nd)(g fin:ah)(ee:List bX):Prop:=
 ∃b,Syn.run ts m (.listL par o l g fin)=some b/\b.l=a.l/\b.f=a.f/\ee++b.e=a.e
theorem pC{par:Bool}{o m:Nat}{a:Syn.bE}{l:List Nd}{fin:ah}{ee:List bX}(h:qw ts par o a m l [] fin ee):l=a.l/\fin=a.f/\ee=a.e:=by
 obtain⟨b,hb,h1,h2,h3⟩:=h;obtain⟨m',rfl,ac⟩:=bt hb;have aa:Syn.listL ts (Syn.run ts m') par o l [] fin=some b:=ac;unfold Syn.listL at aa;simp only at aa;cases aa
 exact⟨h1,h2,by simpa using h3⟩
theorem tN{par:Bool}{o m:Nat}{b:Syn.bE}{l:List Nd}{s:Nat×T}{g fin:ah}(hb:Syn.run ts m (.listL par o l (s::g) fin)=some b):∃m' c b',m=m'+2/\
  Syn.item ts (Syn.run ts m') par o [s]=some c/\(l++c.l).length<=aF/\Syn.run ts (m'+1) (.listL par o (l++c.l) ((aC ts c.f (bj cd)).1.foldl joinH1 g) (Syn.joinAll fin (aC ts c.f (bj cd)).2))=some b'/\b=⟨b'.l,b'.f,c.e++b'.e⟩:=by
 obtain⟨m',rfl,an⟩:=bt hb;have ac:Syn.listL ts (Syn.run ts m') par o l (s::g) fin=some b:=an;unfold Syn.listL at ac;simp only at ac;obtain⟨c,hc,am⟩:=bw ac;obtain⟨u,hu,aa⟩:=bw am;obtain⟨more,dn,aj⟩:∃yes g,aC ts c.f (bj cd)=(yes,g):=⟨_,_,rfl⟩;rw[aj]at aa;simp only at aa;obtain⟨b',ao,ak⟩:=bw aa;cases ak
 obtain⟨m'',rfl,hi⟩:=bt hc;refine⟨m'',c,b',rfl,hi,m0 hu,?_,rfl⟩;rw[aj];exact ao
theorem tG{par:Bool}{o m:Nat}{a:Syn.bE}{l:List Nd}{s:Nat×T}{g fin:ah}{ee:List bX}(h:qw ts par o a m l (s::g) fin ee):∃m' c,m=m'+2/\Syn.item ts (Syn.run ts m') par o [s]=some c/\(l++c.l).length<=aF/\
  qw ts par o a (m'+1) (l++c.l) ((aC ts c.f (bj cd)).1.foldl joinH1 g) (Syn.joinAll fin (aC ts c.f (bj cd)).2) (ee++c.e):=by
 obtain⟨b,hb,h1,h2,h3⟩:=h;obtain⟨m',c,b',rfl,hi,hl,aa,rfl⟩:=tN hb;exact⟨m',c,rfl,hi,hl,b',aa,h1,h2,by rw[Te];exact h3⟩
theorem uN:∀(n m:Nat),m<=n->∀{par:Bool} {o:Nat} {b:Syn.bE} {l:List Nd} {g fin:ah},Syn.run ts m (.listL par o l g fin)=some b->l.length<=b.l.length
 |0,m,hm,par,o,b,l,g,fin,h=>by
  obtain⟨m',rfl,_⟩:=bt h;omega
 |n+1,m,hm,par,o,b,l,g,fin,h=>by
  cases g with
  |nil=>
   have:=pC (ts:=ts) (a:=b) (ee:=[]) ⟨b,h,rfl,rfl,rfl⟩;rw[this.1];exact R7 _
  |cons s g=>
   obtain⟨m',c,b',rfl,_,_,aa,rfl⟩:=tN h;have:=uN n (m'+1) Vi aa;simp only[Tu]at this |-;omega
theorem qw.len{par:Bool}{o m:Nat}{a:Syn.bE}{l:List Nd}{g fin:ah}{ee:List bX}(h:qw ts par o a m l g fin ee):l.length<=a.l.length/\ee.length<=a.e.length:=by
 obtain⟨b,hb,h1,h2,h3⟩:=h;have:=uN m m (R7 _) hb;rw[<-h1,<-h3];exact⟨this,by simp⟩
theorem FB{n m o:Nat}{par:Bool}{g:ah}{a:Syn.bE}(ih:iE pb ts lv fv ov n)(hm:m<n)(ho:o<=64)(h:Syn.item ts (Syn.run ts m) par o g=some a):WF pb ts lv fv ov (if par then 207 else 83) o (fun vf=>#[pt pb,vf,iv 0]) g a/\aP Tryz.prog (if par then 207 else 83):=by
 cases par
 ·exact⟨n9 (ih m hm (.line 0 o g 0) _ h) ho,nU⟩
 ·exact⟨IM _ h,Ij⟩
def KP(pb:Nat)(rv va vb v14 vh:Value)(n i:Nat)(vh2:Value)(n2:Nat)(x:Nat×Value):St:=⟨dn 126 [(0,.v (pt pb)),(2,.v rv),(8,.v va),(9,.v vb),(12,.v x.2),(14,.v v14),(26,.v vh),(27,.v (iv n)),(28,.v (iv i)),(55,.v vh2),(56,.v (iv n2)),(57,.v (iv x.1))],[]⟩
theorem Sl.tail{α:Type}{R:PH->List Value->α->Prop}{size:Nat}(hR:∀{I} c a,R I c a->c.length=size){I:PH}{b off n c:Nat}{s:α}{l:List α}(h:Sl R I (.slice (some ⟨b,off,none⟩) n c) (s::l))(hc:n<=c):Sl R I (.slice (oz (some ⟨b,off,none⟩) size 1 c) (n-1) (c-1)) l:=by
 obtain⟨a,c',e,h⟩:=h;cases e
 simp only[SB]at hc;refine⟨oz (some ⟨b,off,none⟩) size 1 c,c-1,by simp,?_⟩;rcases h with h|⟨b',off',xs,e1,e2,e3⟩
 ·cases h
 ·cases e1
  rcases TI l.length with h0|h0
  ·exact .inl (List.length_eq_zero_iff.1 h0)
  ·obtain⟨cs,ys,rfl,h1,h2⟩:=e3;have aa:=hR cs s h1;refine .inr ⟨b,off+size,ys,?_,?_,h2⟩
   ·unfold oz;rw[Sb Vi];simp[eT]
   ·have:=e2.sub size ys.length (by simp;omega);rw[List.drop_left' aa,Td]at this;exact this
def KT(pb:Nat)(rv v8 vb v12 vdn vh:Value)(n i:Nat)(vh2:Value)(n2:Nat)(x:Nat×Value):St:=⟨dn 126 [(0,.v (pt pb)),(2,.v rv),(8,.v v8),(9,.v vb),(12,.v v12),(14,.v x.2),(21,.v vdn),(26,.v vh),(27,.v (iv n)),(28,.v (iv i)),(93,.v vh2),(94,.v (iv n2)),(95,.v (iv x.1))],[]⟩
def QW(Fr:List PH)(more:List ay)(g:ah)(I0:PH)(x:Nat×Value)(H:PH):Prop:=
 ∃I,H=U (I::Fr)/\Dj (I::Fr)/\I0.le I/\x.1<=more.length/\du I x.2 ((more.take x.1).foldl joinH1 g)/\zA x.2
structure Q8 where
 m:Nat
 v8:Value
 v12:Value
 v14:Value
 dv:Value
def Ku(pb:Nat)(rv vb vh:Value)(n i:Nat)(x:Q8):St:=⟨dn 126 [(0,.v (pt pb)),(2,.v rv),(8,.v x.v8),(9,.v vb),(12,.v x.v12),(14,.v x.v14),(26,.v vh),(27,.v (iv n)),(28,.v (iv i))],[]⟩
def Q4(pb:Nat)(ts:List Tok)(lv fv ov:Value)(par:Bool)(o M:Nat)(a ri:Syn.bE)(e:List bX)(B:PH)(I0:PH)(x:Q8)(H:PH):Prop:=
 ∃I D A C l g fin ee,H=U [I,sg pb (bD lv fv ov x.dv o),D,A,B,C]/\Dj [I,sg pb (bD lv fv ov x.dv o),D,A,B,C]/\I0.le I/\x.m<=M/\qw ts par o a x.m l g fin ee/\
  du I x.v14 g/\zA x.v14/\FN ts.length g/\gP I C x.v12 fin/\FN ts.length fin/\br I A x.v8 (ri.l++l)/\dl I D x.dv (e++(ri.e++ee))
def Mq(pb:Nat)(rv vh:Value)(n:Nat)(x:Nat×Value×Value×Value):St:=⟨dn 126 [(0,.v (pt pb)),(2,.v rv),(8,.v x.2.1),(9,.v x.2.2.1),(26,.v vh),(27,.v (iv n)),(28,.v (iv x.1))],[]⟩
theorem E5{n:Nat}{par:Bool}(ih:iE pb ts lv fv ov n){o:Nat}{f:ah}{r:Syn.bE}(hr:Syn.run ts n (.listed par o f)=some r):qS pb ts lv fv ov (.listed par o f) r:=by
 obtain⟨m,rfl,hs⟩:=bt hr;have j1:bY ts f (jH ts (Syn.run ts m) par o)=some r:=hs;rw[ru]at j1;clear hs hr;intro ho I D dv vf e h hf fn he hm hd;have hl:=h.len;refine ir 126 Tryz.func206 fun w0=>?_
 try simp only[iv,pt,dU]
 refine Un ?_;refine NB hd [0,1] rfl iS rfl (ps:=[sg pb _]) (F:=[D]) rfl (iN h hf fn) fun v I2 qs j2 e0 hq=>?_;obtain⟨rfl,hH⟩:=hq;obtain⟨ha,hc,rfl,_⟩:=id hH;simp only[SS,SU]at j2 |-;refine Uq ?_;have hN:∀x∈bk ts f,iH ts x:=fun x hx=>bz h.ok fn hx;have k2:=dZ h.ok fn;have kv:=hH;generalize bk ts f=a4 at *;refine aT j2 fun kp=>?_;refine aT kp fun kn=>?_;refine Um kn [2,3,0,1] fun kl=>?_;refine aB (fun x=>a4.length-x.1) (Mq pb (dU pb (if par then 207 else 83)) (.slice ha a4.length hc) a4.length) (Pd pb ts lv fv ov o a4 (jH ts (Syn.run ts m) par o) r e I2) (0,.slice none 0 0,.slice none 0 0,dv) (ae (by simp only[go_sem,Tq,iv,pt,dU])) (by simp only[go_sem,Tq,Mq]) ?_ ?_
 ·exact⟨I2,D,PH.no,PH.no,⟨[],[],[]⟩,rfl,kl,Uj _,S6 _,j1,by simpa using dl.le he e0,Ow.nil _ _ _ _,Ow.nil _ _ _ _,FN.nil _,S6 _⟩
 rintro⟨i,va,vb,dv⟩ H ⟨I3,D3,A3,B3,ri,rfl,hk,c2,kd,hU,hE,hA,hB,fC,i3⟩ dI;simp only at kd hU hE hA hB;simp only[Mq];have kt:m9 I3 (.slice ha a4.length hc) a4:=kv.le c2;rcases Sw i a4.length with hb|k3
 ·have hJ:decide ((i:Int)<(a4.length:Int))=true:=by simp;omega
  have e1:=wrap64 (n:=i+1) Vi;have hL:IntKind.i64.wrap ((i:Int)+1)=((i+1:Nat):Int):=by rw[<-e1];congr 1
  obtain⟨x,hx⟩:∃x,a4[i]?=some x:=⟨_,SC hb⟩;have j7:=Tg hx;have g8:=hN x j7;obtain⟨b,off,cs,rfl,kq,hu⟩:=kt.load jA.len hx;obtain⟨xa,xk,rfl,eh⟩:=kq;obtain⟨r',j9,d4⟩:=ls hx hU;have el:=s7 d4;obtain⟨y,hy,g5,rfl⟩:=l7 j9;have h3:=h.le (Ui e0 c2);simp only[Tu]at el g5;apply RG;simp only[go_sem,hJ,iv,pt,dU];refine⟨Vi,?_⟩;refine Qz (l:=[iv x.at',sD xa xk x.cond,rD x.cond,.int .u8 x.kind,.string ⟨⟨x.text⟩⟩]) (v:=.agg #[iv x.at',sD xa xk x.cond,rD x.cond,.int .u8 x.kind,.string ⟨⟨x.text⟩⟩]) rfl (cellsU hk (.head _) hu) (.inl ⟨eS,rfl⟩) ?_;unfold Syn.jH at hy;by_cases g6:x.text=hZ
  ·have jg:(x.text == [40])=true:=by rw[g6];decide
   rw[Sb (by simp[g6])]at hy;apply RG;simp only[go_sem,hJ,iv,pt,sD,rD,jg,Ud];by_cases ez:o=64
   ·rw[SI ez]at hy;cases hy
    subst ez;refine f6 hk [0,1,2,3] [sg pb _,D3] [A3,B3] rfl gz rfl (ke h3 g8.le eh hE (by simp[bR]at el |-;omega)) fun v I4 qs em cm hq=>?_;obtain⟨dv2,D4,rs,rfl,ja,rfl,rfl⟩:=hq;simp only[SS,SU]at em |-;apply RG;simp only[go_sem,iv,pt,sD,rD,hL,T7];exact dI (i+1,va,vb,dv2) _ _ V9 (ae (by simp only[go_sem,Tq,iv,pt,dU])) (by simp only[go_sem,Tq,Mq]) ⟨I4,D4,A3,B3,_,rfl,em,Ui c2 cm,hb,d4,by simp only;rw[<-Te];exact ja,by simpa using hA.le cm,hB.le cm,fC,by simpa using i3⟩
   ·rw[Sb ez]at hy;obtain⟨yes,g,h1⟩:∃yes g,aC ts (bh x) (bj iI)=(yes,g):=⟨_,_,rfl⟩;rw[h1]at hy;simp only at hy;obtain⟨a,j5,h0⟩:=bw hy;obtain⟨gt,e2,ht⟩:∃g e1,Syn.take ts a.f iI=(g,e1):=⟨_,_,rfl⟩;rw[ht]at h0;simp only at h0;cases h0
    have g7:=g8.lt (.inl (by rw[g6];decide));have kx:=wrap64 (n:=x.at'+1) Vi;have e2'':IntKind.i64.wrap ((x.at':Int)+1)=((x.at'+1:Nat):Int):=by rw[<-kx];congr 1
    refine f6 hk [0,1,2,3] [sg pb _] [D3,A3,B3] rfl gz rfl (iV (h:=x) (a:=xa) (k:=xk) Vi) fun v I4 qs em cm hq=>?_;obtain⟨rfl,rfl,rfl⟩:=hq;simp only[SS,SU]at em |-;apply RG;simp only[go_sem,iv,pt,dU,sD,rD,hL,e2'',Ud];refine yt mixed [0,1,2,3,4,5,6] 7 8 [9,10,11,12,13,14] [9,10,11,12,13,14] [] [] rfl rfl ?_;apply jR;simp only[go_sem,iv,pt,dU,sD,rD,e2''];simp only[Te,Tu]at el hm g5;refine ry ?_ ?_
    ·refine aZ em (by exact gY) rfl rfl rfl rfl rfl Vm fun nb I5 ie ek h2=>?_;apply af;simp only[go_sem,iv,pt,dU,sD,rD];refine i7 ie [0,1,2,3] [] [sg pb _,D3,A3,B3] rfl gy rfl (iz (s:=iI)) fun vi I6 qs hh ei hq=>?_;obtain⟨rfl,hF⟩:=hq;simp only[SS,SU]at hh |-;obtain⟨fi,first,cap,rfl,gi,ci⟩:=id hF;apply af;simp only[go_sem,iv,pt,dU,sD,rD];have kk:I4.le I6:=Ui ek ei;have jd:du I6 (.slice (some ⟨nb,0,none⟩) 1 1) (bh x):=⟨_,_,rfl,.inr ⟨nb,0,[iv (x.at'+1),sD xa xk x.cond,rD x.cond],rfl,(az h2 (by simp[aE,Value.cells]) (by simp[aE,Value.cells,iv,sD,rD])).le ei,.one ⟨_,_,rfl,eh.le kk⟩⟩⟩;have afn:=bm g8 g7;refine i7 hh [0,1,2,3] [sg pb _] [D3,A3,B3] rfl gX rfl (gT (h3.le kk) jd afn (Es.le hF (Uj _))) fun v I7 qs d7 d2 hq=>?_;obtain⟨A6,B6,va6,vb6,rfl,rfl,eq,ep⟩:=hq;have hY:=dH h.ok afn (is:=bj iI);have hw:=eR h.ok afn (bj iI);have fo:=cI h.ok afn (bj iI);rw[h1]at eq ep hY hw fo;simp only at eq ep hY hw fo;obtain⟨ya,yc,rfl⟩:=eq.shape;simp only[SS,SU]at d7 |-;apply af;simp only[go_sem,iv,pt,dU,sD,rD];refine aw ?_;apply RG;simp only[go_sem,iv,pt,dU,sD,rD];refine Um d7 [1,0,2,3,4,5] fun fj=>?_;refine ag (c:=.st _) fj fun I8 fh a9 gs=>?_;have i1:m9 I8 (.slice ya yes.length yc) yes:=eq.sl a9 gs;refine Um fh [1,0,2,3,4] fun fg=>?_;refine ag (c:=.st _) fg fun I9 fc a7 gj=>?_;have i9:du I9 vb6 g:=ep.sl (Ui a9 a7) gj;have i6:zA vb6:=ep.cap fP.len;refine aT (c:=.st _) fc fun fb=>?_;refine Um fb [1,0,2,3,4] fun fa=>?_;have hV:=Ui kk (Ui d2 (Ui a9 a7))
     refine aB (fun x=>yes.length-x.1) (KP pb (dU pb (if par then 207 else 83)) va vb vb6 (.slice (some ⟨b,off,none⟩) a4.length hc) a4.length i (.slice ya yes.length yc) yes.length) (P3 pb lv fv ov dv (o+1) joinH [] yes [D3,A3,B3] I9) (0,.slice none 0 0) (ae (by simp only[go_sem,Tq,iv,pt,dU])) (by simp only[go_sem,Tq,KP]) ?_ ?_
     ·exact⟨I9,PH.no,rfl,fa,Uj _,S6 _,Ow.nil _ _ _ _⟩
     rintro⟨j,v12⟩ H ⟨hT,C10,rfl,da,a1,hj,bc⟩ c1;simp only at hj bc;simp only[KP];have hv:∀y∈yes,iH ts y:=fun y hy=>(hY y hy).1;have ef:FN ts.length ((yes.take j).foldl joinH []):=jp (fun y hy=>hv y (TA hy)) (FN.nil _);have fA:=ef.len;rcases Sw j yes.length with hg|ka
     ·have es:decide ((j:Int)<(yes.length:Int))=true:=by simp;omega
      have e3:=wrap64 (n:=j+1) Vi;have g0:IntKind.i64.wrap ((j:Int)+1)=((j+1:Nat):Int):=by rw[<-e3];congr 1
      obtain⟨y,hy⟩:∃y,yes[j]?=some y:=⟨_,SC hg⟩;have et:=hv y (Tg hy);have hX:=et.le;obtain⟨b2,off2,cs2,rfl,dc,ao⟩:=(m9.le i1 (Ui a7 a1)).load jA.len hy;obtain⟨ua,uk,rfl,a5⟩:=dc;have a3:=cE (g:=joinH) (z:=[]) hy;obtain⟨ta,tc,rfl⟩:=bc.shape;apply RG;simp only[go_sem,es,iv,pt,dU];refine⟨Vi,?_⟩;refine Qz (l:=[iv y.at',sD ua uk y.cond,rD y.cond,.int .u8 y.kind,.string ⟨⟨y.text⟩⟩]) (v:=.agg #[iv y.at',sD ua uk y.cond,rD y.cond,.int .u8 y.kind,.string ⟨⟨y.text⟩⟩]) rfl (cellsU da (.head _) ao) (.inl ⟨eS,rfl⟩) ?_;apply RG;simp only[go_sem,es,iv,pt,dU,sD,rD];refine f6 da [1,0,2,3,4] [C10] [sg pb _,D3,A3,B3] rfl df rfl (bo (a:=y.at') bc a5 ef.ok.2 (fun t ht=>by have:=ef.le t ht;omega) Vi Vi) fun v g4 qs b4 d1 hq=>?_;obtain⟨C11,rfl,dw⟩:=hq;obtain⟨ta2,tc2,rfl⟩:=dw.shape;simp only[SS,SU]at b4 |-;apply RG;simp only[go_sem,iv,pt,dU,sD,rD,g0];refine Um b4 [1,0,2,3,4] fun bb=>?_;rw[show Syn.join ((yes.take j).foldl joinH []) y.at' y.cond=(yes.take (j+1)).foldl joinH [] from a3.symm]at dw |-;exact c1 (j+1,.slice ta2 _ tc2) _ _ V9 (ae (by simp only[go_sem,Tq,iv,pt,dU])) (by simp only[go_sem,Tq,KP]) ⟨g4,C11,rfl,bb,Ui a1 d1,hg,dw⟩
     ·have e5:j=yes.length:=by omega
      subst e5;have es:=Z6 yes.length;rw[Td]at bc ef fA;apply RG;simp only[go_sem,es,iv,pt,dU];refine Um da [0,2,3,4,1] fun b4=>?_;have k410:=Ui hV a1;have i5:qw ts par (o+1) a m [] g (yes.foldl joinH []) []:=⟨a,j5,rfl,rfl,rfl⟩;refine aB (fun x=>x.m) (Ku pb (dU pb (if par then 207 else 83)) vb (.slice (some ⟨b,off,none⟩) a4.length hc) a4.length i) (Q4 pb ts lv fv ov par (o+1) m a ri e B3 hT) ⟨m,va,v12,vb6,dv⟩ (ae (by simp only[go_sem,Tq,iv,pt,dU])) (by simp only[go_sem,Tq,Ku]) ?_ ?_
      ·exact⟨hT,D3,A3,C10,[],g,_,[],rfl,b4,Uj _,R7 _,i5,du.le i9 a1,i6,fo,bc,ef,by simpa using hA.le k410,by simpa using hE.le k410⟩
      rintro⟨mm,v8,v12,v14,dv⟩ H ⟨g4,D11,A11,C11,l,gg,fin,ee,rfl,bb,ct,h4,en,hG,eb,b6,hC,a2,dA,dk⟩ c0;simp only at h4 en hG eb hC dA dk;simp only[Ku];have k411:=Ui k410 ct;obtain⟨ga,gc,rfl,kj⟩:=id hG;have h5:=en.len;obtain eA|⟨s,gg',cx⟩:gg=[]\/∃s t,gg=s::t:=by
       cases gg with
       |nil=>exact .inl rfl
       |cons s t=>exact .inr ⟨s,t,rfl⟩
      ·subst eA;obtain⟨rfl,rfl,rfl⟩:=pC en;apply RG;simp only[go_sem,iv,pt,dU,S9,TJ,gt_iff_lt,Int.lt_irrefl,decide_false];refine Um bb [4,0,1,2,3] fun c9=>?_;refine ag c9 fun g3 b3 aa f5=>?_;have fs:du g3 v12 a.f:=hC.sl aa f5;refine f6 b3 [0,1,2,3] [sg pb _,D11] [A11,B3] rfl fQ rfl (ii (s:=iI) (h3.le (Ui k411 aa)) fs a2 Vm (dk.le aa) (by rw[ht];simp only[Tu];omega)) fun v j0 qs b1 d0 hq=>?_;obtain⟨dv10,D10,rs,rfl,ds,B10,rfl,dy⟩:=hq;rw[ht]at ds dy;have tf:=cN h.ok a2 (s:=iI) Vm;rw[ht]at tf;simp only at ds dy tf;simp only[SS,SU]at b1 |-;apply RG;simp only[go_sem,iv,pt,dU,sD,rD];refine Um b1 [2,0,1,3,4] fun c8=>?_;refine ag c8 fun g2 c7 a6 gf=>?_;have dd:du g2 v gt:=dy.sl a6 gf;have k1114:=Ui aa (Ui d0 a6);have k414:=Ui k411 k1114;refine f6 c7 [3,0,1,2] [B3] [sg pb _,D10,A11] rfl dp rfl (b7 (N:=ts.length) Vi (hB.le k414) fC dd tf) fun v hS qs ba ak hq=>?_;obtain⟨B14,rfl,cA⟩:=hq;simp only[SS,SU]at ba |-;apply RG;simp only[go_sem,iv,pt,dU,sD,rD];refine Qz (l:=[.int .i64 ((o+1:Nat):Int)]) rfl (cellsU ba (.tail _ (.tail _ (.head _))) (aU (by simp[bD]) rfl)) (.inr ⟨mF,rfl⟩) ?_;apply RG;simp only[go_sem,iv,pt,dU,sD,rD,iq o ho];refine Um ba [1,2,3,0] fun c6=>?_;refine cG c6 rfl rfl rfl rfl rfl (by exact Gn) (by simp) fun c5=>?_;apply RG;simp only[go_sem,iv,pt,dU,sD,rD,hL];obtain⟨ta,tc,rfl⟩:=cA.shape
       exact dI (i+1,v8,.slice ta (Syn.joinAll ri.f gt).length tc,dv10) _ _ V9 (ae (by simp only[go_sem,Tq,iv,pt,dU])) (by simp only[go_sem,Tq,Mq]) ⟨hS,D10,A11,B14,_,rfl,c5,Ui c2 (Ui k414 ak),hb,d4,by simpa[Te]using ds.le (Ui a6 ak),dA.le (Ui k1114 ak),cA,fC.joinAll tf,by simp only[Tu];unfold aF;unfold aF at g5;omega⟩
      ·have d9:=en;rw[cx]at d9;obtain⟨m2,cc,rfl,i0,kr,b5⟩:=tG d9;have cl:=b5.len;have ki:gg.length=gg'.length+1:=by rw[cx];rfl
       have fk:gg.length<=gc:=eb;have jf:decide ((gg.length:Int)>0)=true:=by simp;omega
       have ia:gg[0]?=some s:=by rw[cx];rfl
       obtain⟨gb,goff,gcs,rfl,e6,c3⟩:=hG.load fP.len ia;obtain⟨za,zk,rfl,dT⟩:=e6.shape;apply RG;simp only[go_sem,iv,pt,dU,jf];refine⟨Vi,?_⟩;refine Qz (l:=[iv s.1,.slice za (T.subs s.2).length zk,iv (T.plc (T.subs s.2) s.2)]) (v:=.agg #[iv s.1,.slice za (T.subs s.2).length zk,iv (T.plc (T.subs s.2) s.2)]) rfl (by simpa using cellsU bb (.head _) c3) (.inl ⟨oN,rfl⟩) ?_;apply RG;simp only[go_sem,iv,pt,dU];refine av bb (by exact gY) rfl rfl rfl rfl rfl Vm fun nb3 g3 c9 am eH=>?_;apply RG;simp only[go_sem,iv,pt,dU];refine⟨Vi,?_⟩;have dd:du g4 (.slice (oz (some ⟨gb,goff,none⟩) 3 1 gc) (gg.length-1) (gc-1)) gg':=Sl.tail (R:=fP) (fun{I} c a h=>fP.len c a h) (by rw[<-cx];exact hG) fk;have ey:du g3 (.slice (some ⟨nb3,0,none⟩) 1 1) [s]:=⟨_,_,rfl,.inr ⟨nb3,0,[iv s.1,.slice za (T.subs s.2).length zk,iv (T.plc (T.subs s.2) s.2)],rfl,az eH (by simp[aE,Value.cells]) (by simp[aE,Value.cells,iv]),.one ⟨_,_,rfl,dT.le am⟩⟩⟩;have fns:FN ts.length [s]:=⟨bG.head (by rw[<-cx];exact b6.ok),fun t ht=>by simp at ht;subst ht;exact b6.le t (by rw[cx];exact .head _)⟩;have fng:FN ts.length gg':=⟨bG.tail (by rw[<-cx];exact b6.ok),fun t ht=>b6.le t (by rw[cx];exact .tail _ ht)⟩;obtain⟨h9,ic⟩:=FB ih Vi Vi i0;refine f6 c9 [0,1,2,3,4] [sg pb _,D11] [A11,B3,C11] rfl ic rfl (h9 (h3.le (Ui k411 am)) ey fns (dk.le am) (by simp only[Tu]at cl |-;omega)) fun v j0 qs b3 aa hq=>?_;obtain⟨dv13,D13,rs,rfl,f1,⟨A13,B13,va13,vb13,rfl,rfl,gr,gk⟩,cf,i4⟩:=hq;simp only[SS,SU]at b3 |-;apply RG;simp only[go_sem,iv,pt,dU];refine Um b3 [2,0,1,3,4,5,6] fun b1=>?_;refine ag b1 fun g2 c8 a0 gn=>?_
       have fl:db g2 va13 cc.l:=gr.sl a0 gn;refine Um c8 [3,0,1,2,4,5] fun c7=>?_;have k1214:=Ui am (Ui aa a0);have h6:=cl.1;simp only[Tu]at h6;unfold aF at g5;refine aY c7 (by exact cT) (dA.le k1214) fl (fun{I J c a} h k=>aW.le h k) (fun{I} c a h=>aW.len c a h) (fun{I} c a h=>aW.ones h) rfl rfl rfl rfl (by simp only[Tu];omega) (by simp only[Tu];unfold maxLen;omega) fun na nc hS A15 ba ak gq=>?_;apply RG;simp only[go_sem,iv,pt,dU];refine Um ba [3,0,1,2,4,5] fun c6=>?_;refine ag c6 fun jo c5 cr f8=>?_;have k1416:=Ui a0 (Ui ak cr);have fr:du jo vb13 cc.f:=gk.sl k1416 f8;refine f6 c5 [0,1,2,3,4] [] [A15,sg pb _,D13,B3,C11] rfl gy rfl (iz (s:=cd)) fun v2 k1 qs d6 aS hq=>?_;obtain⟨rfl,ea⟩:=hq;simp only[SS,SU]at d6 |-;obtain⟨fi2,first2,cap2,rfl,gi2,ci2⟩:=id ea;apply RG;simp only[go_sem,iv,pt,dU];have k417:=Ui k411 (Ui am (Ui aa (Ui k1416 aS)));refine f6 d6 [1,0,2,3,4] [sg pb _] [A15,D13,B3,C11] rfl gX rfl (gT (h3.le k417) (fr.le aS) cf ea) fun v k0 qs d5 cp hq=>?_;obtain⟨A17,B17,va17,vb17,rfl,rfl,cj,dx⟩:=hq;have hM:=dH h.ok cf (is:=bj cd);have hD:=eR h.ok cf (bj cd);have eo:=cI h.ok cf (bj cd);obtain⟨more,dne,ex⟩:∃yes g,aC ts cc.f (bj cd)=(yes,g):=⟨_,_,rfl⟩;rw[ex]at cj dx hM hD eo b5;simp only at cj dx hM hD eo b5;obtain⟨ma,mc,rfl⟩:=cj.shape;simp only[SS,SU]at d5 |-;apply RG;simp only[go_sem,iv,pt,dU];refine Um d5 [1,0,2,3,4,5,6] fun e9=>?_;refine ag (c:=.st _) e9 fun g1 e8 ap gl=>?_
       have i2:m9 g1 (.slice ma more.length mc) more:=cj.sl ap gl;have k1219:=Ui am (Ui aa (Ui k1416 (Ui aS (Ui cp ap))));refine aB (fun x=>more.length-x.1) (KT pb (dU pb (if par then 207 else 83)) (.slice na (ri.l++l++cc.l).length nc) vb v12 vb17 (.slice (some ⟨b,off,none⟩) a4.length hc) a4.length i (.slice ma more.length mc) more.length) (QW [sg pb (bD lv fv ov dv13 (o+1)),B17,A15,D13,B3,C11] more gg' g1) (0,.slice (oz (some ⟨gb,goff,none⟩) 3 1 gc) (gg.length-1) (gc-1)) (ae (by simp only[go_sem,Tq,iv,pt,dU])) (by simp only[go_sem,Tq,KT]) ?_ ?_
       ·exact⟨g1,rfl,e8,Uj _,S6 _,dd.le k1219,show gg.length-1<=gc-1 by omega⟩
       rintro⟨j,v14⟩ H ⟨kO,rfl,c4,an,h8,cb,cy⟩ cB;simp only at h8 cb cy;simp only[KT];have hz:∀y∈more,iH ts y/\y.at'<ts.length:=fun y hy=>⟨(hM y hy).1,mN Vm (hM y hy).1 (hM y hy).2⟩;have ed:FN ts.length ((more.take j).foldl joinH1 gg'):=kg (fun y hy=>hz y (TA hy)) fng;have fz:=ed.len;rcases Sw j more.length with d3|h7
       ·have er:decide ((j:Int)<(more.length:Int))=true:=by simp;omega
        have e3:=wrap64 (n:=j+1) Vi;have g0:IntKind.i64.wrap ((j:Int)+1)=((j+1:Nat):Int):=by rw[<-e3];congr 1
        obtain⟨y,hy⟩:∃y,more[j]?=some y:=⟨_,SC d3⟩;have et:=hz y (Tg hy);have hW:=et.2;have e4:=wrap64 (n:=y.at'+1) Vi;have hK:IntKind.i64.wrap ((y.at':Int)+1)=((y.at'+1:Nat):Int):=by rw[<-e4];congr 1
        obtain⟨b2,off2,cs2,rfl,dc,ao⟩:=(m9.le i2 an).load jA.len hy;obtain⟨ua,uk,rfl,a5⟩:=dc;have a3:=cE (g:=joinH1) (z:=gg') hy;apply RG;simp only[go_sem,er,iv,pt,dU];refine⟨Vi,?_⟩;refine Qz (l:=[iv y.at',sD ua uk y.cond,rD y.cond,.int .u8 y.kind,.string ⟨⟨y.text⟩⟩]) (v:=.agg #[iv y.at',sD ua uk y.cond,rD y.cond,.int .u8 y.kind,.string ⟨⟨y.text⟩⟩]) rfl (cellsU c4 (.head _) ao) (.inl ⟨eS,rfl⟩) ?_;apply RG;simp only[go_sem,er,iv,pt,dU,sD,rD];refine V8 [0,2,3,4,5,6,1,7,8] [] [] ?_;apply af;simp only[go_sem,iv,pt,dU,sD,rD,hK];refine i7 c4 [0,1,2,3,4,5] [] [sg pb _,B17,A15,D13,B3,C11] rfl BA rfl (BU cb Vi) fun v hR qs b0 cn hq=>?_;obtain⟨E21,rfl,eg⟩:=hq;obtain⟨ca,ck,rfl⟩:=eg.shape;simp only[SS,SU]at b0 |-;apply af;simp only[go_sem,iv,pt,dU,sD,rD,hK];refine i7 b0 [0,1,2,3,4,5,6] [E21] [sg pb _,B17,A15,D13,B3,C11] rfl df rfl (bo (a:=y.at'+1) eg (a5.le cn) ed.ok.2 (fun t ht=>by have:=ed.le t ht;omega) Vi Vi) fun v hP qs bx aj hq=>?_;obtain⟨E22,rfl,dj⟩:=hq;have hn:=dj.cap fP.len;simp only[SS,SU]at bx |-;apply af;simp only[go_sem,iv,pt,dU,sD,rD];refine aw ?_;refine ag (c:=.st _) bx fun hO bd ac f0=>?_;have ec:du hO v _:=dj.sl ac f0;obtain⟨wa,wc,rfl⟩:=dj.shape;apply RG;simp only[go_sem,iv,pt,dU,sD,rD,g0];rw[show Syn.join ((more.take j).foldl joinH1 gg') (y.at'+1) y.cond=(more.take (j+1)).foldl joinH1 gg' from a3.symm]at ec hn |-;exact cB (j+1,.slice wa _ wc) _ _ V9 (ae (by simp only[go_sem,Tq,iv,pt,dU])) (by simp only[go_sem,Tq,KT]) ⟨hO,rfl,bd,Ui an (Ui cn (Ui aj ac)),d3,ec,hn⟩
       ·have e5:j=more.length:=by omega
        subst e5;have er:=Z6 more.length;rw[Td]at cb ed fz;apply RG;simp only[go_sem,er,iv,pt,dU];refine Um c4 [1,0,2,3,4,5] fun b0=>?_;refine ag b0 fun hR bx aj f7=>?_;have f2:du hR vb17 dne:=dx.sl (Ui ap (Ui an aj)) f7;have k1221:=Ui k1219 (Ui an aj);refine f6 bx [4,0,1,2,3] [C11] [sg pb _,A15,D13,B3] rfl dp rfl (b7 (N:=ts.length) Vi (hC.le k1221) a2 f2 eo) fun v hP qs bd ac hq=>?_;obtain⟨C22,rfl,f3⟩:=hq;simp only[SS,SU]at bd |-;apply RG;simp only[go_sem,iv,pt,dU];refine Um bd [1,3,2,4,0] fun e7=>?_;have k1522:=Ui cr (Ui aS (Ui cp (Ui ap (Ui an (Ui aj ac)))));refine c0 ⟨m2+1,.slice na (ri.l++l++cc.l).length nc,v,v14,dv13⟩ _ _ V9 (ae (by simp only[go_sem,Tq,iv,pt,dU])) (by simp only[go_sem,Tq,Ku]) ⟨hP,D13,A15,C22,_,_,_,_,rfl,e7,Ui ct (Ui k1221 ac),by simp only;omega,b5,cb.le (Ui aj ac),cy,ed,f3,a2.joinAll eo,by rw[<-Te];exact br.le gq k1522,?_⟩;have:=f1.le (Ui a0 (Ui ak k1522));simpa[Te]using this
    ·refine i7 em [0,1,2,3] [] [sg pb _,D3,A3,B3] rfl gy rfl (iz (s:=iI)) fun vi I6 qs hh ei hq=>?_;obtain⟨rfl,hF⟩:=hq;simp only[SS,SU]at hh |-;obtain⟨fi,first,cap,rfl,gi,ci⟩:=id hF;apply af;simp only[go_sem,iv,pt,dU,sD,rD];refine aZ hh (by exact gY) rfl rfl rfl rfl rfl Vm fun nb I5 ie ek h2=>?_;apply af;simp only[go_sem,iv,pt,dU,sD,rD];have kk:I4.le I5:=Ui ei ek;have jd:du I5 (.slice (some ⟨nb,0,none⟩) 1 1) (bh x):=⟨_,_,rfl,.inr ⟨nb,0,[iv (x.at'+1),sD xa xk x.cond,rD x.cond],rfl,(az h2 (by simp[aE,Value.cells]) (by simp[aE,Value.cells,iv,sD,rD])).le (Uj _),.one ⟨_,_,rfl,eh.le kk⟩⟩⟩;have afn:=bm g8 g7;refine i7 ie [0,1,2,3] [sg pb _] [D3,A3,B3] rfl gX rfl (gT (h3.le kk) jd afn (Es.le hF ek)) fun v I7 qs d7 d2 hq=>?_;obtain⟨A6,B6,va6,vb6,rfl,rfl,eq,ep⟩:=hq;have hY:=dH h.ok afn (is:=bj iI);have hw:=eR h.ok afn (bj iI);have fo:=cI h.ok afn (bj iI);rw[h1]at eq ep hY hw fo;simp only at eq ep hY hw fo;obtain⟨ya,yc,rfl⟩:=eq.shape;simp only[SS,SU]at d7 |-;apply af;simp only[go_sem,iv,pt,dU,sD,rD];refine aw ?_;apply RG;simp only[go_sem,iv,pt,dU,sD,rD];refine Um d7 [1,0,2,3,4,5] fun fj=>?_;refine ag (c:=.st _) fj fun I8 fh a9 gs=>?_;have i1:m9 I8 (.slice ya yes.length yc) yes:=eq.sl a9 gs;refine Um fh [1,0,2,3,4] fun fg=>?_;refine ag (c:=.st _) fg fun I9 fc a7 gj=>?_;have i9:du I9 vb6 g:=ep.sl (Ui a9 a7) gj;have i6:zA vb6:=ep.cap fP.len;refine aT (c:=.st _) fc fun fb=>?_;refine Um fb [1,0,2,3,4] fun fa=>?_;have hV:=Ui kk (Ui d2 (Ui a9 a7))
     refine aB (fun x=>yes.length-x.1) (KP pb (dU pb (if par then 207 else 83)) va vb vb6 (.slice (some ⟨b,off,none⟩) a4.length hc) a4.length i (.slice ya yes.length yc) yes.length) (P3 pb lv fv ov dv (o+1) joinH [] yes [D3,A3,B3] I9) (0,.slice none 0 0) (ae (by simp only[go_sem,Tq,iv,pt,dU])) (by simp only[go_sem,Tq,KP]) ?_ ?_
     ·exact⟨I9,PH.no,rfl,fa,Uj _,S6 _,Ow.nil _ _ _ _⟩
     rintro⟨j,v12⟩ H ⟨hT,C10,rfl,da,a1,hj,bc⟩ c1;simp only at hj bc;simp only[KP];have hv:∀y∈yes,iH ts y:=fun y hy=>(hY y hy).1;have ef:FN ts.length ((yes.take j).foldl joinH []):=jp (fun y hy=>hv y (TA hy)) (FN.nil _);have fA:=ef.len;rcases Sw j yes.length with hg|ka
     ·have es:decide ((j:Int)<(yes.length:Int))=true:=by simp;omega
      have e3:=wrap64 (n:=j+1) Vi;have g0:IntKind.i64.wrap ((j:Int)+1)=((j+1:Nat):Int):=by rw[<-e3];congr 1
      obtain⟨y,hy⟩:∃y,yes[j]?=some y:=⟨_,SC hg⟩;have et:=hv y (Tg hy);have hX:=et.le;obtain⟨b2,off2,cs2,rfl,dc,ao⟩:=(m9.le i1 (Ui a7 a1)).load jA.len hy;obtain⟨ua,uk,rfl,a5⟩:=dc;have a3:=cE (g:=joinH) (z:=[]) hy;obtain⟨ta,tc,rfl⟩:=bc.shape;apply RG;simp only[go_sem,es,iv,pt,dU];refine⟨Vi,?_⟩;refine Qz (l:=[iv y.at',sD ua uk y.cond,rD y.cond,.int .u8 y.kind,.string ⟨⟨y.text⟩⟩]) (v:=.agg #[iv y.at',sD ua uk y.cond,rD y.cond,.int .u8 y.kind,.string ⟨⟨y.text⟩⟩]) rfl (cellsU da (.head _) ao) (.inl ⟨eS,rfl⟩) ?_;apply RG;simp only[go_sem,es,iv,pt,dU,sD,rD];refine f6 da [1,0,2,3,4] [C10] [sg pb _,D3,A3,B3] rfl df rfl (bo (a:=y.at') bc a5 ef.ok.2 (fun t ht=>by have:=ef.le t ht;omega) Vi Vi) fun v g4 qs b4 d1 hq=>?_;obtain⟨C11,rfl,dw⟩:=hq;obtain⟨ta2,tc2,rfl⟩:=dw.shape;simp only[SS,SU]at b4 |-;apply RG;simp only[go_sem,iv,pt,dU,sD,rD,g0];refine Um b4 [1,0,2,3,4] fun bb=>?_;rw[show Syn.join ((yes.take j).foldl joinH []) y.at' y.cond=(yes.take (j+1)).foldl joinH [] from a3.symm]at dw |-;exact c1 (j+1,.slice ta2 _ tc2) _ _ V9 (ae (by simp only[go_sem,Tq,iv,pt,dU])) (by simp only[go_sem,Tq,KP]) ⟨g4,C11,rfl,bb,Ui a1 d1,hg,dw⟩
     ·have e5:j=yes.length:=by omega
      subst e5;have es:=Z6 yes.length;rw[Td]at bc ef fA;apply RG;simp only[go_sem,es,iv,pt,dU];refine Um da [0,2,3,4,1] fun b4=>?_;have k410:=Ui hV a1;have i5:qw ts par (o+1) a m [] g (yes.foldl joinH []) []:=⟨a,j5,rfl,rfl,rfl⟩;refine aB (fun x=>x.m) (Ku pb (dU pb (if par then 207 else 83)) vb (.slice (some ⟨b,off,none⟩) a4.length hc) a4.length i) (Q4 pb ts lv fv ov par (o+1) m a ri e B3 hT) ⟨m,va,v12,vb6,dv⟩ (ae (by simp only[go_sem,Tq,iv,pt,dU])) (by simp only[go_sem,Tq,Ku]) ?_ ?_
      ·exact⟨hT,D3,A3,C10,[],g,_,[],rfl,b4,Uj _,R7 _,i5,du.le i9 a1,i6,fo,bc,ef,by simpa using hA.le k410,by simpa using hE.le k410⟩
      rintro⟨mm,v8,v12,v14,dv⟩ H ⟨g4,D11,A11,C11,l,gg,fin,ee,rfl,bb,ct,h4,en,hG,eb,b6,hC,a2,dA,dk⟩ c0;simp only at h4 en hG eb hC dA dk;simp only[Ku];have k411:=Ui k410 ct;obtain⟨ga,gc,rfl,kj⟩:=id hG;have h5:=en.len;obtain eA|⟨s,gg',cx⟩:gg=[]\/∃s t,gg=s::t:=by
       cases gg with
       |nil=>exact .inl rfl
       |cons s t=>exact .inr ⟨s,t,rfl⟩
      ·subst eA;obtain⟨rfl,rfl,rfl⟩:=pC en;apply RG;simp only[go_sem,iv,pt,dU,S9,TJ,gt_iff_lt,Int.lt_irrefl,decide_false];refine Um bb [4,0,1,2,3] fun c9=>?_;refine ag c9 fun g3 b3 aa f5=>?_;have fs:du g3 v12 a.f:=hC.sl aa f5;refine f6 b3 [0,1,2,3] [sg pb _,D11] [A11,B3] rfl fQ rfl (ii (s:=iI) (h3.le (Ui k411 aa)) fs a2 Vm (dk.le aa) (by rw[ht];simp only[Tu];omega)) fun v j0 qs b1 d0 hq=>?_;obtain⟨dv10,D10,rs,rfl,ds,B10,rfl,dy⟩:=hq;rw[ht]at ds dy;have tf:=cN h.ok a2 (s:=iI) Vm;rw[ht]at tf;simp only at ds dy tf;simp only[SS,SU]at b1 |-;apply RG;simp only[go_sem,iv,pt,dU,sD,rD];refine Um b1 [2,0,1,3,4] fun c8=>?_;refine ag c8 fun g2 c7 a6 gf=>?_;have dd:du g2 v gt:=dy.sl a6 gf;have k1114:=Ui aa (Ui d0 a6);have k414:=Ui k411 k1114;refine f6 c7 [3,0,1,2] [B3] [sg pb _,D10,A11] rfl dp rfl (b7 (N:=ts.length) Vi (hB.le k414) fC dd tf) fun v hS qs ba ak hq=>?_;obtain⟨B14,rfl,cA⟩:=hq;simp only[SS,SU]at ba |-;apply RG;simp only[go_sem,iv,pt,dU,sD,rD];refine Qz (l:=[.int .i64 ((o+1:Nat):Int)]) rfl (cellsU ba (.tail _ (.tail _ (.head _))) (aU (by simp[bD]) rfl)) (.inr ⟨mF,rfl⟩) ?_;apply RG;simp only[go_sem,iv,pt,dU,sD,rD,iq o ho];refine Um ba [1,2,3,0] fun c6=>?_;refine cG c6 rfl rfl rfl rfl rfl (by exact Gn) (by simp) fun c5=>?_;apply RG;simp only[go_sem,iv,pt,dU,sD,rD,hL];obtain⟨ta,tc,rfl⟩:=cA.shape
       exact dI (i+1,v8,.slice ta (Syn.joinAll ri.f gt).length tc,dv10) _ _ V9 (ae (by simp only[go_sem,Tq,iv,pt,dU])) (by simp only[go_sem,Tq,Mq]) ⟨hS,D10,A11,B14,_,rfl,c5,Ui c2 (Ui k414 ak),hb,d4,by simpa[Te]using ds.le (Ui a6 ak),dA.le (Ui k1114 ak),cA,fC.joinAll tf,by simp only[Tu];unfold aF;unfold aF at g5;omega⟩
      ·have d9:=en;rw[cx]at d9;obtain⟨m2,cc,rfl,i0,kr,b5⟩:=tG d9;have cl:=b5.len;have ki:gg.length=gg'.length+1:=by rw[cx];rfl
       have fk:gg.length<=gc:=eb;have jf:decide ((gg.length:Int)>0)=true:=by simp;omega
       have ia:gg[0]?=some s:=by rw[cx];rfl
       obtain⟨gb,goff,gcs,rfl,e6,c3⟩:=hG.load fP.len ia;obtain⟨za,zk,rfl,dT⟩:=e6.shape;apply RG;simp only[go_sem,iv,pt,dU,jf];refine⟨Vi,?_⟩;refine Qz (l:=[iv s.1,.slice za (T.subs s.2).length zk,iv (T.plc (T.subs s.2) s.2)]) (v:=.agg #[iv s.1,.slice za (T.subs s.2).length zk,iv (T.plc (T.subs s.2) s.2)]) rfl (by simpa using cellsU bb (.head _) c3) (.inl ⟨oN,rfl⟩) ?_;apply RG;simp only[go_sem,iv,pt,dU];refine av bb (by exact gY) rfl rfl rfl rfl rfl Vm fun nb3 g3 c9 am eH=>?_;apply RG;simp only[go_sem,iv,pt,dU];refine⟨Vi,?_⟩;have dd:du g4 (.slice (oz (some ⟨gb,goff,none⟩) 3 1 gc) (gg.length-1) (gc-1)) gg':=Sl.tail (R:=fP) (fun{I} c a h=>fP.len c a h) (by rw[<-cx];exact hG) fk;have ey:du g3 (.slice (some ⟨nb3,0,none⟩) 1 1) [s]:=⟨_,_,rfl,.inr ⟨nb3,0,[iv s.1,.slice za (T.subs s.2).length zk,iv (T.plc (T.subs s.2) s.2)],rfl,az eH (by simp[aE,Value.cells]) (by simp[aE,Value.cells,iv]),.one ⟨_,_,rfl,dT.le am⟩⟩⟩;have fns:FN ts.length [s]:=⟨bG.head (by rw[<-cx];exact b6.ok),fun t ht=>by simp at ht;subst ht;exact b6.le t (by rw[cx];exact .head _)⟩;have fng:FN ts.length gg':=⟨bG.tail (by rw[<-cx];exact b6.ok),fun t ht=>b6.le t (by rw[cx];exact .tail _ ht)⟩;obtain⟨h9,ic⟩:=FB ih Vi Vi i0;refine f6 c9 [0,1,2,3,4] [sg pb _,D11] [A11,B3,C11] rfl ic rfl (h9 (h3.le (Ui k411 am)) ey fns (dk.le am) (by simp only[Tu]at cl |-;omega)) fun v j0 qs b3 aa hq=>?_;obtain⟨dv13,D13,rs,rfl,f1,⟨A13,B13,va13,vb13,rfl,rfl,gr,gk⟩,cf,i4⟩:=hq;simp only[SS,SU]at b3 |-;apply RG;simp only[go_sem,iv,pt,dU];refine Um b3 [2,0,1,3,4,5,6] fun b1=>?_;refine ag b1 fun g2 c8 a0 gn=>?_
       have fl:db g2 va13 cc.l:=gr.sl a0 gn;refine Um c8 [3,0,1,2,4,5] fun c7=>?_;have k1214:=Ui am (Ui aa a0);have h6:=cl.1;simp only[Tu]at h6;unfold aF at g5;refine aY c7 (by exact cT) (dA.le k1214) fl (fun{I J c a} h k=>aW.le h k) (fun{I} c a h=>aW.len c a h) (fun{I} c a h=>aW.ones h) rfl rfl rfl rfl (by simp only[Tu];omega) (by simp only[Tu];unfold maxLen;omega) fun na nc hS A15 ba ak gq=>?_;apply RG;simp only[go_sem,iv,pt,dU];refine Um ba [3,0,1,2,4,5] fun c6=>?_;refine ag c6 fun jo c5 cr f8=>?_;have k1416:=Ui a0 (Ui ak cr);have fr:du jo vb13 cc.f:=gk.sl k1416 f8;refine f6 c5 [0,1,2,3,4] [] [A15,sg pb _,D13,B3,C11] rfl gy rfl (iz (s:=cd)) fun v2 k1 qs d6 aS hq=>?_;obtain⟨rfl,ea⟩:=hq;simp only[SS,SU]at d6 |-;obtain⟨fi2,first2,cap2,rfl,gi2,ci2⟩:=id ea;apply RG;simp only[go_sem,iv,pt,dU];have k417:=Ui k411 (Ui am (Ui aa (Ui k1416 aS)));refine f6 d6 [1,0,2,3,4] [sg pb _] [A15,D13,B3,C11] rfl gX rfl (gT (h3.le k417) (fr.le aS) cf ea) fun v k0 qs d5 cp hq=>?_;obtain⟨A17,B17,va17,vb17,rfl,rfl,cj,dx⟩:=hq;have hM:=dH h.ok cf (is:=bj cd);have hD:=eR h.ok cf (bj cd);have eo:=cI h.ok cf (bj cd);obtain⟨more,dne,ex⟩:∃yes g,aC ts cc.f (bj cd)=(yes,g):=⟨_,_,rfl⟩;rw[ex]at cj dx hM hD eo b5;simp only at cj dx hM hD eo b5;obtain⟨ma,mc,rfl⟩:=cj.shape;simp only[SS,SU]at d5 |-;apply RG;simp only[go_sem,iv,pt,dU];refine Um d5 [1,0,2,3,4,5,6] fun e9=>?_;refine ag (c:=.st _) e9 fun g1 e8 ap gl=>?_
       have i2:m9 g1 (.slice ma more.length mc) more:=cj.sl ap gl;have k1219:=Ui am (Ui aa (Ui k1416 (Ui aS (Ui cp ap))));refine aB (fun x=>more.length-x.1) (KT pb (dU pb (if par then 207 else 83)) (.slice na (ri.l++l++cc.l).length nc) vb v12 vb17 (.slice (some ⟨b,off,none⟩) a4.length hc) a4.length i (.slice ma more.length mc) more.length) (QW [sg pb (bD lv fv ov dv13 (o+1)),B17,A15,D13,B3,C11] more gg' g1) (0,.slice (oz (some ⟨gb,goff,none⟩) 3 1 gc) (gg.length-1) (gc-1)) (ae (by simp only[go_sem,Tq,iv,pt,dU])) (by simp only[go_sem,Tq,KT]) ?_ ?_
       ·exact⟨g1,rfl,e8,Uj _,S6 _,dd.le k1219,show gg.length-1<=gc-1 by omega⟩
       rintro⟨j,v14⟩ H ⟨kO,rfl,c4,an,h8,cb,cy⟩ cB;simp only at h8 cb cy;simp only[KT];have hz:∀y∈more,iH ts y/\y.at'<ts.length:=fun y hy=>⟨(hM y hy).1,mN Vm (hM y hy).1 (hM y hy).2⟩;have ed:FN ts.length ((more.take j).foldl joinH1 gg'):=kg (fun y hy=>hz y (TA hy)) fng;have fz:=ed.len;rcases Sw j more.length with d3|h7
       ·have er:decide ((j:Int)<(more.length:Int))=true:=by simp;omega
        have e3:=wrap64 (n:=j+1) Vi;have g0:IntKind.i64.wrap ((j:Int)+1)=((j+1:Nat):Int):=by rw[<-e3];congr 1
        obtain⟨y,hy⟩:∃y,more[j]?=some y:=⟨_,SC d3⟩;have et:=hz y (Tg hy);have hW:=et.2;have e4:=wrap64 (n:=y.at'+1) Vi;have hK:IntKind.i64.wrap ((y.at':Int)+1)=((y.at'+1:Nat):Int):=by rw[<-e4];congr 1
        obtain⟨b2,off2,cs2,rfl,dc,ao⟩:=(m9.le i2 an).load jA.len hy;obtain⟨ua,uk,rfl,a5⟩:=dc;have a3:=cE (g:=joinH1) (z:=gg') hy;apply RG;simp only[go_sem,er,iv,pt,dU];refine⟨Vi,?_⟩;refine Qz (l:=[iv y.at',sD ua uk y.cond,rD y.cond,.int .u8 y.kind,.string ⟨⟨y.text⟩⟩]) (v:=.agg #[iv y.at',sD ua uk y.cond,rD y.cond,.int .u8 y.kind,.string ⟨⟨y.text⟩⟩]) rfl (cellsU c4 (.head _) ao) (.inl ⟨eS,rfl⟩) ?_;apply RG;simp only[go_sem,er,iv,pt,dU,sD,rD];refine V8 [0,2,3,4,5,6,1,7,8] [] [] ?_;apply af;simp only[go_sem,iv,pt,dU,sD,rD,hK];refine i7 c4 [0,1,2,3,4,5] [] [sg pb _,B17,A15,D13,B3,C11] rfl BA rfl (BU cb Vi) fun v hR qs b0 cn hq=>?_;obtain⟨E21,rfl,eg⟩:=hq;obtain⟨ca,ck,rfl⟩:=eg.shape;simp only[SS,SU]at b0 |-;apply af;simp only[go_sem,iv,pt,dU,sD,rD,hK];refine i7 b0 [0,1,2,3,4,5,6] [E21] [sg pb _,B17,A15,D13,B3,C11] rfl df rfl (bo (a:=y.at'+1) eg (a5.le cn) ed.ok.2 (fun t ht=>by have:=ed.le t ht;omega) Vi Vi) fun v hP qs bx aj hq=>?_;obtain⟨E22,rfl,dj⟩:=hq;have hn:=dj.cap fP.len;simp only[SS,SU]at bx |-;apply af;simp only[go_sem,iv,pt,dU,sD,rD];refine aw ?_;refine ag (c:=.st _) bx fun hO bd ac f0=>?_;have ec:du hO v _:=dj.sl ac f0;obtain⟨wa,wc,rfl⟩:=dj.shape;apply RG;simp only[go_sem,iv,pt,dU,sD,rD,g0];rw[show Syn.join ((more.take j).foldl joinH1 gg') (y.at'+1) y.cond=(more.take (j+1)).foldl joinH1 gg' from a3.symm]at ec hn |-;exact cB (j+1,.slice wa _ wc) _ _ V9 (ae (by simp only[go_sem,Tq,iv,pt,dU])) (by simp only[go_sem,Tq,KT]) ⟨hO,rfl,bd,Ui an (Ui cn (Ui aj ac)),d3,ec,hn⟩
       ·have e5:j=more.length:=by omega
        subst e5;have er:=Z6 more.length;rw[Td]at cb ed fz;apply RG;simp only[go_sem,er,iv,pt,dU];refine Um c4 [1,0,2,3,4,5] fun b0=>?_;refine ag b0 fun hR bx aj f7=>?_;have f2:du hR vb17 dne:=dx.sl (Ui ap (Ui an aj)) f7;have k1221:=Ui k1219 (Ui an aj);refine f6 bx [4,0,1,2,3] [C11] [sg pb _,A15,D13,B3] rfl dp rfl (b7 (N:=ts.length) Vi (hC.le k1221) a2 f2 eo) fun v hP qs bd ac hq=>?_;obtain⟨C22,rfl,f3⟩:=hq;simp only[SS,SU]at bd |-;apply RG;simp only[go_sem,iv,pt,dU];refine Um bd [1,3,2,4,0] fun e7=>?_;have k1522:=Ui cr (Ui aS (Ui cp (Ui ap (Ui an (Ui aj ac)))));refine c0 ⟨m2+1,.slice na (ri.l++l++cc.l).length nc,v,v14,dv13⟩ _ _ V9 (ae (by simp only[go_sem,Tq,iv,pt,dU])) (by simp only[go_sem,Tq,Ku]) ⟨hP,D13,A15,C22,_,_,_,_,rfl,e7,Ui ct (Ui k1221 ac),by simp only;omega,b5,cb.le (Ui aj ac),cy,ed,f3,a2.joinAll eo,by rw[<-Te];exact br.le gq k1522,?_⟩;have:=f1.le (Ui a0 (Ui ak k1522));simpa[Te]using this
  ·have jg:(x.text == [40])=false:=by
    rw[Uf];exact g6
   rw[SI g6]at hy;cases hy
   apply RG;simp only[go_sem,hJ,iv,pt,sD,rD,jg,T7];refine f6 hk [0,1,2,3] [sg pb _,D3] [A3,B3] rfl iJ rfl (kN h3 g8.le eh hE (by simp[bR]at el |-;omega)) fun v I4 qs em cm hq=>?_;obtain⟨dv2,D4,rs,rfl,ja,rfl⟩:=hq;simp only[SS,SU]at em |-;apply RG;simp only[go_sem,iv,pt,sD,rD,hL];exact dI (i+1,va,vb,dv2) _ _ V9 (ae (by simp only[go_sem,Tq,iv,pt,dU])) (by simp only[go_sem,Tq,Mq]) ⟨I4,D4,A3,B3,_,rfl,em,Ui c2 cm,hb,d4,by simp only;rw[<-Te];exact ja,by simpa using hA.le cm,hB.le cm,fC,by simpa using i3⟩
 ·have kc:i=a4.length:=by omega
  subst kc;have hJ:=Z6 a4.length;rw[T4]at hU;cases hU
  apply RG;simp only[go_sem,hJ,iv,pt];exact ai rfl hk (r:=[va,vb]) rfl (Ui e0 c2) ⟨_,D3,[A3,B3],rfl,hE,⟨A3,B3,va,vb,rfl,rfl,hA,hB⟩,fC,i3⟩
end
open Go Go.Sx Dg Syn
theorem LB:aP Tryz.prog 77:=⟨_,Tryz.func77,rfl,rfl⟩
theorem Hx:aP Tryz.prog 134:=⟨_,Tryz.func134,rfl,rfl⟩
theorem HP:aP Tryz.prog 136:=⟨_,Tryz.func136,rfl,rfl⟩
section
variable {pb:Nat} {ts:List Tok} {lv fv ov:Value}
theorem Ik{J:PH}{o bb:Nat}{dv:Value}{h:ay}{a:Option Addr}{k:Nat}(hp:vF J ts lv fv)(hb:aQ J bb 0 [pt pb]):
  aO Tryz.prog 134 #[uh a k h,pt bb] J [sg pb (bD lv fv ov dv o)] fun v I2 qs=>qs=[sg pb (bD lv fv ov dv o)]/\v=.bool (ju ts true h):=by
 intro hd;obtain⟨la,lc,rfl,_⟩:=id hp.tok;refine ir 12 Tryz.func134 fun w0=>?_
 try simp only[uh,iv,pt,sD,rD]
 refine Un ?_;refine V8 [0,1,2,3,4,5,6,7,8] [2,5] [] ?_;refine Vk ?_;refine P7 (l:=[pt pb]) rfl (cellsU hd (.head _) hb) (.inr ⟨uI,rfl⟩) ?_;refine Vk ?_;refine P7 (l:=[_]) rfl (cellsU hd (.tail _ (.head _)) (aU (by simp[bD]) rfl)) (.inr ⟨pH,rfl⟩) ?_;refine Vk ?_;refine aw ?_;refine Un ?_;refine ai rfl hd (r:=[.bool ((h.at':Int) == (ts.length:Int))]) rfl (Uj _) ⟨rfl,?_⟩;show Value.bool _=Value.bool (decide (h.at'=ts.length));congr 1;by_cases e:h.at'=ts.length
 ·rw[e];simp
 ·simp[e];omega
theorem CM{n o bb:Nat}(ih:iE pb ts lv fv ov n)(ho:o<=64){I0:PH}(ba:aQ I0 bb 0 [pt pb]):F9 pb ts lv fv ov n true o I0 (.func (.func 136) #[] #[pt bb]):=by
 refine⟨136,#[],#[pt bb],rfl,HP,fun m hm x a ha I D dv xa xk e a6 h hx hr he hl=>?_⟩;have hb:=ba.le a6;have ac:Syn.mV (Syn.run ts m) o x=some a:=ha;unfold Syn.mV at ac;have bd:=h.len;have a5:=hx.le;show aO Tryz.prog 136 #[uh xa xk x,pt bb] I [sg pb (bD lv fv ov dv o),D] _;intro hd;refine ir 26 Tryz.func136 fun w0=>?_
 try simp only[uh,iv,pt,sD,rD]
 cases h1:(x.text == [118,97,114])
 ·have n1:x.text≠rg:=fun e=>by rw[e]at h1;exact absurd h1 Vm
  rw[Sb n1]at ac;cases h2:(x.text == [102,110])
  ·have n2:x.text≠MC:=fun e=>by rw[e]at h2;exact absurd h2 Vm
   rw[Sb n2]at ac;cases ac
   apply RG;simp only[go_sem,h1,h2];refine Qz (l:=[pt pb]) rfl (cellsU hd (.head _) hb) (.inr ⟨uI,rfl⟩) ?_;refine Uz ?_;refine f6 hd [0,1] [sg pb _,D] [] rfl iJ rfl (kN h hx.le hr he (by simpa[bR]using hl)) fun v I4 qs a4 ao hq=>?_;obtain⟨dv2,D4,rs,rfl,bc,rfl⟩:=hq;simp only[SS,SU,Tq]at a4 |-;refine Uz ?_;refine aT a4 fun a9=>?_;refine aT a9 fun a7=>?_;refine Um a7 [2,3,0,1] fun ap=>?_;exact ai rfl ap (r:=[.slice none 0 0,.slice none 0 0]) rfl ao ⟨dv2,D4,[PH.no,PH.no],rfl,bc,⟨PH.no,PH.no,_,_,rfl,rfl,Ow.nil _ _ _ _,Ow.nil _ _ _ _⟩,FN.nil _,S6 _⟩
  ·rw[SI (show x.text=MC from eq_of_beq h2)]at ac;have aj:=hx.lt (.inl (by rw[show x.text=MC from eq_of_beq h2];decide));apply RG;simp only[go_sem,h1,h2];refine go mixed [0,1,2,3,4,5,6,7] [] [] [0] [2] I rfl rfl ?_;refine Vk ?_;refine gm (l:=[pt pb]) rfl (cD hd) rfl rfl rfl hb (.inr ⟨uI,rfl⟩) ?_;refine Vk ?_;refine Og hd [0,1] rfl (fun _=>Uj _) rfl gC (by rfl) (ps:=[]) (F:=[sg pb _,D]) rfl (gx (h:=x) Vi hr) fun v I2 qs an aa hq=>?_;obtain⟨rfl,hA⟩:=hq;simp only[SS,SU]at an |-;refine Vk ?_;refine i7 an [0,1] [sg pb _,D] [] rfl HU rfl (ih m hm (.function o (bh x)) a ac ho (h.le aa) hA (bm hx aj) (he.le aa) hl) fun v I3 qs am ak hq=>?_;obtain⟨dv3,D3,rs,rfl,a1,⟨A3,B3,va3,vb3,rfl,rfl,a3,a2⟩,a0,aS⟩:=hq;simp only[SS,SU,Tq]at am |-;refine Vk ?_;refine aw ?_;refine Uz ?_;exact ai rfl am (r:=[va3,vb3]) rfl (Ui aa ak) ⟨dv3,D3,[A3,B3],rfl,a1,⟨A3,B3,va3,vb3,rfl,rfl,a3,a2⟩,a0,aS⟩
 ·rw[SI (show x.text=rg from eq_of_beq h1)]at ac;have aj:=hx.lt (.inl (by rw[show x.text=rg from eq_of_beq h1];decide));apply RG;simp only[go_sem,h1];refine go mixed [0,1,2,3,4,5,6,7] [] [] [0] [2] I rfl rfl ?_;refine Vk ?_;refine gm (l:=[pt pb]) rfl (cD hd) rfl rfl rfl hb (.inr ⟨uI,rfl⟩) ?_;refine Vk ?_;refine Og hd [0,1] rfl (fun _=>Uj _) rfl gC (by rfl) (ps:=[]) (F:=[sg pb _,D]) rfl (gx (h:=x) Vi hr) fun v I2 qs an aa hq=>?_;obtain⟨rfl,hA⟩:=hq;simp only[SS,SU]at an |-;refine Vk ?_;refine i7 an [0,1] [sg pb _,D] [] rfl Bv rfl (ih m hm (.vrb o (bh x)) a ac ho (h.le aa) hA (bm hx aj) (he.le aa) hl) fun v I3 qs am ak hq=>?_;obtain⟨dv3,D3,rs,rfl,a1,⟨A3,B3,va3,vb3,rfl,rfl,a3,a2⟩,a0,aS⟩:=hq;simp only[SS,SU,Tq]at am |-;refine Vk ?_;refine aw ?_;refine Uz ?_;exact ai rfl am (r:=[va3,vb3]) rfl (Ui aa ak) ⟨dv3,D3,[A3,B3],rfl,a1,⟨A3,B3,va3,vb3,rfl,rfl,a3,a2⟩,a0,aS⟩
theorem DE{n o:Nat}(ih:iE pb ts lv fv ov n)(ho:o<=64){d:T}{r:Syn.bE}(hr:Syn.run ts n (.seqL true o [(0,d)] [] [])=some r){I D:PH}{dv:Value}{da:Option Addr}{dk:Nat}{e:List bX}(h:vF I ts lv fv)(an:cu I (.agg #[sD da dk d,rD d]) d)(ao:d≠ff)(he:dl I D dv e)(hm:e.length+r.e.length<=pY):
  aO Tryz.prog 77 #[pt pb,.agg #[sD da dk d,rD d]] I [sg pb (bD lv fv ov dv o),D] (PP pb lv fv ov o (e++r.e) (MW ts r)):=by
 intro hd;refine ir 17 Tryz.func77 fun w0=>?_
 try simp only[iv,pt,sD,rD]
 apply bq 6;simp only[go_sem];refine eP 2 hd rfl fun bb a0=>?_;refine ag (c:=.st _) a0 fun I2 am ac a1=>?_;have hb:aQ I2 bb 0 [pt pb]:=(aU (by simp) rfl:aQ (sg bb (.cells [pt pb].toArray 152 (0,0))) bb 0 [pt pb]).le a1;apply RG;simp only[go_sem,kE,List.map,pt];refine Qz (l:=[pt pb]) rfl (cellsU am (.head _) hb) (.inr ⟨uI,rfl⟩) ?_;refine VI ?_;refine av am (by exact gY) rfl rfl rfl rfl rfl Vm fun nb I3 aS aa ap=>?_;have hf:du I3 (.slice (some ⟨nb,0,none⟩) 1 1) [(0,d)]:=⟨_,_,rfl,.inr ⟨nb,0,[iv 0,sD da dk d,rD d],rfl,az ap (by simp[aE,Value.cells]) (by simp[aE,Value.cells,iv,sD,rD]),.one ⟨_,_,rfl,an.le (Ui ac aa)⟩⟩⟩;have fn:FN ts.length [(0,d)]:=⟨⟨fun s hs=>by simp at hs;subst hs;exact⟨an.1,ao⟩,by simp⟩,fun s hs=>by simp at hs;subst hs;exact S6 _⟩;refine VI ?_;have a3:PZ pb ts lv fv ov o I3 (.func (.func 134) #[] #[pt bb]) (ju ts true):=⟨134,#[],#[pt bb],rfl,Hx,fun J hJ hp dv x a k _=>Ik hp (hb.le (Ui aa hJ))⟩;refine f6 aS [0,1] [sg pb _,D] [] rfl v7 rfl (Fm hr a3 (CM ih ho (hb.le aa)) (h.le (Ui ac aa)) hf fn (he.le (Ui ac aa)) hm) fun v I4 qs ak aj hq=>?_;obtain⟨dv4,D4,rs,rfl,a5,⟨A4,B4,va4,vb4,rfl,rfl,a7,a6⟩,a4,a2⟩:=hq;simp only[SS,SU,Tq]at ak |-;refine VI ?_;exact ai rfl ak (r:=[va4,vb4]) rfl (Ui ac (Ui aa aj)) ⟨dv4,D4,[A4,B4],rfl,a5,⟨A4,B4,va4,vb4,rfl,rfl,a7,a6⟩,a4,a2⟩
end
open Go Go.Sx Dg Syn
theorem BP:aP Tryz.prog 292:=⟨_,Tryz.func292,rfl,rfl⟩
section
variable {pb:Nat} {ts:List Tok} {lv fv ov:Value}
def tu(ts:List Tok)(o:Nat)(r:Syn.bE)(m:Nat)(xs:List ay)(l:List Nd)(out:ah)(ee:List bX):Prop:=
 ∃b,Syn.run ts m (.elses o xs l out)=some b/\b.l=r.l/\b.f=r.f/\ee++b.e=r.e
def qr(ts:List Tok)(o:Nat)(r:Syn.bE)(m:Nat)(ys:List ay)(l:List Nd)(out:ah)(ee:List bX):Prop:=
 ∃b,Syn.run ts m (.ifs o ys l out)=some b/\b.l=r.l/\b.f=r.f/\ee++b.e=r.e
theorem Em{o m:Nat}{r:Syn.bE}{l:List Nd}{out:ah}{ee:List bX}(h:tu ts o r m [] l out ee):l=r.l/\out=r.f/\ee=r.e:=by
 obtain⟨b,hb,h1,h2,h3⟩:=h;obtain⟨m',rfl,ac⟩:=bt hb;have aa:Syn.elses ts (Syn.run ts m') o [] l out=some b:=ac;unfold Syn.elses at aa;simp only at aa;cases aa
 exact⟨h1,h2,by simpa using h3⟩
theorem CO{o m:Nat}{r:Syn.bE}{l:List Nd}{out:ah}{ee:List bX}(h:qr ts o r m [] l out ee):l=r.l/\out=r.f/\ee=r.e:=by
 obtain⟨b,hb,h1,h2,h3⟩:=h;obtain⟨m',rfl,ac⟩:=bt hb;have aa:Syn.ifs (Syn.run ts m') o [] l out=some b:=ac;unfold Syn.ifs at aa;simp only at aa;cases aa
 exact⟨h1,h2,by simpa using h3⟩
theorem Au{o m:Nat}{r:Syn.bE}{x:ay}{xs:List ay}{l:List Nd}{out:ah}{ee:List bX}(h:tu ts o r m (x::xs) l out ee):∃m' a b,m=m'+1/\
  Syn.run ts m' (.block o (aC ts (bh x) (bj ny)).2 2)=some a/\(∀n∈l,n.kids.length+a.l.length<=aF)/\qr ts o b m' (aC ts (bh x) (bj ny)).1 (give l a.l) (Syn.joinAll out a.f) []/\tu ts o r m' xs b.l b.f (ee++a.e++b.e):=by
 obtain⟨b0,hb,h1,h2,h3⟩:=h;obtain⟨m',rfl,ao⟩:=bt hb;have aa:Syn.elses ts (Syn.run ts m') o (x::xs) l out=some b0:=ao;unfold Syn.elses at aa;simp only at aa;obtain⟨ys,rest,ac⟩:∃yes g,aC ts (bh x) (bj ny)=(yes,g):=⟨_,_,rfl⟩;rw[ac]at aa |-;simp only at aa |-;obtain⟨a,ha,an⟩:=bw aa;obtain⟨l1,hg,am⟩:=bw an;obtain⟨b,aS,ak⟩:=bw am;obtain⟨c,hc,aj⟩:=bw ak;cases aj
 have ap:=ce hg;obtain rfl:=bg hg;exact⟨m',a,b,rfl,ha,ap,⟨b,aS,rfl,rfl,rfl⟩,c,hc,h1,h2,by simpa[Te]using h3⟩
theorem AQ{o m:Nat}{r:Syn.bE}{y:ay}{ys:List ay}{l:List Nd}{out:ah}{ee:List bX}(h:qr ts o r m (y::ys) l out ee):∃m',m=m'+1/\
  (o=64->qr ts o r m' ys l out (ee++bR y 11))/\
  (o≠64->∃a,Syn.run ts m' (.branch (o+1) y 2)=some a/\(∀n∈l,n.kids.length+a.l.length<=aF)/\qr ts o r m' ys (give l a.l) (Syn.joinAll out a.f) (ee++a.e)):=by
 obtain⟨b0,hb,h1,h2,h3⟩:=h;obtain⟨m',rfl,an⟩:=bt hb;have aa:Syn.ifs (Syn.run ts m') o (y::ys) l out=some b0:=an;unfold Syn.ifs at aa;simp only at aa;refine⟨m',rfl,fun ho=>?_,fun ho=>?_⟩
 ·rw[SI ho]at aa;obtain⟨b,aj,ac⟩:=bw aa;cases ac
  exact⟨b,aj,h1,h2,by simpa[Te]using h3⟩
 ·rw[Sb ho]at aa;obtain⟨a,ha,ac⟩:=bw aa;obtain⟨l1,hg,am⟩:=bw ac;obtain⟨b,aj,ak⟩:=bw am;cases ak
  have ao:=ce hg;obtain rfl:=bg hg;exact⟨a,ha,ao,b,aj,h1,h2,by simpa[Te]using h3⟩
theorem tu.le{o m:Nat}{r:Syn.bE}{xs:List ay}{l:List Nd}{out:ah}{ee:List bX}(h:tu ts o r m xs l out ee):ee.length<=r.e.length:=by
 obtain⟨b,_,_,_,h⟩:=h;rw[<-h];simp
theorem qr.le{o m:Nat}{r:Syn.bE}{xs:List ay}{l:List Nd}{out:ah}{ee:List bX}(h:qr ts o r m xs l out ee):ee.length<=r.e.length:=by
 obtain⟨b,_,_,_,h⟩:=h;rw[<-h];simp
def Pv(pb:Nat)(slot:Nat)(vh:Value)(n:Nat)(x:Nat×Nat×Value×Value×Value):St:=⟨dn 114 [(0,.v (pt pb)),(8,.v x.2.2.1),(13,.v x.2.2.2.1),(56,.v vh),(57,.v (iv n)),(58,.v (iv x.1))],[]⟩
def Rw(pb:Nat)(ts:List Tok)(lv fv ov:Value)(o M:Nat)(xs:List ay)(r:Syn.bE)(e:List bX)(I0:PH)(x:Nat×Nat×Value×Value×Value)(H:PH):Prop:=
 ∃I D A B l out ee,H=U [I,sg pb (bD lv fv ov x.2.2.2.2 o),D,A,B]/\Dj [I,sg pb (bD lv fv ov x.2.2.2.2 o),D,A,B]/\I0.le I/\x.1<=xs.length/\x.2.1<=M/\tu ts o r x.2.1 (xs.drop x.1) l out ee/\
  br I A x.2.2.1 l/\l.length=1/\gP I B x.2.2.2.1 out/\FN ts.length out/\dl I D x.2.2.2.2 (e++ee)
def N0(pb:Nat)(vh:Value)(n i:Nat)(vh2:Value)(n2:Nat)(x:Nat×Nat×Value×Value×Value):St:=⟨dn 114 [(0,.v (pt pb)),(8,.v x.2.2.1),(13,.v x.2.2.2.1),(56,.v vh),(57,.v (iv n)),(58,.v (iv i)),(82,.v vh2),(83,.v (iv n2)),(84,.v (iv x.1))],[]⟩
def Rq(pb:Nat)(ts:List Tok)(lv fv ov:Value)(o M:Nat)(ys:List ay)(r:Syn.bE)(e:List bX)(I0:PH)(x:Nat×Nat×Value×Value×Value)(H:PH):Prop:=
 ∃I D A B l out ee,H=U [I,sg pb (bD lv fv ov x.2.2.2.2 o),D,A,B]/\Dj [I,sg pb (bD lv fv ov x.2.2.2.2 o),D,A,B]/\I0.le I/\x.1<=ys.length/\x.2.1<=M/\qr ts o r x.2.1 (ys.drop x.1) l out ee/\
  br I A x.2.2.1 l/\l.length=1/\gP I B x.2.2.2.1 out/\FN ts.length out/\dl I D x.2.2.2.2 (e++ee)
theorem Gl{n:Nat}(ih:iE pb ts lv fv ov n){o:Nat}{h0:ay}{slot:Nat}{r:Syn.bE}(hr:Syn.run ts n (.branch o h0 slot)=some r):qS pb ts lv fv ov (.branch o h0 slot) r:=by
 obtain⟨m,rfl,hs⟩:=bt hr;have et:Syn.branch ts (Syn.run ts m) o h0 slot=some r:=hs;unfold Syn.branch at et;obtain⟨a,ha,hM⟩:=bw et;obtain⟨b,hb,hL⟩:=bw hM;obtain⟨l1,e4,hK⟩:=bw hL;obtain⟨l2,e3,ec⟩:=bw hK;obtain⟨xs,out,hJ⟩:∃yes g,aC ts b.f (bj ip)=(yes,g):=⟨_,_,rfl⟩;rw[hJ]at ec;simp only at ec;obtain⟨c,hc,ic⟩:=bw ec;cases ic
 have e2:=ce e4;have e0:=ce e3;obtain rfl:=bg e4;obtain rfl:=bg e3;clear et hM hL hK ec hs hr e4 e3;intro ho ia I D dv xa xk e h hx c0 he hm hd;have hl:=h.len;have er:=hx.lt (.inl ia);simp only[Tu]at hm;refine ir 114 Tryz.func292 fun w0=>?_
 try simp only[iv,pt,uh,sD,rD]
 refine Un ?_;refine dP hd (by exact cT) rfl rfl rfl rfl rfl Vm fun wb A1 j0 cA=>?_;have k4:br I A1 _ [ix 8 h0 slot]:=⟨_,cA,.one (aW.mk (n:=ix 8 h0 slot) c0 (Sl.nil _ _) jq)⟩;refine Uz ?_;refine f6 j0 [0,1,2] [] [A1,sg pb _,D] rfl gC rfl (gx (h:=h0) Vi c0) fun v I2 qs hP cm hq=>?_;obtain⟨rfl,kn⟩:=hq;simp only[SS,SU]at hP |-;refine Uz ?_;refine f6 hP [1,2,0] [sg pb _,D] [A1] rfl wA rfl (ih m (Tv m) _ _ ha ho (h.le cm) kn (bm hx er) (he.le cm) Vi) fun v I3 qs hO ez hq=>?_;obtain⟨dv3,D3,rs,rfl,kq,⟨A3,B3,va3,vb3,rfl,rfl,k3,kx⟩,kl,_⟩:=hq;simp only[SS,SU]at hO |-;refine Uz ?_;refine Um hO [2,0,1,3,4] fun jo=>?_;refine ag jo fun I4 jg cl k2=>?_;have ki:db I4 va3 a.l:=k3.sl cl k2;refine Um jg [2,0,1,3] fun jf=>?_;refine ag jf fun I5 jd ap kv=>?_;have kk:du I5 vb3 a.f:=kx.sl (Ui cl ap) kv;have hz:=Ui cl ap;have k5:=Ui cm (Ui ez hz);refine f6 jd [0,1,2] [sg pb _,D3] [A1] rfl pp rfl (ih m (Tv m) _ _ hb ho (h.le k5) kk kl (kq.le hz) (by simp only[Tu];omega)) fun v I6 qs hN ey hq=>?_;obtain⟨dv6,D6,rs,rfl,kp,⟨A6,B6,va6,vb6,rfl,rfl,k1,kt⟩,eg,_⟩:=hq;simp only[SS,SU]at hN |-;refine Uz ?_;refine Um hN [2,0,1,3,4] fun ja=>?_;refine ag ja fun I7 f0 c4 k0=>?_;have kd:db I7 va6 b.l:=k1.sl c4 k0;refine Um f0 [2,0,1,3] fun fC=>?_;refine ag fC fun I8 fA c3 kr=>?_;have el:=Ui c4 c3;have kj:du I8 vb6 b.f:=kt.sl el kr;have em:=Ui ey el
 refine f6 fA [2,0,1] [A1] [sg pb _,D6] rfl eQ rfl (ge (k4.le (Ui k5 em)) (db.le ki (Ui ap em)) (by simp[aF]) e2) fun v I9 qs d1 c2 hq=>?_;obtain⟨A9,rfl,kO⟩:=hq;simp only[SS,SU]at d1 |-;refine Uz ?_;refine f6 d1 [0,1,2] [A9] [sg pb _,D6] rfl eQ rfl (ge kO (db.le kd (Ui c3 c2)) (by rw[bI];simp[aF]) e0) fun v8 mr qs d0 da hq=>?_;obtain⟨A10,rfl,ht⟩:=hq;simp only[SS,SU]at d0 |-;refine Uz ?_;refine f6 d0 [0,1,2] [] [A10,sg pb _,D6] rfl gy rfl (iz (s:=ip)) fun v mm qs dT cf hq=>?_;obtain⟨rfl,hV⟩:=hq;simp only[SS,SU]at dT |-;obtain⟨fi,first,cap,rfl,gi,ci⟩:=id hV;refine Uz ?_;have k811:=Ui c2 (Ui da cf);have hG:=Ui k5 (Ui em k811);refine f6 dT [1,0,2] [sg pb _] [A10,D6] rfl gX rfl (gT (h.le hG) (kj.le k811) eg hV) fun v mj qs dI bd hq=>?_;obtain⟨A12,B12,va12,vb12,rfl,rfl,b6,cx⟩:=hq;have hX:=dH h.ok eg (is:=bj ip);have hS:=eR h.ok eg (bj ip);have gb:=cI h.ok eg (bj ip);rw[hJ]at b6 cx hX hS gb;simp only at b6 cx hX hS gb;obtain⟨xsa,xsc,rfl⟩:=b6.shape;simp only[SS,SU]at dI |-;refine Uz ?_;refine Um dI [1,0,4,3,2] fun fz=>?_;refine ag (c:=.st _) fz fun hy fs aj hn=>?_;have j7:m9 hy (.slice xsa xs.length xsc) xs:=b6.sl aj hn;have k1013:=Ui cf (Ui bd aj);have k613:=Ui el (Ui k811 (Ui bd aj));have h4:=Ui hG (Ui bd aj);have kc:tu ts o ⟨c.l,c.f,a.e++b.e++c.e⟩ m xs (give (give [ix 8 h0 slot] a.l) b.l) out (a.e++b.e):=⟨c,hc,rfl,rfl,rfl⟩
 refine aB (fun x=>xs.length-x.1) (Pv pb slot (.slice xsa xs.length xsc) xs.length) (Rw pb ts lv fv ov o m xs ⟨c.l,c.f,a.e++b.e++c.e⟩ e hy) (0,m,v8,vb12,dv6) Us (by simp only[go_sem,Tq,Pv]) ?_ ?_
 ·exact⟨hy,D6,A10,B12,_,_,_,rfl,fs,Uj _,S6 _,R7 _,kc,ht.le k1013,by simp[bI],cx.le aj,gb,by simpa[Te]using kp.le k613⟩
 rintro⟨i,m',va,vb,dv⟩ H ⟨lj,D14,A14,B14,l,out',ee,rfl,cp,ba,i4,i0,d5,hA,eA,hB,gn,hE⟩ c1;simp only at i4 i0 d5 hA hB hE;simp only[Pv];have f8:m9 lj (.slice xsa xs.length xsc) xs:=j7.le ba;have hF:=Ui h4 ba;have hw:=h.le hF;rcases Sw i xs.length with ed|lk
 ·have hv:decide ((i:Int)<(xs.length:Int))=true:=by simp;omega
  have e1:=wrap64 (n:=i+1) Vi;have k7:IntKind.i64.wrap ((i:Int)+1)=((i+1:Nat):Int):=by rw[<-e1];congr 1
  obtain⟨x,eb⟩:∃x,xs[i]?=some x:=⟨_,SC ed⟩;have h8:=Tg eb;obtain⟨cy,h9⟩:=hX x h8;have b1:=mN Vm cy h9;obtain⟨bb,off,cs,rfl,j1,d2⟩:=f8.load jA.len eb;obtain⟨xa2,xk2,rfl,cB⟩:=j1;have i9:xs.drop i=x::xs.drop (i+1):=by
   rw[S5 ed];rw[SC ed]at eb;rw[Tk eb]
  rw[i9]at d5;obtain⟨m'',aa,b2,rfl,f3,i6,gc,d4⟩:=Au d5;have c9:=d4.le;simp only[Tu]at c9;apply RG;simp only[go_sem,hv,iv,pt];refine⟨Vi,?_⟩;refine Qz (l:=[iv x.at',sD xa2 xk2 x.cond,rD x.cond,.int .u8 x.kind,.string ⟨⟨x.text⟩⟩]) (v:=.agg #[iv x.at',sD xa2 xk2 x.cond,rD x.cond,.int .u8 x.kind,.string ⟨⟨x.text⟩⟩]) rfl (cellsU cp (.head _) d2) (.inl ⟨eS,rfl⟩) ?_;refine Up ?_;refine f6 cp [0,1,2,3] [] [sg pb _,D14,A14,B14] rfl gC rfl (gx (h:=x) Vi cB) fun v mi qs dA c8 hq=>?_;obtain⟨rfl,gq⟩:=hq;simp only[SS,SU]at dA |-;refine Up ?_;refine f6 dA [0,1,2,3] [] [sg pb _,D14,A14,B14] rfl gy rfl (iz (s:=ny)) fun vi mc qs dy cc hq=>?_;obtain⟨rfl,d6⟩:=hq;simp only[SS,SU]at dy |-;obtain⟨fi2,first2,cap2,rfl,gi2,ci2⟩:=id d6;refine Up ?_;have hD:=Ui c8 cc;obtain⟨ys,rest,es⟩:∃yes g,aC ts (bh x) (bj ny)=(yes,g):=⟨_,_,rfl⟩;have f5:=dH h.ok (bm cy b1) (is:=bj ny);have hR:=eR h.ok (bm cy b1) (bj ny);have ga:=cI h.ok (bm cy b1) (bj ny);refine f6 dy [0,1,2,3] [sg pb _] [D14,A14,B14] rfl gX rfl (gT (hw.le hD) (gq.le cc) (bm cy b1) d6) fun v mb qs dx c7 hq=>?_;obtain⟨A17,B17,va17,vb17,rfl,rfl,b5,ct⟩:=hq;rw[es]at b5 ct f5 hR ga f3 gc;simp only at b5 ct f5 hR ga f3 gc;obtain⟨ysa,ysc,rfl⟩:=b5.shape;simp only[SS,SU]at dx |-;refine Up ?_;refine Um dx [1,0,2,3,4,5] fun fr=>?_;refine ag fr fun li fo a9 hk=>?_;have j5:m9 li (.slice ysa ys.length ysc) ys:=b5.sl a9 hk;refine Um fo [1,0,2,3,4] fun fn=>?_;refine ag fn fun ld fl a7 g6=>?_;have gl:du ld vb17 rest:=ct.sl (Ui a9 a7) g6
  have ep:=Ui hD (Ui c7 (Ui a9 a7));have k6:=hw.le ep;refine f6 fl [0,1,2,3] [sg pb _,D14] [A14,B14] rfl pp rfl (ih m'' Vi _ _ f3 ho k6 gl ga (hE.le ep) (by simp only[Tu];omega)) fun v ma qs ds cb hq=>?_;obtain⟨dv20,D20,rs,rfl,gt,⟨A20,B20,va20,vb20,rfl,rfl,hj,g5⟩,d9,ka⟩:=hq;simp only[SS,SU]at ds |-;refine Up ?_;refine Um ds [2,0,1,3,4,5] fun fk=>?_;refine ag fk fun lc fj a5 hh=>?_;have gg:db lc va20 aa.l:=hj.sl a5 hh;refine Um fj [2,0,1,3,4] fun fh=>?_;refine ag fh fun lb fg a4 g4=>?_;have gk:du lb vb20 aa.f:=g5.sl (Ui a5 a4) g4;have k2022:=Ui a5 a4;have eo:=Ui ep (Ui cb k2022);refine f6 fg [2,0,1,3] [A14] [sg pb _,D20,B14] rfl eQ rfl (ge (hA.le eo) (db.le gg a4) (by rw[eA];simp[aF]) i6) fun v23 l5 qs dk ac hq=>?_;obtain⟨A23,rfl,hg⟩:=hq;simp only[SS,SU]at dk |-;refine Up ?_;refine f6 dk [3,0,1,2] [B14] [A23,sg pb _,D20] rfl dp rfl (b7 (N:=ts.length) Vi (hB.le (Ui eo ac)) gn (gk.le ac) d9) fun v24 h2 qs dj ao hq=>?_;obtain⟨B24,rfl,g3⟩:=hq;simp only[SS,SU]at dj |-;refine Up ?_;refine Um dj [2,3,1,0] fun fc=>?_;have h3:=Ui eo (Ui ac ao);have k1824:=Ui a7 (Ui cb (Ui k2022 (Ui ac ao)));have d3:=j5.le k1824;have k2024:=Ui k2022 (Ui ac ao)
  refine aB (fun x=>ys.length-x.1) (N0 pb (.slice (some ⟨bb,off,none⟩) xs.length xsc) xs.length i (.slice ysa ys.length ysc) ys.length) (Rq pb ts lv fv ov o m'' ys b2 (e++(ee++aa.e)) h2) (0,m'',v23,v24,dv20) Us (by simp only[go_sem,Tq,N0]) ?_ ?_
  ·exact⟨h2,D20,A23,B24,_,_,_,rfl,fc,Uj _,S6 _,R7 _,gc,hg.le ao,by rw[bI];exact eA,g3,gn.joinAll d9,by simpa[Te]using gt.le k2024⟩
  rintro⟨j,m3,vc,vd,dw⟩ H ⟨h1,D25,A25,B25,l2,out2,ee2,rfl,b3,an,i2,ex,b0,ek,ef,ei,b4,eh⟩ aS;simp only at i2 ex b0 ek ei eh;simp only[N0];have f7:m9 h1 (.slice ysa ys.length ysc) ys:=d3.le an;have hC:=Ui h3 an;have hW:=hw.le hC;rcases Sw j ys.length with a0|i5
  ·have hu:decide ((j:Int)<(ys.length:Int))=true:=by simp;omega
   have f1:=wrap64 (n:=j+1) Vi;have f1':IntKind.i64.wrap ((j:Int)+1)=((j+1:Nat):Int):=by rw[<-f1];congr 1
   obtain⟨y,ea⟩:∃y,ys[j]?=some y:=⟨_,SC a0⟩;have h6:=Tg ea;obtain⟨hH,h7⟩:=f5 y h6;have h5:y.text≠[]:=by
    have:y.text=ny:=by simpa[bj]using h7
    rw[this];decide
   obtain⟨bc,off2,cs2,rfl,f2,cr⟩:=f7.load jA.len ea;obtain⟨ya,yk,rfl,ca⟩:=f2;have e5:ys.drop j=y::ys.drop (j+1):=by
    rw[S5 a0];rw[SC a0]at ea;rw[Tk ea]
   rw[e5]at b0;obtain⟨m4,rfl,ie,eq⟩:=AQ b0;apply RG;simp only[go_sem,hu,iv,pt];refine⟨Vi,?_⟩;refine Qz (l:=[iv y.at',sD ya yk y.cond,rD y.cond,.int .u8 y.kind,.string ⟨⟨y.text⟩⟩]) (v:=.agg #[iv y.at',sD ya yk y.cond,rD y.cond,.int .u8 y.kind,.string ⟨⟨y.text⟩⟩]) rfl (cellsU b3 (.head _) cr) (.inl ⟨eS,rfl⟩) ?_;refine Up ?_;by_cases cj:o=64
   ·have hU:=ie cj;have ap:=hU.le;simp only[Tu]at ap;subst cj;refine f6 b3 [0,1,2,3] [sg pb _,D25] [A25,B25] rfl gz rfl (ke hW hH.le ca eh (by simp[bR]at ap |-;omega)) fun v hY qs bx am hq=>?_;obtain⟨dv26,D26,rs,rfl,gs,rfl,rfl⟩:=hq;simp only[SS,SU]at bx |-;apply RG;simp only[go_sem,iv,pt,sD,rD,f1',T7];exact aS (j+1,m4,vc,vd,dv26) _ _ V9 Us (by simp only[go_sem,Tq,N0]) ⟨hY,D26,A25,B25,_,_,_,rfl,bx,Ui an am,a0,by simp only;omega,hU,ek.le am,ef,ei.le am,b4,by simpa[Te]using gs⟩
   ·obtain⟨a6,j2,eH,hT⟩:=eq cj;have c5:=hT.le;simp only[Tu]at c5;refine f6 b3 [0,1,2,3] [sg pb _] [D25,A25,B25] rfl gz rfl (iV (h:=y) (a:=ya) (k:=yk) Vi) fun v hY qs bx am hq=>?_;obtain⟨rfl,rfl,rfl⟩:=hq;simp only[SS,SU]at bx |-;apply RG;simp only[go_sem,iv,pt,sD,rD,f1',Ud];refine f6 bx [0,1,2,3] [sg pb _,D25] [A25,B25] rfl BP rfl (ih m4 Vi (.branch (o+1) y 2) a6 j2 Vi h5 hW hH ca eh (by simp only[Tu];omega)) fun v l3 qs dd c6 hq=>?_;obtain⟨dv27,D27,rs,rfl,gr,⟨A27,B27,va27,vb27,rfl,rfl,hf,g2⟩,d7,j9⟩:=hq;simp only[SS,SU]at dd |-;refine Up ?_;refine Um dd [2,0,1,3,4,5] fun fb=>?_;refine ag fb fun la fa a3 g8=>?_;have gf:db la va27 a6.l:=hf.sl a3 g8;refine Um fa [2,0,1,3,4] fun e9=>?_;refine ag e9 fun k9 e8 a2 g1=>?_;have gj:du k9 vb27 a6.f:=g2.sl (Ui a3 a2) g1;have k2729:=Ui a3 a2;have en:=Ui c6 k2729;refine f6 e8 [2,0,1,3] [A25] [sg pb _,D27,B25] rfl eQ rfl (ge (ek.le en) (db.le gf a2) (by rw[ef];simp[aF]) eH) fun v30 l0 qs dc ak hq=>?_;obtain⟨A30,rfl,g7⟩:=hq;simp only[SS,SU]at dc |-;refine Up ?_;refine f6 dc [3,0,1,2] [B25] [A30,sg pb _,D27] rfl dp rfl (b7 (N:=ts.length) Vi (ei.le (Ui en ak)) b4 (gj.le ak) d7) fun v31 k8 qs cn a1 hq=>?_;obtain⟨B31,rfl,g0⟩:=hq;simp only[SS,SU]at cn |-;refine Up ?_;refine Qz (l:=[.int .i64 ((o+1:Nat):Int)]) rfl (cellsU cn (.tail _ (.tail _ (.tail _ (.head _)))) (aU (by simp[bD]) rfl)) (.inr ⟨mF,rfl⟩) ?_;apply RG;simp only[go_sem,iv,pt,sD,rD,iq o ho]
    refine Um cn [2,3,1,0] fun e7=>?_;refine cG e7 rfl rfl rfl rfl rfl (by exact Gn) (by simp) fun e6=>?_;apply RG;simp only[go_sem,iv,pt,sD,rD,f1'];exact aS (j+1,m4,v30,v31,dv27) _ _ V9 Us (by simp only[go_sem,Tq,N0]) ⟨k8,D27,A30,B31,_,_,_,rfl,e6,Ui an (Ui en (Ui ak a1)),a0,by simp only;omega,hT,g7.le a1,by rw[bI];exact ef,g0,b4.joinAll d7,by simpa[Te]using gr.le (Ui k2729 (Ui ak a1))⟩
  ·have i1:j=ys.length:=by omega
   subst i1;have hu:=Z6 ys.length;rw[T4]at b0;obtain⟨rfl,rfl,rfl⟩:=CO b0;apply RG;simp only[go_sem,hu,iv,pt,k7];exact c1 (i+1,m'',vc,vd,dw) _ _ V9 Us (by simp only[go_sem,Tq,Pv]) ⟨h1,D25,A25,B25,_,_,_,rfl,b3,Ui ba hC,ed,by simp only;omega,d4,ek,ef,ei,b4,by simpa[Te]using eh⟩
 ·have i3:i=xs.length:=by omega
  subst i3;have hv:=Z6 xs.length;rw[T4]at d5;obtain⟨rfl,rfl,rfl⟩:=Em d5;apply RG;simp only[go_sem,hv,iv,pt];exact ai rfl cp (r:=[va,vb]) rfl hF ⟨_,D14,[A14,B14],rfl,hE,⟨A14,B14,va,vb,rfl,rfl,hA,hB⟩,gn,by rw[eA];simp[aF]⟩
end
end Go.Proofs.YtfaclfkpnmcmlaaGreatDoor
namespace Syn
open Dg
theorem IP{a b:T}(ha:a.ok 0)(hb:b.ok 0):(a.or b).card<=a.card+b.card:=by
 have h1:(a.or b).card=a.card+(b.and a.not).card:=T.card_add fun c=>by
  rw[T.or_at ha hb,T.and_at hb (T.not_ok ha),T.not_at];cases a.at' c<;>cases b.at' c<;>rfl
 have h2:(b.and a.not).card<=b.card:=T.card_mono fun c=>by
  rw[T.and_at hb (T.not_ok ha)];intro h;simp at h;exact h.1
 omega
theorem FP{a b:T}(ha:a.ok 0)(hb:b.ok 0):(a.and b).card+(a.and b.not).card=a.card:=by
 refine(T.card_add fun c=>?_).symm;rw[T.and_at ha hb,T.and_at ha (T.not_ok hb),T.not_at];cases a.at' c<;>cases b.at' c<;>rfl
def lp(N:Nat)(a:Nat)(d:T):Nat:=d.card*(N+1-a)
def dJ(N:Nat)(f:ah):Nat:=(f.map fun s=>lp N s.1 s.2).sum
def hp(N:Nat)(h:ay):Nat:=lp N h.at' h.cond
def dD(N:Nat)(hs:List ay):Nat:=(hs.map (hp N)).sum
theorem cQ(N:Nat):dJ N []=0:=rfl
theorem eG(N:Nat)(s:Nat×T)(f:ah):dJ N (s::f)=lp N s.1 s.2+dJ N f:=by simp[dJ]
theorem mo(N:Nat):dD N []=0:=rfl
theorem aX(N:Nat)(h:ay)(hs:List ay):dD N (h::hs)=hp N h+dD N hs:=by simp[dD]
theorem M9{N a:Nat}{d e:T}(hd:d.ok 0)(he:e.ok 0):lp N a (d.or e)<=lp N a d+lp N a e:=by
 unfold lp;rw[<-Ta];exact Tb _ (IP hd he)
theorem Fe{N a:Nat}{d:T}(hd:d.ok 0)(aa:d≠ff)(ha:a<=N):1<=lp N a d:=by
 have h1:=T.card_pos hd aa;unfold lp;exact R8 Vi (Nat.mul_le_mul h1 (show 1<=N+1-a by omega))
theorem JD{N a:Nat}{d:T}(ha:a<=N):lp N (a+1) d+d.card=lp N a d:=by
 unfold lp;rw[show N+1-a=(N+1-(a+1))+1 by omega,Nat.mul_add,Nat.mul_one]
theorem IL{N a b:Nat}(d:T)(h:a<=b):lp N b d<=lp N a d:=Nat.mul_le_mul_left _ Vi
theorem Hy{N:Nat}{f:ah}(hf:∀s∈f,s.2.ok 0){a:Nat}{d:T}(hd:d.ok 0):dJ N (qV f a d)<=dJ N f+lp N a d:=by
 induction f with
 |nil=>simp[qV,dJ]
 |cons s f ih=>
  obtain⟨b,e⟩:=s;have:=ih fun t ht=>hf t (.tail _ ht);simp only[qV];split
  ·rw[eG,eG];omega
  ·split
   ·rename_i h2;have:=M9 (N:=N) (a:=b) (hf _ (.head _)) hd;simp only[eG]at *;subst h2;omega
   ·simp only[eG];omega
theorem gV{N:Nat}{f:ah}(hf:∀s∈f,s.2.ok 0){a:Nat}{d:T}(hd:d.ok 0):dJ N (join f a d)<=dJ N f+lp N a d:=by
 unfold join;split
 ·omega
 ·exact Hy hf hd
theorem bG.all{f:ah}(h:bG f):∀s∈f,s.2.ok 0:=fun s hs=>(h.1 s hs).1
theorem dh{N:Nat}{g:ah}(hg:∀s∈g,s.2.ok 0):∀{f:ah},bG f->dJ N (joinAll f g)<=dJ N f+dJ N g:=by
 induction g with
 |nil=>intro f _;simp[joinAll,dJ]
 |cons s g ih=>
  intro f hf;have h1:=gV (N:=N) hf.all (a:=s.1) (hg s (.head _));have h2:=ih (fun t ht=>hg t (.tail _ ht)) (f:=join f s.1 s.2) (de hf (hg s (.head _)));unfold joinAll at *;simp only[Sj,eG];omega
theorem tQ{N:Nat}:∀{l:List Tok} {a:ah} {i:Nat} {d:T},bu l->bG a->d.ok 0->dJ N (dE a l i d)<=dJ N a+lp N i d
 | [],a,i,d,hl,ha,hd=>gV ha.all hd
 |t::l,a,i,d,hl,ha,hd=>by
  simp only[dE];split
  ·omega
  ·have ht:=hl t (.head _);have h1:=gV (N:=N) ha.all (a:=i) (T.and_ok hd ht);have h2:=tQ (N:=N) (l:=l) (a:=join a i (d.and t.cond)) (i:=i+1) (d:=d.and t.cond.not) (fun x hx=>hl x (.tail _ hx)) (de ha (T.and_ok hd ht)) (T.and_ok hd (T.not_ok ht));have h3:=IL (N:=N) (a:=i) (b:=i+1) (d.and t.cond.not) Vi;have h4:lp N i (d.and t.cond)+lp N i (d.and t.cond.not)=lp N i d:=by
    unfold lp;rw[<-Ta,FP hd ht]
   omega
theorem ux{N:Nat}{ts:List Tok}(aa:bu ts){f:ah}(hf:∀s∈f,s.2.ok 0):dJ N (dm ts f)<=dJ N f:=by
 have key:∀(f:ah) (a:ah),(∀s∈f,s.2.ok 0)->bG a->dJ N (f.foldl (fun at' s=>dE at' (ts.drop s.1) s.1 s.2) a)<=dJ N a+dJ N f:=by
  intro f
  induction f with
  |nil=>intro a _ _;simp[dJ]
  |cons s f ih=>
   intro a h1 h2;have h3:=tQ (N:=N) (aa.drop s.1) h2 (i:=s.1) (h1 s (.head _));have h4:=ih (dE a (ts.drop s.1) s.1 s.2) (fun t ht=>h1 t (.tail _ ht)) (uS (aa.drop _) h2 (h1 s (.head _)));simp only[Sj,eG];omega
 have:=key f [] hf bG.nil;rw[cQ,Sf]at this;exact this
theorem zy(N:Nat)(ts:List Tok):∀(f:ah),dD N (f.map (cL ts))=dJ N f
 | []=>rfl
 |s::f=>by
  have h:=zy N ts f;have e:hp N (cL ts s)=lp N s.1 s.2:=by unfold hp;rw[ik,gN]
  rw[Tf,aX,eG,h,e]
theorem lZ(N:Nat){h:ay}:∀{hs:List ay},h∈hs->hp N h<=dD N hs
 | [],hm=>(SW hm).elim
 |x::hs,hm=>by
  rw[aX];rcases List.mem_cons.1 hm with e|e
  ·subst e;omega
  ·have:=lZ N e;omega
section
variable {ts:List Tok} {f:ah}
theorem fw(aa:bu ts)(fn:FN ts.length f){N:Nat}:dD N (bk ts f)<=dJ N f:=by
 rw[jk aa fn.ok,zy];exact ux aa fn.ok.all
theorem iH.pos{h:ay}(k:iH ts h):1<=hp ts.length h:=Fe k.ok k.ne k.le
theorem iH.next{h:ay}(k:iH ts h):lp ts.length (h.at'+1) h.cond+1<=hp ts.length h:=by
 have h1:=JD (d:=h.cond) k.le;have h2:=T.card_pos k.ok k.ne;unfold hp;omega
theorem rC(fn:FN ts.length f)(h:f≠[]):1<=dJ ts.length f:=by
 cases f with
 |nil=>exact absurd rfl h
 |cons s f=>
  have:=Fe (fn.ok.1 s (.head _)).1 (fn.ok.1 s (.head _)).2 (fn.le s (.head _));rw[eG];omega
theorem bi(h:ay)(N:Nat):dJ N (bh h)=lp N (h.at'+1) h.cond:=by simp[bh,dJ]
theorem eB(h:ay)(N:Nat):dJ N (bA h)=hp N h:=by simp[bA,dJ,hp]
theorem mX{hs:List ay}{N:Nat}(hh:∀h∈hs,h.cond.ok 0):∀{f:ah},bG f->dJ N (hs.foldl joinH f)<=dJ N f+dD N hs:=by
 induction hs with
 |nil=>intro f _;simp[dD]
 |cons h hs ih=>
  intro f hf;have h0:=hh h (.head _);have h1:=gV (N:=N) hf.all (a:=h.at') h0;have h2:=ih (fun t ht=>hh t (.tail _ ht)) (f:=joinH f h) (de hf h0);simp only[Sj,aX,hp];unfold joinH at *;omega
theorem tV{hs:List ay}(hh:∀h∈hs,iH ts h):∀{f:ah},bG f->dJ ts.length (hs.foldl joinH1 f)+hs.length<=dJ ts.length f+dD ts.length hs:=by
 induction hs with
 |nil=>intro f _;simp[dD]
 |cons h hs ih=>
  intro f hf;have h0:=hh h (.head _);have h1:=gV (N:=ts.length) hf.all (a:=h.at'+1) h0.ok;have h2:=ih (fun t ht=>hh t (.tail _ ht)) (f:=joinH1 f h) (de hf h0.ok);have h3:=h0.next;simp only[Sj,aX,SB];unfold joinH1 at *;omega
theorem ze(N:Nat)(is:ay->Bool)(hs:List ay):dD N (hs.filter is)+dD N (hs.filter fun h=>!is h)=dD N hs:=by
 induction hs with
 |nil=>rfl
 |cons h hs ih=>
  cases e:is h<;>simp only[TU,e,Ud,T7,reduceIte,aX,Tp]<;>omega
theorem fZ(aa:bu ts)(fn:FN ts.length f)(is:ay->Bool):dD ts.length (aC ts f is).1+dJ ts.length (aC ts f is).2<=dJ ts.length f:=by
 rw[kR];have h1:=ze ts.length is (bk ts f);have h2:=mX (N:=ts.length) (hs:=(bk ts f).filter fun h=>!is h) (fun h hh=>(bz aa fn (List.mem_filter.1 hh).1).ok) bG.nil;have h3:=fw aa fn (N:=ts.length);rw[cQ]at h2;show dD ts.length ((bk ts f).filter is)+dJ ts.length (((bk ts f).filter fun h=>!is h).foldl joinH [])<=_;omega
theorem sM{hs:List ay}(hh:∀h∈hs,iH ts h):hs.length<=dD ts.length hs:=by
 induction hs with
 |nil=>exact R7 _
 |cons h hs ih=>
  have h1:=(hh h (.head _)).pos;have h2:=ih fun t ht=>hh t (.tail _ ht);rw[aX,SB];omega
theorem j6(h:ay)(k:Nat):(bR h k).length=2:=rfl
theorem gu(aa:bu ts)(fn:FN ts.length f)(s:bM):(take ts f s).2.length+3*dJ ts.length (take ts f s).1<=3*dJ ts.length f:=by
 have key:∀(hs:List ay) (z:ah×List bX),(∀h∈hs,iH ts h)->bG z.1->(hs.foldl (eV s) z).2.length+3*dJ ts.length (hs.foldl (eV s) z).1<=z.2.length+3*dJ ts.length z.1+3*dD ts.length hs:=by
  intro hs
  induction hs with
  |nil=>intro z _ _;simp[dD]
  |cons h hs ih=>
   intro z hh hz;have h0:=hh h (.head _);simp only[Sj,aX];have hk:=h0.next;have ac:=h0.pos;by_cases e:h.text=s
   ·have e2:eV s z h=(join z.1 (h.at'+1) h.cond,z.2):=by simp[eV,e]
    have h1:=gV (N:=ts.length) hz.all (a:=h.at'+1) h0.ok;have:=ih (eV s z h) (fun t ht=>hh t (.tail _ ht)) (by rw[e2];exact de hz h0.ok);rw[e2]at this |-;simp only at this;omega
   ·have e2:eV s z h=(z.1,z.2++bR h 10):=by simp[eV,e]
    have:=ih (eV s z h) (fun t ht=>hh t (.tail _ ht)) (by rw[e2];exact hz);rw[e2]at this |-;simp only[Tu,j6]at this;omega
 have:=key (bk ts f) ([],[]) (fun h hh=>bz aa fn hh) bG.nil;rw[pV];have h3:=fw aa fn (N:=ts.length);simp only[cQ,S9]at this;omega
def Sp(N w:Nat)(r:bE):Prop:=r.e.length+r.l.length+3*dJ N r.f<=w
theorem jV(ac:bu ts)(fn:FN ts.length f)(kind slot:Nat):(Sp ts.length (3*dJ ts.length f) (named ts f kind slot)/\(f≠[]->Sp ts.length (3*dJ ts.length f-1) (named ts f kind slot)))/\∀n∈(named ts f kind slot).l,n.kids=[]:=by
 have key:∀(hs:List ay) (z:bE),(∀h∈hs,iH ts h)->bG z.f->(∀n∈z.l,n.kids=[])->Sp ts.length (3*dD ts.length hs+3*dJ ts.length z.f+z.l.length+2*z.e.length-hs.length) ⟨(hs.foldl (bN kind slot) z).l,(hs.foldl (bN kind slot) z).f,(hs.foldl (bN kind slot) z).e++z.e⟩/\∀n∈(hs.foldl (bN kind slot) z).l,n.kids=[]:=by
  intro hs
  induction hs with
  |nil=>intro z _ _ h;refine⟨?_,h⟩;unfold Sp;simp[dD];omega
  |cons h hs ih=>
   intro z hh hz hn;have h0:=hh h (.head _);simp only[Sj,aX,SB];have aa:=sM (ts:=ts) (hs:=hs) fun t ht=>hh t (.tail _ ht);have hk:=h0.next;have am:=h0.pos;by_cases e:h.kind≠1\/dz h.text=true
   ·have e2:bN kind slot z h={ z with e:=z.e++bR h 10 }:=by unfold bN;rw[SI e]
    have:=ih (bN kind slot z h) (fun t ht=>hh t (.tail _ ht)) (by rw[e2];exact hz) (by rw[e2];exact hn);rw[e2]at this |-;refine⟨?_,this.2⟩;have h1:=this.1;unfold Sp at h1 |-;simp only[Tu,j6]at h1 |-;omega
   ·have e2:bN kind slot z h=⟨z.l++[⟨kind,h.text,h.at',slot,[],h.cond⟩],join z.f (h.at'+1) h.cond,z.e⟩:=by unfold bN;rw[Sb e]
    have hj:=gV (N:=ts.length) hz.all (a:=h.at'+1) h0.ok;have:=ih (bN kind slot z h) (fun t ht=>hh t (.tail _ ht)) (by rw[e2];exact de hz h0.ok) (by
     rw[e2];intro n hm;rcases List.mem_append.1 hm with hm|hm
     ·exact hn n hm
     ·simp at hm;subst hm;rfl)
    rw[e2]at this |-;refine⟨?_,this.2⟩;have h1:=this.1;unfold Sp at h1 |-;simp only[Tu,SB,S9]at h1 |-;omega
 have:=key (bk ts f) ⟨[],[],[]⟩ (fun h hh=>bz ac fn hh) bG.nil (fun n h=>(SW h).elim);rw[jn];have h3:=fw ac fn (N:=ts.length);have aa:=sM (ts:=ts) (hs:=bk ts f) fun h hh=>bz ac fn hh;have h1:=this.1;unfold Sp at h1 |-;simp only[cQ,S9,Tq]at h1;refine⟨⟨Vi,fun aj=>?_⟩,this.2⟩;have ak:=rC fn aj;cases hH:bk ts f with
 |nil=>rw[hH]at h1;simp only[mo,S9,List.foldl_nil,cQ]at h1 |-;omega
 |cons h hs=>rw[hH]at h1 h3 aa;simp only[SB]at h1 aa;omega
theorem pQ(aa:bu ts)(fn:FN ts.length f)(slot:Nat):Sp ts.length (3*dJ ts.length f) (typed ts f slot)/\∀n∈(typed ts f slot).l,n.kids=[]:=by
 have key:∀(hs:List ay) (z:bE),(∀h∈hs,iH ts h)->bG z.f->(∀n∈z.l,n.kids=[])->Sp ts.length (3*dD ts.length hs+3*dJ ts.length z.f+z.l.length+2*z.e.length) ⟨(hs.foldl (bL slot) z).l,(hs.foldl (bL slot) z).f,(hs.foldl (bL slot) z).e++z.e⟩/\∀n∈(hs.foldl (bL slot) z).l,n.kids=[]:=by
  intro hs
  induction hs with
  |nil=>intro z _ _ h;refine⟨?_,h⟩;unfold Sp;simp[dD];omega
  |cons h hs ih=>
   intro z hh hz hn;have h0:=hh h (.head _);simp only[Sj,aX];have hk:=h0.next;have ac:=h0.pos;by_cases e:h.text≠AI/\h.text≠sB
   ·have e2:bL slot z h={ z with e:=z.e++bR h 10 }:=by unfold bL;rw[SI e]
    have:=ih (bL slot z h) (fun t ht=>hh t (.tail _ ht)) (by rw[e2];exact hz) (by rw[e2];exact hn);rw[e2]at this |-;refine⟨?_,this.2⟩;have h1:=this.1;unfold Sp at h1 |-;simp only[Tu,j6]at h1 |-;omega
   ·have e2:bL slot z h=⟨z.l++[⟨5,h.text,h.at',slot,[],h.cond⟩],join z.f (h.at'+1) h.cond,z.e⟩:=by unfold bL;rw[Sb e]
    have hj:=gV (N:=ts.length) hz.all (a:=h.at'+1) h0.ok;have:=ih (bL slot z h) (fun t ht=>hh t (.tail _ ht)) (by rw[e2];exact de hz h0.ok) (by
     rw[e2];intro n hm;rcases List.mem_append.1 hm with hm|hm
     ·exact hn n hm
     ·simp at hm;subst hm;rfl)
    rw[e2]at this |-;refine⟨?_,this.2⟩;have h1:=this.1;unfold Sp at h1 |-;simp only[Tu,SB,S9]at h1 |-;omega
 have:=key (bk ts f) ⟨[],[],[]⟩ (fun h hh=>bz aa fn hh) bG.nil (fun n h=>(SW h).elim);rw[kJ];have h3:=fw aa fn (N:=ts.length);refine⟨?_,this.2⟩;have h1:=this.1;unfold Sp at h1 |-;simp only[cQ,S9,Tq]at h1;omega
theorem cY{l ks:List Nd}{K:Nat}(h:∀n∈l,n.kids.length<=K)(hk:K+ks.length<=aF):gv l ks=some (give l ks)/\(give l ks).length=l.length/\∀n∈give l ks,n.kids.length<=K+ks.length:=by
 refine⟨?_,by simp[give],?_⟩
 ·unfold gv;rw[SI];rw[SH];intro n hn;have:=h n hn;simp only[SX];omega
 ·intro n hn;obtain⟨m,hm,rfl⟩:=List.mem_map.1 hn;have:=h m hm;simp only[Tu];omega
theorem pJ{l:List Nd}(h:l.length<=aF):ck l=some ():=SI h
theorem vJ(l:List Nd)(d:T):(eF l d).length<=l.length:=List.length_filterMap_le ..
theorem sP(l:List Nd)(d:T):(cM l d).length<=l.length:=List.length_filterMap_le ..
theorem jW(l:List Nd)(d:T):(iA l d).length=l.length:=by cases l<;>rfl
end
open Dg
def KB(K:Nat)(l:List Nd):Prop:=∀n∈l,n.kids.length<=K
def og(ts:List Tok)(hs:List ay):Prop:=∀h∈hs,iH ts h/\h.at'<ts.length
section
variable (ts:List Tok)
def b8:Call->Nat
 | .line _ _ f _=>3*dJ ts.length f
 | .lineL _ _ _ _ l g out=>l.length+3*(dJ ts.length g+dJ ts.length out)
 | .lineO _ _ _ ops l g=>l.length+3*(dJ ts.length g+dD ts.length ops)
 | .unary _ f _=>3*dJ ts.length f
 | .unaryH _ h _=>3*hp ts.length h
 | .calls _ _ _ xs names g=>names.length+3*(dJ ts.length g+dD ts.length xs)
 | .inside _ f _=>3*dJ ts.length f
 | .listed _ _ f=>3*dJ ts.length f
 | .listL _ _ l g fin=>l.length+3*(dJ ts.length g+dJ ts.length fin)
 | .item _ _ f=>3*dJ ts.length f
 | .behind _ _ f _ _=>3*dJ ts.length f
 | .vrb _ f=>3*dJ ts.length f
 | .function _ f=>3*dJ ts.length f
 | .block _ f _=>3*dJ ts.length f
 | .seqL _ _ f l out=>l.length+3*(dJ ts.length f+dJ ts.length out)
 | .stmt _ h=>3*hp ts.length h
 | .sCalls _ _ xs l g=>l.length+3*(dJ ts.length g+dD ts.length xs)
 | .branch _ h _=>3*hp ts.length h
 | .elses _ xs l out=>l.length+3*(dJ ts.length out+dD ts.length xs)
 | .ifs _ ys l out=>l.length+3*(dJ ts.length out+dD ts.length ys)
def mu:Call->Nat
 | .line k _ f _=>64*dJ ts.length f+(31-2*k)
 | .lineL k _ _ _ _ g _=>64*dJ ts.length g+(30-2*k)
 | .lineO _ _ _ ops _ _=>64*dD ts.length ops
 | .unary _ f _=>64*dJ ts.length f+19
 | .unaryH _ h _=>64*hp ts.length h+18
 | .calls _ _ _ xs _ _=>64*dD ts.length xs+10
 | .inside _ f _=>64*dJ ts.length f+17
 | .listed _ _ f=>64*dJ ts.length f+9
 | .listL _ _ _ g _=>64*dJ ts.length g+40
 | .item _ _ f=>64*dJ ts.length f+39
 | .behind _ _ f _ _=>64*dJ ts.length f+38
 | .vrb _ f=>64*dJ ts.length f+41
 | .function _ f=>64*dJ ts.length f+41
 | .block _ f _=>64*dJ ts.length f+9
 | .seqL _ _ f _ _=>64*dJ ts.length f+50
 | .stmt _ h=>64*hp ts.length h+45
 | .sCalls _ _ xs _ _=>64*dD ts.length xs+10
 | .branch _ h _=>64*hp ts.length h+42
 | .elses _ xs _ _=>64*dD ts.length xs+43
 | .ifs _ ys _ _=>64*dD ts.length ys+43
def jx:Call->Prop
 | .line k _ f _=>FN ts.length f/\k<=5
 | .lineL k _ _ _ _ g out=>FN ts.length g/\FN ts.length out/\k<=4
 | .lineO k _ _ ops _ g=>og ts ops/\FN ts.length g/\k<=4
 | .unary _ f _=>FN ts.length f
 | .unaryH _ h _=>iH ts h
 | .calls _ _ _ xs _ g=>og ts xs/\FN ts.length g
 | .inside _ f _=>FN ts.length f
 | .listed _ _ f=>FN ts.length f
 | .listL _ _ _ g fin=>FN ts.length g/\FN ts.length fin
 | .item _ _ f=>FN ts.length f
 | .behind _ _ f sign _=>FN ts.length f/\sign≠[]
 | .vrb _ f=>FN ts.length f
 | .function _ f=>FN ts.length f
 | .block _ f _=>FN ts.length f
 | .seqL _ _ f _ out=>FN ts.length f/\FN ts.length out
 | .stmt _ h=>iH ts h
 | .sCalls _ _ xs _ g=>og ts xs/\FN ts.length g
 | .branch _ h _=>iH ts h/\h.at'<ts.length
 | .elses _ xs l out=>og ts xs/\FN ts.length out/\∀n∈l,n.kids.length+3*dD ts.length xs<=aF
 | .ifs _ ys l out=>og ts ys/\FN ts.length out/\∀n∈l,n.kids.length+3*dD ts.length ys<=aF
def Bs(b:Nat)(r:bE):Prop:=FN ts.length r.f/\r.e.length+r.l.length+3*dJ ts.length r.f<=b
def OB(f:ah)(r:bE):Prop:=Bs ts (3*dJ ts.length f) r/\(f≠[]->r.e.length+r.l.length+3*dJ ts.length r.f+1<=3*dJ ts.length f)
def Bh(h:ay)(r:bE):Prop:=FN ts.length r.f/\r.e.length+r.l.length+3*dJ ts.length r.f+1<=3*hp ts.length h
def jy:Call->bE->Prop
 | .lineO k o slot ops l g,r=>Bs ts (b8 ts (.lineO k o slot ops l g)) r/\dJ ts.length r.f+ops.length<=dJ ts.length g+dD ts.length ops
 | .unary _ f _,r=>OB ts f r
 | .unaryH _ h _,r=>Bh ts h r
 | .inside _ f _,r=>OB ts f r
 | .listed _ _ f,r=>OB ts f r
 | .block _ f _,r=>OB ts f r
 | .stmt _ h,r=>Bh ts h r
 | .branch _ h _,r=>Bh ts h r
 | .elses o xs l out,r=>Bs ts (b8 ts (.elses o xs l out)) r/\∀K,KB K l->KB (K+3*dD ts.length xs) r.l
 | .ifs o xs l out,r=>Bs ts (b8 ts (.ifs o xs l out)) r/\∀K,KB K l->KB (K+3*dD ts.length xs) r.l
 |c,r=>Bs ts (b8 ts c) r
def jb(rec:oR)(m:Nat):Prop:=∀c,jx ts c->b8 ts c<=aF->mu ts c<m->∃r,rec c=some r/\jy ts c r
end
section
variable {ts:List Tok} {rec:oR}
theorem og.tail{x:ay}{xs:List ay}(h:og ts (x::xs)):og ts xs:=fun y hy=>h y (.tail _ hy)
theorem og.head{x:ay}{xs:List ay}(h:og ts (x::xs)):iH ts x/\x.at'<ts.length:=h x (.head _)
theorem og.all{xs:List ay}(h:og ts xs):∀y∈xs,iH ts y:=fun y hy=>(h y hy).1
theorem iH.lt2{h:ay}(k:iH ts h){s:bM}(hs:s≠[])(e:h.text=s):h.at'<ts.length:=k.lt (.inl (by rw[e];exact hs))
theorem iu(aa:bu ts){f:ah}(fn:FN ts.length f){s:bM}(hs:s≠[]):og ts (aC ts f (bj s)).1:=fun h hh=>by
 obtain⟨h1,h2⟩:=dH aa fn h hh;exact⟨h1,mN hs h1 h2⟩
theorem oO(ac:bu ts){f:ah}(fn:FN ts.length f)(hb:3*dJ ts.length f<=aF){g:ay->Option bE}
  (hg:∀h∈bk ts f,∃x,g h=some x/\Bh ts h x):∃r,bY ts f g=some r/\OB ts f r:=by
 have key:∀(hs:List ay) (z:bE),(∀h∈hs,iH ts h/\∃x,g h=some x/\Bh ts h x)->FN ts.length z.f->z.e.length+z.l.length+3*(dJ ts.length z.f+dD ts.length hs)<=aF->
   ∃r,jr (fun r h=>match g h with
    |some x=>if (r.l++x.l).length<=aF then some ⟨r.l++x.l,joinAll r.f x.f,r.e++x.e⟩else none
    |none=>none) z hs=some r/\FN ts.length r.f/\r.e.length+r.l.length+3*dJ ts.length r.f+hs.length<=z.e.length+z.l.length+3*(dJ ts.length z.f+dD ts.length hs):=by
  intro hs
  induction hs with
  |nil=>intro z _ hz _;exact⟨z,rfl,hz,by simp[dD]⟩
  |cons h hs ih=>
   intro z hh hz hb;obtain⟨h0,x,ex,hx,ak⟩:=hh h (.head _);rw[aX]at hb;have hj:=dh (N:=ts.length) hx.ok.all hz.ok;have hl:(z.l++x.l).length<=aF:=by rw[Tu];omega
   obtain⟨r,er,hr,aa⟩:=ih ⟨z.l++x.l,joinAll z.f x.f,z.e++x.e⟩ (fun t ht=>hh t (.tail _ ht)) (hz.joinAll hx) (by simp only[Tu];omega);refine⟨r,?_,hr,?_⟩
   ·simp only[jr,ex,SI hl];exact er
   ·simp only[Tu]at aa;rw[aX,SB];omega
 have h3:=fw ac fn (N:=ts.length);obtain⟨r,er,hr,aa⟩:=key (bk ts f) ⟨[],[],[]⟩ (fun h hh=>⟨bz ac fn hh,hg h hh⟩) (FN.nil _) (by simp only[S9,cQ];omega);simp only[S9,cQ]at aa;refine⟨r,er,⟨hr,Vi⟩,fun aj=>?_⟩;have am:=rC fn aj;cases hH:bk ts f with
 |nil=>rw[hH]at aa;simp only[S9,mo]at aa;omega
 |cons h hs=>rw[hH]at aa h3;simp only[SB]at aa;omega
theorem Bh.fail{h:ay}(k:iH ts h)(code:Nat):Bh ts h ⟨[],[],bR h code⟩:=⟨FN.nil _,by
 have:=k.pos;simp only[j6,S9,cQ];omega⟩
theorem F5{m k o slot:Nat}{f:ah}(R:jb ts rec (mu ts (.line k o f slot)))(t:jx ts (.line k o f slot))(b:b8 ts (.line k o f slot)<=aF):∃r,line rec k o f slot=some r/\jy ts (.line k o f slot) r:=by
 obtain⟨fn,hk⟩:=t;simp only[b8]at b;by_cases h5:k=5
 ·obtain⟨a,ea,qa⟩:=R (.unary o f slot) fn b (by simp only[mu];omega);exact⟨a,by rw[line,SI h5,ea],qa.1⟩
 ·obtain⟨a,ea,qa⟩:=R (.line (k+1) o f slot) ⟨fn,Vi⟩ b (by simp only[mu];omega);have qa2:=qa.2;simp only[b8]at qa2;obtain⟨c,ec,qc⟩:=R (.lineL k o slot true a.l a.f []) ⟨qa.1,FN.nil _,Vi⟩ (by simp only[b8,cQ];omega) (by simp only[mu];omega);have qc2:=qc.2;simp only[b8,cQ]at qc2;refine⟨⟨c.l,c.f,a.e++c.e⟩,by rw[line,Sb h5,ea];simp only[T5,Sm,ec],qc.1,?_⟩;simp only[b8,Tu];omega
theorem DV(aa:bu ts){k o slot:Nat}{first:Bool}{l:List Nd}{g out:ah}(R:jb ts rec (mu ts (.lineL k o slot first l g out)))(t:jx ts (.lineL k o slot first l g out))(b:b8 ts (.lineL k o slot first l g out)<=aF):∃r,lineL ts rec k o slot first l g out=some r/\jy ts (.lineL k o slot first l g out) r:=by
 obtain⟨fg,fo,hk⟩:=t;simp only[b8]at b;by_cases h0:g=[]
 ·refine⟨⟨l,out,[]⟩,by rw[lineL,SI h0],fo,?_⟩;simp only[b8,S9];omega
 ·by_cases h2:k=2/\first=false
  ·have hj:=dh (N:=ts.length) fg.ok.all fo.ok;refine⟨⟨l,joinAll out g,[]⟩,by rw[lineL,Sb h0,SI h2],fo.joinAll fg,?_⟩;simp only[b8,S9];omega
  ·have hs:=fZ aa fg (isOp k);have ac:=rC fg h0;have ho:og ts (aC ts g (isOp k)).1:=fun h hh=>by
    obtain⟨h1,h3⟩:=dH aa fg h hh;refine⟨h1,h1.lt (.inr fun e=>?_)⟩;simp[isOp,e]at h3
   have hr:=cI aa fg (isOp k);have hj:=dh (N:=ts.length) hr.ok.all fo.ok;have aj:=sM ho.all;obtain⟨a,ea,qa,qa3⟩:=R (.lineO k o slot (aC ts g (isOp k)).1 l []) ⟨ho,FN.nil _,hk⟩ (by simp only[b8,cQ];omega) (by simp only[mu];omega);have qa2:=qa.2;simp only[b8,cQ]at qa2 qa3;have ak:dJ ts.length a.f<dJ ts.length g:=by
    cases hq:(aC ts g (isOp k)).1 with
    |nil=>rw[hq,mo]at qa3;omega
    |cons x xs=>rw[hq]at qa3 hs;simp only[SB]at qa3;omega
   obtain⟨c,ec,qc⟩:=R (.lineL k o slot false a.l a.f (joinAll out (aC ts g (isOp k)).2)) ⟨qa.1,fo.joinAll hr,hk⟩ (by simp only[b8];omega) (by simp only[mu];omega);have qc2:=qc.2;simp only[b8]at qc2;refine⟨⟨c.l,c.f,a.e++c.e⟩,by rw[lineL,Sb h0,Sb h2];simp only[T5,Sm,ea,ec],qc.1,?_⟩;simp only[b8,Tu];omega
theorem C3{k o slot:Nat}{ops:List ay}{l:List Nd}{g:ah}(R:jb ts rec (mu ts (.lineO k o slot ops l g)))(t:jx ts (.lineO k o slot ops l g))(b:b8 ts (.lineO k o slot ops l g)<=aF):∃r,lineO rec k o slot ops l g=some r/\jy ts (.lineO k o slot ops l g) r:=by
 obtain⟨ho,fg,hk⟩:=t;simp only[b8]at b;cases ops with
 |nil=>exact⟨⟨l,g,[]⟩,rfl,⟨fg,by simp only[b8,S9];omega⟩,by simp only[S9];omega⟩
 |cons h ops=>
  obtain⟨h0,aa⟩:=ho.head;have hn:=h0.next;rw[aX]at b;obtain⟨a,ea,qa⟩:=R (.line (k+1) o (bh h) 1) ⟨bm h0 aa,Vi⟩ (by simp only[b8,bi];omega) (by simp only[mu,bi,aX];omega);have qa2:=qa.2;simp only[b8,bi]at qa2;have h1:=vJ l h.cond;have h2:=sP l h.cond;have hj:=dh (N:=ts.length) qa.1.ok.all fg.ok;have c1:=pJ (l:=eF l h.cond++a.l) (by rw[Tu];omega);have c2:=pJ (l:=cM l h.cond++[⟨13,h.text,h.at',slot,eF l h.cond++a.l,h.cond⟩]) (by rw[Tu,S4];omega);obtain⟨c,ec,qc,qc3⟩:=R (.lineO k o slot ops (cM l h.cond++[⟨13,h.text,h.at',slot,eF l h.cond++a.l,h.cond⟩]) (joinAll g a.f)) ⟨ho.tail,fg.joinAll qa.1,hk⟩ (by simp only[b8,Tu,S4];omega) (by simp only[mu,aX];omega);have qc2:=qc.2;simp only[b8,Tu,S4]at qc2;refine⟨⟨c.l,c.f,a.e++c.e⟩,by simp only[lineO,T5,Sm,ea,c1,c2,ec],⟨qc.1,?_⟩,?_⟩
  ·simp only[b8,Tu,aX];omega
  ·simp only[aX,SB];omega
theorem DO(aa:bu ts){o slot:Nat}{f:ah}(R:jb ts rec (mu ts (.unary o f slot)))(t:jx ts (.unary o f slot))(b:b8 ts (.unary o f slot)<=aF):∃r,bY ts f (fun h=>rec (.unaryH o h slot))=some r/\jy ts (.unary o f slot) r:=by
 have fn:FN ts.length f:=t;simp only[b8]at b;have hh:=fw aa fn (N:=ts.length);refine oO aa fn b fun h hm=>?_;have ac:=lZ ts.length hm;exact R (.unaryH o h slot) (bz aa fn hm) (by simp only[b8];omega) (by simp only[mu];omega)
theorem AS(aa:bu ts){o slot:Nat}{h:ay}(R:jb ts rec (mu ts (.unaryH o h slot)))(t:jx ts (.unaryH o h slot))(b:b8 ts (.unaryH o h slot)<=aF):∃r,unaryH ts rec o h slot=some r/\jy ts (.unaryH o h slot) r:=by
 have h0:iH ts h:=t;have hn:=h0.next;simp only[b8]at b;unfold unaryH;split
 ·rename_i e;have ac:h.at'<ts.length:=e.elim (h0.lt2 Vm) (h0.lt2 Vm);split
  ·exact⟨_,rfl,Bh.fail h0 11⟩
  ·obtain⟨a,ea,qa⟩:=R (.unary (o+1) (bh h) 0) (bm h0 ac) (by simp only[b8,bi];omega) (by simp only[mu,bi];omega);have qa2:=qa.1.2;simp only[bi]at qa2;refine⟨⟨[⟨14,h.text,h.at',slot,a.l,h.cond⟩],a.f,a.e⟩,by simp only[T5,Sm,ea],qa.1.1,?_⟩;simp only[S4];omega
 ·split
  ·obtain⟨a,ea,qa⟩:=R (.inside o (bA h) slot) (gB h0) (by simp only[b8,eB];omega) (by simp only[mu,eB];omega);have q2:=qa.2 (by simp[bA]);rw[eB]at q2;exact⟨a,ea,qa.1.1,q2⟩
  ·have leaf:h.at'<ts.length->∀nd,∃r:bE,some (⟨[nd],bh h,[]⟩:bE)=some r/\jy ts (.unaryH o h slot) r:=fun ac nd=>⟨_,rfl,bm h0 ac,by simp only[S4,S9,bi];omega⟩;split
   ·rename_i e;exact leaf (h0.lt (.inr Vi)) _
   ·split
    ·rename_i e;exact leaf (e.elim (h0.lt2 Vm) (h0.lt2 Vm)) _
    ·split
     ·rename_i e;exact leaf (h0.lt2 Vm e) _
     ·have fh:=gB h0;obtain⟨⟨_,s1⟩,_⟩:=jV aa fh 18 slot;have s2:=s1 (by simp[bA]);unfold Sp at s2;rw[eB]at s2;have fa:=fL aa fh 18 slot;have aj:=fZ aa fa (bj hZ);have ak:=h0.pos;obtain⟨c,ec,qc⟩:=R (.calls o h slot (aC ts (named ts (bA h) 18 slot).f (bj hZ)).1 (named ts (bA h) 18 slot).l (aC ts (named ts (bA h) 18 slot).f (bj hZ)).2) ⟨iu aa fa Vm,cI aa fa _⟩ (by simp only[b8];omega) (by simp only[mu];omega);have qc2:=qc.2;simp only[b8]at qc2;refine⟨⟨c.l,c.f,(named ts (bA h) 18 slot).e++c.e⟩,by simp only[T5,Sm,ec],qc.1,?_⟩;simp only[Tu];omega
theorem CL{o slot:Nat}{h:ay}{xs:List ay}{names:List Nd}{g:ah}(R:jb ts rec (mu ts (.calls o h slot xs names g)))(t:jx ts (.calls o h slot xs names g))(b:b8 ts (.calls o h slot xs names g)<=aF):∃r,calls rec o h slot xs names g=some r/\jy ts (.calls o h slot xs names g) r:=by
 obtain⟨hx,fg⟩:=t;simp only[b8]at b;cases xs with
 |nil=>exact⟨⟨names,g,[]⟩,rfl,fg,by simp only[b8,S9];omega⟩
 |cons x xs=>
  obtain⟨h0,ac⟩:=hx.head;rw[aX]at b;obtain⟨a,ea,qa⟩:=R (.listed false o (bA x)) (gB h0) (by simp only[b8,eB];omega) (by simp only[mu,eB,aX];omega);have q2:=qa.2 (by simp[bA]);rw[eB]at q2;have hj:=dh (N:=ts.length) qa.1.1.ok.all fg.ok;have aa:=h0.pos;have c1:=pJ (l:=iA names x.cond++[⟨19,h.text,h.at',slot,a.l,x.cond⟩]) (by rw[Tu,S4,jW];omega);obtain⟨c,ec,qc⟩:=R (.calls o h slot xs (iA names x.cond++[⟨19,h.text,h.at',slot,a.l,x.cond⟩]) (joinAll g a.f)) ⟨hx.tail,fg.joinAll qa.1.1⟩ (by simp only[b8,Tu,S4,jW];omega) (by simp only[mu,aX];omega);have qc2:=qc.2;simp only[b8,Tu,S4,jW]at qc2;refine⟨⟨c.l,c.f,a.e++c.e⟩,by simp only[calls,T5,Sm,ea,c1,ec],qc.1,?_⟩;simp only[b8,Tu,aX];omega
theorem zT{o:Nat}{h:ay}{xs:List ay}{l:List Nd}{g:ah}(R:jb ts rec (mu ts (.sCalls o h xs l g)))(t:jx ts (.sCalls o h xs l g))(b:b8 ts (.sCalls o h xs l g)<=aF):∃r,sCalls rec o h xs l g=some r/\jy ts (.sCalls o h xs l g) r:=by
 obtain⟨hx,fg⟩:=t;simp only[b8]at b;cases xs with
 |nil=>exact⟨⟨l,g,[]⟩,rfl,fg,by simp only[b8,S9];omega⟩
 |cons x xs=>
  obtain⟨h0,ac⟩:=hx.head;rw[aX]at b;obtain⟨a,ea,qa⟩:=R (.listed false o (bA x)) (gB h0) (by simp only[b8,eB];omega) (by simp only[mu,eB,aX];omega);have q2:=qa.2 (by simp[bA]);rw[eB]at q2;have hj:=dh (N:=ts.length) qa.1.1.ok.all fg.ok;have aa:=h0.pos;have c1:=pJ (l:=l++[⟨19,h.text,h.at',0,a.l,x.cond⟩]) (by rw[Tu,S4];omega);obtain⟨c,ec,qc⟩:=R (.sCalls o h xs (iA (l++[⟨19,h.text,h.at',0,a.l,x.cond⟩]) x.cond) (joinAll g a.f)) ⟨hx.tail,fg.joinAll qa.1.1⟩ (by simp only[b8,Tu,S4,jW];omega) (by simp only[mu,aX];omega);have qc2:=qc.2;simp only[b8,Tu,S4,jW]at qc2;refine⟨⟨c.l,c.f,a.e++c.e⟩,by simp only[sCalls,T5,Sm,ea,c1,ec],qc.1,?_⟩;simp only[b8,Tu,aX];omega
theorem Ap(aa:bu ts){o slot:Nat}{f:ah}(R:jb ts rec (mu ts (.inside o f slot)))(t:jx ts (.inside o f slot))(b:b8 ts (.inside o f slot)<=aF):∃r,bY ts f (jE ts rec o slot)=some r/\jy ts (.inside o f slot) r:=by
 have fn:FN ts.length f:=t;simp only[b8]at b;have hh:=fw aa fn (N:=ts.length);refine oO aa fn b fun h hm=>?_;have aj:=lZ ts.length hm;have h0:=bz aa fn hm;have hn:=h0.next;unfold jE;split
 ·exact⟨_,rfl,Bh.fail h0 10⟩
 ·rename_i e;split
  ·exact⟨_,rfl,Bh.fail h0 11⟩
  ·have ac:=h0.lt2 (s:=hZ) Vm (by simpa using e);obtain⟨a,ea,qa⟩:=R (.line 0 (o+1) (bh h) slot) ⟨bm h0 ac,Vi⟩ (by simp only[b8,bi];omega) (by simp only[mu,bi];omega);have qa2:=qa.2;simp only[b8,bi]at qa2;have ht:=gu aa qa.1 iI;refine⟨⟨a.l,(take ts a.f iI).1,a.e++(take ts a.f iI).2⟩,by simp only[T5,Sm,ea],cN aa qa.1 Vm,?_⟩;simp only[Tu];omega
theorem AK(aa:bu ts){par:Bool}{o:Nat}{f:ah}(R:jb ts rec (mu ts (.listed par o f)))(t:jx ts (.listed par o f))(b:b8 ts (.listed par o f)<=aF):∃r,bY ts f (jH ts rec par o)=some r/\jy ts (.listed par o f) r:=by
 have fn:FN ts.length f:=t;simp only[b8]at b;have hh:=fw aa fn (N:=ts.length);refine oO aa fn b fun h hm=>?_;have aj:=lZ ts.length hm;have h0:=bz aa fn hm;have hn:=h0.next;unfold jH;split
 ·exact⟨_,rfl,Bh.fail h0 10⟩
 ·rename_i e;split
  ·exact⟨_,rfl,Bh.fail h0 11⟩
  ·have ac:=h0.lt2 (s:=hZ) Vm (by simpa using e);have fa:=bm h0 ac;have hs:=fZ aa fa (bj iI);rw[bi]at hs;have hy:=iu aa fa (s:=iI) Vm;have hj:=mX (N:=ts.length) (fun x hx=>(hy.all x hx).ok) bG.nil;rw[cQ]at hj;obtain⟨a,ea,qa⟩:=R (.listL par (o+1) [] (aC ts (bh h) (bj iI)).2 ((aC ts (bh h) (bj iI)).1.foldl joinH [])) ⟨cI aa fa _,jp hy.all (FN.nil _)⟩ (by simp only[b8,S9];omega) (by simp only[mu];omega);have qa2:=qa.2;simp only[b8,S9]at qa2;have ht:=gu aa qa.1 iI;refine⟨⟨a.l,(take ts a.f iI).1,a.e++(take ts a.f iI).2⟩,by simp only[T5,Sm,ea],cN aa qa.1 Vm,?_⟩;simp only[Tu];omega
theorem Eo(aa:bu ts){par:Bool}{o:Nat}{l:List Nd}{g fin:ah}(R:jb ts rec (mu ts (.listL par o l g fin)))(t:jx ts (.listL par o l g fin))(b:b8 ts (.listL par o l g fin)<=aF):∃r,listL ts rec par o l g fin=some r/\jy ts (.listL par o l g fin) r:=by
 obtain⟨fg,ff'⟩:=t;simp only[b8]at b;cases g with
 |nil=>exact⟨⟨l,fin,[]⟩,rfl,ff',by simp only[b8,S9];omega⟩
 |cons s g=>
  have fs:FN ts.length [s]:=⟨fg.ok.head,fun x hx=>by simp at hx;subst hx;exact fg.le _ (.head _)⟩;have fg2:FN ts.length g:=⟨fg.ok.tail,fun x hx=>fg.le x (.tail _ hx)⟩;have ac:=rC fs (by simp);have e1:dJ ts.length [s]=lp ts.length s.1 s.2:=by simp[dJ]
  rw[eG]at b;obtain⟨a,ea,qa⟩:=R (.item par o [s]) fs (by simp only[b8];omega) (by simp only[mu,eG,cQ];omega);have qa2:=qa.2;simp only[b8]at qa2;have hs:=fZ aa qa.1 (bj cd);have hy:=iu aa qa.1 (s:=cd) Vm;have hj:=tV hy.all fg2.ok;have hr:=cI aa qa.1 (bj cd);have ak:=dh (N:=ts.length) hr.ok.all ff'.ok;have c1:=pJ (l:=l++a.l) (by rw[Tu];omega);have aj:dJ ts.length ((aC ts a.f (bj cd)).1.foldl joinH1 g)<lp ts.length s.1 s.2+dJ ts.length g:=by
   cases hq:(aC ts a.f (bj cd)).1 with
   |nil=>simp only[List.foldl_nil];omega
   |cons x xs=>rw[hq]at hj hs;simp only[SB]at hj;omega
  obtain⟨c,ec,qc⟩:=R (.listL par o (l++a.l) ((aC ts a.f (bj cd)).1.foldl joinH1 g) (joinAll fin (aC ts a.f (bj cd)).2)) ⟨kg hy fg2,ff'.joinAll hr⟩ (by simp only[b8,Tu];omega) (by simp only[mu,eG];omega);have qc2:=qc.2;simp only[b8,Tu]at qc2;refine⟨⟨c.l,c.f,a.e++c.e⟩,by simp only[listL,T5,Sm,ea,c1,ec],qc.1,?_⟩;simp only[b8,Tu,eG];omega
theorem KB.zero{l:List Nd}(h:∀n∈l,n.kids=[]):KB 0 l:=fun n hn=>by rw[h n hn];exact R7 _
theorem G4(aa:bu ts){par:Bool}{o:Nat}{f:ah}(R:jb ts rec (mu ts (.item par o f)))(t:jx ts (.item par o f))(b:b8 ts (.item par o f)<=aF):∃r,item ts rec par o f=some r/\jy ts (.item par o f) r:=by
 have fn:FN ts.length f:=t;simp only[b8]at b;cases par with
 |false=>
  obtain⟨a,ea,qa⟩:=R (.line 0 o f 0) ⟨fn,Vi⟩ b (by simp only[mu];omega);exact⟨a,by unfold item;simp only[Tp,reduceIte,ea],qa⟩
 |true=>
  obtain⟨⟨s1,_⟩,k1⟩:=jV aa fn 4 0;unfold Sp at s1;have f1:=fL aa fn 4 0;have ht:=gu aa f1 bS;have f2:=cN aa f1 (s:=bS) Vm;obtain⟨s3,_⟩:=pQ aa f2 0;unfold Sp at s3;have f3:=oS aa f2 0;obtain⟨g1,g2,_⟩:=cY (KB.zero k1) (ks:=(typed ts (take ts (named ts f 4 0).f bS).1 0).l) Vi;refine⟨⟨give (named ts f 4 0).l (typed ts (take ts (named ts f 4 0).f bS).1 0).l,(typed ts (take ts (named ts f 4 0).f bS).1 0).f,(named ts f 4 0).e++(take ts (named ts f 4 0).f bS).2++(typed ts (take ts (named ts f 4 0).f bS).1 0).e⟩,by unfold item;simp only[reduceIte,T5,Sm,g1],f3,?_⟩;simp only[b8,Tu,g2];omega
theorem zO(aa:bu ts){typ:Bool}{o slot:Nat}{f:ah}{sign:bM}(R:jb ts rec (mu ts (.behind typ o f sign slot)))(t:jx ts (.behind typ o f sign slot))(b:b8 ts (.behind typ o f sign slot)<=aF):∃r,behind ts rec typ o f sign slot=some r/\jy ts (.behind typ o f sign slot) r:=by
 obtain⟨fn,ac⟩:=t;simp only[b8]at b;have hs:=fZ aa fn (bj sign);have hy:=iu aa fn ac;have hr:=cI aa fn (bj sign);have hj:=tV hy.all bG.nil;rw[cQ]at hj;have f1:=kg hy (FN.nil _);have key:∃a,rq ts rec typ o ((aC ts f (bj sign)).1.foldl joinH1 []) slot=some a/\Bs ts (3*dJ ts.length ((aC ts f (bj sign)).1.foldl joinH1 [])) a:=by
  cases typ with
  |true=>exact⟨_,rfl,oS aa f1 slot,(pQ aa f1 slot).1⟩
  |false=>exact R (.line 0 o ((aC ts f (bj sign)).1.foldl joinH1 []) slot) ⟨f1,Vi⟩ (by simp only[b8];omega) (by simp only[mu];omega)
 obtain⟨a,ea,qa1,qa2⟩:=key;have aj:=dh (N:=ts.length) qa1.ok.all hr.ok;refine⟨⟨a.l,joinAll (aC ts f (bj sign)).2 a.f,a.e⟩,by unfold behind;simp only[T5,Sm,ea],hr.joinAll qa1,?_⟩;simp only[b8];omega
theorem wV(aa:bu ts){o:Nat}{f:ah}(R:jb ts rec (mu ts (.vrb o f)))(t:jx ts (.vrb o f))(b:b8 ts (.vrb o f)<=aF):∃r,ig ts rec o f=some r/\jy ts (.vrb o f) r:=by
 have fn:FN ts.length f:=t;simp only[b8]at b;obtain⟨⟨s1,_⟩,k1⟩:=jV aa fn 2 0;unfold Sp at s1;have f1:=fL aa fn 2 0;have ht:=gu aa f1 bS;have f2:=cN aa f1 (s:=bS) Vm;obtain⟨s3,_⟩:=pQ aa f2 0;unfold Sp at s3;have f3:=oS aa f2 0;obtain⟨c,ec,qc⟩:=R (.behind false o (typed ts (take ts (named ts f 2 0).f bS).1 0).f zJ 1) ⟨f3,by decide⟩ (by simp only[b8];omega) (by simp only[mu];omega);have qc2:=qc.2;simp only[b8]at qc2;obtain⟨g1,g2,g3⟩:=cY (KB.zero k1) (ks:=(typed ts (take ts (named ts f 2 0).f bS).1 0).l) Vi;obtain⟨g4,g5,_⟩:=cY g3 (ks:=c.l) Vi;have ac:=gu aa qc.1 bl;refine⟨⟨give (give (named ts f 2 0).l (typed ts (take ts (named ts f 2 0).f bS).1 0).l) c.l,(take ts c.f bl).1,(named ts f 2 0).e++(take ts (named ts f 2 0).f bS).2++(typed ts (take ts (named ts f 2 0).f bS).1 0).e++c.e++(take ts c.f bl).2⟩,by unfold ig;simp only[T5,Sm,ec,g1,g4],cN aa qc.1 Vm,?_⟩;simp only[b8,Tu,g2,g5];omega
theorem xw(aa:bu ts){o:Nat}{f:ah}(R:jb ts rec (mu ts (.function o f)))(t:jx ts (.function o f))(b:b8 ts (.function o f)<=aF):∃r,function ts rec o f=some r/\jy ts (.function o f) r:=by
 have fn:FN ts.length f:=t;simp only[b8]at b;obtain⟨⟨s1,_⟩,k1⟩:=jV aa fn 3 0;unfold Sp at s1;have f1:=fL aa fn 3 0;obtain⟨c,ec,qc⟩:=R (.listed true o (named ts f 3 0).f) f1 (by simp only[b8];omega) (by simp only[mu];omega);have qc2:=qc.1.2;obtain⟨d,ed,qd⟩:=R (.behind true o c.f bS 1) ⟨qc.1.1,by decide⟩ (by simp only[b8];omega) (by simp only[mu];omega);have qd2:=qd.2;simp only[b8]at qd2;obtain⟨x,ex,qx⟩:=R (.block o d.f 2) qd.1 (by simp only[b8];omega) (by simp only[mu];omega);have qx2:=qx.1.2;obtain⟨g1,g2,g3⟩:=cY (KB.zero k1) (ks:=c.l) Vi;obtain⟨g4,g5,g6⟩:=cY g3 (ks:=d.l) Vi;obtain⟨g7,g8,_⟩:=cY g6 (ks:=x.l) Vi;refine⟨⟨give (give (give (named ts f 3 0).l c.l) d.l) x.l,x.f,(named ts f 3 0).e++c.e++d.e++x.e⟩,by unfold function;simp only[T5,Sm,ec,ed,ex,g1,g4,g7],qx.1.1,?_⟩;simp only[b8,Tu,g2,g5,g8];omega
theorem DM(aa:bu ts){o slot:Nat}{f:ah}(R:jb ts rec (mu ts (.block o f slot)))(t:jx ts (.block o f slot))(b:b8 ts (.block o f slot)<=aF):∃r,bY ts f (mw ts rec o slot)=some r/\jy ts (.block o f slot) r:=by
 have fn:FN ts.length f:=t;simp only[b8]at b;have hh:=fw aa fn (N:=ts.length);refine oO aa fn b fun h hm=>?_;have aj:=lZ ts.length hm;have h0:=bz aa fn hm;have hn:=h0.next;unfold mw;split
 ·exact⟨_,rfl,Bh.fail h0 10⟩
 ·rename_i e;split
  ·exact⟨_,rfl,Bh.fail h0 11⟩
  ·have ac:=h0.lt2 (s:=Ky) Vm (by simpa using e);obtain⟨a,ea,qa⟩:=R (.seqL false (o+1) (bh h) [] []) ⟨bm h0 ac,FN.nil _⟩ (by simp only[b8,S9,bi,cQ];omega) (by simp only[mu,bi];omega);have qa2:=qa.2;simp only[b8,S9,bi,cQ]at qa2;have ht:=gu aa qa.1 uo;refine⟨⟨[⟨6,[],h.at',slot,a.l,h.cond⟩],(take ts a.f uo).1,a.e++(take ts a.f uo).2⟩,by simp only[T5,Sm,ea],cN aa qa.1 Vm,?_⟩;simp only[Tu,S4];omega
end
end Syn
