import Derived.Test.YtfaclfkpnmcmlaaGreatDoorQ04
import Derived.Test.YtfaclfkpnmcmlaaGreatDoorQ06
set_option maxHeartbeats 8000000
set_option linter.all false
namespace Go.Proofs.YtfaclfkpnmcmlaaGreatDoor
open Go Go.Sx Dg Syn
section
variable {pb:Nat} {ts:List Tok} {lv fv ov:Value}
def qw(ts:List Tok)(par:Bool)(o:Nat)(a:Syn.bE)(m:Nat)(l:List Nd)(g fin:ah)(ee:List bX):Prop:=
 ∃b,Syn.run ts m (.listL par o l g fin)=some b/\b.l=a.l/\b.f=a.f/\ee++b.e=a.e
theorem pC{par:Bool}{o m:Nat}{a:Syn.bE}{l:List Nd}{fin:ah}{ee:List bX}(h:qw ts par o a m l [] fin ee):l=a.l/\fin=a.f/\ee=a.e:=by
 obtain⟨b,hb,h1,h2,h3⟩:=h;obtain⟨m',rfl,ac⟩:=bt hb;have aa:Syn.listL ts (Syn.run ts m') par o l [] fin=some b:=ac;unfold Syn.listL at aa;simp only at aa;cases aa
 exact⟨h1,h2,by simpa using h3⟩
theorem tN{par:Bool}{o m:Nat}{b:Syn.bE}{l:List Nd}{s:Nat×T}{g fin:ah}(hb:Syn.run ts m (.listL par o l (s::g) fin)=some b):∃m' c b',m=m'+2/\
  Syn.item ts (Syn.run ts m') par o [s]=some c/\(l++c.l).length<=aF/\Syn.run ts (m'+1) (.listL par o (l++c.l) ((aC ts c.f (bj cd)).1.foldl joinH1 g) (Syn.joinAll fin (aC ts c.f (bj cd)).2))=some b'/\b=⟨b'.l,b'.f,c.e++b'.e⟩:=by
 obtain⟨m',rfl,an⟩:=bt hb;have ac:Syn.listL ts (Syn.run ts m') par o l (s::g) fin=some b:=an;unfold Syn.listL at ac;simp only at ac;obtain⟨c,hc,am⟩:=bw ac;obtain⟨u,hu,aa⟩:=bw am;obtain⟨more,dn,aj⟩:∃yes g,aC ts c.f (bj cd)=(yes,g):=⟨_,_,rfl⟩;rw[aj]at aa;simp only at aa;obtain⟨b',ao,ak⟩:=bw aa;cases ak
 obtain⟨m'',rfl,hi⟩:=bt hc;refine⟨m'',c,b',rfl,hi,m0 hu,?_,rfl⟩;rw[aj];exact ao
theorem tG{par:Bool}{o m:Nat}{a:Syn.bE}{l:List Nd}{s:Nat×T}{g fin:ah}{ee:List bX}(h:qw ts par o a m l (s::g) fin ee):∃m' c,m=m'+2/\Syn.item ts (Syn.run ts m') par o [s]=some c/\(l++c.l).length<=aF/\
  qw ts par o a (m'+1) (l++c.l) ((aC ts c.f (bj cd)).1.foldl joinH1 g) (Syn.joinAll fin (aC ts c.f (bj cd)).2) (ee++c.e):=by
 obtain⟨b,hb,h1,h2,h3⟩:=h;obtain⟨m',c,b',rfl,hi,hl,aa,rfl⟩:=tN hb;exact⟨m',c,rfl,hi,hl,b',aa,h1,h2,by rw[Te];exact h3⟩
theorem uN:∀(n m:Nat),m<=n->∀{par:Bool} {o:Nat} {b:Syn.bE} {l:List Nd} {g fin:ah},Syn.run ts m (.listL par o l g fin)=some b->l.length<=b.l.length
 |0,m,hm,par,o,b,l,g,fin,h=>by
  obtain⟨m',rfl,_⟩:=bt h;omega
 |n+1,m,hm,par,o,b,l,g,fin,h=>by
  cases g with
  |nil=>
   have:=pC (ts:=ts) (a:=b) (ee:=[]) ⟨b,h,rfl,rfl,rfl⟩;rw[this.1];exact R7 _
  |cons s g=>
   obtain⟨m',c,b',rfl,_,_,aa,rfl⟩:=tN h;have:=uN n (m'+1) (by omega) aa;simp only[Tu]at this |-;omega
theorem qw.len{par:Bool}{o m:Nat}{a:Syn.bE}{l:List Nd}{g fin:ah}{ee:List bX}(h:qw ts par o a m l g fin ee):l.length<=a.l.length/\ee.length<=a.e.length:=by
 obtain⟨b,hb,h1,h2,h3⟩:=h;have:=uN m m (R7 _) hb;rw[<-h1,<-h3];exact⟨this,by simp⟩
theorem FB{n m o:Nat}{par:Bool}{g:ah}{a:Syn.bE}(ih:iE pb ts lv fv ov n)(hm:m<n)(ho:o<=64)(h:Syn.item ts (Syn.run ts m) par o g=some a):WF pb ts lv fv ov (if par then 207 else 83) o (fun vf=>#[pt pb,vf,iv 0]) g a/\aP Tryz.prog (if par then 207 else 83):=by
 cases par
 ·exact⟨n9 (ih m hm (.line 0 o g 0) _ h) ho,nU⟩
 ·exact⟨IM _ h,Ij⟩
def KP(pb:Nat)(rv va vb v14 vh:Value)(n i:Nat)(vh2:Value)(n2:Nat)(x:Nat×Value):St:=⟨dn 126 [(0,.v (pt pb)),(2,.v rv),(8,.v va),(9,.v vb),(12,.v x.2),(14,.v v14),(26,.v vh),(27,.v (iv n)),(28,.v (iv i)),(55,.v vh2),(56,.v (iv n2)),(57,.v (iv x.1))],[]⟩
theorem Sl.tail{α:Type}{R:PH->List Value->α->Prop}{size:Nat}(hR:∀{I} c a,R I c a->c.length=size){I:PH}{b off n c:Nat}{s:α}{l:List α}(h:Sl R I (.slice (some ⟨b,off,none⟩) n c) (s::l))(hc:n<=c):Sl R I (.slice (oz (some ⟨b,off,none⟩) size 1 c) (n-1) (c-1)) l:=by
 obtain⟨a,c',e,h⟩:=h;cases e
 simp only[SB]at hc;refine⟨oz (some ⟨b,off,none⟩) size 1 c,c-1,by simp,?_⟩;rcases h with h|⟨b',off',xs,e1,e2,e3⟩
 ·cases h
 ·cases e1
  rcases TI l.length with h0|h0
  ·exact .inl (List.length_eq_zero_iff.1 h0)
  ·obtain⟨cs,ys,rfl,h1,h2⟩:=e3;have aa:=hR cs s h1;refine .inr ⟨b,off+size,ys,?_,?_,h2⟩
   ·unfold oz;rw[Sb (by omega)];simp[eT]
   ·have:=e2.sub size ys.length (by simp;omega);rw[List.drop_left' aa,Td]at this;exact this
def KT(pb:Nat)(rv v8 vb v12 vdn vh:Value)(n i:Nat)(vh2:Value)(n2:Nat)(x:Nat×Value):St:=⟨dn 126 [(0,.v (pt pb)),(2,.v rv),(8,.v v8),(9,.v vb),(12,.v v12),(14,.v x.2),(21,.v vdn),(26,.v vh),(27,.v (iv n)),(28,.v (iv i)),(93,.v vh2),(94,.v (iv n2)),(95,.v (iv x.1))],[]⟩
def QW(Fr:List PH)(more:List ay)(g:ah)(I0:PH)(x:Nat×Value)(H:PH):Prop:=
 ∃I,H=U (I::Fr)/\Dj (I::Fr)/\I0.le I/\x.1<=more.length/\du I x.2 ((more.take x.1).foldl joinH1 g)/\zA x.2
structure Q8 where
 m:Nat
 v8:Value
 v12:Value
 v14:Value
 dv:Value
def Ku(pb:Nat)(rv vb vh:Value)(n i:Nat)(x:Q8):St:=⟨dn 126 [(0,.v (pt pb)),(2,.v rv),(8,.v x.v8),(9,.v vb),(12,.v x.v12),(14,.v x.v14),(26,.v vh),(27,.v (iv n)),(28,.v (iv i))],[]⟩
def Q4(pb:Nat)(ts:List Tok)(lv fv ov:Value)(par:Bool)(o M:Nat)(a ri:Syn.bE)(e:List bX)(B:PH)(I0:PH)(x:Q8)(H:PH):Prop:=
 ∃I D A C l g fin ee,H=U [I,sg pb (bD lv fv ov x.dv o),D,A,B,C]/\Dj [I,sg pb (bD lv fv ov x.dv o),D,A,B,C]/\I0.le I/\x.m<=M/\qw ts par o a x.m l g fin ee/\
  du I x.v14 g/\zA x.v14/\FN ts.length g/\gP I C x.v12 fin/\FN ts.length fin/\br I A x.v8 (ri.l++l)/\dl I D x.dv (e++(ri.e++ee))
def Mq(pb:Nat)(rv vh:Value)(n:Nat)(x:Nat×Value×Value×Value):St:=⟨dn 126 [(0,.v (pt pb)),(2,.v rv),(8,.v x.2.1),(9,.v x.2.2.1),(26,.v vh),(27,.v (iv n)),(28,.v (iv x.1))],[]⟩
theorem E5{n:Nat}{par:Bool}(ih:iE pb ts lv fv ov n){o:Nat}{f:ah}{r:Syn.bE}(hr:Syn.run ts n (.listed par o f)=some r):qS pb ts lv fv ov (.listed par o f) r:=by
 obtain⟨m,rfl,hs⟩:=bt hr;have j1:bY ts f (jH ts (Syn.run ts m) par o)=some r:=hs;rw[ru]at j1;clear hs hr;intro ho I D dv vf e h hf fn he hm hd;have hl:=h.len;refine Ot Tryz.func206 rfl fun w0=>?_;simp only[Tryz.ntmps206,iv,pt,dU];apply RG;simp only[go_sem];refine NB hd [0,1] rfl iS rfl (ps:=[sg pb _]) (F:=[D]) rfl (iN h hf fn) fun v I2 qs j5 e8 hq=>?_;obtain⟨rfl,hH⟩:=hq;obtain⟨ha,hc,rfl,_⟩:=id hH;simp only[SS,SU]at j5 |-;apply RG;simp only[go_sem,iv];have hN:∀x∈bk ts f,iH ts x:=fun x hx=>bz h.ok fn hx;have k2:=dZ h.ok fn;have kv:=hH;generalize bk ts f=a5 at *;refine aT j5 fun kp=>?_;refine aT kp fun kn=>?_;refine ab kn [2,3,0,1] rfl fun j2=>?_;simp only[Z4]at j2 |-;refine aB (fun x=>a5.length-x.1) (Mq pb (dU pb (if par then 207 else 83)) (.slice ha a5.length hc) a5.length) (Pd pb ts lv fv ov o a5 (jH ts (Syn.run ts m) par o) r e I2) (0,.slice none 0 0,.slice none 0 0,dv) (ae (by simp only[go_sem,Tq,iv,pt,dU])) (by simp only[go_sem,Tq,Mq]) ?_ ?_
 ·exact⟨I2,D,PH.no,PH.no,⟨[],[],[]⟩,rfl,j2,Uj _,S6 _,j1,by simpa using dl.le he e8,Ow.nil _ _ _ _,Ow.nil _ _ _ _,FN.nil _,S6 _⟩
 rintro⟨i,va,vb,dv⟩ H ⟨I3,D3,A3,B3,ri,rfl,hk,c5,ki,hU,hE,hA,hB,fA,i3⟩ dA;simp only at ki hU hE hA hB;simp only[Mq];have kt:m9 I3 (.slice ha a5.length hc) a5:=kv.le c5;rcases Sw i a5.length with hb|k3
 ·have hJ:decide ((i:Int)<(a5.length:Int))=true:=by simp;omega
  have e1:=wrap64 (n:=i+1) (by omega);have hL:IntKind.i64.wrap ((i:Int)+1)=((i+1:Nat):Int):=by rw[<-e1];congr 1
  obtain⟨x,hx⟩:∃x,a5[i]?=some x:=⟨_,SC hb⟩;have j9:=Tg hx;have g8:=hN x j9;obtain⟨b,off,cs,rfl,kq,hu⟩:=kt.load jA.len hx;obtain⟨xa,xk,rfl,em⟩:=kq;obtain⟨r',ka,d3⟩:=ls hx hU;have ep:=s7 d3;obtain⟨y,hy,g5,rfl⟩:=l7 ka;have h3:=h.le (Ui e8 c5);simp only[Tu]at ep g5;apply RG;simp only[go_sem,hJ,iv,pt,dU];refine⟨by omega,?_⟩;refine Qz (l:=[iv x.at',sD xa xk x.cond,rD x.cond,.int .u8 x.kind,.string ⟨⟨x.text⟩⟩]) (v:=.agg #[iv x.at',sD xa xk x.cond,rD x.cond,.int .u8 x.kind,.string ⟨⟨x.text⟩⟩]) rfl (cellsU hk (.head _) hu) (.inl ⟨eS,rfl⟩) ?_;unfold Syn.jH at hy;by_cases g6:x.text=hZ
  ·have jg:(x.text == [40])=true:=by rw[g6];decide
   rw[Sb (by simp[g6])]at hy;apply RG;simp only[go_sem,hJ,iv,pt,sD,rD,jg,Ud];by_cases e5:o=64
   ·rw[SI e5]at hy;cases hy
    subst e5;refine NB hk [0,1,2,3] rfl gz (by rfl) (ps:=[sg pb _,D3]) (F:=[A3,B3]) rfl (ke h3 g8.le em hE (by simp[bR]at ep |-;omega)) fun v I4 qs eq cr hq=>?_;obtain⟨dv2,D4,rs,rfl,ja,rfl,rfl⟩:=hq;simp only[SS,SU]at eq |-;apply RG;simp only[go_sem,iv,pt,sD,rD,hL,T7];exact dA (i+1,va,vb,dv2) _ _ (by simp only;omega) (ae (by simp only[go_sem,Tq,iv,pt,dU])) (by simp only[go_sem,Tq,Mq]) ⟨I4,D4,A3,B3,_,rfl,eq,Ui c5 cr,hb,d3,by simp only;rw[<-Te];exact ja,by simpa using hA.le cr,hB.le cr,fA,by simpa using i3⟩
   ·rw[Sb e5]at hy;obtain⟨yes,g,h1⟩:∃yes g,aC ts (bh x) (bj iI)=(yes,g):=⟨_,_,rfl⟩;rw[h1]at hy;simp only at hy;obtain⟨a,j7,h0⟩:=bw hy;obtain⟨gt,e2,ht⟩:∃g e1,Syn.take ts a.f iI=(g,e1):=⟨_,_,rfl⟩;rw[ht]at h0;simp only at h0;cases h0
    have g7:=g8.lt (.inl (by rw[g6];decide));have kx:=wrap64 (n:=x.at'+1) (by omega);have e2'':IntKind.i64.wrap ((x.at':Int)+1)=((x.at'+1:Nat):Int):=by rw[<-kx];congr 1
    refine NB hk [0,1,2,3] rfl gz (by rfl) (ps:=[sg pb _]) (F:=[D3,A3,B3]) rfl (iV (h:=x) (a:=xa) (k:=xk) (by omega)) fun v I4 qs eq cr hq=>?_;obtain⟨rfl,rfl,rfl⟩:=hq;simp only[SS,SU]at eq |-;apply RG;simp only[go_sem,iv,pt,dU,sD,rD,hL,e2'',Ud];refine yt mixed [0,1,2,3,4,5,6] 7 8 [9,10,11,12,13,14] [9,10,11,12,13,14] [] [] rfl rfl ?_;apply jR;simp only[go_sem,iv,pt,dU,sD,rD,e2''];simp only[Te,Tu]at ep hm g5;refine ry ?_ ?_
    ·refine aZ eq (by exact gY) rfl rfl rfl rfl rfl (by decide) fun nb I5 ie eo h2=>?_;apply af;simp only[go_sem,iv,pt,dU,sD,rD];refine Og ie [0,1,2,3] rfl (fun h=>by cases h) rfl gy (by rfl) (ps:=[]) (F:=[sg pb _,D3,A3,B3]) rfl (iz (s:=iI)) fun vi I6 qs hh en hq=>?_;obtain⟨rfl,hF⟩:=hq;simp only[SS,SU]at hh |-;obtain⟨fi,first,cap,rfl,gi,ci⟩:=id hF;apply af;simp only[go_sem,iv,pt,dU,sD,rD];have kk:I4.le I6:=Ui eo en;have jd:du I6 (.slice (some ⟨nb,0,none⟩) 1 1) (bh x):=⟨_,_,rfl,.inr ⟨nb,0,[iv (x.at'+1),sD xa xk x.cond,rD x.cond],rfl,(az h2 (by simp[aE,Value.cells]) (by simp[aE,Value.cells,iv,sD,rD])).le en,.one ⟨_,_,rfl,em.le kk⟩⟩⟩;have afn:=bm g8 g7;refine Og hh [0,1,2,3] rfl (fun h=>by cases h) rfl gX (by rfl) (ps:=[sg pb _]) (F:=[D3,A3,B3]) rfl (gT (h3.le kk) jd afn (Es.le hF (Uj _))) fun v I7 qs ec d1 hq=>?_;obtain⟨A6,B6,va6,vb6,rfl,rfl,ex,et⟩:=hq;have hY:=dH h.ok afn (is:=bj iI);have hw:=eR h.ok afn (bj iI);have fl:=cI h.ok afn (bj iI);rw[h1]at ex et hY hw fl;simp only at ex et hY hw fl;obtain⟨ya,yc,rfl⟩:=ex.shape;simp only[SS,SU]at ec |-;apply af;simp only[go_sem,iv,pt,dU,sD,rD];refine aw ?_;apply RG;simp only[go_sem,iv,pt,dU,sD,rD];refine ab ec [1,0,2,3,4,5] rfl fun eb=>?_;simp only[Z4]at eb |-;refine ag (c:=.st _) eb fun I8 fh ba gs=>?_;have i1:m9 I8 (.slice ya yes.length yc) yes:=ex.sl ba gs;refine ab fh [1,0,2,3,4] rfl fun ea=>?_;simp only[Z4]at ea |-;refine ag (c:=.st _) ea fun I9 fg a9 gj=>?_;have i9:du I9 vb6 g:=et.sl (Ui ba a9) gj;have i6:zA vb6:=et.cap fP.len;refine aT (c:=.st _) fg fun fc=>?_
     refine ab fc [1,0,2,3,4] rfl fun d9=>?_;simp only[Z4]at d9 |-;have hV:=Ui kk (Ui d1 (Ui ba a9));refine aB (fun x=>yes.length-x.1) (KP pb (dU pb (if par then 207 else 83)) va vb vb6 (.slice (some ⟨b,off,none⟩) a5.length hc) a5.length i (.slice ya yes.length yc) yes.length) (P3 pb lv fv ov dv (o+1) joinH [] yes [D3,A3,B3] I9) (0,.slice none 0 0) (ae (by simp only[go_sem,Tq,iv,pt,dU])) (by simp only[go_sem,Tq,KP]) ?_ ?_
     ·exact⟨I9,PH.no,rfl,d9,Uj _,S6 _,Ow.nil _ _ _ _⟩
     rintro⟨j,v12⟩ H ⟨hT,C10,rfl,c9,a1,hj,b0⟩ c4;simp only at hj b0;simp only[KP];have hv:∀y∈yes,iH ts y:=fun y hy=>(hY y hy).1;have ek:FN ts.length ((yes.take j).foldl joinH []):=jp (fun y hy=>hv y (TA hy)) (FN.nil _);have fz:=ek.len;rcases Sw j yes.length with hg|kc
     ·have ez:decide ((j:Int)<(yes.length:Int))=true:=by simp;omega
      have e3:=wrap64 (n:=j+1) (by omega);have g0:IntKind.i64.wrap ((j:Int)+1)=((j+1:Nat):Int):=by rw[<-e3];congr 1
      obtain⟨y,hy⟩:∃y,yes[j]?=some y:=⟨_,SC hg⟩;have eA:=hv y (Tg hy);have hX:=eA.le;obtain⟨b2,off2,cs2,rfl,da,ao⟩:=(m9.le i1 (Ui a9 a1)).load jA.len hy;obtain⟨ua,uk,rfl,a6⟩:=da;have a4:=cE (g:=joinH) (z:=[]) hy;obtain⟨ta,tc,rfl⟩:=b0.shape;apply RG;simp only[go_sem,ez,iv,pt,dU];refine⟨by omega,?_⟩;refine Qz (l:=[iv y.at',sD ua uk y.cond,rD y.cond,.int .u8 y.kind,.string ⟨⟨y.text⟩⟩]) (v:=.agg #[iv y.at',sD ua uk y.cond,rD y.cond,.int .u8 y.kind,.string ⟨⟨y.text⟩⟩]) rfl (cellsU c9 (.head _) ao) (.inl ⟨eS,rfl⟩) ?_;apply RG;simp only[go_sem,ez,iv,pt,dU,sD,rD];refine NB c9 [1,0,2,3,4] rfl df (by rfl) (ps:=[C10]) (F:=[sg pb _,D3,A3,B3]) rfl (bo (a:=y.at') b0 a6 ek.ok.2 (fun t ht=>by have:=ek.le t ht;omega) (by omega) (by omega)) fun v g4 qs bx d0 hq=>?_;obtain⟨C11,rfl,ds⟩:=hq;obtain⟨ta2,tc2,rfl⟩:=ds.shape;simp only[SS,SU]at bx |-;apply RG;simp only[go_sem,iv,pt,dU,sD,rD,g0];refine ab bx [1,0,2,3,4] rfl fun a3=>?_;simp only[Z4]at a3 |-;rw[show Syn.join ((yes.take j).foldl joinH []) y.at' y.cond=(yes.take (j+1)).foldl joinH [] from a4.symm]at ds |-;exact c4 (j+1,.slice ta2 _ tc2) _ _ (by simp only;omega) (ae (by simp only[go_sem,Tq,iv,pt,dU])) (by simp only[go_sem,Tq,KP]) ⟨g4,C11,rfl,a3,Ui a1 d0,hg,ds⟩
     ·have e9:j=yes.length:=by omega
      subst e9;have ez:=Z6 yes.length;rw[Td]at b0 ek fz;apply RG;simp only[go_sem,ez,iv,pt,dU];refine ab c9 [0,2,3,4,1] rfl fun bx=>?_;simp only[Z4]at bx |-;have k410:=Ui hV a1;have i5:qw ts par (o+1) a m [] g (yes.foldl joinH []) []:=⟨a,j7,rfl,rfl,rfl⟩;refine aB (fun x=>x.m) (Ku pb (dU pb (if par then 207 else 83)) vb (.slice (some ⟨b,off,none⟩) a5.length hc) a5.length i) (Q4 pb ts lv fv ov par (o+1) m a ri e B3 hT) ⟨m,va,v12,vb6,dv⟩ (ae (by simp only[go_sem,Tq,iv,pt,dU])) (by simp only[go_sem,Tq,Ku]) ?_ ?_
      ·exact⟨hT,D3,A3,C10,[],g,_,[],rfl,bx,Uj _,R7 _,i5,du.le i9 a1,i6,fl,b0,ek,by simpa using hA.le k410,by simpa using hE.le k410⟩
      rintro⟨mm,v8,v12,v14,dv⟩ H ⟨g4,D11,A11,C11,l,gg,fin,ee,rfl,a3,cA,h4,er,hG,eg,cj,hC,a2,dy,dj⟩ c3;simp only at h4 er hG eg hC dy dj;simp only[Ku];have k411:=Ui k410 cA;obtain⟨ga,gc,rfl,kl⟩:=id hG;have h5:=er.len;obtain e6|⟨s,gg',cB⟩:gg=[]\/∃s t,gg=s::t:=by
       cases gg with
       |nil=>exact .inl rfl
       |cons s t=>exact .inr ⟨s,t,rfl⟩
      ·subst e6;obtain⟨rfl,rfl,rfl⟩:=pC er;apply RG;simp only[go_sem,iv,pt,dU,S9,TJ,gt_iff_lt,Int.lt_irrefl,decide_false];refine ab a3 [4,0,1,2,3] rfl fun cb=>?_;simp only[Z4]at cb |-;refine ag cb fun g3 b6 aa f3=>?_;have fr:du g3 v12 a.f:=hC.sl aa f3;refine NB b6 [0,1,2,3] rfl fQ (by rfl) (ps:=[sg pb _,D11]) (F:=[A11,B3]) rfl (ii (s:=iI) (h3.le (Ui k411 aa)) fr a2 (by decide) (dj.le aa) (by rw[ht];simp only[Tu];omega)) fun v j0 qs bs dT hq=>?_;obtain⟨dv10,D10,rs,rfl,dk,B10,rfl,dx⟩:=hq;rw[ht]at dk dx;have tf:=cN h.ok a2 (s:=iI) (by decide);rw[ht]at tf;simp only at dk dx tf;simp only[SS,SU]at bs |-;apply RG;simp only[go_sem,iv,pt,dU,sD,rD];refine ab bs [2,0,1,3,4] rfl fun b5=>?_;simp only[Z4]at b5 |-;refine ag b5 fun g2 b4 a7 gf=>?_;have dc:du g2 v gt:=dx.sl a7 gf;have k1114:=Ui aa (Ui dT a7);have k414:=Ui k411 k1114;refine NB b4 [3,0,1,2] rfl dp (by rfl) (ps:=[B3]) (F:=[sg pb _,D10,A11]) rfl (b7 (N:=ts.length) (by omega) (hB.le k414) fA dc tf) fun v hS qs bd ak hq=>?_;obtain⟨B14,rfl,c1⟩:=hq;simp only[SS,SU]at bd |-;apply RG;simp only[go_sem,iv,pt,dU,sD,rD];refine Qz (l:=[.int .i64 ((o+1:Nat):Int)]) rfl (cellsU bd (.tail _ (.tail _ (.head _))) (aU (by simp[bD]) rfl)) (.inr ⟨mF,rfl⟩) ?_;apply RG;simp only[go_sem,iv,pt,dU,sD,rD,iq o ho];refine ab bd [1,2,3,0] rfl fun bc=>?_;simp only[Z4]at bc |-;refine cG bc rfl rfl rfl rfl rfl (by exact Gn) (by simp) fun c8=>?_;apply RG;simp only[go_sem,iv,pt,dU,sD,rD,hL];obtain⟨ta,tc,rfl⟩:=c1.shape
       exact dA (i+1,v8,.slice ta (Syn.joinAll ri.f gt).length tc,dv10) _ _ (by simp only;omega) (ae (by simp only[go_sem,Tq,iv,pt,dU])) (by simp only[go_sem,Tq,Mq]) ⟨hS,D10,A11,B14,_,rfl,c8,Ui c5 (Ui k414 ak),hb,d3,by simpa[Te]using dk.le (Ui a7 ak),dy.le (Ui k1114 ak),c1,fA.joinAll tf,by simp only[Tu];unfold aF;unfold aF at g5;omega⟩
      ·have ed:=er;rw[cB]at ed;obtain⟨m2,cc,rfl,i0,kr,cf⟩:=tG ed;have cp:=cf.len;have kj:gg.length=gg'.length+1:=by rw[cB];rfl
       have fj:gg.length<=gc:=eg;have jf:decide ((gg.length:Int)>0)=true:=by simp;omega
       have ia:gg[0]?=some s:=by rw[cB];rfl
       obtain⟨gb,goff,gcs,rfl,fa,c6⟩:=hG.load fP.len ia;obtain⟨za,zk,rfl,dI⟩:=fa.shape;apply RG;simp only[go_sem,iv,pt,dU,jf];refine⟨by omega,?_⟩;refine Qz (l:=[iv s.1,.slice za (T.subs s.2).length zk,iv (T.plc (T.subs s.2) s.2)]) (v:=.agg #[iv s.1,.slice za (T.subs s.2).length zk,iv (T.plc (T.subs s.2) s.2)]) rfl (by simpa using cellsU a3 (.head _) c6) (.inl ⟨oN,rfl⟩) ?_;apply RG;simp only[go_sem,iv,pt,dU];refine av a3 (by exact gY) rfl rfl rfl rfl rfl (by decide) fun nb3 g3 cb am e7=>?_;apply RG;simp only[go_sem,iv,pt,dU];refine⟨by omega,?_⟩;have dc:du g4 (.slice (oz (some ⟨gb,goff,none⟩) 3 1 gc) (gg.length-1) (gc-1)) gg':=Sl.tail (R:=fP) (fun{I} c a h=>fP.len c a h) (by rw[<-cB];exact hG) fj;have e0:du g3 (.slice (some ⟨nb3,0,none⟩) 1 1) [s]:=⟨_,_,rfl,.inr ⟨nb3,0,[iv s.1,.slice za (T.subs s.2).length zk,iv (T.plc (T.subs s.2) s.2)],rfl,az e7 (by simp[aE,Value.cells]) (by simp[aE,Value.cells,iv]),.one ⟨_,_,rfl,dI.le am⟩⟩⟩;have fns:FN ts.length [s]:=⟨bG.head (by rw[<-cB];exact cj.ok),fun t ht=>by simp at ht;subst ht;exact cj.le t (by rw[cB];exact .head _)⟩;have fng:FN ts.length gg':=⟨bG.tail (by rw[<-cB];exact cj.ok),fun t ht=>cj.le t (by rw[cB];exact .tail _ ht)⟩;obtain⟨h9,ic⟩:=FB ih (by omega) (by omega) i0;refine NB cb [0,1,2,3,4] rfl ic (by rfl) (ps:=[sg pb _,D11]) (F:=[A11,B3,C11]) rfl (h9 (h3.le (Ui k411 am)) e0 fns (dj.le am) (by simp only[Tu]at cp |-;omega)) fun v j0 qs b6 aa hq=>?_;obtain⟨dv13,D13,rs,rfl,f0,⟨A13,B13,va13,vb13,rfl,rfl,gr,gk⟩,cm,i4⟩:=hq;simp only[SS,SU]at b6 |-;apply RG;simp only[go_sem,iv,pt,dU]
       refine ab b6 [2,0,1,3,4,5,6] rfl fun bs=>?_;simp only[Z4]at bs |-;refine ag bs fun g2 b5 a0 gn=>?_;have fk:db g2 va13 cc.l:=gr.sl a0 gn;refine ab b5 [3,0,1,2,4,5] rfl fun b4=>?_;simp only[Z4]at b4 |-;have k1214:=Ui am (Ui aa a0);have h6:=cp.1;simp only[Tu]at h6;unfold aF at g5;refine aY b4 (by exact cT) (dy.le k1214) fk (fun{I J c a} h k=>aW.le h k) (fun{I} c a h=>aW.len c a h) (fun{I} c a h=>aW.ones h) rfl rfl rfl rfl (by simp only[Tu];omega) (by simp only[Tu];unfold maxLen;omega) fun na nc hS A15 bd ak gq=>?_;apply RG;simp only[go_sem,iv,pt,dU];refine ab bd [3,0,1,2,4,5] rfl fun bc=>?_;simp only[Z4]at bc |-;refine ag bc fun jo c8 cy f7=>?_;have k1416:=Ui a0 (Ui ak cy);have fo:du jo vb13 cc.f:=gk.sl k1416 f7;refine NB c8 [0,1,2,3,4] rfl gy (by rfl) (ps:=[]) (F:=[A15,sg pb _,D13,B3,C11]) rfl (iz (s:=cd)) fun v2 k1 qs d7 aS hq=>?_;obtain⟨rfl,ef⟩:=hq;simp only[SS,SU]at d7 |-;obtain⟨fi2,first2,cap2,rfl,gi2,ci2⟩:=id ef;apply RG;simp only[go_sem,iv,pt,dU];have k417:=Ui k411 (Ui am (Ui aa (Ui k1416 aS)));refine NB d7 [1,0,2,3,4] rfl gX (by rfl) (ps:=[sg pb _]) (F:=[A15,D13,B3,C11]) rfl (gT (h3.le k417) (fo.le aS) cm ef) fun v k0 qs d6 cx hq=>?_;obtain⟨A17,B17,va17,vb17,rfl,rfl,cn,dw⟩:=hq;have hM:=dH h.ok cm (is:=bj cd);have hD:=eR h.ok cm (bj cd);have es:=cI h.ok cm (bj cd);obtain⟨more,dne,eH⟩:∃yes g,aC ts cc.f (bj cd)=(yes,g):=⟨_,_,rfl⟩;rw[eH]at cn dw hM hD es cf;simp only at cn dw hM hD es cf;obtain⟨ma,mc,rfl⟩:=cn.shape
       simp only[SS,SU]at d6 |-;apply RG;simp only[go_sem,iv,pt,dU];refine ab d6 [1,0,2,3,4,5,6] rfl fun d5=>?_;simp only[Z4]at d5 |-;refine ag (c:=.st _) d5 fun g1 fb ap gl=>?_;have i2:m9 g1 (.slice ma more.length mc) more:=cn.sl ap gl;have k1219:=Ui am (Ui aa (Ui k1416 (Ui aS (Ui cx ap))));refine aB (fun x=>more.length-x.1) (KT pb (dU pb (if par then 207 else 83)) (.slice na (ri.l++l++cc.l).length nc) vb v12 vb17 (.slice (some ⟨b,off,none⟩) a5.length hc) a5.length i (.slice ma more.length mc) more.length) (QW [sg pb (bD lv fv ov dv13 (o+1)),B17,A15,D13,B3,C11] more gg' g1) (0,.slice (oz (some ⟨gb,goff,none⟩) 3 1 gc) (gg.length-1) (gc-1)) (ae (by simp only[go_sem,Tq,iv,pt,dU])) (by simp only[go_sem,Tq,KT]) ?_ ?_
       ·exact⟨g1,rfl,fb,Uj _,S6 _,dc.le k1219,show gg.length-1<=gc-1 by omega⟩
       rintro⟨j,v14⟩ H ⟨kO,rfl,c7,an,h8,cl,c0⟩ c2;simp only at h8 cl c0;simp only[KT];have hz:∀y∈more,iH ts y/\y.at'<ts.length:=fun y hy=>⟨(hM y hy).1,mN (by decide) (hM y hy).1 (hM y hy).2⟩;have ei:FN ts.length ((more.take j).foldl joinH1 gg'):=kg (fun y hy=>hz y (TA hy)) fng;have fs:=ei.len;rcases Sw j more.length with d2|h7
       ·have ey:decide ((j:Int)<(more.length:Int))=true:=by simp;omega
        have e3:=wrap64 (n:=j+1) (by omega);have g0:IntKind.i64.wrap ((j:Int)+1)=((j+1:Nat):Int):=by rw[<-e3];congr 1
        obtain⟨y,hy⟩:∃y,more[j]?=some y:=⟨_,SC d2⟩;have eA:=hz y (Tg hy);have hW:=eA.2;have e4:=wrap64 (n:=y.at'+1) (by omega);have hK:IntKind.i64.wrap ((y.at':Int)+1)=((y.at'+1:Nat):Int):=by rw[<-e4];congr 1
        obtain⟨b2,off2,cs2,rfl,da,ao⟩:=(m9.le i2 an).load jA.len hy;obtain⟨ua,uk,rfl,a6⟩:=da;have a4:=cE (g:=joinH1) (z:=gg') hy;apply RG;simp only[go_sem,ey,iv,pt,dU];refine⟨by omega,?_⟩;refine Qz (l:=[iv y.at',sD ua uk y.cond,rD y.cond,.int .u8 y.kind,.string ⟨⟨y.text⟩⟩]) (v:=.agg #[iv y.at',sD ua uk y.cond,rD y.cond,.int .u8 y.kind,.string ⟨⟨y.text⟩⟩]) rfl (cellsU c7 (.head _) ao) (.inl ⟨eS,rfl⟩) ?_;apply RG;simp only[go_sem,ey,iv,pt,dU,sD,rD];refine ax mixed [0,2,3,4,5,6,1,7,8] [] [] rfl rfl ?_;apply af;simp only[go_sem,iv,pt,dU,sD,rD,hK];refine Og c7 [0,1,2,3,4,5] rfl (fun h=>by cases h) rfl BA (by rfl) (ps:=[]) (F:=[sg pb _,B17,A15,D13,B3,C11]) rfl (BU cl (by omega)) fun v hR qs bb ct hq=>?_;obtain⟨E21,rfl,el⟩:=hq;obtain⟨ca,ck,rfl⟩:=el.shape;simp only[SS,SU]at bb |-;apply af;simp only[go_sem,iv,pt,dU,sD,rD,hK];refine Og bb [0,1,2,3,4,5,6] rfl (fun h=>by cases h) rfl df (by rfl) (ps:=[E21]) (F:=[sg pb _,B17,A15,D13,B3,C11]) rfl (bo (a:=y.at'+1) el (a6.le ct) ei.ok.2 (fun t ht=>by have:=ei.le t ht;omega) (by omega) (by omega)) fun v hP qs b3 aj hq=>?_;obtain⟨E22,rfl,dd⟩:=hq;have hn:=dd.cap fP.len;simp only[SS,SU]at b3 |-;apply af;simp only[go_sem,iv,pt,dU,sD,rD];refine aw ?_;refine ag (c:=.st _) b3 fun hO b1 ac fC=>?_;have eh:du hO v _:=dd.sl ac fC;obtain⟨wa,wc,rfl⟩:=dd.shape;apply RG;simp only[go_sem,iv,pt,dU,sD,rD,g0];rw[show Syn.join ((more.take j).foldl joinH1 gg') (y.at'+1) y.cond=(more.take (j+1)).foldl joinH1 gg' from a4.symm]at eh hn |-
        exact c2 (j+1,.slice wa _ wc) _ _ (by simp only;omega) (ae (by simp only[go_sem,Tq,iv,pt,dU])) (by simp only[go_sem,Tq,KT]) ⟨hO,rfl,b1,Ui an (Ui ct (Ui aj ac)),d2,eh,hn⟩
       ·have e9:j=more.length:=by omega
        subst e9;have ey:=Z6 more.length;rw[Td]at cl ei fs;apply RG;simp only[go_sem,ey,iv,pt,dU];refine ab c7 [1,0,2,3,4,5] rfl fun bb=>?_;simp only[Z4]at bb |-;refine ag bb fun hR b3 aj f5=>?_;have f1:du hR vb17 dne:=dw.sl (Ui ap (Ui an aj)) f5;have k1221:=Ui k1219 (Ui an aj);refine NB b3 [4,0,1,2,3] rfl dp (by rfl) (ps:=[C11]) (F:=[sg pb _,A15,D13,B3]) rfl (b7 (N:=ts.length) (by omega) (hC.le k1221) a2 f1 es) fun v hP qs b1 ac hq=>?_;obtain⟨C22,rfl,f2⟩:=hq;simp only[SS,SU]at b1 |-;apply RG;simp only[go_sem,iv,pt,dU];refine ab b1 [1,3,2,4,0] rfl fun d4=>?_;simp only[Z4]at d4 |-;have k1522:=Ui cy (Ui aS (Ui cx (Ui ap (Ui an (Ui aj ac)))));refine c3 ⟨m2+1,.slice na (ri.l++l++cc.l).length nc,v,v14,dv13⟩ _ _ (by simp only;omega) (ae (by simp only[go_sem,Tq,iv,pt,dU])) (by simp only[go_sem,Tq,Ku]) ⟨hP,D13,A15,C22,_,_,_,_,rfl,d4,Ui cA (Ui k1221 ac),by simp only;omega,cf,cl.le (Ui aj ac),c0,ei,f2,a2.joinAll es,by rw[<-Te];exact br.le gq k1522,?_⟩;have:=f0.le (Ui a0 (Ui ak k1522));simpa[Te]using this
    ·refine Og eq [0,1,2,3] rfl (fun h=>by cases h) rfl gy (by rfl) (ps:=[]) (F:=[sg pb _,D3,A3,B3]) rfl (iz (s:=iI)) fun vi I6 qs hh en hq=>?_;obtain⟨rfl,hF⟩:=hq;simp only[SS,SU]at hh |-;obtain⟨fi,first,cap,rfl,gi,ci⟩:=id hF;apply af;simp only[go_sem,iv,pt,dU,sD,rD];refine aZ hh (by exact gY) rfl rfl rfl rfl rfl (by decide) fun nb I5 ie eo h2=>?_;apply af;simp only[go_sem,iv,pt,dU,sD,rD];have kk:I4.le I5:=Ui en eo;have jd:du I5 (.slice (some ⟨nb,0,none⟩) 1 1) (bh x):=⟨_,_,rfl,.inr ⟨nb,0,[iv (x.at'+1),sD xa xk x.cond,rD x.cond],rfl,(az h2 (by simp[aE,Value.cells]) (by simp[aE,Value.cells,iv,sD,rD])).le (Uj _),.one ⟨_,_,rfl,em.le kk⟩⟩⟩;have afn:=bm g8 g7;refine Og ie [0,1,2,3] rfl (fun h=>by cases h) rfl gX (by rfl) (ps:=[sg pb _]) (F:=[D3,A3,B3]) rfl (gT (h3.le kk) jd afn (Es.le hF eo)) fun v I7 qs ec d1 hq=>?_;obtain⟨A6,B6,va6,vb6,rfl,rfl,ex,et⟩:=hq;have hY:=dH h.ok afn (is:=bj iI);have hw:=eR h.ok afn (bj iI);have fl:=cI h.ok afn (bj iI);rw[h1]at ex et hY hw fl;simp only at ex et hY hw fl;obtain⟨ya,yc,rfl⟩:=ex.shape;simp only[SS,SU]at ec |-;apply af;simp only[go_sem,iv,pt,dU,sD,rD];refine aw ?_;apply RG;simp only[go_sem,iv,pt,dU,sD,rD];refine ab ec [1,0,2,3,4,5] rfl fun eb=>?_;simp only[Z4]at eb |-;refine ag (c:=.st _) eb fun I8 fh ba gs=>?_;have i1:m9 I8 (.slice ya yes.length yc) yes:=ex.sl ba gs;refine ab fh [1,0,2,3,4] rfl fun ea=>?_;simp only[Z4]at ea |-;refine ag (c:=.st _) ea fun I9 fg a9 gj=>?_;have i9:du I9 vb6 g:=et.sl (Ui ba a9) gj;have i6:zA vb6:=et.cap fP.len;refine aT (c:=.st _) fg fun fc=>?_
     refine ab fc [1,0,2,3,4] rfl fun d9=>?_;simp only[Z4]at d9 |-;have hV:=Ui kk (Ui d1 (Ui ba a9));refine aB (fun x=>yes.length-x.1) (KP pb (dU pb (if par then 207 else 83)) va vb vb6 (.slice (some ⟨b,off,none⟩) a5.length hc) a5.length i (.slice ya yes.length yc) yes.length) (P3 pb lv fv ov dv (o+1) joinH [] yes [D3,A3,B3] I9) (0,.slice none 0 0) (ae (by simp only[go_sem,Tq,iv,pt,dU])) (by simp only[go_sem,Tq,KP]) ?_ ?_
     ·exact⟨I9,PH.no,rfl,d9,Uj _,S6 _,Ow.nil _ _ _ _⟩
     rintro⟨j,v12⟩ H ⟨hT,C10,rfl,c9,a1,hj,b0⟩ c4;simp only at hj b0;simp only[KP];have hv:∀y∈yes,iH ts y:=fun y hy=>(hY y hy).1;have ek:FN ts.length ((yes.take j).foldl joinH []):=jp (fun y hy=>hv y (TA hy)) (FN.nil _);have fz:=ek.len;rcases Sw j yes.length with hg|kc
     ·have ez:decide ((j:Int)<(yes.length:Int))=true:=by simp;omega
      have e3:=wrap64 (n:=j+1) (by omega);have g0:IntKind.i64.wrap ((j:Int)+1)=((j+1:Nat):Int):=by rw[<-e3];congr 1
      obtain⟨y,hy⟩:∃y,yes[j]?=some y:=⟨_,SC hg⟩;have eA:=hv y (Tg hy);have hX:=eA.le;obtain⟨b2,off2,cs2,rfl,da,ao⟩:=(m9.le i1 (Ui a9 a1)).load jA.len hy;obtain⟨ua,uk,rfl,a6⟩:=da;have a4:=cE (g:=joinH) (z:=[]) hy;obtain⟨ta,tc,rfl⟩:=b0.shape;apply RG;simp only[go_sem,ez,iv,pt,dU];refine⟨by omega,?_⟩;refine Qz (l:=[iv y.at',sD ua uk y.cond,rD y.cond,.int .u8 y.kind,.string ⟨⟨y.text⟩⟩]) (v:=.agg #[iv y.at',sD ua uk y.cond,rD y.cond,.int .u8 y.kind,.string ⟨⟨y.text⟩⟩]) rfl (cellsU c9 (.head _) ao) (.inl ⟨eS,rfl⟩) ?_;apply RG;simp only[go_sem,ez,iv,pt,dU,sD,rD];refine NB c9 [1,0,2,3,4] rfl df (by rfl) (ps:=[C10]) (F:=[sg pb _,D3,A3,B3]) rfl (bo (a:=y.at') b0 a6 ek.ok.2 (fun t ht=>by have:=ek.le t ht;omega) (by omega) (by omega)) fun v g4 qs bx d0 hq=>?_;obtain⟨C11,rfl,ds⟩:=hq;obtain⟨ta2,tc2,rfl⟩:=ds.shape;simp only[SS,SU]at bx |-;apply RG;simp only[go_sem,iv,pt,dU,sD,rD,g0];refine ab bx [1,0,2,3,4] rfl fun a3=>?_;simp only[Z4]at a3 |-;rw[show Syn.join ((yes.take j).foldl joinH []) y.at' y.cond=(yes.take (j+1)).foldl joinH [] from a4.symm]at ds |-;exact c4 (j+1,.slice ta2 _ tc2) _ _ (by simp only;omega) (ae (by simp only[go_sem,Tq,iv,pt,dU])) (by simp only[go_sem,Tq,KP]) ⟨g4,C11,rfl,a3,Ui a1 d0,hg,ds⟩
     ·have e9:j=yes.length:=by omega
      subst e9;have ez:=Z6 yes.length;rw[Td]at b0 ek fz;apply RG;simp only[go_sem,ez,iv,pt,dU];refine ab c9 [0,2,3,4,1] rfl fun bx=>?_;simp only[Z4]at bx |-;have k410:=Ui hV a1;have i5:qw ts par (o+1) a m [] g (yes.foldl joinH []) []:=⟨a,j7,rfl,rfl,rfl⟩;refine aB (fun x=>x.m) (Ku pb (dU pb (if par then 207 else 83)) vb (.slice (some ⟨b,off,none⟩) a5.length hc) a5.length i) (Q4 pb ts lv fv ov par (o+1) m a ri e B3 hT) ⟨m,va,v12,vb6,dv⟩ (ae (by simp only[go_sem,Tq,iv,pt,dU])) (by simp only[go_sem,Tq,Ku]) ?_ ?_
      ·exact⟨hT,D3,A3,C10,[],g,_,[],rfl,bx,Uj _,R7 _,i5,du.le i9 a1,i6,fl,b0,ek,by simpa using hA.le k410,by simpa using hE.le k410⟩
      rintro⟨mm,v8,v12,v14,dv⟩ H ⟨g4,D11,A11,C11,l,gg,fin,ee,rfl,a3,cA,h4,er,hG,eg,cj,hC,a2,dy,dj⟩ c3;simp only at h4 er hG eg hC dy dj;simp only[Ku];have k411:=Ui k410 cA;obtain⟨ga,gc,rfl,kl⟩:=id hG;have h5:=er.len;obtain e6|⟨s,gg',cB⟩:gg=[]\/∃s t,gg=s::t:=by
       cases gg with
       |nil=>exact .inl rfl
       |cons s t=>exact .inr ⟨s,t,rfl⟩
      ·subst e6;obtain⟨rfl,rfl,rfl⟩:=pC er;apply RG;simp only[go_sem,iv,pt,dU,S9,TJ,gt_iff_lt,Int.lt_irrefl,decide_false];refine ab a3 [4,0,1,2,3] rfl fun cb=>?_;simp only[Z4]at cb |-;refine ag cb fun g3 b6 aa f3=>?_;have fr:du g3 v12 a.f:=hC.sl aa f3;refine NB b6 [0,1,2,3] rfl fQ (by rfl) (ps:=[sg pb _,D11]) (F:=[A11,B3]) rfl (ii (s:=iI) (h3.le (Ui k411 aa)) fr a2 (by decide) (dj.le aa) (by rw[ht];simp only[Tu];omega)) fun v j0 qs bs dT hq=>?_;obtain⟨dv10,D10,rs,rfl,dk,B10,rfl,dx⟩:=hq;rw[ht]at dk dx;have tf:=cN h.ok a2 (s:=iI) (by decide);rw[ht]at tf;simp only at dk dx tf;simp only[SS,SU]at bs |-;apply RG;simp only[go_sem,iv,pt,dU,sD,rD];refine ab bs [2,0,1,3,4] rfl fun b5=>?_;simp only[Z4]at b5 |-;refine ag b5 fun g2 b4 a7 gf=>?_;have dc:du g2 v gt:=dx.sl a7 gf;have k1114:=Ui aa (Ui dT a7);have k414:=Ui k411 k1114;refine NB b4 [3,0,1,2] rfl dp (by rfl) (ps:=[B3]) (F:=[sg pb _,D10,A11]) rfl (b7 (N:=ts.length) (by omega) (hB.le k414) fA dc tf) fun v hS qs bd ak hq=>?_;obtain⟨B14,rfl,c1⟩:=hq;simp only[SS,SU]at bd |-;apply RG;simp only[go_sem,iv,pt,dU,sD,rD];refine Qz (l:=[.int .i64 ((o+1:Nat):Int)]) rfl (cellsU bd (.tail _ (.tail _ (.head _))) (aU (by simp[bD]) rfl)) (.inr ⟨mF,rfl⟩) ?_;apply RG;simp only[go_sem,iv,pt,dU,sD,rD,iq o ho];refine ab bd [1,2,3,0] rfl fun bc=>?_;simp only[Z4]at bc |-;refine cG bc rfl rfl rfl rfl rfl (by exact Gn) (by simp) fun c8=>?_;apply RG;simp only[go_sem,iv,pt,dU,sD,rD,hL];obtain⟨ta,tc,rfl⟩:=c1.shape
       exact dA (i+1,v8,.slice ta (Syn.joinAll ri.f gt).length tc,dv10) _ _ (by simp only;omega) (ae (by simp only[go_sem,Tq,iv,pt,dU])) (by simp only[go_sem,Tq,Mq]) ⟨hS,D10,A11,B14,_,rfl,c8,Ui c5 (Ui k414 ak),hb,d3,by simpa[Te]using dk.le (Ui a7 ak),dy.le (Ui k1114 ak),c1,fA.joinAll tf,by simp only[Tu];unfold aF;unfold aF at g5;omega⟩
      ·have ed:=er;rw[cB]at ed;obtain⟨m2,cc,rfl,i0,kr,cf⟩:=tG ed;have cp:=cf.len;have kj:gg.length=gg'.length+1:=by rw[cB];rfl
       have fj:gg.length<=gc:=eg;have jf:decide ((gg.length:Int)>0)=true:=by simp;omega
       have ia:gg[0]?=some s:=by rw[cB];rfl
       obtain⟨gb,goff,gcs,rfl,fa,c6⟩:=hG.load fP.len ia;obtain⟨za,zk,rfl,dI⟩:=fa.shape;apply RG;simp only[go_sem,iv,pt,dU,jf];refine⟨by omega,?_⟩;refine Qz (l:=[iv s.1,.slice za (T.subs s.2).length zk,iv (T.plc (T.subs s.2) s.2)]) (v:=.agg #[iv s.1,.slice za (T.subs s.2).length zk,iv (T.plc (T.subs s.2) s.2)]) rfl (by simpa using cellsU a3 (.head _) c6) (.inl ⟨oN,rfl⟩) ?_;apply RG;simp only[go_sem,iv,pt,dU];refine av a3 (by exact gY) rfl rfl rfl rfl rfl (by decide) fun nb3 g3 cb am e7=>?_;apply RG;simp only[go_sem,iv,pt,dU];refine⟨by omega,?_⟩;have dc:du g4 (.slice (oz (some ⟨gb,goff,none⟩) 3 1 gc) (gg.length-1) (gc-1)) gg':=Sl.tail (R:=fP) (fun{I} c a h=>fP.len c a h) (by rw[<-cB];exact hG) fj;have e0:du g3 (.slice (some ⟨nb3,0,none⟩) 1 1) [s]:=⟨_,_,rfl,.inr ⟨nb3,0,[iv s.1,.slice za (T.subs s.2).length zk,iv (T.plc (T.subs s.2) s.2)],rfl,az e7 (by simp[aE,Value.cells]) (by simp[aE,Value.cells,iv]),.one ⟨_,_,rfl,dI.le am⟩⟩⟩;have fns:FN ts.length [s]:=⟨bG.head (by rw[<-cB];exact cj.ok),fun t ht=>by simp at ht;subst ht;exact cj.le t (by rw[cB];exact .head _)⟩;have fng:FN ts.length gg':=⟨bG.tail (by rw[<-cB];exact cj.ok),fun t ht=>cj.le t (by rw[cB];exact .tail _ ht)⟩;obtain⟨h9,ic⟩:=FB ih (by omega) (by omega) i0;refine NB cb [0,1,2,3,4] rfl ic (by rfl) (ps:=[sg pb _,D11]) (F:=[A11,B3,C11]) rfl (h9 (h3.le (Ui k411 am)) e0 fns (dj.le am) (by simp only[Tu]at cp |-;omega)) fun v j0 qs b6 aa hq=>?_;obtain⟨dv13,D13,rs,rfl,f0,⟨A13,B13,va13,vb13,rfl,rfl,gr,gk⟩,cm,i4⟩:=hq;simp only[SS,SU]at b6 |-;apply RG;simp only[go_sem,iv,pt,dU]
       refine ab b6 [2,0,1,3,4,5,6] rfl fun bs=>?_;simp only[Z4]at bs |-;refine ag bs fun g2 b5 a0 gn=>?_;have fk:db g2 va13 cc.l:=gr.sl a0 gn;refine ab b5 [3,0,1,2,4,5] rfl fun b4=>?_;simp only[Z4]at b4 |-;have k1214:=Ui am (Ui aa a0);have h6:=cp.1;simp only[Tu]at h6;unfold aF at g5;refine aY b4 (by exact cT) (dy.le k1214) fk (fun{I J c a} h k=>aW.le h k) (fun{I} c a h=>aW.len c a h) (fun{I} c a h=>aW.ones h) rfl rfl rfl rfl (by simp only[Tu];omega) (by simp only[Tu];unfold maxLen;omega) fun na nc hS A15 bd ak gq=>?_;apply RG;simp only[go_sem,iv,pt,dU];refine ab bd [3,0,1,2,4,5] rfl fun bc=>?_;simp only[Z4]at bc |-;refine ag bc fun jo c8 cy f7=>?_;have k1416:=Ui a0 (Ui ak cy);have fo:du jo vb13 cc.f:=gk.sl k1416 f7;refine NB c8 [0,1,2,3,4] rfl gy (by rfl) (ps:=[]) (F:=[A15,sg pb _,D13,B3,C11]) rfl (iz (s:=cd)) fun v2 k1 qs d7 aS hq=>?_;obtain⟨rfl,ef⟩:=hq;simp only[SS,SU]at d7 |-;obtain⟨fi2,first2,cap2,rfl,gi2,ci2⟩:=id ef;apply RG;simp only[go_sem,iv,pt,dU];have k417:=Ui k411 (Ui am (Ui aa (Ui k1416 aS)));refine NB d7 [1,0,2,3,4] rfl gX (by rfl) (ps:=[sg pb _]) (F:=[A15,D13,B3,C11]) rfl (gT (h3.le k417) (fo.le aS) cm ef) fun v k0 qs d6 cx hq=>?_;obtain⟨A17,B17,va17,vb17,rfl,rfl,cn,dw⟩:=hq;have hM:=dH h.ok cm (is:=bj cd);have hD:=eR h.ok cm (bj cd);have es:=cI h.ok cm (bj cd);obtain⟨more,dne,eH⟩:∃yes g,aC ts cc.f (bj cd)=(yes,g):=⟨_,_,rfl⟩;rw[eH]at cn dw hM hD es cf;simp only at cn dw hM hD es cf;obtain⟨ma,mc,rfl⟩:=cn.shape
       simp only[SS,SU]at d6 |-;apply RG;simp only[go_sem,iv,pt,dU];refine ab d6 [1,0,2,3,4,5,6] rfl fun d5=>?_;simp only[Z4]at d5 |-;refine ag (c:=.st _) d5 fun g1 fb ap gl=>?_;have i2:m9 g1 (.slice ma more.length mc) more:=cn.sl ap gl;have k1219:=Ui am (Ui aa (Ui k1416 (Ui aS (Ui cx ap))));refine aB (fun x=>more.length-x.1) (KT pb (dU pb (if par then 207 else 83)) (.slice na (ri.l++l++cc.l).length nc) vb v12 vb17 (.slice (some ⟨b,off,none⟩) a5.length hc) a5.length i (.slice ma more.length mc) more.length) (QW [sg pb (bD lv fv ov dv13 (o+1)),B17,A15,D13,B3,C11] more gg' g1) (0,.slice (oz (some ⟨gb,goff,none⟩) 3 1 gc) (gg.length-1) (gc-1)) (ae (by simp only[go_sem,Tq,iv,pt,dU])) (by simp only[go_sem,Tq,KT]) ?_ ?_
       ·exact⟨g1,rfl,fb,Uj _,S6 _,dc.le k1219,show gg.length-1<=gc-1 by omega⟩
       rintro⟨j,v14⟩ H ⟨kO,rfl,c7,an,h8,cl,c0⟩ c2;simp only at h8 cl c0;simp only[KT];have hz:∀y∈more,iH ts y/\y.at'<ts.length:=fun y hy=>⟨(hM y hy).1,mN (by decide) (hM y hy).1 (hM y hy).2⟩;have ei:FN ts.length ((more.take j).foldl joinH1 gg'):=kg (fun y hy=>hz y (TA hy)) fng;have fs:=ei.len;rcases Sw j more.length with d2|h7
       ·have ey:decide ((j:Int)<(more.length:Int))=true:=by simp;omega
        have e3:=wrap64 (n:=j+1) (by omega);have g0:IntKind.i64.wrap ((j:Int)+1)=((j+1:Nat):Int):=by rw[<-e3];congr 1
        obtain⟨y,hy⟩:∃y,more[j]?=some y:=⟨_,SC d2⟩;have eA:=hz y (Tg hy);have hW:=eA.2;have e4:=wrap64 (n:=y.at'+1) (by omega);have hK:IntKind.i64.wrap ((y.at':Int)+1)=((y.at'+1:Nat):Int):=by rw[<-e4];congr 1
        obtain⟨b2,off2,cs2,rfl,da,ao⟩:=(m9.le i2 an).load jA.len hy;obtain⟨ua,uk,rfl,a6⟩:=da;have a4:=cE (g:=joinH1) (z:=gg') hy;apply RG;simp only[go_sem,ey,iv,pt,dU];refine⟨by omega,?_⟩;refine Qz (l:=[iv y.at',sD ua uk y.cond,rD y.cond,.int .u8 y.kind,.string ⟨⟨y.text⟩⟩]) (v:=.agg #[iv y.at',sD ua uk y.cond,rD y.cond,.int .u8 y.kind,.string ⟨⟨y.text⟩⟩]) rfl (cellsU c7 (.head _) ao) (.inl ⟨eS,rfl⟩) ?_;apply RG;simp only[go_sem,ey,iv,pt,dU,sD,rD];refine ax mixed [0,2,3,4,5,6,1,7,8] [] [] rfl rfl ?_;apply af;simp only[go_sem,iv,pt,dU,sD,rD,hK];refine Og c7 [0,1,2,3,4,5] rfl (fun h=>by cases h) rfl BA (by rfl) (ps:=[]) (F:=[sg pb _,B17,A15,D13,B3,C11]) rfl (BU cl (by omega)) fun v hR qs bb ct hq=>?_;obtain⟨E21,rfl,el⟩:=hq;obtain⟨ca,ck,rfl⟩:=el.shape;simp only[SS,SU]at bb |-;apply af;simp only[go_sem,iv,pt,dU,sD,rD,hK];refine Og bb [0,1,2,3,4,5,6] rfl (fun h=>by cases h) rfl df (by rfl) (ps:=[E21]) (F:=[sg pb _,B17,A15,D13,B3,C11]) rfl (bo (a:=y.at'+1) el (a6.le ct) ei.ok.2 (fun t ht=>by have:=ei.le t ht;omega) (by omega) (by omega)) fun v hP qs b3 aj hq=>?_;obtain⟨E22,rfl,dd⟩:=hq;have hn:=dd.cap fP.len;simp only[SS,SU]at b3 |-;apply af;simp only[go_sem,iv,pt,dU,sD,rD];refine aw ?_;refine ag (c:=.st _) b3 fun hO b1 ac fC=>?_;have eh:du hO v _:=dd.sl ac fC;obtain⟨wa,wc,rfl⟩:=dd.shape;apply RG;simp only[go_sem,iv,pt,dU,sD,rD,g0];rw[show Syn.join ((more.take j).foldl joinH1 gg') (y.at'+1) y.cond=(more.take (j+1)).foldl joinH1 gg' from a4.symm]at eh hn |-
        exact c2 (j+1,.slice wa _ wc) _ _ (by simp only;omega) (ae (by simp only[go_sem,Tq,iv,pt,dU])) (by simp only[go_sem,Tq,KT]) ⟨hO,rfl,b1,Ui an (Ui ct (Ui aj ac)),d2,eh,hn⟩
       ·have e9:j=more.length:=by omega
        subst e9;have ey:=Z6 more.length;rw[Td]at cl ei fs;apply RG;simp only[go_sem,ey,iv,pt,dU];refine ab c7 [1,0,2,3,4,5] rfl fun bb=>?_;simp only[Z4]at bb |-;refine ag bb fun hR b3 aj f5=>?_;have f1:du hR vb17 dne:=dw.sl (Ui ap (Ui an aj)) f5;have k1221:=Ui k1219 (Ui an aj);refine NB b3 [4,0,1,2,3] rfl dp (by rfl) (ps:=[C11]) (F:=[sg pb _,A15,D13,B3]) rfl (b7 (N:=ts.length) (by omega) (hC.le k1221) a2 f1 es) fun v hP qs b1 ac hq=>?_;obtain⟨C22,rfl,f2⟩:=hq;simp only[SS,SU]at b1 |-;apply RG;simp only[go_sem,iv,pt,dU];refine ab b1 [1,3,2,4,0] rfl fun d4=>?_;simp only[Z4]at d4 |-;have k1522:=Ui cy (Ui aS (Ui cx (Ui ap (Ui an (Ui aj ac)))));refine c3 ⟨m2+1,.slice na (ri.l++l++cc.l).length nc,v,v14,dv13⟩ _ _ (by simp only;omega) (ae (by simp only[go_sem,Tq,iv,pt,dU])) (by simp only[go_sem,Tq,Ku]) ⟨hP,D13,A15,C22,_,_,_,_,rfl,d4,Ui cA (Ui k1221 ac),by simp only;omega,cf,cl.le (Ui aj ac),c0,ei,f2,a2.joinAll es,by rw[<-Te];exact br.le gq k1522,?_⟩;have:=f0.le (Ui a0 (Ui ak k1522));simpa[Te]using this
  ·have jg:(x.text == [40])=false:=by
    rw[Uf];exact g6
   rw[SI g6]at hy;cases hy
   apply RG;simp only[go_sem,hJ,iv,pt,sD,rD,jg,T7];refine NB hk [0,1,2,3] rfl iJ (by rfl) (ps:=[sg pb _,D3]) (F:=[A3,B3]) rfl (kN h3 g8.le em hE (by simp[bR]at ep |-;omega)) fun v I4 qs eq cr hq=>?_;obtain⟨dv2,D4,rs,rfl,ja,rfl⟩:=hq;simp only[SS,SU]at eq |-;apply RG;simp only[go_sem,iv,pt,sD,rD,hL];exact dA (i+1,va,vb,dv2) _ _ (by simp only;omega) (ae (by simp only[go_sem,Tq,iv,pt,dU])) (by simp only[go_sem,Tq,Mq]) ⟨I4,D4,A3,B3,_,rfl,eq,Ui c5 cr,hb,d3,by simp only;rw[<-Te];exact ja,by simpa using hA.le cr,hB.le cr,fA,by simpa using i3⟩
 ·have kd:i=a5.length:=by omega
  subst kd;have hJ:=Z6 a5.length;rw[T4]at hU;cases hU
  apply RG;simp only[go_sem,hJ,iv,pt];exact ai rfl hk (r:=[va,vb]) rfl (Ui e8 c5) ⟨_,D3,[A3,B3],rfl,hE,⟨A3,B3,va,vb,rfl,rfl,hA,hB⟩,fA,i3⟩
end
open Go Go.Sx Dg Syn
theorem LB:aP Tryz.prog 77:=⟨_,Tryz.func77,rfl,rfl⟩
theorem Hx:aP Tryz.prog 134:=⟨_,Tryz.func134,rfl,rfl⟩
theorem HP:aP Tryz.prog 136:=⟨_,Tryz.func136,rfl,rfl⟩
section
variable {pb:Nat} {ts:List Tok} {lv fv ov:Value}
theorem Ik{J:PH}{o bb:Nat}{dv:Value}{h:ay}{a:Option Addr}{k:Nat}(hp:vF J ts lv fv)(hb:aQ J bb 0 [pt pb]):
  aO Tryz.prog 134 #[uh a k h,pt bb] J [sg pb (bD lv fv ov dv o)] fun v I2 qs=>qs=[sg pb (bD lv fv ov dv o)]/\v=.bool (ju ts true h):=by
 intro hd;obtain⟨la,lc,rfl,_⟩:=id hp.tok;refine Ot Tryz.func134 rfl fun w0=>?_;simp only[Tryz.ntmps134,uh,iv,pt,sD,rD];apply RG;simp only[go_sem];refine ax mixed [0,1,2,3,4,5,6,7,8] [2,5] [] rfl rfl ?_;apply af;simp only[go_sem,iv,pt];refine P7 (l:=[pt pb]) rfl (cellsU hd (.head _) hb) (.inr ⟨uI,rfl⟩) ?_;apply af;simp only[go_sem,iv,pt];refine P7 (l:=[_]) rfl (cellsU hd (.tail _ (.head _)) (aU (by simp[bD]) rfl)) (.inr ⟨pH,rfl⟩) ?_;apply af;simp only[go_sem,iv,pt];refine aw ?_;apply RG;simp only[go_sem];refine ai rfl hd (r:=[.bool ((h.at':Int) == (ts.length:Int))]) rfl (Uj _) ⟨rfl,?_⟩;show Value.bool _=Value.bool (decide (h.at'=ts.length));congr 1;by_cases e:h.at'=ts.length
 ·rw[e];simp
 ·simp[e];omega
theorem CM{n o bb:Nat}(ih:iE pb ts lv fv ov n)(ho:o<=64){I0:PH}(ba:aQ I0 bb 0 [pt pb]):F9 pb ts lv fv ov n true o I0 (.func (.func 136) #[] #[pt bb]):=by
 refine⟨136,#[],#[pt bb],rfl,HP,fun m hm x a ha I D dv xa xk e a6 h hx hr he hl=>?_⟩;have hb:=ba.le a6;have ac:Syn.mV (Syn.run ts m) o x=some a:=ha;unfold Syn.mV at ac;have bd:=h.len;have a5:=hx.le;show aO Tryz.prog 136 #[uh xa xk x,pt bb] I [sg pb (bD lv fv ov dv o),D] _;intro hd;refine Ot Tryz.func136 rfl fun w0=>?_;simp only[Tryz.ntmps136,uh,iv,pt,sD,rD];cases h1:(x.text == [118,97,114])
 ·have n1:x.text≠rg:=fun e=>by rw[e]at h1;exact absurd h1 (by decide)
  rw[Sb n1]at ac;cases h2:(x.text == [102,110])
  ·have n2:x.text≠MC:=fun e=>by rw[e]at h2;exact absurd h2 (by decide)
   rw[Sb n2]at ac;cases ac
   apply RG;simp only[go_sem,h1,h2];refine Qz (l:=[pt pb]) rfl (cellsU hd (.head _) hb) (.inr ⟨uI,rfl⟩) ?_;apply RG;simp only[go_sem,iv,pt];refine NB hd [0,1] rfl iJ (by rfl) (ps:=[sg pb _,D]) (F:=[]) rfl (kN h hx.le hr he (by simpa[bR]using hl)) fun v I4 qs a4 ap hq=>?_;obtain⟨dv2,D4,rs,rfl,bc,rfl⟩:=hq;simp only[SS,SU,Tq]at a4 |-;apply RG;simp only[go_sem,iv,pt];refine aT a4 fun a9=>?_;refine aT a9 fun a7=>?_;refine ab a7 [2,3,0,1] rfl fun ao=>?_;simp only[Z4]at ao |-;exact ai rfl ao (r:=[.slice none 0 0,.slice none 0 0]) rfl ap ⟨dv2,D4,[PH.no,PH.no],rfl,bc,⟨PH.no,PH.no,_,_,rfl,rfl,Ow.nil _ _ _ _,Ow.nil _ _ _ _⟩,FN.nil _,S6 _⟩
  ·rw[SI (show x.text=MC from eq_of_beq h2)]at ac;have aj:=hx.lt (.inl (by rw[show x.text=MC from eq_of_beq h2];decide));apply RG;simp only[go_sem,h1,h2];refine go mixed [0,1,2,3,4,5,6,7] [] [] [0] [2] I rfl rfl ?_;apply af;simp only[go_sem,iv,pt];refine gm (l:=[pt pb]) rfl (cD hd) rfl rfl rfl hb (.inr ⟨uI,rfl⟩) ?_;apply af;simp only[go_sem,iv,pt];refine Og hd [0,1] rfl (fun _=>Uj _) rfl gC (by rfl) (ps:=[]) (F:=[sg pb _,D]) rfl (gx (h:=x) (by omega) hr) fun v I2 qs an aa hq=>?_;obtain⟨rfl,hA⟩:=hq;simp only[SS,SU]at an |-;apply af;simp only[go_sem,iv,pt];refine Og an [0,1] rfl (fun h=>by cases h) rfl HU (by rfl) (ps:=[sg pb _,D]) (F:=[]) rfl (ih m hm (.function o (bh x)) a ac ho (h.le aa) hA (bm hx aj) (he.le aa) hl) fun v I3 qs am ak hq=>?_;obtain⟨dv3,D3,rs,rfl,a1,⟨A3,B3,va3,vb3,rfl,rfl,a3,a2⟩,a0,aS⟩:=hq;simp only[SS,SU,Tq]at am |-;apply af;simp only[go_sem,iv,pt];refine aw ?_;apply RG;simp only[go_sem,iv,pt];exact ai rfl am (r:=[va3,vb3]) rfl (Ui aa ak) ⟨dv3,D3,[A3,B3],rfl,a1,⟨A3,B3,va3,vb3,rfl,rfl,a3,a2⟩,a0,aS⟩
 ·rw[SI (show x.text=rg from eq_of_beq h1)]at ac;have aj:=hx.lt (.inl (by rw[show x.text=rg from eq_of_beq h1];decide));apply RG;simp only[go_sem,h1];refine go mixed [0,1,2,3,4,5,6,7] [] [] [0] [2] I rfl rfl ?_;apply af;simp only[go_sem,iv,pt];refine gm (l:=[pt pb]) rfl (cD hd) rfl rfl rfl hb (.inr ⟨uI,rfl⟩) ?_;apply af;simp only[go_sem,iv,pt];refine Og hd [0,1] rfl (fun _=>Uj _) rfl gC (by rfl) (ps:=[]) (F:=[sg pb _,D]) rfl (gx (h:=x) (by omega) hr) fun v I2 qs an aa hq=>?_;obtain⟨rfl,hA⟩:=hq;simp only[SS,SU]at an |-;apply af;simp only[go_sem,iv,pt];refine Og an [0,1] rfl (fun h=>by cases h) rfl Bv (by rfl) (ps:=[sg pb _,D]) (F:=[]) rfl (ih m hm (.vrb o (bh x)) a ac ho (h.le aa) hA (bm hx aj) (he.le aa) hl) fun v I3 qs am ak hq=>?_;obtain⟨dv3,D3,rs,rfl,a1,⟨A3,B3,va3,vb3,rfl,rfl,a3,a2⟩,a0,aS⟩:=hq;simp only[SS,SU,Tq]at am |-;apply af;simp only[go_sem,iv,pt];refine aw ?_;apply RG;simp only[go_sem,iv,pt];exact ai rfl am (r:=[va3,vb3]) rfl (Ui aa ak) ⟨dv3,D3,[A3,B3],rfl,a1,⟨A3,B3,va3,vb3,rfl,rfl,a3,a2⟩,a0,aS⟩
theorem DE{n o:Nat}(ih:iE pb ts lv fv ov n)(ho:o<=64){d:T}{r:Syn.bE}(hr:Syn.run ts n (.seqL true o [(0,d)] [] [])=some r){I D:PH}{dv:Value}{da:Option Addr}{dk:Nat}{e:List bX}(h:vF I ts lv fv)(an:cu I (.agg #[sD da dk d,rD d]) d)(ao:d≠ff)(he:dl I D dv e)(hm:e.length+r.e.length<=pY):
  aO Tryz.prog 77 #[pt pb,.agg #[sD da dk d,rD d]] I [sg pb (bD lv fv ov dv o),D] (PP pb lv fv ov o (e++r.e) (MW ts r)):=by
 intro hd;refine Ot Tryz.func77 rfl fun w0=>?_;simp only[Tryz.ntmps77,iv,pt,sD,rD];apply bq 6;simp only[go_sem];refine eP 2 hd rfl fun bb a0=>?_;refine ag (c:=.st _) a0 fun I2 am ac a1=>?_;have hb:aQ I2 bb 0 [pt pb]:=(aU (by simp) rfl:aQ (sg bb (.cells [pt pb].toArray 152 (0,0))) bb 0 [pt pb]).le a1;apply RG;simp only[go_sem,kE,List.map,pt];refine Qz (l:=[pt pb]) rfl (cellsU am (.head _) hb) (.inr ⟨uI,rfl⟩) ?_;apply RG;simp only[go_sem,pt];refine av am (by exact gY) rfl rfl rfl rfl rfl (by decide) fun nb I3 aS aa ap=>?_;have hf:du I3 (.slice (some ⟨nb,0,none⟩) 1 1) [(0,d)]:=⟨_,_,rfl,.inr ⟨nb,0,[iv 0,sD da dk d,rD d],rfl,az ap (by simp[aE,Value.cells]) (by simp[aE,Value.cells,iv,sD,rD]),.one ⟨_,_,rfl,an.le (Ui ac aa)⟩⟩⟩;have fn:FN ts.length [(0,d)]:=⟨⟨fun s hs=>by simp at hs;subst hs;exact⟨an.1,ao⟩,by simp⟩,fun s hs=>by simp at hs;subst hs;exact S6 _⟩;apply RG;simp only[go_sem,pt];have a3:PZ pb ts lv fv ov o I3 (.func (.func 134) #[] #[pt bb]) (ju ts true):=⟨134,#[],#[pt bb],rfl,Hx,fun J hJ hp dv x a k _=>Ik hp (hb.le (Ui aa hJ))⟩;refine NB aS [0,1] rfl v7 (by rfl) (ps:=[sg pb _,D]) (F:=[]) rfl (Fm hr a3 (CM ih ho (hb.le aa)) (h.le (Ui ac aa)) hf fn (he.le (Ui ac aa)) hm) fun v I4 qs ak aj hq=>?_;obtain⟨dv4,D4,rs,rfl,a5,⟨A4,B4,va4,vb4,rfl,rfl,a7,a6⟩,a4,a2⟩:=hq;simp only[SS,SU,Tq]at ak |-;apply RG;simp only[go_sem,pt];exact ai rfl ak (r:=[va4,vb4]) rfl (Ui ac (Ui aa aj)) ⟨dv4,D4,[A4,B4],rfl,a5,⟨A4,B4,va4,vb4,rfl,rfl,a7,a6⟩,a4,a2⟩
end
open Go Go.Sx Dg Syn
theorem BP:aP Tryz.prog 292:=⟨_,Tryz.func292,rfl,rfl⟩
section
variable {pb:Nat} {ts:List Tok} {lv fv ov:Value}
def tu(ts:List Tok)(o:Nat)(r:Syn.bE)(m:Nat)(xs:List ay)(l:List Nd)(out:ah)(ee:List bX):Prop:=
 ∃b,Syn.run ts m (.elses o xs l out)=some b/\b.l=r.l/\b.f=r.f/\ee++b.e=r.e
def qr(ts:List Tok)(o:Nat)(r:Syn.bE)(m:Nat)(ys:List ay)(l:List Nd)(out:ah)(ee:List bX):Prop:=
 ∃b,Syn.run ts m (.ifs o ys l out)=some b/\b.l=r.l/\b.f=r.f/\ee++b.e=r.e
theorem Em{o m:Nat}{r:Syn.bE}{l:List Nd}{out:ah}{ee:List bX}(h:tu ts o r m [] l out ee):l=r.l/\out=r.f/\ee=r.e:=by
 obtain⟨b,hb,h1,h2,h3⟩:=h;obtain⟨m',rfl,ac⟩:=bt hb;have aa:Syn.elses ts (Syn.run ts m') o [] l out=some b:=ac;unfold Syn.elses at aa;simp only at aa;cases aa
 exact⟨h1,h2,by simpa using h3⟩
theorem CO{o m:Nat}{r:Syn.bE}{l:List Nd}{out:ah}{ee:List bX}(h:qr ts o r m [] l out ee):l=r.l/\out=r.f/\ee=r.e:=by
 obtain⟨b,hb,h1,h2,h3⟩:=h;obtain⟨m',rfl,ac⟩:=bt hb;have aa:Syn.ifs (Syn.run ts m') o [] l out=some b:=ac;unfold Syn.ifs at aa;simp only at aa;cases aa
 exact⟨h1,h2,by simpa using h3⟩
theorem Au{o m:Nat}{r:Syn.bE}{x:ay}{xs:List ay}{l:List Nd}{out:ah}{ee:List bX}(h:tu ts o r m (x::xs) l out ee):∃m' a b,m=m'+1/\
  Syn.run ts m' (.block o (aC ts (bh x) (bj ny)).2 2)=some a/\(∀n∈l,n.kids.length+a.l.length<=aF)/\qr ts o b m' (aC ts (bh x) (bj ny)).1 (give l a.l) (Syn.joinAll out a.f) []/\tu ts o r m' xs b.l b.f (ee++a.e++b.e):=by
 obtain⟨b0,hb,h1,h2,h3⟩:=h;obtain⟨m',rfl,ao⟩:=bt hb;have aa:Syn.elses ts (Syn.run ts m') o (x::xs) l out=some b0:=ao;unfold Syn.elses at aa;simp only at aa;obtain⟨ys,rest,ac⟩:∃yes g,aC ts (bh x) (bj ny)=(yes,g):=⟨_,_,rfl⟩;rw[ac]at aa |-;simp only at aa |-;obtain⟨a,ha,an⟩:=bw aa;obtain⟨l1,hg,am⟩:=bw an;obtain⟨b,aS,ak⟩:=bw am;obtain⟨c,hc,aj⟩:=bw ak;cases aj
 have ap:=ce hg;obtain rfl:=bg hg;exact⟨m',a,b,rfl,ha,ap,⟨b,aS,rfl,rfl,rfl⟩,c,hc,h1,h2,by simpa[Te]using h3⟩
theorem AQ{o m:Nat}{r:Syn.bE}{y:ay}{ys:List ay}{l:List Nd}{out:ah}{ee:List bX}(h:qr ts o r m (y::ys) l out ee):∃m',m=m'+1/\
  (o=64->qr ts o r m' ys l out (ee++bR y 11))/\
  (o≠64->∃a,Syn.run ts m' (.branch (o+1) y 2)=some a/\(∀n∈l,n.kids.length+a.l.length<=aF)/\qr ts o r m' ys (give l a.l) (Syn.joinAll out a.f) (ee++a.e)):=by
 obtain⟨b0,hb,h1,h2,h3⟩:=h;obtain⟨m',rfl,an⟩:=bt hb;have aa:Syn.ifs (Syn.run ts m') o (y::ys) l out=some b0:=an;unfold Syn.ifs at aa;simp only at aa;refine⟨m',rfl,fun ho=>?_,fun ho=>?_⟩
 ·rw[SI ho]at aa;obtain⟨b,aj,ac⟩:=bw aa;cases ac
  exact⟨b,aj,h1,h2,by simpa[Te]using h3⟩
 ·rw[Sb ho]at aa;obtain⟨a,ha,ac⟩:=bw aa;obtain⟨l1,hg,am⟩:=bw ac;obtain⟨b,aj,ak⟩:=bw am;cases ak
  have ao:=ce hg;obtain rfl:=bg hg;exact⟨a,ha,ao,b,aj,h1,h2,by simpa[Te]using h3⟩
theorem tu.le{o m:Nat}{r:Syn.bE}{xs:List ay}{l:List Nd}{out:ah}{ee:List bX}(h:tu ts o r m xs l out ee):ee.length<=r.e.length:=by
 obtain⟨b,_,_,_,h⟩:=h;rw[<-h];simp
theorem qr.le{o m:Nat}{r:Syn.bE}{xs:List ay}{l:List Nd}{out:ah}{ee:List bX}(h:qr ts o r m xs l out ee):ee.length<=r.e.length:=by
 obtain⟨b,_,_,_,h⟩:=h;rw[<-h];simp
def Pv(pb:Nat)(slot:Nat)(vh:Value)(n:Nat)(x:Nat×Nat×Value×Value×Value):St:=⟨dn 114 [(0,.v (pt pb)),(8,.v x.2.2.1),(13,.v x.2.2.2.1),(56,.v vh),(57,.v (iv n)),(58,.v (iv x.1))],[]⟩
def Rw(pb:Nat)(ts:List Tok)(lv fv ov:Value)(o M:Nat)(xs:List ay)(r:Syn.bE)(e:List bX)(I0:PH)(x:Nat×Nat×Value×Value×Value)(H:PH):Prop:=
 ∃I D A B l out ee,H=U [I,sg pb (bD lv fv ov x.2.2.2.2 o),D,A,B]/\Dj [I,sg pb (bD lv fv ov x.2.2.2.2 o),D,A,B]/\I0.le I/\x.1<=xs.length/\x.2.1<=M/\tu ts o r x.2.1 (xs.drop x.1) l out ee/\
  br I A x.2.2.1 l/\l.length=1/\gP I B x.2.2.2.1 out/\FN ts.length out/\dl I D x.2.2.2.2 (e++ee)
def N0(pb:Nat)(vh:Value)(n i:Nat)(vh2:Value)(n2:Nat)(x:Nat×Nat×Value×Value×Value):St:=⟨dn 114 [(0,.v (pt pb)),(8,.v x.2.2.1),(13,.v x.2.2.2.1),(56,.v vh),(57,.v (iv n)),(58,.v (iv i)),(82,.v vh2),(83,.v (iv n2)),(84,.v (iv x.1))],[]⟩
def Rq(pb:Nat)(ts:List Tok)(lv fv ov:Value)(o M:Nat)(ys:List ay)(r:Syn.bE)(e:List bX)(I0:PH)(x:Nat×Nat×Value×Value×Value)(H:PH):Prop:=
 ∃I D A B l out ee,H=U [I,sg pb (bD lv fv ov x.2.2.2.2 o),D,A,B]/\Dj [I,sg pb (bD lv fv ov x.2.2.2.2 o),D,A,B]/\I0.le I/\x.1<=ys.length/\x.2.1<=M/\qr ts o r x.2.1 (ys.drop x.1) l out ee/\
  br I A x.2.2.1 l/\l.length=1/\gP I B x.2.2.2.1 out/\FN ts.length out/\dl I D x.2.2.2.2 (e++ee)
theorem Gl{n:Nat}(ih:iE pb ts lv fv ov n){o:Nat}{h0:ay}{slot:Nat}{r:Syn.bE}(hr:Syn.run ts n (.branch o h0 slot)=some r):qS pb ts lv fv ov (.branch o h0 slot) r:=by
 obtain⟨m,rfl,hs⟩:=bt hr;have e4:Syn.branch ts (Syn.run ts m) o h0 slot=some r:=hs;unfold Syn.branch at e4;obtain⟨a,ha,hM⟩:=bw e4;obtain⟨b,hb,hL⟩:=bw hM;obtain⟨l1,fg,hK⟩:=bw hL;obtain⟨l2,fc,en⟩:=bw hK;obtain⟨xs,out,hJ⟩:∃yes g,aC ts b.f (bj ip)=(yes,g):=⟨_,_,rfl⟩;rw[hJ]at en;simp only at en;obtain⟨c,hc,i1⟩:=bw en;cases i1
 have fb:=ce fg;have fa:=ce fc;obtain rfl:=bg fg;obtain rfl:=bg fc;clear e4 hM hL hK en hs hr fg fc;intro ho i0 I D dv xa xk e h hx cB he hm hd;have hl:=h.len;have e2:=hx.lt (.inl i0);simp only[Tu]at hm;refine Ot Tryz.func292 rfl fun w0=>?_;simp only[Tryz.ntmps292,iv,pt,uh,sD,rD];apply RG;simp only[go_sem];refine dP hd (by exact cT) rfl rfl rfl rfl rfl (by decide) fun wb A1 j0 cy=>?_;have k4:br I A1 _ [ix 8 h0 slot]:=⟨_,cy,.one (aW.mk (n:=ix 8 h0 slot) cB (Sl.nil _ _) jq)⟩;apply RG;simp only[go_sem,iv,pt];refine NB j0 [0,1,2] rfl gC (by rfl) (ps:=[]) (F:=[A1,sg pb _,D]) rfl (gx (h:=h0) (by omega) cB) fun v I2 qs hT cl hq=>?_;obtain⟨rfl,kn⟩:=hq;simp only[SS,SU]at hT |-;apply RG;simp only[go_sem,iv,pt];refine NB hT [1,2,0] rfl wA (by rfl) (ps:=[sg pb _,D]) (F:=[A1]) rfl (ih m (Tv m) _ _ ha ho (h.le cl) kn (bm hx e2) (he.le cl) (by omega)) fun v I3 qs hS e7 hq=>?_;obtain⟨dv3,D3,rs,rfl,kq,⟨A3,B3,va3,vb3,rfl,rfl,k3,kx⟩,kl,_⟩:=hq;simp only[SS,SU]at hS |-;apply RG;simp only[go_sem,iv,pt];refine ab hS [2,0,1,3,4] rfl fun hR=>?_;simp only[Z4]at hR |-;refine ag hR fun I4 jo cj k2=>?_;have ki:db I4 va3 a.l:=k3.sl cj k2;refine ab jo [2,0,1,3] rfl fun hP=>?_;simp only[Z4]at hP |-;refine ag hP fun I5 jg ap kv=>?_;have kk:du I5 vb3 a.f:=kx.sl (Ui cj ap) kv;have hz:=Ui cj ap;have k5:=Ui cl (Ui e7 hz);refine NB jg [0,1,2] rfl pp (by rfl) (ps:=[sg pb _,D3]) (F:=[A1]) rfl (ih m (Tv m) _ _ hb ho (h.le k5) kk kl (kq.le hz) (by simp only[Tu];omega)) fun v I6 qs hO e6 hq=>?_
 obtain⟨dv6,D6,rs,rfl,kp,⟨A6,B6,va6,vb6,rfl,rfl,k1,kt⟩,eq,_⟩:=hq;simp only[SS,SU]at hO |-;apply RG;simp only[go_sem,iv,pt];refine ab hO [2,0,1,3,4] rfl fun hN=>?_;simp only[Z4]at hN |-;refine ag hN fun I7 fC c3 k0=>?_;have kd:db I7 va6 b.l:=k1.sl c3 k0;refine ab fC [2,0,1,3] rfl fun eb=>?_;simp only[Z4]at eb |-;refine ag eb fun I8 fA c2 kr=>?_;have ex:=Ui c3 c2;have kj:du I8 vb6 b.f:=kt.sl ex kr;have ey:=Ui e6 ex;refine NB fA [2,0,1] rfl eQ (by rfl) (ps:=[A1]) (F:=[sg pb _,D6]) rfl (ge (k4.le (Ui k5 ey)) (db.le ki (Ui ap ey)) (by simp[aF]) fb) fun v I9 qs ea c1 hq=>?_;obtain⟨A9,rfl,kO⟩:=hq;simp only[SS,SU]at ea |-;apply RG;simp only[go_sem,iv,pt];refine NB ea [0,1,2] rfl eQ (by rfl) (ps:=[A9]) (F:=[sg pb _,D6]) rfl (ge kO (db.le kd (Ui c2 c1)) (by rw[bI];simp[aF]) fa) fun v8 mr qs d9 c9 hq=>?_;obtain⟨A10,rfl,ht⟩:=hq;simp only[SS,SU]at d9 |-;apply RG;simp only[go_sem,iv,pt];refine NB d9 [0,1,2] rfl gy (by rfl) (ps:=[]) (F:=[A10,sg pb _,D6]) rfl (iz (s:=ip)) fun v mm qs d7 cc hq=>?_;obtain⟨rfl,h1⟩:=hq;simp only[SS,SU]at d7 |-;obtain⟨fi,first,cap,rfl,gi,ci⟩:=id h1;apply RG;simp only[go_sem,iv,pt];have k811:=Ui c1 (Ui c9 cc);have hG:=Ui k5 (Ui ey k811);refine NB d7 [1,0,2] rfl gX (by rfl) (ps:=[sg pb _]) (F:=[A10,D6]) rfl (gT (h.le hG) (kj.le k811) eq h1) fun v mj qs d6 bd hq=>?_;obtain⟨A12,B12,va12,vb12,rfl,rfl,b5,ct⟩:=hq;have hX:=dH h.ok eq (is:=bj ip);have hV:=eR h.ok eq (bj ip);have gb:=cI h.ok eq (bj ip)
 rw[hJ]at b5 ct hX hV gb;simp only at b5 ct hX hV gb;obtain⟨xsa,xsc,rfl⟩:=b5.shape;simp only[SS,SU]at d6 |-;apply RG;simp only[go_sem,iv,pt];refine ab d6 [1,0,4,3,2] rfl fun d5=>?_;simp only[Z4]at d5 |-;refine ag (c:=.st _) d5 fun hy fz aj hn=>?_;have j7:m9 hy (.slice xsa xs.length xsc) xs:=b5.sl aj hn;have k1013:=Ui cc (Ui bd aj);have k613:=Ui ex (Ui k811 (Ui bd aj));have h7:=Ui hG (Ui bd aj);have kc:tu ts o ⟨c.l,c.f,a.e++b.e++c.e⟩ m xs (give (give [ix 8 h0 slot] a.l) b.l) out (a.e++b.e):=⟨c,hc,rfl,rfl,rfl⟩;refine aB (fun x=>xs.length-x.1) (Pv pb slot (.slice xsa xs.length xsc) xs.length) (Rw pb ts lv fv ov o m xs ⟨c.l,c.f,a.e++b.e++c.e⟩ e hy) (0,m,v8,vb12,dv6) (ae (by simp only[go_sem,Tq,iv,pt])) (by simp only[go_sem,Tq,Pv]) ?_ ?_
 ·exact⟨hy,D6,A10,B12,_,_,_,rfl,fz,Uj _,S6 _,R7 _,kc,ht.le k1013,by simp[bI],ct.le aj,gb,by simpa[Te]using kp.le k613⟩
 rintro⟨i,m',va,vb,dv⟩ H ⟨lj,D14,A14,B14,l,out',ee,rfl,cn,ba,i9,i3,eg,hA,e8,hB,gn,hE⟩ c0;simp only at i9 i3 eg hA hB hE;simp only[Pv];have f7:m9 lj (.slice xsa xs.length xsc) xs:=j7.le ba;have hF:=Ui h7 ba;have hw:=h.le hF;rcases Sw i xs.length with eo|lk
 ·have hv:decide ((i:Int)<(xs.length:Int))=true:=by simp;omega
  have e1:=wrap64 (n:=i+1) (by omega);have k7:IntKind.i64.wrap ((i:Int)+1)=((i+1:Nat):Int):=by rw[<-e1];congr 1
  obtain⟨x,em⟩:∃x,xs[i]?=some x:=⟨_,SC eo⟩;have ic:=Tg em;obtain⟨cx,ie⟩:=hX x ic;have b0:=mN (by decide) cx ie;obtain⟨bb,off,cs,rfl,j1,ec⟩:=f7.load jA.len em;obtain⟨xa2,xk2,rfl,cA⟩:=j1;have jf:xs.drop i=x::xs.drop (i+1):=by
   rw[S5 eo];rw[SC eo]at em;rw[Tk em]
  rw[jf]at eg;obtain⟨m'',aa,b2,rfl,f2,jd,gc,ef⟩:=Au eg;have c8:=ef.le;simp only[Tu]at c8;apply RG;simp only[go_sem,hv,iv,pt];refine⟨by omega,?_⟩;refine Qz (l:=[iv x.at',sD xa2 xk2 x.cond,rD x.cond,.int .u8 x.kind,.string ⟨⟨x.text⟩⟩]) (v:=.agg #[iv x.at',sD xa2 xk2 x.cond,rD x.cond,.int .u8 x.kind,.string ⟨⟨x.text⟩⟩]) rfl (cellsU cn (.head _) ec) (.inl ⟨eS,rfl⟩) ?_;apply RG;simp only[go_sem,iv,pt,sD,rD];refine NB cn [0,1,2,3] rfl gC (by rfl) (ps:=[]) (F:=[sg pb _,D14,A14,B14]) rfl (gx (h:=x) (by omega) cA) fun v mi qs d4 c7 hq=>?_;obtain⟨rfl,gq⟩:=hq;simp only[SS,SU]at d4 |-;apply RG;simp only[go_sem,iv,pt,sD,rD];refine NB d4 [0,1,2,3] rfl gy (by rfl) (ps:=[]) (F:=[sg pb _,D14,A14,B14]) rfl (iz (s:=ny)) fun vi mc qs d3 cb hq=>?_;obtain⟨rfl,eh⟩:=hq;simp only[SS,SU]at d3 |-;obtain⟨fi2,first2,cap2,rfl,gi2,ci2⟩:=id eh;apply RG;simp only[go_sem,iv,pt,sD,rD];have hD:=Ui c7 cb;obtain⟨ys,rest,e3⟩:∃yes g,aC ts (bh x) (bj ny)=(yes,g):=⟨_,_,rfl⟩;have f3:=dH h.ok (bm cx b0) (is:=bj ny);have hU:=eR h.ok (bm cx b0) (bj ny);have ga:=cI h.ok (bm cx b0) (bj ny);refine NB d3 [0,1,2,3] rfl gX (by rfl) (ps:=[sg pb _]) (F:=[D14,A14,B14]) rfl (gT (hw.le hD) (gq.le cb) (bm cx b0) eh) fun v mb qs d2 c6 hq=>?_;obtain⟨A17,B17,va17,vb17,rfl,rfl,b4,cr⟩:=hq;rw[e3]at b4 cr f3 hU ga f2 gc;simp only at b4 cr f3 hU ga f2 gc;obtain⟨ysa,ysc,rfl⟩:=b4.shape;simp only[SS,SU]at d2 |-;apply RG;simp only[go_sem,iv,pt,sD,rD];refine ab d2 [1,0,2,3,4,5] rfl fun d1=>?_;simp only[Z4]at d1 |-;refine ag d1 fun li fs a9 hk=>?_
  have j5:m9 li (.slice ysa ys.length ysc) ys:=b4.sl a9 hk;refine ab fs [1,0,2,3,4] rfl fun d0=>?_;simp only[Z4]at d0 |-;refine ag d0 fun ld fr a7 g6=>?_;have gl:du ld vb17 rest:=cr.sl (Ui a9 a7) g6;have eH:=Ui hD (Ui c6 (Ui a9 a7));have k6:=hw.le eH;refine NB fr [0,1,2,3] rfl pp (by rfl) (ps:=[sg pb _,D14]) (F:=[A14,B14]) rfl (ih m'' (by omega) _ _ f2 ho k6 gl ga (hE.le eH) (by simp only[Tu];omega)) fun v ma qs dT ca hq=>?_;obtain⟨dv20,D20,rs,rfl,gt,⟨A20,B20,va20,vb20,rfl,rfl,hj,g5⟩,ek,ka⟩:=hq;simp only[SS,SU]at dT |-;apply RG;simp only[go_sem,iv,pt,sD,rD];refine ab dT [2,0,1,3,4,5] rfl fun dI=>?_;simp only[Z4]at dI |-;refine ag dI fun lc fo a5 hh=>?_;have gg:db lc va20 aa.l:=hj.sl a5 hh;refine ab fo [2,0,1,3,4] rfl fun dA=>?_;simp only[Z4]at dA |-;refine ag dA fun lb fn a4 g4=>?_;have gk:du lb vb20 aa.f:=g5.sl (Ui a5 a4) g4;have k2022:=Ui a5 a4;have eA:=Ui eH (Ui ca k2022);refine NB fn [2,0,1,3] rfl eQ (by rfl) (ps:=[A14]) (F:=[sg pb _,D20,B14]) rfl (ge (hA.le eA) (db.le gg a4) (by rw[e8];simp[aF]) jd) fun v23 l5 qs dy ac hq=>?_;obtain⟨A23,rfl,hg⟩:=hq;simp only[SS,SU]at dy |-;apply RG;simp only[go_sem,iv,pt,sD,rD];refine NB dy [3,0,1,2] rfl dp (by rfl) (ps:=[B14]) (F:=[A23,sg pb _,D20]) rfl (b7 (N:=ts.length) (by omega) (hB.le (Ui eA ac)) gn (gk.le ac) ek) fun v24 h5 qs dx ao hq=>?_;obtain⟨B24,rfl,g3⟩:=hq;simp only[SS,SU]at dx |-;apply RG;simp only[go_sem,iv,pt,sD,rD]
  refine ab dx [2,3,1,0] rfl fun ds=>?_;simp only[Z4]at ds |-;have h6:=Ui eA (Ui ac ao);have k1824:=Ui a7 (Ui ca (Ui k2022 (Ui ac ao)));have ed:=j5.le k1824;have k2024:=Ui k2022 (Ui ac ao);refine aB (fun x=>ys.length-x.1) (N0 pb (.slice (some ⟨bb,off,none⟩) xs.length xsc) xs.length i (.slice ysa ys.length ysc) ys.length) (Rq pb ts lv fv ov o m'' ys b2 (e++(ee++aa.e)) h5) (0,m'',v23,v24,dv20) (ae (by simp only[go_sem,Tq,iv,pt])) (by simp only[go_sem,Tq,N0]) ?_ ?_
  ·exact⟨h5,D20,A23,B24,_,_,_,rfl,ds,Uj _,S6 _,R7 _,gc,hg.le ao,by rw[bI];exact e8,g3,gn.joinAll ek,by simpa[Te]using gt.le k2024⟩
  rintro⟨j,m3,vc,vd,dw⟩ H ⟨h4,D25,A25,B25,l2,out2,ee2,rfl,b1,an,i5,e5,bx,et,ep,es,b3,er⟩ aS;simp only at i5 e5 bx et es er;simp only[N0];have f5:m9 h4 (.slice ysa ys.length ysc) ys:=ed.le an;have hC:=Ui h6 an;have h2:=hw.le hC;rcases Sw j ys.length with a0|ja
  ·have hu:decide ((j:Int)<(ys.length:Int))=true:=by simp;omega
   have f1:=wrap64 (n:=j+1) (by omega);have f1':IntKind.i64.wrap ((j:Int)+1)=((j+1:Nat):Int):=by rw[<-f1];congr 1
   obtain⟨y,el⟩:∃y,ys[j]?=some y:=⟨_,SC a0⟩;have h9:=Tg el;obtain⟨hH,ia⟩:=f3 y h9;have h8:y.text≠[]:=by
    have:y.text=ny:=by simpa[bj]using ia
    rw[this];decide
   obtain⟨bc,off2,cs2,rfl,f0,cp⟩:=f5.load jA.len el;obtain⟨ya,yk,rfl,b6⟩:=f0;have fh:ys.drop j=y::ys.drop (j+1):=by
    rw[S5 a0];rw[SC a0]at el;rw[Tk el]
   rw[fh]at bx;obtain⟨m4,rfl,i2,e0⟩:=AQ bx;apply RG;simp only[go_sem,hu,iv,pt];refine⟨by omega,?_⟩;refine Qz (l:=[iv y.at',sD ya yk y.cond,rD y.cond,.int .u8 y.kind,.string ⟨⟨y.text⟩⟩]) (v:=.agg #[iv y.at',sD ya yk y.cond,rD y.cond,.int .u8 y.kind,.string ⟨⟨y.text⟩⟩]) rfl (cellsU b1 (.head _) cp) (.inl ⟨eS,rfl⟩) ?_;apply RG;simp only[go_sem,iv,pt,sD,rD];by_cases cf:o=64
   ·have hY:=i2 cf;have ap:=hY.le;simp only[Tu]at ap;subst cf;refine NB b1 [0,1,2,3] rfl gz (by rfl) (ps:=[sg pb _,D25]) (F:=[A25,B25]) rfl (ke h2 hH.le b6 er (by simp[bR]at ap |-;omega)) fun v h3 qs bs am hq=>?_;obtain⟨dv26,D26,rs,rfl,gs,rfl,rfl⟩:=hq;simp only[SS,SU]at bs |-;apply RG;simp only[go_sem,iv,pt,sD,rD,f1',T7];exact aS (j+1,m4,vc,vd,dv26) _ _ (by simp only;omega) (ae (by simp only[go_sem,Tq,iv,pt])) (by simp only[go_sem,Tq,N0]) ⟨h3,D26,A25,B25,_,_,_,rfl,bs,Ui an am,a0,by simp only;omega,hY,et.le am,ep,es.le am,b3,by simpa[Te]using gs⟩
   ·obtain⟨a6,j2,e9,hW⟩:=e0 cf;have c4:=hW.le;simp only[Tu]at c4;refine NB b1 [0,1,2,3] rfl gz (by rfl) (ps:=[sg pb _]) (F:=[D25,A25,B25]) rfl (iV (h:=y) (a:=ya) (k:=yk) (by omega)) fun v h3 qs bs am hq=>?_;obtain⟨rfl,rfl,rfl⟩:=hq;simp only[SS,SU]at bs |-;apply RG;simp only[go_sem,iv,pt,sD,rD,f1',Ud];refine NB bs [0,1,2,3] rfl BP (by rfl) (ps:=[sg pb _,D25]) (F:=[A25,B25]) rfl (ih m4 (by omega) (.branch (o+1) y 2) a6 j2 (by omega) h8 h2 hH b6 er (by simp only[Tu];omega)) fun v l3 qs dk c5 hq=>?_;obtain⟨dv27,D27,rs,rfl,gr,⟨A27,B27,va27,vb27,rfl,rfl,hf,g2⟩,ei,j9⟩:=hq;simp only[SS,SU]at dk |-;apply RG;simp only[go_sem,iv,pt,sD,rD];refine ab dk [2,0,1,3,4,5] rfl fun dj=>?_;simp only[Z4]at dj |-;refine ag dj fun la fl a3 g8=>?_;have gf:db la va27 a6.l:=hf.sl a3 g8;refine ab fl [2,0,1,3,4] rfl fun dd=>?_;simp only[Z4]at dd |-;refine ag dd fun k9 fk a2 g1=>?_;have gj:du k9 vb27 a6.f:=g2.sl (Ui a3 a2) g1;have k2729:=Ui a3 a2;have ez:=Ui c5 k2729;refine NB fk [2,0,1,3] rfl eQ (by rfl) (ps:=[A25]) (F:=[sg pb _,D27,B25]) rfl (ge (et.le ez) (db.le gf a2) (by rw[ep];simp[aF]) e9) fun v30 l0 qs dc ak hq=>?_;obtain⟨A30,rfl,g7⟩:=hq;simp only[SS,SU]at dc |-;apply RG;simp only[go_sem,iv,pt,sD,rD];refine NB dc [3,0,1,2] rfl dp (by rfl) (ps:=[B25]) (F:=[A30,sg pb _,D27]) rfl (b7 (N:=ts.length) (by omega) (es.le (Ui ez ak)) b3 (gj.le ak) ei) fun v31 k8 qs cm a1 hq=>?_;obtain⟨B31,rfl,g0⟩:=hq;simp only[SS,SU]at cm |-
    apply RG;simp only[go_sem,iv,pt,sD,rD];refine Qz (l:=[.int .i64 ((o+1:Nat):Int)]) rfl (cellsU cm (.tail _ (.tail _ (.tail _ (.head _)))) (aU (by simp[bD]) rfl)) (.inr ⟨mF,rfl⟩) ?_;apply RG;simp only[go_sem,iv,pt,sD,rD,iq o ho];refine ab cm [2,3,1,0] rfl fun da=>?_;simp only[Z4]at da |-;refine cG da rfl rfl rfl rfl rfl (by exact Gn) (by simp) fun fj=>?_;apply RG;simp only[go_sem,iv,pt,sD,rD,f1'];exact aS (j+1,m4,v30,v31,dv27) _ _ (by simp only;omega) (ae (by simp only[go_sem,Tq,iv,pt])) (by simp only[go_sem,Tq,N0]) ⟨k8,D27,A30,B31,_,_,_,rfl,fj,Ui an (Ui ez (Ui ak a1)),a0,by simp only;omega,hW,g7.le a1,by rw[bI];exact ep,g0,b3.joinAll ei,by simpa[Te]using gr.le (Ui k2729 (Ui ak a1))⟩
  ·have i4:j=ys.length:=by omega
   subst i4;have hu:=Z6 ys.length;rw[T4]at bx;obtain⟨rfl,rfl,rfl⟩:=CO bx;apply RG;simp only[go_sem,hu,iv,pt,k7];exact c0 (i+1,m'',vc,vd,dw) _ _ (by simp only;omega) (ae (by simp only[go_sem,Tq,iv,pt])) (by simp only[go_sem,Tq,Pv]) ⟨h4,D25,A25,B25,_,_,_,rfl,b1,Ui ba hC,eo,by simp only;omega,ef,et,ep,es,b3,by simpa[Te]using er⟩
 ·have i6:i=xs.length:=by omega
  subst i6;have hv:=Z6 xs.length;rw[T4]at eg;obtain⟨rfl,rfl,rfl⟩:=Em eg;apply RG;simp only[go_sem,hv,iv,pt];exact ai rfl cn (r:=[va,vb]) rfl hF ⟨_,D14,[A14,B14],rfl,hE,⟨A14,B14,va,vb,rfl,rfl,hA,hB⟩,gn,by rw[e8];simp[aF]⟩
end
end Go.Proofs.YtfaclfkpnmcmlaaGreatDoor
namespace Syn
open Dg
theorem IP{a b:T}(ha:a.ok 0)(hb:b.ok 0):(a.or b).card<=a.card+b.card:=by
 have h1:(a.or b).card=a.card+(b.and a.not).card:=T.card_add fun c=>by
  rw[T.or_at ha hb,T.and_at hb (T.not_ok ha),T.not_at];cases a.at' c<;>cases b.at' c<;>rfl
 have h2:(b.and a.not).card<=b.card:=T.card_mono fun c=>by
  rw[T.and_at hb (T.not_ok ha)];intro h;simp at h;exact h.1
 omega
theorem FP{a b:T}(ha:a.ok 0)(hb:b.ok 0):(a.and b).card+(a.and b.not).card=a.card:=by
 refine(T.card_add fun c=>?_).symm;rw[T.and_at ha hb,T.and_at ha (T.not_ok hb),T.not_at];cases a.at' c<;>cases b.at' c<;>rfl
def lp(N:Nat)(a:Nat)(d:T):Nat:=d.card*(N+1-a)
def dJ(N:Nat)(f:ah):Nat:=(f.map fun s=>lp N s.1 s.2).sum
def hp(N:Nat)(h:ay):Nat:=lp N h.at' h.cond
def dD(N:Nat)(hs:List ay):Nat:=(hs.map (hp N)).sum
theorem cQ(N:Nat):dJ N []=0:=rfl
theorem eG(N:Nat)(s:Nat×T)(f:ah):dJ N (s::f)=lp N s.1 s.2+dJ N f:=by simp[dJ]
theorem mo(N:Nat):dD N []=0:=rfl
theorem aX(N:Nat)(h:ay)(hs:List ay):dD N (h::hs)=hp N h+dD N hs:=by simp[dD]
theorem M9{N a:Nat}{d e:T}(hd:d.ok 0)(he:e.ok 0):lp N a (d.or e)<=lp N a d+lp N a e:=by
 unfold lp;rw[<-Ta];exact Tb _ (IP hd he)
theorem Fe{N a:Nat}{d:T}(hd:d.ok 0)(aa:d≠ff)(ha:a<=N):1<=lp N a d:=by
 have h1:=T.card_pos hd aa;unfold lp;exact R8 (by omega) (Nat.mul_le_mul h1 (show 1<=N+1-a by omega))
theorem JD{N a:Nat}{d:T}(ha:a<=N):lp N (a+1) d+d.card=lp N a d:=by
 unfold lp;rw[show N+1-a=(N+1-(a+1))+1 by omega,Nat.mul_add,Nat.mul_one]
theorem IL{N a b:Nat}(d:T)(h:a<=b):lp N b d<=lp N a d:=Nat.mul_le_mul_left _ (by omega)
theorem Hy{N:Nat}{f:ah}(hf:∀s∈f,s.2.ok 0){a:Nat}{d:T}(hd:d.ok 0):dJ N (qV f a d)<=dJ N f+lp N a d:=by
 induction f with
 |nil=>simp[qV,dJ]
 |cons s f ih=>
  obtain⟨b,e⟩:=s;have:=ih fun t ht=>hf t (.tail _ ht);simp only[qV];split
  ·rw[eG,eG];omega
  ·split
   ·rename_i h2;have:=M9 (N:=N) (a:=b) (hf _ (.head _)) hd;simp only[eG]at *;subst h2;omega
   ·simp only[eG];omega
theorem gV{N:Nat}{f:ah}(hf:∀s∈f,s.2.ok 0){a:Nat}{d:T}(hd:d.ok 0):dJ N (join f a d)<=dJ N f+lp N a d:=by
 unfold join;split
 ·omega
 ·exact Hy hf hd
theorem bG.all{f:ah}(h:bG f):∀s∈f,s.2.ok 0:=fun s hs=>(h.1 s hs).1
theorem dh{N:Nat}{g:ah}(hg:∀s∈g,s.2.ok 0):∀{f:ah},bG f->dJ N (joinAll f g)<=dJ N f+dJ N g:=by
 induction g with
 |nil=>intro f _;simp[joinAll,dJ]
 |cons s g ih=>
  intro f hf;have h1:=gV (N:=N) hf.all (a:=s.1) (hg s (.head _));have h2:=ih (fun t ht=>hg t (.tail _ ht)) (f:=join f s.1 s.2) (de hf (hg s (.head _)));unfold joinAll at *;simp only[Sj,eG];omega
theorem tQ{N:Nat}:∀{l:List Tok} {a:ah} {i:Nat} {d:T},bu l->bG a->d.ok 0->dJ N (dE a l i d)<=dJ N a+lp N i d
 | [],a,i,d,hl,ha,hd=>gV ha.all hd
 |t::l,a,i,d,hl,ha,hd=>by
  simp only[dE];split
  ·omega
  ·have ht:=hl t (.head _);have h1:=gV (N:=N) ha.all (a:=i) (T.and_ok hd ht);have h2:=tQ (N:=N) (l:=l) (a:=join a i (d.and t.cond)) (i:=i+1) (d:=d.and t.cond.not) (fun x hx=>hl x (.tail _ hx)) (de ha (T.and_ok hd ht)) (T.and_ok hd (T.not_ok ht));have h3:=IL (N:=N) (a:=i) (b:=i+1) (d.and t.cond.not) (by omega);have h4:lp N i (d.and t.cond)+lp N i (d.and t.cond.not)=lp N i d:=by
    unfold lp;rw[<-Ta,FP hd ht]
   omega
theorem ux{N:Nat}{ts:List Tok}(aa:bu ts){f:ah}(hf:∀s∈f,s.2.ok 0):dJ N (dm ts f)<=dJ N f:=by
 have key:∀(f:ah) (a:ah),(∀s∈f,s.2.ok 0)->bG a->dJ N (f.foldl (fun at' s=>dE at' (ts.drop s.1) s.1 s.2) a)<=dJ N a+dJ N f:=by
  intro f
  induction f with
  |nil=>intro a _ _;simp[dJ]
  |cons s f ih=>
   intro a h1 h2;have h3:=tQ (N:=N) (aa.drop s.1) h2 (i:=s.1) (h1 s (.head _));have h4:=ih (dE a (ts.drop s.1) s.1 s.2) (fun t ht=>h1 t (.tail _ ht)) (uS (aa.drop _) h2 (h1 s (.head _)));simp only[Sj,eG];omega
 have:=key f [] hf bG.nil;rw[cQ,Sf]at this;exact this
theorem zy(N:Nat)(ts:List Tok):∀(f:ah),dD N (f.map (cL ts))=dJ N f
 | []=>rfl
 |s::f=>by
  have h:=zy N ts f;have e:hp N (cL ts s)=lp N s.1 s.2:=by unfold hp;rw[ik,gN]
  rw[Tf,aX,eG,h,e]
theorem lZ(N:Nat){h:ay}:∀{hs:List ay},h∈hs->hp N h<=dD N hs
 | [],hm=>(SW hm).elim
 |x::hs,hm=>by
  rw[aX];rcases List.mem_cons.1 hm with e|e
  ·subst e;omega
  ·have:=lZ N e;omega
section
variable {ts:List Tok} {f:ah}
theorem fw(aa:bu ts)(fn:FN ts.length f){N:Nat}:dD N (bk ts f)<=dJ N f:=by
 rw[jk aa fn.ok,zy];exact ux aa fn.ok.all
theorem iH.pos{h:ay}(k:iH ts h):1<=hp ts.length h:=Fe k.ok k.ne k.le
theorem iH.next{h:ay}(k:iH ts h):lp ts.length (h.at'+1) h.cond+1<=hp ts.length h:=by
 have h1:=JD (d:=h.cond) k.le;have h2:=T.card_pos k.ok k.ne;unfold hp;omega
theorem rC(fn:FN ts.length f)(h:f≠[]):1<=dJ ts.length f:=by
 cases f with
 |nil=>exact absurd rfl h
 |cons s f=>
  have:=Fe (fn.ok.1 s (.head _)).1 (fn.ok.1 s (.head _)).2 (fn.le s (.head _));rw[eG];omega
theorem bi(h:ay)(N:Nat):dJ N (bh h)=lp N (h.at'+1) h.cond:=by simp[bh,dJ]
theorem eB(h:ay)(N:Nat):dJ N (bA h)=hp N h:=by simp[bA,dJ,hp]
theorem mX{hs:List ay}{N:Nat}(hh:∀h∈hs,h.cond.ok 0):∀{f:ah},bG f->dJ N (hs.foldl joinH f)<=dJ N f+dD N hs:=by
 induction hs with
 |nil=>intro f _;simp[dD]
 |cons h hs ih=>
  intro f hf;have h0:=hh h (.head _);have h1:=gV (N:=N) hf.all (a:=h.at') h0;have h2:=ih (fun t ht=>hh t (.tail _ ht)) (f:=joinH f h) (de hf h0);simp only[Sj,aX,hp];unfold joinH at *;omega
theorem tV{hs:List ay}(hh:∀h∈hs,iH ts h):∀{f:ah},bG f->dJ ts.length (hs.foldl joinH1 f)+hs.length<=dJ ts.length f+dD ts.length hs:=by
 induction hs with
 |nil=>intro f _;simp[dD]
 |cons h hs ih=>
  intro f hf;have h0:=hh h (.head _);have h1:=gV (N:=ts.length) hf.all (a:=h.at'+1) h0.ok;have h2:=ih (fun t ht=>hh t (.tail _ ht)) (f:=joinH1 f h) (de hf h0.ok);have h3:=h0.next;simp only[Sj,aX,SB];unfold joinH1 at *;omega
theorem ze(N:Nat)(is:ay->Bool)(hs:List ay):dD N (hs.filter is)+dD N (hs.filter fun h=>!is h)=dD N hs:=by
 induction hs with
 |nil=>rfl
 |cons h hs ih=>
  cases e:is h<;>simp only[TU,e,Ud,T7,reduceIte,aX,Tp]<;>omega
theorem fZ(aa:bu ts)(fn:FN ts.length f)(is:ay->Bool):dD ts.length (aC ts f is).1+dJ ts.length (aC ts f is).2<=dJ ts.length f:=by
 rw[kR];have h1:=ze ts.length is (bk ts f);have h2:=mX (N:=ts.length) (hs:=(bk ts f).filter fun h=>!is h) (fun h hh=>(bz aa fn (List.mem_filter.1 hh).1).ok) bG.nil;have h3:=fw aa fn (N:=ts.length);rw[cQ]at h2;show dD ts.length ((bk ts f).filter is)+dJ ts.length (((bk ts f).filter fun h=>!is h).foldl joinH [])<=_;omega
theorem sM{hs:List ay}(hh:∀h∈hs,iH ts h):hs.length<=dD ts.length hs:=by
 induction hs with
 |nil=>exact R7 _
 |cons h hs ih=>
  have h1:=(hh h (.head _)).pos;have h2:=ih fun t ht=>hh t (.tail _ ht);rw[aX,SB];omega
theorem j6(h:ay)(k:Nat):(bR h k).length=2:=rfl
theorem gu(aa:bu ts)(fn:FN ts.length f)(s:bM):(take ts f s).2.length+3*dJ ts.length (take ts f s).1<=3*dJ ts.length f:=by
 have key:∀(hs:List ay) (z:ah×List bX),(∀h∈hs,iH ts h)->bG z.1->(hs.foldl (eV s) z).2.length+3*dJ ts.length (hs.foldl (eV s) z).1<=z.2.length+3*dJ ts.length z.1+3*dD ts.length hs:=by
  intro hs
  induction hs with
  |nil=>intro z _ _;simp[dD]
  |cons h hs ih=>
   intro z hh hz;have h0:=hh h (.head _);simp only[Sj,aX];have hk:=h0.next;have ac:=h0.pos;by_cases e:h.text=s
   ·have e2:eV s z h=(join z.1 (h.at'+1) h.cond,z.2):=by simp[eV,e]
    have h1:=gV (N:=ts.length) hz.all (a:=h.at'+1) h0.ok;have:=ih (eV s z h) (fun t ht=>hh t (.tail _ ht)) (by rw[e2];exact de hz h0.ok);rw[e2]at this |-;simp only at this;omega
   ·have e2:eV s z h=(z.1,z.2++bR h 10):=by simp[eV,e]
    have:=ih (eV s z h) (fun t ht=>hh t (.tail _ ht)) (by rw[e2];exact hz);rw[e2]at this |-;simp only[Tu,j6]at this;omega
 have:=key (bk ts f) ([],[]) (fun h hh=>bz aa fn hh) bG.nil;rw[pV];have h3:=fw aa fn (N:=ts.length);simp only[cQ,S9]at this;omega
def Sp(N w:Nat)(r:bE):Prop:=r.e.length+r.l.length+3*dJ N r.f<=w
theorem jV(ac:bu ts)(fn:FN ts.length f)(kind slot:Nat):(Sp ts.length (3*dJ ts.length f) (named ts f kind slot)/\(f≠[]->Sp ts.length (3*dJ ts.length f-1) (named ts f kind slot)))/\∀n∈(named ts f kind slot).l,n.kids=[]:=by
 have key:∀(hs:List ay) (z:bE),(∀h∈hs,iH ts h)->bG z.f->(∀n∈z.l,n.kids=[])->Sp ts.length (3*dD ts.length hs+3*dJ ts.length z.f+z.l.length+2*z.e.length-hs.length) ⟨(hs.foldl (bN kind slot) z).l,(hs.foldl (bN kind slot) z).f,(hs.foldl (bN kind slot) z).e++z.e⟩/\∀n∈(hs.foldl (bN kind slot) z).l,n.kids=[]:=by
  intro hs
  induction hs with
  |nil=>intro z _ _ h;refine⟨?_,h⟩;unfold Sp;simp[dD];omega
  |cons h hs ih=>
   intro z hh hz hn;have h0:=hh h (.head _);simp only[Sj,aX,SB];have aa:=sM (ts:=ts) (hs:=hs) fun t ht=>hh t (.tail _ ht);have hk:=h0.next;have am:=h0.pos;by_cases e:h.kind≠1\/dz h.text=true
   ·have e2:bN kind slot z h={ z with e:=z.e++bR h 10 }:=by unfold bN;rw[SI e]
    have:=ih (bN kind slot z h) (fun t ht=>hh t (.tail _ ht)) (by rw[e2];exact hz) (by rw[e2];exact hn);rw[e2]at this |-;refine⟨?_,this.2⟩;have h1:=this.1;unfold Sp at h1 |-;simp only[Tu,j6]at h1 |-;omega
   ·have e2:bN kind slot z h=⟨z.l++[⟨kind,h.text,h.at',slot,[],h.cond⟩],join z.f (h.at'+1) h.cond,z.e⟩:=by unfold bN;rw[Sb e]
    have hj:=gV (N:=ts.length) hz.all (a:=h.at'+1) h0.ok;have:=ih (bN kind slot z h) (fun t ht=>hh t (.tail _ ht)) (by rw[e2];exact de hz h0.ok) (by
     rw[e2];intro n hm;rcases List.mem_append.1 hm with hm|hm
     ·exact hn n hm
     ·simp at hm;subst hm;rfl)
    rw[e2]at this |-;refine⟨?_,this.2⟩;have h1:=this.1;unfold Sp at h1 |-;simp only[Tu,SB,S9]at h1 |-;omega
 have:=key (bk ts f) ⟨[],[],[]⟩ (fun h hh=>bz ac fn hh) bG.nil (fun n h=>(SW h).elim);rw[jn];have h3:=fw ac fn (N:=ts.length);have aa:=sM (ts:=ts) (hs:=bk ts f) fun h hh=>bz ac fn hh;have h1:=this.1;unfold Sp at h1 |-;simp only[cQ,S9,Tq]at h1;refine⟨⟨by omega,fun aj=>?_⟩,this.2⟩;have ak:=rC fn aj;cases hH:bk ts f with
 |nil=>rw[hH]at h1;simp only[mo,S9,List.foldl_nil,cQ]at h1 |-;omega
 |cons h hs=>rw[hH]at h1 h3 aa;simp only[SB]at h1 aa;omega
theorem pQ(aa:bu ts)(fn:FN ts.length f)(slot:Nat):Sp ts.length (3*dJ ts.length f) (f8 ts f slot)/\∀n∈(f8 ts f slot).l,n.kids=[]:=by
 have key:∀(hs:List ay) (z:bE),(∀h∈hs,iH ts h)->bG z.f->(∀n∈z.l,n.kids=[])->Sp ts.length (3*dD ts.length hs+3*dJ ts.length z.f+z.l.length+2*z.e.length) ⟨(hs.foldl (bL slot) z).l,(hs.foldl (bL slot) z).f,(hs.foldl (bL slot) z).e++z.e⟩/\∀n∈(hs.foldl (bL slot) z).l,n.kids=[]:=by
  intro hs
  induction hs with
  |nil=>intro z _ _ h;refine⟨?_,h⟩;unfold Sp;simp[dD];omega
  |cons h hs ih=>
   intro z hh hz hn;have h0:=hh h (.head _);simp only[Sj,aX];have hk:=h0.next;have ac:=h0.pos;by_cases e:h.text≠AI/\h.text≠sB
   ·have e2:bL slot z h={ z with e:=z.e++bR h 10 }:=by unfold bL;rw[SI e]
    have:=ih (bL slot z h) (fun t ht=>hh t (.tail _ ht)) (by rw[e2];exact hz) (by rw[e2];exact hn);rw[e2]at this |-;refine⟨?_,this.2⟩;have h1:=this.1;unfold Sp at h1 |-;simp only[Tu,j6]at h1 |-;omega
   ·have e2:bL slot z h=⟨z.l++[⟨5,h.text,h.at',slot,[],h.cond⟩],join z.f (h.at'+1) h.cond,z.e⟩:=by unfold bL;rw[Sb e]
    have hj:=gV (N:=ts.length) hz.all (a:=h.at'+1) h0.ok;have:=ih (bL slot z h) (fun t ht=>hh t (.tail _ ht)) (by rw[e2];exact de hz h0.ok) (by
     rw[e2];intro n hm;rcases List.mem_append.1 hm with hm|hm
     ·exact hn n hm
     ·simp at hm;subst hm;rfl)
    rw[e2]at this |-;refine⟨?_,this.2⟩;have h1:=this.1;unfold Sp at h1 |-;simp only[Tu,SB,S9]at h1 |-;omega
 have:=key (bk ts f) ⟨[],[],[]⟩ (fun h hh=>bz aa fn hh) bG.nil (fun n h=>(SW h).elim);rw[kJ];have h3:=fw aa fn (N:=ts.length);refine⟨?_,this.2⟩;have h1:=this.1;unfold Sp at h1 |-;simp only[cQ,S9,Tq]at h1;omega
theorem cY{l ks:List Nd}{K:Nat}(h:∀n∈l,n.kids.length<=K)(hk:K+ks.length<=aF):gv l ks=some (give l ks)/\(give l ks).length=l.length/\∀n∈give l ks,n.kids.length<=K+ks.length:=by
 refine⟨?_,by simp[give],?_⟩
 ·unfold gv;rw[SI];rw[SH];intro n hn;have:=h n hn;simp only[SX];omega
 ·intro n hn;obtain⟨m,hm,rfl⟩:=List.mem_map.1 hn;have:=h m hm;simp only[Tu];omega
theorem pJ{l:List Nd}(h:l.length<=aF):ck l=some ():=SI h
theorem vJ(l:List Nd)(d:T):(eF l d).length<=l.length:=List.length_filterMap_le ..
theorem sP(l:List Nd)(d:T):(cM l d).length<=l.length:=List.length_filterMap_le ..
theorem jW(l:List Nd)(d:T):(iA l d).length=l.length:=by cases l<;>rfl
end
end Syn
