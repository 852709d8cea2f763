import Derived.Test.YtfaclfkpnmcmlaaGreatDoorJ08
import Derived.Test.YtfaclfkpnmcmlaaGreatDoorJ15
import Derived.Test.YtfaclfkpnmcmlaaGreatDoorJ16
import Derived.Test.YtfaclfkpnmcmlaaGreatDoorJ19
import Derived.Test.YtfaclfkpnmcmlaaGreatDoorJ22
import Derived.Test.YtfaclfkpnmcmlaaGreatDoorJ23
set_option maxHeartbeats 8000000
set_option linter.all false
open Go.Proofs.Tryz hiding d6 f8
namespace Go.Proofs.YtfaclfkpnmcmlaaGreatDoor
open Go Go.Sx Dg Syn
def Ij:ax prog 84:=⟨_,func84,rfl,rfl⟩
def Pp:ax prog 146:=⟨_,func146,rfl,rfl⟩
variable{l:List M}{v:Value}{I:PH}
def N5(o:bu I v l)(s:l.length<=ao):aT prog 146 #[v] I [] fun r p q=>∃A,q=[A]/\ar p A r l:=by
 intro hd;obtain⟨t,u,rfl,i⟩:=id o;unfold ao at s;refine aP 8 func146 fun w0=>?_;cases t with
 |none=>
  have j:l=[]:=by
   rcases i with h|⟨b,off,xs,e,_⟩
   .exact h
   .cases e
  subst j;refine ai ?_;refine tV rfl rfl (by exact FH) rfl rfl ?_;apply RG;simp only[go_sem,Option.isNone];refine dg hd fun d=>?_;exact az rfl d (r:=[_]) rfl (aC _) ⟨_,rfl,Ow.nil _ _ _ _⟩
 |some a=>refine ai ?_;refine tV rfl rfl (by exact FH) rfl rfl ?_;apply RG;simp only[go_sem,Option.isNone];refine sJ hd (by exact df) rfl rfl rfl rfl rfl af fun b A d f=>?_;refine ai ?_;refine fT d (by exact df) (xs:=([]:List M)) (R:=ae) ⟨[],f,rfl⟩ o (fun{I J c a} h k=>ae.le h k) (fun{I} c a h=>ae.len c a h) (fun{I} c a h=>ae.ones h) rfl rfl rfl rfl (by simp only[bo];omega) (by simp only[bo];unfold maxLen;omega) fun a2 c2 p w m g n=>?_;apply RG;simp only[go_sem,aM];exact az rfl m (r:=[_]) rfl g ⟨_,rfl,n⟩
def La:∀(o:List M) (n:M),aO (lK o n)<=aO o+(aO n.kids+1)
 | [],n=>by simp only[lK,dl,gG];omega
 |m::o,n=>by
  rw[lK];split
  .simp only[dl,lm];omega
  .have:=La o n;simp only[dl];omega
def Ff:∀(l o:List M),aO (l.foldl mq o)<=aO o+aO l
 | [],o=>aR _
 |n::l,o=>by
  have h1:=Ff l (mq o n);have h2:aO (mq o n)<=aO o+(aO n.kids+1):=by
   unfold mq;split
   .omega
   .exact La o n
  rw[gW,dl];omega
def F5{C:Cx}{c:Cf}{σ:St}{H H':PH}(e:H=H')(h:RC C c σ H'):RC C c σ H:=by rw[e];exact h
variable{o:List M}
def UJ{j:Nat}{m m':M}(d:o[j]?=some m)(f:m'.key=m.key)(y u:Value):xW (o.set j m') y u<->xW o y u:=by
 have c:=(List.getElem?_eq_some_iff.1 d).1;constructor
 .rintro⟨i,x,hi,a,b⟩;rw[vX]at hi;split at hi
  .rename_i e;subst e;cases hi
   exact⟨j,m,d,by rw[a,f],b⟩
  .exact⟨i,x,hi,a,b⟩
 .rintro⟨i,x,hi,a,b⟩;by_cases e:i=j
  .subst e;rw[d]at hi;cases hi
   exact⟨i,m',List.getElem?_set_self c,by rw[a,f],b⟩
  .exact⟨i,x,by rw[List.getElem?_set_ne (fun e2=>e e2.symm)];exact hi,a,b⟩
def UK{n:M}(c:∀x∈o,x.key≠n.key)(y u:Value):xW (o++[n]) y u<->(y=ky n.key/\u=E o.length)\/(y≠ky n.key/\xW o y u):=by
 constructor
 .rintro⟨i,x,hi,a,b⟩;rcases aI i o.length with h|h
  .rw[vV h]at hi;refine .inr ⟨fun e=>c x (cY hi) (IH (a.symm.trans e)),i,x,hi,a,b⟩
  .rw[yP h]at hi;have:i-o.length=0:=by
    rcases jt (i-o.length)with h0|h0
    .exact h0
    .rw[fe (by simp;omega)]at hi;cases hi
   rw[this]at hi;cases hi
   exact .inl ⟨a,by rw[b];congr 1;omega⟩
 .rintro(⟨a,b⟩|⟨_,i,x,hi,a,b⟩)
  .exact⟨o.length,n,by simp,a,b⟩
  .exact⟨i,x,by rw[vV (List.getElem?_eq_some_iff.1 hi).1];exact hi,a,b⟩
def xG(h:cz l)(k:eP):cz (en l k):=jV.2 fun x a=>by obtain⟨n,b,_,_,a⟩:=uT a;exact jV.1 (jd.1 (jV.1 h n b)).2 x a
def Ot{k:eP}{d:Nat}(h:cG l<d+1)(b:k∈ks l):cG (en l k)<d:=by
 obtain⟨n,a,_⟩:=te.1 b;have h1:=ry a;rw[pJ]at h1;have h2:cG l<=(d-1)+1:=by omega
 have:=Ha (k:=k) h2;omega
variable{α:Type}
def KC[Inhabited α]{lt:α->α->Bool}{d e:Array α}(p:Sort.PermIn 0 d.size d e)(s:Sort.SortedIn lt 0 d.size e):e.toList.Perm d.toList/\e.toList.Pairwise (fun a b=>lt b a=false):=by
 have g:=p.1;refine⟨?_,List.pairwise_iff_getElem.2 fun i j hi f c=>?_⟩
 .have h:=p.2.2;rw[show e.extract 0 d.size=e by rw[<-g];simp,show d.extract 0 d.size=d by simp]at h;exact h
 .simp only[n8]at hi f;have:=s i j (aF _) c O;rw[getElem!_pos e j f,getElem!_pos e i hi]at this;simpa using this
def rO(vl a:Value)(n:Nat)(x:Nat×Value):St:=⟨dn 87 [(3,.v a),(4,.v x.2),(12,.v vl),(13,.v (E n)),(14,.v (E x.1))],[]⟩
def Jn(l:List M)(a:Nat)(b:PH)(x:Nat×Value)(H:PH):Prop:=∃I Z A l',H=U [I,Z,A,U (l'.map Prod.fst)]/\Dj [I,Z,A,U (l'.map Prod.fst)]/\Dj (l'.map Prod.fst)/\b.le I/\x.1<=l.length/\jv prog Z a 240 (xW (l'.map Prod.snd))/\Ow fw 60 7 I A x.2 l'/\l'.map Prod.snd=(l.take x.1).foldl mq []
def AE(v:Value)(n i:Nat):St:=⟨dn 87 [(4,.v v),(70,.v v),(71,.v (E n)),(72,.v (E i))],[]⟩
def VU{l':List (PH×M)}{j:Nat}{m:M}(h:(l'.map Prod.snd)[j]?=some m):∃K,l'[j]?=some (K,m):=by
 rw[jG]at h;cases a:l'[j]? with
 |none=>rw[a]at h;cases h
 |some p=>rw[a]at h;simp only[cZ,a8]at h;exact⟨p.1,by rw[<-h]⟩
theorem TQ:∀(d:Nat) {I:PH} {v:Value} {l:List M},cG l<d->bu I v l->kH v->cz l->dQ l->aO l<=ao->aT prog 84 #[v] I [] fun r I2 qs=>∃A,qs=[A]/\ar I2 A r (cO d l):=by
 intro d
 induction d with
 |zero=>intro I v l h;omega
 |succ d ih=>
 intro I v l dc hS hC cp d7 dT hd;obtain⟨va,vc,rfl,_⟩:=id hS;have fc:=nX l;unfold ao at dT;refine aP 87 func84 fun w0=>?_
 try simp only[E]
 refine ai ?_;refine Cq 240 hd rfl rfl fun mr M0 et eA=>?_;refine ai ?_;refine dg et fun es=>?_;refine dg es fun er=>?_;refine aj er [2,0,1] fun eq=>?_;apply il (fun x=>l.length-x.1) (rO (.slice va l.length vc) (.map (some mr)) l.length) (Jn l mr I) (fun x H=>x.1=l.length/\Jn l mr I x H) (0,.slice none 0 0)
 .exact ak
 .exact(by simp only[go_sem,Y,rO])
 .exact⟨I,M0,PH.no,[],rfl,eq,List.Pairwise.nil,aC _,aF _,eA.congr fun y u=>⟨fun⟨j,m,h,_⟩=>by simp at h,fun h=>h.elim⟩,Ow.nil _ _ _ _,rfl⟩
 .rintro⟨i,vo⟩ H ⟨I1,V,A1,l',rfl,T,X,B,hi,a9,F,G⟩ z cc;simp only at hi F G;simp only[rO];obtain⟨oa,oc,rfl⟩:=F.shape;rcases aI i l.length with t|el
  rotate_left
  .have:i=l.length:=by omega
   subst this;have dw:decide (((l.length:Nat):Int)<(l.length:Int))=false:=by simp
   apply cD 7;simp only[go_sem,dw,E];exact cc (l.length,.slice oa l'.length oc) _ _ ak (by simp only[go_sem,Y,rO]) ⟨rfl,I1,V,A1,l',rfl,T,X,B,aR _,a9,F,G⟩
  have dw:decide ((i:Int)<(l.length:Int))=true:=by simp;omega
  have dx:=n7 hC t;obtain⟨n,hn⟩:∃n,l[i]?=some n:=⟨_,aZ t⟩;have d2:=cY hn;have ee:=(jd.1 (jV.1 cp n d2)).1;obtain⟨b,off,cs,rfl,ex,ci⟩:=Sl.load ae.len (bu.le hS B) hn;obtain⟨vk,na,nk,rfl,Q,w,cl⟩:=ex.shape;obtain⟨ka,kc,rfl,_⟩:=id w;have N:=lH.of (l:=l) (fun x hx=>(jd.1 (jV.1 cp x hx)).1) i O;have W:(l.take (i+1)).foldl mq []=mq (l'.map Prod.snd) n:=by rw[ji hn,pg,G];rfl
  rw[<-G]at N;have cy:aO (l'.map Prod.snd)+(aO n.kids+1)<=aO l:=by
   rw[G];have h1:=Ff (l.take i) [];rw[gG,ii]at h1;have h2:aO (l.take (i+1))<=aO l:=by
    conv=>rhs;rw[<-tL (i+1) l]
    rw[lm];omega
   rw[ji hn,lm,dl,gG]at h2;omega
  have an:=nX (l'.map Prod.snd);rw[eN]at an;refine dP dw ?_;refine⟨O,?_⟩;refine X5 (l:=[.int .u8 n.kind,.string ⟨⟨n.text⟩⟩,.int .i64 n.tok,.int .i64 n.slot,.slice ka n.kids.length kc,sD na nk n.cond,rD n.cond]) (v:=.agg #[.int .u8 n.kind,.string ⟨⟨n.text⟩⟩,.int .i64 n.tok,.int .i64 n.slot,.slice ka n.kids.length kc,sD na nk n.cond,rD n.cond]) rfl (cellsU T (.head _) ci) (.inl ⟨b9,rfl⟩) ?_;refine cv ?_;refine X4 rfl iG (iE Q) ?_;rintro v H2⟨rfl,rfl⟩;cases cr:decide (n.cond=.lf false)
  rotate_left
  .have em:n.cond=ff:=by simpa using cr
   apply RG;simp only[go_sem,E,sD,rD,cr,dx];exact z (i+1,.slice oa l'.length oc) _ _ bh ak (by simp only[go_sem,Y,rO]) ⟨I1,V,A1,l',rfl,T,X,B,t,a9,F,by simp only;rw[W,mq,ag em]⟩
  have ef:n.cond≠ff:=by simpa using cr
  have cm:mq (l'.map Prod.snd) n=lK (l'.map Prod.snd) n:=ab ef;refine dP cr ?_;refine X4 rfl xf (xv _ _ _ _ _ _ _ _ _ _ _ _) ?_;rintro v H2⟨rfl,rfl⟩;refine cv ?_;have aS:=Sy (pQ.1 d7 n d2);have ec:=a9.atU T (.tail _ (.head _));by_cases da:∃(j:Nat) (m:M),(l'.map Prod.snd)[j]?=some m/\m.key=n.key
  .obtain⟨j,m,hj,c8⟩:=da;obtain⟨Kj,c9⟩:=VU hj;have a5:=(List.getElem?_eq_some_iff.1 c9).1;refine wv (by exact Cm) (by exact Ea) pe (key:=ky n.key) rfl rfl rfl rfl ec aS (E j) true (.inl ⟨rfl,j,m,hj,by rw[c8],rfl⟩) ?_;apply RG;simp only[go_sem,E,sD,rD,cP];have e2:(l'.map Prod.fst)[j]?=some Kj:=by rw[jG,c9];rfl
   obtain⟨ue,ud⟩:=MJ (l:=[I1,V,A1]) T X e2;have a0:Dj [I1,V,A1,Kj,U ((l'.map Prod.fst).eraseIdx j)]:=ud;rw[show U [I1,V,A1,U (l'.map Prod.fst)]=U [I1,V,A1,Kj,U ((l'.map Prod.fst).eraseIdx j)] from ue];clear ue ud;obtain⟨g,cap,cur,xs,ev,rfl,c1,c2,c3,c4,c5,S⟩:=F.open' O fw.len;cases ev
   obtain⟨vkj,ma,mk,a7,bx,aa⟩:=S.get fw.len c9;obtain⟨kja,kjc,rfl⟩:=aa.shape;have ap:l'.length*7<=cur.size:=by rw[c3];exact ch _ c1
   have fi:(j+1)*7<=l'.length*7:=ch _ a5;have am:=pH (k:=5) (m:=2) (e:=60) (g:=g) (cur:=cur) fw.len S (i:=j) a5 ap c4 a7 O;simp only[ls,gV,lz,lB]at am;refine bE [0,1,2,3,4,5,6,7,8,9,10,11,12] [6] [] ?_;refine cF ?_;refine⟨O,?_⟩;refine X6 (l:=[sD ma mk m.cond,rD m.cond]) (v:=.agg #[sD ma mk m.cond,rD m.cond]) rfl (by simpa using cellsU a0 (.tail _ (.tail _ (.head _))) am) (.inl ⟨iB,rfl⟩) ?_;refine cF ?_;refine cE a0 [0,1,2,3] [] [V,_,Kj,_] rfl oC rfl (oL bx Q) ?_;rintro v I6 qs K q⟨rfl,d1⟩;obtain⟨za,zk,rfl⟩:=d1.shape2;simp only[Z3]at K |-;refine cF ?_;refine⟨O,?_⟩;refine iV K [1,0,2,3] fun Z=>?_;refine cT Z rfl rfl rfl rfl rfl rfl (by exact qC) (by simp;omega) fun a6=>?_;refine cF ?_;apply aL;have bc:Ow fw 60 7 I6 (sg g (.cells (bL cur.toList (j*7+5) [sD za zk (m.cond.or n.cond),rD (m.cond.or n.cond)]).toArray 60 (0,0))) (.slice (some ⟨g,0,none⟩) l'.length oc) (l'.set j (Kj,{ m with cond:=m.cond.or n.cond })):=by refine⟨_,?_,qd fw.len (S.mono fun _ _ h=>fw.le h q) (i:=j) a5 a7 (k:=5) (cs:=[sD za zk (m.cond.or n.cond),rD (m.cond.or n.cond)]) (a:=(Kj,{ m with cond:=m.cond.or n.cond })) (by simp) ⟨.slice kja m.kids.length kjc,za,zk,by simp[bL,sD,rD],d1,ar.le aa q⟩⟩;rw[lu];exact tj c5 c1 c2 c3 c4 (by simp;omega)
   have P:Dj [I6,sg g (.cells (bL cur.toList (j*7+5) [sD za zk (m.cond.or n.cond),rD (m.cond.or n.cond)]).toArray 60 (0,0)),V,Kj,U ((l'.map Prod.fst).eraseIdx j)]:=a6
   change RC _ _ _ (U [I6,sg g (.cells (bL cur.toList (j*7+5) [sD za zk (m.cond.or n.cond),rD (m.cond.or n.cond)]).toArray 60 (0,0)),V,Kj,U ((l'.map Prod.fst).eraseIdx j)])
   clear a6 Z K a0 S a7 am;generalize sg g (.cells (bL cur.toList (j*7+5) [sD za zk (m.cond.or n.cond),rD (m.cond.or n.cond)]).toArray 60 (0,0))=A2 at bc P;obtain⟨g2,cap2,cur2,xs2,ev2,rfl,b1,b2,b3,b4,b5,aq⟩:=bc.open' (by rw[lu];omega) fw.len;rw[lu]at ev2 b1 b4 b5;cases ev2
   have ej:(l'.set j (Kj,{ m with cond:=m.cond.or n.cond }))[j]?=some (Kj,{ m with cond:=m.cond.or n.cond }):=List.getElem?_set_self a5;obtain⟨vk2,m2a,m2k,cj,b0,ac⟩:=aq.get fw.len ej;obtain⟨k2a,k2c,rfl⟩:=ac.shape;have cb:j<(l'.set j (Kj,{ m with cond:=m.cond.or n.cond })).length:=by rw[lu];exact a5
   have bs:l'.length*7<=cur2.size:=by rw[b3];exact ch _ b1
   have ca:=pH (k:=4) (m:=1) (e:=60) (g:=g) (cur:=cur2) fw.len aq (i:=j) cb (by rw[lu];exact bs) (by rw[lu];exact b4) cj O;simp only[ls,gV,lz,lB]at ca;have fb:m.kids.length<=aO (l'.map Prod.snd):=by have h1:=vK (cY hj);have h2:=nX m.kids;omega
   have fa:=nX n.kids;refine cv ?_;refine bE [0,1,2,3,4,5,6,7,8,9,10,11,12] [6] [] ?_;refine cF ?_;refine⟨O,?_⟩;refine X6 (l:=[.slice k2a m.kids.length k2c]) (v:=.slice k2a m.kids.length k2c) rfl (by simpa using cellsU P (.tail _ (.head _)) ca) (.inr ⟨zv,rfl⟩) ?_;refine cF ?_;refine iV P [2,0,1,3] fun s=>?_;refine tZ s (by exact df) (ac) (bu.le w q) (fun{I J c a} h k=>ae.le h k) (fun{I} c a h=>ae.len c a h) (fun{I} c a h=>ae.ones h) rfl rfl rfl rfl rfl rfl (by first|omega|(simp only[bm,bo];omega)) (by unfold maxLen;first|omega|(simp only[bm,bo];omega)) fun pa pc I7 K7 C f dd=>?_;refine cF ?_;refine⟨O,?_⟩;refine iV C [1,2,0,3] fun a3=>?_;refine cT a3 rfl rfl rfl rfl rfl rfl (by exact yz) (by simp;omega) fun a2=>?_;refine cF ?_;apply aL;have bb:Ow fw 60 7 I7 (sg g (.cells (bL cur2.toList (j*7+4) [.slice pa (m.kids++n.kids).length pc]).toArray 60 (0,0))) (.slice (some ⟨g,0,none⟩) l'.length oc) (l'.set j (K7,{ m with kids:=m.kids++n.kids,cond:=m.cond.or n.cond })):=by have p:=qd fw.len (aq.mono fun _ _ h=>fw.le h f) (i:=j) cb cj (k:=4) (cs:=[.slice pa (m.kids++n.kids).length pc]) (a:=(K7,{ m with kids:=m.kids++n.kids,cond:=m.cond.or n.cond })) (by simp) ⟨.slice pa (m.kids++n.kids).length pc,m2a,m2k,by simp[bL],b0.le f,dd⟩;rw[List.set_set]at p;refine⟨_,?_,p⟩;rw[lu];exact tj b5 b1 b2 b3 b4 (by simp;omega)
   refine dP dx ?_;obtain⟨ue,ud,uk⟩:=MK (l:=[I7,_,V]) a2 X (by rw[eN];exact a5);have e5:(l'.map Prod.fst).set j K7=(l'.set j (K7,{ m with kids:=m.kids++n.kids,cond:=m.cond.or n.cond })).map Prod.fst:=by rw[List.map_set]
   have e6:(l'.set j (K7,{ m with kids:=m.kids++n.kids,cond:=m.cond.or n.cond })).map Prod.snd=lK (l'.map Prod.snd) n:=by rw[List.map_set,zp N.dist hj c8]
   rw[e5]at ue ud uk;refine F5 ue ?_;refine aj ud [1,0,2] fun a1=>?_;refine z (i+1,.slice (some ⟨g,0,none⟩) l'.length oc) _ _ bh ak (by simp only[go_sem,Y,rO]) ⟨I7,V,_,_,rfl,a1,uk,D B (D q f),t,?_,?_,?_⟩
   .refine a9.congr fun y u=>?_;rw[e6,zp N.dist hj c8];exact UJ (m':={ m with kids:=m.kids++n.kids,cond:=m.cond.or n.cond }) hj rfl y u
   .exact bb
   .simp only;rw[e6,W,cm]
  ·
   have c0:∀x∈l'.map Prod.snd,x.key≠n.key:=fun x hx e=>by obtain⟨j,hj⟩:=List.mem_iff_getElem?.1 hx;exact da ⟨j,x,hj,e⟩
   refine wv (by exact Cm) (by exact Ea) pe (key:=ky n.key) rfl rfl rfl rfl ec aS (E 0) false (.inr ⟨rfl,rfl,fun u ⟨j,m,hj,hk,_⟩=>da ⟨j,m,hj,(IH hk).symm⟩⟩) ?_;apply RG;simp only[go_sem,E,sD,rD,ds];refine zb (by exact Cm) (by exact Ea) (key:=ky n.key) (v:=E l'.length) T rfl (.inl rfl) rfl rfl rfl a9 aS fun M5 a0 ez=>?_;refine cv ?_;refine au a0 [0,1,2] [] [M5,A1,_] rfl Pp rfl (N5 w (by have:=nX n.kids;unfold ao;omega)) ?_;rintro v I6 qs K q⟨K6,rfl,ba⟩;simp only[Z3]at K |-;obtain⟨qa,qc,rfl⟩:=ba.shape;refine cv ?_;refine cH K (by exact df) rfl rfl rfl rfl rfl af fun nb I7 Z f eg=>?_;have ey:Sl fw I7 (.slice (some ⟨nb,0,none⟩) 1 1) [(K6,n)]:=⟨_,_,rfl,.inr ⟨nb,0,_,rfl,bz eg (by simp[av,Value.cells]) (by simp[av,Value.cells,E,sD,rD]),.one ⟨.slice qa n.kids.length qc,na,nk,rfl,Q.le (D q f),ar.le ba f⟩⟩⟩;refine cv ?_;refine aj Z [2,1,0,3] fun a6=>?_;refine fT (R:=fw) (xs:=l') (ys:=[(K6,n)]) a6 (by exact df) (Ow.le (R:=fw) (fun{I J c a} h k=>fw.le h k) F (D q f)) ey (fun{I J c a} h k=>fw.le h k) (fun{I} c a h=>fw.len c a h) (fun{I} c a h=>fw.ones h) rfl rfl rfl rfl (by simp only[bm,bo];omega) (by simp only[bm,bo];unfold maxLen;omega) fun ua uc I8 A8 P c6 e8=>?_;refine dP dx ?_;have s:Dj [I8,A8,M5,K6,U (l'.map Prod.fst)]:=P;obtain⟨ue,ud,uk⟩:=ML (l:=[I8,A8,M5]) s X;rw[show l'.map Prod.fst++[K6]=(l'++[(K6,n)]).map Prod.fst by simp]at ue ud uk;refine F5 ue ?_;refine aj ud [1,0,2] fun C=>?_;have e6:(l'++[(K6,n)]).map Prod.snd=lK (l'.map Prod.snd) n:=by rw[zq c0];simp
   refine z (i+1,.slice ua (l'++[(K6,n)]).length uc) _ _ bh ak (by simp only[go_sem,Y,rO]) ⟨I8,M5,A8,l'++[(K6,n)],rfl,C,uk,D B (D q (D f c6)),t,?_,e8,by simp only;rw[e6,W,cm]⟩;refine ez.congr fun y u=>?_;rw[e6,zq c0,<-show (l'.map Prod.snd).length=l'.length from eN ..];exact UK c0 y u
 rintro⟨i,vo⟩ H ⟨hi,I1,V,A1,l',rfl,T,X,B,_,a9,F,G⟩;simp only at hi F G;subst hi;rw[dO]at G;simp only[rO];obtain⟨oa,oc,rfl⟩:=F.shape;have N:=lH.of (l:=l) (fun x hx=>(jd.1 (jV.1 cp x hx)).1) l.length (aR _);rw[dO,<-G]at N;have cy:aO (l'.map Prod.snd)<=aO l:=by rw[G];have h1:=Ff l [];rw[gG,ii]at h1;exact h1
 have an:=nX (l'.map Prod.snd);have d4:(l'.map Prod.snd).length=l'.length:=eN ..;have a0:Dj [I1,V,A1,U (l'.map Prod.fst)]:=T;refine aj a0 [2,0,1] fun K=>?_;refine aH (c:=.st _) K fun I2 K b8 e7=>?_;have bc:ar I2 A1 (.slice oa l'.length oc) (l'.map Prod.snd):=by obtain⟨xs,h1,h2⟩:=F;exact⟨xs,by rw[d4];exact h1,LR.still b8 h2 fun p hp=>D (s8 X (List.mem_map.2 ⟨p,hp,rfl⟩)) e7⟩
 rw[<-d4]at bc |-;generalize l'.map Prod.snd=o at *;refine bF ?_;have cn:ar I2 A1 (.slice oa o.length oc) o.toArray.toList:=bc;refine au K [1,0] [A1] [V] rfl Pq rfl (VX (d:=o.toArray) cn Ob (by simp;unfold ao;omega)) ?_;rintro v I3 qs Z c7⟨A3,e3,rfl,bb,ea,d9⟩;simp only[Z3]at Z |-;obtain⟨cB,d0⟩:=KC ea d9;have hL:e3.toList=(ks l).map (iJ l):=N.sorted cB d0;have d3:o.length=((ks l).map (iJ l)).length:=by rw[<-hL,cB.length_eq]
 have bb:ar I3 A3 (.slice oa o.length oc) e3.toList:=bb;rw[hL,d3]at bb;rw[d3];clear bc cn F cB d0 d9 ea;have cA:=Lf l;have fh:=Ei l;have cf:∀n∈(ks l).map (iJ l),cG n.kids<d/\cz n.kids/\dQ n.kids/\aO n.kids<=2^40:=fun n hn=>by obtain⟨k,eh,rfl⟩:=List.mem_map.1 hn;refine⟨?_,xG cp k,O3 d7 k,fD (WG l k) dT⟩;show cG (en l k)<d;exact Ot dc eh
 have d5:((ks l).map (iJ l)).length<=aO l:=fD (nX _) cA;rw[Jt];generalize (ks l).map (iJ l)=L at *;refine bF ?_;refine aj Z [1,0] fun a6=>?_;refine bY (fun i=>L.length-i) (AE (.slice oa L.length oc) L.length) (fun i H=>∃I5 A5,H=U [I5,V,A5]/\Dj [I5,V,A5]/\I3.le I5/\i<=L.length/\ar I5 A5 (.slice oa L.length oc) ((L.take i).map (fun(m:M)=>{ m with kids:=cO d m.kids })++L.drop i)) 0 ak (by simp only[go_sem,Y,AE]) ?_ ?_
 .exact⟨I3,A3,rfl,a6,aC _,aF _,bb⟩
 rintro i H ⟨I5,A5,rfl,P,b7,hi,dk⟩ z;simp only[AE];have ei:=D B (D b8 (D c7 b7));rcases aI i L.length with t|el
 .have dv:decide ((i:Int)<(L.length:Int))=true:=by simp;omega
  have e1:IntKind.i64.wrap ((i:Int)+1)=((i+1:Nat):Int):=by rw[<-wrap64 (n:=i+1) O];congr 1
  obtain⟨n,hn⟩:∃n,L[i]?=some n:=⟨_,aZ t⟩;obtain⟨p1,p2,p3,p4⟩:=cf n (cY hn);have a4:((L.take i).map (fun(m:M)=>{ m with kids:=cO d m.kids })++L.drop i).length=L.length:=by simp;omega
  have ek:((L.take i).map (fun(m:M)=>{ m with kids:=cO d m.kids })++L.drop i)[i]?=some n:=by rw[yP (by simp;omega)];simp only[eN,lw,ju (lC t),Nat.sub_self,yR,sw];exact hn
  have ed:((L.take i).map (fun(m:M)=>{ m with kids:=cO d m.kids })++L.drop i).set i { n with kids:=cO d n.kids }=(L.take (i+1)).map (fun(m:M)=>{ m with kids:=cO d m.kids })++L.drop (i+1):=by
   rw[List.set_append_right _ _ (by simp;omega)];simp only[eN,lw,ju (lC t),Nat.sub_self];rw[ji hn,mf,cq];congr 1;have:L.drop i=n::L.drop (i+1):=by rw[js t];rw[aZ t]at hn;rw[cW hn]
   rw[this];rfl
  obtain⟨g,cap,cur,xs,ev,rfl,c1,c2,c3,c4,c5,S⟩:=dk.open' (by rw[a4];omega) ae.len;rw[a4]at ev c1 c4 c5;cases ev
  obtain⟨vk,na,nk,a7,Q,w,cl⟩:=(S.get ae.len ek).shape;obtain⟨ka,kc,rfl,_⟩:=id w;have ap:L.length*7<=cur.size:=by rw[c3];exact ch _ c1
  have fl:(i+1)*7<=L.length*7:=ch _ t;have ca:=pH (k:=4) (m:=1) (e:=60) (g:=g) (cur:=cur) ae.len S (i:=i) (by rw[a4];exact t) (by rw[a4];exact ap) (by rw[a4];exact c4) a7 O;simp only[ls,gV,lz,lB]at ca;refine be dv ?_;refine⟨O,?_⟩;refine X5 (l:=[.slice ka n.kids.length kc]) rfl (by simpa using cellsU P (.tail _ (.tail _ (.head _))) ca) (.inr ⟨zv,rfl⟩) ?_;refine bF ?_;refine au P [0,1] [] [V,_] rfl Ij rfl (ih p1 w cl p2 p3 p4) ?_;rintro v I6 qs s q⟨K6,rfl,ba⟩;simp only[Z3]at s |-;obtain⟨qa,qc,rfl⟩:=ba.shape;have e4:=ba.capN ae.len;refine aj s [0,1,2] fun C=>?_;refine aH C fun I7 C f dd=>?_;have e0:bu I7 (.slice qa (cO d n.kids).length qc) (cO d n.kids):=ar.sl ba f dd;refine bF ?_;refine⟨O,?_⟩;refine aj C [1,0] fun a3=>?_;refine kK a3 rfl rfl rfl rfl rfl (by exact yz) (by simp;omega) fun a2=>?_;refine be e1 ?_;refine aj a2 [1,0] fun a1=>?_;have cx:=D q f;refine z (i+1) _ _ O ak (by simp only[go_sem,Y,AE]) ⟨I7,_,rfl,a1,D b7 cx,t,?_⟩;rw[<-ed];refine⟨_,?_,qd ae.len (S.mono fun _ _ h=>ae.le h cx) (i:=i) (by rw[a4];exact t) a7 (k:=4) (cs:=[.slice qa (cO d n.kids).length qc]) (a:={ n with kids:=cO d n.kids }) (by simp) (ae.mk (n:={ n with kids:=cO d n.kids }) (Q.le cx) e0 e4)⟩;rw[lu,a4];exact tj c5 c1 c2 c3 c4 (by simp;omega)
 .have:i=L.length:=by omega
  subst this;have dv:decide (((L.length:Nat):Int)<(L.length:Int))=false:=by simp
  rw[dO,jk,Y]at dk;refine be dv ?_;refine aj P [0,1] fun s=>?_;refine aH (c:=.st _) s fun I9 s b6 fn=>?_;exact az rfl s (r:=[_]) rfl (D ei b6) ⟨A5,rfl,ar.le dk b6⟩
def Ow.part{R:PH->List Value->α->Prop}{e:TypeId}{size:Nat}{A:PH}{l:List α}(h:Ow R e size I A v l)(j:∀{I} c a,R I c a->c.length=size)(n:∀{I J c a},R I c a->I.le J->R J c a){i:Nat}{x:α}(hi:l[i]?=some x)(k m:Nat)(t:k+m<=size):
  ∃g cap cur c,v=.slice (some ⟨g,0,none⟩) l.length cap/\A=sg g (.cells cur e (0,0))/\l.length*size<=cur.size/\R I c x/\c.length=size/\aX A g (i*size+k) ((c.drop k).take m)/\
   ∀J cs y,I.le J->k+cs.length<=size->R J (bL c k cs) y->Ow R e size J (sg g (.cells (bL cur.toList (i*size+k) cs).toArray e (0,0))) v (l.set i y):=by
 have b:=(List.getElem?_eq_some_iff.1 hi).1;obtain⟨g,cap,cur,xs,ev,rfl,c1,c2,c3,c4,c5,d⟩:=h.open' O fun c a k=>j c a k;have s:l.length*size<=cap*size:=ch _ c1;have o:(i+1)*size<=l.length*size:=ch _ b;rw[ig,qJ]at o;have q:=d.get (fun c a k=>j c a k) hi;have f:=j _ _ q;have u:=pH (k:=k) (m:=m) (e:=e) (g:=g) (cur:=cur) (fun c a k=>j c a k) d b O c4 rfl t;refine⟨g,cap,cur,_,ev,rfl,O,q,f,u,?_⟩;intro J cs y w p r;refine⟨bL xs (i*size+k) cs,?_,?_⟩
 .rw[ev,lu];exact tj c5 c1 c2 c3 c4 O
 .exact qd (fun c a k=>j c a k) (d.mono fun _ _ h=>n h w) b rfl p r
def uR(a:Value)(n i:Nat)(vo:Value):St:=⟨dn 50 [(3,.v vo),(12,.v a),(13,.v (E n)),(14,.v (E i))],[]⟩
theorem TP{l:List aG}(hS:Sl bi I v l)(hl:l.length<=ao)(a9:jb l):aT prog 95 #[v] I [] fun r I2 qs=>∃A,qs=[A]/\bj I2 A r (it l):=by
 intro hd;have b6:=hl;unfold ao at b6;obtain⟨va,vc,rfl,_⟩:=id hS;refine aP 50 func95 fun w0=>?_;refine ai ?_;refine fF hd rfl Pw (N4 hS hl) ?_;rintro v1 I1 qs cb aS⟨K,rfl,hK⟩;refine ai ?_;refine au cb [0] [K] [] rfl Pv rfl (Oq hK hl) ?_;rintro v2 I2 qs bc b5⟨A,rfl,rfl,hA⟩;simp only[Z3]at bc |-;refine ai ?_;have cs:(lU l).length<=l.length:=List.length_filter_le ..;have cn:bj I2 A v2 (lU l).toArray.toList:=hA;refine au bc [0] [A] [] rfl Px rfl (VW cn Oa (by simp;unfold ao;omega)) ?_;rintro v3 I3 qs bb aq⟨A3,e3,rfl,S,cj,ci⟩;simp only[Z3]at bb |-;obtain⟨G,a6⟩:=KC cj ci;have S:bj I3 A3 v2 e3.toList:=S;have G:e3.toList.Perm (lU l):=G;generalize e3.toList=Z at S G a6;have hE:=G.length_eq;have a2:∀d∈Z,d.cond.ok 0:=fun d hd=>a9 d (List.mem_filter.1 (G.mem_iff.1 hd)).1;have cl:∀d,d∈Z<->d∈l/\d.cond≠ff:=fun d=>by rw[G.mem_iff];simp[lU]
 obtain⟨ea,ec,rfl⟩:=S.shape;refine ai ?_;refine dg bb fun b8=>?_;refine aj b8 [1,0] fun b7=>?_;refine bY (fun x=>Z.length-x.1) (fun x=>uR (.slice ea Z.length ec) Z.length x.1 x.2) (fun(x:Nat×Value) H=>∃I5 A5 B o,H=U [I5,A5,B]/\Dj [I5,A5,B]/\I3.le I5/\x.1<=Z.length/\bj I5 A5 (.slice ea Z.length ec) Z/\bj I5 B x.2 o/\o.length<=x.1/\o=(Z.take x.1).foldl nL []) (0,.slice none 0 0) ak (by simp only[go_sem,Y,uR]) ?_ ?_
 .exact⟨I3,A3,PH.no,[],rfl,b7,aC _,aF _,S,Ow.nil _ _ _ _,aR _,rfl⟩
 rintro⟨i,vo⟩ H ⟨I5,A5,B,o,rfl,P,z,hi,W,hB,b3,ho⟩ s;simp only at hi hB b3 ho;simp only[uR];obtain⟨oa,oc,rfl⟩:=hB.shape;rcases aI i Z.length with T|cx
 .have a5:=Z5 i Z.length;have e1:=Z7 i;have wm:=jX (k:=o.length) O;obtain⟨d,ba⟩:∃d,Z[i]?=some d:=⟨_,aZ T⟩;obtain⟨g,cap,cur,c,ev,rfl,c1,c2,hc,cy,am,_⟩:=W.elem (fun{I} c a h=>bi.len c a h) (fun{I J c a} h k=>bi.le h k) ba;cases ev
  obtain⟨ca,ck,rfl,cc⟩:=id hc;have m:(Z.take (i+1)).foldl nL []=nL o d:=by rw[ji ba,pg,<-ho];rfl
  refine dP a5 ?_;refine⟨O,?_⟩;refine X5 (l:=[.int .u8 d.code,.int .i64 d.tok,sD ca ck d.cond,rD d.cond]) (v:=.agg #[.int .u8 d.code,.int .i64 d.tok,sD ca ck d.cond,rD d.cond]) rfl (by simpa using cellsU P (.tail _ (.head _)) am) (.inl ⟨gA,rfl⟩) ?_;refine dP wm ?_;have bx:∀{J},I5.le J->bi J [.int .u8 d.code,.int .i64 d.tok,sD ca ck d.cond,rD d.cond] d:=fun h=>bi.le hc h;rcases jt o.length with h0|h0
  .have b4:o=[]:=List.length_eq_zero_iff.1 h0;have a4:decide ((o.length:Int)-1>=0)=false:=cd O;refine bE [0,1,2,3,4,5,6,7,8,9,10] [6] [] ?_;apply bd;simp only[go_sem,E,sD,rD,a4];apply aL;refine cv ?_;refine cH P (by exact mU) rfl rfl rfl rfl rfl af fun nb I7 N b ap=>?_;have a1:Sl bi I7 (.slice (some ⟨nb,0,none⟩) 1 1) [d]:=⟨_,_,rfl,.inr ⟨nb,0,_,rfl,bz ap (by simp[av,Value.cells]) (by simp[av,Value.cells,E,sD,rD]),.one (bx b)⟩⟩;refine cv ?_;refine aj N [1,0] fun L=>?_;refine fT (R:=bi) (xs:=o) (ys:=[d]) L (by exact mU) (bj.le hB b) a1 (fun{I J c a} h k=>bi.le h k) (fun{I} c a h=>bi.len c a h) (fun{I} c a h=>bi.ones h) rfl rfl rfl rfl (by simp only[bm,bo];omega) (by simp only[bm,bo];unfold maxLen;omega) fun ua uc I8 B8 f u a3=>?_;refine dP e1 ?_;refine aj f [1,0] fun j=>?_;refine s (i+1,.slice ua (o++[d]).length uc) _ _ bh ak (by simp only[go_sem,Y,uR]) ⟨I8,_,B8,o++[d],rfl,j,D z (D b u),T,bj.le W (D b u),a3,by simp;omega,?_⟩;simp only;rw[m,b4];rfl
  .obtain⟨q,F⟩:∃q,o.length=q+1:=⟨o.length-1,O⟩;have eq1:(o.length:Int)-1=(q:Int):=by omega
   have a4:decide ((q:Int)>=0)=true:=bl O;obtain⟨x,hx⟩:∃x,o[q]?=some x:=⟨_,aZ O⟩;have t:o.getLast?=some x:=by rw[List.getLast?_eq_getElem?,F];exact hx
   obtain⟨g2,cap2,cur2,c',ev2,rfl,b1,bs,cf,V,b2⟩:=hB.part (fun{I} c a h=>bi.len c a h) (fun{I J c a} h k=>bi.le h k) hx 0 4 O;obtain⟨g3,cap3,cur3,c3,ev3,eA,_,a0,_,C,aa⟩:=hB.part (fun{I} c a h=>bi.len c a h) (fun{I J c a} h k=>bi.le h k) hx 2 2 O;cases ev2
   simp only[Value.slice.injEq,a8,Addr.mk.injEq,dV,eW]at ev3;obtain⟨eg3,_⟩:=ev3;subst eg3;have ecur:cur2=cur3:=by have:=congrFun eA g2;simp only[sg,co,a8,Obj.cells.injEq,dV,eW]at this;exact this
   subst ecur;clear eA;obtain⟨xa,xk,rfl,cp⟩:=id bs;obtain⟨ya,yk,rfl,b0⟩:=id a0;simp only[ls,gV,lz,lB]at C;have cr:(q+1)*4<=o.length*4:=ch _ O;rw[eq1];refine bE [0,1,2,3,4,5,6,7,8,9,10] [6] [] ?_;apply bd;simp only[go_sem,E,sD,rD,a4];refine⟨O,?_⟩;refine X6 (l:=[.int .u8 x.code,.int .i64 x.tok,sD xa xk x.cond,rD x.cond]) (v:=.agg #[.int .u8 x.code,.int .i64 x.tok,sD xa xk x.cond,rD x.cond]) rfl (by simpa using cellsU P (.tail _ (.tail _ (.head _))) V) (.inl ⟨gA,rfl⟩) ?_;refine cF ?_;refine cE P [0,1] [] [_,_] rfl D0 rfl (Dh (x:=x) (y:=d) bs hc) ?_;rintro v I6 qs N e⟨rfl,rfl⟩;simp only[Z3]at N |-;have hz:=Ou x d;cases hk:decide (x.key=d.key)
   .rw[hk]at hz;have p:nL o d=o++[d]:=by unfold nL;rw[t];simp only;rw[ab (Cg hk)]
    apply bd;simp only[go_sem,E,sD,rD,hz];apply aL;refine dP hz ?_;refine cH N (by exact mU) rfl rfl rfl rfl rfl af fun nb I7 L b ap=>?_;have a1:Sl bi I7 (.slice (some ⟨nb,0,none⟩) 1 1) [d]:=⟨_,_,rfl,.inr ⟨nb,0,_,rfl,bz ap (by simp[av,Value.cells]) (by simp[av,Value.cells,E,sD,rD]),.one (bx (D e b))⟩⟩;refine cv ?_;refine aj L [1,0] fun f=>?_;refine fT (R:=bi) (xs:=o) (ys:=[d]) f (by exact mU) (bj.le hB (D e b)) a1 (fun{I J c a} h k=>bi.le h k) (fun{I} c a h=>bi.len c a h) (fun{I} c a h=>bi.ones h) rfl rfl rfl rfl (by simp only[bm,bo];omega) (by simp only[bm,bo];unfold maxLen;omega) fun ua uc I8 B8 j u a3=>?_;refine dP e1 ?_;refine aj j [1,0] fun Q=>?_;have k8:=D e (D b u);refine s (i+1,.slice ua (o++[d]).length uc) _ _ bh ak (by simp only[go_sem,Y,uR]) ⟨I8,_,B8,o++[d],rfl,Q,D z k8,T,bj.le W k8,a3,by simp;omega,?_⟩;simp only;rw[m,p]
   .rw[hk]at hz;have p:nL o d=o.dropLast++[{ x with cond:=x.cond.or d.cond }]:=by unfold nL;rw[t];simp only;rw[ag (ng hk)]
    have an:o.set q { x with cond:=x.cond.or d.cond }=o.dropLast++[{ x with cond:=x.cond.or d.cond }]:=by
     obtain⟨w,rfl⟩:=List.getLast?_eq_some_iff.1 t;have:w.length=q:=by simp at F;exact F
     rw[List.dropLast_concat,List.set_append_right _ _ O,this];simp
    apply bd;simp only[go_sem,E,sD,rD,hz];apply aL;refine dP hz ?_;refine bE [0,1,2,3,4,5,6,7,8,9,10,11,12] [6] [] ?_;refine cF ?_;refine⟨O,?_⟩;refine X6 (l:=[sD ya yk x.cond,rD x.cond]) (v:=.agg #[sD ya yk x.cond,rD x.cond]) rfl (by simpa using cellsU N (.tail _ (.tail _ (.head _))) C) (.inl ⟨iB,rfl⟩) ?_;refine cF ?_;refine cE N [0,1] [] [_,_] rfl oC rfl (oL (b0.le e) (cc.le e)) ?_;rintro v I7 qs L b⟨rfl,a7⟩;obtain⟨za,zk,rfl⟩:=a7.shape2;simp only[Z3]at L |-;refine cF ?_;refine⟨O,?_⟩;refine iV L [1,0] fun f=>?_;refine cT f rfl rfl rfl rfl rfl rfl (by exact qC) (by simp;omega) fun j=>?_;refine cF ?_;apply aL;refine dP e1 ?_;refine aj j [1,0] fun Q=>?_;have cm:=aa I7 [sD za zk (x.cond.or d.cond),rD (x.cond.or d.cond)] { x with cond:=x.cond.or d.cond } (D e b) (by simp) ⟨za,zk,by simp[bL,sD,rD],a7⟩;have k8:=D e b;refine s (i+1,.slice (some ⟨g2,0,none⟩) o.length oc) _ _ bh ak (by simp only[go_sem,Y,uR]) ⟨I7,_,_,_,rfl,Q,D z k8,T,bj.le W k8,cm,by simp;omega,?_⟩;simp only;rw[m,p,an]
 .have:i=Z.length:=by omega
  subst this;have a5:decide (((Z.length:Nat):Int)<(Z.length:Int))=false:=by simp
  rw[dO]at ho;have ac:=(lE.all Z [] [] lE.nil a2 (by simpa[cQ]using a6)).eq (by simpa using cl) a9;rw[<-ho]at ac;refine aj P [0,1] fun f=>?_;refine aH (c:=.st _) f fun I9 f X cA=>?_;refine be a5 ?_;exact az rfl f (r:=[_]) rfl (D aS (D aq (D z X))) ⟨B,rfl,by rw[<-ac];exact bj.le hB X⟩
def Qm:ax prog 38:=⟨_,func38,rfl,rfl⟩
def DP:ax prog 22:=⟨_,func22,rfl,rfl⟩
def PC:ax prog 19:=⟨_,func19,rfl,rfl⟩
def Qr:ax prog 69:=⟨_,func69,rfl,rfl⟩
def oh(I:PH)(c:List Value)(t:Tr):Prop:=∃a b,c=[a,b]/\bu I a t.kids/\kH a/\Sl bi I b t.diags/\kH b
def oh.le{J:PH}{c:List Value}{t:Tr}(h:oh I c t)(k:I.le J):oh J c t:=by obtain⟨a,b,e,h1,h2,h3,h4⟩:=h;exact⟨a,b,e,bu.le h1 k,h2,SlE.le h3 k,h4⟩
def oh.len(c:List Value)(t:Tr)(h:oh I c t):c.length=2:=by obtain⟨a,b,e,_⟩:=h;rw[e];rfl
def AF(vl:Value)(n:Nat)(x:Nat×Value×Value):St:=⟨dn 32 [(2,.p 2 0),(3,.p 3 0),(6,.v vl),(7,.v (E n)),(8,.v (E x.1))],[⟨2,36,[.slice none 0 0,.slice none 0 0]⟩,⟨3,36,[x.2.1,x.2.2]⟩]⟩
def TS(l:List Tr)(a:PH)(x:Nat×Value×Value)(H:PH):Prop:=∃I A B,H=U [I,A,B]/\Dj [I,A,B]/\a.le I/\x.1<=l.length/\ar I A x.2.1 ((l.take x.1).flatMap (·.kids))/\bj I B x.2.2 ((l.take x.1).flatMap (·.diags))
def Hr{β:Type}(f:α->List β)(i:Nat)(l:List α):((l.take i).flatMap f).length<=(l.flatMap f).length:=by
 conv=>rhs;rw[<-tL i l]
 rw[yM,aE];omega
theorem TN{l:List Tr}(hS:Sl oh I v l)(hl:l.length<=100)(hk:cz (l.flatMap (·.kids)))(hf:dQ (l.flatMap (·.kids)))(hz:aO (l.flatMap (·.kids))<=ao)(he:jb (l.flatMap (·.diags)))(V:(l.flatMap (·.diags)).length<=ao):
  aT prog 38 #[v] I [] fun r I2 qs=>qs=[]/\j6 I2 r (AA l):=by
 obtain⟨va,vc,rfl,_⟩:=id hS;have a3:=nX (l.flatMap (·.kids));have an:=hz;have U:=V;unfold ao at an U;intro hd;refine aP 32 func38 fun w0=>?_;refine ai ?_;refine dg hd fun aS=>?_;refine dg aS fun W=>?_;refine bY (fun x=>l.length-x.1) (AF (.slice va l.length vc) l.length) (TS l I) (0,.slice none 0 0,.slice none 0 0) ak (by simp only[go_sem,Y,AF]) ?_ ?_
 .exact⟨I,_,_,rfl,W,aC _,aF _,Ow.nil _ _ _ _,Ow.nil _ _ _ _⟩
 rintro⟨i,vk,vd⟩ H ⟨I1,A1,B1,rfl,C,m,hi,P,hB⟩ y;simp only at hi P hB;simp only[AF];obtain⟨aa,ac,rfl⟩:=P.shape;obtain⟨ba,bc,rfl⟩:=hB.shape;rcases aI i l.length with T|a4
 .have h9:=Z5 i l.length;have e1:=Z7 i;obtain⟨t,ht⟩:∃t,l[i]?=some t:=⟨_,aZ T⟩;obtain⟨b,off,cs,rfl,a0,F⟩:=Sl.load (fun{I} c a h=>oh.len c a h) (Sl.le (R:=oh) (fun{I J c a} h k=>oh.le h k) hS m) ht;obtain⟨wk,wd,rfl,Q,ap,S,aq⟩:=a0;obtain⟨ka,kc,rfl,_⟩:=id Q;obtain⟨da,dc,rfl,_⟩:=id S;have ek:(l.take (i+1)).flatMap (·.kids)=(l.take i).flatMap (·.kids)++t.kids:=by rw[ji ht,yM];simp
  have ed:(l.take (i+1)).flatMap (·.diags)=(l.take i).flatMap (·.diags)++t.diags:=by rw[ji ht,yM];simp
  have lk:=Hr (fun t:Tr=>t.kids) (i+1) l;have ld:=Hr (fun t:Tr=>t.diags) (i+1) l;rw[ek,aE]at lk;rw[ed,aE]at ld;refine be h9 ?_
  try refine⟨O,?_⟩
  refine X5 (l:=[.slice ka t.kids.length kc,.slice da t.diags.length dc]) (v:=.agg #[.slice ka t.kids.length kc,.slice da t.diags.length dc]) rfl (cellsU C (.head _) F) (.inl ⟨Gp,rfl⟩) ?_;refine bF ?_;refine fT (R:=ae) (xs:=(l.take i).flatMap (·.kids)) (ys:=t.kids) C (by exact df) P Q (fun{I J c a} h k=>ae.le h k) (fun{I} c a h=>ae.len c a h) (fun{I} c a h=>ae.ones h) rfl rfl rfl rfl O (by unfold maxLen;omega) fun ua uc I3 A3 p f N=>?_;refine bF ?_;refine aj p [1,0] fun o=>?_;refine fT (R:=bi) (xs:=(l.take i).flatMap (·.diags)) (ys:=t.diags) o (by exact mU) (bj.le hB f) (SlE.le S f) (fun{I J c a} h k=>bi.le h k) (fun{I} c a h=>bi.len c a h) (fun{I} c a h=>bi.ones h) rfl rfl rfl rfl O (by unfold maxLen;omega) fun wa wc I4 B4 B d L=>?_;refine be e1 ?_;refine aj B [1,0] fun q=>?_;exact y (i+1,.slice ua ((l.take i).flatMap (·.kids)++t.kids).length uc,.slice wa ((l.take i).flatMap (·.diags)++t.diags).length wc) _ _ bh ak (by simp only[go_sem,Y,AF]) ⟨I4,A3,B4,rfl,q,D m (D f d),T,by simp only;rw[ek];exact ar.le N d,by simp only;rw[ed];exact L⟩
 .have:i=l.length:=by omega
  subst this;have h9:decide (((l.length:Nat):Int)<(l.length:Int))=false:=by simp
  have am:=P.capN ae.len;rw[dO]at P hB am |-;refine aj C [0,1] fun p=>?_;refine aH (c:=.st _) p fun I3 p f N=>?_;refine aj p [0] fun o=>?_;refine aH (c:=.st _) o fun I4 o d L=>?_;have hK:=ar.sl (J:=I4) P (D f d) (D N d);have hE:=bj.sl (bj.le hB f) d L;have k4:=D m (D f d);refine be h9 ?_;refine bE [0,1,3,4,2,5,6,7] [] [] ?_;refine bR ?_;refine eY o rfl Ij (TQ (cG (l.flatMap (·.kids))+1) (eO _) hK am hk hf hz) ?_;rintro v5 I5 qs B w⟨K,rfl,s⟩;obtain⟨qa,qc,rfl⟩:=s.shape;have X:=s.capN ae.len;refine bR ?_;refine cE B [0] [] [K] rfl Qx rfl (TP (SlE.le hE w) V he) ?_;rintro v6 I6 qs q u⟨Z,rfl,G⟩;simp only[Z3]at q |-;obtain⟨ra,rc,rfl⟩:=G.shape;have hE6c:=Ow.capN (R:=bi) G (fun c a h=>bi.len c a h);refine bR ?_;apply aL;refine aj q [0,1] fun A=>?_;refine aH (c:=.st _) A fun I7 A j a2=>?_;refine aj A [0] fun z=>?_;refine aH (c:=.st _) z fun I8 z g a1=>?_;refine ai ?_;refine az rfl z (r:=[.agg #[.slice qa (cO (cG (l.flatMap (·.kids))+1) (l.flatMap (·.kids))).length qc,.slice ra (it (l.flatMap (·.diags))).length rc]]) (by simp only[results38,go_sem,E]) (D k4 (D w (D u (D j g)))) ⟨rfl,_,_,rfl,?_,X,?_,hE6c⟩
  .have e:cO (cG (l.flatMap (·.kids))+1) (l.flatMap (·.kids))=(AA l).kids:=AH (aR _) (Nat.le_succ _);rw[e]at s |-;exact ar.sl (ar.le s (D u j)) g a1
  .exact SlE.le (bj.sl G j a2) g
end Go.Proofs.YtfaclfkpnmcmlaaGreatDoor
namespace Syn
open Dg
def tk(k:Nat)(s:al):Tok:=⟨k,s,tt,true⟩
def iK:T:=.nd 0 ff tt
def Fz:List Tok:=[tk 1 [118,97,114],tk 1 [120],tk 3 [58],⟨1,[105,110,116],iK,true⟩,⟨1,[98,111,111,108],iK.not,true⟩,tk 3 [59]]
def vM:List Tok:=[tk 1 [102,110],tk 1 [109,97,105,110],tk 3 [40],tk 3 [41],tk 3 [123],tk 1 [112,114,105,110,116],tk 2 [49],tk 3 [43],tk 2 [50],tk 3 [42],tk 2 [51],tk 3 [59],tk 3 [125]]
def rB:aw:=⟨[⟨2,[120],1,0,[⟨5,[105,110,116],3,0,[],iK⟩,⟨5,[98,111,111,108],4,0,[],iK.not⟩],tt⟩],[(6,tt)],[]⟩
def lA:List M:=[⟨3,[109,97,105,110],1,0,[⟨6,[],4,2,[⟨11,[],5,0,[⟨13,[43],7,0,[⟨15,[49],6,0,[],tt⟩,⟨13,[42],9,1,[⟨15,[50],8,0,[],tt⟩,⟨15,[51],10,1,[],tt⟩],tt⟩],tt⟩],tt⟩],tt⟩],tt⟩]
mutual
def Do:M->M->Bool
 |⟨k,t,o,s,ks,d⟩,⟨k',t',o',s',ks',d'⟩=>decide (k=k') && decide (t=t') && decide (o=o') && decide (s=s') && sS ks ks' && decide (d=d')
def sS:List M->List M->Bool
 | [],[]=>true
 |n::l,m::k=>Do n m && sS l k
 |_,_=>false
end
mutual
theorem OG:∀{a b:M},Do a b=true->a=b
 |⟨k,t,o,s,ks,d⟩,⟨k',t',o',s',ks',d'⟩,h=>by
  simp only[Do,cX,dA]at h
  obtain⟨⟨⟨⟨⟨h1,h2⟩,h3⟩,h4⟩,h5⟩,h6⟩:=h
  rw[h1,h2,h3,h4,Dn h5,h6]
theorem Dn:∀{a b:List M},sS a b=true->a=b
 | [],[],_=>rfl
 |n::l,m::k,h=>by
  simp only[sS,cX]at h
  rw[OG h.1,Dn h.2]
 | [],m::k,h=>by simp[sS]at h
 |n::l,[],h=>by simp[sS]at h
end
def Hh(o:Option aw)(r:aw):Bool:=match o with
 |some x=>sS x.l r.l && decide (x.f=r.f) && decide (x.e=r.e)
 |none=>false
def Hi{o:Option aw}{r:aw}(h:Hh o r=true):o=some r:=by
 cases o with
 |none=>cases h
 |some x=>
  simp only[Hh,cX,dA]at h;obtain⟨⟨h1,h2⟩,h3⟩:=h;cases x;cases r
  simp only at h1 h2 h3;rw[Dn h1,h2,h3]
def Vj:run Fz eU (.seqL true 0 [(0,tt)] [] [])=some rB:=Hi (by decide +kernel)
def rA:aw:=⟨lA,[(13,tt)],[]⟩
def Vi:run vM eU (.seqL true 0 [(0,tt)] [] [])=some rA:=Hi (by decide +kernel)
def Jr:cO (cG (eo rB)) (eo rB)=[⟨1,[],-1,0,rB.l,tt⟩]/\it rB.e=[]:=⟨by rfl,by rfl⟩
def Jq:cO (cG (eo rA)) (eo rA)=[⟨1,[],-1,0,lA,tt⟩]/\it rA.e=[]:=⟨by rfl,by rfl⟩
def Xg:bw vM:=fun t h=>by simp only[vM,tk,jY,dH,or_false]at h;rcases h with h|h|h|h|h|h|h|h|h|h|h|h|h<;>subst h<;>exact trivial
def OO{t:Tr}(h:ml Fz tt t):t=⟨[⟨1,[],-1,0,rB.l,tt⟩],[]⟩:=by
 rcases h with ⟨e,_⟩|⟨_,r,a,b⟩
 .cases e
 .rw[Vj]at a;cases a
  rw[b,Jr.1,Jr.2]
def ON:ml vM tt ⟨[⟨1,[],-1,0,lA,tt⟩],[]⟩:=by refine .inr ⟨by decide,rA,Vi,?_⟩;rw[Jq.1,Jq.2]
def UG{w:T}(a:w.ok 0){t:Tr}(h:ml vM w t){c:aD}(b:w.at' c=true):prj c t=⟨[⟨1,[],-1,0,lA,tt⟩],[]⟩:=by rw[OS Xg a (show tt.ok 0 from trivial) h ON b rfl];rfl
end Syn
namespace Go.Proofs.YtfaclfkpnmcmlaaGreatDoor
open Go Go.Sx Dg Syn
def Kl{K:Type}[DecidableEq K](lt:K->K->Bool)(k:K):∀l:List K,(mT lt k l).length<=l.length+1
 | []=>aR _
 |y::l=>by
  have:=Kl lt k l;simp only[mT];split
  .simp
  .split
   .simp only[bm];omega
   .simp
def Kn{K:Type}[DecidableEq K](lt:K->K->Bool):∀l:List K,(nO lt l).length<=l.length
 | []=>aR _
 |y::l=>by have h1:=Kn lt l;have h2:=Kl lt y (nO lt l);show (mT lt y (nO lt l)).length<=_;simp only[bm];omega
def TI(e:List aG):(it e).length<=e.length:=by unfold it pM;rw[eN];refine fD (Kn _ _) ?_;rw[eN];exact List.length_filter_le ..
def ug(t:Tr):Prop:=aO t.kids<=ao/\t.diags.length<=ao
theorem ug.prj{t:Tr}(c:Nat)(h:ug t):ug (prj (f8 c) t):=⟨fD (BI _ _) h.1,by
 have h2:((t.diags.filter fun d=>d.cond.at' (f8 c)).map fun d=>{ d with cond:=tt }).length<=t.diags.length:=by rw[eN];exact List.length_filter_le ..
 exact fD h2 h.2⟩
def LQ(Z:List Tok)(w:T)(r:Value)(a:PH):Prop:=∃t,ml (Z.map refit) w t/\j6 a r t/\ug t
structure od(I:PH)(v:Value)(Z:List Tok):Prop where
 sh:∃lv ga gn gc,v=.agg #[lv,.slice ga gn gc]/\Sl cR I lv Z
 ok:bw Z
 len:Z.length<=16384
 txt:∀t∈Z,t.text.length<2^40
variable{Z:List Tok}{v:Value}{I:PH}
def od.le{J:PH}(h:od I v Z)(k:I.le J):od J v Z:=
 ⟨let ⟨lv,ga,gn,gc,e,hs⟩:=h.sh;⟨lv,ga,gn,gc,e,Sl.le (R:=cR) (fun{I J c a} h k=>cR.le h k) hs k⟩,h.ok,h.len,h.txt⟩
def vA(h:bw Z):bw (Z.map refit):=fun t ht=>by obtain⟨s,hs,rfl⟩:=List.mem_map.1 ht;exact h s hs
def MQ(h:∀t∈Z,t.text.length<2^40)(i:Nat):(X (Z.map refit) i).length<4611686018427387904:=by
 unfold X fk;split
 .rename_i t ht;split
  .obtain⟨s,hs,rfl⟩:=List.mem_map.1 (cY ht);have:=h s hs;show s.text.length<_;omega
  .simp
 .simp
theorem Dr{vd:Value}{w:T}(hV:ip I)(hT:od I v Z)(Q:bU I vd w):aT prog 22 #[v,vd] I [] fun r I2 U=>U=[]/\LQ Z w r I2:=by
 obtain⟨⟨lv,ga,gn,gc,rfl,hS⟩,t,hl,hx⟩:=hT;obtain⟨la,lc,rfl,_⟩:=id hS;obtain⟨wa,wk,rfl⟩:=Q.shape2;intro hd;refine aP 39 func22 fun w0=>?_
 try simp only[sD,rD,E]
 refine ai ?_;refine X4 rfl iG (iE (Q.le (iH hd))) ?_;rintro v H2⟨rfl,rfl⟩;cases a1:decide (w=.lf false)
 rotate_left
 .have b0:w=ff:=by simpa using a1
  refine ai ?_;exact az rfl hd (r:=[.agg #[.slice none 0 0,.slice none 0 0]]) (by simp only[results22,go_sem,E]) (aC _) ⟨rfl,⟨[],[]⟩,.inl ⟨b0,rfl⟩,⟨_,_,rfl,⟨none,0,rfl,.inl rfl⟩,oo,⟨none,0,rfl,.inl rfl⟩,oo⟩,by exact⟨aF _,aF _⟩⟩
 have q:w≠ff:=by simpa using a1
 refine ai ?_;refine fF hd rfl Qs (T8 hV hS hl hx) ?_;rintro v1 I1 U b3 u⟨pb,fv,rfl,rfl,hF⟩;have hP:iz I1 (Z.map refit) (.slice la Z.length lc) fv:=⟨Sl.refit (Sl.le (R:=cR) (fun{I J c a} h k=>cR.le h k) hS u),hF,by simpa using hl,vA t⟩;obtain⟨r,er,fn,re,rl⟩:=Wp (vA t) Q.1 q (by simpa using hl);obtain⟨q0,_,S⟩:=qB (vA t) Q.1 q er (fun _=>false);have a7:=UB (vA t) (by simpa using hl) Q.1 q er;have bb:=Wq (vA t) (by simpa using hl) (MQ hx) Q.1 q er;obtain⟨a9,_⟩:=xS S.fok S.lok;have cp:aO (dZ (gB r.f) r.l)+1=aO (eo r):=by unfold eo;rw[dl,gG]
 unfold Ep at a7;refine qZ ?_;refine dg b3 fun b2=>?_;refine aj b2 [1,0] fun b1=>?_;refine au b1 [0,1] [sg pb _,_] [] rfl Qt rfl (UW (o:=0) O er hP (Q.le u) q (Ow.nil _ _ _ _) (by have re':=re;unfold ao at re';simp only[bo];unfold lV;omega)) ?_;rintro v2 I2 U a3 am⟨dv2,D2,rs,rfl,z,⟨A,B,va,vb,rfl,rfl,hA,hB⟩,cs,cr⟩;rw[aM]at z;simp only[Z3]at a3 |-;obtain⟨aa,ac,rfl⟩:=hA.shape;obtain⟨ba,bc,rfl⟩:=hB.shape;obtain⟨ea,ec,rfl⟩:=z.shape;have cl:=hA.capN ae.len;have cf:=Ow.capN (R:=bi) z (fun c a h=>bi.len c a h);refine aj a3 [0,1,2,3] fun P=>?_;refine aH P fun I3 P p b4=>?_;refine aj P [0,1,2] fun N=>?_;refine aH N fun I4 N m ci=>?_;refine aj N [0,1] fun L=>?_;refine aH L fun I5 L j cm=>?_;refine aj L [0] fun H=>?_;refine aH H fun I6 H i cj=>?_;have V:=D m (D j i);have a5:=D p V;have W:aX I6 pb 4 [.slice ea r.e.length ec]:=(dt (by simp) rfl:aX (sg pb (bN (.slice la Z.length lc) fv (.slice none 0 0) (.slice ea r.e.length ec) 0)) pb 4 [.slice ea r.e.length ec]).le (D b4 V);have b8:bu I6 (.slice aa r.l.length ac) r.l:=bu.le (ar.sl (ar.le hA (D p m)) j cm) i;have cc:Sl bi I6 (.slice ea r.e.length ec) r.e:=SlE.le (bj.sl (bj.le z p) m ci) (D j i);have cb:bK I6 (.slice ba r.f.length bc) r.f:=Ow.sl (R:=cI) (fun{I J c a} h k=>cI.le h k) (Ow.le (R:=cI) (fun{I J c a} h k=>cI.le h k) hB (D p (D m j))) i cj;have a6:=D am a5;refine ai ?_;refine fF H rfl Qu (Na cb (by have:=fn.len;simp only[eN]at this;omega)) ?_;rintro v3 I7 U a2 g⟨rfl,F⟩;obtain⟨za,zk,rfl⟩:=F.shape2;refine aW ?_;refine X5 (l:=[.slice ea r.e.length ec]) rfl (cellsU a2 (.head _) (W.le g)) (.inr ⟨CM,rfl⟩) ?_;refine cv ?_
 refine bE [0,1,3,2,4,5,6,7] [] [] ?_;refine cF ?_;refine eY a2 rfl Ih (Vz (aO r.l+1) (eO _) (bu.le b8 g) cl F (by unfold ao;omega)) ?_;rintro v4 I8 U aS X⟨K,rfl,hK⟩;obtain⟨ka,kc,rfl⟩:=hK.shape;have ca:=hK.capN ae.len;refine cF ?_;refine im aS (by exact df) rfl rfl rfl rfl rfl af fun nb I9 aq C bs=>?_;refine cF ?_;apply aL;refine aj aq [0] fun x=>?_;refine aH (c:=.st _) x fun a4 x d a0=>?_;have b7:bu a4 (.slice ka (dZ (gB r.f) r.l).length kc) (dZ (gB r.f) r.l):=ar.sl (ar.le hK C) d a0;have s:=D X (D C d);have b6:bu a4 (.slice (some ⟨nb,0,none⟩) 1 1) (eo r):=nV ((bz bs (by simp[av,Value.cells]) (by simp[av,Value.cells,E,sD,rD]):aX I9 nb 0 _).le d) (ae.mk (n:=⟨1,[],-1,0,dZ (gB r.f) r.l,gB r.f⟩) (F.le s) b7 ca);refine cv ?_;refine cH x (by exact VM) rfl rfl rfl rfl rfl af fun mb cn ap b bx=>?_;have b5:Sl oh cn (.slice (some ⟨mb,0,none⟩) 1 1) [⟨eo r,r.e⟩]:=⟨_,_,rfl,.inr ⟨mb,0,_,rfl,bz bx (by simp[av,Value.cells]) (by simp[av,Value.cells]),.one ⟨_,_,rfl,bu.le b6 b,⟨aR _,fun _=>by unfold maxLen;omega⟩,SlE.le cc (D g (D s b)),cf⟩⟩⟩;refine ai ?_;refine fF ap rfl Qm (TN b5 (by simp) (by simpa using a9) (by simpa using bb) (by simp only[pf,List.flatMap_nil,Y];unfold ao;omega) (by simpa using S.eok) (by simpa using re)) ?_;rintro v5 cx U an G⟨rfl,hR⟩;have em:AA [⟨eo r,r.e⟩]=⟨cO (cG (eo r)) (eo r),it r.e⟩:=by simp[AA]
 rw[em]at hR;obtain⟨_,_,rfl,hR⟩:=hR;obtain⟨⟨xa,xc,rfl,_⟩,_,⟨ya,yc,rfl,_⟩,_⟩:=id hR;refine ai ?_;refine az rfl an (r:=[.agg #[.slice xa (cO (cG (eo r)) (eo r)).length xc,.slice ya (it r.e).length yc]]) (by simp only[results22,go_sem]) (D u (D a6 (D g (D s (D b G))))) ⟨rfl,_,.inr ⟨q,r,er,rfl⟩,⟨_,_,rfl,hR⟩,?_,?_⟩
 .have:=Ld (cG (eo r)) (eo r);show aO (cO (cG (eo r)) (eo r))<=ao;unfold ao;omega
 .exact fD (TI r.e) re
def Ud{c:Nat}(a:c<2^32):qH .u32 (AT .u32) (c:Int)=((4294967295 ^^^ c:Nat):Int):=by
 have hm:AT .u32=((4294967295:Nat):Int):=by decide
 rw[hm];have hb:(4294967295:Nat)<2^32:=by decide
 have e:BitVec.ofInt 32 ((4294967295:Nat):Int)=BitVec.ofNat _ 4294967295:=by rw[BitVec.ofInt_natCast]
 have d:BitVec.ofInt 32 (c:Int)=BitVec.ofNat _ c:=by rw[BitVec.ofInt_natCast]
 have b:4294967295 ^^^ c<2^32:=Nat.xor_lt_two_pow hb a;have:qH .u32 ((4294967295:Nat):Int) (c:Int)=IntKind.u32.wrap ((BitVec.ofInt 32 ((4294967295:Nat):Int) ^^^ BitVec.ofInt 32 (c:Int)).toNat:Int):=rfl;rw[this,e,d,BitVec.toNat_xor,BitVec.toNat_ofNat,BitVec.toNat_ofNat,Nat.mod_eq_of_lt hb,Nat.mod_eq_of_lt a];simp only[IntKind.wrap,show IntKind.bits .u32=32 from rfl,show IntKind.signed .u32=false from rfl];have:((4294967295 ^^^ c:Nat):Int) % (2^32:Int)=((4294967295 ^^^ c:Nat):Int):=tJ O (by exact_mod_cast b);simpa using this
def FZ(Z:List Tok)(c:Nat)(r:Value)(a:PH):Prop:=∃t,ml (Z.map refit) (iD c (4294967295 ^^^ c)) t/\j6 a r (prj (f8 c) t)/\ug (prj (f8 c) t)
def UH{c:Nat}(A:ip I)(o:od I v Z)(j:c<2^32):aT prog 19 #[v,.int .u32 c] I [] fun r q i=>i=[]/\FZ Z c r q:=by obtain⟨lv,ga,gn,gc,rfl,B⟩:=o.sh;obtain⟨la,S,rfl,_⟩:=id B;have z:4294967295 ^^^ c<2^32:=Nat.xor_lt_two_pow af j;intro hd;refine aP 13 func19 fun w0=>?_;refine ai ?_;refine bE [0,1,2,3,6,4,5,7,8] [] [] ?_;apply bd;simp only[go_sem,Ud j];refine eY hd rfl Qr (Dd j z) ?_;rintro P U i m a⟨rfl,n⟩;obtain⟨N,K,rfl⟩:=n.shape2;refine d6 ?_;refine eY m rfl DP (Dr (A.le a) (o.le a) n) ?_;rintro v2 q i l e⟨rfl,t,C,p,h,g⟩;obtain⟨H,J,rfl,⟨R,Q,rfl,_⟩,_,⟨y,L,rfl,_⟩,_⟩:=id p;refine d6 ?_;refine eY l rfl Qj (UZ p j h g) ?_;rintro v3 T i k d⟨rfl,f⟩;obtain⟨F,G,rfl,⟨x,w,rfl,_⟩,_,⟨u,s,rfl,_⟩,_⟩:=id f;refine d6 ?_;apply aL;refine ai ?_;exact az rfl k (r:=[.agg #[.slice x (prj (f8 c) t).kids.length w,.slice u (prj (f8 c) t).diags.length s]]) (by simp only[results19,go_sem]) (D a (D e d)) ⟨rfl,t,C,f,ug.prj c ⟨h,g⟩⟩
def Ps:ax prog 16:=⟨_,func16,rfl,rfl⟩
def Qi:ax prog 32:=⟨_,func32,rfl,rfl⟩
def jN(_:PH)(c:List Value)(x:Nat):Prop:=c=[.int .u32 x]/\x<2^32
def jN.len(c:List Value)(x:Nat)(h:jN I c x):c.length=1:=by rw[h.1];rfl
abbrev pp(I A:PH)(v:Value)(l:List Nat):Prop:=Ow jN 23 1 I A v l
abbrev sL(I:PH)(v:Value)(l:List Nat):Prop:=Sl jN I v l
variable{l:List Nat}
def pp.le{J A:PH}(h:pp I A v l)(k:I.le J):pp J A v l:=Ow.le (R:=jN) (fun{I J c a} h k=>h) h k
def sL.le{J:PH}(h:sL I v l)(k:I.le J):sL J v l:=Sl.le (R:=jN) (fun{I J c a} h k=>h) h k
def wQ(u:Nat)(x:Nat×Value):St:=⟨dn 35 [(0,.v (.int .u32 u)),(3,.v x.2),(4,.v (E x.1))],[]⟩
def NT(u:Nat)(a:PH)(x:Nat×Value)(H:PH):Prop:=∃I A l,H=U [I,A]/\Dj [I,A]/\a.le I/\x.1<=32/\pp I A x.2 l/\l=lN u x.1
def zK(u i n:Nat)(x:Nat×Value):St:=⟨dn 35 [(0,.v (.int .u32 u)),(3,.v x.2),(4,.v (E i)),(5,.v (E n)),(6,.v (E x.1))],[]⟩
def NS(a:List Nat)(b:Nat)(c:PH)(x:Nat×Value)(H:PH):Prop:=∃I A l,H=U [I,A]/\Dj [I,A]/\c.le I/\x.1<=a.length/\pp I A x.2 l/\l=a++(a.take x.1).map (fun x=>x|||2^b)
def C1(u:Nat):∀i,(lN u i).length=2^fp u i
 |0=>rfl
 |i+1=>by
  have a:=C1 u i;have hp:fp u (i+1)=fp u i+(u.testBit i).toNat:=rfl;unfold lN;by_cases h:u.testBit i=true
  .rw[ag h,hp,h,aE,eN,a,show (true:Bool).toNat=1 from rfl,tN];omega
  .have b:u.testBit i=false:=by simpa using h
   rw[ab h,hp,b,a];rfl
theorem Oh{u:Nat}(hu:u<2^32)(hp:fp u 32<=8):aT prog 21 #[.int .u32 u] I [] fun r I2 qs=>qs=[]/\sL I2 r (lN u 32):=by
 intro hd;refine aP 35 func21 fun w0=>?_;refine ai ?_;refine sJ hd (by exact yg) rfl rfl rfl rfl rfl af fun b0 A0 Z G=>?_;have aq:pp I A0 (.slice (some ⟨b0,0,none⟩) 1 1) [0]:=⟨_,G,⟨[.int .u32 0],[],by simp[av,Value.cells],⟨rfl,by decide⟩,rfl⟩⟩;refine ai ?_;refine bY (fun x=>32-x.1) (wQ u) (NT u I) (0,.slice (some ⟨b0,0,none⟩) 1 1) ak (by simp only[go_sem,Y,wQ]) ?_ ?_
 .exact⟨I,A0,[0],rfl,Z,aC _,aF _,aq,rfl⟩
 rintro⟨i,vo⟩ H ⟨I1,A1,l,rfl,B,f,hi,Q,o⟩ d;simp only at hi Q o;have A:l.length=2^fp u i:=by rw[o];exact C1 u i
 simp only[wQ];obtain⟨oa,oc,rfl⟩:=Q.shape;rcases aI i 32 with s|a2
 .have h9:decide ((i:Int)<32)=true:=bl O;have e1:=Z7 i;have S:=GI hu (i:=i) O;have aS:=fD (UL u (i:=i+1) (j:=32) O) hp;have K:fp u (i+1)=fp u i+(u.testBit i).toNat:=rfl;have P:l.length<=256:=by rw[A];exact fD (we O (show fp u i<=8 by omega)) af
  cases hb:u.testBit i
  .rw[hb]at S K;apply RG;simp only[go_sem,E,h9,gH,S,Bool.toNat_false,dL,e1];exact d (i+1,.slice oa l.length oc) _ _ bh ak (by simp only[go_sem,Y,wQ]) ⟨I1,A1,l,rfl,B,f,s,Q,by simp only;rw[o,lN,ab (by rw[hb];decide)]⟩
  .rw[hb]at S K;have a0:(true:Bool).toNat=1:=rfl;have aa:l.length<=128:=by rw[A];exact fD (we O (show fp u i<=7 by omega)) af
   apply RG;simp only[go_sem,E,h9,gH,S,Bool.toNat_true,dL];refine bY (fun x=>l.length-x.1) (zK u i l.length) (NS l i I1) (0,.slice oa l.length oc) ak (by simp only[go_sem,Y,zK]) ?_ ?_
   .exact⟨I1,A1,l,rfl,B,aC _,aF _,Q,by simp⟩
   rintro⟨k,vq⟩ H ⟨I2,A2,m,rfl,b,y,hk,p,e⟩ q;simp only at hk p e;have a1:m.length=l.length+k:=by rw[e,aE,eN,lw];omega
   simp only[zK];obtain⟨qa,qc,rfl⟩:=p.shape;rcases aI k l.length with z|ac
   .have F:=Z5 k l.length;have e2:=Z7 k;obtain⟨x,hx⟩:∃x,m[k]?=some x:=⟨_,aZ O⟩;obtain⟨g,cap,cur,c,ev,rfl,c1,c2,hc,a3,C,_⟩:=p.elem (fun{I} c a h=>jN.len (I:=I) c a h) (fun{I J c a} h k=>h) hx;cases ev
    obtain⟨rfl,t⟩:=hc;have V:l[k]?=some x:=by rw[<-hx,e,vV z]
    have L:2^i<2^32:=Nat.pow_lt_pow_right O s;have q1:xI .u32 (x:Int) (qz .u32 1 (i:Int))=((x|||2^i:Nat):Int):=by rw[VB s];exact AV t L
    have U:x|||2^i<2^32:=Nat.or_lt_two_pow t L;refine be F ?_;refine bE [0,1,2,3,4,5,6,7,8,9,10] [4] [] ?_;refine bR ?_
    try refine⟨O,?_⟩
    refine X6 (l:=[.int .u32 x]) rfl (by simpa using cellsU b (.tail _ (.head _)) C) (.inr ⟨my,rfl⟩) ?_;apply bd;simp only[go_sem,E,gH,q1];refine im b (by exact yg) rfl rfl rfl rfl rfl af fun nb I4 X v T=>?_;have am:Sl jN I4 (.slice (some ⟨nb,0,none⟩) 1 1) [x|||2^i]:=⟨_,_,rfl,.inr ⟨nb,0,_,rfl,bz T (by simp[av,Value.cells]) (by simp[av,Value.cells]),.one ⟨rfl,U⟩⟩⟩;refine bR ?_;refine tZ (R:=jN) (xs:=m) (ys:=[x|||2^i]) X (by exact yg) (pp.le p v) am (fun{I J c a} h k=>h) (fun{I} c a h=>jN.len (I:=I) c a h) (fun{I} c a h=>by rw[h.1];rfl) rfl rfl rfl rfl rfl rfl (by simp only[bm,bo];omega) (by simp only[bm,bo];unfold maxLen;omega) fun ua uc I5 A5 W N an=>?_;refine bR ?_;apply aL;refine be e2 ?_;exact q (k+1,.slice ua (m++[x|||2^i]).length uc) _ _ bh ak (by simp only[go_sem,Y,zK]) ⟨I5,A5,m++[x|||2^i],rfl,W,D y (D v N),z,an,by simp only;rw[md V,mf,<-cq,<-e];rfl⟩
   .have:k=l.length:=by omega
    subst this;have F:=Z6 l.length;refine dW F e1 ?_;exact d (i+1,.slice qa m.length qc) _ _ bh ak (by simp only[go_sem,Y,wQ]) ⟨I2,A2,m,rfl,b,D f y,s,p,by simp only;rw[e,dO,lN,ag hb,<-o]⟩
 .have:i=32:=by omega
  subst this;have P:l.length<=256:=by rw[A];exact fD (we O hp) af
  refine aj B [0] fun b=>?_;refine aH (c:=.st _) b fun I3 b w ap=>?_;apply RG;simp only[go_sem,E,dL];exact az rfl b (r:=[_]) rfl (D f w) ⟨rfl,by rw[<-o];exact Ow.sl (R:=jN) (fun{I J c a} h k=>h) Q w ap⟩
def yB(v:Value)(vc:Value)(x:Nat×Value):St:=⟨dn 30 [(0,.v v),(5,.v x.2),(6,.v vc),(7,.v (E x.1))],[]⟩
def WK(m:List Nat)(a:List (Nat×Nat))(b:PH)(x:Nat×Value)(H:PH):Prop:=∃I A l,H=U [I,A]/\Dj [I,A]/\b.le I/\x.1<=m.length/\pp I A x.2 l/\l=(m.take x.1).filter (pW a)
theorem Lj{l:List (Nat×Nat)}{u:Nat}(W:g4 I v l)(hl:l.length<2^60)(hu:u<2^32)(hp:fp u 32<=8):aT prog 25 #[v,.int .u32 u] I [] fun r U V=>V=[]/\sL U r (yC l u):=by
 obtain⟨va,vc,rfl,_⟩:=id W;intro hd;refine aP 30 func25 fun w0=>?_;refine ai ?_;refine fF hd rfl PE (Oh hu hp) ?_;rintro v1 Z V P s⟨rfl,hm⟩;have K:(lN u 32).length<=256:=by rw[C1];exact fD (we O hp) af
 have t:yC l u=(lN u 32).filter (pW l):=rfl;rw[t];clear t;generalize lN u 32=m at hm K |-;obtain⟨ma,mc,rfl,_⟩:=id hm;refine ai ?_;refine dg P fun N=>?_;refine bY (fun x=>m.length-x.1) (yB (.slice va l.length vc) (.slice ma m.length mc)) (WK m l Z) (0,.slice none 0 0) ak (by simp only[go_sem,Y,yB]) ?_ ?_
 .exact⟨Z,_,[],rfl,N,aC _,aF _,Ow.nil _ _ _ _,by simp⟩
 rintro⟨i,vo⟩ H ⟨U,A2,o,rfl,g,e,hi,C,f⟩ j;simp only at hi C f;have aa:o.length<=i:=by rw[f];exact fD (List.length_filter_le _ _) (by rw[lw];omega)
 simp only[yB];obtain⟨oa,oc,rfl⟩:=C.shape;rcases aI i m.length with w|ac
 .have y:=Z5 i m.length;have e1:=Z7 i;obtain⟨x,F⟩:∃x,m[i]?=some x:=⟨_,aZ w⟩;obtain⟨b,off,cs,rfl,⟨rfl,z⟩,q⟩:=Sl.load (fun{I} c a h=>jN.len (I:=I) c a h) (sL.le hm e) F;refine be y ?_
  try refine⟨O,?_⟩
  refine X5 (l:=[.int .u32 x]) rfl (cellsU g (.head _) (by simpa using q)) (.inr ⟨my,rfl⟩) ?_;refine bF ?_;refine X4 rfl Qk (Rf (g4.le W (D s (D e (iH g)))) hl z) ?_;rintro v H2⟨rfl,rfl⟩;cases B:pW l x
  .refine be e1 ?_;exact j (i+1,.slice oa o.length oc) _ _ bh ak (by simp only[go_sem,Y,yB]) ⟨U,A2,o,rfl,g,e,w,C,by simp only;rw[md F,List.filter_append,<-f];simp[B]⟩
  .refine bF ?_
   try refine⟨O,?_⟩
   refine X5 (l:=[.int .u32 x]) rfl (cellsU g (.head _) (by simpa using q)) (.inr ⟨my,rfl⟩) ?_;refine bF ?_;refine cH g (by exact yg) rfl rfl rfl rfl rfl af fun nb X p d G=>?_;have Q:Sl jN X (.slice (some ⟨nb,0,none⟩) 1 1) [x]:=⟨_,_,rfl,.inr ⟨nb,0,_,rfl,bz G (by simp[av,Value.cells]) (by simp[av,Value.cells]),.one ⟨rfl,z⟩⟩⟩;refine bF ?_;refine fT (R:=jN) (xs:=o) (ys:=[x]) p (by exact yg) (pp.le C d) Q (fun{I J c a} h k=>h) (fun{I} c a h=>jN.len (I:=I) c a h) (fun{I} c a h=>by rw[h.1];rfl) rfl rfl rfl rfl (by simp only[bm,bo];omega) (by simp only[bm,bo];unfold maxLen;omega) fun ua uc I5 A5 L A S=>?_;refine be e1 ?_;exact j (i+1,.slice ua (o++[x]).length uc) _ _ bh ak (by simp only[go_sem,Y,yB]) ⟨I5,A5,o++[x],rfl,L,D e (D d A),w,S,by simp only;rw[md F,List.filter_append,<-f];simp[B]⟩
 .have:i=m.length:=by omega
  subst this;have y:=Z6 m.length;refine aj g [0] fun p=>?_;refine aH (c:=.st _) p fun X p d T=>?_;refine be y ?_;exact az rfl p (r:=[_]) rfl (D s (D e d)) ⟨rfl,by rw[dO]at f;rw[<-f];exact Ow.sl (R:=jN) (fun{I J c a} h k=>h) C d T⟩
end Go.Proofs.YtfaclfkpnmcmlaaGreatDoor
