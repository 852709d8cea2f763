import Derived.Test.YtfaclfkpnmcmlaaGreatDoorL01
import Derived.Test.YtfaclfkpnmcmlaaGreatDoorL04
import Derived.Test.YtfaclfkpnmcmlaaGreatDoorL05
import Derived.Test.YtfaclfkpnmcmlaaGreatDoorL06
import Derived.Test.YtfaclfkpnmcmlaaGreatDoorL07
import Derived.Test.YtfaclfkpnmcmlaaGreatDoorL08
import Derived.Laws.MakeOwn
import Derived.RangeFuncRecord
import Derived.RangeFuncSeq
set_option maxHeartbeats 8000000
set_option linter.all false
open Go.Proofs.Tryz hiding d6 f8
namespace Go.Proofs.YtfaclfkpnmcmlaaGreatDoor
open Go Go.Sx Dg Syn
def Jg:ay prog 84:=⟨_,func84,rfl,rfl⟩
def Qy:ay prog 146:=⟨_,func146,rfl,rfl⟩
variable{l:List M}{v:Value}{I:PH}
def O6(o:bk I v l)(s:l.length<=ar):Zu 146 #[v] I [] fun r p q=>∃A,q=[A]/\aw p A r l:=by
 intro hd;obtain⟨t,u,rfl,i⟩:=id o;unfold ar at s;refine aP 8 func146 fun w0=>?_;cases t with
 |none=>
  have j:l=[]:=by
   rcases i with h|⟨b,off,xs,e,_⟩
   .exact h
   .cases e
  subst j;refine ai ?_;refine rH rfl rfl (by exact Gl) rfl rfl ?_;apply RG;simp only[go_sem,Option.isNone];refine de hd fun d=>?_;exact az rfl d (r:=[_]) rfl (aD _) ⟨_,rfl,Ow.nil _ _ _ _⟩
 |some a=>refine ai ?_;refine rH rfl rfl (by exact Gl) rfl rfl ?_;apply RG;simp only[go_sem,Option.isNone];refine rG hd (by exact dr) rfl rfl rfl rfl rfl af fun b A d f=>?_;refine ai ?_;refine fk d (by exact dr) (xs:=([]:List M)) (R:=ag) ⟨[],f,rfl⟩ o (fun{I J c a} h k=>ag.le h k) (fun{I} c a h=>ag.len c a h) (fun{I} c a h=>ag.ones h) rfl rfl rfl rfl (by simp only[bg];omega) (by simp only[bg];unfold maxLen;omega) fun a2 c2 p w m g n=>?_;apply RG;simp only[go_sem,aQ];exact az rfl m (r:=[_]) rfl g ⟨_,rfl,n⟩
def Md:∀(o:List M) (n:M),aL (lT o n)<=aL o+(aL n.kids+1)
 | [],n=>by simp only[lT,dj,gB];omega
 |m::o,n=>by
  rw[lT];split
  .simp only[dj,km];omega
  .have:=Md o n;simp only[dj];omega
def FT:∀(l o:List M),aL (l.foldl mH o)<=aL o+aL l
 | [],o=>aR _
 |n::l,o=>by
  have h1:=FT l (mH o n);have h2:aL (mH o n)<=aL o+(aL n.kids+1):=by
   unfold mH;split
   .omega
   .exact Md o n
  rw[g7,dj];omega
def GK{C:Cx}{c:Cf}{σ:St}{H H':PH}(e:H=H')(h:RC C c σ H'):RC C c σ H:=by rw[e];exact h
variable{o:List M}
def VX{j:Nat}{m m':M}(d:o[j]?=some m)(f:m'.key=m.key)(y u:Value):yy (o.set j m') y u<->yy o y u:=by
 have c:=(List.getElem?_eq_some_iff.1 d).1;constructor
 .rintro⟨i,x,hi,a,b⟩;rw[wO]at hi;split at hi
  .rename_i e;subst e;cases hi
   exact⟨j,m,d,by rw[a,f],b⟩
  .exact⟨i,x,hi,a,b⟩
 .rintro⟨i,x,hi,a,b⟩;by_cases e:i=j
  .subst e;rw[d]at hi;cases hi
   exact⟨i,m',List.getElem?_set_self c,by rw[a,f],b⟩
  .exact⟨i,x,by rw[List.getElem?_set_ne (fun e2=>e e2.symm)];exact hi,a,b⟩
def VY{n:M}(c:∀x∈o,x.key≠n.key)(y u:Value):yy (o++[n]) y u<->(y=kN n.key/\u=E o.length)\/(y≠kN n.key/\yy o y u):=by
 constructor
 .rintro⟨i,x,hi,a,b⟩;rcases aK i o.length with h|h
  .rw[wK h]at hi;refine .inr ⟨fun e=>c x (db hi) (JE (a.symm.trans e)),i,x,hi,a,b⟩
  .rw[zr h]at hi;have:i-o.length=0:=by
    rcases jA (i-o.length)with h0|h0
    .exact h0
    .rw[fp (by simp;omega)]at hi;cases hi
   rw[this]at hi;cases hi
   exact .inl ⟨a,by rw[b];congr 1;omega⟩
 .rintro(⟨a,b⟩|⟨_,i,x,hi,a,b⟩)
  .exact⟨o.length,n,by simp,a,b⟩
  .exact⟨i,x,by rw[wK (List.getElem?_eq_some_iff.1 hi).1];exact hi,a,b⟩
def yf(h:cF l)(k:eQ):cF (eC l k):=kg.2 fun x a=>by obtain⟨n,b,_,_,a⟩:=vJ a;exact kg.1 (jm.1 (kg.1 h n b)).2 x a
def Ps{k:eQ}{d:Nat}(h:cJ l<d+1)(b:k∈ks l):cJ (eC l k)<d:=by obtain⟨n,a,_⟩:=tV.1 b;have h1:=r0 a;rw[qe]at h1;have h2:cJ l<=(d-1)+1:=O;have:=HR (k:=k) h2;omega
variable{α:Type}
def LC[Inhabited α]{lt:α->α->Bool}{d e:Array α}(p:Sort.PermIn 0 d.size d e)(s:Sort.SortedIn lt 0 d.size e):e.toList.Perm d.toList/\e.toList.Pairwise (fun a b=>lt b a=false):=by
 have g:=p.1;refine⟨?_,List.pairwise_iff_getElem.2 fun i j hi f c=>?_⟩
 .have h:=p.2.2;rw[show e.extract 0 d.size=e by rw[<-g];simp,show d.extract 0 d.size=d by simp]at h;exact h
 .simp only[ot]at hi f;have:=s i j (aE _) c O;rw[getElem!_pos e j f,getElem!_pos e i hi]at this;simpa using this
def sA(vl a:Value)(n:Nat)(x:Nat×Value):St:=⟨dn 87 [(3,.v a),(4,.v x.2),(12,.v vl),(13,.v (E n)),(14,.v (E x.1))],[]⟩
def Ke(l:List M)(a:Nat)(b:PH)(x:Nat×Value)(H:PH):Prop:=∃I Z A l',H=U [I,Z,A,U (l'.map Prod.fst)]/\Dj [I,Z,A,U (l'.map Prod.fst)]/\Dj (l'.map Prod.fst)/\b.le I/\x.1<=l.length/\jD prog Z a 240 (yy (l'.map Prod.snd))/\Ow fG 60 7 I A x.2 l'/\l'.map Prod.snd=(l.take x.1).foldl mH []
def Bc(v:Value)(n i:Nat):St:=⟨dn 87 [(4,.v v),(70,.v v),(71,.v (E n)),(72,.v (E i))],[]⟩
def W8{l':List (PH×M)}{j:Nat}{m:M}(h:(l'.map Prod.snd)[j]?=some m):∃K,l'[j]?=some (K,m):=by
 rw[iZ]at h;cases a:l'[j]? with
 |none=>rw[a]at h;cases h
 |some p=>rw[a]at h;simp only[df,bf]at h;exact⟨p.1,by rw[<-h]⟩
theorem U2:∀(d:Nat) {I:PH} {v:Value} {l:List M},cJ l<d->bk I v l->ky v->cF l->dW l->aL l<=ar->Zu 84 #[v] I [] fun r I2 qs=>∃A,qs=[A]/\aw I2 A r (cR d l):=by
 intro d
 induction d with
 |zero=>intro I v l h;omega
 |succ d ih=>
 intro I v l dd hS hC cp d7 dT hd;obtain⟨va,vc,rfl,_⟩:=id hS;have fc:=mp l;unfold ar at dT;refine aP 87 func84 fun w0=>?_
 try simp only[E]
 refine ai ?_;refine CT 240 hd rfl rfl fun mr M0 et eA=>?_;refine ai ?_;refine de et fun es=>?_;refine de es fun er=>?_;refine ak er [2,0,1] fun eq=>?_;apply gO (fun x=>l.length-x.1) (sA (.slice va l.length vc) (.map (some mr)) l.length) (Ke l mr I) (fun x H=>x.1=l.length/\Ke l mr I x H) (0,.slice none 0 0)
 .exact al
 .exact(by simp only[go_sem,Y,sA])
 .exact⟨I,M0,PH.no,[],rfl,eq,List.Pairwise.nil,aD _,aE _,eA.congr fun y u=>⟨fun⟨j,m,h,_⟩=>by simp at h,fun h=>h.elim⟩,Ow.nil _ _ _ _,rfl⟩
 .rintro⟨i,vo⟩ H ⟨I1,V,A1,l',rfl,T,X,B,hi,a9,F,G⟩ z cc;simp only at hi F G;simp only[sA];obtain⟨oa,oc,rfl⟩:=F.shape;rcases aK i l.length with t|el
  rotate_left
  .have:i=l.length:=by omega
   subst this;have dw:decide (((l.length:Nat):Int)<(l.length:Int))=false:=ao;apply cE 7;simp only[go_sem,dw,E];exact cc (l.length,.slice oa l'.length oc) _ _ al (by simp only[go_sem,Y,sA]) ⟨rfl,I1,V,A1,l',rfl,T,X,B,aR _,a9,F,G⟩
  have dw:decide ((i:Int)<(l.length:Int))=true:=by simp;omega
  have dx:=nr hC t;obtain⟨n,hn⟩:∃n,l[i]?=some n:=⟨_,aY t⟩;have d2:=db hn;have ee:=(jm.1 (kg.1 cp n d2)).1;obtain⟨b,off,cs,rfl,ex,ci⟩:=Sl.load ag.len (bk.le hS B) hn;obtain⟨vk,na,nk,rfl,Q,w,cl⟩:=ex.shape;obtain⟨ka,kc,rfl,_⟩:=id w;have N:=lQ.of (l:=l) (fun x hx=>(jm.1 (kg.1 cp x hx)).1) i O;have W:(l.take (i+1)).foldl mH []=mH (l'.map Prod.snd) n:=by rw[g6 hn,pD,G];rfl
  rw[<-G]at N;have cy:aL (l'.map Prod.snd)+(aL n.kids+1)<=aL l:=by
   rw[G];have h1:=FT (l.take i) [];rw[gB,g8]at h1;have h2:aL (l.take (i+1))<=aL l:=by
    conv=>rhs;rw[<-pG (i+1) l]
    rw[km];omega
   rw[g6 hn,km,dj,gB]at h2;omega
  have an:=mp (l'.map Prod.snd);rw[eO]at an;refine dm dw ?_;refine⟨O,?_⟩;refine Zm (l:=[.int .u8 n.kind,.string ⟨⟨n.text⟩⟩,.int .i64 n.tok,.int .i64 n.slot,.slice ka n.kids.length kc,sD na nk n.cond,rD n.cond]) (v:=.agg #[.int .u8 n.kind,.string ⟨⟨n.text⟩⟩,.int .i64 n.tok,.int .i64 n.slot,.slice ka n.kids.length kc,sD na nk n.cond,rD n.cond]) rfl (cellsU T (.head _) ci) (.inl ⟨b9,rfl⟩) ?_;refine bK ?_;refine Zl rfl jj (ji Q) ?_;rintro v H2⟨rfl,rfl⟩;cases cr:decide (n.cond=.lf false)
  rotate_left
  .have em:n.cond=ff:=by simpa using cr
   apply RG;simp only[go_sem,E,sD,rD,cr,dx];exact z (i+1,.slice oa l'.length oc) _ _ bi al (by simp only[go_sem,Y,sA]) ⟨I1,V,A1,l',rfl,T,X,B,t,a9,F,by simp only;rw[W,mH,ah em]⟩
  have ef:n.cond≠ff:=by simpa using cr
  have cm:mH (l'.map Prod.snd) n=lT (l'.map Prod.snd) n:=ab ef;refine dm cr ?_;refine Zl rfl tJ (tP _ _ _ _ _ _ _ _ _ _ _ _) ?_;rintro v H2⟨rfl,rfl⟩;refine bK ?_;have aS:=TM (qj.1 d7 n d2);have ec:=a9.atU T (.tail _ (.head _));by_cases dc:∃(j:Nat) (m:M),(l'.map Prod.snd)[j]?=some m/\m.key=n.key
  .obtain⟨j,m,hj,c9⟩:=dc;obtain⟨Kj,da⟩:=W8 hj;have a5:=(List.getElem?_eq_some_iff.1 da).1;refine xg (by exact CO) (by exact EH) pB (key:=kN n.key) rfl rfl rfl rfl ec aS (E j) true (.inl ⟨rfl,j,m,hj,by rw[c9],rfl⟩) ?_;apply RG;simp only[go_sem,E,sD,rD,cL];have e2:(l'.map Prod.fst)[j]?=some Kj:=by rw[iZ,da];rfl
   obtain⟨ue,ud⟩:=NP (l:=[I1,V,A1]) T X e2;have a0:Dj [I1,V,A1,Kj,U ((l'.map Prod.fst).eraseIdx j)]:=ud;rw[show U [I1,V,A1,U (l'.map Prod.fst)]=U [I1,V,A1,Kj,U ((l'.map Prod.fst).eraseIdx j)] from ue];clear ue ud;obtain⟨g,cap,cur,xs,ev,rfl,c1,c2,c3,c4,c5,S⟩:=F.open' O fG.len;cases ev
   obtain⟨vkj,ma,mk,a7,bx,aa⟩:=S.get fG.len da;obtain⟨kja,kjc,rfl⟩:=aa.shape;have ap:l'.length*7<=cur.size:=by rw[c3];exact cv _ c1
   have fi:(j+1)*7<=l'.length*7:=cv _ a5;have am:=qb (k:=5) (m:=2) (e:=60) (g:=g) (cur:=cur) fG.len S (i:=j) a5 ap c4 a7 O;simp only[mq,io,mB,mC]at am;refine bG [0,1,2,3,4,5,6,7,8,9,10,11,12] [6] [] ?_;refine cz ?_;refine⟨O,?_⟩;refine Zn (l:=[sD ma mk m.cond,rD m.cond]) (v:=.agg #[sD ma mk m.cond,rD m.cond]) rfl (by simpa using cellsU a0 (.tail _ (.tail _ (.head _))) am) (.inl ⟨jG,rfl⟩) ?_;refine cz ?_;refine cH a0 [0,1,2,3] [] [V,_,Kj,_] rfl qo rfl (qG bx Q) ?_;rintro v I6 qs K q⟨rfl,d1⟩;obtain⟨za,zk,rfl⟩:=d1.shape2;simp only[Z3]at K |-;refine cz ?_;refine⟨O,?_⟩;refine i8 K [1,0,2,3] fun Z=>?_;refine cY Z rfl rfl rfl rfl rfl rfl (by exact qW) (by simp;omega) fun a6=>?_;refine cz ?_;apply aN;have bc:Ow fG 60 7 I6 (sg g (.cells (bN cur.toList (j*7+5) [sD za zk (m.cond.or n.cond),rD (m.cond.or n.cond)]).toArray 60 (0,0))) (.slice (some ⟨g,0,none⟩) l'.length oc) (l'.set j (Kj,{ m with cond:=m.cond.or n.cond })):=by refine⟨_,?_,qy fG.len (S.mono fun _ _ h=>fG.le h q) (i:=j) a5 a7 (k:=5) (cs:=[sD za zk (m.cond.or n.cond),rD (m.cond.or n.cond)]) (a:=(Kj,{ m with cond:=m.cond.or n.cond })) ao ⟨.slice kja m.kids.length kjc,za,zk,by simp[bN,sD,rD],d1,aw.le aa q⟩⟩;rw[lJ];exact tZ c5 c1 c2 c3 c4 (by simp;omega)
   have P:Dj [I6,sg g (.cells (bN cur.toList (j*7+5) [sD za zk (m.cond.or n.cond),rD (m.cond.or n.cond)]).toArray 60 (0,0)),V,Kj,U ((l'.map Prod.fst).eraseIdx j)]:=a6
   change RC _ _ _ (U [I6,sg g (.cells (bN cur.toList (j*7+5) [sD za zk (m.cond.or n.cond),rD (m.cond.or n.cond)]).toArray 60 (0,0)),V,Kj,U ((l'.map Prod.fst).eraseIdx j)])
   clear a6 Z K a0 S a7 am;generalize sg g (.cells (bN cur.toList (j*7+5) [sD za zk (m.cond.or n.cond),rD (m.cond.or n.cond)]).toArray 60 (0,0))=A2 at bc P;obtain⟨g2,cap2,cur2,xs2,ev2,rfl,b1,b2,b3,b4,b5,aq⟩:=bc.open' (by rw[lJ];omega) fG.len;rw[lJ]at ev2 b1 b4 b5;cases ev2
   have ej:(l'.set j (Kj,{ m with cond:=m.cond.or n.cond }))[j]?=some (Kj,{ m with cond:=m.cond.or n.cond }):=List.getElem?_set_self a5;obtain⟨vk2,m2a,m2k,cj,b0,ac⟩:=aq.get fG.len ej;obtain⟨k2a,k2c,rfl⟩:=ac.shape;have cb:j<(l'.set j (Kj,{ m with cond:=m.cond.or n.cond })).length:=by rw[lJ];exact a5
   have bs:l'.length*7<=cur2.size:=by rw[b3];exact cv _ b1
   have ca:=qb (k:=4) (m:=1) (e:=60) (g:=g) (cur:=cur2) fG.len aq (i:=j) cb (by rw[lJ];exact bs) (by rw[lJ];exact b4) cj O;simp only[mq,io,mB,mC]at ca;have fb:m.kids.length<=aL (l'.map Prod.snd):=by have h1:=uj (db hj);have h2:=mp m.kids;omega
   have fa:=mp n.kids;refine bK ?_;refine bG [0,1,2,3,4,5,6,7,8,9,10,11,12] [6] [] ?_;refine cz ?_;refine⟨O,?_⟩;refine Zn (l:=[.slice k2a m.kids.length k2c]) (v:=.slice k2a m.kids.length k2c) rfl (by simpa using cellsU P (.tail _ (.head _)) ca) (.inr ⟨zV,rfl⟩) ?_;refine cz ?_;refine i8 P [2,0,1,3] fun s=>?_;refine uL s (by exact dr) (ac) (bk.le w q) (fun{I J c a} h k=>ag.le h k) (fun{I} c a h=>ag.len c a h) (fun{I} c a h=>ag.ones h) rfl rfl rfl rfl rfl rfl (by first|omega|(simp only[bl,bg];omega)) (by unfold maxLen;first|omega|(simp only[bl,bg];omega)) fun pa pc I7 K7 C f dk=>?_;refine cz ?_;refine⟨O,?_⟩;refine i8 C [1,2,0,3] fun a3=>?_;refine cY a3 rfl rfl rfl rfl rfl rfl (by exact y6) (by simp;omega) fun a2=>?_;refine cz ?_;apply aN;have bb:Ow fG 60 7 I7 (sg g (.cells (bN cur2.toList (j*7+4) [.slice pa (m.kids++n.kids).length pc]).toArray 60 (0,0))) (.slice (some ⟨g,0,none⟩) l'.length oc) (l'.set j (K7,{ m with kids:=m.kids++n.kids,cond:=m.cond.or n.cond })):=by have p:=qy fG.len (aq.mono fun _ _ h=>fG.le h f) (i:=j) cb cj (k:=4) (cs:=[.slice pa (m.kids++n.kids).length pc]) (a:=(K7,{ m with kids:=m.kids++n.kids,cond:=m.cond.or n.cond })) ao ⟨.slice pa (m.kids++n.kids).length pc,m2a,m2k,by simp[bN],b0.le f,dk⟩;rw[List.set_set]at p;refine⟨_,?_,p⟩;rw[lJ];exact tZ b5 b1 b2 b3 b4 (by simp;omega)
   refine dm dx ?_;obtain⟨ue,ud,uk⟩:=NQ (l:=[I7,_,V]) a2 X (by rw[eO];exact a5);have e5:(l'.map Prod.fst).set j K7=(l'.set j (K7,{ m with kids:=m.kids++n.kids,cond:=m.cond.or n.cond })).map Prod.fst:=by rw[List.map_set]
   have e6:(l'.set j (K7,{ m with kids:=m.kids++n.kids,cond:=m.cond.or n.cond })).map Prod.snd=lT (l'.map Prod.snd) n:=by rw[List.map_set,zQ N.dist hj c9]
   rw[e5]at ue ud uk;refine GK ue ?_;refine ak ud [1,0,2] fun a1=>?_;refine z (i+1,.slice (some ⟨g,0,none⟩) l'.length oc) _ _ bi al (by simp only[go_sem,Y,sA]) ⟨I7,V,_,_,rfl,a1,uk,D B (D q f),t,?_,?_,?_⟩
   .refine a9.congr fun y u=>?_;rw[e6,zQ N.dist hj c9];exact VX (m':={ m with kids:=m.kids++n.kids,cond:=m.cond.or n.cond }) hj rfl y u
   .exact bb
   .simp only;rw[e6,W,cm]
  ·
   have c6:∀x∈l'.map Prod.snd,x.key≠n.key:=fun x hx e=>by obtain⟨j,hj⟩:=List.mem_iff_getElem?.1 hx;exact dc ⟨j,x,hj,e⟩
   refine xg (by exact CO) (by exact EH) pB (key:=kN n.key) rfl rfl rfl rfl ec aS (E 0) false (.inr ⟨rfl,rfl,fun u ⟨j,m,hj,hk,_⟩=>dc ⟨j,m,hj,(JE hk).symm⟩⟩) ?_;apply RG;simp only[go_sem,E,sD,rD,dg];refine zH (by exact CO) (by exact EH) (key:=kN n.key) (v:=E l'.length) T rfl (.inl rfl) rfl rfl rfl a9 aS fun M5 a0 ez=>?_;refine bK ?_;refine av a0 [0,1,2] [] [M5,A1,_] rfl Qy rfl (O6 w (by have:=mp n.kids;unfold ar;omega)) ?_;rintro v I6 qs K q⟨K6,rfl,ba⟩;simp only[Z3]at K |-;obtain⟨qa,qc,rfl⟩:=ba.shape;refine bK ?_;refine cI K (by exact dr) rfl rfl rfl rfl rfl af fun nb I7 Z f eg=>?_;have ey:Sl fG I7 (.slice (some ⟨nb,0,none⟩) 1 1) [(K6,n)]:=⟨_,_,rfl,.inr ⟨nb,0,_,rfl,bA eg (by simp[ax,Value.cells]) (by simp[ax,Value.cells,E,sD,rD]),.one ⟨.slice qa n.kids.length qc,na,nk,rfl,Q.le (D q f),aw.le ba f⟩⟩⟩;refine bK ?_;refine ak Z [2,1,0,3] fun a6=>?_;refine fk (R:=fG) (xs:=l') (ys:=[(K6,n)]) a6 (by exact dr) (Ow.le (R:=fG) (fun{I J c a} h k=>fG.le h k) F (D q f)) ey (fun{I J c a} h k=>fG.le h k) (fun{I} c a h=>fG.len c a h) (fun{I} c a h=>fG.ones h) rfl rfl rfl rfl (by simp only[bl,bg];omega) (by simp only[bl,bg];unfold maxLen;omega) fun ua uc I8 A8 P c7 e8=>?_;refine dm dx ?_;have s:Dj [I8,A8,M5,K6,U (l'.map Prod.fst)]:=P;obtain⟨ue,ud,uk⟩:=NR (l:=[I8,A8,M5]) s X;rw[show l'.map Prod.fst++[K6]=(l'++[(K6,n)]).map Prod.fst by simp]at ue ud uk;refine GK ue ?_;refine ak ud [1,0,2] fun C=>?_;have e6:(l'++[(K6,n)]).map Prod.snd=lT (l'.map Prod.snd) n:=by rw[zR c6];simp
   refine z (i+1,.slice ua (l'++[(K6,n)]).length uc) _ _ bi al (by simp only[go_sem,Y,sA]) ⟨I8,M5,A8,l'++[(K6,n)],rfl,C,uk,D B (D q (D f c7)),t,?_,e8,by simp only;rw[e6,W,cm]⟩;refine ez.congr fun y u=>?_;rw[e6,zR c6,<-show (l'.map Prod.snd).length=l'.length from eO ..];exact VY c6 y u
 rintro⟨i,vo⟩ H ⟨hi,I1,V,A1,l',rfl,T,X,B,_,a9,F,G⟩;simp only at hi F G;subst hi;rw[dK]at G;simp only[sA];obtain⟨oa,oc,rfl⟩:=F.shape;have N:=lQ.of (l:=l) (fun x hx=>(jm.1 (kg.1 cp x hx)).1) l.length (aR _);rw[dK,<-G]at N;have cy:aL (l'.map Prod.snd)<=aL l:=by rw[G];have h1:=FT l [];rw[gB,g8]at h1;exact h1
 have an:=mp (l'.map Prod.snd);have d4:(l'.map Prod.snd).length=l'.length:=eO ..;have a0:Dj [I1,V,A1,U (l'.map Prod.fst)]:=T;refine ak a0 [2,0,1] fun K=>?_;refine aJ (c:=.st _) K fun I2 K b8 e7=>?_;have bc:aw I2 A1 (.slice oa l'.length oc) (l'.map Prod.snd):=by obtain⟨xs,h1,h2⟩:=F;exact⟨xs,by rw[d4];exact h1,LR.still b8 h2 fun p hp=>D (tS X (List.mem_map.2 ⟨p,hp,rfl⟩)) e7⟩
 rw[<-d4]at bc |-;generalize l'.map Prod.snd=o at *;refine bJ ?_;have cn:aw I2 A1 (.slice oa o.length oc) o.toArray.toList:=bc;refine av K [1,0] [A1] [V] rfl Qz rfl (Xb (d:=o.toArray) cn Pc (by simp;unfold ar;omega)) ?_;rintro v I3 qs Z c8⟨A3,e3,rfl,bb,ea,d9⟩;simp only[Z3]at Z |-;obtain⟨c0,d0⟩:=LC ea d9;have hL:e3.toList=(ks l).map (iN l):=N.sorted c0 d0;have d3:o.length=((ks l).map (iN l)).length:=by rw[<-hL,c0.length_eq]
 have bb:aw I3 A3 (.slice oa o.length oc) e3.toList:=bb;rw[hL,d3]at bb;rw[d3];clear bc cn F c0 d0 d9 ea;have cA:=Mh l;have fh:=EQ l;have cf:∀n∈(ks l).map (iN l),cJ n.kids<d/\cF n.kids/\dW n.kids/\aL n.kids<=2^40:=fun n hn=>by obtain⟨k,eh,rfl⟩:=List.mem_map.1 hn;refine⟨?_,yf cp k,Qb d7 k,fJ (XR l k) dT⟩;show cJ (eC l k)<d;exact Ps dd eh
 have d5:((ks l).map (iN l)).length<=aL l:=fJ (mp _) cA;rw[Km];generalize (ks l).map (iN l)=L at *;refine bJ ?_;refine ak Z [1,0] fun a6=>?_;refine bV (fun i=>L.length-i) (Bc (.slice oa L.length oc) L.length) (fun i H=>∃I5 A5,H=U [I5,V,A5]/\Dj [I5,V,A5]/\I3.le I5/\i<=L.length/\aw I5 A5 (.slice oa L.length oc) ((L.take i).map (fun(m:M)=>{ m with kids:=cR d m.kids })++L.drop i)) 0 al (by simp only[go_sem,Y,Bc]) ?_ ?_
 .exact⟨I3,A3,rfl,a6,aD _,aE _,bb⟩
 rintro i H ⟨I5,A5,rfl,P,b7,hi,ds⟩ z;simp only[Bc];have ei:=D B (D b8 (D c8 b7));rcases aK i L.length with t|el
 .have dv:decide ((i:Int)<(L.length:Int))=true:=by simp;omega
  have e1:IntKind.i64.wrap ((i:Int)+1)=((i+1:Nat):Int):=by rw[<-wrap64 (n:=i+1) O];congr 1
  obtain⟨n,hn⟩:∃n,L[i]?=some n:=⟨_,aY t⟩;obtain⟨p1,p2,p3,p4⟩:=cf n (db hn);have a4:((L.take i).map (fun(m:M)=>{ m with kids:=cR d m.kids })++L.drop i).length=L.length:=by simp;omega
  have ek:((L.take i).map (fun(m:M)=>{ m with kids:=cR d m.kids })++L.drop i)[i]?=some n:=by rw[zr (by simp;omega)];simp only[eO,lK,jB (lM t),Nat.sub_self,zu,s5];exact hn
  have ed:((L.take i).map (fun(m:M)=>{ m with kids:=cR d m.kids })++L.drop i).set i { n with kids:=cR d n.kids }=(L.take (i+1)).map (fun(m:M)=>{ m with kids:=cR d m.kids })++L.drop (i+1):=by
   rw[List.set_append_right _ _ (by simp;omega)];simp only[eO,lK,jB (lM t),Nat.sub_self];rw[g6 hn,mw,cD];congr 1;have:L.drop i=n::L.drop (i+1):=by rw[jz t];rw[aY t]at hn;rw[cX hn]
   rw[this];rfl
  obtain⟨g,cap,cur,xs,ev,rfl,c1,c2,c3,c4,c5,S⟩:=ds.open' (by rw[a4];omega) ag.len;rw[a4]at ev c1 c4 c5;cases ev
  obtain⟨vk,na,nk,a7,Q,w,cl⟩:=(S.get ag.len ek).shape;obtain⟨ka,kc,rfl,_⟩:=id w;have ap:L.length*7<=cur.size:=by rw[c3];exact cv _ c1
  have fl:(i+1)*7<=L.length*7:=cv _ t;have ca:=qb (k:=4) (m:=1) (e:=60) (g:=g) (cur:=cur) ag.len S (i:=i) (by rw[a4];exact t) (by rw[a4];exact ap) (by rw[a4];exact c4) a7 O;simp only[mq,io,mB,mC]at ca;refine bd dv ?_;refine⟨O,?_⟩;refine Zm (l:=[.slice ka n.kids.length kc]) rfl (by simpa using cellsU P (.tail _ (.tail _ (.head _))) ca) (.inr ⟨zV,rfl⟩) ?_;refine bJ ?_;refine av P [0,1] [] [V,_] rfl Jg rfl (ih p1 w cl p2 p3 p4) ?_;rintro v I6 qs s q⟨K6,rfl,ba⟩;simp only[Z3]at s |-;obtain⟨qa,qc,rfl⟩:=ba.shape;have e4:=ba.capN ag.len;refine ak s [0,1,2] fun C=>?_;refine aJ C fun I7 C f dk=>?_;have e0:bk I7 (.slice qa (cR d n.kids).length qc) (cR d n.kids):=aw.sl ba f dk;refine bJ ?_;refine⟨O,?_⟩;refine ak C [1,0] fun a3=>?_;refine k0 a3 rfl rfl rfl rfl rfl (by exact y6) (by simp;omega) fun a2=>?_;refine bd e1 ?_;refine ak a2 [1,0] fun a1=>?_;have cx:=D q f;refine z (i+1) _ _ O al (by simp only[go_sem,Y,Bc]) ⟨I7,_,rfl,a1,D b7 cx,t,?_⟩;rw[<-ed];refine⟨_,?_,qy ag.len (S.mono fun _ _ h=>ag.le h cx) (i:=i) (by rw[a4];exact t) a7 (k:=4) (cs:=[.slice qa (cR d n.kids).length qc]) (a:={ n with kids:=cR d n.kids }) ao (ag.mk (n:={ n with kids:=cR d n.kids }) (Q.le cx) e0 e4)⟩;rw[lJ,a4];exact tZ c5 c1 c2 c3 c4 (by simp;omega)
 .have:i=L.length:=by omega
  subst this;have dv:decide (((L.length:Nat):Int)<(L.length:Int))=false:=ao;rw[dK,js,Y]at ds;refine bd dv ?_;refine ak P [0,1] fun s=>?_;refine aJ (c:=.st _) s fun I9 s b6 fn=>?_;exact az rfl s (r:=[_]) rfl (D ei b6) ⟨A5,rfl,aw.le ds b6⟩
def Ow.part{R:PH->Zo->α->Prop}{e:TypeId}{size:Nat}{A:PH}{l:List α}(h:Ow R e size I A v l)(j:∀{I} c a,R I c a->c.length=size)(n:∀{I J c a},R I c a->I.le J->R J c a){i:Nat}{x:α}(hi:l[i]?=some x)(k m:Nat)(t:k+m<=size):
  ∃g cap cur c,v=.slice (some ⟨g,0,none⟩) l.length cap/\A=sg g (.cells cur e (0,0))/\l.length*size<=cur.size/\R I c x/\c.length=size/\a8 A g (i*size+k) ((c.drop k).take m)/\
   ∀J cs y,I.le J->k+cs.length<=size->R J (bN c k cs) y->Ow R e size J (sg g (.cells (bN cur.toList (i*size+k) cs).toArray e (0,0))) v (l.set i y):=by
 have b:=(List.getElem?_eq_some_iff.1 hi).1;obtain⟨g,cap,cur,xs,ev,rfl,c1,c2,c3,c4,c5,d⟩:=h.open' O fun c a k=>j c a k;have s:l.length*size<=cap*size:=cv _ c1;have o:(i+1)*size<=l.length*size:=cv _ b;rw[ir,rf]at o;have q:=d.get (fun c a k=>j c a k) hi;have f:=j _ _ q;have u:=qb (k:=k) (m:=m) (e:=e) (g:=g) (cur:=cur) (fun c a k=>j c a k) d b O c4 rfl t;refine⟨g,cap,cur,_,ev,rfl,O,q,f,u,?_⟩;intro J cs y w p r;refine⟨bN xs (i*size+k) cs,?_,?_⟩
 .rw[ev,lJ];exact tZ c5 c1 c2 c3 c4 O
 .exact qy (fun c a k=>j c a k) (d.mono fun _ _ h=>n h w) b rfl p r
def vH(a:Value)(n i:Nat)(vo:Value):St:=⟨dn 50 [(3,.v vo),(12,.v a),(13,.v (E n)),(14,.v (E i))],[]⟩
theorem U1{l:List aI}(hS:Sl bj I v l)(hl:l.length<=ar)(a9:jk l):Zu 95 #[v] I [] fun r I2 qs=>∃A,qs=[A]/\bt I2 A r (iz l):=by
 intro hd;have b6:=hl;unfold ar at b6;obtain⟨va,vc,rfl,_⟩:=id hS;refine aP 50 func95 fun w0=>?_;refine ai ?_;refine eG hd rfl QF (O5 hS hl) ?_;rintro v1 I1 qs cb aS⟨K,rfl,hK⟩;refine ai ?_;refine av cb [0] [K] [] rfl QE rfl (Pr hK hl) ?_;rintro v2 I2 qs bc b5⟨A,rfl,rfl,hA⟩;simp only[Z3]at bc |-;refine ai ?_;have cs:(l8 l).length<=l.length:=List.length_filter_le ..;have cn:bt I2 A v2 (l8 l).toArray.toList:=hA;refine av bc [0] [A] [] rfl QG rfl (Xa cn Pb (by simp;unfold ar;omega)) ?_;rintro v3 I3 qs bb aq⟨A3,e3,rfl,S,cj,ci⟩;simp only[Z3]at bb |-;obtain⟨G,a6⟩:=LC cj ci;have S:bt I3 A3 v2 e3.toList:=S;have G:e3.toList.Perm (l8 l):=G;generalize e3.toList=Z at S G a6;have hE:=G.length_eq;have a2:∀d∈Z,d.cond.ok 0:=fun d hd=>a9 d (List.mem_filter.1 (G.mem_iff.1 hd)).1;have cl:∀d,d∈Z<->d∈l/\d.cond≠ff:=fun d=>by rw[G.mem_iff];simp[l8]
 obtain⟨ea,ec,rfl⟩:=S.shape;refine ai ?_;refine de bb fun b8=>?_;refine ak b8 [1,0] fun b7=>?_;refine bV (fun x=>Z.length-x.1) (fun x=>vH (.slice ea Z.length ec) Z.length x.1 x.2) (fun(x:Nat×Value) H=>∃I5 A5 B o,H=U [I5,A5,B]/\Dj [I5,A5,B]/\I3.le I5/\x.1<=Z.length/\bt I5 A5 (.slice ea Z.length ec) Z/\bt I5 B x.2 o/\o.length<=x.1/\o=(Z.take x.1).foldl n5 []) (0,.slice none 0 0) al (by simp only[go_sem,Y,vH]) ?_ ?_
 .exact⟨I3,A3,PH.no,[],rfl,b7,aD _,aE _,S,Ow.nil _ _ _ _,aR _,rfl⟩
 rintro⟨i,vo⟩ H ⟨I5,A5,B,o,rfl,P,z,hi,W,hB,b3,ho⟩ s;simp only at hi hB b3 ho;simp only[vH];obtain⟨oa,oc,rfl⟩:=hB.shape;rcases aK i Z.length with T|cx
 .have a5:=Z5 i Z.length;have e1:=Z7 i;have wm:=kr (k:=o.length) O;obtain⟨d,ba⟩:∃d,Z[i]?=some d:=⟨_,aY T⟩;obtain⟨g,cap,cur,c,ev,rfl,c1,c2,hc,cy,am,_⟩:=W.elem (fun{I} c a h=>bj.len c a h) (fun{I J c a} h k=>bj.le h k) ba;cases ev
  obtain⟨ca,ck,rfl,cc⟩:=id hc;have m:(Z.take (i+1)).foldl n5 []=n5 o d:=by rw[g6 ba,pD,<-ho];rfl
  refine dm a5 ?_;refine⟨O,?_⟩;refine Zm (l:=[.int .u8 d.code,.int .i64 d.tok,sD ca ck d.cond,rD d.cond]) (v:=.agg #[.int .u8 d.code,.int .i64 d.tok,sD ca ck d.cond,rD d.cond]) rfl (by simpa using cellsU P (.tail _ (.head _)) am) (.inl ⟨gh,rfl⟩) ?_;refine dm wm ?_;have bx:∀{J},I5.le J->bj J [.int .u8 d.code,.int .i64 d.tok,sD ca ck d.cond,rD d.cond] d:=fun h=>bj.le hc h;rcases jA o.length with h0|h0
  .have b4:o=[]:=List.length_eq_zero_iff.1 h0;have a4:decide ((o.length:Int)-1>=0)=false:=ch O;refine bG [0,1,2,3,4,5,6,7,8,9,10] [6] [] ?_;refine ny a4 ?_;apply aN;refine bK ?_;refine cI P (by exact nn) rfl rfl rfl rfl rfl af fun nb I7 N b ap=>?_;have a1:Sl bj I7 (.slice (some ⟨nb,0,none⟩) 1 1) [d]:=⟨_,_,rfl,.inr ⟨nb,0,_,rfl,bA ap (by simp[ax,Value.cells]) (by simp[ax,Value.cells,E,sD,rD]),.one (bx b)⟩⟩;refine bK ?_;refine ak N [1,0] fun L=>?_;refine fk (R:=bj) (xs:=o) (ys:=[d]) L (by exact nn) (bt.le hB b) a1 (fun{I J c a} h k=>bj.le h k) (fun{I} c a h=>bj.len c a h) (fun{I} c a h=>bj.ones h) rfl rfl rfl rfl (by simp only[bl,bg];omega) (by simp only[bl,bg];unfold maxLen;omega) fun ua uc I8 B8 f u a3=>?_;refine dm e1 ?_;refine ak f [1,0] fun j=>?_;refine s (i+1,.slice ua (o++[d]).length uc) _ _ bi al (by simp only[go_sem,Y,vH]) ⟨I8,_,B8,o++[d],rfl,j,D z (D b u),T,bt.le W (D b u),a3,by simp;omega,?_⟩;simp only;rw[m,b4];rfl
  .obtain⟨q,F⟩:∃q,o.length=q+1:=⟨o.length-1,O⟩;have eq1:(o.length:Int)-1=(q:Int):=O;have a4:decide ((q:Int)>=0)=true:=bm O;obtain⟨x,hx⟩:∃x,o[q]?=some x:=⟨_,aY O⟩;have t:o.getLast?=some x:=by rw[List.getLast?_eq_getElem?,F];exact hx
   obtain⟨g2,cap2,cur2,c',ev2,rfl,b1,bs,cf,V,b2⟩:=hB.part (fun{I} c a h=>bj.len c a h) (fun{I J c a} h k=>bj.le h k) hx 0 4 O;obtain⟨g3,cap3,cur3,c3,ev3,eA,_,a0,_,C,aa⟩:=hB.part (fun{I} c a h=>bj.len c a h) (fun{I J c a} h k=>bj.le h k) hx 2 2 O;cases ev2
   simp only[Value.slice.injEq,bf,Addr.mk.injEq,dZ,fg]at ev3;obtain⟨eg3,_⟩:=ev3;subst eg3;have ecur:cur2=cur3:=by have:=congrFun eA g2;simp only[sg,cu,bf,Obj.cells.injEq,dZ,fg]at this;exact this
   subst ecur;clear eA;obtain⟨xa,xk,rfl,cp⟩:=id bs;obtain⟨ya,yk,rfl,b0⟩:=id a0;simp only[mq,io,mB,mC]at C;have cr:(q+1)*4<=o.length*4:=cv _ O;rw[eq1];refine bG [0,1,2,3,4,5,6,7,8,9,10] [6] [] ?_;refine ny a4 ?_;refine⟨O,?_⟩;refine Zn (l:=[.int .u8 x.code,.int .i64 x.tok,sD xa xk x.cond,rD x.cond]) (v:=.agg #[.int .u8 x.code,.int .i64 x.tok,sD xa xk x.cond,rD x.cond]) rfl (by simpa using cellsU P (.tail _ (.tail _ (.head _))) V) (.inl ⟨gh,rfl⟩) ?_;refine cz ?_;refine cH P [0,1] [] [_,_] rfl AE rfl (Aq (x:=x) (y:=d) bs hc) ?_;rintro v I6 qs N e⟨rfl,rfl⟩;simp only[Z3]at N |-;have hz:=HS x d;cases hk:decide (x.key=d.key)
   .rw[hk]at hz;have p:n5 o d=o++[d]:=by unfold n5;rw[t];simp only;rw[ab (zy hk)]
    refine ny hz ?_;apply aN;refine dm hz ?_;refine cI N (by exact nn) rfl rfl rfl rfl rfl af fun nb I7 L b ap=>?_;have a1:Sl bj I7 (.slice (some ⟨nb,0,none⟩) 1 1) [d]:=⟨_,_,rfl,.inr ⟨nb,0,_,rfl,bA ap (by simp[ax,Value.cells]) (by simp[ax,Value.cells,E,sD,rD]),.one (bx (D e b))⟩⟩;refine bK ?_;refine ak L [1,0] fun f=>?_;refine fk (R:=bj) (xs:=o) (ys:=[d]) f (by exact nn) (bt.le hB (D e b)) a1 (fun{I J c a} h k=>bj.le h k) (fun{I} c a h=>bj.len c a h) (fun{I} c a h=>bj.ones h) rfl rfl rfl rfl (by simp only[bl,bg];omega) (by simp only[bl,bg];unfold maxLen;omega) fun ua uc I8 B8 j u a3=>?_;refine dm e1 ?_;refine ak j [1,0] fun Q=>?_;have k8:=D e (D b u);refine s (i+1,.slice ua (o++[d]).length uc) _ _ bi al (by simp only[go_sem,Y,vH]) ⟨I8,_,B8,o++[d],rfl,Q,D z k8,T,bt.le W k8,a3,by simp;omega,?_⟩;simp only;rw[m,p]
   .rw[hk]at hz;have p:n5 o d=o.dropLast++[{ x with cond:=x.cond.or d.cond }]:=by unfold n5;rw[t];simp only;rw[ah (lN hk)]
    have an:o.set q { x with cond:=x.cond.or d.cond }=o.dropLast++[{ x with cond:=x.cond.or d.cond }]:=by
     obtain⟨w,rfl⟩:=List.getLast?_eq_some_iff.1 t;have:w.length=q:=by simp at F;exact F
     rw[List.dropLast_concat,List.set_append_right _ _ O,this];simp
    refine ny hz ?_;apply aN;refine dm hz ?_;refine bG [0,1,2,3,4,5,6,7,8,9,10,11,12] [6] [] ?_;refine cz ?_;refine⟨O,?_⟩;refine Zn (l:=[sD ya yk x.cond,rD x.cond]) (v:=.agg #[sD ya yk x.cond,rD x.cond]) rfl (by simpa using cellsU N (.tail _ (.tail _ (.head _))) C) (.inl ⟨jG,rfl⟩) ?_;refine cz ?_;refine cH N [0,1] [] [_,_] rfl qo rfl (qG (b0.le e) (cc.le e)) ?_;rintro v I7 qs L b⟨rfl,a7⟩;obtain⟨za,zk,rfl⟩:=a7.shape2;simp only[Z3]at L |-;refine cz ?_;refine⟨O,?_⟩;refine i8 L [1,0] fun f=>?_;refine cY f rfl rfl rfl rfl rfl rfl (by exact qW) (by simp;omega) fun j=>?_;refine cz ?_;apply aN;refine dm e1 ?_;refine ak j [1,0] fun Q=>?_;have cm:=aa I7 [sD za zk (x.cond.or d.cond),rD (x.cond.or d.cond)] { x with cond:=x.cond.or d.cond } (D e b) ao ⟨za,zk,by simp[bN,sD,rD],a7⟩;have k8:=D e b;refine s (i+1,.slice (some ⟨g2,0,none⟩) o.length oc) _ _ bi al (by simp only[go_sem,Y,vH]) ⟨I7,_,_,_,rfl,Q,D z k8,T,bt.le W k8,cm,by simp;omega,?_⟩;simp only;rw[m,p,an]
 .have:i=Z.length:=by omega
  subst this;have a5:decide (((Z.length:Nat):Int)<(Z.length:Int))=false:=ao;rw[dK]at ho;have ac:=(lO.all Z [] [] lO.nil a2 (by simpa[cT]using a6)).eq (by simpa using cl) a9;rw[<-ho]at ac;refine ak P [0,1] fun f=>?_;refine aJ (c:=.st _) f fun I9 f X cA=>?_;refine bd a5 ?_;exact az rfl f (r:=[_]) rfl (D aS (D aq (D z X))) ⟨B,rfl,by rw[<-ac];exact bt.le hB X⟩
def Rq:ay prog 38:=⟨_,func38,rfl,rfl⟩
def Eu:ay prog 22:=⟨_,func22,rfl,rfl⟩
def Er:ay prog 19:=⟨_,func19,rfl,rfl⟩
def Rw:ay prog 69:=⟨_,func69,rfl,rfl⟩
def oF(I:PH)(c:Zo)(t:Tr):Prop:=∃a b,c=[a,b]/\bk I a t.kids/\ky a/\Sl bj I b t.diags/\ky b
def oF.le{J:PH}{c:Zo}{t:Tr}(h:oF I c t)(k:I.le J):oF J c t:=by obtain⟨a,b,e,h1,h2,h3,h4⟩:=h;exact⟨a,b,e,bk.le h1 k,h2,SlE.le h3 k,h4⟩
def oF.len(c:Zo)(t:Tr)(h:oF I c t):c.length=2:=by obtain⟨a,b,e,_⟩:=h;rw[e];rfl
def Bd(vl:Value)(n:Nat)(x:Nat×Value×Value):St:=⟨dn 32 [(2,.p 2 0),(3,.p 3 0),(6,.v vl),(7,.v (E n)),(8,.v (E x.1))],[⟨2,36,[.slice none 0 0,.slice none 0 0]⟩,⟨3,36,[x.2.1,x.2.2]⟩]⟩
def U4(l:List Tr)(a:PH)(x:Nat×Value×Value)(H:PH):Prop:=∃I A B,H=U [I,A,B]/\Dj [I,A,B]/\a.le I/\x.1<=l.length/\aw I A x.2.1 ((l.take x.1).flatMap (·.kids))/\bt I B x.2.2 ((l.take x.1).flatMap (·.diags))
def If{β:Type}(f:α->List β)(i:Nat)(l:List α):((l.take i).flatMap f).length<=(l.flatMap f).length:=by
 conv=>rhs;rw[<-pG i l]
 rw[zo,aH];omega
theorem UZ{l:List Tr}(hS:Sl oF I v l)(hl:l.length<=100)(hk:cF (l.flatMap (·.kids)))(hf:dW (l.flatMap (·.kids)))(hz:aL (l.flatMap (·.kids))<=ar)(he:jk (l.flatMap (·.diags)))(V:(l.flatMap (·.diags)).length<=ar):
  Zu 38 #[v] I [] fun r I2 qs=>qs=[]/\jt I2 r (AZ l):=by
 obtain⟨va,vc,rfl,_⟩:=id hS;have a3:=mp (l.flatMap (·.kids));have an:=hz;have U:=V;unfold ar at an U;intro hd;refine aP 32 func38 fun w0=>?_;refine ai ?_;refine de hd fun aS=>?_;refine de aS fun W=>?_;refine bV (fun x=>l.length-x.1) (Bd (.slice va l.length vc) l.length) (U4 l I) (0,.slice none 0 0,.slice none 0 0) al (by simp only[go_sem,Y,Bd]) ?_ ?_
 .exact⟨I,_,_,rfl,W,aD _,aE _,Ow.nil _ _ _ _,Ow.nil _ _ _ _⟩
 rintro⟨i,vk,vd⟩ H ⟨I1,A1,B1,rfl,C,m,hi,P,hB⟩ y;simp only at hi P hB;simp only[Bd];obtain⟨aa,ac,rfl⟩:=P.shape;obtain⟨ba,bc,rfl⟩:=hB.shape;rcases aK i l.length with T|a4
 .have h9:=Z5 i l.length;have e1:=Z7 i;obtain⟨t,ht⟩:∃t,l[i]?=some t:=⟨_,aY T⟩;obtain⟨b,off,cs,rfl,a0,F⟩:=Sl.load (fun{I} c a h=>oF.len c a h) (Sl.le (R:=oF) (fun{I J c a} h k=>oF.le h k) hS m) ht;obtain⟨wk,wd,rfl,Q,ap,S,aq⟩:=a0;obtain⟨ka,kc,rfl,_⟩:=id Q;obtain⟨da,dc,rfl,_⟩:=id S;have ek:(l.take (i+1)).flatMap (·.kids)=(l.take i).flatMap (·.kids)++t.kids:=by rw[g6 ht,zo];simp
  have ed:(l.take (i+1)).flatMap (·.diags)=(l.take i).flatMap (·.diags)++t.diags:=by rw[g6 ht,zo];simp
  have lk:=If (fun t:Tr=>t.kids) (i+1) l;have ld:=If (fun t:Tr=>t.diags) (i+1) l;rw[ek,aH]at lk;rw[ed,aH]at ld;refine bd h9 ?_
  try refine⟨O,?_⟩
  refine Zm (l:=[.slice ka t.kids.length kc,.slice da t.diags.length dc]) (v:=.agg #[.slice ka t.kids.length kc,.slice da t.diags.length dc]) rfl (cellsU C (.head _) F) (.inl ⟨G5,rfl⟩) ?_;refine bJ ?_;refine fk (R:=ag) (xs:=(l.take i).flatMap (·.kids)) (ys:=t.kids) C (by exact dr) P Q (fun{I J c a} h k=>ag.le h k) (fun{I} c a h=>ag.len c a h) (fun{I} c a h=>ag.ones h) rfl rfl rfl rfl O (by unfold maxLen;omega) fun ua uc I3 A3 p f N=>?_;refine bJ ?_;refine ak p [1,0] fun o=>?_;refine fk (R:=bj) (xs:=(l.take i).flatMap (·.diags)) (ys:=t.diags) o (by exact nn) (bt.le hB f) (SlE.le S f) (fun{I J c a} h k=>bj.le h k) (fun{I} c a h=>bj.len c a h) (fun{I} c a h=>bj.ones h) rfl rfl rfl rfl O (by unfold maxLen;omega) fun wa wc I4 B4 B d L=>?_;refine bd e1 ?_;refine ak B [1,0] fun q=>?_;exact y (i+1,.slice ua ((l.take i).flatMap (·.kids)++t.kids).length uc,.slice wa ((l.take i).flatMap (·.diags)++t.diags).length wc) _ _ bi al (by simp only[go_sem,Y,Bd]) ⟨I4,A3,B4,rfl,q,D m (D f d),T,by simp only;rw[ek];exact aw.le N d,by simp only;rw[ed];exact L⟩
 .have:i=l.length:=by omega
  subst this;have h9:decide (((l.length:Nat):Int)<(l.length:Int))=false:=ao;have am:=P.capN ag.len;rw[dK]at P hB am |-;refine ak C [0,1] fun p=>?_;refine aJ (c:=.st _) p fun I3 p f N=>?_;refine ak p [0] fun o=>?_;refine aJ (c:=.st _) o fun I4 o d L=>?_;have hK:=aw.sl (J:=I4) P (D f d) (D N d);have hE:=bt.sl (bt.le hB f) d L;have k4:=D m (D f d);refine bd h9 ?_;refine bG [0,1,3,4,2,5,6,7] [] [] ?_;refine bU ?_;refine dU o rfl Jg (U2 (cJ (l.flatMap (·.kids))+1) (eF _) hK am hk hf hz) ?_;rintro v5 I5 qs B w⟨K,rfl,s⟩;obtain⟨qa,qc,rfl⟩:=s.shape;have X:=s.capN ag.len;refine bU ?_;refine cH B [0] [] [K] rfl RI rfl (U1 (SlE.le hE w) V he) ?_;rintro v6 I6 qs q u⟨Z,rfl,G⟩;simp only[Z3]at q |-;obtain⟨ra,rc,rfl⟩:=G.shape;have hE6c:=Ow.capN (R:=bj) G (fun c a h=>bj.len c a h);refine bU ?_;apply aN;refine ak q [0,1] fun A=>?_;refine aJ (c:=.st _) A fun I7 A j a2=>?_;refine ak A [0] fun z=>?_;refine aJ (c:=.st _) z fun I8 z g a1=>?_;refine ai ?_;refine az rfl z (r:=[.agg #[.slice qa (cR (cJ (l.flatMap (·.kids))+1) (l.flatMap (·.kids))).length qc,.slice ra (iz (l.flatMap (·.diags))).length rc]]) (by simp only[results38,go_sem,E]) (D k4 (D w (D u (D j g)))) ⟨rfl,_,_,rfl,?_,X,?_,hE6c⟩
  .have e:cR (cJ (l.flatMap (·.kids))+1) (l.flatMap (·.kids))=(AZ l).kids:=Bf (aR _) (Nat.le_succ _);rw[e]at s |-;exact aw.sl (aw.le s (D u j)) g a1
  .exact SlE.le (bt.sl G j a2) g
end Go.Proofs.YtfaclfkpnmcmlaaGreatDoor
namespace Syn
open Dg
def tk(k:Nat)(s:au):Tok:=⟨k,s,tt,true⟩
def iO:T:=.nd 0 ff tt
def Ge:Zs:=[tk 1 [118,97,114],tk 1 [120],tk 3 [58],⟨1,[105,110,116],iO,true⟩,⟨1,[98,111,111,108],iO.not,true⟩,tk 3 [59]]
def wz:Zs:=[tk 1 [102,110],tk 1 [109,97,105,110],tk 3 [40],tk 3 [41],tk 3 [123],tk 1 [112,114,105,110,116],tk 2 [49],tk 3 [43],tk 2 [50],tk 3 [42],tk 2 [51],tk 3 [59],tk 3 [125]]
def rB:aA:=⟨[⟨2,[120],1,0,[⟨5,[105,110,116],3,0,[],iO⟩,⟨5,[98,111,111,108],4,0,[],iO.not⟩],tt⟩],[(6,tt)],[]⟩
def lA:List M:=[⟨3,[109,97,105,110],1,0,[⟨6,[],4,2,[⟨11,[],5,0,[⟨13,[43],7,0,[⟨15,[49],6,0,[],tt⟩,⟨13,[42],9,1,[⟨15,[50],8,0,[],tt⟩,⟨15,[51],10,1,[],tt⟩],tt⟩],tt⟩],tt⟩],tt⟩],tt⟩]
mutual
def DS:M->M->Bool
 |⟨k,t,o,s,ks,d⟩,⟨k',t',o',s',ks',d'⟩=>decide (k=k') && decide (t=t') && decide (o=o') && decide (s=s') && tD ks ks' && decide (d=d')
def tD:List M->List M->Bool
 | [],[]=>true
 |n::l,m::k=>DS n m && tD l k
 |_,_=>false
end
mutual
theorem PJ:∀{a b:M},DS a b=true->a=b
 |⟨k,t,o,s,ks,d⟩,⟨k',t',o',s',ks',d'⟩,h=>by
  simp only[DS,cZ,dE]at h
  obtain⟨⟨⟨⟨⟨h1,h2⟩,h3⟩,h4⟩,h5⟩,h6⟩:=h
  rw[h1,h2,h3,h4,DR h5,h6]
theorem DR:∀{a b:List M},tD a b=true->a=b
 | [],[],_=>rfl
 |n::l,m::k,h=>by
  simp only[tD,cZ]at h
  rw[PJ h.1,DR h.2]
 | [],m::k,h=>by simp[tD]at h
 |n::l,[],h=>by simp[tD]at h
end
def HY(o:Option aA)(r:aA):Bool:=match o with
 |some x=>tD x.l r.l && decide (x.f=r.f) && decide (x.e=r.e)
 |none=>false
def HZ{o:Option aA}{r:aA}(h:HY o r=true):o=some r:=by
 cases o with
 |none=>cases h
 |some x=>
  simp only[HY,cZ,dE]at h;obtain⟨⟨h1,h2⟩,h3⟩:=h;cases x;cases r
  simp only at h1 h2 h3;rw[DR h1,h2,h3]
def Wy:run Ge e9 (.seqL true 0 [(0,tt)] [] [])=some rB:=HZ (by decide +kernel)
def rA:aA:=⟨lA,[(13,tt)],[]⟩
def Wx:run wz e9 (.seqL true 0 [(0,tt)] [] [])=some rA:=HZ (by decide +kernel)
def Kk:cR (cJ (eE rB)) (eE rB)=[⟨1,[],-1,0,rB.l,tt⟩]/\iz rB.e=[]:=⟨by rfl,by rfl⟩
def Kh:cR (cJ (eE rA)) (eE rA)=[⟨1,[],-1,0,lA,tt⟩]/\iz rA.e=[]:=⟨by rfl,by rfl⟩
def Yr:bB wz:=fun t h=>by simp only[wz,tk,ku,dJ,or_false]at h;rcases h with h|h|h|h|h|h|h|h|h|h|h|h|h<;>subst h<;>exact trivial
def PX{t:Tr}(h:mD Ge tt t):t=⟨[⟨1,[],-1,0,rB.l,tt⟩],[]⟩:=by
 rcases h with ⟨e,_⟩|⟨_,r,a,b⟩
 .cases e
 .rw[Wy]at a;cases a
  rw[b,Kk.1,Kk.2]
def PW:mD wz tt ⟨[⟨1,[],-1,0,lA,tt⟩],[]⟩:=by refine .inr ⟨by decide,rA,Wx,?_⟩;rw[Kh.1,Kh.2]
def VV{w:T}(a:w.ok 0){t:Tr}(h:mD wz w t){c:aF}(b:w.at' c=true):prj c t=⟨[⟨1,[],-1,0,lA,tt⟩],[]⟩:=by rw[DV Yr a (show tt.ok 0 from trivial) h PW b rfl];rfl
end Syn
namespace Go.Proofs.YtfaclfkpnmcmlaaGreatDoor
open Go Go.Sx Dg Syn
def Ll{K:Type}[DecidableEq K](lt:K->K->Bool)(k:K):∀l:List K,(nm lt k l).length<=l.length+1
 | []=>aR _
 |y::l=>by
  have:=Ll lt k l;simp only[nm];split
  .simp
  .split
   .simp only[bl];omega
   .simp
def Ln{K:Type}[DecidableEq K](lt:K->K->Bool):∀l:List K,(n7 lt l).length<=l.length
 | []=>aR _
 |y::l=>by have h1:=Ln lt l;have h2:=Ll lt y (n7 lt l);show (nm lt y (n7 lt l)).length<=_;simp only[bl];omega
def UU(e:List aI):(iz e).length<=e.length:=by unfold iz qg;rw[eO];refine fJ (Ln _ _) ?_;rw[eO];exact List.length_filter_le ..
def uQ(t:Tr):Prop:=aL t.kids<=ar/\t.diags.length<=ar
theorem uQ.prj{t:Tr}(c:Nat)(h:uQ t):uQ (prj (fT c) t):=⟨fJ (Ch _ _) h.1,by
 have h2:((t.diags.filter fun d=>d.cond.at' (fT c)).map fun d=>{ d with cond:=tt }).length<=t.diags.length:=by rw[eO];exact List.length_filter_le ..
 exact fJ h2 h.2⟩
def MP(Z:Zs)(w:T)(r:Value)(a:PH):Prop:=∃t,mD (Z.map refit) w t/\jt a r t/\uQ t
structure oz(I:PH)(v:Value)(Z:Zs):Prop where
 sh:∃lv ga gn gc,v=.agg #[lv,.slice ga gn gc]/\Sl cU I lv Z
 ok:bB Z
 len:Z.length<=16384
 txt:∀t∈Z,t.text.length<2^40
variable{v:Value}{I J:PH}
def oz.le{Z:Zs}(h:oz I v Z)(k:I.le J):oz J v Z:=
 ⟨let ⟨lv,ga,gn,gc,e,hs⟩:=h.sh;⟨lv,ga,gn,gc,e,Sl.le (R:=cU) (fun{I J c a} h k=>cU.le h k) hs k⟩,h.ok,h.len,h.txt⟩
def wj{Z:Zs}(h:bB Z):bB (Z.map refit):=fun t ht=>by obtain⟨s,hs,rfl⟩:=List.mem_map.1 ht;exact h s hs
def NW{Z:Zs}(h:∀t∈Z,t.text.length<2^40)(i:Nat):(X (Z.map refit) i).length<4611686018427387904:=by
 unfold X fu;split
 .rename_i t ht;split
  .obtain⟨s,hs,rfl⟩:=List.mem_map.1 (db ht);have:=h s hs;show s.text.length<_;omega
  .simp
 .simp
theorem DW{vd:Value}{Z:Zs}{w:T}(hV:ib I)(hT:oz I v Z)(Q:bW I vd w):Zu 22 #[v,vd] I [] fun r I2 U=>U=[]/\MP Z w r I2:=by
 obtain⟨⟨lv,ga,gn,gc,rfl,hS⟩,t,hl,hx⟩:=hT;obtain⟨la,lc,rfl,_⟩:=id hS;obtain⟨wa,wk,rfl⟩:=Q.shape2;intro hd;refine aP 39 func22 fun w0=>?_
 try simp only[sD,rD,E]
 refine ai ?_;refine Zl rfl jj (ji (Q.le (iL hd))) ?_;rintro v H2⟨rfl,rfl⟩;cases a1:decide (w=.lf false)
 rotate_left
 .have b0:w=ff:=by simpa using a1
  refine ai ?_;exact az rfl hd (r:=[.agg #[.slice none 0 0,.slice none 0 0]]) (by simp only[results22,go_sem,E]) (aD _) ⟨rfl,⟨[],[]⟩,.inl ⟨b0,rfl⟩,⟨_,_,rfl,⟨none,0,rfl,.inl rfl⟩,p0,⟨none,0,rfl,.inl rfl⟩,p0⟩,by exact⟨aE _,aE _⟩⟩
 have q:w≠ff:=by simpa using a1
 refine ai ?_;refine eG hd rfl Rx (Vj hV hS hl hx) ?_;rintro v1 I1 U b3 u⟨pb,fv,rfl,rfl,hF⟩;have hP:iG I1 (Z.map refit) (.slice la Z.length lc) fv:=⟨Sl.refit (Sl.le (R:=cU) (fun{I J c a} h k=>cU.le h k) hS u),hF,by simpa using hl,wj t⟩;obtain⟨r,er,fn,re,rl⟩:=XA (wj t) Q.1 q (by simpa using hl);obtain⟨q0,_,S⟩:=qV (wj t) Q.1 q er (fun _=>false);have a7:=VP (wj t) (by simpa using hl) Q.1 q er;have bb:=XB (wj t) (by simpa using hl) (NW hx) Q.1 q er;obtain⟨a9,_⟩:=yu S.fok S.lok;have cp:aL (en (gG r.f) r.l)+1=aL (eE r):=by unfold eE;rw[dj,gB]
 unfold EW at a7;refine rJ ?_;refine de b3 fun b2=>?_;refine ak b2 [1,0] fun b1=>?_;refine av b1 [0,1] [sg pb _,_] [] rfl Ry rfl (Wb (o:=0) O er hP (Q.le u) q (Ow.nil _ _ _ _) (by have re':=re;unfold ar at re';simp only[bg];unfold l9;omega)) ?_;rintro v2 I2 U a3 am⟨dv2,D2,rs,rfl,z,⟨A,B,va,vb,rfl,rfl,hA,hB⟩,cs,cr⟩;rw[aQ]at z;simp only[Z3]at a3 |-;obtain⟨aa,ac,rfl⟩:=hA.shape;obtain⟨ba,bc,rfl⟩:=hB.shape;obtain⟨ea,ec,rfl⟩:=z.shape;have cl:=hA.capN ag.len;have cf:=Ow.capN (R:=bj) z (fun c a h=>bj.len c a h);refine ak a3 [0,1,2,3] fun P=>?_;refine aJ P fun I3 P p b4=>?_;refine ak P [0,1,2] fun N=>?_;refine aJ N fun I4 N m ci=>?_;refine ak N [0,1] fun L=>?_;refine aJ L fun I5 L j cm=>?_;refine ak L [0] fun H=>?_;refine aJ H fun I6 H i cj=>?_;have V:=D m (D j i);have a5:=D p V;have W:a8 I6 pb 4 [.slice ea r.e.length ec]:=(dz ao rfl:a8 (sg pb (bS (.slice la Z.length lc) fv (.slice none 0 0) (.slice ea r.e.length ec) 0)) pb 4 [.slice ea r.e.length ec]).le (D b4 V);have b8:bk I6 (.slice aa r.l.length ac) r.l:=bk.le (aw.sl (aw.le hA (D p m)) j cm) i;have cc:Sl bj I6 (.slice ea r.e.length ec) r.e:=SlE.le (bt.sl (bt.le z p) m ci) (D j i);have cb:bM I6 (.slice ba r.f.length bc) r.f:=i6 (R:=cK) (fun{I J c a} h k=>cK.le h k) (Ow.le (R:=cK) (fun{I J c a} h k=>cK.le h k) hB (D p (D m j))) i cj;have a6:=D am a5;refine ai ?_;refine eG H rfl Rz (Ob cb (by have:=fn.len;simp only[eO]at this;omega)) ?_;rintro v3 I7 U a2 g⟨rfl,F⟩;obtain⟨za,zk,rfl⟩:=F.shape2;refine aZ ?_;refine Zm (l:=[.slice ea r.e.length ec]) rfl (cellsU a2 (.head _) (W.le g)) (.inr ⟨Dk,rfl⟩) ?_;refine bK ?_
 refine bG [0,1,3,2,4,5,6,7] [] [] ?_;refine cz ?_;refine dU a2 rfl Je (WS (aL r.l+1) (eF _) (bk.le b8 g) cl F (by unfold ar;omega)) ?_;rintro v4 I8 U aS X⟨K,rfl,hK⟩;obtain⟨ka,kc,rfl⟩:=hK.shape;have ca:=hK.capN ag.len;refine cz ?_;refine iu aS (by exact dr) rfl rfl rfl rfl rfl af fun nb I9 aq C bs=>?_;refine cz ?_;apply aN;refine ak aq [0] fun x=>?_;refine aJ (c:=.st _) x fun a4 x d a0=>?_;have b7:bk a4 (.slice ka (en (gG r.f) r.l).length kc) (en (gG r.f) r.l):=aw.sl (aw.le hK C) d a0;have s:=D X (D C d);have b6:bk a4 (.slice (some ⟨nb,0,none⟩) 1 1) (eE r):=og ((bA bs (by simp[ax,Value.cells]) (by simp[ax,Value.cells,E,sD,rD]):a8 I9 nb 0 _).le d) (ag.mk (n:=⟨1,[],-1,0,en (gG r.f) r.l,gG r.f⟩) (F.le s) b7 ca);refine bK ?_;refine cI x (by exact W2) rfl rfl rfl rfl rfl af fun mb cn ap b bx=>?_;have b5:Sl oF cn (.slice (some ⟨mb,0,none⟩) 1 1) [⟨eE r,r.e⟩]:=⟨_,_,rfl,.inr ⟨mb,0,_,rfl,bA bx (by simp[ax,Value.cells]) (by simp[ax,Value.cells]),.one ⟨_,_,rfl,bk.le b6 b,⟨aR _,fun _=>by unfold maxLen;omega⟩,SlE.le cc (D g (D s b)),cf⟩⟩⟩;refine ai ?_;refine eG ap rfl Rq (UZ b5 ao (by simpa using a9) (by simpa using bb) (by simp only[pC,List.flatMap_nil,Y];unfold ar;omega) (by simpa using S.eok) (by simpa using re)) ?_;rintro v5 cx U an G⟨rfl,hR⟩;have em:AZ [⟨eE r,r.e⟩]=⟨cR (cJ (eE r)) (eE r),iz r.e⟩:=by simp[AZ]
 rw[em]at hR;obtain⟨_,_,rfl,hR⟩:=hR;obtain⟨⟨xa,xc,rfl,_⟩,_,⟨ya,yc,rfl,_⟩,_⟩:=id hR;refine ai ?_;refine az rfl an (r:=[.agg #[.slice xa (cR (cJ (eE r)) (eE r)).length xc,.slice ya (iz r.e).length yc]]) (by simp only[results22,go_sem]) (D u (D a6 (D g (D s (D b G))))) ⟨rfl,_,.inr ⟨q,r,er,rfl⟩,⟨_,_,rfl,hR⟩,?_,?_⟩
 .have:=Mg (cJ (eE r)) (eE r);show aL (cR (cJ (eE r)) (eE r))<=ar;unfold ar;omega
 .exact fJ (UU r.e) re
def Vo{c:Nat}(a:c<2^32):q9 .u32 (Bt .u32) (c:Int)=((4294967295 ^^^ c:Nat):Int):=by
 have hm:Bt .u32=((4294967295:Nat):Int):=by decide
 rw[hm];have hb:(4294967295:Nat)<2^32:=by decide
 have e:BitVec.ofInt 32 ((4294967295:Nat):Int)=BitVec.ofNat _ 4294967295:=by rw[BitVec.ofInt_natCast]
 have d:BitVec.ofInt 32 (c:Int)=BitVec.ofNat _ c:=by rw[BitVec.ofInt_natCast]
 have b:4294967295 ^^^ c<2^32:=Nat.xor_lt_two_pow hb a;have:q9 .u32 ((4294967295:Nat):Int) (c:Int)=IntKind.u32.wrap ((BitVec.ofInt 32 ((4294967295:Nat):Int) ^^^ BitVec.ofInt 32 (c:Int)).toNat:Int):=rfl;rw[this,e,d,BitVec.toNat_xor,BitVec.toNat_ofNat,BitVec.toNat_ofNat,Nat.mod_eq_of_lt hb,Nat.mod_eq_of_lt a];simp only[IntKind.wrap,show IntKind.bits .u32=32 from rfl,show IntKind.signed .u32=false from rfl];have:((4294967295 ^^^ c:Nat):Int) % (2^32:Int)=((4294967295 ^^^ c:Nat):Int):=uw O (by exact_mod_cast b);simpa using this
def GE(Z:Zs)(c:Nat)(r:Value)(a:PH):Prop:=∃t,mD (Z.map refit) (iJ c (4294967295 ^^^ c)) t/\jt a r (prj (fT c) t)/\uQ (prj (fT c) t)
def Fi{Z:Zs}{c:Nat}(A:ib I)(o:oz I v Z)(j:c<2^32):Zu 19 #[v,.int .u32 c] I [] fun r q i=>i=[]/\GE Z c r q:=by obtain⟨lv,ga,gn,gc,rfl,B⟩:=o.sh;obtain⟨la,S,rfl,_⟩:=id B;have z:4294967295 ^^^ c<2^32:=Nat.xor_lt_two_pow af j;intro hd;refine aP 13 func19 fun w0=>?_;refine ai ?_;refine bG [0,1,2,3,6,4,5,7,8] [] [] ?_;apply bo;simp only[go_sem,Vo j];refine dU hd rfl Rw (DI j z) ?_;rintro P U i m a⟨rfl,n⟩;obtain⟨N,K,rfl⟩:=n.shape2;refine eo ?_;refine dU m rfl Eu (DW (A.le a) (o.le a) n) ?_;rintro v2 q i l e⟨rfl,t,C,p,h,g⟩;obtain⟨H,J,rfl,⟨R,Q,rfl,_⟩,_,⟨y,L,rfl,_⟩,_⟩:=id p;refine eo ?_;refine dU l rfl Rn (We p j h g) ?_;rintro v3 T i k d⟨rfl,f⟩;obtain⟨F,G,rfl,⟨x,w,rfl,_⟩,_,⟨u,s,rfl,_⟩,_⟩:=id f;refine eo ?_;apply aN;refine ai ?_;exact az rfl k (r:=[.agg #[.slice x (prj (fT c) t).kids.length w,.slice u (prj (fT c) t).diags.length s]]) (by simp only[results19,go_sem]) (D a (D e d)) ⟨rfl,t,C,f,uQ.prj c ⟨h,g⟩⟩
def QB:ay prog 16:=⟨_,func16,rfl,rfl⟩
def Rm:ay prog 32:=⟨_,func32,rfl,rfl⟩
def jY(_:PH)(c:Zo)(x:Nat):Prop:=c=[.int .u32 x]/\x<2^32
def jY.len(c:Zo)(x:Nat)(h:jY I c x):c.length=1:=by rw[h.1];rfl
abbrev pK(I A:PH)(v:Value)(l:Zp):Prop:=Ow jY 23 1 I A v l
abbrev tp(I:PH)(v:Value)(l:Zp):Prop:=Sl jY I v l
def pK.le{A:PH}{l:Zp}(h:pK I A v l)(k:I.le J):pK J A v l:=Ow.le (R:=jY) (fun{I J c a} h k=>h) h k
def tp.le{l:Zp}(h:tp I v l)(k:I.le J):tp J v l:=Sl.le (R:=jY) (fun{I J c a} h k=>h) h k
def xC(u:Nat)(x:Nat×Value):St:=⟨dn 35 [(0,.v (.int .u32 u)),(3,.v x.2),(4,.v (E x.1))],[]⟩
def OX(u:Nat)(a:PH)(x:Nat×Value)(H:PH):Prop:=∃I A l,H=U [I,A]/\Dj [I,A]/\a.le I/\x.1<=32/\pK I A x.2 l/\l=lW u x.1
def Ah(u i n:Nat)(x:Nat×Value):St:=⟨dn 35 [(0,.v (.int .u32 u)),(3,.v x.2),(4,.v (E i)),(5,.v (E n)),(6,.v (E x.1))],[]⟩
def OW(a:Zp)(b:Nat)(c:PH)(x:Nat×Value)(H:PH):Prop:=∃I A l,H=U [I,A]/\Dj [I,A]/\c.le I/\x.1<=a.length/\pK I A x.2 l/\l=a++(a.take x.1).map (fun x=>x|||2^b)
def DA(u:Nat):∀i,(lW u i).length=2^fB u i
 |0=>rfl
 |i+1=>by
  have a:=DA u i;have hp:fB u (i+1)=fB u i+(u.testBit i).toNat:=rfl;unfold lW;by_cases h:u.testBit i=true
  .rw[ah h,hp,h,aH,eO,a,show (true:Bool).toNat=1 from rfl,uA];omega
  .have b:u.testBit i=false:=by simpa using h
   rw[ab h,hp,b,a];rfl
variable{u:Nat}
theorem Pi(hu:u<2^32)(hp:fB u 32<=8):Zu 21 #[.int .u32 u] I [] fun r I2 qs=>qs=[]/\tp I2 r (lW u 32):=by
 intro hd;refine aP 35 func21 fun w0=>?_;refine ai ?_;refine rG hd (by exact yM) rfl rfl rfl rfl rfl af fun b0 A0 Z G=>?_;have aq:pK I A0 (.slice (some ⟨b0,0,none⟩) 1 1) [0]:=⟨_,G,⟨[.int .u32 0],[],by simp[ax,Value.cells],⟨rfl,by decide⟩,rfl⟩⟩;refine ai ?_;refine bV (fun x=>32-x.1) (xC u) (OX u I) (0,.slice (some ⟨b0,0,none⟩) 1 1) al (by simp only[go_sem,Y,xC]) ?_ ?_
 .exact⟨I,A0,[0],rfl,Z,aD _,aE _,aq,rfl⟩
 rintro⟨i,vo⟩ H ⟨I1,A1,l,rfl,B,f,hi,Q,o⟩ d;simp only at hi Q o;have A:l.length=2^fB u i:=by rw[o];exact DA u i
 simp only[xC];obtain⟨oa,oc,rfl⟩:=Q.shape;rcases aK i 32 with s|a2
 .have h9:decide ((i:Int)<32)=true:=bm O;have e1:=Z7 i;have S:=Hm hu (i:=i) O;have aS:=fJ (VZ u (i:=i+1) (j:=32) O) hp;have K:fB u (i+1)=fB u i+(u.testBit i).toNat:=rfl;have P:l.length<=256:=by rw[A];exact fJ (wS O (show fB u i<=8 by omega)) af
  cases hb:u.testBit i
  .rw[hb]at S K;apply RG;simp only[go_sem,E,h9,gL,S,Bool.toNat_false,dP,e1];exact d (i+1,.slice oa l.length oc) _ _ bi al (by simp only[go_sem,Y,xC]) ⟨I1,A1,l,rfl,B,f,s,Q,by simp only;rw[o,lW,ab (by rw[hb];decide)]⟩
  .rw[hb]at S K;have a0:(true:Bool).toNat=1:=rfl;have aa:l.length<=128:=by rw[A];exact fJ (wS O (show fB u i<=7 by omega)) af
   apply RG;simp only[go_sem,E,h9,gL,S,Bool.toNat_true,dP];refine bV (fun x=>l.length-x.1) (Ah u i l.length) (OW l i I1) (0,.slice oa l.length oc) al (by simp only[go_sem,Y,Ah]) ?_ ?_
   .exact⟨I1,A1,l,rfl,B,aD _,aE _,Q,by simp⟩
   rintro⟨k,vq⟩ H ⟨I2,A2,m,rfl,b,y,hk,p,e⟩ q;simp only at hk p e;have a1:m.length=l.length+k:=by rw[e,aH,eO,lK];omega
   simp only[Ah];obtain⟨qa,qc,rfl⟩:=p.shape;rcases aK k l.length with z|ac
   .have F:=Z5 k l.length;have e2:=Z7 k;obtain⟨x,hx⟩:∃x,m[k]?=some x:=⟨_,aY O⟩;obtain⟨g,cap,cur,c,ev,rfl,c1,c2,hc,a3,C,_⟩:=p.elem (fun{I} c a h=>jY.len (I:=I) c a h) (fun{I J c a} h k=>h) hx;cases ev
    obtain⟨rfl,t⟩:=hc;have V:l[k]?=some x:=by rw[<-hx,e,wK z]
    have L:2^i<2^32:=Nat.pow_lt_pow_right O s;have q1:yh .u32 (x:Int) (qT .u32 1 (i:Int))=((x|||2^i:Nat):Int):=by rw[WU s];exact Bv t L
    have U:x|||2^i<2^32:=Nat.or_lt_two_pow t L;refine bd F ?_;refine bG [0,1,2,3,4,5,6,7,8,9,10] [4] [] ?_;refine bU ?_
    try refine⟨O,?_⟩
    refine Zn (l:=[.int .u32 x]) rfl (by simpa using cellsU b (.tail _ (.head _)) C) (.inr ⟨mJ,rfl⟩) ?_;apply bo;simp only[go_sem,E,gL,q1];refine iu b (by exact yM) rfl rfl rfl rfl rfl af fun nb I4 X v T=>?_;have am:Sl jY I4 (.slice (some ⟨nb,0,none⟩) 1 1) [x|||2^i]:=⟨_,_,rfl,.inr ⟨nb,0,_,rfl,bA T (by simp[ax,Value.cells]) (by simp[ax,Value.cells]),.one ⟨rfl,U⟩⟩⟩;refine bU ?_;refine uL (R:=jY) (xs:=m) (ys:=[x|||2^i]) X (by exact yM) (pK.le p v) am (fun{I J c a} h k=>h) (fun{I} c a h=>jY.len (I:=I) c a h) (fun{I} c a h=>by rw[h.1];rfl) rfl rfl rfl rfl rfl rfl (by simp only[bl,bg];omega) (by simp only[bl,bg];unfold maxLen;omega) fun ua uc I5 A5 W N an=>?_;refine bU ?_;apply aN;refine bd e2 ?_;exact q (k+1,.slice ua (m++[x|||2^i]).length uc) _ _ bi al (by simp only[go_sem,Y,Ah]) ⟨I5,A5,m++[x|||2^i],rfl,W,D y (D v N),z,an,by simp only;rw[jQ V,mw,<-cD,<-e];rfl⟩
   .have:k=l.length:=by omega
    subst this;have F:decide ((l.length:Int)<(l.length:Int))=false:=ao;refine d6 F e1 ?_;exact d (i+1,.slice qa m.length qc) _ _ bi al (by simp only[go_sem,Y,xC]) ⟨I2,A2,m,rfl,b,D f y,s,p,by simp only;rw[e,dK,lW,ah hb,<-o]⟩
 .have:i=32:=by omega
  subst this;have P:l.length<=256:=by rw[A];exact fJ (wS O hp) af
  refine ak B [0] fun b=>?_;refine aJ (c:=.st _) b fun I3 b w ap=>?_;apply RG;simp only[go_sem,E,dP];exact az rfl b (r:=[_]) rfl (D f w) ⟨rfl,by rw[<-o];exact i6 (R:=jY) (fun{I J c a} h k=>h) Q w ap⟩
def y8(v:Value)(vc:Value)(x:Nat×Value):St:=⟨dn 30 [(0,.v v),(5,.v x.2),(6,.v vc),(7,.v (E x.1))],[]⟩
def XU(m:Zp)(a:List (Nat×Nat))(b:PH)(x:Nat×Value)(H:PH):Prop:=∃I A l,H=U [I,A]/\Dj [I,A]/\b.le I/\x.1<=m.length/\pK I A x.2 l/\l=(m.take x.1).filter (mU a)
theorem Ml{l:List (Nat×Nat)}(W:gE I v l)(hl:l.length<2^60)(hu:u<2^32)(hp:fB u 32<=8):Zu 25 #[v,.int .u32 u] I [] fun r U V=>V=[]/\tp U r (y9 l u):=by
 obtain⟨va,vc,rfl,_⟩:=id W;intro hd;refine aP 30 func25 fun w0=>?_;refine ai ?_;refine eG hd rfl QM (Pi hu hp) ?_;rintro v1 Z V P s⟨rfl,hm⟩;have K:(lW u 32).length<=256:=by rw[DA];exact fJ (wS O hp) af
 have t:y9 l u=(lW u 32).filter (mU l):=rfl;rw[t];clear t;generalize lW u 32=m at hm K |-;obtain⟨ma,mc,rfl,_⟩:=id hm;refine ai ?_;refine de P fun N=>?_;refine bV (fun x=>m.length-x.1) (y8 (.slice va l.length vc) (.slice ma m.length mc)) (XU m l Z) (0,.slice none 0 0) al (by simp only[go_sem,Y,y8]) ?_ ?_
 .exact⟨Z,_,[],rfl,N,aD _,aE _,Ow.nil _ _ _ _,by simp⟩
 rintro⟨i,vo⟩ H ⟨U,A2,o,rfl,g,e,hi,C,f⟩ j;simp only at hi C f;have aa:o.length<=i:=by rw[f];exact fJ (List.length_filter_le _ _) (by rw[lK];omega)
 simp only[y8];obtain⟨oa,oc,rfl⟩:=C.shape;rcases aK i m.length with w|ac
 .have y:=Z5 i m.length;have e1:=Z7 i;obtain⟨x,F⟩:∃x,m[i]?=some x:=⟨_,aY w⟩;obtain⟨b,off,cs,rfl,⟨rfl,z⟩,q⟩:=Sl.load (fun{I} c a h=>jY.len (I:=I) c a h) (tp.le hm e) F;refine bd y ?_
  try refine⟨O,?_⟩
  refine Zm (l:=[.int .u32 x]) rfl (cellsU g (.head _) (by simpa using q)) (.inr ⟨mJ,rfl⟩) ?_;refine bJ ?_;refine Zl rfl EE (EK (gE.le W (D s (D e (iL g)))) hl z) ?_;rintro v H2⟨rfl,rfl⟩;cases B:mU l x
  .refine bd e1 ?_;exact j (i+1,.slice oa o.length oc) _ _ bi al (by simp only[go_sem,Y,y8]) ⟨U,A2,o,rfl,g,e,w,C,by simp only;rw[jQ F,List.filter_append,<-f];simp[B]⟩
  .refine bJ ?_
   try refine⟨O,?_⟩
   refine Zm (l:=[.int .u32 x]) rfl (cellsU g (.head _) (by simpa using q)) (.inr ⟨mJ,rfl⟩) ?_;refine bJ ?_;refine cI g (by exact yM) rfl rfl rfl rfl rfl af fun nb X p d G=>?_;have Q:Sl jY X (.slice (some ⟨nb,0,none⟩) 1 1) [x]:=⟨_,_,rfl,.inr ⟨nb,0,_,rfl,bA G (by simp[ax,Value.cells]) (by simp[ax,Value.cells]),.one ⟨rfl,z⟩⟩⟩;refine bJ ?_;refine fk (R:=jY) (xs:=o) (ys:=[x]) p (by exact yM) (pK.le C d) Q (fun{I J c a} h k=>h) (fun{I} c a h=>jY.len (I:=I) c a h) (fun{I} c a h=>by rw[h.1];rfl) rfl rfl rfl rfl (by simp only[bl,bg];omega) (by simp only[bl,bg];unfold maxLen;omega) fun ua uc I5 A5 L A S=>?_;refine bd e1 ?_;exact j (i+1,.slice ua (o++[x]).length uc) _ _ bi al (by simp only[go_sem,Y,y8]) ⟨I5,A5,o++[x],rfl,L,D e (D d A),w,S,by simp only;rw[jQ F,List.filter_append,<-f];simp[B]⟩
 .have:i=m.length:=by omega
  subst this;have y:decide ((m.length:Int)<(m.length:Int))=false:=ao;refine ak g [0] fun p=>?_;refine aJ (c:=.st _) p fun X p d T=>?_;refine bd y ?_;exact az rfl p (r:=[_]) rfl (D s (D e d)) ⟨rfl,by rw[dK]at f;rw[<-f];exact i6 (R:=jY) (fun{I J c a} h k=>h) C d T⟩
structure It where
 kind:Nat
 text:au
 cubes:List (Nat×Nat)
def nv(I:PH)(c:Zo)(x:It):Prop:=∃a,c=[.int .u8 x.kind,.string ⟨⟨x.text⟩⟩,a]/\gE I a x.cubes
variable{x:It}
def nv.le{c:Zo}(h:nv I c x)(k:I.le J):nv J c x:=by obtain⟨a,e,h⟩:=h;exact⟨a,e,gE.le h k⟩
def nv.len(c:Zo)(x:It)(h:nv I c x):c.length=3:=by obtain⟨a,e,_⟩:=h;rw[e];rfl
abbrev pQ(I:PH)(v:Value)(l:List It):Prop:=Sl nv I v l
variable{l:List It}
def pQ.le(h:pQ I v l)(k:I.le J):pQ J v l:=Sl.le (R:=nv) (fun{I J c a} h k=>nv.le h k) h k
def fU(x:It):Tok:=⟨x.kind,x.text,nI x.cubes,true⟩
def zB(x:It):Prop:=x.cubes.length<2^40/\x.text.length<2^40
def zm(x:It):Nat:=1+x.cubes.length+x.text.length / 64
def sV(n0:Nat)(l:List It):Nat:=n0+(l.map zm).sum
def Y3(n0:Nat)(l:List It)(x:It):sV n0 (l++[x])=sV n0 l+zm x:=by unfold sV;rw[mw,List.sum_append];simp;omega
def MK(n0:Nat):∀l:List It,l.length<=sV n0 l
 | []=>aE _
 |x::l=>by
  have:=MK n0 l;unfold sV at this |-;simp only[iq,List.sum_cons,bl];have:1<=zm x:=by unfold zm;omega
  omega
def tT(vl a:Value)(most:Nat)(x:Nat×Nat×Nat):St:=⟨dn 120 [(0,.v vl),(1,.v a),(2,.v (E most)),(6,.p 6 0),(7,.v (.slice none 0 0)),(8,.v (.int .u32 0)),(9,.v (.bool false)),(10,.v (.int .u32 x.2.1)),(11,.v (E x.2.2)),(12,.p 12 0),(13,.v (E x.1))],[⟨6,27,[.slice none 0 0,.slice none 0 0]⟩,⟨12,27,[.slice none 0 0,.slice none 0 0]⟩]⟩
def oU(vl:Value)(u:Nat)(x:Nat×Value×Value):St:=⟨dn 120 [(0,.v vl),(6,.p 6 0),(10,.v (.int .u32 u)),(12,.p 12 0),(14,.v x.2.2),(15,.v (E x.1))],[⟨6,27,[.slice none 0 0,.slice none 0 0]⟩,⟨12,27,[x.2.1,.slice none 0 0]⟩]⟩
def jb(u:Nat)(I:PH)(c:Zo)(x:It):Prop:=∃pv a,c=[.int .u8 x.kind,.string ⟨⟨x.text⟩⟩,pv,.int .i64 0,.int .i64 0,a]/\Sx.one pv=true/\tp I a (y9 x.cubes u)
def jb.len(c:Zo)(x:It)(h:jb u I c x):c.length=6:=by obtain⟨pv,a,e,_⟩:=h;rw[e];rfl
def jb.le{c:Zo}(h:jb u I c x)(k:I.le J):jb u J c x:=by obtain⟨pv,a,e,h1,h2⟩:=h;exact⟨pv,a,e,h1,h2.le k⟩
def jb.ones{c:Zo}(h:jb u I c x):c.all Sx.one=true:=by obtain⟨pv,d,rfl,h1,a,b,rfl,_⟩:=h;simp only[List.all_cons,List.all_nil,h1,rd,Bool.true_and];rfl
abbrev rF(u:Nat)(I A:PH)(v:Value)(l:List It):Prop:=Ow (jb u) 136 6 I A v l
def rF.le{A:PH}(h:rF u I A v l)(k:I.le J):rF u J A v l:=Ow.le (R:=jb u) (fun{I J c a} h k=>jb.le h k) h k
def UA(u:Nat)(l:List It)(a:PH)(x:Nat×Value×Value)(H:PH):Prop:=∃I A B m,H=U [I,A,B]/\Dj [I,A,B]/\a.le I/\x.1<=l.length/\iF I A x.2.1 ((l.take x.1).map fU)/\rF u I B x.2.2 m/\m=l.take x.1
def MS(l:List It)(w:List (Nat×Nat))(v:Value)(b:PH):Prop:=
 (∃lv,v=.tuple #[lv,.slice none 0 0,.int .u32 0,.bool false]/\lv=.agg #[.slice none 0 0,.slice none 0 0])\/
 (∃lv a n c u,v=.tuple #[lv,.slice a n c,.int .u32 u,.bool true]/\oz b lv (l.map fU)/\l.length<400/\∃a n k g,lv=.agg #[.slice a n k,g]/\n<=k)
def MT(l:List It)(w:List (Nat×Nat))(most:Nat)(v:Value)(b:PH):Prop:=
 (∃lv,v=.tuple #[lv,.slice none 0 0,.int .u32 0,.bool false]/\lv=.agg #[.slice none 0 0,.slice none 0 0])\/
 (∃lv a c u,v=.tuple #[lv,.slice a l.length c,.int .u32 (u:Nat),.bool true]/\oz b lv (l.map fU)/\l.length<400/\(∃a n k g,lv=.agg #[.slice a n k,g]/\n<=k)/\
  Sl (jb u) b (.slice a l.length c) l/\u<2^24/\lS w u/\(∀y∈l,lS y.cubes u)/\fB u 32<=most)
variable{most:Nat}{w:List (Nat×Nat)}
theorem UG{vl vw:Value}(hS:pQ I vl l)(hW:gE I vw w)(hb:∀x∈l,zB x)(hl:l.length<2^40)(hw:w.length<2^40)(hm:most<=8):Zu 16 #[vl,vw,E most] I [] fun r I2 qs=>qs=[]/\MT l w most r I2:=by
 obtain⟨la,lc,rfl,_⟩:=id hS;obtain⟨wa,wc,rfl,_⟩:=id hW;intro hd;refine aP 120 func16 fun w0=>?_
 try simp only[E]
 refine ai ?_;refine Zl rfl IZ (Ho (gE.le hW (iL hd)) O) ?_;rintro v H2⟨rfl,rfl⟩;refine ai ?_;apply gO (fun(x:Nat×Nat×Nat)=>l.length-x.1) (tT (.slice la l.length lc) (.slice wa w.length wc) most) (fun x H=>H=U [I]/\x.1<=l.length/\x.2.1<2^24/\x.2.2=sV w.length (l.take x.1)/\x.2.2<2^44/\lS w x.2.1/\∀y∈l.take x.1,lS y.cubes x.2.1) (fun x H=>H=U [I]/\x.2.1<2^24/\x.2.2<2^44/\(x.2.2<400->sV w.length l<400/\lS w x.2.1/\∀y∈l,lS y.cubes x.2.1)) (0,tw w,w.length)
 .exact al
 .exact(by simp only[go_sem,Y,tT])
 .exact⟨rfl,aE _,Hn w,by simp[sV],by simp only;omega,L0 w,fun y N=>by simp at N⟩
 .rintro⟨i,u,n⟩ H ⟨rfl,hi,hu,hn,T,Q,P⟩ K Z;simp only at hi hu hn T Q P;simp only[tT];rcases aK i l.length with V|b7
  .have a1:=Z5 i l.length;rcases aK n 2000 with b4|b4
   .have a9:decide ((n:Int)<2000)=true:=bm O;have e1:=Z7 i;obtain⟨x,hx⟩:∃x,l[i]?=some x:=⟨_,aY V⟩;obtain⟨b,off,cs,rfl,⟨va,rfl,hc⟩,p⟩:=Sl.load (fun{I} c a h=>nv.len c a h) hS hx;obtain⟨ca,cc,rfl,_⟩:=id hc;have c1:=p.get (i:=1) rfl;have c2:=p.get (i:=2) rfl;obtain⟨b1,b2⟩:=hb x (db hx);have e31:=Z7 n;have e38:IntKind.i64.wrap (((n+1:Nat):Int)+(x.cubes.length:Int))=((n+1+x.cubes.length:Nat):Int):=by rw[<-wrap64 (n:=n+1+x.cubes.length) O];congr 1
    have e45:IntKind.i64.wrap ((x.text.length:Int).tdiv 64)=((x.text.length / 64:Nat):Int):=by
     have e:(x.text.length:Int).tdiv 64=((x.text.length / 64:Nat):Int):=by rw[Int.tdiv_eq_ediv_of_nonneg O];rfl
     rw[e];exact wrap64 O
    have e46:IntKind.i64.wrap (((n+1+x.cubes.length:Nat):Int)+((x.text.length / 64:Nat):Int))=((n+1+x.cubes.length+x.text.length / 64:Nat):Int):=by rw[<-wrap64 (n:=n+1+x.cubes.length+x.text.length / 64) O];congr 1
    refine d6 a1 a9 ?_;refine bG [0,1,2,3,4,5,6,7,8,9,10,11,12,13,14,15,16,17] [6,13] [] ?_;refine bQ e31 ?_
    try refine⟨O,?_⟩
    refine Zn (l:=[.slice ca x.cubes.length cc]) rfl (cellsU hd (.head _) (by simpa using c2)) (.inr ⟨xw,rfl⟩) ?_;refine lg e31 e38 ?_
    try refine⟨O,?_⟩
    refine Zn (l:=[.string ⟨⟨x.text⟩⟩]) rfl (cellsU hd (.head _) (by simpa using c1)) (.inr ⟨gF,rfl⟩) ?_;apply bo;simp only[go_sem,E,f8,e31,e38,e45,e46];apply aN;refine bJ ?_
    try refine⟨O,?_⟩
    refine Zm (l:=[.slice ca x.cubes.length cc]) rfl (cellsU hd (.head _) (by simpa using c2)) (.inr ⟨xw,rfl⟩) ?_;refine bJ ?_;refine Zl rfl IZ (Ho (gE.le hc (iL hd)) O) ?_;rintro v H2⟨rfl,rfl⟩;have b0:=Hn x.cubes;have q1:=Bv (a:=u) (b:=tw x.cubes) O O;refine d6 q1 e1 ?_;exact K (i+1,u|||tw x.cubes,n+1+x.cubes.length+x.text.length / 64) _ _ bi al (by simp only[go_sem,Y,tT]) ⟨rfl,V,Nat.or_lt_two_pow hu b0,by simp only;rw[jQ hx,Y3,<-hn];unfold zm;omega,by simp only;omega,Q.left _,fun y N=>by
     simp only at N |-;rw[jQ hx]at N;rcases List.mem_append.1 N with N|N
     .exact(P y N).left _
     .rw[List.mem_singleton]at N;subst N;exact(L0 _).right _⟩
   .have a9:decide ((n:Int)<2000)=false:=ch O;apply cE 14;simp only[go_sem,E,a1,a9];exact Z (i,u,n) _ _ al (by simp only[go_sem,Y,tT]) ⟨rfl,hu,T,fun h=>by simp only at h;omega⟩
  .have:i=l.length:=by omega
   subst this;have a1:decide ((l.length:Int)<(l.length:Int))=false:=ao;rw[dK]at hn P;apply cE 14;simp only[go_sem,E,a1];exact Z (l.length,u,n) _ _ al (by simp only[go_sem,Y,tT]) ⟨rfl,hu,T,fun h=>⟨by simp only at h;omega,Q,P⟩⟩
 rintro⟨i,u,n⟩ H ⟨rfl,hu,T,bb⟩;simp only at hu T bb;simp only[tT];rcases aK n 400 with bs|bs
 rotate_left
 .have a7:decide ((n:Int)>=400)=true:=bm O;refine bd a7 ?_;exact az rfl hd (r:=[.agg #[.slice none 0 0,.slice none 0 0],.slice none 0 0,.int .u32 0,.bool false]) (by simp only[results16,go_sem,E]) (aD _) ⟨rfl,.inl ⟨_,rfl,rfl⟩⟩
 have a7:decide ((n:Int)>=400)=false:=ch O;obtain⟨b3,Q,P⟩:=bb bs;have b6:=MK w.length l;refine bd a7 ?_;refine Zl rfl Ru (P2 (most:=most) O) ?_;rintro v H2⟨rfl,rfl⟩;cases b8:decide (fB u 32<=most)
 .refine bJ ?_;exact az rfl hd (r:=[.agg #[.slice none 0 0,.slice none 0 0],.slice none 0 0,.int .u32 0,.bool false]) (by simp only[results16,go_sem,E]) (aD _) ⟨rfl,.inl ⟨_,rfl,rfl⟩⟩
 have S:=lN b8;have an:fB u 32<=8:=fJ S hm;have am:u<2^32:=O;refine bJ ?_;refine de hd fun cj=>?_;refine de cj fun ci=>?_;refine bV (fun x=>l.length-x.1) (oU (.slice la l.length lc) u) (UA u l I) (0,.slice none 0 0,.slice none 0 0) al (by simp only[go_sem,Y,oU]) ?_ ?_
 .exact⟨I,_,_,[],rfl,ci,aD _,aE _,Ow.nil _ _ _ _,Ow.nil _ _ _ _,by simp⟩
 rintro⟨j,va,vb⟩ H ⟨I1,A1,B1,m,rfl,a0,X,hj,hA,hB,aq⟩ K;simp only at hj hA hB aq;have cp:m.length=j:=by rw[aq,lK];omega
 simp only[oU];obtain⟨aa,ac,rfl⟩:=hA.shape;obtain⟨ba,bc,rfl⟩:=hB.shape;rcases aK j l.length with V|b7
 .have a6:=Z5 j l.length;have e1:=Z7 j;obtain⟨x,hx⟩:∃x,l[j]?=some x:=⟨_,aY V⟩;obtain⟨b,off,cs,rfl,⟨vc,rfl,hc⟩,p⟩:=Sl.load (fun{I} c a h=>nv.len c a h) (pQ.le hS X) hx;obtain⟨ca,cc,rfl,_⟩:=id hc;have c0:=p.get (i:=0) rfl;have c1:=p.get (i:=1) rfl;have c2:=p.get (i:=2) rfl;obtain⟨b1,b2⟩:=hb x (db hx);have b5:((l.take j).map fU).length=j:=by simp;omega
  have hI:I1.le (U [I1,A1,B1]):=iL a0;refine bd a6 ?_;apply uH (fun(y:Value)=>oU (.slice (some ⟨b,off,none⟩) l.length lc) u (j,y,.slice ba m.length bc)) (fun y H=>∃I A B,H=U [I,A,B]/\Dj [I,A,B]/\I1.le I/\iF I A y ((l.take (j+1)).map fU)/\rF u I B (.slice ba m.length bc) m)
  .intro hg;have fin:∀{J A B:PH} {ua:Option Addr} {uc nb:Nat} {sv:Value} {za:Option Addr} {zk:Nat},I1.le J->iF J A (.slice ua ((l.take j).map fU++[fU x]).length uc) ((l.take j).map fU++[fU x])->iF J A (.slice ua ((l.take j).map fU++[fU x]).length uc) ((l.take (j+1)).map fU):=fun _ h=>by rw[jQ hx,mw];exact h
   refine GP mixed [0,1,2,3,4,5,6,7,8,9,10,11,12,14,15,16,17,18] 13 19 [20,21,22,23,24] [20,21,22,23,24] [] [] [6,11,18] [13,19,21] I1 rfl rfl ?_;apply nz;simp only[go_sem,E]
   try refine⟨O,?_⟩
   refine uK (l:=[.int .u8 x.kind]) rfl hI rfl rfl rfl (by simpa using c0) (.inr ⟨tu,rfl⟩) ?_;apply nz;simp only[go_sem,E]
   try refine⟨O,?_⟩
   refine uK (l:=[.string ⟨⟨x.text⟩⟩]) rfl hI rfl rfl rfl (by simpa using c1) (.inr ⟨gF,rfl⟩) ?_;apply nz;simp only[go_sem,E]
   try refine⟨O,?_⟩
   refine uK (l:=[.slice ca x.cubes.length cc]) rfl hI rfl rfl rfl (by simpa using c2) (.inr ⟨xw,rfl⟩) ?_;apply nz;simp only[go_sem,E];refine xh ?_ ?_;refine iu a0 (by exact kl) rfl rfl rfl rfl rfl af fun nb I4 C d a2=>?_;refine bU ?_;refine GL C [0,1] rfl (fun _=>d) rfl Ew (by rfl) (ps:=[]) (F:=[A1,B1]) rfl (FA (gE.le hc d) O) ?_;rintro v1 I5 qs g s⟨rfl,hr⟩;simp only[Z3]at g |-;obtain⟨za,zk,rfl⟩:=hr.shape2;refine cz ?_;refine iu g (by exact yL) rfl rfl rfl rfl rfl af fun kb I6 q f L=>?_;have G:=D d (D s f);have ap:Sl cU I6 (.slice (some ⟨kb,0,none⟩) 1 1) [fU x]:=⟨_,_,rfl,.inr ⟨kb,0,_,rfl,(bA L (by simp[ax,Value.cells]) (by simp[ax,Value.cells,E,sD,rD]):a8 I6 kb 0 [.int .u8 x.kind,.string ⟨⟨x.text⟩⟩,.slice (some ⟨nb,0,none⟩) 1 1,.int .i64 0,.int .i64 0,sD za zk (nI x.cubes),rD (nI x.cubes)]),.one ⟨.slice (some ⟨nb,0,none⟩) 1 1,0,0,za,zk,by simp[fU,sD,rD,E],rfl,hr.le f⟩⟩⟩
   rotate_left
   refine GL a0 [0,1] rfl (fun _=>aD _) rfl Ew (by rfl) (ps:=[]) (F:=[A1,B1]) rfl (FA hc O) ?_;rintro v1 I5 qs g s⟨rfl,hr⟩;simp only[Z3]at g |-;obtain⟨za,zk,rfl⟩:=hr.shape2;refine cz ?_;refine iu g (by exact kl) rfl rfl rfl rfl rfl af fun nb I4 C d a2=>?_;refine cz ?_;refine iu C (by exact yL) rfl rfl rfl rfl rfl af fun kb I6 q f L=>?_;have G:=D s (D d f);have ap:Sl cU I6 (.slice (some ⟨kb,0,none⟩) 1 1) [fU x]:=⟨_,_,rfl,.inr ⟨kb,0,_,rfl,(bA L (by simp[ax,Value.cells]) (by simp[ax,Value.cells,E,sD,rD]):a8 I6 kb 0 [.int .u8 x.kind,.string ⟨⟨x.text⟩⟩,.slice (some ⟨nb,0,none⟩) 1 1,.int .i64 0,.int .i64 0,sD za zk (nI x.cubes),rD (nI x.cubes)]),.one ⟨.slice (some ⟨nb,0,none⟩) 1 1,0,0,za,zk,by simp[fU,sD,rD,E],rfl,hr.le (D d f)⟩⟩⟩
   all_goals
    refine bU ?_;refine uL (R:=cU) (xs:=(l.take j).map fU) (ys:=[fU x]) q (by exact yL) (iF.le hA G) ap (fun{I J c a} h k=>cU.le h k) (fun{I} c a h=>cU.len c a h) (fun{I} c a h=>cU.ones h) rfl rfl rfl rfl rfl rfl (by simp only[bl,bg];omega) (by simp only[bl,bg];unfold maxLen;omega) fun ua uc I7 A7 aS W cn=>?_;refine bU ?_;apply aN;have k7:=D G W;exact hg (.slice ua ((l.take j).map fU++[fU x]).length uc) _ _ ⟨I7,A7,B1,rfl,aS,k7,by rw[jQ hx,mw];exact cn,rF.le hB k7⟩ al (by simp only[go_sem,Y,oU])
  rintro va2 H ⟨I2,A2,B2,rfl,C,o,bx,a4⟩;obtain⟨aa2,ac2,rfl⟩:=bx.shape;simp only[oU];have c0:=c0.le o;have c1:=c1.le o;have c2:=c2.le o;have hc:=gE.le hc o;have hI:I2.le (U [I2,A2,B2]):=iL C;refine bJ ?_;apply uH (fun(y:Value)=>oU (.slice (some ⟨b,off,none⟩) l.length lc) u (j,.slice aa2 ((l.take (j+1)).map fU).length ac2,y)) (fun y H=>∃I A B,H=U [I,A,B]/\Dj [I,A,B]/\I2.le I/\iF I A (.slice aa2 ((l.take (j+1)).map fU).length ac2) ((l.take (j+1)).map fU)/\rF u I B y (m++[x]))
  .intro hg;refine GP mixed [0,1,2,3,4,5,6,7,8,9,10,11,13,14,15,16,17,18] 12 19 [20,21,22,23] [20,21,22,23] [] [] [5,10,17] [12,19,21] I2 rfl rfl ?_;apply nz;simp only[go_sem,E]
   try refine⟨O,?_⟩
   refine uK (l:=[.int .u8 x.kind]) rfl hI rfl rfl rfl (by simpa using c0) (.inr ⟨tu,rfl⟩) ?_;apply nz;simp only[go_sem,E]
   try refine⟨O,?_⟩
   refine uK (l:=[.string ⟨⟨x.text⟩⟩]) rfl hI rfl rfl rfl (by simpa using c1) (.inr ⟨gF,rfl⟩) ?_;apply nz;simp only[go_sem,E]
   try refine⟨O,?_⟩
   refine uK (l:=[.slice ca x.cubes.length cc]) rfl hI rfl rfl rfl (by simpa using c2) (.inr ⟨xw,rfl⟩) ?_;apply nz;simp only[go_sem,E];refine xh ?_ ?_;refine iu C (by exact kl) rfl rfl rfl rfl rfl af fun nb I4 g d a2=>?_;refine bU ?_;refine GL g [0,1] rfl (fun _=>d) rfl IR (by rfl) (ps:=[]) (F:=[A2,B2]) rfl (Ml (gE.le hc d) O am an) ?_;rintro v1 I5 qs q s⟨rfl,ht⟩;obtain⟨ta,tc,rfl,_⟩:=id ht;simp only[Z3]at q |-;refine bU ?_;refine iu q (by exact FH) rfl rfl rfl rfl rfl af fun kb I6 aS f L=>?_;have G:=D d (D s f);have ap:Sl (jb u) I6 (.slice (some ⟨kb,0,none⟩) 1 1) [x]:=⟨_,_,rfl,.inr ⟨kb,0,_,rfl,(bA L (by simp[ax,Value.cells]) (by simp[ax,Value.cells,E]):a8 I6 kb 0 [.int .u8 x.kind,.string ⟨⟨x.text⟩⟩,.slice (some ⟨nb,0,none⟩) 1 1,.int .i64 0,.int .i64 0,.slice ta (y9 x.cubes u).length tc]),.one ⟨.slice (some ⟨nb,0,none⟩) 1 1,_,rfl,rfl,ht.le f⟩⟩⟩
   rotate_left
   refine GL C [0,1] rfl (fun _=>aD _) rfl IR (by rfl) (ps:=[]) (F:=[A2,B2]) rfl (Ml hc O am an) ?_;rintro v1 I5 qs q s⟨rfl,ht⟩;obtain⟨ta,tc,rfl,_⟩:=id ht;simp only[Z3]at q |-;refine bU ?_;refine iu q (by exact kl) rfl rfl rfl rfl rfl af fun nb I4 g d a2=>?_;refine bU ?_;refine iu g (by exact FH) rfl rfl rfl rfl rfl af fun kb I6 aS f L=>?_;have G:=D s (D d f);have ap:Sl (jb u) I6 (.slice (some ⟨kb,0,none⟩) 1 1) [x]:=⟨_,_,rfl,.inr ⟨kb,0,_,rfl,(bA L (by simp[ax,Value.cells]) (by simp[ax,Value.cells,E]):a8 I6 kb 0 [.int .u8 x.kind,.string ⟨⟨x.text⟩⟩,.slice (some ⟨nb,0,none⟩) 1 1,.int .i64 0,.int .i64 0,.slice ta (y9 x.cubes u).length tc]),.one ⟨.slice (some ⟨nb,0,none⟩) 1 1,_,rfl,rfl,ht.le (D d f)⟩⟩⟩
   all_goals
    refine bU ?_;refine i8 aS [1,0] fun cf=>?_;refine uL (R:=jb u) (xs:=m) (ys:=[x]) cf (by exact FH) (rF.le a4 G) ap (fun{I J c a} h k=>jb.le h k) (fun{I} c a h=>jb.len c a h) (fun{I} c a h=>jb.ones h) rfl rfl rfl rfl rfl rfl (by simp only[bl,bg];omega) (by simp only[bl,bg];unfold maxLen;omega) fun ua uc I7 B7 cb W cl=>?_;refine bU ?_;refine i8 cb [1,0] fun a3=>?_;apply aN;have k7:=D G W;exact hg (.slice ua (m++[x]).length uc) _ _ ⟨I7,A2,B7,rfl,a3,k7,iF.le bx k7,cl⟩ al (by simp only[go_sem,Y,oU])
  rintro vb2 H ⟨I3,A3,B3,rfl,g,z,a5,cm⟩;simp only[oU];refine bd e1 ?_;exact K (j+1,.slice aa2 ((l.take (j+1)).map fU).length ac2,vb2) _ _ bi al (by simp only[go_sem,Y,oU]) ⟨I3,A3,B3,m++[x],rfl,g,D X (D o z),V,a5,cm,by simp only;rw[jQ hx,<-aq]⟩
 .have:j=l.length:=by omega
  subst this;have a6:decide ((l.length:Int)<(l.length:Int))=false:=ao;rw[dK]at hA aq |-;subst m;refine ak a0 [1,0] fun C=>?_;refine ak C [0,1] fun g=>?_;refine aJ (c:=.st _) g fun I2 g o a4=>?_;refine ak g [0] fun q=>?_;refine aJ (c:=.st _) q fun I3 q z a5=>?_;refine bd a6 ?_;refine az rfl q (r:=[.agg #[.slice aa (l.map fU).length ac,.slice none 0 0],.slice ba l.length bc,.int .u32 u,.bool true]) (by simp only[results16,go_sem,E]) (D X (D o z)) ⟨rfl,.inr ⟨_,_,_,u,rfl,⟨⟨_,_,_,_,rfl,i6 (R:=cU) (fun{I J c a} h k=>cU.le h k) (iF.le hA o) z a5⟩,?_,?_,?_⟩,O,⟨_,_,_,_,rfl,hA.cap (fun c a h=>cU.len c a h)⟩,?_,hu,Q,P,S⟩⟩
  .intro t ht;obtain⟨y,N,rfl⟩:=List.mem_map.1 ht;exact Pn y.cubes
  .rw[eO];omega
  .intro t ht;obtain⟨y,N,rfl⟩:=List.mem_map.1 ht;exact(hb y N).2
  .exact i6 (R:=jb u) (fun{I J c a} h k=>jb.le h k) hB (D o z) (D a4 z)
def UF{vl vw:Value}(g:pQ I vl l)(f:gE I vw w)(hb:∀x∈l,zB x)(e:l.length<2^40)(d:w.length<2^40)(hm:most<=8):Zu 16 #[vl,vw,E most] I [] fun r i b=>b=[]/\MS l w r i:=
 (UG g f hb e d hm).mono fun _ _ _ _ h=>⟨h.1,h.2.imp id fun⟨lv,a,c,u,h1,h2,h3,h4,_⟩=>⟨lv,a,_,c,u,h1,h2,h3,h4⟩⟩
def EF:ay prog 51:=⟨_,func51,rfl,rfl⟩
def QI:ay prog 170:=⟨_,func170,rfl,rfl⟩
def QJ:ay prog 172:=⟨_,func172,rfl,rfl⟩
def Q0:ay prog 238:=⟨_,func238,rfl,rfl⟩
def QH:ay prog 169:=⟨_,func169,rfl,rfl⟩
def QZ:ay prog 237:=⟨_,func237,rfl,rfl⟩
def EZ{va vb:Value}{a b:T}(ha:bW I va a)(hb:bW I vb b):Zu 51 #[va,vb] I [] fun r n e=>e=[]/\r=.bool (!decide (a.and b=.lf false)):=by
 obtain⟨l,k,rfl⟩:=ha.shape2;obtain⟨j,i,rfl⟩:=hb.shape2;intro hd;refine aP 10 func51 fun w0=>?_
 try simp only[sD,rD,E]
 refine bK ?_;refine eG hd rfl ls (ln ha hb) ?_;rintro m o e d c⟨rfl,hr⟩;obtain⟨h,g,rfl⟩:=hr.shape2;refine bK ?_;refine Zl rfl jj (ji hr) ?_;rintro v H2⟨rfl,rfl⟩;refine bK ?_;exact az rfl d (r:=[_]) rfl c ⟨rfl,rfl⟩
def YZ{va vb:Value}{a b:T}(ha:bW I va a)(hb:bW I vb b):Zu 170 #[va,vb] I [] fun r l h=>h=[]/\r=.bool (decide (a.and b.not=.lf false)):=by
 obtain⟨s,q,rfl⟩:=ha.shape2;obtain⟨p,o,rfl⟩:=hb.shape2;intro hd;refine aP 10 func170 fun w0=>?_
 try simp only[sD,rD,E]
 refine bK ?_;refine bG [0,1,2,3,4,5] [] [] ?_;refine cz ?_;refine dU hd rfl qp (qA hb) ?_;rintro t x h k c⟨rfl,hr⟩;obtain⟨n,m,rfl⟩:=hr.shape2;refine cz ?_;refine dU k rfl ls (ln (ha.le c) hr) ?_;rintro v2 l h j g⟨rfl,d⟩;obtain⟨v,u,rfl⟩:=d.shape2;refine cz ?_;refine dU j rfl jj (bh.keep (ji d)) ?_;rintro v3 w h i f⟨rfl,rfl⟩;refine cz ?_;apply aN;refine ai ?_;exact az rfl i (r:=[_]) rfl (D c (D g f)) ⟨rfl,rfl⟩
def uE(_:PH)(c:Zo)(k:Nat):Prop:=c=[.int .u8 k]
def uE.len(c:Zo)(k:Nat)(h:uE I c k):c.length=1:=by rw[show c=_ from h];rfl
abbrev gu(I:PH)(v:Value)(l:Zp):Prop:=Sl uE I v l
def gu.le{l:Zp}(h:gu I v l)(k:I.le J):gu J v l:=Sl.le (R:=uE) (fun{I J c a} h k=>h) h k
def AP(v:Value)(k n i:Nat):St:=⟨dn 19 [(0,.v v),(1,.v (.int .u8 k)),(4,.v (E 0)),(7,.v (E n)),(8,.v (E i))],[]⟩
def T3{H:PH}{l:Zp}{k:Nat}(h:gu H v l)(w:l.length<2^40)(s:k∈l):Zv 238 #[v,.int .u8 k] H fun r H2=>(∃i:Nat,r=E i)/\H2=H:=by
 obtain⟨q,vc,rfl,_⟩:=id h;refine aP 19 func238 fun w0=>?_
 try simp only[E]
 refine ai ?_;refine bV (fun i=>l.length-i) (AP (.slice q l.length vc) k l.length) (fun i H2=>H2=H/\i<=l.length/\k∉l.take i) 0 al (by simp only[go_sem,Y,AP,E]) ⟨rfl,aE _,by simp⟩ ?_;rintro i H2 ⟨rfl,hi,j⟩ d;simp only[AP];rcases aK i l.length with g|m
 .have u:=Z5 i l.length;have e1:=Z7 i;obtain⟨x,p⟩:∃x,l[i]?=some x:=⟨_,aY g⟩;obtain⟨b,off,cs,rfl,t,f⟩:=Sl.load (fun{I} c a h=>uE.len (I:=I) c a h) h p;cases t
  refine bd u ?_;refine⟨O,?_⟩;refine Zm (l:=[.int .u8 x]) rfl (by simpa using f) (.inr ⟨tu,rfl⟩) ?_;cases o:((k:Int) == (x:Int))
  .refine d6 o e1 ?_;refine d (i+1) _ _ O al (by simp only[go_sem,Y,AP,E]) ⟨rfl,g,?_⟩;rw[jQ p,jR,List.mem_singleton];have:¬k=x:=fun e=>by subst e;simp at o
   exact fun h=>h.elim j this
  .refine bd o ?_;exact aX (r:=[_]) rfl ⟨⟨i,rfl⟩,rfl⟩
 .rw[uy m]at j;exact absurd s j
def TK{H:PH}{l:Zp}{k:Nat}(h:gu H v l)(a:l.length<2^40)(b:k∈l):Zv 172 #[v,.int .u8 k] H fun r H2=>r=.bool true/\H2=H:=by obtain⟨c,vc,rfl,_⟩:=id h;refine aP 9 func172 fun w0=>?_;refine ai ?_;refine Zl rfl Q0 (T3 h a b) ?_;rintro v H2⟨⟨i,rfl⟩,rfl⟩;have h3:decide ((i:Int)>=0)=true:=bm O;refine bd h3 ?_;exact aX (r:=[_]) rfl ⟨rfl,rfl⟩
def XL{x:au}(e:x.length<2^40)(f:ib I)(h1:mP 1 x=true)(h2:fI x=false):Zu 237 #[.string ⟨⟨x⟩⟩] I [] fun r h c=>c=[]/\r=.bool true:=by intro hd;refine aP 10 func237 fun w0=>?_;refine ai ?_;refine eG hd rfl Ek (EL (k:=1) e f) ?_;rintro g i c b a⟨rfl,rfl⟩;refine dB h1 ?_;refine Zl rfl IT Jr ?_;rintro v H2⟨rfl,rfl⟩;refine dB h2 ?_;exact az rfl b (r:=[_]) rfl a ⟨rfl,rfl⟩
def FB(k:Nat)(x:au):Prop:=mP k x=true
def UW{k:Nat}{x:au}(l:x.length<2^40)(m:ib I)(i:1<=k/\k<=19)(h:lG FB k x):Zu 169 #[.int .u8 k,.string ⟨⟨x⟩⟩] I [] fun r n d=>d=[]/\r=.bool true:=by
 have p:∀{k:Nat},(k=2\/k=3\/k=4\/k=7\/k=18\/k=19)->FB 1 x/\fI x=false->Zu 169 #[.int .u8 k,.string ⟨⟨x⟩⟩] I [] fun r n d=>d=[]/\r=.bool true:=by
  intro k i ⟨h1,h2⟩ hd;refine aP 50 func169 fun w0=>?_;rcases i with rfl|rfl|rfl|rfl|rfl|rfl
  all_goals
   apply RG;simp only[go_sem,dP];refine eG hd rfl QZ (XL l m h1 h2) ?_;rintro o s d f c⟨rfl,rfl⟩;refine ai ?_;exact az rfl f (r:=[_]) rfl c ⟨rfl,rfl⟩
 have rest:x=[]->∀{k:Nat},(k=1\/k=6\/k=8\/k=9\/k=10\/k=11\/k=12\/k=17)->Zu 169 #[.int .u8 k,.string ⟨⟨x⟩⟩] I [] fun r n d=>d=[]/\r=.bool true:=by
  intro q k i hd;subst q;refine aP 50 func169 fun w0=>?_;rcases i with rfl|rfl|rfl|rfl|rfl|rfl|rfl|rfl
  all_goals
   apply RG;simp only[go_sem,dP];exact az rfl hd (r:=[_]) rfl (aD _) ⟨rfl,rfl⟩
 have two:∀{a b:au},x=a\/x=b->(x == a)=true\/((x == a)=false/\(x == b)=true):=fun{a b} h=>by
  cases ha:(x == a)with
  |true=>exact .inl rfl
  |false=>
   rcases h with rfl|rfl
   .simp at ha
   .exact .inr ⟨rfl,by simp⟩
 have g:(k=2\/k=3\/k=4\/k=7\/k=18\/k=19)\/(k=1\/k=6\/k=8\/k=9\/k=10\/k=11\/k=12\/k=17)\/k=5\/k=13\/k=14\/k=15\/k=16:=O;rcases g with g|g|rfl|rfl|rfl|rfl|rfl
 .refine p g ?_;unfold lG at h
  rwa [ah g]at h
 .refine rest ?_ g;unfold lG at h
  rwa [ab O,ab O,ab O,ab O,ab O,ab O]at h
 .have h:x=om\/x=oj:=h;intro hd;refine aP 50 func169 fun w0=>?_;rcases two h with e|⟨e,e2⟩
  .have e:(x == [105,110,116])=true:=e;apply RG;simp only[go_sem,dP,e];exact az rfl hd (r:=[_]) rfl (aD _) ⟨rfl,rfl⟩
  .have e:(x == [105,110,116])=false:=e;have e2:(x == [98,111,111,108])=true:=e2;apply RG;simp only[go_sem,dP,e,e2];exact az rfl hd (r:=[_]) rfl (aD _) ⟨rfl,rfl⟩
 .have h:fV x≠9:=h;intro hd;refine aP 50 func169 fun w0=>?_;apply RG;simp only[go_sem,dP];refine Zl rfl IL JW ?_;rintro v H2⟨rfl,rfl⟩;rw[ab h];have h3:decide ((fV x:Int)>=0)=true:=bm O;refine dB h3 ?_;exact az rfl hd (r:=[_]) rfl (aD _) ⟨rfl,rfl⟩
 .have h:x=sR\/x=pq:=h;intro hd;refine aP 50 func169 fun w0=>?_;rcases two h with e|⟨e,e2⟩
  .have e:(x == [33])=true:=e;apply RG;simp only[go_sem,dP,e];exact az rfl hd (r:=[_]) rfl (aD _) ⟨rfl,rfl⟩
  .have e:(x == [33])=false:=e;have e2:(x == [45])=true:=e2;apply RG;simp only[go_sem,dP,e,e2];exact az rfl hd (r:=[_]) rfl (aD _) ⟨rfl,rfl⟩
 .have h:mP 2 x=true:=h;intro hd;refine aP 50 func169 fun w0=>?_;apply RG;simp only[go_sem,dP];refine eG hd rfl Ek (EL (k:=2) l m) ?_;rintro o s d f c⟨rfl,rfl⟩;refine dB h ?_;exact az rfl f (r:=[_]) rfl c ⟨rfl,rfl⟩
 .have h:x=pu\/x=qX:=h;intro hd;refine aP 50 func169 fun w0=>?_;rcases two h with e|⟨e,e2⟩
  .have e:(x == [116,114,117,101])=true:=e;apply RG;simp only[go_sem,dP,e];exact az rfl hd (r:=[_]) rfl (aD _) ⟨rfl,rfl⟩
  .have e:(x == [116,114,117,101])=false:=e;have e2:(x == [102,97,108,115,101])=true:=e2;apply RG;simp only[go_sem,dP,e,e2];exact az rfl hd (r:=[_]) rfl (aD _) ⟨rfl,rfl⟩
def IE:ay prog 171:=⟨_,func171,rfl,rfl⟩
def oD(I:PH)(c:Zo)(r:Nat×Zp):Prop:=∃a,c=[.int .u8 r.1,a]/\gu I a r.2
def oD.len(c:Zo)(r:Nat×Zp)(h:oD I c r):c.length=2:=by obtain⟨a,e,_⟩:=h;rw[e];rfl
def oD.le{c:Zo}{r:Nat×Zp}(h:oD I c r)(k:I.le J):oD J c r:=by obtain⟨a,e,h⟩:=h;exact⟨a,e,h.le k⟩
abbrev gS(I:PH)(v:Value)(l:List (Nat×Zp)):Prop:=Sl oD I v l
def gS.le{l:List (Nat×Zp)}(h:gS I v l)(k:I.le J):gS J v l:=Sl.le (R:=oD) (fun{I J c a} h k=>oD.le h k) h k
def JC{I:PH}:∀l:Zp,LR (uE I) (l.map fun k=>.int .u8 (k:Nat)) l
 | []=>rfl
 |_::l=>⟨_,_,rfl,rfl,JC l⟩
variable{b:Nat}
def oe{n:Nat}{l:Zp}(h:a8 I b 0 (l.map fun k=>.int .u8 (k:Nat)))(a:l.length=n):gu I (.slice (some ⟨b,0,none⟩) n n) l:=⟨_,_,by rw[a],.inr ⟨b,0,_,rfl,h,JC l⟩⟩
def qS{h:Nat}{K:Zp}(c:a8 I b 0 [.int .u8 h,v])(a:gu I v K):gS I (.slice (some ⟨b,0,none⟩) 1 1) [(h,K)]:=
 ⟨_,_,rfl,.inr ⟨b,0,_,rfl,c,_,_,rfl,⟨_,rfl,a⟩,rfl⟩⟩
def Ft{h h':Nat}{v':Value}{K K':Zp}(c:a8 I b 0 [.int .u8 h,v,.int .u8 h',v'])(a:gu I v K)(d:gu I v' K'):gS I (.slice (some ⟨b,0,none⟩) 2 2) [(h,K),(h',K')]:=
 ⟨_,_,rfl,.inr ⟨b,0,_,rfl,c,_,_,rfl,⟨_,rfl,a⟩,_,_,rfl,⟨_,rfl,d⟩,rfl⟩⟩
def Lc{h h' h2:Nat}{v' v2:Value}{K K' K2:Zp}(c:a8 I b 0 [.int .u8 h,v,.int .u8 h',v',.int .u8 h2,v2])(a:gu I v K)(d:gu I v' K')(a2:gu I v2 K2):gS I (.slice (some ⟨b,0,none⟩) 3 3) [(h,K),(h',K'),(h2,K2)]:=
 ⟨_,_,rfl,.inr ⟨b,0,_,rfl,c,_,_,rfl,⟨_,rfl,a⟩,_,_,rfl,⟨_,rfl,d⟩,_,_,rfl,⟨_,rfl,a2⟩,rfl⟩⟩
theorem Ld{k:Nat}(hk:1<=k/\k<=19):Zu 171 #[.int .u8 k] I [] fun r I2 qs=>qs=[]/\gS I2 r (rl k):=by
 intro c0;refine aP 68 func171 fun w0=>?_;refine ai ?_;refine cI c0 (by exact od) rfl rfl rfl rfl rfl af fun b6 I1 cA U c3=>?_;refine ai ?_;refine cI cA (by exact od) rfl rfl rfl rfl rfl af fun b7 I2 cy T c2=>?_;refine ai ?_;refine cI cy (by exact od) rfl rfl rfl rfl rfl af fun b8 I3 cx S c1=>?_;refine ai ?_;refine cI cx (by exact lE) rfl rfl rfl rfl rfl af fun b10 I4 cs R cj=>?_;refine ai ?_;refine cI cs (by exact od) rfl rfl rfl rfl rfl af fun b11 I5 cr Q ci=>?_;refine ai ?_;refine cI cr (by exact lE) rfl rfl rfl rfl rfl af fun b15 I6 cp P cf=>?_;refine ai ?_;refine cI cp (by exact od) rfl rfl rfl rfl rfl af fun b16 I7 cn N cc=>?_;refine ai ?_;refine cI cn (by exact od) rfl rfl rfl rfl rfl af fun b18 I8 cm L cb=>?_;refine ai ?_;refine cI cm (by exact od) rfl rfl rfl rfl rfl af fun b20 I9 cl K ca=>?_;refine ai ?_;refine cI cl (by exact lE) rfl rfl rfl rfl rfl af fun b22 dT a3 v b5=>?_;refine ai ?_;refine cI a3 (by exact od) rfl rfl rfl rfl rfl af fun b23 dx a2 u b4=>?_;refine ai ?_;refine cI a2 (by exact lE) rfl rfl rfl rfl rfl af fun b25 dw a1 t b3=>?_;refine ai ?_;refine cI a1 (by exact lE) rfl rfl rfl rfl rfl af fun b28 dv a0 s b2=>?_;refine ai ?_;refine cI a0 (by exact lE) rfl rfl rfl rfl rfl af fun b31 ds aS q b1=>?_;refine ai ?_;refine cI aS (by exact od) rfl rfl rfl rfl rfl af fun b34 dk aq p b0=>?_;refine ai ?_;refine cI aq (by exact od) rfl rfl rfl rfl rfl af fun b36 dd ap o bx=>?_;refine ai ?_;refine cI ap (by exact lE) rfl rfl rfl rfl rfl af fun b38 dc an n bs=>?_;refine ai ?_;refine cI an (by exact od) rfl rfl rfl rfl rfl af fun b41 da am m bc=>?_;refine ai ?_;refine cI am (by exact lE) rfl rfl rfl rfl rfl af fun b43 c9 ac l bb=>?_;refine ai ?_
 refine cI ac (by exact lE) rfl rfl rfl rfl rfl af fun b46 c8 aa j ba=>?_;refine ai ?_;refine cI aa (by exact lE) rfl rfl rfl rfl rfl af fun b49 c7 Z i a9=>?_;refine ai ?_;refine cI Z (by exact lE) rfl rfl rfl rfl rfl af fun b52 c6 X h a7=>?_;refine ai ?_;refine cI X (by exact lE) rfl rfl rfl rfl rfl af fun b57 c5 W g a6=>?_;refine ai ?_;refine cI W (by exact lE) rfl rfl rfl rfl rfl af fun b60 c4 V f a5=>?_;refine ai ?_;refine cI V (by exact lE) rfl rfl rfl rfl rfl af fun b63 a b e a4=>?_;have w:=aD a;have x:=D e w;have y:=D f x;have z:=D g y;have A:=D h z;have B:=D i A;have m19:=D j B;have m18:=D l m19;have m17:=D m m18;have m16:=D n m17;have m15:=D o m16;have C:=D p m15;have F:=D q C;have G:=D s F;have H:=D t G;have J:=D u H;have m9:=D v J;have m8:=D K m9;have m7:=D L m8;have m6:=D N m7;have m5:=D P m6;have m4:=D Q m5;have m3:=D R m4;have m2:=D S m3;have m1:=D T m2;have c:=D U m1;have d:gu a (.slice (some ⟨b6,0,none⟩) 7 7) cd:=oe ((bA c3 (by simp[ax,Value.cells,cd,dS]) (by simp[ax,Value.cells,cd,dS])).le m1) rfl;have K7:gu a (.slice (some ⟨b7,0,none⟩) 9 9) dS:=oe ((bA c2 (by simp[ax,Value.cells,cd,dS]) (by simp[ax,Value.cells,cd,dS])).le m2) rfl;have K8:gu a (.slice (some ⟨b8,0,none⟩) 2 2) [2,3]:=oe ((bA c1 (by simp[ax,Value.cells,cd,dS]) (by simp[ax,Value.cells,cd,dS])).le m3) rfl;have K11:gu a (.slice (some ⟨b11,0,none⟩) 1 1) [5]:=oe ((bA ci (by simp[ax,Value.cells,cd,dS]) (by simp[ax,Value.cells,cd,dS])).le m5) rfl
 have K16:gu a (.slice (some ⟨b16,0,none⟩) 1 1) [4]:=oe ((bA cc (by simp[ax,Value.cells,cd,dS]) (by simp[ax,Value.cells,cd,dS])).le m7) rfl;have K18:gu a (.slice (some ⟨b18,0,none⟩) 1 1) [5]:=oe ((bA cb (by simp[ax,Value.cells,cd,dS]) (by simp[ax,Value.cells,cd,dS])).le m8) rfl;have K20:gu a (.slice (some ⟨b20,0,none⟩) 1 1) [6]:=oe ((bA ca (by simp[ax,Value.cells,cd,dS]) (by simp[ax,Value.cells,cd,dS])).le m9) rfl;have K23:gu a (.slice (some ⟨b23,0,none⟩) 1 1) [5]:=oe ((bA b4 (by simp[ax,Value.cells,cd,dS]) (by simp[ax,Value.cells,cd,dS])).le H) rfl;have K34:gu a (.slice (some ⟨b34,0,none⟩) 1 1) [6]:=oe ((bA b0 (by simp[ax,Value.cells,cd,dS]) (by simp[ax,Value.cells,cd,dS])).le m15) rfl;have K36:gu a (.slice (some ⟨b36,0,none⟩) 2 2) [6,8]:=oe ((bA bx (by simp[ax,Value.cells,cd,dS]) (by simp[ax,Value.cells,cd,dS])).le m16) rfl;have K41:gu a (.slice (some ⟨b41,0,none⟩) 1 1) [6]:=oe ((bA bc (by simp[ax,Value.cells,cd,dS]) (by simp[ax,Value.cells,cd,dS])).le m18) rfl;have R10:gS a (.slice (some ⟨b10,0,none⟩) 1 1) [(2,[2,3])]:=qS ((bA cj (by simp[ax,Value.cells]) (by simp[ax,Value.cells])).le m4) K8;have R15:gS a (.slice (some ⟨b15,0,none⟩) 2 2) [(0,[5]),(1,cd)]:=Ft ((bA cf (by simp[ax,Value.cells]) (by simp[ax,Value.cells])).le m6) K11 d;have R22:gS a (.slice (some ⟨b22,0,none⟩) 3 3) [(2,[4]),(1,[5]),(0,[6])]:=Lc ((bA b5 (by simp[ax,Value.cells]) (by simp[ax,Value.cells])).le J) K16 K18 K20;have R25:gS a (.slice (some ⟨b25,0,none⟩) 1 1) [(0,[5])]:=qS ((bA b3 (by simp[ax,Value.cells]) (by simp[ax,Value.cells])).le G) K23;have R28:gS a (.slice (some ⟨b28,0,none⟩) 1 1) [(2,dS)]:=qS ((bA b2 (by simp[ax,Value.cells]) (by simp[ax,Value.cells])).le F) K7
 have R31:gS a (.slice (some ⟨b31,0,none⟩) 1 1) [(0,cd)]:=qS ((bA b1 (by simp[ax,Value.cells]) (by simp[ax,Value.cells])).le C) d;have R38:gS a (.slice (some ⟨b38,0,none⟩) 3 3) [(0,cd),(0,[6]),(1,[6,8])]:=Lc ((bA bs (by simp[ax,Value.cells]) (by simp[ax,Value.cells])).le m17) d K34 K36;have R43:gS a (.slice (some ⟨b43,0,none⟩) 2 2) [(0,cd),(0,[6])]:=Ft ((bA bb (by simp[ax,Value.cells]) (by simp[ax,Value.cells])).le m19) d K41;have R46:gS a (.slice (some ⟨b46,0,none⟩) 1 1) [(1,cd)]:=qS ((bA ba (by simp[ax,Value.cells]) (by simp[ax,Value.cells])).le B) d;have R49:gS a (.slice (some ⟨b49,0,none⟩) 1 1) [(0,cd)]:=qS ((bA a9 (by simp[ax,Value.cells]) (by simp[ax,Value.cells])).le A) d;have R52:gS a (.slice (some ⟨b52,0,none⟩) 1 1) [(0,cd)]:=qS ((bA a7 (by simp[ax,Value.cells]) (by simp[ax,Value.cells])).le z) d;have R57:gS a (.slice (some ⟨b57,0,none⟩) 2 2) [(0,cd),(0,cd)]:=Ft ((bA a6 (by simp[ax,Value.cells]) (by simp[ax,Value.cells])).le y) d d;have R60:gS a (.slice (some ⟨b60,0,none⟩) 1 1) [(0,cd)]:=qS ((bA a5 (by simp[ax,Value.cells]) (by simp[ax,Value.cells])).le x) d;have R63:gS a (.slice (some ⟨b63,0,none⟩) 1 1) [(2,cd)]:=qS ((bA a4 (by simp[ax,Value.cells]) (by simp[ax,Value.cells])).le w) d;have hc:k=1\/k=2\/k=3\/k=4\/k=6\/k=7\/k=8\/k=9\/k=10\/k=11\/k=12\/k=13\/k=14\/k=19\/(k=5\/k=15\/k=16\/k=17\/k=18):=O;rcases hc with rfl|rfl|rfl|rfl|rfl|rfl|rfl|rfl|rfl|rfl|rfl|rfl|rfl|rfl|hc
 .apply RG;simp only[go_sem,dP,gL];exact az rfl b (r:=[_]) rfl c ⟨rfl,R10⟩
 .apply RG;simp only[go_sem,dP,gL];exact az rfl b (r:=[_]) rfl c ⟨rfl,R15⟩
 .apply RG;simp only[go_sem,dP,gL];exact az rfl b (r:=[_]) rfl c ⟨rfl,R22⟩
 .apply RG;simp only[go_sem,dP,gL];exact az rfl b (r:=[_]) rfl c ⟨rfl,R25⟩
 .apply RG;simp only[go_sem,dP,gL];exact az rfl b (r:=[_]) rfl c ⟨rfl,R28⟩
 .apply RG;simp only[go_sem,dP,gL];exact az rfl b (r:=[_]) rfl c ⟨rfl,R31⟩
 .apply RG;simp only[go_sem,dP,gL];exact az rfl b (r:=[_]) rfl c ⟨rfl,R38⟩
 .apply RG;simp only[go_sem,dP,gL];exact az rfl b (r:=[_]) rfl c ⟨rfl,R43⟩
 .apply RG;simp only[go_sem,dP,gL];exact az rfl b (r:=[_]) rfl c ⟨rfl,R46⟩
 .apply RG;simp only[go_sem,dP,gL];exact az rfl b (r:=[_]) rfl c ⟨rfl,R49⟩
 .apply RG;simp only[go_sem,dP,gL];exact az rfl b (r:=[_]) rfl c ⟨rfl,R52⟩
 .apply RG;simp only[go_sem,dP,gL];exact az rfl b (r:=[_]) rfl c ⟨rfl,R57⟩
 .apply RG;simp only[go_sem,dP,gL];exact az rfl b (r:=[_]) rfl c ⟨rfl,R60⟩
 .apply RG;simp only[go_sem,dP,gL];exact az rfl b (r:=[_]) rfl c ⟨rfl,R63⟩
 .rcases hc with rfl|rfl|rfl|rfl|rfl
  all_goals
   apply RG;simp only[go_sem,dP,gL];exact az rfl b (r:=[_]) rfl c ⟨rfl,none,0,rfl,.inl rfl⟩
end Go.Proofs.YtfaclfkpnmcmlaaGreatDoor
namespace Go.Sx
open Go
section
variable {C:Cx} {P:Program} {k:List Item} {σ:St} {H:PH}
variable{v z:Value}{S:Value->Value->Prop}{r:Nat}{mt kt et:TypeId}
def UO(K:Maps.Keyed P kt)(hm:P.underlying mt=some (.map kt et))(m:br P et=some z)(h:eW P H r kt S){x:Value}(I:fq P kt x)(hs:S x v)(w:World)(J:Sub H w):
  (Instr.lookup mt (.map (some r)) x false).run P w=.ok v w:=by
 have G:(zeroValue et).run P w=.ok z w:=by
  unfold br at m;cases hi:P.info? et with
  |none=>rw[hi]at m;cases m
  |some i=>rw[hi]at m;simp only[dD]at m;simp[zeroValue,typeInfo,program,Sem.run,hi,m]
 obtain⟨q,g,a,b,c,d⟩:=h;obtain⟨l,B⟩:=I;have n:(getObj r).run P w=.ok (.map q g) w:=by simp[getObj,Sem.run,J _ _ a]
 obtain⟨u,p,f,t⟩:=(d x v).1 hs;rcases K.find w B q.toList b with ⟨h1,h2⟩|⟨j,e,h1,h2,h3⟩
 .exact absurd f (h2 u p)
 .have:e=u:=by
   have o:e∈q.toList:=db h2;by_cases F:e=u
   .exact F
   .exfalso;rcases List.mem_iff_getElem.1 o with ⟨s,A,rfl⟩
    rcases List.mem_iff_getElem.1 p with ⟨i2,y,rfl⟩
    rcases s6 s i2 with h|h|h
    .exact List.pairwise_iff_getElem.1 c s i2 A y h (h3.trans f.symm)
    .subst h;exact F rfl
    .exact List.pairwise_iff_getElem.1 c i2 s y A h (f.trans h3.symm)
  subst this;subst t;have L:=K.check w q.isEmpty B;simp[Instr.lookup,fe hm,Result.andThen,n,L,h1,G]
def UN(K:Maps.Keyed P kt)(hm:P.underlying mt=some (.map kt et))(g:br P et=some z)(h:eW P H r kt S){x:Value}(q:fq P kt x)(hs:∀v,¬S x v)(w:World)(s:Sub H w):
  (Instr.lookup mt (.map (some r)) x false).run P w=.ok z w:=by
 obtain⟨n,f,a,b,c,d⟩:=h;obtain⟨l,o⟩:=q;have m:(getObj r).run P w=.ok (.map n f) w:=by simp[getObj,Sem.run,s _ _ a]
 have p:(zeroValue et).run P w=.ok z w:=by
  unfold br at g;cases hi:P.info? et with
  |none=>rw[hi]at g;cases g
  |some i=>rw[hi]at g;simp only[dD]at g;simp[zeroValue,typeInfo,program,Sem.run,hi,g]
 rcases K.find w o n.toList b with ⟨h1,h2⟩|⟨j,e,h1,h2,h3⟩
 .have t:=K.check w n.isEmpty o;simp[Instr.lookup,fe hm,Result.andThen,m,t,h1,p]
 .exact absurd ((d x e.val).2 ⟨e,db h2,h3,rfl⟩) (hs _)
variable{key:Value}{x y:Operand}{o:Oper}
def J6(K:Maps.Keyed P kt)(hm:P.underlying mt=some (.map kt et))(b:br P et=some z)(aa:o.op=.lookup mt x y false)
  (d:ev σ x=.v (.map (some r))) (c:ev σ y=.v key) (h:eW P H r kt S) (f:fq P kt key)  (hs:S key v\/v=z/\∀u,¬S key u) :
  bR σ o.op=true/\∀w,Sub H w->(execOp (bp σ) o).run P w=.ok (.value v) w:=by
 constructor
 .simp[bR,aa,fx,Op.operands,d,c,fN]
 .intro w e;have a:(Instr.lookup mt (.map (some r)) key false).run P w=.ok v w:=by
   rcases hs with hs|⟨rfl,hs⟩
   .exact UO K hm b h f hs w e
   .exact UN K hm b h f hs w e
  simp[execOp,aa,bp,d,c,a,Result.andThen]
variable{ol:Zq}
def Na{rem:Zq}(K:Maps.Keyed C.P kt)(hm:C.P.underlying mt=some (.map kt et))(a:br C.P et=some z)(d:bH ol σ o=some true)(aa:o.op=.lookup mt x y false)
  (c:ev σ x=.v (.map (some r))) (b:ev σ y=.v key) (h:eW C.P H r kt S) (e:fq C.P kt key)  (hs:S key v\/v=z/\∀u,¬S key u)
  (f:RC C (.op ol rem k) (σ.put o.dst (.v v)) H):RC C (.op ol (o::rem) k) σ H:=by
 obtain⟨h1,h2⟩:=J6 K hm a aa c b h e hs;exact uJ _ d h1 h2 f
def No{fr:cw}{str:cC}{i:Nat}{l:List (Nat×Oper)}(K:Maps.Keyed C.P kt)(hm:C.P.underlying mt=some (.map kt et))(a:br C.P et=some z)(hf:fr.h.contains i=true)(d:bH ol σ o=some true)(aa:o.op=.lookup mt x y false)
  (c:ev σ x=.v (.map (some r))) (b:ev σ y=.v key) (h:eW C.P H r kt S) (e:fq C.P kt key)  (hs:S key v\/v=z/\∀u,¬S key u)
  (f:RD C ol fr str l k (σ.put o.dst (.v v)) H):RD C ol fr str ((i,o)::l) k σ H:=by
 obtain⟨h1,h2⟩:=J6 K hm a aa c b h e hs;exact uN _ hf d h1 (by rw[aa];rfl) h2 f
def Xm{t e:TypeId}{size bytes n:Nat}(ht:cO P t e size bytes)(c:br P e=some z)(aa:o.op=.makeSlice t x y)(l:ev σ x=.v (.int .i64 n))(j:ev σ y=.v (.int .i64 n))(hb:bytes*n<=281474976710656)(h:n*size<=16777216):
  bR σ o.op=true/\eJ P (execOp (bp σ) o) H fun sv H2=>∃b,H b=none/\sv=.v (.slice (some ⟨b,0,none⟩) n n)/\H2=H.put b (.cells (madeCells z.cells (n*size)) e (0,0)):=by
 constructor
 .simp[bR,aa,fx,Op.operands,l,j,fN]
 .intro w r;obtain⟨i,f,u,a2,a3,a4,a5,B,s⟩:=ht;have g:f=z:=by unfold br at c;rw[a2]at c;simp only[dD]at c;rw[a3]at c;exact cX c
  subst g;subst a4;have A:n*1<=n*i.size:=Nat.mul_le_mul_left _ s;have a:=run_makeSlice (P:=P) w t e i f u a2 a3 .i64 .i64 (n:Int) (n:Int) O (Int.le_refl _) (by rw[Int.toNat_natCast];exact h) (by rw[a5,<-Int.natCast_mul];generalize bytes*n=q at hb;omega) O;simp only[Int.toNat_natCast]at a;obtain⟨p,m⟩:=cP.new r (.cells (madeCells f.cells (n*i.size)) e (0,0));have d:(execOp (bp σ) o).run P w=.ok (.value (.slice (some ⟨w.heap.size,0,none⟩) n n)) { w with heap:=w.heap.push (.cells (madeCells f.cells (n*i.size)) e (0,0)) }:=by simp only[execOp,aa,bp,l,j,ew,a];rw[World.alloc_eq];rfl
  rw[d];exact⟨_,m,w.heap.size,p,rfl,rfl⟩
def Nc{rem:Zq}{t e:TypeId}{size bytes n:Nat}{I:PH}{l:Zt}(hd:Dj (I::l))(ht:cO C.P t e size bytes)(g:br C.P e=some z)(j:bH ol σ o=some true)(aa:o.op=.makeSlice t x y)(i:ev σ x=.v (.int .i64 n))(h:ev σ y=.v (.int .i64 n))(hb:bytes*n<=281474976710656)(f:n*size<=16777216)
  (m:∀b,Dj (I::sg b (.cells (madeCells z.cells (n*size)) e (0,0))::l)->RC C (.op ol rem k) (σ.put o.dst (.v (.slice (some ⟨b,0,none⟩) n n))) (U (I::sg b (.cells (madeCells z.cells (n*size)) e (0,0))::l))):RC C (.op ol (o::rem) k) σ (U (I::l)):=by
 obtain⟨h1,h2⟩:=Xm (H:=U (I::l)) ht g aa i h hb f;refine jE j h1 (h2.mono fun sv H2 ⟨b,a,c,d⟩=>?_);subst c;subst d;obtain⟨e1,e2⟩:=wg hd (o:=.cells (madeCells z.cells (n*size)) e (0,0)) a;rw[e1];exact m b e2
end
end Go.Sx
namespace Go.Proofs.YtfaclfkpnmcmlaaGreatDoor
open Go Go.Sx Dg Syn
def iD(I:PH)(c:Zo)(t:T):Prop:=∃a k,c=[sD a k t,rD t]/\bW I (.agg #[sD a k t,rD t]) t
variable{I:PH}
def iD.len(c:Zo)(t:T)(h:iD I c t):c.length=2:=by obtain⟨a,k,e,_⟩:=h;rw[e];rfl
variable{J:PH}
def iD.le{c:Zo}{t:T}(h:iD I c t)(k:I.le J):iD J c t:=by obtain⟨a,b,e,h⟩:=h;exact⟨a,b,e,h.le k⟩
abbrev oA(I A:PH)(v:Value)(l:Zr):Prop:=Ow iD 50 2 I A v l
variable{v:Value}
def oA.le{A:PH}{l:Zr}(h:oA I A v l)(k:I.le J):oA J A v l:=Ow.le (R:=iD) (fun{I J c a} h k=>iD.le h k) h k
def VB{b n:Nat}(g:n<=3):oA I (sg b (.cells (madeCells (Value.agg #[.slice none 0 0,.int .i64 0]).cells (n*2)) 50 (0,0))) (.slice (some ⟨b,0,none⟩) n n) (List.replicate n (ff:T)):=by
 have h0:iD I [.slice none 0 0,.int .i64 0] ff:=⟨none,0,rfl,yE I⟩;have f:madeCells (Value.agg #[.slice none 0 0,.int .i64 0]).cells (0*2)=([]:Zo).toArray:=ae;have e:madeCells (Value.agg #[.slice none 0 0,.int .i64 0]).cells (1*2)=([Value.slice none 0 0,.int .i64 0]:Zo).toArray:=ae;have d:madeCells (Value.agg #[.slice none 0 0,.int .i64 0]).cells (2*2)=([Value.slice none 0 0,.int .i64 0,Value.slice none 0 0,.int .i64 0]:Zo).toArray:=ae;have c:madeCells (Value.agg #[.slice none 0 0,.int .i64 0]).cells (3*2)=([Value.slice none 0 0,.int .i64 0,Value.slice none 0 0,.int .i64 0,Value.slice none 0 0,.int .i64 0]:Zo).toArray:=ae;have a:n=0\/n=1\/n=2\/n=3:=O;rcases a with rfl|rfl|rfl|rfl
 .rw[f];exact⟨[],yG rfl af,rfl⟩
 .rw[e];exact⟨[Value.slice none 0 0,.int .i64 0],yG rfl af,⟨_,_,rfl,h0,rfl⟩⟩
 .rw[d];exact⟨[Value.slice none 0 0,.int .i64 0,Value.slice none 0 0,.int .i64 0],yG rfl af,⟨_,_,rfl,h0,_,_,rfl,h0,rfl⟩⟩
 .rw[c];exact⟨[Value.slice none 0 0,.int .i64 0,Value.slice none 0 0,.int .i64 0,Value.slice none 0 0,.int .i64 0],yG rfl af,⟨_,_,rfl,h0,_,_,rfl,h0,_,_,rfl,h0,rfl⟩⟩
def g4(l:List M)(s:Nat):T:=l.foldl (fun a n=>if n.slot=(s:Int)then a.or n.cond else a) ff
def pf(n:Nat)(l:List M):Zr:=(List.range n).map (g4 l)
def W3(l:List M)(m:M)(s:Nat):g4 (l++[m]) s=if m.slot=(s:Int)then (g4 l s).or m.cond else g4 l s:=by simp[g4]
def W4(n:Nat):pf n []=List.replicate n (ff:T):=by
 unfold pf;refine List.ext_getElem? fun i=>?_;rw[iZ,List.getElem?_replicate];split
 .rename_i h;rw[List.getElem?_range h];rfl
 .rename_i h;rw[fp (by simp;omega)];rfl
variable{i:Nat}
def BY{n:Nat}(h:i<n)(l:List M):(pf n l)[i]?=some (g4 l i):=by unfold pf;rw[iZ,List.getElem?_range h];rfl
def yO(n:Nat)(l:List M):(pf n l).length=n:=by simp[pf]
def W5{n:Nat}(h:i<n)(l:List M)(m:M)(hm:m.slot=(i:Int)):pf n (l++[m])=(pf n l).set i ((g4 l i).or m.cond):=by
 refine List.ext_getElem? fun j=>?_;rw[wO];rcases aK j n with a|a
 .rw[BY a,BY a,W3,yO];by_cases e:i=j
  .subst e;rw[ah hm,ah rfl,ah h]
  .rw[ab e,ab O]
 .rw[fp (by rw[yO];exact a),ab O,fp (by rw[yO];exact a)]
def FJ:∀(l:List M) (s:Nat),(∀m∈l,m.cond.ok 0)->(g4 l s).ok 0/\∀c,(g4 l s).at' c=l.any fun m=>decide (m.slot=(s:Int)) && m.cond.at' c:=by
 intro l s;have key:∀(l:List M) (a:T),a.ok 0->(∀m∈l,m.cond.ok 0)->(l.foldl (fun a n=>if n.slot=(s:Int)then a.or n.cond else a) a).ok 0/\∀c,(l.foldl (fun a n=>if n.slot=(s:Int)then a.or n.cond else a) a).at' c=(a.at' c || l.any fun m=>decide (m.slot=(s:Int)) && m.cond.at' c):=by
  intro l
  induction l with
  |nil=>intro a ha _;exact⟨ha,fun c=>by simp⟩
  |cons m l f=>
   intro a ha b;simp only[g7,List.any_cons];split
   .rename_i e;obtain⟨h1,h2⟩:=f (a.or m.cond) (T.or_ok ha (b m (.head _))) fun x d=>b x (.tail _ d);refine⟨h1,fun c=>?_⟩;rw[h2,T.or_at ha (b m (.head _)),bm e,Bool.true_and,Bool.or_assoc]
   .rename_i e;obtain⟨h1,h2⟩:=f a ha fun x d=>b x (.tail _ d);refine⟨h1,fun c=>?_⟩;rw[h2,ch e,Bool.false_and,lH]
 intro b;obtain⟨h1,h2⟩:=key l ff trivial b;exact⟨h1,fun c=>by rw[g4,h2];rfl⟩
def zX{a b:T}(ha:a.ok 0)(hb:b.ok 0)(h:∀c,¬(a.at' c=true/\b.at' c=true)):a.and b=.lf false:=by refine T.ext (T.and_ok ha hb) (show (ff:T).ok 0 from trivial) fun c=>?_;rw[T.and_at ha hb];have:=h c;cases ha:a.at' c<;>cases hb:b.at' c<;>simp_all<;>rfl
def Y0{a b:T}(ha:a.ok 0)(hb:b.ok 0)(h:nD a b):a.and b.not=.lf false:=zX ha (T.not_ok hb) fun c ⟨h1,h2⟩=>by rw[T.not_at,h c h1]at h2;cases h2
def pT(I:PH)(L:List (Int×T))(S:Value->Value->Prop):Prop:=∀y u,S y u->∃o t,y=.int .i64 o/\bW I u t/\∀c,t.at' c=true->∃p∈L,p.1=o/\p.2.at' c=true
def pS(I Z:PH)(r:Nat)(L:List (Int×T)):Prop:=∃S,jD prog Z r 3 S/\pT I L S
variable{L:List (Int×T)}
def pS.le{Z:PH}{r:Nat}(h:pS I Z r L)(k:I.le J):pS J Z r L:=by obtain⟨S,h1,h2⟩:=h;exact⟨S,h1,fun y u hs=>let ⟨o,t,e,hr,ha⟩:=h2 y u hs;⟨o,t,e,hr.le k,ha⟩⟩
variable{o:Int}
def TO(h:-1<=o)(h2:o<1099511627776):fq prog 3 (.int .i64 o):=⟨_,Maps.keyOf_int_mk py (Gt O O)⟩
variable{S:Value->Value->Prop}
def X1(h:pT I L S)(o:Int):∃a k t,(S (.int .i64 o) (.agg #[sD a k t,rD t])\/(.agg #[sD a k t,rD t]:Value)=.agg #[.slice none 0 0,.int .i64 0]/\∀u,¬S (.int .i64 o) u)/\bW I (.agg #[sD a k t,rD t]) t/\∀c,t.at' c=true->∃p∈L,p.1=o/\p.2.at' c=true:=by
 by_cases d:∃u,S (.int .i64 o) u
 .obtain⟨u,b⟩:=d;obtain⟨o',t,e,hr,ha⟩:=h _ _ b;simp only[Value.int.injEq,fg]at e;subst e;obtain⟨a,k,rfl⟩:=hr.shape2;exact⟨a,k,t,.inl b,hr,ha⟩
 .exact⟨none,0,ff,.inr ⟨rfl,fun u b=>d ⟨u,b⟩⟩,yE I,fun c f=>by cases f⟩
theorem pT.put(h:pT I L S)(k:I.le J){u:Value}{t d:T}(ht:t.ok 0)(hd:d.ok 0)(hr:bW J u (t.or d))(ha:∀c,t.at' c=true->∃p∈L,p.1=o/\p.2.at' c=true):
  pT J (L++[(o,d)]) fun y x=>(y=.int .i64 o/\x=u)\/(y≠.int .i64 o/\S y x):=by
 rintro y x (⟨rfl,rfl⟩|⟨_,hs⟩)
 .refine⟨o,_,rfl,hr,fun c a=>?_⟩;rw[T.or_at ht hd,sY]at a;rcases a with a|a
  .obtain⟨p,hp,e⟩:=ha c a;exact⟨p,gm _ hp,e⟩
  .exact⟨(o,d),by simp,rfl,a⟩
 .obtain⟨o',t',e,hr,ha⟩:=h _ _ hs;exact⟨o',t',e,hr.le k,fun c a=>let ⟨p,hp,e⟩:=ha c a;⟨p,gm _ hp,e⟩⟩
def FX(k:Nat)(x:au):Prop:=FB k x/\x.length<2^40
def Yt{k:Nat}{x:au}(h:lG FX k x):lG FB k x/\x.length<2^40:=by
 unfold lG at h |-;by_cases h1:k=2\/k=3\/k=4\/k=7\/k=18\/k=19
 .rw[ah h1]at h |-;exact⟨⟨h.1.1,h.2⟩,h.1.2⟩
 rw[ab h1]at h |-;by_cases h2:k=5
 .rw[ah h2]at h |-;exact⟨h,by rcases h with rfl|rfl<;>decide⟩
 rw[ab h2]at h |-;by_cases h3:k=13
 .rw[ah h3]at h |-;refine⟨h,?_⟩;by_cases f:x.length<2^40
  .exact f
  .exfalso;apply h;have ne:∀y:au,y.length<2^40->x≠y:=fun y r e=>f (e▸r);have q:=ne F6 af;have p:=ne FV af;have o:=ne FY af;have n:=ne F5 af;have m:=ne F2 af;have l:=ne F1 af;have j:=ne F0 af;have i:=ne FZ af;have g:=ne F7 af;have d:=ne pq af;have c:=ne F4 af;have b:=ne FW af;have a:=ne F3 af;simp[fV,q,p,o,n,m,l,j,i,g,d,c,b,a]
 rw[ab h3]at h |-;by_cases h4:k=14
 .rw[ah h4]at h |-;exact⟨h,by rcases h with rfl|rfl<;>decide⟩
 rw[ab h4]at h |-;by_cases h5:k=15
 .rw[ah h5]at h |-;exact⟨h.1,h.2⟩
 rw[ab h5]at h |-;by_cases h6:k=16
 .rw[ah h6]at h |-;exact⟨h,by rcases h with rfl|rfl<;>decide⟩
 rw[ab h6]at h |-;exact⟨h,by rw[h];decide⟩
def K5(k:Nat):(rl k).length<=3:=by
 rcases aK k 20 with a|a
 .exact(by decide:∀k,k<20->(rl k).length<=3) k a
 .have:rl k=[]:=by
   unfold rl
   repeat rw[ab O]
  rw[this];decide
def AA:ay prog 106:=⟨_,func106,rfl,rfl⟩
variable{w:T}{F:Nat->au->Prop}
def ts(n:M):VN F w n<->(1<=n.kind/\n.kind<=19)/\lG F n.kind n.text/\(n.cond.ok 0/\n.cond≠ff/\nD n.cond w)/\(-1<=n.tok/\n.tok<1099511627776/\(n.tok=-1<->n.kind=1))/\(n.kids.map M.key).Pairwise (fun a b=>kf a b=true)/\(∀m∈n.kids,xZ n.kind m)/\n.kids.Pairwise (xl n.kind)/\(∀(i:Nat) r,(rl n.kind)[i]?=some r->r.1=0->∀c,n.cond.at' c=true->∃m∈n.kids,m.slot=(i:Int)/\m.cond.at' c=true)/\VL F n.cond n.kids:=by cases n;exact Iff.rfl
def D0(n:M):tH n=(n.tok,n.cond)::iK n.kids:=by cases n;rfl
def pT.le(h:pT I L S)(k:I.le J):pT J L S:=fun y u hs=>let ⟨o,t,e,hr,ha⟩:=h y u hs;⟨o,t,e,hr.le k,ha⟩
def wH(nb:Zo)(e lev:Nat)(a b c:Value)(d i:Nat):St:=⟨dn 190 [(2,.v (E lev)),(3,.v (.map (some e))),(4,.p 4 0),(8,.v (.bool false)),(9,.v a),(10,.v b),(86,.v c),(87,.v (E d)),(88,.v (E i))],[⟨4,60,nb⟩]⟩
def MF(n:M)(r:Nat)(L:List (Int×T))(a:Value)(b:PH)(i:Nat)(H:PH):Prop:=∃I Z A,H=U [I,Z,A]/\Dj [I,Z,A]/\b.le I/\i<=n.kids.length/\pS I Z r (L++(n.tok,n.cond)::iK (n.kids.take i))/\oA I A a (pf (rl n.kind).length (n.kids.take i))
def sU(nb mb:Zo)(key:Nat)(e lev:Nat)(a b c:Value)(d i:Nat):St:=⟨dn 190 [(2,.v (E lev)),(3,.v (.map (some e))),(4,.p 4 0),(8,.v (.bool false)),(9,.v a),(10,.v b),(12,.p 12 0),(86,.v c),(87,.v (E d)),(88,.v (E i)),(key,.v (.bool false))],[⟨4,60,nb⟩,⟨12,60,mb⟩]⟩
def zh(nb:Zo)(a b:Value)(n i:Nat):St:=⟨dn 190 [(4,.p 4 0),(8,.v (.bool false)),(10,.v b),(169,.v a),(170,.v (E n)),(171,.v (E i))],[⟨4,60,nb⟩]⟩
def YR(n:M)(r:Nat)(L:List (Int×T))(a:Value)(b:PH)(i:Nat)(H:PH):Prop:=∃I Z A,H=U [I,Z,A]/\Dj [I,Z,A]/\b.le I/\i<=(rl n.kind).length/\pS I Z r (L++tH n)/\oA I A a (pf (rl n.kind).length n.kids)
def Wu{k:Nat}{r:Nat×Zp}(h:(rl k)[i]?=some r):r.2.length<2^40:=by
 have key:∀l:List (Nat×Zp),(l.all fun r=>decide (r.2.length<100))=true->l[i]?=some r->r.2.length<2^40:=fun l b hi=>by have:=List.all_eq_true.1 b r (db hi);have:=lN this;omega
 refine key _ ?_ h;rcases aK k 20 with a|a
 .exact(by decide:∀k,k<20->((rl k).all fun r=>decide (r.2.length<100))=true) k a
 .have:rl k=[]:=by
   unfold rl
   repeat rw[ab O]
  rw[this];rfl
theorem YM:∀(k:Nat) {n:M},aL n.kids<k->∀{I Z:PH} {cn:Zo} {vw:Value} {w:T} {r:Nat} {L:List (Int×T)} {lev:Nat},ag I cn n->bW I vw w->VN FX w n->ib I->lev+mO n<=16385->pS I Z r L->(L++tH n).Pairwise uC->
  Zu 106 #[.agg cn.toArray,vw,E lev,.map (some r)] I [Z] fun res I2 qs=>res=.bool true/\∃M2,qs=[M2]/\pS I2 M2 r (L++tH n):=by
 intro k
 induction k with
 |zero=>intro n h;omega
 |succ k ih=>
 intro n hk I Z cn vw w r L lev hN hW hv hV fb hM cl hd;obtain⟨vk,na,nk,rfl,G,aa,cp⟩:=hN.shape;obtain⟨ka,kc,rfl,_⟩:=id aa;obtain⟨wa,wk,rfl⟩:=hW.shape2;obtain⟨⟨em,el⟩,c4,⟨cy,e7,c3⟩,⟨e6,e5,ek⟩,cf,dw,c7,dk,bc⟩:=(ts n).1 hv;obtain⟨c4,e0⟩:=Yt c4;have ga:=qe n;refine aP 190 func106 fun w0=>?_
 try simp only[sD,rD,E]
 have f1:decide ((lev:Int)>16384)=false:=ch O;have f2:decide ((n.kind:Int)<1)=false:=ch O;have f3:decide ((n.kind:Int)>19)=false:=ch O;apply RG;simp only[go_sem,sD,rD,E,f1,f2,f3];refine av hd [0] [] [Z] rfl QH rfl (UW e0 hV ⟨em,el⟩ c4) ?_;rintro v1 I1 qs ex a1⟨rfl,rfl⟩;simp only[Z3]at ex |-;refine bK ?_;refine Zl rfl jj (ji G) ?_;rintro v H2⟨rfl,rfl⟩;have f4:decide (n.cond=.lf false)=false:=ch e7;refine dm f4 ?_;refine av ex [0] [] [Z] rfl QI rfl (YZ (G.le a1) (hW.le a1)) ?_;rintro v2 I2 qs dT dv⟨rfl,rfl⟩;simp only[Z3]at dT |-;have f5:decide (n.cond.and w.not=.lf false)=true:=bm (Y0 cy hW.1 c3);have f6:decide (n.tok < -1)=false:=ch O;obtain⟨q,q1,q2⟩:∃q,(n.tok == -1)=q/\((n.kind:Int) == 1)=q:=by
  refine⟨_,rfl,?_⟩;by_cases e:n.kind=1
  .rw[ek.2 e,e];rfl
  .have:¬n.tok=-1:=fun h=>e (ek.1 h);rw[beq_eq_false_iff_ne.2 this,beq_eq_false_iff_ne.2 O]
 have k2:=D a1 dv;obtain⟨S,c1,hS⟩:=hM.le k2;obtain⟨xa,xk,tt0,c8,b4,d4⟩:=X1 hS n.tok;have a4:=TO e6 e5;apply RG;simp only[go_sem,sD,rD,E,f5,f6,q1,q2];refine uJ (.bool false) rfl rfl (fun w _=>by cases q<;>kernel_rfl) ?_;refine bK ?_;refine Na (by exact K3) (by exact EG) (by exact CF) rfl rfl rfl rfl (c1.atU dT ao) (by exact a4) c8 ?_;refine bK ?_;refine av dT [0] [] [Z] rfl EF rfl (EZ b4 (G.le k2)) ?_;rintro v3 I3 qs dx a0⟨rfl,rfl⟩;simp only[Z3]at dx |-;have f7:decide (tt0.and n.cond=.lf false)=true:=bm (zX b4.1 cy fun c ⟨h1,h2⟩=>by obtain⟨p,hp,e,h3⟩:=d4 c h1;exact(List.pairwise_append.1 cl).2.2 p hp (n.tok,n.cond) (by rw[D0];exact .head _) e c ⟨h3,h2⟩)
 have k3:=D k2 a0;apply RG;simp only[go_sem,sD,rD,E,f7,cL];refine bG [0,1,2,3,4,5,6,7,8,9,10] [6] [] ?_;refine cz ?_;refine No (by exact K3) (by exact EG) (by exact CF) rfl rfl rfl rfl rfl (c1.atU dx ao) (by exact a4) c8 ?_;refine cz ?_;refine cH dx [0] [] [Z] rfl qo rfl (qG (b4.le a0) (G.le k3)) ?_;rintro v4 I4 qs et ca⟨rfl,ei⟩;obtain⟨ya,yk,rfl⟩:=ei.shape2;simp only[Z3]at et |-;refine cz ?_;refine CW (by exact K3) (by exact EG) (key:=.int .i64 n.tok) (v:=.agg #[sD ya yk (tt0.or n.cond),rD (tt0.or n.cond)]) et rfl rfl rfl (.inl rfl) rfl rfl rfl c1 a4 fun M5 fs ea=>?_;have ez:=pT.put hS (D a0 ca) b4.1 cy ei d4;have ea:pS I4 M5 r (L++[(n.tok,n.cond)]):=⟨_,ea,ez⟩;clear ez hS c1 c8 b4 d4 hM;refine cz ?_;apply aN;refine bK ?_;refine av fs [0] [] [M5] rfl IE rfl (Ld ⟨em,el⟩) ?_;rintro v6 I6 qs es b8⟨rfl,d5⟩;obtain⟨ra,rc,rfl,_⟩:=id d5;simp only[Z3]at es |-;have e3:=K5 n.kind;refine bK ?_;refine Nc es (by exact FG) (by exact CF) rfl rfl rfl rfl O O fun sb er=>?_;have ed:=VB (I:=I6) (b:=sb) e3;rw[<-W4]at ed;have k6:=D k3 (D ca b8);generalize sg sb (.cells (madeCells (Value.agg #[.slice none 0 0,.int .i64 0]).cells ((rl n.kind).length*2)) 50 (0,0))=A0 at ed er |-;have fz:=ea.le b8;refine bK ?_;refine ak er [1,0] fun fr=>?_
 apply gO (fun i=>n.kids.length-i) (wH [.int .u8 n.kind,.string ⟨⟨n.text⟩⟩,.int .i64 n.tok,.int .i64 n.slot,.slice ka n.kids.length kc,sD na nk n.cond,rD n.cond] r lev (.slice ra (rl n.kind).length rc) (.slice (some ⟨sb,0,none⟩) (rl n.kind).length (rl n.kind).length) (.slice ka n.kids.length kc) n.kids.length) (MF n r L (.slice (some ⟨sb,0,none⟩) (rl n.kind).length (rl n.kind).length) I6) (fun i H=>i=n.kids.length/\MF n r L (.slice (some ⟨sb,0,none⟩) (rl n.kind).length (rl n.kind).length) I6 i H) 0
 .exact al
 .exact(by simp only[go_sem,Y,wH,sD,rD,E])
 .exact⟨I6,M5,A0,rfl,fr,aD _,aE _,fz,ed⟩
 .rintro i H ⟨I7,M7,A7,rfl,a6,o,hi,bs,cr⟩ P ci;simp only[wH];rcases aK i n.kids.length with B|fh
  rotate_left
  .have:i=n.kids.length:=by omega
   subst this;have ee:decide (((n.kids.length:Nat):Int)<(n.kids.length:Int))=false:=ao;apply cE 7;simp only[go_sem,ee,E];exact ci n.kids.length _ _ al (by simp only[go_sem,Y,wH]) ⟨rfl,I7,M7,A7,rfl,a6,o,aR _,bs,cr⟩
  have ee:=Z5 i n.kids.length;have fA:=nr cp B;obtain⟨m,b7⟩:∃m,n.kids[i]?=some m:=⟨_,aY B⟩;have bb:=db b7;obtain⟨s,cA,Q,y,e8⟩:=dw m bb;have ef:=(List.getElem?_eq_some_iff.1 y).1;obtain⟨b,off,cs,ev,d2,ap⟩:=Sl.load ag.len (bk.le aa (D k6 o)) b7;cases ev
  obtain⟨vkm,ma,mk,rfl,b3,a3,ey⟩:=d2.shape;obtain⟨kma,kmc,rfl,_⟩:=id a3;rw[cA]at d2 ap;have fc:m.key=⟨(s:Int),m.tok,m.kind,m.text⟩:=by unfold M.key;rw[cA]
  refine dm ee ?_;refine⟨O,?_⟩;refine Zm (l:=[.int .u8 m.kind,.string ⟨⟨m.text⟩⟩,.int .i64 m.tok,.int .i64 s,.slice kma m.kids.length kmc,sD ma mk m.cond,rD m.cond]) (v:=.agg #[.int .u8 m.kind,.string ⟨⟨m.text⟩⟩,.int .i64 m.tok,.int .i64 s,.slice kma m.kids.length kmc,sD ma mk m.cond,rD m.cond]) rfl (cellsU a6 (.head _) ap) (.inl ⟨b9,rfl⟩) ?_;refine bK ?_;obtain⟨rb,roff,rcs,ev,aq,N⟩:=Sl.load oD.len (gS.le d5 o) y;cases ev
  obtain⟨vkk,rfl,c2⟩:=id aq;obtain⟨kka,kkc,rfl,_⟩:=id c2;apply uH (fun _:Unit=>sU [.int .u8 n.kind,.string ⟨⟨n.text⟩⟩,.int .i64 n.tok,.int .i64 n.slot,.slice (some ⟨b,off,none⟩) n.kids.length kc,sD na nk n.cond,rD n.cond] [.int .u8 m.kind,.string ⟨⟨m.text⟩⟩,.int .i64 m.tok,.int .i64 s,.slice kma m.kids.length kmc,sD ma mk m.cond,rD m.cond] 119 r lev (.slice (some ⟨rb,roff,none⟩) (rl n.kind).length rc) (.slice (some ⟨sb,0,none⟩) (rl n.kind).length (rl n.kind).length) (.slice (some ⟨b,off,none⟩) n.kids.length kc) n.kids.length i) (fun _ H=>∃I,H=U [I,M7,A7]/\Dj [I,M7,A7]/\I7.le I)
  .intro hg;have f94:decide ((s:Int)<0)=false:=ch O;have f98:decide ((s:Int)>=((rl n.kind).length:Int))=false:=ch O;refine bG [0,1,2,3,4,5,6,7,8,9,10,11,12,13,14,15,16,17,18,19,21,20,22,23,24,25,26] [19] [] ?_;rcases jA i with h0|h0
   .have f105:decide ((i:Int)>0)=false:=ch O;apply bo;simp only[go_sem,E,sD,rD,f94,f98,f105];apply aN;exact hg () _ _ ⟨I7,rfl,a6,aD _⟩ al (by simp only[go_sem,Y,sU,E,sD,rD])
   obtain⟨j,hj⟩:∃j,i=j+1:=⟨i-1,O⟩;have f105:decide ((i:Int)>0)=true:=bm O;have ej:IntKind.i64.wrap ((i:Int)-1)=(j:Int):=by
    rw[show (i:Int)-1=(j:Int) by omega];rcases j with _|j'
    .exact wrap64 O
    .exact nr cp O
   obtain⟨F,dd⟩:∃F,n.kids[j]?=some F:=⟨_,aY O⟩;obtain⟨b2,off2,cs2,ev2,d1,a7⟩:=Sl.load ag.len (bk.le aa (D k6 o)) dd;cases ev2
   obtain⟨vkp,pa,pk,rfl,eg,a2,_⟩:=d1.shape;obtain⟨kpa,kpc,rfl,_⟩:=id a2;apply bo;simp only[go_sem,E,sD,rD,f94,f98,f105,ej];refine⟨O,?_⟩;refine Zn (l:=[.int .u8 F.kind,.string ⟨⟨F.text⟩⟩,.int .i64 F.tok,.int .i64 F.slot,.slice kpa F.kids.length kpc,sD pa pk F.cond,rD F.cond]) (v:=.agg #[.int .u8 F.kind,.string ⟨⟨F.text⟩⟩,.int .i64 F.tok,.int .i64 F.slot,.slice kpa F.kids.length kpc,sD pa pk F.cond,rD F.cond]) rfl (cellsU a6 (.head _) a7) (.inl ⟨b9,rfl⟩) ?_;refine cz ?_;refine cH a6 [0,1] [] [M7,A7] rfl tJ rfl (bh.keep (tP _ _ _ _ _ _ _ _ _ _ _ _)) ?_;rintro va Ia qs C f⟨rfl,rfl⟩;simp only[Z3]at C |-;refine cz ?_;refine cH C [0,1] [] [M7,A7] rfl tJ rfl (bh.keep (tP _ _ _ _ _ _ _ _ _ _ _ _)) ?_;rintro vb Ib qs V R⟨rfl,rfl⟩;simp only[Z3]at V |-;refine cz ?_;refine cH V [0,1] [] [M7,A7] rfl Iz rfl (HI F.key ⟨(s:Int),m.tok,m.kind,m.text⟩ Ib) ?_;rintro vc Ic qs cm ac⟨rfl,rfl⟩;simp only[Z3]at cm |-;have f117:decide (AO F.key ⟨(s:Int),m.tok,m.kind,m.text⟩>=0)=false:=by
    have h1:kf F.key m.key=true:=by
     have:=List.pairwise_iff_getElem.1 cf j i (by rw[eO];omega) (by rw[eO];exact B) O;rw[List.getElem_map,List.getElem_map]at this;have e1:n.kids[j]'(by (omega))=F:=by rw[aY O]at dd;exact cX dd
     have e2:n.kids[i]=m:=by rw[aY B]at b7;exact cX b7
     rw[e1,e2]at this;exact this
    rw[<-JF,fc]at h1;have:=lN h1;exact ch O
   refine ny f117 ?_;apply aN;exact hg () _ _ ⟨Ic,rfl,cm,D f (D R ac)⟩ al (by simp only[go_sem,Y,sU,E,sD,rD])
  rintro⟨⟩ H ⟨I8,rfl,u,d⟩;simp only[sU];refine bK ?_;refine⟨O,?_⟩;refine Zm (l:=[.int .u8 Q.1,.slice kka Q.2.length kkc]) (v:=.agg #[.int .u8 Q.1,.slice kka Q.2.length kkc]) rfl (cellsU u (.head _) (N.le d)) (.inl ⟨Df,rfl⟩) ?_;refine bK ?_;have k8:=D k6 (D o d);have d0:=ag.le d2 d;have an:=b3.le d;obtain⟨g,cap,cur,cc,ev,eA,b1,c0,d3,t,dc⟩:=Ow.part (oA.le cr d) (fun{I} c a h=>iD.len c a h) (fun{I J c a} h k=>iD.le h k) (BY ef (n.kids.take i)) 0 2 O;obtain⟨X,W,rfl,b0⟩:=id c0;rw[yO]at ev b1;cases ev
  subst eA;simp only[io,mB,mC]at t;have f134:∀{z:Bool},((Q.1:Int) != 2)=z->((Q.1:Int) != 2)=z:=fun h=>h;have fa:nD m.cond n.cond:=((ts m).1 (rP.1 bc m bb)).2.2.1.2.2;have ds:=((ts m).1 (rP.1 bc m bb)).2.2.1.1;have f0:=r0 bb;have fC:=uj bb;have elev:=Z7 lev;have c5:n.kids.take (i+1)=n.kids.take i++[m]:=g6 b7;have a5:L++(n.tok,n.cond)::iK (n.kids.take (i+1))=(L++(n.tok,n.cond)::iK (n.kids.take i))++tH m:=by rw[c5,DY];simp[iK]
  have cj:((L++(n.tok,n.cond)::iK (n.kids.take i))++tH m).Pairwise uC:=by
   rw[<-a5];refine cl.sublist (List.Sublist.append (List.Sublist.refl L) ?_);rw[D0];refine List.Sublist.cons_cons _ ?_
   conv=>rhs;rw[<-pG (i+1) n.kids,DY]
   exact List.sublist_append_left _ _
  have recur {J:PH} (hJ:I8.le J):=ih (n:=m) O (ag.le d0 hJ) (G.le (D k8 hJ)) (rP.1 bc m bb) (hV.le (D k8 hJ)) (lev:=lev+1) O (bs.le (D d hJ)) cj;apply uH (fun _:Unit=>sU [.int .u8 n.kind,.string ⟨⟨n.text⟩⟩,.int .i64 n.tok,.int .i64 n.slot,.slice (some ⟨b,off,none⟩) n.kids.length kc,sD na nk n.cond,rD n.cond] [.int .u8 m.kind,.string ⟨⟨m.text⟩⟩,.int .i64 m.tok,.int .i64 s,.slice kma m.kids.length kmc,sD ma mk m.cond,rD m.cond] 155 r lev (.slice (some ⟨rb,roff,none⟩) (rl n.kind).length rc) (.slice (some ⟨sb,0,none⟩) (rl n.kind).length (rl n.kind).length) (.slice (some ⟨b,off,none⟩) n.kids.length kc) n.kids.length i) (fun _ H=>∃I M',H=U [I,M',sg sb (.cells cur 50 (0,0))]/\Dj [I,M',sg sb (.cells cur 50 (0,0))]/\I8.le I/\pS I M' r (L++(n.tok,n.cond)::iK (n.kids.take (i+1))))
  .intro hg;refine bG [0,1,2,3,4,5,6,7,8,9,10,11,12,13,14,15,16,17,18,19,20,21,22,23,24,25,26,27,28,29,30] [15] [] ?_;refine cz ?_;refine cH u [0,1] [] [M7,_] rfl QJ rfl (bh.keep (TK (gu.le c2 d) (Wu y) e8)) ?_;rintro va Ia qs C f⟨rfl,rfl⟩;simp only[Z3]at C |-;cases am:((Q.1:Int) != 2)
   .apply bo;simp only[go_sem,E,sD,rD,cL,am,elev];refine cH C [0,1] [M7] [_] rfl AA rfl (recur f) ?_;rintro vb Ib qs V R⟨rfl,Mb,rfl,d7⟩;simp only[Z3]at V |-;apply bo;simp only[go_sem,E,sD,rD,cL];apply aN;exact hg () _ _ ⟨Ib,Mb,rfl,V,D f R,by rw[a5];exact d7⟩ al (by simp only[go_sem,Y,sU,E,sD,rD])
   .apply bo;simp only[go_sem,E,sD,rD,cL,am,elev];refine⟨O,?_⟩;refine Zn (l:=[sD X W (g4 (n.kids.take i) s),rD (g4 (n.kids.take i) s)]) (v:=.agg #[sD X W (g4 (n.kids.take i) s),rD (g4 (n.kids.take i) s)]) rfl (by simpa using cellsU C (.tail _ (.tail _ (.head _))) t) (.inl ⟨jG,rfl⟩) ?_;refine cz ?_;refine cH C [0,1] [] [M7,_] rfl EF rfl (EZ (b0.le f) (an.le f)) ?_;rintro vc Ic qs cm ac⟨rfl,rfl⟩;simp only[Z3]at cm |-;have f143:decide ((g4 (n.kids.take i) s).and m.cond=.lf false)=true:=bm (zX b0.1 ds fun c ⟨h1,h2⟩=>by
     rw[(FJ (n.kids.take i) s fun x hx=>((ts x).1 (rP.1 bc x (lL hx))).2.2.1.1).2 c,List.any_eq_true]at h1;obtain⟨x,hx,h3⟩:=h1;rw[cZ,dE]at h3;have bx:∀x∈n.kids.take i,xl n.kind x m:=by
      have h4:(n.kids.take i++[m]).Pairwise (xl n.kind):=by rw[<-c5];exact c7.sublist (List.take_sublist _ _)
      exact fun x hx=>(List.pairwise_append.1 h4).2.2 x hx m (.head _)
     exact bx x hx s Q y (fun e=>by rw[e]at am;cases am) h3.1 cA c ⟨h3.2,h2⟩)
    apply bo;simp only[go_sem,E,sD,rD,f143,cL,elev];refine cH cm [0,1] [M7] [_] rfl AA rfl (recur (D f ac)) ?_;rintro vb Ib qs V R⟨rfl,Mb,rfl,d7⟩;simp only[Z3]at V |-;apply bo;simp only[go_sem,E,sD,rD,cL];apply aN;exact hg () _ _ ⟨Ib,Mb,rfl,V,D (D f ac) R,by rw[a5];exact d7⟩ al (by simp only[go_sem,Y,sU,E,sD,rD])
  rintro⟨⟩ H ⟨I9,M9,rfl,K,A,fv⟩;simp only[sU];refine bK ?_;refine bG [0,1,2,3,4,5,6,7,8,9,10,11,12] [7] [] ?_;refine cz ?_;refine⟨O,?_⟩;refine Zn (l:=[sD X W (g4 (n.kids.take i) s),rD (g4 (n.kids.take i) s)]) (v:=.agg #[sD X W (g4 (n.kids.take i) s),rD (g4 (n.kids.take i) s)]) rfl (by simpa using cellsU K (.tail _ (.tail _ (.head _))) t) (.inl ⟨jG,rfl⟩) ?_;refine cz ?_;refine cH K [0,1] [] [M9,_] rfl qo rfl (qG (b0.le A) (an.le A)) ?_;rintro vd Id qs eq aS⟨rfl,eh⟩;obtain⟨za,zk,rfl⟩:=eh.shape2;simp only[Z3]at eq |-;refine cz ?_;refine⟨O,?_⟩;refine i8 eq [1,0] fun fn=>?_;refine cY fn rfl rfl rfl rfl rfl rfl (by exact qW) (by simp;omega) fun fl=>?_;refine cz ?_;apply aN;refine dm fA ?_;refine ak fl [1,0] fun fi=>?_;have cx:=dc Id [sD za zk ((g4 (n.kids.take i) s).or m.cond),rD ((g4 (n.kids.take i) s).or m.cond)] ((g4 (n.kids.take i) s).or m.cond) (D A aS) ao ⟨za,zk,by simp[bN,sD,rD],eh⟩;rw[<-W5 ef _ m cA,<-c5]at cx;refine P (i+1) _ _ O al (by simp only[go_sem,Y,wH,E,sD,rD]) ⟨Id,M9,_,rfl,fi,D o (D d (D A aS)),B,fv.le aS,cx⟩
 rintro i H ⟨rfl,I7,M7,A7,rfl,a6,o,_,bs,cr⟩;simp only[wH];rw[dK]at bs cr;rw[<-D0]at bs;have k7:=D k6 o;refine bK ?_;refine bV (fun i=>(rl n.kind).length-i) (zh [.int .u8 n.kind,.string ⟨⟨n.text⟩⟩,.int .i64 n.tok,.int .i64 n.slot,.slice ka n.kids.length kc,sD na nk n.cond,rD n.cond] (.slice ra (rl n.kind).length rc) (.slice (some ⟨sb,0,none⟩) (rl n.kind).length (rl n.kind).length) (rl n.kind).length) (YR n r L (.slice (some ⟨sb,0,none⟩) (rl n.kind).length (rl n.kind).length) I7) 0 al (by simp only[go_sem,Y,zh,sD,rD,E]) ⟨I7,M7,A7,rfl,a6,aD _,aE _,bs,cr⟩ ?_;rintro i H ⟨I8,M8,A8,rfl,u,d,hi,d9,ec⟩ P;simp only[zh];rcases aK i (rl n.kind).length with B|fh
 .have ba:decide ((i:Int)<((rl n.kind).length:Int))=true:=bm O;have e1:=Z7 i;obtain⟨Q,y⟩:∃Q,(rl n.kind)[i]?=some Q:=⟨_,aY B⟩;obtain⟨rb,roff,rcs,ev,aq,N⟩:=Sl.load oD.len (gS.le d5 (D o d)) y;cases ev
  obtain⟨vkk,rfl,c2⟩:=id aq;obtain⟨kka,kkc,rfl,_⟩:=id c2;refine dm ba ?_;refine⟨O,?_⟩;refine Zm (l:=[.int .u8 Q.1,.slice kka Q.2.length kkc]) (v:=.agg #[.int .u8 Q.1,.slice kka Q.2.length kkc]) rfl (cellsU u (.head _) N) (.inl ⟨Df,rfl⟩) ?_;refine bK ?_;refine bG [0,1,2,3,4,5,6,7,8,9,10,11,12] [7] [] ?_;cases a9:((Q.1:Int) == 0)
  .refine ny a9 ?_;apply aN;refine dm e1 ?_;exact P (i+1) _ _ O al (by simp only[go_sem,Y,zh,E,sD,rD]) ⟨I8,M8,A8,rfl,u,d,B,d9,ec⟩
  .have c9:Q.1=0:=by have:=eq_of_beq a9;omega
   have cb:∀x∈n.kids,x.cond.ok 0:=fun x hx=>((ts x).1 (rP.1 bc x hx)).2.2.1.1;have c6:g4 n.kids i=n.cond:=by
    refine T.ext (FJ _ _ cb).1 cy fun c=>?_;rw[(FJ _ _ cb).2 c];cases hc:n.cond.at' c with
    |true=>obtain⟨x,hx,h1,h2⟩:=dk i Q y c9 c hc;exact List.any_eq_true.2 ⟨x,hx,by rw[bm h1,h2];rfl⟩
    |false=>refine Bool.eq_false_iff.2 fun h=>?_;obtain⟨x,hx,h1⟩:=List.any_eq_true.1 h;rw[cZ]at h1;have:=((ts x).1 (rP.1 bc x hx)).2.2.1.2.2 c h1.2;rw[hc]at this;cases this
   obtain⟨g,cap,cur,cc,ev,eA,b1,_,c0,d3,t,_⟩:=Ow.elem ec (fun{I} c a h=>iD.len c a h) (fun{I J c a} h k=>iD.le h k) (BY B n.kids);rw[c6]at c0;obtain⟨X,W,rfl,b0⟩:=id c0;rw[yO]at ev b1;cases ev
   subst eA;refine ny a9 ?_;refine⟨O,?_⟩;refine Zn (l:=[sD X W n.cond,rD n.cond]) (v:=.agg #[sD X W n.cond,rD n.cond]) rfl (by simpa using cellsU u (.tail _ (.tail _ (.head _))) t) (.inl ⟨jG,rfl⟩) ?_;refine cz ?_;refine cH u [0,1] [] [M8,_] rfl vt rfl (bh.keep (BP b0 (G.le (D k7 d)))) ?_;rintro va Ia qs C f⟨rfl,rfl⟩;simp only[Z3]at C |-;apply bo;simp only[go_sem,E,sD,rD,cL];apply aN;refine dm e1 ?_;exact P (i+1) _ _ O al (by simp only[go_sem,Y,zh,E,sD,rD]) ⟨Ia,M8,_,rfl,C,D d f,B,d9.le f,oA.le ec f⟩
 .have:i=(rl n.kind).length:=by omega
  subst this;have ba:decide (((rl n.kind).length:Int)<((rl n.kind).length:Int))=false:=ao;refine ak u [1,0] fun K=>?_;refine aJ (c:=.st _) K fun I9 K A gb=>?_;refine bd ba ?_;exact az rfl K (r:=[_]) rfl (D k7 (D d A)) ⟨rfl,M8,rfl,d9.le A⟩
def Rr:ay prog 49:=⟨_,func49,rfl,rfl⟩
def Rs:ay prog 52:=⟨_,func52,rfl,rfl⟩
theorem L5:(T.subs ff).length=0:=rfl
theorem KO:T.plc (T.subs ff) ff=0:=rfl
def CB(a:Value)(n:Nat)(x:Nat×Option Addr×Nat×T):St:=⟨dn 20 [(2,.p 2 0),(3,.p 3 0),(8,.v a),(9,.v (E n)),(10,.v (E x.1))],[⟨2,50,[.slice none 0 0,E 0]⟩,⟨3,50,[sD x.2.1 x.2.2.1 x.2.2.2,rD x.2.2.2]⟩]⟩
def Gu(l:List M)(a:PH)(x:Nat×Option Addr×Nat×T)(H:PH):Prop:=∃I,H=U [I]/\Dj [I]/\a.le I/\x.1<=l.length/\bW I (.agg #[sD x.2.1 x.2.2.1 x.2.2.2,rD x.2.2.2]) x.2.2.2/\∀c,x.2.2.2.at' c=(l.take x.1).any (·.cond.at' c)
def Dp{α:Type}{l:List α}{n:α}(h:l[i]?=some n)(p:α->Bool):(l.take (i+1)).any p=((l.take i).any p || p n):=by rw[jQ h,List.any_append];simp
variable{t:Tr}
theorem YY(W:jt I v t):Zu 49 #[v] I [] fun r A B=>B=[]/\∃S:T,bW A r S/\∀c,S.at' c=t.kids.any (·.cond.at' c):=by
 obtain⟨vk,vd,rfl,J,z,Z,X⟩:=id W;obtain⟨R,Q,rfl,_⟩:=id J;obtain⟨da,dc,rfl,_⟩:=id Z;intro hd;refine aP 20 func49 fun w0=>?_;refine ai ?_;refine Zl rfl tK (tG _) ?_;rintro v H2⟨rfl,rfl⟩;refine bJ ?_;refine bV (fun x=>t.kids.length-x.1) (CB (.slice R t.kids.length Q) t.kids.length) (Gu t.kids I) (0,none,0,ff) al (by simp only[go_sem,Y,CB,E,sD,rD,L5,KO]) ⟨I,rfl,hd,aD _,aE _,yE I,fun c=>rfl⟩ ?_;rintro⟨i,sa,P,S⟩ H ⟨I1,rfl,j,a,hi,u,d⟩ f;simp only at hi u d;simp only[CB];rcases aK i t.kids.length with g|V
 .have m:=Z5 i t.kids.length;have e1:=nr z g;obtain⟨n,G⟩:∃n,t.kids[i]?=some n:=⟨_,aY g⟩;obtain⟨b,off,cs,ev,y,k⟩:=Sl.load ag.len (bk.le J a) G;cases ev
  obtain⟨N,F,C,rfl,e,h,_⟩:=y.shape;obtain⟨p,o,rfl,_⟩:=id h;refine dm m ?_;refine⟨O,?_⟩;refine Zm (l:=[.int .u8 n.kind,.string ⟨⟨n.text⟩⟩,.int .i64 n.tok,.int .i64 n.slot,.slice p n.kids.length o,sD F C n.cond,rD n.cond]) (v:=.agg #[.int .u8 n.kind,.string ⟨⟨n.text⟩⟩,.int .i64 n.tok,.int .i64 n.slot,.slice p n.kids.length o,sD F C n.cond,rD n.cond]) rfl (cellsU j (.head _) k) (.inl ⟨b9,rfl⟩) ?_;refine bK ?_;refine eG j rfl qo (qG u e) ?_;rintro v2 A B w s⟨rfl,q⟩;obtain⟨L,K,rfl⟩:=q.shape2;refine dm e1 ?_;exact f (i+1,L,K,S.or n.cond) _ _ bi al (by simp only[go_sem,Y,CB,E,sD,rD]) ⟨A,rfl,w,D a s,g,q,fun c=>by simp only;rw[Dp G,T.or_at u.1 e.1,d]⟩
 .have:i=t.kids.length:=by omega
  subst this;have m:decide (((t.kids.length:Nat):Int)<(t.kids.length:Int))=false:=ao;rw[dK]at d;refine dm m ?_;exact az rfl j (r:=[.agg #[sD sa P S,rD S]]) (by simp only[results49,go_sem,E,sD,rD]) a ⟨rfl,S,u,d⟩
def wG(a b:Value)(n:Nat)(x:Nat×Option Addr×Nat×T):St:=⟨dn 91 [(1,.p 1 0),(2,.v (.bool false)),(3,.p 3 0),(10,.v a),(11,.v (E n)),(12,.v (E x.1))],[⟨1,36,[a,b]⟩,⟨3,50,[sD x.2.1 x.2.2.1 x.2.2.2,rD x.2.2.2]⟩]⟩
def Ct(a b:Value)(nb:Zo)(n:Nat)(x:Nat×Option Addr×Nat×T):St:=⟨dn 91 [(1,.p 1 0),(2,.v (.bool false)),(3,.p 3 0),(5,.p 5 0),(10,.v a),(11,.v (E n)),(12,.v (E x.1)),(35,.v (.bool false))],[⟨1,36,[a,b]⟩,⟨3,50,[sD x.2.1 x.2.2.1 x.2.2.2,rD x.2.2.2]⟩,⟨5,60,nb⟩]⟩
def Cv(b a:Value)(n:Nat)(x:Nat×Option Addr×Nat×T):St:=⟨dn 91 [(1,.p 1 0),(2,.v (.bool false)),(3,.p 3 0),(40,.v a),(41,.v (E n)),(42,.v (E x.1))],[⟨1,36,[b,a]⟩,⟨3,50,[sD x.2.1 x.2.2.1 x.2.2.2,rD x.2.2.2]⟩]⟩
def Cu(b a:Value)(nb:Zo)(n:Nat)(x:Nat×Option Addr×Nat×T):St:=⟨dn 91 [(1,.p 1 0),(2,.v (.bool false)),(3,.p 3 0),(7,.p 7 0),(40,.v a),(41,.v (E n)),(42,.v (E x.1)),(85,.v (.bool false))],[⟨1,36,[b,a]⟩,⟨3,50,[sD x.2.1 x.2.2.1 x.2.2.2,rD x.2.2.2]⟩,⟨7,80,nb⟩]⟩
def YK(t:Tr)(a:PH)(x:Nat×Option Addr×Nat×T)(H:PH):Prop:=∃I,H=U [I]/\Dj [I]/\a.le I/\x.1<=t.diags.length/\bW I (.agg #[sD x.2.1 x.2.2.1 x.2.2.2,rD x.2.2.2]) x.2.2.2/\∀c,x.2.2.2.at' c=(t.kids.any (·.cond.at' c) || (t.diags.take x.1).any (·.cond.at' c))
def Of{m:Nat}(hv:VT F w m t){d:aI}(hd:t.diags[i]?=some d){S:T}(f:S.ok 0)(j:∀c,S.at' c=(t.kids.any (·.cond.at' c) || (t.diags.take i).any (·.cond.at' c))):d.cond.and S=.lf false:=by
 refine zX (hv.sort.2 d (db hd)).1 f fun c ⟨h1,h2⟩=>?_;rw[j c,sY]at h2;have ha:=hv.apart;rw[List.pairwise_append]at ha;rcases h2 with h2|h2
 .obtain⟨n,g,h3⟩:=List.any_eq_true.1 h2;exact ha.2.2 n.cond (List.mem_map.2 ⟨n,g,rfl⟩) d.cond (List.mem_map.2 ⟨d,db hd,rfl⟩) c ⟨h3,h1⟩
 .obtain⟨e,h,h3⟩:=List.any_eq_true.1 h2;have h4:((t.diags.take i++[d]).map (·.cond)).Pairwise fun a b=>∀c,¬(a.at' c=true/\b.at' c=true):=by rw[<-jQ hd];exact ha.2.1.sublist ((List.take_sublist _ _).map _)
  rw[mw,List.pairwise_append]at h4;exact h4.2.2 e.cond (List.mem_map.2 ⟨e,h,rfl⟩) d.cond ao c ⟨h3,h1⟩
theorem YL{m:Nat}(hV:ib I)(hT:jt I v t)(hv:VT FX w m t)(hm:m<=16000):Zu 52 #[v] I [] fun r I2 W=>W=[]/\r=.bool true:=by
 obtain⟨vk,vd,rfl,hK,b7,hD,bb⟩:=id hT;obtain⟨ka,kc,rfl,_⟩:=id hK;obtain⟨da,dc,rfl,_⟩:=id hD;intro hd;refine aP 91 func52 fun w0=>?_;refine ai ?_;refine Zl rfl tK (tG _) ?_;rintro v H2⟨rfl,rfl⟩;refine bJ ?_;apply gO (fun x=>t.kids.length-x.1) (wG (.slice ka t.kids.length kc) (.slice da t.diags.length dc) t.kids.length) (Gu t.kids I) (fun x H=>x.1=t.kids.length/\Gu t.kids I x H) (0,none,0,ff)
 .exact al
 .exact(by simp only[go_sem,Y,wG,E,sD,rD,L5,KO])
 .exact⟨I,rfl,hd,aD _,aE _,yE I,fun c=>rfl⟩
 .rintro⟨i,sa,sk,S⟩ H ⟨I1,rfl,F,o,hi,V,f⟩ s am;simp only at hi V f;simp only[wG];rcases aK i t.kids.length with a|b1
  rotate_left
  .have:i=t.kids.length:=by omega
   subst this;have a5:decide (((t.kids.length:Nat):Int)<(t.kids.length:Int))=false:=ao;apply cE 7;simp only[go_sem,a5,E];exact am (t.kids.length,sa,sk,S) _ _ al (by simp only[go_sem,Y,wG,E,sD,rD]) ⟨rfl,I1,rfl,F,o,aR _,V,f⟩
  have a5:=Z5 i t.kids.length;have e1:=nr b7 a;obtain⟨n,hn⟩:∃n,t.kids[i]?=some n:=⟨_,aY a⟩;obtain⟨a1,bx,bs,b6,a2⟩:i=0/\n.kind=1/\n.slot=0/\VN FX tt n/\(iK [n]).Pairwise uC:=by
   rcases hv.kids with h|⟨n',h,h1,h2,h3,h4,_⟩
   .rw[h]at a;cases a
   .have a1:i=0:=by rw[h]at a;simp at a;exact a
    subst a1;rw[h]at hn;obtain rfl:n'=n:=by simpa using hn
    exact⟨rfl,h1,h2,h3,h4⟩
  have b3:mO n<=16001:=by have:=r0 (db hn);have:=hv.dep;omega
  obtain⟨b,off,cs,ev,R,z⟩:=Sl.load ag.len (bk.le hK o) hn;cases ev
  obtain⟨vkn,na,nk,rfl,g,ac,_⟩:=R.shape;obtain⟨nka,nkc,rfl,_⟩:=id ac;have f18:decide ((i:Int)>0)=false:=ch O;have f22:((n.kind:Int) != 1)=false:=by rw[bx];rfl
  have f27:(n.slot != 0)=false:=by rw[bs];rfl
  refine dm a5 ?_;refine⟨O,?_⟩;refine Zm (l:=[.int .u8 n.kind,.string ⟨⟨n.text⟩⟩,.int .i64 n.tok,.int .i64 n.slot,.slice nka n.kids.length nkc,sD na nk n.cond,rD n.cond]) (v:=.agg #[.int .u8 n.kind,.string ⟨⟨n.text⟩⟩,.int .i64 n.tok,.int .i64 n.slot,.slice nka n.kids.length nkc,sD na nk n.cond,rD n.cond]) rfl (cellsU F (.head _) z) (.inl ⟨b9,rfl⟩) ?_;refine bK ?_;apply uH (fun _:Unit=>Ct (.slice (some ⟨b,off,none⟩) t.kids.length kc) (.slice da t.diags.length dc) [.int .u8 n.kind,.string ⟨⟨n.text⟩⟩,.int .i64 n.tok,.int .i64 n.slot,.slice nka n.kids.length nkc,sD na nk n.cond,rD n.cond] t.kids.length (i,sa,sk,S)) (fun _ H=>∃I,H=U [I]/\Dj [I]/\I1.le I)
  .intro hg;have fin {J Z:PH} {r:Nat} (hJ:I1.le J) (hM:jD prog Z r 3 (fun _ _=>False)):=YM (aL n.kids+1) (n:=n) (eF _) (ag.le R hJ) (Fq J) b6 (hV.le (D o hJ)) (lev:=1) (r:=r) (Z:=Z) (L:=[]) O ⟨_,hM,fun _ _ h=>h.elim⟩ (by rw[aQ];simpa[iK]using a2);refine CX mixed [0,1,2,3,4,5,6,7,8,9,10,11,12,13] 14 15 [16,17,18] [16,17,18] [] [] rfl rfl ?_;apply nz;simp only[go_sem,E,sD,rD,f18,f22,f27];refine xh ?_ ?_
   .refine cz ?_;refine dU F rfl xP (bh.keep (zf _)) ?_;rintro va Ia W P k⟨rfl,rfl⟩;refine cz ?_;refine CV 3 P rfl rfl fun r Mm q a3=>?_;refine cz ?_;refine cH q [0] [Mm] [] rfl AA rfl (fin k a3) ?_;rintro vc Ic W u p⟨rfl,Mc,rfl,_⟩;simp only[Z3]at u |-;apply bo;simp only[go_sem,E,sD,rD,cL];apply aN;refine ak u [0] fun y=>?_;refine aJ (c:=.st _) y fun I9 y K b8=>?_;exact hg () _ _ ⟨I9,rfl,y,D k (D p K)⟩ al (by simp only[go_sem,Y,Ct,E,sD,rD])
   .refine cz ?_;refine CV 3 F rfl rfl fun r Mm P a3=>?_;refine cz ?_;refine cH P [0] [] [Mm] rfl xP rfl (bh.keep (zf _)) ?_;rintro va Ib W q A⟨rfl,rfl⟩;simp only[Z3]at q |-;refine cz ?_;refine cH q [0] [Mm] [] rfl AA rfl (fin A a3) ?_;rintro vc Ic W u p⟨rfl,Mc,rfl,_⟩;simp only[Z3]at u |-;apply bo;simp only[go_sem,E,sD,rD,cL];apply aN;refine ak u [0] fun y=>?_;refine aJ (c:=.st _) y fun I9 y K b8=>?_;exact hg () _ _ ⟨I9,rfl,y,D A (D p K)⟩ al (by simp only[go_sem,Y,Ct,E,sD,rD])
  rintro⟨⟩ H ⟨I2,rfl,Q,e⟩;simp only[Ct];refine dm e1 ?_;exact s (i+1,na,nk,n.cond) _ _ bi al (by simp only[go_sem,Y,wG,E,sD,rD]) ⟨I2,rfl,Q,D o e,a,g.le e,fun c=>by simp only;rw[Dp hn,a1];rfl⟩
 rintro⟨i,sa,sk,S⟩ H ⟨hi,I1,rfl,F,o,_,V,f⟩;simp only at hi V f;subst hi;rw[dK]at f;simp only[wG];refine bK ?_;refine bV (fun x=>t.diags.length-x.1) (Cv (.slice ka t.kids.length kc) (.slice da t.diags.length dc) t.diags.length) (YK t I) (0,sa,sk,S) al (by simp only[go_sem,Y,Cv,E,sD,rD]) ⟨I1,rfl,F,o,aE _,V,fun c=>by rw[f];simp⟩ ?_;rintro⟨i,sa,sk,S⟩ H ⟨I2,rfl,Q,e,hi,V,f⟩ s;simp only at hi V f;simp only[Cv];rcases aK i t.diags.length with a|b1
 .have a4:=Z5 i t.diags.length;have e1:=nr bb a;obtain⟨d,C⟩:∃d,t.diags[i]?=some d:=⟨_,aY a⟩;have a9:=db C;obtain⟨b,off,cs,ev,R,z⟩:=Sl.load bj.len (SlE.le hD e) C;cases ev
  obtain⟨ea,ek,rfl,g⟩:=id R;obtain⟨ba,bc⟩:=hv.code d a9;have b0:=(hv.sort.2 d a9).2;refine dm a4 ?_;refine⟨O,?_⟩;refine Zm (l:=[.int .u8 d.code,.int .i64 d.tok,sD ea ek d.cond,rD d.cond]) (v:=.agg #[.int .u8 d.code,.int .i64 d.tok,sD ea ek d.cond,rD d.cond]) rfl (cellsU Q (.head _) z) (.inl ⟨gh,rfl⟩) ?_;refine bK ?_;apply uH (fun _:Unit=>Cu (.slice ka t.kids.length kc) (.slice (some ⟨b,off,none⟩) t.diags.length dc) [.int .u8 d.code,.int .i64 d.tok,sD ea ek d.cond,rD d.cond] t.diags.length (i,sa,sk,S)) (fun _ H=>∃I,H=U [I]/\Dj [I]/\I2.le I)
  .intro hg;have f49:decide ((d.code:Int)<10)=false:=ch O;have f53:decide ((d.code:Int)>12)=false:=ch O;have f58:decide (d.tok<0)=false:=ch O;have f63:decide (d.cond=.lf false)=false:=ch b0;have f69:decide (d.cond.and S=.lf false)=true:=bm (Of hv C V.1 f);refine bG [0,1,2,3,4,5,6,7,8,9,10,11,12,13,14,15,16,17,18,19,20,21,22,23,24,25,26,27,28,29,30,31,32,33,34,35,36,37,38] [33] [] ?_;apply bo;simp only[go_sem,E,sD,rD,f49,f53,f58];refine dU Q rfl jj (bh.keep (ji g)) ?_;rintro va Ia W P k⟨rfl,rfl⟩;refine ny f63 ?_;refine dU P rfl EF (EZ (g.le k) (V.le k)) ?_;rintro vb Ib W q A⟨rfl,rfl⟩;have X:=D k A;rcases jA i with h0|h0
   .have f73:decide ((i:Int)>0)=false:=ch O;apply bo;simp only[go_sem,E,sD,rD,f69,f73,cL];apply aN;exact hg () _ _ ⟨Ib,rfl,q,X⟩ al (by simp only[go_sem,Y,Cu,E,sD,rD])
   obtain⟨j,hj⟩:∃j,i=j+1:=⟨i-1,O⟩;have f73:decide ((i:Int)>0)=true:=bm O;have ej:IntKind.i64.wrap ((i:Int)-1)=(j:Int):=by
    rw[show (i:Int)-1=(j:Int) by omega];rcases j with _|j'
    .exact wrap64 O
    .exact nr bb O
   obtain⟨B,aS⟩:∃B,t.diags[j]?=some B:=⟨_,aY O⟩;obtain⟨b2,off2,cs2,ev2,an,aa⟩:=Sl.load bj.len (SlE.le hD (D e X)) aS;cases ev2
   obtain⟨pa,pk,rfl,a6⟩:=id an;apply bo;simp only[go_sem,E,sD,rD,f69,f73,ej,cL];refine⟨O,?_⟩;refine Zn (l:=[.int .u8 B.code,.int .i64 B.tok,sD pa pk B.cond,rD B.cond]) (v:=.agg #[.int .u8 B.code,.int .i64 B.tok,sD pa pk B.cond,rD B.cond]) rfl (cellsU q (.head _) aa) (.inl ⟨gh,rfl⟩) ?_;refine cz ?_;refine dU q rfl AE (Aq an (R.le X)) ?_;rintro vc Ic W u p⟨rfl,rfl⟩;have f83:decide (tC B d>=0)=false:=by
    have h1:cT B d=true:=by
     have:=List.pairwise_iff_getElem.1 hv.sort.1 j i (by rw[eO];omega) (by rw[eO];exact a) O;rw[List.getElem_map,List.getElem_map]at this;have e1:t.diags[j]'(by (omega))=B:=by rw[aY O]at aS;exact cX aS
     have e2:t.diags[i]=d:=by rw[aY a]at C;exact cX C
     rw[e1,e2]at this;exact this
    rw[<-HT]at h1;have:=lN h1;exact ch O
   refine ny f83 ?_;apply aN;exact hg () _ _ ⟨Ic,rfl,u,D X p⟩ al (by simp only[go_sem,Y,Cu,E,sD,rD])
  rintro⟨⟩ H ⟨I3,rfl,b5,N⟩;simp only[Cu];refine bK ?_;refine eG b5 rfl qo (qG (V.le N) (g.le N)) ?_;rintro v4 I4 W b4 a0⟨rfl,a7⟩;obtain⟨za,zk,rfl⟩:=a7.shape2;refine dm e1 ?_;exact s (i+1,za,zk,S.or d.cond) _ _ bi al (by simp only[go_sem,Y,Cv,E,sD,rD]) ⟨I4,rfl,b4,D e (D N a0),a,a7,fun c=>by simp only;rw[Dp C,T.or_at V.1 g.1,f,Bool.or_assoc]⟩
 .have:i=t.diags.length:=by omega
  subst this;have a4:decide (((t.diags.length:Nat):Int)<(t.diags.length:Int))=false:=ao;refine dm a4 ?_;exact az rfl Q (r:=[_]) rfl e ⟨rfl,rfl⟩
def Jd:ay prog 70:=⟨_,func70,rfl,rfl⟩
def oP:ay prog 67:=⟨_,func67,rfl,rfl⟩
def Ja:ay prog 66:=⟨_,func66,rfl,rfl⟩
def Rv:ay prog 65:=⟨_,func65,rfl,rfl⟩
def ID:ay prog 17:=⟨_,func17,rfl,rfl⟩
def Mu:au:=[102,110,32,109,97,105,110,32,40,32,41,32,123,32,112,114,105,110,116,32,49,32,43,32,50,32,42,32,51,32,59,32,125]
def Mv:au:=[118,97,114,32,120,32,58,32,105,110,116,32,98,111,111,108,32,59]
def x4:List (Nat×au):=[(1,[102,110]),(1,[109,97,105,110]),(3,[40]),(3,[41]),(3,[123]),(1,[112,114,105,110,116]),(2,[49]),(3,[43]),(2,[50]),(3,[42]),(2,[51]),(3,[59]),(3,[125])]
def oV:List (Nat×au):=[(1,[118,97,114]),(1,[120]),(3,[58]),(1,[105,110,116]),(1,[98,111,111,108]),(3,[59])]
def Ut:nQ Mu=some x4:=by decide +kernel
def Uu:nQ Mv=some oV:=by decide +kernel
def Wq:(x4.map dC).map refit=wz:=by
 have h:x4.all (fun x=>mP x.1 x.2)=true:=by decide +kernel
 have e:(x4.map dC).map refit=x4.map dC:=by rw[pF];refine nu fun x a=>?_;have:=List.all_eq_true.1 h x a;show refit (dC x)=dC x;unfold refit dC;simp only[this]
 rw[e];rfl
def qZ:List Syn.Tok:=((oV.map dC).set 3 { dC (1,[105,110,116])with cond:=iO }).set 4 { dC (1,[98,111,111,108])with cond:=iO.not }
def Wr:qZ.map refit=Ge:=by
 have h:oV.all (fun x=>mP x.1 x.2)=true:=by decide +kernel
 have b:∀x∈oV,mP x.1 x.2=true:=List.all_eq_true.1 h;have e:∀t∈qZ,refit t=t:=by
  intro t ht;have:∃x∈oV,t.kind=x.1/\t.text=x.2/\t.fits=true:=by simp only[qZ,oV,dC,iq,List.map_nil,List.set_cons_succ,zv,ku,dJ,or_false]at ht |-;rcases ht with h|h|h|h|h|h<;>subst h<;>simp
  obtain⟨x,a,e1,e2,c⟩:=this;unfold refit;have:=b x a;rw[<-e1,<-e2]at this;rw[this,<-c]
 rw[show qZ.map refit=qZ.map id from nu e,List.map_id];rfl
variable{l:List (Nat×au)}
def Js{s:au}(hs:s.length<2^40)(h:ib I)(g:nQ s=some l):Zu 70 #[.string ⟨⟨s⟩⟩] I [] fun r f d=>∃A lv,r=.agg #[lv,.slice none 0 0]/\d=[A]/\iF f A lv (l.map dC):=by intro hd;refine aP 12 func70 fun w0=>?_;refine ai ?_;refine eG hd rfl Jf (JS hs h) fun v f d c a b=>?_;unfold zC at b;rw[g]at b;obtain⟨A,k,rfl,rfl,e⟩:=b;obtain⟨j,i,rfl⟩:=e.shape;refine ai ?_;exact az rfl c (r:=[.agg #[.slice j (l.map dC).length i,.slice none 0 0]]) (by simp only[results70,go_sem,E]) a ⟨A,_,rfl,rfl,e⟩
def oQ{H:PH}{cs:Zo}{n k:M}(s:ag H cs n)(o:n.kids[i]?=some k)(hi:i<2^40):Zv 67 #[.agg cs.toArray,E i] H fun r H2=>(∃f,r=.agg f.toArray/\ag H f k)/\H2=H:=by
 obtain⟨x,a,C,rfl,hr,d,A⟩:=s.shape;obtain⟨z,y,rfl,_⟩:=id d;have t:=(List.getElem?_eq_some_iff.1 o).1;have u:=Z5 i n.kids.length;obtain⟨b,off,B,rfl,e,c⟩:=Sl.load ag.len d o;obtain⟨w,h,g,rfl,p,m,q⟩:=e.shape;obtain⟨la,j,rfl,_⟩:=id m;refine aP 16 func67 fun w0=>?_
 try simp only[E,sD,rD]
 refine dB u ?_
 try refine⟨O,?_⟩
 refine Zm (l:=[.int .u8 k.kind,.string ⟨⟨k.text⟩⟩,.int .i64 k.tok,.int .i64 k.slot,.slice la k.kids.length j,sD h g k.cond,rD k.cond]) (v:=.agg #[.int .u8 k.kind,.string ⟨⟨k.text⟩⟩,.int .i64 k.tok,.int .i64 k.slot,.slice la k.kids.length j,sD h g k.cond,rD k.cond]) rfl c (.inl ⟨b9,rfl⟩) ?_;refine bK ?_;exact aX (r:=[.agg #[.int .u8 k.kind,.string ⟨⟨k.text⟩⟩,.int .i64 k.tok,.int .i64 k.slot,.slice la k.kids.length j,sD h g k.cond,rD k.cond]]) (by simp only[results67,go_sem,E,sD,rD]) ⟨⟨_,rfl,e⟩,rfl⟩
def Lb{H:PH}{k:M}(w:jt H v t)(s:t.kids[0]?=some k):Zv 66 #[v] H fun r H2=>(∃b,r=.agg b.toArray/\ag H b k)/\H2=H:=by obtain⟨y,z,rfl,c,u,f,_⟩:=w;obtain⟨m,l,rfl,_⟩:=id c;obtain⟨B,A,rfl,_⟩:=id f;have q:ag H [.int .u8 0,.string ⟨⟨[]⟩⟩,.int .i64 0,.int .i64 0,.slice m t.kids.length l,.slice none 0 0,E 0] ⟨0,[],0,0,t.kids,.lf false⟩:=ag.mk (n:=⟨0,[],0,0,t.kids,.lf false⟩) (a:=none) (k:=0) (pd H false) c u;refine aP 7 func66 fun w0=>?_;refine ai ?_;refine Zl rfl oP (oQ (i:=0) q s af) ?_;rintro v H2⟨⟨b,rfl,d⟩,rfl⟩;obtain⟨x,h,g,rfl,o,e,p⟩:=d.shape;obtain⟨la,j,rfl,_⟩:=id e;refine bK ?_;exact aX (r:=[.agg #[.int .u8 k.kind,.string ⟨⟨k.text⟩⟩,.int .i64 k.tok,.int .i64 k.slot,.slice la k.kids.length j,sD h g k.cond,rD k.cond]]) (by simp only[results66,go_sem,E,sD,rD]) ⟨⟨_,rfl,d⟩,rfl⟩
def UE{lv:Value}(h:Sl cU I lv (l.map dC))(c:l.length<=256)(b:∀x∈l,x.2.length<2^40):oz I (.agg #[lv,.slice none 0 0]) (l.map dC):=by
 refine⟨⟨lv,none,0,0,rfl,h⟩,fun t ht=>?_,by rw[eO];omega,fun t ht=>?_⟩
 .obtain⟨x,_,rfl⟩:=List.mem_map.1 ht;exact trivial
 .obtain⟨x,a,rfl⟩:=List.mem_map.1 ht;exact b x a
def VJ{s:au}(hs:s.length<2^40)(p:ib I)(F:nQ s=some l)(G:l.length<=256)(i:∀x∈l,x.2.length<2^40):Zu 65 #[.string ⟨⟨s⟩⟩] I [] fun r w g=>g=[]/\GE (l.map dC) 0 r w:=by intro hd;refine aP 6 func65 fun w0=>?_;refine ai ?_;refine eG hd rfl Jd (Js hs p F) ?_;rintro v w g n d⟨A,lv,rfl,rfl,u⟩;obtain⟨P,N,rfl⟩:=u.shape;refine ak n [0] fun e=>?_;refine aJ e fun Q e b o=>?_;have H:Sl cU Q (.slice P (l.map dC).length N) (l.map dC):=i6 (R:=cU) (fun{I J c a} h k=>cU.le h k) u b o;refine ai ?_;refine eG e rfl Er (Fi (c:=0) (p.le (D d b)) (UE H G i) af) ?_;rintro v2 S g m f⟨rfl,t,K,q,L⟩;obtain⟨_,_,rfl,⟨C,B,rfl,_⟩,_,⟨z,y,rfl,_⟩,_⟩:=id q;refine ai ?_;exact az rfl m (r:=[.agg #[.slice C (prj (fT 0) t).kids.length B,.slice z (prj (fT 0) t).diags.length y]]) (by simp only[results65,go_sem,E]) (D d (D b f)) ⟨rfl,t,K,q,L⟩
def md{H:PH}{cs:Zo}{k:Nat}{t:au}{s:Int}{ks:List M}{d:T}(h:ag H cs ⟨k,t,o,s,ks,d⟩):∃b vc a n,cs=[.int .u8 k,.string ⟨⟨t⟩⟩,.int .i64 o,.int .i64 s,.slice b ks.length vc,sD a n d,rD d]/\bk H (.slice b ks.length vc) ks/\bW H (.agg #[sD a n d,rD d]) d:=by obtain⟨f,a,n,e,hr,c,_⟩:=h.shape;obtain⟨b,vc,rfl,_⟩:=id c;exact⟨b,vc,a,n,e,c,hr⟩
def U8:M:=⟨13,[42],9,1,[⟨15,[50],8,0,[],tt⟩,⟨15,[51],10,1,[],tt⟩],tt⟩
def U5:M:=⟨13,[43],7,0,[⟨15,[49],6,0,[],tt⟩,U8],tt⟩
def Vb:M:=⟨11,[],5,0,[U5],tt⟩
def U6:M:=⟨6,[],4,2,[Vb],tt⟩
def U7:M:=⟨3,[109,97,105,110],1,0,[U6],tt⟩
def Va:M:=⟨1,[],-1,0,[U7],tt⟩
def Kp:M:=⟨5,[105,110,116],3,0,[],iO⟩
def Ko:M:=⟨5,[98,111,111,108],4,0,[],iO.not⟩
def Vd:M:=⟨2,[120],1,0,[Kp,Ko],tt⟩
def U9:M:=⟨1,[],-1,0,[Vd],tt⟩
def Pk:iJ 1 0=iO:=by decide +kernel
set_option maxRecDepth 4000 in
theorem Hj{I:PH}(hV:ib I):Zu 17 #[] I [] fun r I2 q=>q=[]/\r=.bool true:=by
 intro hd;refine aP 157 func17 fun w0=>?_;refine ai ?_;refine eG hd rfl Rv (VJ (s:=Mu) af hV Ut af af) ?_;rintro v I1 q bb z⟨rfl,t,hF,P,hB⟩;rw[Wq]at hF;have hp:=VV (Ap _ _) hF (DJ 0);rw[hp]at P;have P:jt I1 v ⟨[Va],[]⟩:=P;obtain⟨vk,vd,rfl,hk,dT,a4,d5⟩:=id P;obtain⟨ka,kc,rfl,_⟩:=id hk;obtain⟨da,dc,rfl,_⟩:=id a4;simp only[bl,bg]at P hk a4 |-;refine ai ?_;refine Zl rfl Ja (Lb (P.le (iL bb)) rfl) ?_;rintro v H2⟨⟨c1,rfl,u⟩,rfl⟩;obtain⟨pa,pc,pa2,pn,rfl,dx,dw⟩:=md u;refine bK ?_;refine Zl rfl oP (oQ (i:=0) u rfl af) ?_;rintro v H2⟨⟨c2,rfl,b3⟩,rfl⟩;obtain⟨fa,fc,fa2,fn,rfl,d4,d3⟩:=md b3;refine bK ?_;refine Zl rfl oP (oQ (i:=0) b3 rfl af) ?_;rintro v H2⟨⟨c3,rfl,b2⟩,rfl⟩;obtain⟨ba,bc,ba2,bn,rfl,ea,d9⟩:=md b2;refine bK ?_;refine Zl rfl oP (oQ (i:=0) b2 rfl af) ?_;rintro v H2⟨⟨c4,rfl,bx⟩,rfl⟩;obtain⟨ra,rc,ra2,rn,rfl,dk,dd⟩:=md bx;refine bK ?_;refine Zl rfl oP (oQ (i:=0) bx rfl af) ?_;rintro v H2⟨⟨c5,rfl,K⟩,rfl⟩;obtain⟨ia,ic,ia2,inn,rfl,d0,b8⟩:=md K;refine bK ?_;refine Zl rfl oP (oQ (i:=0) u rfl af) ?_;rintro v H2⟨⟨c6,rfl,cr⟩,rfl⟩;obtain⟨xa6,xb6,xc6,xd6,rfl,_,_⟩:=md cr;refine bK ?_;refine Zl rfl oP (oQ (i:=0) u rfl af) ?_;rintro v H2⟨⟨c7,rfl,cp⟩,rfl⟩;obtain⟨xa7,xb7,xc7,xd7,rfl,_,_⟩:=md cp;refine bK ?_;refine Zl rfl oP (oQ (i:=1) K rfl af) ?_;rintro v H2⟨⟨c8,rfl,cn⟩,rfl⟩;obtain⟨xa8,xb8,xc8,xd8,rfl,_,_⟩:=md cn;refine bK ?_;refine Zl rfl oP (oQ (i:=1) K rfl af) ?_;rintro v H2⟨⟨c9,rfl,cm⟩,rfl⟩;obtain⟨xa9,xb9,xc9,xd9,rfl,_,_⟩:=md cm;refine bK ?_;refine Zl rfl Jb (Ij b8) ?_;rintro v H2⟨rfl,rfl⟩;refine bK ?_
 refine eG bb rfl Jc (DI (on:=1) (off:=0) af af) ?_;rintro v I2 q cf y⟨rfl,o⟩;rw[Pk]at o;obtain⟨ua,uk,rfl⟩:=o.shape2;refine bK ?_;refine eG cf rfl Jd (Js (s:=Mv) af (hV.le (D z y)) Uu) ?_;rintro v I3 q cb f⟨A,lv,rfl,rfl,hA⟩;obtain⟨g,cap,cur,cc,rfl,rfl,cj,ci,d7,_,Z⟩:=hA.part (fun{I} c a h=>cU.len c a h) (fun{I J c a} h k=>cU.le h k) (i:=3) (x:=dC (1,[105,110,116])) rfl 5 2 af;have aS:(oV.map dC).length=6:=rfl;rw[aS]at cj;obtain⟨p1,f1,l1,a1,k1,rfl,b7,_⟩:=ci;apply RG;simp only[go_sem,sD,rD,E,aS,dP];refine k0 cb rfl rfl rfl rfl rfl (by exact qW) (by simp;omega) fun a9=>?_;have N:=Z I3 [sD ua uk iO,rD iO] { dC (1,[105,110,116])with cond:=iO } (aD _) ao ⟨p1,f1,l1,ua,uk,by simp[bN,sD,rD,dC],b7,o.le f⟩;simp only[sD,rD,E]at N;generalize C:sg g _=A2 at a9 N |-;clear C;refine bK ?_;refine bG [0,1,2,3,4,5,6] [] [] ?_;refine cz ?_;refine cH a9 [0] [] [A2] rfl qp rfl (qA (o.le f)) ?_;rintro v I4 q a7 m⟨rfl,bs⟩;simp only[Z3]at a7 |-;obtain⟨na,nk,rfl⟩:=bs.shape2;obtain⟨g2,cap2,cur2,cc2,ev,rfl,an,am,cl,_,F⟩:=Ow.part (R:=cU) (iF.le N m) (fun{I} c a h=>cU.len c a h) (fun{I J c a} h k=>cU.le h k) (i:=4) (x:=dC (1,[98,111,111,108])) rfl 5 2 af;cases ev
 have aa:((oV.map dC).set 3 { dC (1,[105,110,116])with cond:=iO }).length=6:=rfl;rw[aa]at an;obtain⟨p2,f2,l2,a2,k2,rfl,b6,_⟩:=am;refine cz ?_;refine cY a7 rfl rfl rfl rfl rfl rfl (by exact qW) (by simp;omega) fun a6=>?_;have L:=F I4 [sD na nk iO.not,rD iO.not] { dC (1,[98,111,111,108])with cond:=iO.not } (aD _) ao ⟨p2,f2,l2,na,nk,by simp[bN,sD,rD,dC],b6,bs⟩;simp only[sD,rD,E]at L;generalize C:sg _ _=A3 at a6 L |-;clear C;refine cz ?_;apply aN;refine ak a6 [0] fun H=>?_;refine aJ (c:=.st _) H fun I5 H j cx=>?_;have hS:Sl cU I5 (.slice (some ⟨g,0,none⟩) 6 cap) qZ:=i6 (R:=cU) (fun{I J c a} h k=>cU.le h k) L j cx;have S:=D z (D y (D f (D m j)));have cs:oz I5 (.agg #[.slice (some ⟨g,0,none⟩) 6 cap,.slice none 0 0]) qZ:=by
  refine⟨⟨_,none,0,0,rfl,hS⟩,fun t ht=>?_,by decide,fun t ht=>?_⟩
  .simp only[qZ,oV,dC,iq,List.map_nil,List.set_cons_succ,zv,ku,dJ,or_false]at ht;rcases ht with h|h|h|h|h|h<;>subst h<;>first|exact trivial|exact⟨by decide,by decide,by decide,trivial,trivial⟩
  .simp only[qZ,oV,dC,iq,List.map_nil,List.set_cons_succ,zv,ku,dJ,or_false]at ht;rcases ht with h|h|h|h|h|h<;>subst h<;>decide
 refine bK ?_;refine bG [3,0,1,2,4] [] [] ?_;refine cz ?_;refine dU H rfl xP (bh.keep (zf _)) ?_;rintro v I6 q ca e⟨rfl,rfl⟩;refine cz ?_;refine dU ca rfl Eu (DW (hV.le (D S e)) (cs.le e) (Fq I6)) ?_;rintro v I7 q a5 w⟨rfl,t2,b4,p,ec⟩;rw[Wr]at b4;have b5:=PX b4;subst b5;have p:jt I7 v ⟨[U9],[]⟩:=p;obtain⟨wk,wd,rfl,W,_,X,_⟩:=id p;obtain⟨wka,wkc,rfl,_⟩:=id W;obtain⟨wda,wdc,rfl,_⟩:=id X;simp only[bl,bg]at p W X |-;refine cz ?_;apply aN;refine bK ?_;refine Zl rfl Ja (Lb (p.le (iL a5)) rfl) ?_;rintro v H2⟨⟨d1,rfl,B⟩,rfl⟩;obtain⟨qa,qc,qa2,qn,rfl,dv,ds⟩:=md B;refine bK ?_;refine Zl rfl oP (oQ (i:=0) B rfl af) ?_;rintro v H2⟨⟨d2,rfl,hd2c⟩,rfl⟩;obtain⟨xa,xc,xa2,xn,rfl,V,U⟩:=md hd2c;obtain⟨b0,o0,cs0,rfl,aq,a3⟩:=Sl.load ag.len V (i:=0) (x:=Kp) rfl;obtain⟨b1,o1,cs1,e1,ap,a0⟩:=Sl.load ag.len V (i:=1) (x:=Ko) rfl;cases e1
 obtain⟨ya,yc,Q,yn,rfl,c0,T⟩:=md aq;obtain⟨za,zc,za2,zn,rfl,cA,cy⟩:=md ap;have m1:=a3.get (i:=1) rfl;have m5:=a3.sub 5 2 ao;have w1:=a0.get (i:=1) rfl;have w2:=a0.get (i:=2) rfl;rw[tq]at T U w1 w2;refine bK ?_;refine iH mixed [0,1,2,3,4,5,6,7,8,9,10,11,12,13,14,15,16,17,18,19,20,21,22,23,24,25,26,27,28,29,30,31,32,33,34,35,36,37,38,39,40,41,42,43,44,45,46,47,48,49,50,51,52,53,54,55,56,57,58,59] [26,34,43,51] [] ae rfl ?_;refine cz ?_;refine Zn (l:=[.string ⟨⟨[105,110,116]⟩⟩]) rfl (by simpa using m1) (.inr ⟨gF,rfl⟩) ?_;refine cz ?_;refine Zn (l:=[sD Q yn iO,rD iO]) (v:=.agg #[sD Q yn iO,rD iO]) rfl (by simpa using m5) (.inl ⟨jG,rfl⟩) ?_;refine cz ?_;refine dU a5 rfl vt (bh.keep (BP T (o.le (D f (D m (D j (D e w))))))) ?_;rintro v8 I8 q n b⟨rfl,rfl⟩;refine cz ?_;refine Zn (l:=[.string ⟨⟨[98,111,111,108]⟩⟩]) rfl (cellsU n (.head _) (by simpa using w1.le b)) (.inr ⟨gF,rfl⟩) ?_;refine cz ?_;refine Zn (l:=[.int .i64 4]) rfl (cellsU n (.head _) (by simpa using w2.le b)) (.inr ⟨eR,rfl⟩) ?_;refine cz ?_;refine dU n rfl Jb (bh.keep (Ij (U.le b))) ?_;rintro v9 I9 q ac G⟨rfl,rfl⟩;refine cz ?_;apply aN;refine ai ?_;exact az rfl ac (r:=[.bool true]) rfl (D S (D e (D w (D b G)))) ⟨rfl,rfl⟩
def MQ(l:List It)(v:Value)(b:PH):Prop:=v=.tuple #[.agg #[.slice none 0 0,.slice none 0 0],.bool false]\/∃lv,v=.tuple #[lv,.bool true]/\oz b lv (l.map fU)/\l.length<400/\∃a n k g,lv=.agg #[.slice a n k,g]/\n<=k
def Sy{vl vw:Value}{l:List It}{w:List (Nat×Nat)}(h:pQ I vl l)(g:gE I vw w)(hb:∀x∈l,zB x)(o:l.length<2^40)(m:w.length<2^40):Zu 32 #[vl,vw] I [] fun r j f=>f=[]/\MQ l r j:=by
 obtain⟨la,y,rfl,_⟩:=id h;obtain⟨s,q,rfl,_⟩:=id g;intro hd;refine aP 20 func32 fun w0=>?_;refine ai ?_;refine eG hd rfl QB (UF (most:=8) h g hb o m af) ?_;rintro v j f c b⟨rfl,d⟩;rcases d with ⟨lv,rfl,rfl⟩|⟨lv,a,n,z,u,rfl,i,e⟩
 .refine ai ?_;exact az rfl c (r:=[.agg #[.slice none 0 0,.slice none 0 0],.bool false]) (by simp only[results32,go_sem,E]) b ⟨rfl,.inl rfl⟩
 .obtain⟨⟨t,ga,gn,gc,rfl,p⟩,h2,h3,h4⟩:=id i;obtain⟨ta,k,rfl,_⟩:=id p;refine ai ?_;exact az rfl c (r:=[.agg #[.slice ta (l.map fU).length k,.slice ga gn gc],.bool true]) (by simp only[results32,go_sem,E]) b ⟨rfl,.inr ⟨_,rfl,i,e⟩⟩
def K0{Z:List Syn.Tok}(b:∀t∈Z,t.text.length<2^40){k:Nat}(a:k≠0)(i:Nat)(h:K (Z.map refit) i=k):FX k (X (Z.map refit) i):=by
 unfold K at h;unfold X;unfold fu at h |-;rw[iZ]at h |-;cases ht:Z[i]? with
 |none=>rw[ht]at h;exact absurd h.symm a
 |some t=>
  rw[ht]at h;simp only[df]at h |-;cases hf:(refit t).fits with
  |false=>rw[hf]at h;exact absurd h.symm a
  |true=>rw[hf]at h;simp only[cu]at h |-;subst h;exact⟨hf,b t (db ht)⟩
end Go.Proofs.YtfaclfkpnmcmlaaGreatDoor
namespace Syn
open Dg
section
variable {c c':aF} {Z:Zs}
end
end Syn
namespace Go.Sx
open Go
section
variable {C:Cx} {k:List Item} {σ:St} {H:PH}
def rQ.imp{P:Program}{ol:Zq}{o:Oper}{K K':St->PH->Prop}(f:∀σ H,K σ H->K' σ H)(h:rQ P ol o K σ H):rQ P ol o K' σ H:=by
 rcases h with ⟨a,b⟩|⟨a,b⟩
 .exact .inl ⟨a,f _ _ b⟩
 .refine .inr ⟨a,?_⟩;rcases b with ⟨sv,b,c⟩|⟨d,T,cs,b,c,e⟩|⟨x,off,cs,b,c⟩|⟨b,c⟩
  .exact .inl ⟨sv,b,f _ _ c⟩
  .exact .inr (.inl ⟨d,T,cs,b,c,f _ _ e⟩)
  .exact .inr (.inr (.inl ⟨x,off,cs,b,f _ _ c⟩))
  .exact .inr (.inr (.inr ⟨b,c.mono fun sv H2 g=>f _ _ g⟩))
end
section
variable {C:Cx} {k:List Item} {σ:St} {H:PH}
end
def rR(P:Program)(l:Nat)(args:Array Value)(H:PH)(Φ:Value->PH->Prop):Prop:=
 ∀w,Sub H w->YieldAt Fence.wide 0 P l args w fun e w2=>match e with
  | .returned v=>∃H2,cP H w H2 w2/\Φ v H2
  |_=>False
variable{Φ:Value->PH->Prop}{args:Array Value}{l:Nat}
def rR.imp{P:Program}{H:PH}{Ψ:Value->PH->Prop}(h:rR P l args H Φ)(k:∀v H2,Φ v H2->Ψ v H2):rR P l args H Ψ:=fun w s=>by
 obtain⟨fn,tm,a,b,h1,h2⟩:=h w s;refine⟨fn,tm,a,b,h1,h2.mono fun e w2 d=>?_⟩;cases e with
 |returned v=>obtain⟨H2,x,y⟩:=d;exact⟨H2,x,k _ _ y⟩
 |panicked c=>exact d
 |outgrown=>exact d
def rR.frame{P:Program}{A F:PH}(hd:A.disj F)(h:rR P l args A Φ):rR P l args (A.uni F) fun v H2=>∃d,H2=d.uni F/\d.disj F/\Φ v d:=fun w s=>by
 obtain⟨fn,tm,a,b,h1,h2⟩:=h w (s.of_le (PH.le_uni A F));refine⟨fn,tm,a,b,h1,h2.mono fun e w2 j=>?_⟩;cases e with
 |outgrown=>exact j
 |panicked c=>exact j
 |returned v=>
  obtain⟨d,st,hp⟩:=j;have f:∀b o,F b=some o->w.heap[b]?=some o/\A b=none:=fun b o hb=>⟨s _ _ ((PH.uni_some hd).2 (.inr hb)),hd.symm.left hb⟩;have g:d.disj F:=fun b=>by
   cases m:F b with
   |none=>exact .inr rfl
   |some o=>obtain⟨h1,h2⟩:=f b o m;exact .inl (st.dom b (lw h1) h2)
  refine⟨d.uni F,⟨fun b o hb=>?_,st.size,fun b hb i=>st.priv b hb (PH.uni_none.1 i).1,fun b hb i=>PH.uni_none.2 ⟨st.dom b hb (PH.uni_none.1 i).1,(PH.uni_none.1 i).2⟩,st.os,st.tape,st.out⟩,d,rfl,g,hp⟩;rcases(PH.uni_some g).1 hb with e|e
  .exact st.sub _ _ e
  .obtain⟨h1,h2⟩:=f b o e;rw[st.priv b (lw h1) h2];exact h1
def GW(P:Program)(l:Nat)(args:Array Value)(I:PH)(ps:Zt)(Ψ:Value->PH->Zt->Prop):Prop:=
 Dj (I::ps)->rR P l args (U (I::ps)) fun v H2=>∃a b,H2=U (a::b)/\Dj (a::b)/\I.le a/\Ψ v a b
def GW.frame{P:Program}{I:PH}{ps F:Zt}{Ψ:Value->PH->Zt->Prop}(h:GW P l args I ps Ψ)(hd:Dj (I::ps++F)):
  rR P l args (U (I::ps++F)) fun v H2=>∃f g,H2=U (f::g++F)/\Dj (f::g++F)/\I.le f/\Ψ v f g:=by
 obtain⟨m,j,i⟩:=ow.1 hd;rw[rM];refine((h m).frame i).imp fun v H2 ⟨n,e,dd,f,g,a,b,c,d⟩=>?_;subst a;exact⟨f,g,by rw[e,rM],ow.2 ⟨b,j,dd⟩,c,d⟩
section
variable {C:Cx} {k:List Item} {σ:St} {H:PH}
end
end Go.Sx
namespace Go.Proofs.YtfaclfkpnmcmlaaGreatDoor
open Go Go.Sx Dg Syn
def Iv:ay prog 103:=⟨_,func103,rfl,rfl⟩
def ME:prog.underlying 81=some (.slice 3):=ae
abbrev oE(I:PH)(v:Value)(l:Zp):Prop:=Sl jC I v l
variable{I:PH}
def oE.le{J:PH}{v:Value}{l:Zp}(h:oE I v l)(k:I.le J):oE J v l:=Sl.le (R:=jC) (fun{I J c a} h k=>h) h k
def jC.len(c:Zo)(x:Nat)(h:jC I c x):c.length=1:=by rw[show c=_ from h];rfl
def jC.ones{c:Zo}{x:Nat}(h:jC I c x):c.all Sx.one=true:=by rw[show c=_ from h];rfl
def HC{vf:Value}{f:Zp}(hf:oE I vf f)(s:f.length<2^42):Zu 103 #[vf] I [] fun v o p=>∃A,p=[A]/\ti o A v f:=by
 intro hd;obtain⟨q,t,rfl,j⟩:=id hf;refine aP 8 func103 fun w0=>?_;cases q with
 |none=>
  have l:f=[]:=by
   rcases j with h|⟨b,off,xs,e,_⟩
   .exact h
   .cases e
  subst l;refine ai ?_;refine rH rfl rfl (by exact ME) rfl rfl ?_;apply RG;simp only[go_sem,Option.isNone];refine de hd fun d=>?_;exact az rfl d (r:=[_]) rfl (aD _) ⟨_,rfl,Ow.nil _ _ _ _⟩
 |some a=>refine ai ?_;refine rH rfl rfl (by exact ME) rfl rfl ?_;apply RG;simp only[go_sem,Option.isNone];refine rG hd (by exact kl) rfl rfl rfl rfl rfl af fun b A d g=>?_;refine ai ?_;refine fk d (by exact kl) (xs:=([]:Zp)) (R:=jC) ⟨[],g,rfl⟩ hf (fun{I J c a} h k=>h) (fun{I} c a h=>jC.len (I:=I) c a h) (fun{I} c a h=>jC.ones (I:=I) h) rfl rfl rfl rfl (by simp only[bg];omega) (by simp only[bg];unfold maxLen;omega) fun a2 c2 o u m i n=>?_;apply RG;simp only[go_sem,aQ];exact az rfl m (r:=[_]) rfl i ⟨_,rfl,n⟩
end Go.Proofs.YtfaclfkpnmcmlaaGreatDoor
