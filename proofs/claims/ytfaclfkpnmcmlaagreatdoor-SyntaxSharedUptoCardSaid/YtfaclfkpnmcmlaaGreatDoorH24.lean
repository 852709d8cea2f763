import Derived.Test.YtfaclfkpnmcmlaaGreatDoorH08
import Derived.Test.YtfaclfkpnmcmlaaGreatDoorH17
import Derived.Test.YtfaclfkpnmcmlaaGreatDoorH18
import Derived.Test.YtfaclfkpnmcmlaaGreatDoorH19
import Derived.Test.YtfaclfkpnmcmlaaGreatDoorH20
import Derived.Test.YtfaclfkpnmcmlaaGreatDoorH21
import Derived.Test.YtfaclfkpnmcmlaaGreatDoorH22
import Derived.Test.YtfaclfkpnmcmlaaGreatDoorH23
set_option maxHeartbeats 8000000
set_option linter.all false
namespace Go.Proofs.YtfaclfkpnmcmlaaGreatDoor
open Go Go.Sx Dg Syn
def Nu:aO Tryz.prog 84:=⟨_,Tryz.func84,rfl,rfl⟩
def PM:aO Tryz.prog 146:=⟨_,Tryz.func146,rfl,rfl⟩
variable{l:List Nd}{v:Value}{I:PH}
def KF(hS:eE I v l)(hl:l.length<=aN):aK Tryz.prog 146 #[v] I [] fun r I2 qs=>∃A,qs=[A]/\bQ I2 A r l:=by
 intro hd;obtain⟨fa,fc,rfl,ak⟩:=id hS;unfold aN at hl;refine ah 8 Tryz.func146 fun w0=>?_;cases fa with
 |none=>
  have am:l=[]:=by
   rcases ak with h|⟨b,off,xs,e,_⟩
   ·exact h
   ·cases e
  subst am;refine aT ?_;refine nG rfl rfl (by exact NE) rfl rfl ?_;apply RG;simp only[go_sem,Option.isNone];refine aR hd fun aj=>?_;exact af rfl aj (r:=[_]) rfl (abW _) ⟨_,rfl,Ow.nil _ _ _ _⟩
 |some a=>
  refine aT ?_;refine nG rfl rfl (by exact NE) rfl rfl ?_;apply RG;simp only[go_sem,Option.isNone];refine fx hd (by exact dQ) rfl rfl rfl rfl rfl bg fun b A aj aa=>?_;refine aT ?_;refine bl aj (by exact dQ) (xs:=([]:List Nd)) (R:=bm) ⟨[],aa,rfl⟩ hS (fun{I J c a} h k=>bm.le h k) (fun{I} c a h=>bm.len c a h) (fun{I} c a h=>bm.ones h) rfl rfl rfl rfl (by simp only[aaO];omega) (by simp only[aaO];unfold maxLen;omega) fun a2 c2 I2 A2 an ac ao=>?_;apply RG;simp only[go_sem,aaA];exact af rfl an (r:=[_]) rfl ac ⟨_,rfl,ao⟩
def IE:∀(o:List Nd) (n:Nd),du (tP o n)<=du o+(du n.kids+1)
 | [],n=>by simp only[tP,bp,dJ];omega
 |m::o,n=>by
  rw[tP];split
  ·simp only[bp,io];omega
  ·have:=IE o n;simp only[bp];omega
def u8:∀(l o:List Nd),du (l.foldl vK o)<=du o+du l
 | [],o=>ZR _
 |n::l,o=>by
  have h1:=u8 l (vK o n);have h2:du (vK o n)<=du o+(du n.kids+1):=by
   unfold vK;split
   ·omega
   ·exact IE o n
  rw[fu,bp];omega
def nL{C:Cx}{c:Cf}{σ:St}{H H':PH}(e:H=H')(h:RC C c σ H'):RC C c σ H:=by rw[e];exact h
variable{o:List Nd}
def Qc{j:Nat}{m m':Nd}(hj:o[j]?=some m)(hk:m'.key=m.key)(y u:Value):L3 (o.set j m') y u<->L3 o y u:=by
 have aa:=(List.getElem?_eq_some_iff.1 hj).1;constructor
 ·rintro⟨i,x,hi,hy,hu⟩;rw[aaY]at hi;split at hi
  ·rename_i e;subst e;cases hi
   exact⟨j,m,hj,by rw[hy,hk],hu⟩
  ·exact⟨i,x,hi,hy,hu⟩
 ·rintro⟨i,x,hi,hy,hu⟩;by_cases e:i=j
  ·subst e;rw[hj]at hi;cases hi
   exact⟨i,m',List.getElem?_set_self aa,by rw[hy,hk],hu⟩
  ·exact⟨i,x,by rw[List.getElem?_set_ne (fun e2=>e e2.symm)];exact hi,hy,hu⟩
def H9{n:Nd}(aa:∀x∈o,x.key≠n.key)(y u:Value):L3 (o++[n]) y u<->(y=rK n.key/\u=iv o.length)\/(y≠rK n.key/\L3 o y u):=by
 constructor
 ·rintro⟨i,x,hi,hy,hu⟩;rcases aaf i o.length with h|h
  ·rw[aaG h]at hi;refine .inr ⟨fun e=>aa x (aaV hi) (DL (hy.symm.trans e)),i,x,hi,hy,hu⟩
  ·rw[aaH h]at hi;have:i-o.length=0:=by
    rcases abn (i-o.length)with h0|h0
    ·exact h0
    ·rw[aan (by simp;omega)]at hi;cases hi
   rw[this]at hi;cases hi
   exact .inl ⟨hy,by rw[hu];congr 1;omega⟩
 ·rintro(⟨hy,hu⟩|⟨_,i,x,hi,hy,hu⟩)
  ·exact⟨o.length,n,by simp,hy,hu⟩
  ·exact⟨i,x,by rw[aaG (List.getElem?_eq_some_iff.1 hi).1];exact hi,hy,hu⟩
def rZ(h:iE l)(k:qT):iE (cZ l k):=ik.2 fun x hx=>by
 obtain⟨n,hn,_,_,hx⟩:=lL hx;exact ik.1 (fW.1 (ik.1 h n hn)).2 x hx
def xv{k:qT}{d:Nat}(h:gJ l<d+1)(hk:k∈ks l):gJ (cZ l k)<d:=by
 obtain⟨n,hn,_⟩:=um.1 hk;have h1:=oV hn;rw[wE]at h1;have h2:gJ l<=(d-1)+1:=by omega
 have:=yH (k:=k) h2;omega
variable{α:Type}
def nN[Inhabited α]{lt:α->α->Bool}{d e:Array α}(p:Sort.PermIn 0 d.size d e)(s:Sort.SortedIn lt 0 d.size e):e.toList.Perm d.toList/\e.toList.Pairwise (fun a b=>lt b a=false):=by
 have hz:=p.1;refine⟨?_,List.pairwise_iff_getElem.2 fun i j hi hj aa=>?_⟩
 ·have h:=p.2.2;rw[show e.extract 0 d.size=e by rw[<-hz];simp,show d.extract 0 d.size=d by simp]at h;exact h
 ·simp only[hZ]at hi hj;have:=s i j (aaL _) aa ab;rw[getElem!_pos e j hj,getElem!_pos e i hi]at this;simpa using this
def RJ(vl vm:Value)(n:Nat)(x:Nat×Value):St:=⟨dn 87 [(3,.v vm),(4,.v x.2),(12,.v vl),(13,.v (iv n)),(14,.v (iv x.1))],[]⟩
def YP(l:List Nd)(mr:Nat)(I0:PH)(x:Nat×Value)(H:PH):Prop:=∃I M A l',H=U [I,M,A,U (l'.map Prod.fst)]/\Dj [I,M,A,U (l'.map Prod.fst)]/\Dj (l'.map Prod.fst)/\I0.le I/\x.1<=l.length/\lO Tryz.prog M mr 240 (L3 (l'.map Prod.snd))/\Ow sd 60 7 I A x.2 l'/\l'.map Prod.snd=(l.take x.1).foldl vK []
def WJ(v:Value)(n i:Nat):St:=⟨dn 87 [(4,.v v),(70,.v v),(71,.v (iv n)),(72,.v (iv i))],[]⟩
def Vf{l':List (PH×Nd)}{j:Nat}{m:Nd}(h:(l'.map Prod.snd)[j]?=some m):∃K,l'[j]?=some (K,m):=by
 rw[aai]at h;cases hl:l'[j]? with
 |none=>rw[hl]at h;cases h
 |some p=>rw[hl]at h;simp only[Z9,ZW]at h;exact⟨p.1,by rw[<-h]⟩
theorem OT:∀(d:Nat) {I:PH} {v:Value} {l:List Nd},gJ l<d->eE I v l->sB v->iE l->nJ l->du l<=aN->aK Tryz.prog 84 #[v] I [] fun r I2 qs=>∃A,qs=[A]/\bQ I2 A r (mL d l):=by
 intro d
 induction d with
 |zero=>intro I v l h;omega
 |succ d ih=>
 intro I v l eb hS hC dv eq ei hd;obtain⟨va,vc,rfl,_⟩:=id hS;have fz:=iI l;unfold aN at ei;refine ah 87 Tryz.func84 fun w0=>?_
 try simp only[iv]
 refine aT ?_;refine pM 240 hd rfl rfl fun mr M0 fc fj=>?_;refine aT ?_;refine aR fc fun fb=>?_;refine aR fb fun fa=>?_;refine bf fa [2,0,1] fun e9=>?_;apply dF (fun x=>l.length-x.1) (RJ (.slice va l.length vc) (.map (some mr)) l.length) (YP l mr I) (fun x H=>x.1=l.length/\YP l mr I x H) (0,.slice none 0 0)
 ·exact bM
 ·exact(by simp only[go_sem,aa6,RJ])
 ·exact⟨I,M0,PH.no,[],rfl,e9,List.Pairwise.nil,abW _,aaL _,fj.congr fun y u=>⟨fun⟨j,m,h,_⟩=>by simp at h,fun h=>h.elim⟩,Ow.nil _ _ _ _,rfl⟩
 ·rintro⟨i,vo⟩ H ⟨I1,M1,A1,l',rfl,bc,b0,ao,hi,cn,a5,a6⟩ am c9;simp only at hi a5 a6;simp only[RJ];obtain⟨oa,oc,rfl⟩:=a5.shape;rcases aaf i l.length with an|e7
  rotate_left
  ·have:i=l.length:=by omega
   subst this;have ef:=Z6 l.length;apply bL 7;simp only[go_sem,ef,iv];exact c9 (l.length,.slice oa l'.length oc) _ _ bM (by simp only[go_sem,aa6,RJ]) ⟨rfl,I1,M1,A1,l',rfl,bc,b0,ao,ZR _,cn,a5,a6⟩
  have ef:decide ((i:Int)<(l.length:Int))=true:=by simp;omega
  have eg:=we hC an;obtain⟨n,hn⟩:∃n,l[i]?=some n:=⟨_,aak an⟩;have em:=aaV hn;have ey:=(fW.1 (ik.1 dv n em)).1;obtain⟨b,off,cs,rfl,fg,dc⟩:=Sl.load bm.len (eE.le hS ao) hn;obtain⟨vk,na,nk,rfl,a1,ak,dj⟩:=fg.shape;obtain⟨ka,kc,rfl,_⟩:=id ak;have aS:=HX.of (l:=l) (fun x hx=>(fW.1 (ik.1 dv x hx)).1) i ab;have a0:(l.take (i+1)).foldl vK []=vK (l'.map Prod.snd) n:=by rw[db hn,abM,a6];rfl
  rw[<-a6]at aS;have dy:du (l'.map Prod.snd)+(du n.kids+1)<=du l:=by
   rw[a6];have h1:=u8 (l.take i) [];rw[dJ,ZZ]at h1;have h2:du (l.take (i+1))<=du l:=by
    conv=>rhs;rw[<-abq (i+1) l]
    rw[io];omega
   rw[db hn,io,bp,dJ]at h2;omega
  have bb:=iI (l'.map Prod.snd);rw[aah]at bb;apply RG;simp only[go_sem,ef,iv,sD,rD];refine⟨ab,?_⟩;refine XN (l:=[.int .u8 n.kind,.string ⟨⟨n.text⟩⟩,.int .i64 n.tok,.int .i64 n.slot,.slice ka n.kids.length kc,sD na nk n.cond,rD n.cond]) (v:=.agg #[.int .u8 n.kind,.string ⟨⟨n.text⟩⟩,.int .i64 n.tok,.int .i64 n.slot,.slice ka n.kids.length kc,sD na nk n.cond,rD n.cond]) rfl (cellsU bc (.head _) dc) (.inl ⟨cL,rfl⟩) ?_;refine lY ?_;refine WZ rfl jt (gO a1) fun v H2 hv=>?_;obtain⟨rfl,rfl⟩:=hv;cases dw:decide (n.cond=.lf false)
  rotate_left
  ·have e8:n.cond=ff:=by simpa using dw
   apply RG;simp only[go_sem,iv,sD,rD,dw,eg];exact am (i+1,.slice oa l'.length oc) _ _ dt bM (by simp only[go_sem,aa6,RJ]) ⟨I1,M1,A1,l',rfl,bc,b0,ao,an,cn,a5,by simp only;rw[a0,vK,aaq e8]⟩
  have ez:n.cond≠ff:=by simpa using dw
  have dk:vK (l'.map Prod.snd) n=tP (l'.map Prod.snd) n:=ZV ez;apply RG;simp only[go_sem,iv,sD,rD,dw];refine WZ rfl AR (MF _ _ _ _ _ _ _ _ _ _ _ _) fun v H2 hv=>?_;obtain⟨rfl,rfl⟩:=hv;refine lY ?_;have bx:=SD (kZ.1 eq n em);have et:=cn.atU bc (.tail _ (.head _));by_cases ea:∃(j:Nat) (m:Nd),(l'.map Prod.snd)[j]?=some m/\m.key=n.key
  ·obtain⟨j,m,hj,d2⟩:=ea;obtain⟨Kj,d3⟩:=Vf hj;have cj:=(List.getElem?_eq_some_iff.1 d3).1;refine nB (by exact R9) (by exact JT) NL (key:=rK n.key) rfl rfl rfl rfl et bx (iv j) true (.inl ⟨rfl,j,m,hj,by rw[d2],rfl⟩) ?_;apply RG;simp only[go_sem,iv,sD,rD,abQ];have fl:(l'.map Prod.fst)[j]?=some Kj:=by rw[aai,d3];rfl
   obtain⟨ue,ud⟩:=ab6 (l:=[I1,M1,A1]) bc b0 fl;have ca:Dj [I1,M1,A1,Kj,U ((l'.map Prod.fst).eraseIdx j)]:=ud;rw[show U [I1,M1,A1,U (l'.map Prod.fst)]=U [I1,M1,A1,Kj,U ((l'.map Prod.fst).eraseIdx j)] from ue];clear ue ud;obtain⟨g,cap,cur,xs,ev,rfl,c1,c2,c3,c4,c5,ba⟩:=a5.open' ab sd.len;cases ev
   obtain⟨vkj,ma,mk,cm,cy,a2⟩:=ba.get sd.len d3;obtain⟨kja,kjc,rfl⟩:=a2.shape;have bd:l'.length*7<=cur.size:=by rw[c3];exact aaQ _ c1
   have fC:(j+1)*7<=l'.length*7:=aaQ _ cj;have a4:=gQ (k:=5) (m:=2) (e:=60) (g:=g) (cur:=cur) sd.len ba (i:=j) cj bd c4 cm ab;simp only[abx,aa1,abA,abz]at a4;refine eP [0,1,2,3,4,5,6,7,8,9,10,11,12] [6] [] ?_;refine lE ?_;refine⟨ab,?_⟩;refine W7 (l:=[sD ma mk m.cond,rD m.cond]) (v:=.agg #[sD ma mk m.cond,rD m.cond]) rfl (by simpa using cellsU ca (.tail _ (.tail _ (.head _))) a4) (.inl ⟨r9,rfl⟩) ?_;refine lE ?_;refine aE ca [0,1,2,3] [] [M1,_,Kj,_] rfl yj rfl (KP cy a1) fun v I6 qs a7 ac hq=>?_;obtain⟨rfl,el⟩:=hq;obtain⟨za,zk,rfl⟩:=el.shape2;simp only[Z3]at a7 |-;refine lE ?_;refine⟨ab,?_⟩;refine nI a7 [1,0,2,3] fun b6=>?_;refine aQ b6 rfl rfl rfl rfl rfl rfl (by exact Ds) (by simp;omega) fun cl=>?_;refine lE ?_;refine aw ?_;have ct:Ow sd 60 7 I6 (sg g (.cells (br cur.toList (j*7+5) [sD za zk (m.cond.or n.cond),rD (m.cond.or n.cond)]).toArray 60 (0,0))) (.slice (some ⟨g,0,none⟩) l'.length oc) (l'.set j (Kj,{ m with cond:=m.cond.or n.cond })):=by
    refine⟨_,?_,om sd.len (ba.mono fun _ _ h=>sd.le h ac) (i:=j) cj cm (k:=5) (cs:=[sD za zk (m.cond.or n.cond),rD (m.cond.or n.cond)]) (a:=(Kj,{ m with cond:=m.cond.or n.cond })) (by simp) ⟨.slice kja m.kids.length kjc,za,zk,by simp[br,sD,rD],el,bQ.le a2 ac⟩⟩;rw[aa0];exact oI c5 c1 c2 c3 c4 (by simp;omega)
   have a9:Dj [I6,sg g (.cells (br cur.toList (j*7+5) [sD za zk (m.cond.or n.cond),rD (m.cond.or n.cond)]).toArray 60 (0,0)),M1,Kj,U ((l'.map Prod.fst).eraseIdx j)]:=cl
   change RC _ _ _ (U [I6,sg g (.cells (br cur.toList (j*7+5) [sD za zk (m.cond.or n.cond),rD (m.cond.or n.cond)]).toArray 60 (0,0)),M1,Kj,U ((l'.map Prod.fst).eraseIdx j)])
   clear cl b6 a7 ca ba cm a4;generalize sg g (.cells (br cur.toList (j*7+5) [sD za zk (m.cond.or n.cond),rD (m.cond.or n.cond)]).toArray 60 (0,0))=A2 at ct a9;obtain⟨g2,cap2,cur2,xs2,ev2,rfl,b1,b2,b3,b4,b5,bs⟩:=ct.open' (by rw[aa0];omega) sd.len;rw[aa0]at ev2 b1 b4 b5;cases ev2
   have e2:(l'.set j (Kj,{ m with cond:=m.cond.or n.cond }))[j]?=some (Kj,{ m with cond:=m.cond.or n.cond }):=List.getElem?_set_self cj;obtain⟨vk2,m2a,m2k,dd,cA,a3⟩:=bs.get sd.len e2;obtain⟨k2a,k2c,rfl⟩:=a3.shape;have c8:j<(l'.set j (Kj,{ m with cond:=m.cond.or n.cond })).length:=by rw[aa0];exact cj
   have cx:l'.length*7<=cur2.size:=by rw[b3];exact aaQ _ b1
   have c7:=gQ (k:=4) (m:=1) (e:=60) (g:=g) (cur:=cur2) sd.len bs (i:=j) c8 (by rw[aa0];exact cx) (by rw[aa0];exact b4) dd ab;simp only[abx,aa1,abA,abz]at c7;have fv:m.kids.length<=du (l'.map Prod.snd):=by
    have h1:=oG (aaV hj);have h2:=iI m.kids;omega
   have fs:=iI n.kids;refine lY ?_;refine eP [0,1,2,3,4,5,6,7,8,9,10,11,12] [6] [] ?_;refine lE ?_;refine⟨ab,?_⟩;refine W7 (l:=[.slice k2a m.kids.length k2c]) (v:=.slice k2a m.kids.length k2c) rfl (by simpa using cellsU a9 (.tail _ (.head _)) c7) (.inr ⟨PL,rfl⟩) ?_;refine lE ?_;refine nI a9 [2,0,1,3] fun aj=>?_;refine fP aj (by exact dQ) (a3) (eE.le ak ac) (fun{I J c a} h k=>bm.le h k) (fun{I} c a h=>bm.len c a h) (fun{I} c a h=>bm.ones h) rfl rfl rfl rfl rfl rfl (by first|omega|(simp only[aaj,aaO];omega)) (by unfold maxLen;first|omega|(simp only[aaj,aaO];omega)) fun pa pc I7 K7 aq aa ec=>?_;refine lE ?_;refine⟨ab,?_⟩;refine nI aq [1,2,0,3] fun cf=>?_;refine aQ cf rfl rfl rfl rfl rfl rfl (by exact Ke) (by simp;omega) fun cc=>?_;refine lE ?_;refine aw ?_;have cr:Ow sd 60 7 I7 (sg g (.cells (br cur2.toList (j*7+4) [.slice pa (m.kids++n.kids).length pc]).toArray 60 (0,0))) (.slice (some ⟨g,0,none⟩) l'.length oc) (l'.set j (K7,{ m with kids:=m.kids++n.kids,cond:=m.cond.or n.cond })):=by
    have p:=om sd.len (bs.mono fun _ _ h=>sd.le h aa) (i:=j) c8 dd (k:=4) (cs:=[.slice pa (m.kids++n.kids).length pc]) (a:=(K7,{ m with kids:=m.kids++n.kids,cond:=m.cond.or n.cond })) (by simp) ⟨.slice pa (m.kids++n.kids).length pc,m2a,m2k,by simp[br],cA.le aa,ec⟩;rw[List.set_set]at p;refine⟨_,?_,p⟩;rw[aa0];exact oI b5 b1 b2 b3 b4 (by simp;omega)
   apply RG;simp only[go_sem,iv,eg,sD,rD];obtain⟨ue,ud,uk⟩:=acn (l:=[I7,_,M1]) cc b0 (by rw[aah];exact cj);have e5:(l'.map Prod.fst).set j K7=(l'.set j (K7,{ m with kids:=m.kids++n.kids,cond:=m.cond.or n.cond })).map Prod.fst:=by rw[List.map_set]
   have e6:(l'.set j (K7,{ m with kids:=m.kids++n.kids,cond:=m.cond.or n.cond })).map Prod.snd=tP (l'.map Prod.snd) n:=by
    rw[List.map_set,wr aS.dist hj d2]
   rw[e5]at ue ud uk;refine nL ue ?_;refine bf ud [1,0,2] fun cb=>?_;refine am (i+1,.slice (some ⟨g,0,none⟩) l'.length oc) _ _ dt bM (by simp only[go_sem,aa6,RJ]) ⟨I7,M1,_,_,rfl,cb,uk,abV ao (abV ac aa),an,?_,?_,?_⟩
   ·refine cn.congr fun y u=>?_;rw[e6,wr aS.dist hj d2];exact Qc (m':={ m with kids:=m.kids++n.kids,cond:=m.cond.or n.cond }) hj rfl y u
   ·exact cr
   ·simp only;rw[e6,a0,dk]
  ·
   have dT:∀x∈l'.map Prod.snd,x.key≠n.key:=fun x hx e=>by
    obtain⟨j,hj⟩:=List.mem_iff_getElem?.1 hx;exact ea ⟨j,x,hj,e⟩
   refine nB (by exact R9) (by exact JT) NL (key:=rK n.key) rfl rfl rfl rfl et bx (iv 0) false (.inr ⟨rfl,rfl,fun u ⟨j,m,hj,hk,_⟩=>ea ⟨j,m,hj,(DL hk).symm⟩⟩) ?_;apply RG;simp only[go_sem,iv,sD,rD,abK];refine nZ (by exact R9) (by exact JT) (key:=rK n.key) (v:=iv l'.length) bc rfl (.inl rfl) rfl rfl rfl cn bx fun M5 ca fi=>?_;refine lY ?_;refine ad ca [0,1,2] [] [M5,A1,_] rfl PM rfl (KF ak (by have:=iI n.kids;unfold aN;omega)) fun v I6 qs a7 ac hq=>?_;obtain⟨K6,rfl,cp⟩:=hq;simp only[Z3]at a7 |-;obtain⟨qa,qc,rfl⟩:=cp.shape;refine lY ?_;refine ax a7 (by exact dQ) rfl rfl rfl rfl rfl bg fun nb I7 b6 aa eA=>?_;have fh:Sl sd I7 (.slice (some ⟨nb,0,none⟩) 1 1) [(K6,n)]:=⟨_,_,rfl,.inr ⟨nb,0,_,rfl,az eA (by simp[aD,Value.cells]) (by simp[aD,Value.cells,iv,sD,rD]),.one ⟨.slice qa n.kids.length qc,na,nk,rfl,a1.le (abV ac aa),bQ.le cp aa⟩⟩⟩;refine lY ?_;refine bf b6 [2,1,0,3] fun cl=>?_;refine bl (R:=sd) (xs:=l') (ys:=[(K6,n)]) cl (by exact dQ) (Ow.le (R:=sd) (fun{I J c a} h k=>sd.le h k) a5 (abV ac aa)) fh (fun{I J c a} h k=>sd.le h k) (fun{I} c a h=>sd.len c a h) (fun{I} c a h=>sd.ones h) rfl rfl rfl rfl (by simp only[aaj,aaO];omega) (by simp only[aaj,aaO];unfold maxLen;omega) fun ua uc I8 A8 a9 d0 fr=>?_;apply RG;simp only[go_sem,iv,eg,sD,rD];have aj:Dj [I8,A8,M5,K6,U (l'.map Prod.fst)]:=a9;obtain⟨ue,ud,uk⟩:=ach (l:=[I8,A8,M5]) aj b0;rw[show l'.map Prod.fst++[K6]=(l'++[(K6,n)]).map Prod.fst by simp]at ue ud uk;refine nL ue ?_;refine bf ud [1,0,2] fun aq=>?_;have e6:(l'++[(K6,n)]).map Prod.snd=tP (l'.map Prod.snd) n:=by rw[sE dT];simp
   refine am (i+1,.slice ua (l'++[(K6,n)]).length uc) _ _ dt bM (by simp only[go_sem,aa6,RJ]) ⟨I8,M5,A8,l'++[(K6,n)],rfl,aq,uk,abV ao (abV ac (abV aa d0)),an,?_,fr,by simp only;rw[e6,a0,dk]⟩;refine fi.congr fun y u=>?_;rw[e6,sE dT,<-show (l'.map Prod.snd).length=l'.length from aah ..];exact H9 dT y u
 rintro⟨i,vo⟩ H ⟨hi,I1,M1,A1,l',rfl,bc,b0,ao,_,cn,a5,a6⟩;simp only at hi a5 a6;subst hi;rw[aaS]at a6;simp only[RJ];obtain⟨oa,oc,rfl⟩:=a5.shape;have aS:=HX.of (l:=l) (fun x hx=>(fW.1 (ik.1 dv x hx)).1) l.length (ZR _);rw[aaS,<-a6]at aS;have dy:du (l'.map Prod.snd)<=du l:=by
  rw[a6];have h1:=u8 l [];rw[dJ,ZZ]at h1;exact h1
 have bb:=iI (l'.map Prod.snd);have eo:(l'.map Prod.snd).length=l'.length:=aah ..;have ca:Dj [I1,M1,A1,U (l'.map Prod.fst)]:=bc;refine bf ca [2,0,1] fun a7=>?_;refine ae (c:=.st _) a7 fun I2 a7 c6 fo=>?_;have ct:bQ I2 A1 (.slice oa l'.length oc) (l'.map Prod.snd):=by
  obtain⟨xs,h1,h2⟩:=a5;exact⟨xs,by rw[eo];exact h1,LR.still c6 h2 fun p hp=>abV (FV b0 (List.mem_map.2 ⟨p,hp,rfl⟩)) fo⟩
 rw[<-eo]at ct |-;generalize l'.map Prod.snd=o at *;refine dP ?_;have ds:bQ I2 A1 (.slice oa o.length oc) o.toArray.toList:=ct;refine ad a7 [1,0] [A1] [M1] rfl P4 rfl (acl (d:=o.toArray) ds VO (by simp;unfold aN;omega)) fun v I3 qs b6 d1 hq=>?_;obtain⟨A3,e3,rfl,cr,es,er⟩:=hq;simp only[Z3]at b6 |-;obtain⟨dI,ek⟩:=nN es er;have hL:e3.toList=(ks l).map (gB l):=aS.sorted dI ek;have en:o.length=((ks l).map (gB l)).length:=by rw[<-hL,dI.length_eq]
 have cr:bQ I3 A3 (.slice oa o.length oc) e3.toList:=cr;rw[hL,en]at cr;rw[en];clear ct ds a5 dI ek er es;have dA:=Af l;have fA:=Hu l;have da:∀n∈(ks l).map (gB l),gJ n.kids<d/\iE n.kids/\nJ n.kids/\du n.kids<=2^40:=fun n hn=>by
  obtain⟨k,eH,rfl⟩:=List.mem_map.1 hn;refine⟨?_,rZ dv k,Je eq k,ZS (IF l k) ei⟩;show gJ (cZ l k)<d;exact xv eb eH
 have ep:((ks l).map (gB l)).length<=du l:=ZS (iI _) dA;rw[yx];generalize (ks l).map (gB l)=L at *;refine dP ?_;refine bf b6 [1,0] fun cl=>?_;refine aA (fun i=>L.length-i) (WJ (.slice oa L.length oc) L.length) (fun i H=>∃I5 A5,H=U [I5,M1,A5]/\Dj [I5,M1,A5]/\I3.le I5/\i<=L.length/\bQ I5 A5 (.slice oa L.length oc) ((L.take i).map (fun(m:Nd)=>{ m with kids:=mL d m.kids })++L.drop i)) 0 bM (by simp only[go_sem,aa6,WJ]) ?_ ?_
 ·exact⟨I3,A3,rfl,cl,abW _,aaL _,cr⟩
 rintro i H ⟨I5,A5,rfl,a9,c0,hi,ed⟩ am;simp only[WJ];have e0:=abV ao (abV c6 (abV d1 c0));rcases aaf i L.length with an|e7
 ·have ee:decide ((i:Int)<(L.length:Int))=true:=by simp;omega
  have e1:IntKind.i64.wrap ((i:Int)+1)=((i+1:Nat):Int):=by
   rw[<-wrap64 (n:=i+1) ab];congr 1
  obtain⟨n,hn⟩:∃n,L[i]?=some n:=⟨_,aak an⟩;obtain⟨p1,p2,p3,p4⟩:=da n (aaV hn);have ci:((L.take i).map (fun(m:Nd)=>{ m with kids:=mL d m.kids })++L.drop i).length=L.length:=by simp;omega
  have e4:((L.take i).map (fun(m:Nd)=>{ m with kids:=mL d m.kids })++L.drop i)[i]?=some n:=by
   rw[aaH (by simp;omega)];simp only[aah,abF,aaN (aar an),Nat.sub_self,Z1,acS];exact hn
  have ex:((L.take i).map (fun(m:Nd)=>{ m with kids:=mL d m.kids })++L.drop i).set i { n with kids:=mL d n.kids }=(L.take (i+1)).map (fun(m:Nd)=>{ m with kids:=mL d m.kids })++L.drop (i+1):=by
   rw[List.set_append_right _ _ (by simp;omega)];simp only[aah,abF,aaN (aar an),Nat.sub_self];rw[db hn,abP,aaT];congr 1;have:L.drop i=n::L.drop (i+1):=by
    rw[aaK an];rw[aak an]at hn;rw[aaZ hn]
   rw[this];rfl
  obtain⟨g,cap,cur,xs,ev,rfl,c1,c2,c3,c4,c5,ba⟩:=ed.open' (by rw[ci];omega) bm.len;rw[ci]at ev c1 c4 c5;cases ev
  obtain⟨vk,na,nk,cm,a1,ak,dj⟩:=(ba.get bm.len e4).shape;obtain⟨ka,kc,rfl,_⟩:=id ak;have bd:L.length*7<=cur.size:=by rw[c3];exact aaQ _ c1
  have f0:(i+1)*7<=L.length*7:=aaQ _ an;have c7:=gQ (k:=4) (m:=1) (e:=60) (g:=g) (cur:=cur) bm.len ba (i:=i) (by rw[ci];exact an) (by rw[ci];exact bd) (by rw[ci];exact c4) cm ab;simp only[abx,aa1,abA,abz]at c7;apply RG;simp only[go_sem,iv,ee];refine⟨ab,?_⟩;refine XN (l:=[.slice ka n.kids.length kc]) rfl (by simpa using cellsU a9 (.tail _ (.tail _ (.head _))) c7) (.inr ⟨PL,rfl⟩) ?_;refine dP ?_;refine ad a9 [0,1] [] [M1,_] rfl Nu rfl (ih p1 ak dj p2 p3 p4) fun v I6 qs aj ac hq=>?_;obtain⟨K6,rfl,cp⟩:=hq;simp only[Z3]at aj |-;obtain⟨qa,qc,rfl⟩:=cp.shape;have fn:=cp.capN bm.len;refine bf aj [0,1,2] fun aq=>?_;refine ae aq fun I7 aq aa ec=>?_;have fk:eE I7 (.slice qa (mL d n.kids).length qc) (mL d n.kids):=bQ.sl cp aa ec;refine dP ?_;refine⟨ab,?_⟩;refine bf aq [1,0] fun cf=>?_;refine bw cf rfl rfl rfl rfl rfl (by exact Ke) (by simp;omega) fun cc=>?_;apply RG;simp only[go_sem,iv,e1];refine bf cc [1,0] fun cb=>?_;have dx:=abV ac aa;refine am (i+1) _ _ ab bM (by simp only[go_sem,aa6,WJ]) ⟨I7,_,rfl,cb,abV c0 dx,an,?_⟩;rw[<-ex];refine⟨_,?_,om bm.len (ba.mono fun _ _ h=>bm.le h dx) (i:=i) (by rw[ci];exact an) cm (k:=4) (cs:=[.slice qa (mL d n.kids).length qc]) (a:={ n with kids:=mL d n.kids }) (by simp) (bm.mk (n:={ n with kids:=mL d n.kids }) (a1.le dx) fk fn)⟩;rw[aa0,ci];exact oI c5 c1 c2 c3 c4 (by simp;omega)
 ·have:i=L.length:=by omega
  subst this;have ee:=Z6 L.length;rw[aaS,abH,aa6]at ed;apply RG;simp only[go_sem,iv,ee];refine bf a9 [0,1] fun aj=>?_;refine ae (c:=.st _) aj fun I9 aj cB f1=>?_;exact af rfl aj (r:=[_]) rfl (abV e0 cB) ⟨A5,rfl,bQ.le ed cB⟩
def Ow.part{R:PH->List Value->α->Prop}{e:TypeId}{size:Nat}{A:PH}{l:List α}(h:Ow R e size I A v l)(hR:∀{I} c a,R I c a->c.length=size)(ak:∀{I J c a},R I c a->I.le J->R J c a){i:Nat}{x:α}(hi:l[i]?=some x)(k m:Nat)(hk:k+m<=size):
  ∃g cap cur c,v=.slice (some ⟨g,0,none⟩) l.length cap/\A=sg g (.cells cur e (0,0))/\l.length*size<=cur.size/\R I c x/\c.length=size/\aP A g (i*size+k) ((c.drop k).take m)/\
   ∀J cs y,I.le J->k+cs.length<=size->R J (br c k cs) y->Ow R e size J (sg g (.cells (br cur.toList (i*size+k) cs).toArray e (0,0))) v (l.set i y):=by
 have aa:=(List.getElem?_eq_some_iff.1 hi).1;obtain⟨g,cap,cur,xs,ev,rfl,c1,c2,c3,c4,c5,ac⟩:=h.open' ab fun c a k=>hR c a k;have ao:l.length*size<=cap*size:=aaQ _ c1;have am:(i+1)*size<=l.length*size:=aaQ _ aa;rw[aaP,abj]at am;have hg:=ac.get (fun c a k=>hR c a k) hi;have aj:=hR _ _ hg;have hc:=gQ (k:=k) (m:=m) (e:=e) (g:=g) (cur:=cur) (fun c a k=>hR c a k) ac aa ab c4 rfl hk;refine⟨g,cap,cur,_,ev,rfl,ab,hg,aj,hc,?_⟩;intro J cs y hJ an hy;refine⟨br xs (i*size+k) cs,?_,?_⟩
 ·rw[ev,aa0];exact oI c5 c1 c2 c3 c4 ab
 ·exact om (fun c a k=>hR c a k) (ac.mono fun _ _ h=>ak h hJ) aa rfl an hy
def Ux(vs:Value)(n i:Nat)(vo:Value):St:=⟨dn 50 [(3,.v vo),(12,.v vs),(13,.v (iv n)),(14,.v (iv i))],[]⟩
theorem NH{l:List cO}(hS:Sl eG I v l)(hl:l.length<=aN)(cm:Ce l):aK Tryz.prog 95 #[v] I [] fun r I2 qs=>∃A,qs=[A]/\eF I2 A r (Eo l):=by
 intro hd;have c4:=hl;unfold aN at c4;obtain⟨va,vc,rfl,_⟩:=id hS;refine ah 50 Tryz.func95 fun w0=>?_;refine aT ?_;refine bV hd rfl PQ (L8 hS hl) fun v1 I1 qs c7 b4 hq=>?_;obtain⟨K,rfl,hK⟩:=hq;refine aT ?_;refine ad c7 [0] [K] [] rfl PG rfl (ME hK hl) fun v2 I2 qs cr c0 hq=>?_;obtain⟨A,rfl,rfl,hA⟩:=hq;simp only[Z3]at cr |-;refine aT ?_;have dw:(mZ l).length<=l.length:=List.length_filter_le ..;have dk:eF I2 A v2 (mZ l).toArray.toList:=hA;refine ad cr [0] [A] [] rfl Q6 rfl (Cw dk acv (by simp;unfold aN;omega)) fun v3 I3 qs cp b3 hq=>?_;obtain⟨A3,e3,rfl,bd,dc,da⟩:=hq;simp only[Z3]at cp |-;obtain⟨a4,cj⟩:=nN dc da;have bd:eF I3 A3 v2 e3.toList:=bd;have a4:e3.toList.Perm (mZ l):=a4;generalize e3.toList=E at bd a4 cj;have hE:=a4.length_eq;have cb:∀d∈E,d.cond.ok 0:=fun d hd=>cm d (List.mem_filter.1 (a4.mem_iff.1 hd)).1;have dd:∀d,d∈E<->d∈l/\d.cond≠ff:=fun d=>by rw[a4.mem_iff];simp[mZ]
 obtain⟨ea,ec,rfl⟩:=bd.shape;refine aT ?_;refine aR cp fun c6=>?_;refine bf c6 [1,0] fun c5=>?_;refine aA (fun x=>E.length-x.1) (fun x=>Ux (.slice ea E.length ec) E.length x.1 x.2) (fun(x:Nat×Value) H=>∃I5 A5 B o,H=U [I5,A5,B]/\Dj [I5,A5,B]/\I3.le I5/\x.1<=E.length/\eF I5 A5 (.slice ea E.length ec) E/\eF I5 B x.2 o/\o.length<=x.1/\o=(E.take x.1).foldl sC []) (0,.slice none 0 0) bM (by simp only[go_sem,aa6,Ux]) ?_ ?_
 ·exact⟨I3,A3,PH.no,[],rfl,c5,abW _,aaL _,bd,Ow.nil _ _ _ _,ZR _,rfl⟩
 rintro⟨i,vo⟩ H ⟨I5,A5,B,o,rfl,bb,a0,hi,bx,hB,cA,ho⟩ am;simp only at hi hB cA ho;simp only[Ux];obtain⟨oa,oc,rfl⟩:=hB.shape;rcases aaf i E.length with bs|dx
 ·have ci:decide ((i:Int)<(E.length:Int))=true:=abU ab;have e1:IntKind.i64.wrap ((i:Int)+1)=((i+1:Nat):Int):=by rw[<-wrap64 (n:=i+1) ab];congr 1
  have wm:=iX (k:=o.length) ab;obtain⟨d,cn⟩:∃d,E[i]?=some d:=⟨_,aak bs⟩;obtain⟨g,cap,cur,c,ev,rfl,c1,c2,hc,dy,bc,_⟩:=bx.elem (fun{I} c a h=>eG.len c a h) (fun{I J c a} h k=>eG.le h k) cn;cases ev
  obtain⟨ca,ck,rfl,c8⟩:=id hc;have aj:(E.take (i+1)).foldl sC []=sC o d:=by rw[db cn,abM,<-ho];rfl
  apply RG;simp only[go_sem,iv,ci,sD,rD];refine⟨ab,?_⟩;refine XN (l:=[.int .u8 d.code,.int .i64 d.tok,sD ca ck d.cond,rD d.cond]) (v:=.agg #[.int .u8 d.code,.int .i64 d.tok,sD ca ck d.cond,rD d.cond]) rfl (by simpa using cellsU bb (.tail _ (.head _)) bc) (.inl ⟨lW,rfl⟩) ?_;apply RG;simp only[go_sem,iv,sD,rD,wm];have ct:∀{J},I5.le J->eG J [.int .u8 d.code,.int .i64 d.tok,sD ca ck d.cond,rD d.cond] d:=fun h=>eG.le hc h;rcases abn o.length with h0|h0
  ·have cB:o=[]:=List.length_eq_zero_iff.1 h0;have cf:decide ((o.length:Int)-1>=0)=false:=abT ab;refine eP [0,1,2,3,4,5,6,7,8,9,10] [6] [] ?_;apply au;simp only[go_sem,iv,sD,rD,cf];refine aw ?_;refine lY ?_;refine ax bb (by exact vP) rfl rfl rfl rfl rfl bg fun nb I7 a6 aa b2=>?_;have b6:Sl eG I7 (.slice (some ⟨nb,0,none⟩) 1 1) [d]:=⟨_,_,rfl,.inr ⟨nb,0,_,rfl,az b2 (by simp[aD,Value.cells]) (by simp[aD,Value.cells,iv,sD,rD]),.one (ct aa)⟩⟩;refine lY ?_;refine bf a6 [1,0] fun a5=>?_;refine bl (R:=eG) (xs:=o) (ys:=[d]) a5 (by exact vP) (eF.le hB aa) b6 (fun{I J c a} h k=>eG.le h k) (fun{I} c a h=>eG.len c a h) (fun{I} c a h=>eG.ones h) rfl rfl rfl rfl (by simp only[aaj,aaO];omega) (by simp only[aaj,aaO];unfold maxLen;omega) fun ua uc I8 B8 a1 aS cc=>?_;apply RG;simp only[go_sem,iv,sD,rD,e1];refine bf a1 [1,0] fun ao=>?_;refine am (i+1,.slice ua (o++[d]).length uc) _ _ dt bM (by simp only[go_sem,aa6,Ux]) ⟨I8,_,B8,o++[d],rfl,ao,abV a0 (abV aa aS),bs,eF.le bx (abV aa aS),cc,by simp;omega,?_⟩;simp only;rw[aj,cB];rfl
  ·obtain⟨q,hq⟩:∃q,o.length=q+1:=⟨o.length-1,ab⟩;have eq1:(o.length:Int)-1=(q:Int):=by omega
   have cf:decide ((q:Int)>=0)=true:=abU ab;obtain⟨x,hx⟩:∃x,o[q]?=some x:=⟨_,aak ab⟩;have an:o.getLast?=some x:=by rw[List.getLast?_eq_getElem?,hq];exact hx
   obtain⟨g2,cap2,cur2,c',ev2,rfl,b1,cs,c9,a3,cy⟩:=hB.part (fun{I} c a h=>eG.len c a h) (fun{I J c a} h k=>eG.le h k) hx 0 4 ab;obtain⟨g3,cap3,cur3,c3,ev3,eA,_,b5,_,aq,a7⟩:=hB.part (fun{I} c a h=>eG.len c a h) (fun{I J c a} h k=>eG.le h k) hx 2 2 ab;cases ev2
   simp only[Value.slice.injEq,ZW,Addr.mk.injEq,abC,acT]at ev3;obtain⟨eg3,_⟩:=ev3;subst eg3;have ecur:cur2=cur3:=by
    have:=congrFun eA g2;simp only[sg,ZT,ZW,Obj.cells.injEq,abC,acT]at this;exact this
   subst ecur;clear eA;obtain⟨xa,xk,rfl,ds⟩:=id cs;obtain⟨ya,yk,rfl,cx⟩:=id b5;simp only[abx,aa1,abA,abz]at aq;have dv:(q+1)*4<=o.length*4:=aaQ _ ab;rw[eq1];refine eP [0,1,2,3,4,5,6,7,8,9,10] [6] [] ?_;apply au;simp only[go_sem,iv,sD,rD,cf];refine⟨ab,?_⟩;refine W7 (l:=[.int .u8 x.code,.int .i64 x.tok,sD xa xk x.cond,rD x.cond]) (v:=.agg #[.int .u8 x.code,.int .i64 x.tok,sD xa xk x.cond,rD x.cond]) rfl (by simpa using cellsU bb (.tail _ (.tail _ (.head _))) a3) (.inl ⟨lW,rfl⟩) ?_;refine lE ?_;refine aE bb [0,1] [] [_,_] rfl Od rfl (Lx (x:=x) (y:=d) cs hc) fun v I6 qs a6 ac hq=>?_;obtain⟨rfl,rfl⟩:=hq;simp only[Z3]at a6 |-;have hz:=OI x d;cases hk:decide (x.key=d.key)
   ·rw[hk]at hz;have ak:sC o d=o++[d]:=by
     unfold sC;rw[an];simp only;rw[ZV (abN hk)]
    apply au;simp only[go_sem,iv,sD,rD,hz];refine aw ?_;apply RG;simp only[go_sem,iv,sD,rD,hz];refine ax a6 (by exact vP) rfl rfl rfl rfl rfl bg fun nb I7 a5 aa b2=>?_;have b6:Sl eG I7 (.slice (some ⟨nb,0,none⟩) 1 1) [d]:=⟨_,_,rfl,.inr ⟨nb,0,_,rfl,az b2 (by simp[aD,Value.cells]) (by simp[aD,Value.cells,iv,sD,rD]),.one (ct (abV ac aa))⟩⟩;refine lY ?_;refine bf a5 [1,0] fun a1=>?_;refine bl (R:=eG) (xs:=o) (ys:=[d]) a1 (by exact vP) (eF.le hB (abV ac aa)) b6 (fun{I J c a} h k=>eG.le h k) (fun{I} c a h=>eG.len c a h) (fun{I} c a h=>eG.ones h) rfl rfl rfl rfl (by simp only[aaj,aaO];omega) (by simp only[aaj,aaO];unfold maxLen;omega) fun ua uc I8 B8 ao aS cc=>?_;apply RG;simp only[go_sem,iv,sD,rD,e1];refine bf ao [1,0] fun a2=>?_;have k8:=abV ac (abV aa aS);refine am (i+1,.slice ua (o++[d]).length uc) _ _ dt bM (by simp only[go_sem,aa6,Ux]) ⟨I8,_,B8,o++[d],rfl,a2,abV a0 k8,bs,eF.le bx k8,cc,by simp;omega,?_⟩;simp only;rw[aj,ak]
   ·rw[hk]at hz;have ak:sC o d=o.dropLast++[{ x with cond:=x.cond.or d.cond }]:=by
     unfold sC;rw[an];simp only;rw[aaq (abl hk)]
    have b0:o.set q { x with cond:=x.cond.or d.cond }=o.dropLast++[{ x with cond:=x.cond.or d.cond }]:=by
     obtain⟨w,rfl⟩:=List.getLast?_eq_some_iff.1 an;have:w.length=q:=by simp at hq;exact hq
     rw[List.dropLast_concat,List.set_append_right _ _ ab,this];simp
    apply au;simp only[go_sem,iv,sD,rD,hz];refine aw ?_;apply RG;simp only[go_sem,iv,sD,rD,hz];refine eP [0,1,2,3,4,5,6,7,8,9,10,11,12] [6] [] ?_;refine lE ?_;refine⟨ab,?_⟩;refine W7 (l:=[sD ya yk x.cond,rD x.cond]) (v:=.agg #[sD ya yk x.cond,rD x.cond]) rfl (by simpa using cellsU a6 (.tail _ (.tail _ (.head _))) aq) (.inl ⟨r9,rfl⟩) ?_;refine lE ?_;refine aE a6 [0,1] [] [_,_] rfl yj rfl (KP (cx.le ac) (c8.le ac)) fun v I7 qs a5 aa hq=>?_;obtain⟨rfl,cl⟩:=hq;obtain⟨za,zk,rfl⟩:=cl.shape2;simp only[Z3]at a5 |-;refine lE ?_;refine⟨ab,?_⟩;refine nI a5 [1,0] fun a1=>?_;refine aQ a1 rfl rfl rfl rfl rfl rfl (by exact Ds) (by simp;omega) fun ao=>?_;refine lE ?_;refine aw ?_;apply RG;simp only[go_sem,iv,sD,rD,e1];refine bf ao [1,0] fun a2=>?_;have dj:=a7 I7 [sD za zk (x.cond.or d.cond),rD (x.cond.or d.cond)] { x with cond:=x.cond.or d.cond } (abV ac aa) (by simp) ⟨za,zk,by simp[br,sD,rD],cl⟩;have k8:=abV ac aa;refine am (i+1,.slice (some ⟨g2,0,none⟩) o.length oc) _ _ dt bM (by simp only[go_sem,aa6,Ux]) ⟨I7,_,_,_,rfl,a2,abV a0 k8,bs,eF.le bx k8,dj,by simp;omega,?_⟩;simp only;rw[aj,ak,b0]
 ·have:i=E.length:=by omega
  subst this;have ci:=Z6 E.length;rw[aaS]at ho;have ba:=(m0.all E [] [] m0.nil cb (by simpa[bF]using cj)).eq (by simpa using dd) cm;rw[<-ho]at ba;refine bf bb [0,1] fun a1=>?_;refine ae (c:=.st _) a1 fun I9 a1 a9 dA=>?_;apply RG;simp only[go_sem,iv,ci];exact af rfl a1 (r:=[_]) rfl (abV b4 (abV b3 (abV a0 a9))) ⟨B,rfl,by rw[<-ba];exact eF.le hB a9⟩
def Tb:aO Tryz.prog 38:=⟨_,Tryz.func38,rfl,rfl⟩
def L4:aO Tryz.prog 22:=⟨_,Tryz.func22,rfl,rfl⟩
def Ly:aO Tryz.prog 19:=⟨_,Tryz.func19,rfl,rfl⟩
def SH:aO Tryz.prog 69:=⟨_,Tryz.func69,rfl,rfl⟩
def NT(I:PH)(c:List Value)(t:Tr):Prop:=∃vk vd,c=[vk,vd]/\eE I vk t.kids/\sB vk/\Sl eG I vd t.diags/\sB vd
def NT.le{J:PH}{c:List Value}{t:Tr}(h:NT I c t)(k:I.le J):NT J c t:=by
 obtain⟨vk,vd,e,h1,h2,h3,h4⟩:=h;exact⟨vk,vd,e,eE.le h1 k,h2,SlE.le h3 k,h4⟩
def NT.len(c:List Value)(t:Tr)(h:NT I c t):c.length=2:=by obtain⟨vk,vd,e,_⟩:=h;rw[e];rfl
def WK(vl:Value)(n:Nat)(x:Nat×Value×Value):St:=⟨dn 32 [(2,.p 2 0),(3,.p 3 0),(6,.v vl),(7,.v (iv n)),(8,.v (iv x.1))],[⟨2,36,[.slice none 0 0,.slice none 0 0]⟩,⟨3,36,[x.2.1,x.2.2]⟩]⟩
def Zw(l:List Tr)(I0:PH)(x:Nat×Value×Value)(H:PH):Prop:=∃I A B,H=U [I,A,B]/\Dj [I,A,B]/\I0.le I/\x.1<=l.length/\bQ I A x.2.1 ((l.take x.1).flatMap (·.kids))/\eF I B x.2.2 ((l.take x.1).flatMap (·.diags))
def sH{β:Type}(f:α->List β)(i:Nat)(l:List α):((l.take i).flatMap f).length<=(l.flatMap f).length:=by
 conv=>rhs;rw[<-abq i l]
 rw[abk,aa9];omega
theorem Q1{l:List Tr}(hS:Sl NT I v l)(hl:l.length<=100)(hk:iE (l.flatMap (·.kids)))(hf:nJ (l.flatMap (·.kids)))(hz:du (l.flatMap (·.kids))<=aN)(he:Ce (l.flatMap (·.diags)))(b5:(l.flatMap (·.diags)).length<=aN):
  aK Tryz.prog 38 #[v] I [] fun r I2 qs=>qs=[]/\He I2 r (WM l):=by
 obtain⟨va,vc,rfl,_⟩:=id hS;have cm:=iI (l.flatMap (·.kids));have ca:=hz;have a6:=b5;unfold aN at ca a6;intro hd;refine ah 32 Tryz.func38 fun w0=>?_;refine aT ?_;refine aR hd fun cf=>?_;refine aR cf fun bs=>?_;refine aA (fun x=>l.length-x.1) (WK (.slice va l.length vc) l.length) (Zw l I) (0,.slice none 0 0,.slice none 0 0) bM (by simp only[go_sem,aa6,WK]) ?_ ?_
 ·exact⟨I,_,_,rfl,bs,abW _,aaL _,Ow.nil _ _ _ _,Ow.nil _ _ _ _⟩
 rintro⟨i,vk,vd⟩ H ⟨I1,A1,B1,rfl,bd,ao,hi,hA,hB⟩ aq;simp only at hi hA hB;simp only[WK];obtain⟨aa,ac,rfl⟩:=hA.shape;obtain⟨ba,bc,rfl⟩:=hB.shape;rcases aaf i l.length with b4|cn
 ·have h9:decide ((i:Int)<(l.length:Int))=true:=abU ab;have e1:IntKind.i64.wrap ((i:Int)+1)=((i+1:Nat):Int):=by rw[<-wrap64 (n:=i+1) ab];congr 1
  obtain⟨t,ht⟩:∃t,l[i]?=some t:=⟨_,aak b4⟩;obtain⟨b,off,cs,rfl,ci,a3⟩:=Sl.load (fun{I} c a h=>NT.len c a h) (Sl.le (R:=NT) (fun{I J c a} h k=>NT.le h k) hS ao) ht;obtain⟨wk,wd,rfl,b2,cb,b3,cc⟩:=ci;obtain⟨ka,kc,rfl,_⟩:=id b2;obtain⟨da,dc,rfl,_⟩:=id b3;have ek:(l.take (i+1)).flatMap (·.kids)=(l.take i).flatMap (·.kids)++t.kids:=by rw[db ht,abk];simp
  have ed:(l.take (i+1)).flatMap (·.diags)=(l.take i).flatMap (·.diags)++t.diags:=by rw[db ht,abk];simp
  have lk:=sH (fun t:Tr=>t.kids) (i+1) l;have ld:=sH (fun t:Tr=>t.diags) (i+1) l;rw[ek,aa9]at lk;rw[ed,aa9]at ld;apply RG;simp only[go_sem,iv,h9]
  try refine⟨ab,?_⟩
  refine XN (l:=[.slice ka t.kids.length kc,.slice da t.diags.length dc]) (v:=.agg #[.slice ka t.kids.length kc,.slice da t.diags.length dc]) rfl (cellsU bd (.head _) a3) (.inl ⟨Vd,rfl⟩) ?_;refine dP ?_;refine bl (R:=bm) (xs:=(l.take i).flatMap (·.kids)) (ys:=t.kids) bd (by exact dQ) hA b2 (fun{I J c a} h k=>bm.le h k) (fun{I} c a h=>bm.len c a h) (fun{I} c a h=>bm.ones h) rfl rfl rfl rfl ab (by unfold maxLen;omega) fun ua uc I3 A3 a2 ak b1=>?_;refine dP ?_;refine bf a2 [1,0] fun a1=>?_;refine bl (R:=eG) (xs:=(l.take i).flatMap (·.diags)) (ys:=t.diags) a1 (by exact vP) (eF.le hB ak) (SlE.le b3 ak) (fun{I J c a} h k=>eG.le h k) (fun{I} c a h=>eG.len c a h) (fun{I} c a h=>eG.ones h) rfl rfl rfl rfl ab (by unfold maxLen;omega) fun wa wc I4 B4 bb aj b0=>?_;apply RG;simp only[go_sem,iv,e1];refine bf bb [1,0] fun a4=>?_;exact aq (i+1,.slice ua ((l.take i).flatMap (·.kids)++t.kids).length uc,.slice wa ((l.take i).flatMap (·.diags)++t.diags).length wc) _ _ dt bM (by simp only[go_sem,aa6,WK]) ⟨I4,A3,B4,rfl,a4,abV ao (abV ak aj),b4,by simp only;rw[ek];exact bQ.le b1 aj,by simp only;rw[ed];exact b0⟩
 ·have:i=l.length:=by omega
  subst this;have h9:=Z6 l.length;have b6:=hA.capN bm.len;rw[aaS]at hA hB b6 |-;refine bf bd [0,1] fun a2=>?_;refine ae (c:=.st _) a2 fun I3 a2 ak b1=>?_;refine bf a2 [0] fun a1=>?_;refine ae (c:=.st _) a1 fun I4 a1 aj b0=>?_;have hK:=bQ.sl (J:=I4) hA (abV ak aj) (abV b1 aj);have hE:=eF.sl (eF.le hB ak) aj b0;have k4:=abV ao (abV ak aj);apply RG;simp only[go_sem,iv,h9];refine eP [0,1,3,4,2,5,6,7] [] [] ?_;refine dS ?_;refine cv a1 rfl Nu (OT (gJ (l.flatMap (·.kids))+1) (aba _) hK b6 hk hf hz) fun v5 I5 qs bb a0 hq=>?_;obtain⟨K,rfl,a5⟩:=hq;obtain⟨qa,qc,rfl⟩:=a5.shape;have hK5c:=a5.capN bm.len;refine dS ?_;refine aE bb [0] [] [K] rfl Sr rfl (NH (SlE.le hE a0) b5 he) fun v6 I6 qs a4 aS hq=>?_;obtain⟨E,rfl,bx⟩:=hq;simp only[Z3]at a4 |-;obtain⟨ra,rc,rfl⟩:=bx.shape;have hE6c:=Ow.capN (R:=eG) bx (fun c a h=>eG.len c a h);refine dS ?_;refine aw ?_;refine bf a4 [0,1] fun a9=>?_;refine ae (c:=.st _) a9 fun I7 a9 an cl=>?_;refine bf a9 [0] fun a7=>?_;refine ae (c:=.st _) a7 fun I8 a7 am cj=>?_;refine aT ?_;refine af rfl a7 (r:=[.agg #[.slice qa (mL (gJ (l.flatMap (·.kids))+1) (l.flatMap (·.kids))).length qc,.slice ra (Eo (l.flatMap (·.diags))).length rc]]) (by simp only[Tryz.results38,go_sem,iv]) (abV k4 (abV a0 (abV aS (abV an am)))) ⟨rfl,_,_,rfl,?_,hK5c,?_,hE6c⟩
  ·have e:mL (gJ (l.flatMap (·.kids))+1) (l.flatMap (·.kids))=(WM l).kids:=tp (ZR _) (Nat.le_succ _);rw[e]at a5 |-;exact bQ.sl (bQ.le a5 (abV aS an)) am cj
  ·exact SlE.le (eF.sl bx an cl) am
end Go.Proofs.YtfaclfkpnmcmlaaGreatDoor
namespace Syn
open Dg
def tk(k:Nat)(s:bq):Tok:=⟨k,s,tt,true⟩
def mU:T:=.nd 0 ff tt
def XF:List Tok:=[tk 1 [118,97,114],tk 1 [120],tk 3 [58],⟨1,[105,110,116],mU,true⟩,⟨1,[98,111,111,108],mU.not,true⟩,tk 3 [59]]
def Uk:List Tok:=[tk 1 [102,110],tk 1 [109,97,105,110],tk 3 [40],tk 3 [41],tk 3 [123],tk 1 [112,114,105,110,116],tk 2 [49],tk 3 [43],tk 2 [50],tk 3 [42],tk 2 [51],tk 3 [59],tk 3 [125]]
def rB:bW:=⟨[⟨2,[120],1,0,[⟨5,[105,110,116],3,0,[],mU⟩,⟨5,[98,111,111,108],4,0,[],mU.not⟩],tt⟩],[(6,tt)],[]⟩
def lA:List Nd:=[⟨3,[109,97,105,110],1,0,[⟨6,[],4,2,[⟨11,[],5,0,[⟨13,[43],7,0,[⟨15,[49],6,0,[],tt⟩,⟨13,[42],9,1,[⟨15,[50],8,0,[],tt⟩,⟨15,[51],10,1,[],tt⟩],tt⟩],tt⟩],tt⟩],tt⟩],tt⟩]
mutual
def Xc:Nd->Nd->Bool
 |⟨k,t,o,s,ks,d⟩,⟨k',t',o',s',ks',d'⟩=>decide (k=k') && decide (t=t') && decide (o=o') && decide (s=s') && Ng ks ks' && decide (d=d')
def Ng:List Nd->List Nd->Bool
 | [],[]=>true
 |n::l,m::k=>Xc n m && Ng l k
 |_,_=>false
end
mutual
theorem R3:∀{a b:Nd},Xc a b=true->a=b
 |⟨k,t,o,s,ks,d⟩,⟨k',t',o',s',ks',d'⟩,h=>by
  simp only[Xc,aao,aaC]at h
  obtain⟨⟨⟨⟨⟨h1,h2⟩,h3⟩,h4⟩,h5⟩,h6⟩:=h
  rw[h1,h2,h3,h4,EJ h5,h6]
theorem EJ:∀{a b:List Nd},Ng a b=true->a=b
 | [],[],_=>rfl
 |n::l,m::k,h=>by
  simp only[Ng,aao]at h
  rw[R3 h.1,EJ h.2]
 | [],m::k,h=>by simp[Ng]at h
 |n::l,[],h=>by simp[Ng]at h
end
def YE(o:Option bW)(r:bW):Bool:=match o with
 |some x=>Ng x.l r.l && decide (x.f=r.f) && decide (x.e=r.e)
 |none=>false
def KV{o:Option bW}{r:bW}(h:YE o r=true):o=some r:=by
 cases o with
 |none=>cases h
 |some x=>
  simp only[YE,aao,aaC]at h;obtain⟨⟨h1,h2⟩,h3⟩:=h;cases x;cases r
  simp only at h1 h2 h3;rw[EJ h1,h2,h3]
def Xo:run XF iW (.seqL true 0 [(0,tt)] [] [])=some rB:=KV (by decide +kernel)
def rA:bW:=⟨lA,[(13,tt)],[]⟩
def Xr:run Uk iW (.seqL true 0 [(0,tt)] [] [])=some rA:=KV (by decide +kernel)
def VK:mL (gJ (pI rB)) (pI rB)=[⟨1,[],-1,0,rB.l,tt⟩]/\Eo rB.e=[]:=⟨by rfl,by rfl⟩
def We:mL (gJ (pI rA)) (pI rA)=[⟨1,[],-1,0,lA,tt⟩]/\Eo rA.e=[]:=⟨by rfl,by rfl⟩
def SL:bT Uk:=fun t h=>by
 simp only[Uk,tk,aad,aaB,or_false]at h;rcases h with h|h|h|h|h|h|h|h|h|h|h|h|h<;>subst h<;>exact trivial
def XP{t:Tr}(h:Rx XF tt t):t=⟨[⟨1,[],-1,0,rB.l,tt⟩],[]⟩:=by
 rcases h with ⟨e,_⟩|⟨_,r,er,et⟩
 ·cases e
 ·rw[Xo]at er;cases er
  rw[et,VK.1,VK.2]
def Yk:Rx Uk tt ⟨[⟨1,[],-1,0,lA,tt⟩],[]⟩:=by
 refine .inr ⟨by decide,rA,Xr,?_⟩;rw[We.1,We.2]
def SP{w:T}(hw:w.ok 0){t:Tr}(h:Rx Uk w t){c:bP}(hc:w.at' c=true):prj c t=⟨[⟨1,[],-1,0,lA,tt⟩],[]⟩:=by
 rw[NZ SL hw (show tt.ok 0 from trivial) h Yk hc rfl];rfl
end Syn
namespace Go.Proofs.YtfaclfkpnmcmlaaGreatDoor
open Go Go.Sx Dg Syn
def DS{K:Type}[DecidableEq K](lt:K->K->Bool)(k:K):∀l:List K,(vI lt k l).length<=l.length+1
 | []=>ZR _
 |y::l=>by
  have:=DS lt k l;simp only[vI];split
  ·simp
  ·split
   ·simp only[aaj];omega
   ·simp
def zJ{K:Type}[DecidableEq K](lt:K->K->Bool):∀l:List K,(pZ lt l).length<=l.length
 | []=>ZR _
 |y::l=>by
  have h1:=zJ lt l;have h2:=DS lt y (pZ lt l);show (vI lt y (pZ lt l)).length<=_;simp only[aaj];omega
def Rb(e:List cO):(Eo e).length<=e.length:=by
 unfold Eo Un;rw[aah];refine ZS (zJ _ _) ?_;rw[aah];exact List.length_filter_le ..
def Ub(t:Tr):Prop:=du t.kids<=aN/\t.diags.length<=aN
theorem Ub.prj{t:Tr}(c:Nat)(h:Ub t):Ub (prj (ch c) t):=⟨ZS (BH _ _) h.1,by
 have h2:((t.diags.filter fun d=>d.cond.at' (ch c)).map fun d=>{ d with cond:=tt }).length<=t.diags.length:=by
  rw[aah];exact List.length_filter_le ..
 exact ZS h2 h.2⟩
def Xs(ts:List Tok)(w:T)(r:Value)(I2:PH):Prop:=∃t,Rx (ts.map refit) w t/\He I2 r t/\Ub t
structure uL(I:PH)(v:Value)(ts:List Tok):Prop where
 sh:∃lv ga gn gc,v=.agg #[lv,.slice ga gn gc]/\Sl dz I lv ts
 ok:bT ts
 len:ts.length<=16384
 txt:∀t∈ts,t.text.length<2^40
variable{ts:List Tok}{v:Value}{I:PH}
def uL.le{J:PH}(h:uL I v ts)(k:I.le J):uL J v ts:=
 ⟨let ⟨lv,ga,gn,gc,e,hs⟩:=h.sh;⟨lv,ga,gn,gc,e,Sl.le (R:=dz) (fun{I J c a} h k=>dz.le h k) hs k⟩,h.ok,h.len,h.txt⟩
def ns(h:bT ts):bT (ts.map refit):=fun t ht=>by
 obtain⟨s,hs,rfl⟩:=List.mem_map.1 ht;exact h s hs
def Pe(h:∀t∈ts,t.text.length<2^40)(i:Nat):(X (ts.map refit) i).length<4611686018427387904:=by
 unfold X cQ;split
 ·rename_i t ht;split
  ·obtain⟨s,hs,rfl⟩:=List.mem_map.1 (aaV ht);have:=h s hs;show s.text.length<_;omega
  ·simp
 ·simp
theorem DB{vd:Value}{w:T}(hV:ir I)(hT:uL I v ts)(hW:cX I vd w):aK Tryz.prog 22 #[v,vd] I [] fun r I2 qs=>qs=[]/\Xs ts w r I2:=by
 obtain⟨⟨lv,ga,gn,gc,rfl,hS⟩,a3,hl,hx⟩:=hT;obtain⟨la,lc,rfl,_⟩:=id hS;obtain⟨wa,wk,rfl⟩:=hW.shape2;intro hd;refine ah 39 Tryz.func22 fun w0=>?_
 try simp only[sD,rD,iv]
 refine aT ?_;refine WZ rfl jt (gO (hW.le (cP hd))) fun v H2 hv=>?_;obtain⟨rfl,rfl⟩:=hv;cases cb:decide (w=.lf false)
 rotate_left
 ·have ct:w=ff:=by simpa using cb
  refine aT ?_;exact af rfl hd (r:=[.agg #[.slice none 0 0,.slice none 0 0]]) (by simp only[Tryz.results22,go_sem,iv]) (abW _) ⟨rfl,⟨[],[]⟩,.inl ⟨ct,rfl⟩,⟨_,_,rfl,⟨none,0,rfl,.inl rfl⟩,lM,⟨none,0,rfl,.inl rfl⟩,lM⟩,by exact⟨aaL _,aaL _⟩⟩
 have a2:w≠ff:=by simpa using cb
 refine aT ?_;refine bV hd rfl TC (CA hV hS hl hx) fun v1 I1 qs cA a0 hq=>?_;obtain⟨pb,fv,rfl,rfl,hF⟩:=hq;have hP:zr I1 (ts.map refit) (.slice la ts.length lc) fv:=⟨Sl.refit (Sl.le (R:=dz) (fun{I J c a} h k=>dz.le h k) hS a0),hF,by simpa using hl,ns a3⟩;obtain⟨r,er,fn,re,rl⟩:=Jd (ns a3) hW.1 a2 (by simpa using hl);obtain⟨q0,_,RR0⟩:=jR (ns a3) hW.1 a2 er (fun _=>false);have cm:=Lh (ns a3) (by simpa using hl) hW.1 a2 er;have cp:=TU (ns a3) (by simpa using hl) (Pe hx) hW.1 a2 er;obtain⟨cn,_⟩:=E7 RR0.fok RR0.lok;have dj:du (nX (ii r.f) r.l)+1=du (pI r):=by unfold pI;rw[bp,dJ]
 unfold Tk at cm;refine OZ ?_;refine aR cA fun cy=>?_;refine bf cy [1,0] fun cx=>?_;refine ad cx [0,1] [sg pb _,_] [] rfl Sa rfl (Dp (o:=0) ab er hP (hW.le a0) a2 (Ow.nil _ _ _ _) (by have re':=re;unfold aN at re';simp only[aaO];unfold ux;omega)) fun v2 I2 qs cf bd hq=>?_;obtain⟨dv2,D2,rs,rfl,a6,⟨A,B,va,vb,rfl,rfl,hA,hB⟩,ds,dk⟩:=hq;rw[aaA]at a6;simp only[Z3]at cf |-;obtain⟨aa,ac,rfl⟩:=hA.shape;obtain⟨ba,bc,rfl⟩:=hB.shape;obtain⟨ea,ec,rfl⟩:=a6.shape;have da:=hA.capN bm.len;have c7:=Ow.capN (R:=eG) a6 (fun c a h=>eG.len c a h);refine bf cf [0,1,2,3] fun b1=>?_;refine ae b1 fun I3 b1 aS cB=>?_;refine bf b1 [0,1,2] fun b0=>?_;refine ae b0 fun I4 b0 aq c8=>?_;refine bf b0 [0,1] fun bx=>?_;refine ae bx fun I5 bx ao dc=>?_;refine bf bx [0] fun bs=>?_;refine ae bs fun I6 bs an c9=>?_;have ca:=abV aq (abV ao an);have cj:=abV aS ca;have a7:aP I6 pb 4 [.slice ea r.e.length ec]:=(ay (by simp) rfl:aP (sg pb (cg (.slice la ts.length lc) fv (.slice none 0 0) (.slice ea r.e.length ec) 0)) pb 4 [.slice ea r.e.length ec]).le (abV cB ca);have c3:eE I6 (.slice aa r.l.length ac) r.l:=eE.le (bQ.sl (bQ.le hA (abV aS aq)) ao dc) an;have c6:Sl eG I6 (.slice ea r.e.length ec) r.e:=SlE.le (eF.sl (eF.le a6 aS) aq c8) (abV ao an);have c5:eR I6 (.slice ba r.f.length bc) r.f:=Ow.sl (R:=iD) (fun{I J c a} h k=>iD.le h k) (Ow.le (R:=iD) (fun{I J c a} h k=>iD.le h k) hB (abV aS (abV aq ao))) an c9;have cl:=abV bd cj;refine aT ?_;refine bV bs rfl Ta (U8 c5 (by have:=fn.len;simp only[aah]at this;omega)) fun v3 I7 qs cc am hq=>?_;obtain⟨rfl,a9⟩:=hq;obtain⟨za,zk,rfl⟩:=a9.shape2
 refine dg ?_;refine XN (l:=[.slice ea r.e.length ec]) rfl (cellsU cc (.head _) (a7.le am)) (.inr ⟨Te,rfl⟩) ?_;refine lY ?_;refine eP [0,1,3,2,4,5,6,7] [] [] ?_;refine lE ?_;refine cv cc rfl K8 (Jb (du r.l+1) (aba _) (eE.le c3 am) da a9 (by unfold aN;omega)) fun v4 I8 qs b5 bb hq=>?_;obtain⟨K,rfl,hK⟩:=hq;obtain⟨ka,kc,rfl⟩:=hK.shape;have c4:=hK.capN bm.len;refine lE ?_;refine bj b5 (by exact dQ) rfl rfl rfl rfl rfl bg fun nb I9 b4 a4 cr=>?_;refine lE ?_;refine aw ?_;refine bf b4 [0] fun a1=>?_;refine ae (c:=.st _) a1 fun ci a1 ak b6=>?_;have c2:eE ci (.slice ka (nX (ii r.f) r.l).length kc) (nX (ii r.f) r.l):=bQ.sl (bQ.le hK a4) ak b6;have k710:=abV bb (abV a4 ak);have c1:eE ci (.slice (some ⟨nb,0,none⟩) 1 1) (pI r):=iJ ((az cr (by simp[aD,Value.cells]) (by simp[aD,Value.cells,iv,sD,rD]):aP I9 nb 0 _).le ak) (bm.mk (n:=⟨1,[],-1,0,nX (ii r.f) r.l,ii r.f⟩) (a9.le k710) c2 c4);refine lY ?_;refine ax a1 (by exact Xn) rfl rfl rfl rfl rfl bg fun mb dd b3 aj cs=>?_;have c0:Sl NT dd (.slice (some ⟨mb,0,none⟩) 1 1) [⟨pI r,r.e⟩]:=⟨_,_,rfl,.inr ⟨mb,0,_,rfl,az cs (by simp[aD,Value.cells]) (by simp[aD,Value.cells]),.one ⟨_,_,rfl,eE.le c1 aj,⟨ZR _,fun _=>by unfold maxLen;omega⟩,SlE.le c6 (abV am (abV k710 aj)),c7⟩⟩⟩;refine aT ?_;refine bV b3 rfl Tb (Q1 c0 (by simp) (by simpa using cn) (by simpa using cp) (by simp only[abg,List.flatMap_nil,aa6];unfold aN;omega) (by simpa using RR0.eok) (by simpa using re)) fun v5 dv qs b2 a5 hq=>?_;obtain⟨rfl,hR⟩:=hq;have em:WM [⟨pI r,r.e⟩]=⟨mL (gJ (pI r)) (pI r),Eo r.e⟩:=by simp[WM]
 rw[em]at hR;obtain⟨_,_,rfl,hR⟩:=hR;obtain⟨⟨xa,xc,rfl,_⟩,_,⟨ya,yc,rfl,_⟩,_⟩:=id hR;refine aT ?_;refine af rfl b2 (r:=[.agg #[.slice xa (mL (gJ (pI r)) (pI r)).length xc,.slice ya (Eo r.e).length yc]]) (by simp only[Tryz.results22,go_sem]) (abV a0 (abV cl (abV am (abV k710 (abV aj a5))))) ⟨rfl,_,.inr ⟨a2,r,er,rfl⟩,⟨_,_,rfl,hR⟩,?_,?_⟩
 ·have:=HA (gJ (pI r)) (pI r);show du (mL (gJ (pI r)) (pI r))<=aN;unfold aN;omega
 ·exact ZS (Rb r.e) re
def Vn{c:Nat}(hc:c<2^32):AM .u32 (Gs .u32) (c:Int)=((4294967295 ^^^ c:Nat):Int):=by
 have hm:Gs .u32=((4294967295:Nat):Int):=by decide
 rw[hm];have hb:(4294967295:Nat)<2^32:=by decide
 have ea:BitVec.ofInt 32 ((4294967295:Nat):Int)=BitVec.ofNat _ 4294967295:=by rw[BitVec.ofInt_natCast]
 have eb:BitVec.ofInt 32 (c:Int)=BitVec.ofNat _ c:=by rw[BitVec.ofInt_natCast]
 have hx:4294967295 ^^^ c<2^32:=Nat.xor_lt_two_pow hb hc;have:AM .u32 ((4294967295:Nat):Int) (c:Int)=IntKind.u32.wrap ((BitVec.ofInt 32 ((4294967295:Nat):Int) ^^^ BitVec.ofInt 32 (c:Int)).toNat:Int):=rfl;rw[this,ea,eb,BitVec.toNat_xor,BitVec.toNat_ofNat,BitVec.toNat_ofNat,Nat.mod_eq_of_lt hb,Nat.mod_eq_of_lt hc];simp only[IntKind.wrap,show IntKind.bits .u32=32 from rfl,show IntKind.signed .u32=false from rfl];have:((4294967295 ^^^ c:Nat):Int) % (2^32:Int)=((4294967295 ^^^ c:Nat):Int):=abm ab (by exact_mod_cast hx);simpa using this
def Vh(ts:List Tok)(c:Nat)(r:Value)(I2:PH):Prop:=∃t,Rx (ts.map refit) (jx c (4294967295 ^^^ c)) t/\He I2 r (prj (ch c) t)/\Ub (prj (ch c) t)
def Gw{c:Nat}(hV:ir I)(hT:uL I v ts)(hc:c<2^32):aK Tryz.prog 19 #[v,.int .u32 c] I [] fun r I2 qs=>qs=[]/\Vh ts c r I2:=by
 obtain⟨lv,ga,gn,gc,rfl,hS⟩:=hT.sh;obtain⟨la,lc,rfl,_⟩:=id hS;have hx:4294967295 ^^^ c<2^32:=Nat.xor_lt_two_pow bg hc;intro hd;refine ah 13 Tryz.func19 fun w0=>?_;refine aT ?_;refine eP [0,1,2,3,6,4,5,7,8] [] [] ?_;apply au;simp only[go_sem,Vn hc];refine cv hd rfl SH (FD hc hx) fun v1 I1 qs aS aa hq=>?_;obtain⟨rfl,hW⟩:=hq;obtain⟨wa,wk,rfl⟩:=hW.shape2;refine gw ?_;refine cv aS rfl L4 (DB (hV.le aa) (hT.le aa) hW) fun v2 I2 qs aq aj hq=>?_;obtain⟨rfl,t,hF,hR,an,am⟩:=hq;obtain⟨xk,xd,rfl,⟨ua,uc,rfl,_⟩,_,⟨wa',wc,rfl,_⟩,_⟩:=id hR;refine gw ?_;refine cv aq rfl SK (HU hR hc an am) fun v3 I3 qs ao ac hq=>?_;obtain⟨rfl,ak⟩:=hq;obtain⟨yk,yd,rfl,⟨xa,xc,rfl,_⟩,_,⟨ya,yc,rfl,_⟩,_⟩:=id ak;refine gw ?_;refine aw ?_;refine aT ?_;exact af rfl ao (r:=[.agg #[.slice xa (prj (ch c) t).kids.length xc,.slice ya (prj (ch c) t).diags.length yc]]) (by simp only[Tryz.results19,go_sem]) (abV aa (abV aj ac)) ⟨rfl,t,hF,ak,Ub.prj c ⟨an,am⟩⟩
def S8:aO Tryz.prog 16:=⟨_,Tryz.func16,rfl,rfl⟩
def ot(_:PH)(c:List Value)(x:Nat):Prop:=c=[.int .u32 x]/\x<2^32
def ot.len(c:List Value)(x:Nat)(h:ot I c x):c.length=1:=by rw[h.1];rfl
abbrev O4(I A:PH)(v:Value)(l:List Nat):Prop:=Ow ot 23 1 I A v l
abbrev JF(I:PH)(v:Value)(l:List Nat):Prop:=Sl ot I v l
variable{l:List Nat}
def O4.le{J A:PH}(h:O4 I A v l)(k:I.le J):O4 J A v l:=Ow.le (R:=ot) (fun{I J c a} h k=>h) h k
def JF.le{J:PH}(h:JF I v l)(k:I.le J):JF J v l:=Sl.le (R:=ot) (fun{I J c a} h k=>h) h k
def Vt(u:Nat)(x:Nat×Value):St:=⟨dn 35 [(0,.v (.int .u32 u)),(3,.v x.2),(4,.v (iv x.1))],[]⟩
def Zy(u:Nat)(I0:PH)(x:Nat×Value)(H:PH):Prop:=∃I A l,H=U [I,A]/\Dj [I,A]/\I0.le I/\x.1<=32/\O4 I A x.2 l/\l=eY u x.1
def QM(u i n:Nat)(x:Nat×Value):St:=⟨dn 35 [(0,.v (.int .u32 u)),(3,.v x.2),(4,.v (iv i)),(5,.v (iv n)),(6,.v (iv x.1))],[]⟩
def Yg(l0:List Nat)(b:Nat)(I0:PH)(x:Nat×Value)(H:PH):Prop:=∃I A l,H=U [I,A]/\Dj [I,A]/\I0.le I/\x.1<=l0.length/\O4 I A x.2 l/\l=l0++(l0.take x.1).map (fun x=>x|||2^b)
def m9(u:Nat):∀i,(eY u i).length=2^pR u i
 |0=>rfl
 |i+1=>by
  have ih:=m9 u i;have hp:pR u (i+1)=pR u i+(u.testBit i).toNat:=rfl;unfold eY;by_cases h:u.testBit i=true
  ·rw[aaq h,hp,h,aa9,aah,ih,show (true:Bool).toNat=1 from rfl,abd];omega
  ·have h':u.testBit i=false:=by simpa using h
   rw[ZV h,hp,h',ih];rfl
theorem uf{u:Nat}(hu:u<2^32)(hp:pR u 32<=8):aK Tryz.prog 21 #[.int .u32 u] I [] fun r I2 qs=>qs=[]/\JF I2 r (eY u 32):=by
 intro hd;refine ah 35 Tryz.func21 fun w0=>?_;refine aT ?_;refine fx hd (by exact Lw) rfl rfl rfl rfl rfl bg fun b0 A0 ca a6=>?_;have ci:O4 I A0 (.slice (some ⟨b0,0,none⟩) 1 1) [0]:=⟨_,a6,⟨[.int .u32 0],[],by simp[aD,Value.cells],⟨rfl,by decide⟩,rfl⟩⟩;refine aT ?_;refine aA (fun x=>32-x.1) (Vt u) (Zy u I) (0,.slice (some ⟨b0,0,none⟩) 1 1) bM (by simp only[go_sem,aa6,Vt]) ?_ ?_
 ·exact⟨I,A0,[0],rfl,ca,abW _,aaL _,ci,rfl⟩
 rintro⟨i,vo⟩ H ⟨I1,A1,l,rfl,ba,aj,hi,hA,a0⟩ aa;simp only at hi hA a0;have a7:l.length=2^pR u i:=by rw[a0];exact m9 u i
 simp only[Vt];obtain⟨oa,oc,rfl⟩:=hA.shape;rcases aaf i 32 with a5|cn
 ·have h9:decide ((i:Int)<32)=true:=abU ab;have e1:IntKind.i64.wrap ((i:Int)+1)=((i+1:Nat):Int):=by rw[<-wrap64 (n:=i+1) ab];congr 1
  have a1:=UC hu (i:=i) ab;have cj:=ZS (NA u (i:=i+1) (j:=32) ab) hp;have bd:pR u (i+1)=pR u i+(u.testBit i).toNat:=rfl;have bb:l.length<=256:=by
   rw[a7];exact ZS (abe ab (show pR u i<=8 by omega)) bg
  cases hb:u.testBit i
  ·rw[hb]at a1 bd;apply RG;simp only[go_sem,iv,h9,abt,a1,Bool.toNat_false,abo,e1];exact aa (i+1,.slice oa l.length oc) _ _ dt bM (by simp only[go_sem,aa6,Vt]) ⟨I1,A1,l,rfl,ba,aj,a5,hA,by simp only;rw[a0,eY,ZV (by rw[hb];decide)]⟩
  ·rw[hb]at a1 bd;have cl:(true:Bool).toNat=1:=rfl;have bx:l.length<=128:=by
    rw[a7];exact ZS (abe ab (show pR u i<=7 by omega)) bg
   apply RG;simp only[go_sem,iv,h9,abt,a1,Bool.toNat_true,abo];refine aA (fun x=>l.length-x.1) (QM u i l.length) (Yg l i I1) (0,.slice oa l.length oc) bM (by simp only[go_sem,aa6,QM]) ?_ ?_
   ·exact⟨I1,A1,l,rfl,ba,abW _,aaL _,hA,by simp⟩
   rintro⟨k,vq⟩ H ⟨I2,A2,m,rfl,ak,aS,hk,a4,an⟩ ac;simp only at hk a4 an;have cm:m.length=l.length+k:=by rw[an,aa9,aah,abF];omega
   simp only[QM];obtain⟨qa,qc,rfl⟩:=a4.shape;rcases aaf k l.length with a2|b4
   ·have bc:decide ((k:Int)<(l.length:Int))=true:=abU ab;have e2:IntKind.i64.wrap ((k:Int)+1)=((k+1:Nat):Int):=by rw[<-wrap64 (n:=k+1) ab];congr 1
    obtain⟨x,hx⟩:∃x,m[k]?=some x:=⟨_,aak ab⟩;obtain⟨g,cap,cur,c,ev,rfl,c1,c2,hc,cp,a3,_⟩:=a4.elem (fun{I} c a h=>ot.len (I:=I) c a h) (fun{I J c a} h k=>h) hx;cases ev
    obtain⟨rfl,am⟩:=hc;have b3:l[k]?=some x:=by rw[<-hx,an,aaG a2]
    have bs:2^i<2^32:=Nat.pow_lt_pow_right ab a5;have q1:Uu .u32 (x:Int) (yR .u32 1 (i:Int))=((x|||2^i:Nat):Int):=by rw[RA a5];exact CN am bs
    have b2:x|||2^i<2^32:=Nat.or_lt_two_pow am bs;apply RG;simp only[go_sem,iv,bc];refine eP [0,1,2,3,4,5,6,7,8,9,10] [4] [] ?_;refine dS ?_
    try refine⟨ab,?_⟩
    refine W7 (l:=[.int .u32 x]) rfl (by simpa using cellsU ak (.tail _ (.head _)) a3) (.inr ⟨oR,rfl⟩) ?_;apply au;simp only[go_sem,iv,abt,q1];refine bj ak (by exact Lw) rfl rfl rfl rfl rfl bg fun nb I4 b6 ao b1=>?_;have cb:Sl ot I4 (.slice (some ⟨nb,0,none⟩) 1 1) [x|||2^i]:=⟨_,_,rfl,.inr ⟨nb,0,_,rfl,az b1 (by simp[aD,Value.cells]) (by simp[aD,Value.cells]),.one ⟨rfl,b2⟩⟩⟩;refine dS ?_;refine fP (R:=ot) (xs:=m) (ys:=[x|||2^i]) b6 (by exact Lw) (O4.le a4 ao) cb (fun{I J c a} h k=>h) (fun{I} c a h=>ot.len (I:=I) c a h) (fun{I} c a h=>by rw[h.1];rfl) rfl rfl rfl rfl rfl rfl (by simp only[aaj,aaO];omega) (by simp only[aaj,aaO];unfold maxLen;omega) fun ua uc I5 A5 b5 a9 cc=>?_;refine dS ?_;refine aw ?_;apply RG;simp only[go_sem,iv,e2];exact ac (k+1,.slice ua (m++[x|||2^i]).length uc) _ _ dt bM (by simp only[go_sem,aa6,QM]) ⟨I5,A5,m++[x|||2^i],rfl,b5,abV aS (abV ao a9),a2,cc,by simp only;rw[df b3,abP,<-aaT,<-an];rfl⟩
   ·have:k=l.length:=by omega
    subst this;have bc:=Z6 l.length;apply RG;simp only[go_sem,iv,bc,e1];exact aa (i+1,.slice qa m.length qc) _ _ dt bM (by simp only[go_sem,aa6,Vt]) ⟨I2,A2,m,rfl,ak,abV aj aS,a5,a4,by simp only;rw[an,aaS,eY,aaq hb,<-a0]⟩
 ·have:i=32:=by omega
  subst this;have bb:l.length<=256:=by
   rw[a7];exact ZS (abe ab hp) bg
  refine bf ba [0] fun ak=>?_;refine ae (c:=.st _) ak fun I3 ak aq cf=>?_;apply RG;simp only[go_sem,iv,abo];exact af rfl ak (r:=[_]) rfl (abV aj aq) ⟨rfl,by rw[<-a0];exact Ow.sl (R:=ot) (fun{I J c a} h k=>h) hA aq cf⟩
def U3(v:Value)(vc:Value)(x:Nat×Value):St:=⟨dn 30 [(0,.v v),(5,.v x.2),(6,.v vc),(7,.v (iv x.1))],[]⟩
def Zh(m:List Nat)(cl:List (Nat×Nat))(I0:PH)(x:Nat×Value)(H:PH):Prop:=∃I A l,H=U [I,A]/\Dj [I,A]/\I0.le I/\x.1<=m.length/\O4 I A x.2 l/\l=(m.take x.1).filter (Ek cl)
theorem Gz{l:List (Nat×Nat)}{u:Nat}(hS:Ch I v l)(hl:l.length<2^60)(hu:u<2^32)(hp:pR u 32<=8):aK Tryz.prog 25 #[v,.int .u32 u] I [] fun r I2 qs=>qs=[]/\JF I2 r (jE l u):=by
 obtain⟨va,vc,rfl,_⟩:=id hS;intro hd;refine ah 30 Tryz.func25 fun w0=>?_;refine aT ?_;refine bV hd rfl EO (uf hu hp) fun v1 I1 qs a9 ao hq=>?_;obtain⟨rfl,hm⟩:=hq;have a5:(eY u 32).length<=256:=by rw[m9];exact ZS (abe ab hp) bg
 have aq:jE l u=(eY u 32).filter (Ek l):=rfl;rw[aq];clear aq;generalize eY u 32=m at hm a5 |-;obtain⟨ma,mc,rfl,_⟩:=id hm;refine aT ?_;refine aR a9 fun a7=>?_;refine aA (fun x=>m.length-x.1) (U3 (.slice va l.length vc) (.slice ma m.length mc)) (Zh m l I1) (0,.slice none 0 0) bM (by simp only[go_sem,aa6,U3]) ?_ ?_
 ·exact⟨I1,_,[],rfl,a7,abW _,aaL _,Ow.nil _ _ _ _,by simp⟩
 rintro⟨i,vo⟩ H ⟨I2,A2,o,rfl,an,ac,hi,hA,am⟩ aj;simp only at hi hA am;have bd:o.length<=i:=by rw[am];exact ZS (List.length_filter_le _ _) (by rw[abF];omega)
 simp only[U3];obtain⟨oa,oc,rfl⟩:=hA.shape;rcases aaf i m.length with a0|bs
 ·have a2:decide ((i:Int)<(m.length:Int))=true:=abU ab;have e1:IntKind.i64.wrap ((i:Int)+1)=((i+1:Nat):Int):=by rw[<-wrap64 (n:=i+1) ab];congr 1
  obtain⟨x,hx⟩:∃x,m[i]?=some x:=⟨_,aak a0⟩;obtain⟨b,off,cs,rfl,⟨rfl,x32⟩,ak⟩:=Sl.load (fun{I} c a h=>ot.len (I:=I) c a h) (JF.le hm ac) hx;apply RG;simp only[go_sem,iv,a2]
  try refine⟨ab,?_⟩
  refine XN (l:=[.int .u32 x]) rfl (cellsU an (.head _) (by simpa using ak)) (.inr ⟨oR,rfl⟩) ?_;refine dP ?_;refine WZ rfl Ts (XZ (Ch.le hS (abV ao (abV ac (cP an)))) hl x32) fun v H2 hv=>?_;obtain⟨rfl,rfl⟩:=hv;cases a3:Ek l x
  ·apply RG;simp only[go_sem,iv,e1];exact aj (i+1,.slice oa o.length oc) _ _ dt bM (by simp only[go_sem,aa6,U3]) ⟨I2,A2,o,rfl,an,ac,a0,hA,by simp only;rw[df hx,List.filter_append,<-am];simp[a3]⟩
  ·refine dP ?_
   try refine⟨ab,?_⟩
   refine XN (l:=[.int .u32 x]) rfl (cellsU an (.head _) (by simpa using ak)) (.inr ⟨oR,rfl⟩) ?_;refine dP ?_;refine ax an (by exact Lw) rfl rfl rfl rfl rfl bg fun nb I4 aS aa a4=>?_;have ba:Sl ot I4 (.slice (some ⟨nb,0,none⟩) 1 1) [x]:=⟨_,_,rfl,.inr ⟨nb,0,_,rfl,az a4 (by simp[aD,Value.cells]) (by simp[aD,Value.cells]),.one ⟨rfl,x32⟩⟩⟩;refine dP ?_;refine bl (R:=ot) (xs:=o) (ys:=[x]) aS (by exact Lw) (O4.le hA aa) ba (fun{I J c a} h k=>h) (fun{I} c a h=>ot.len (I:=I) c a h) (fun{I} c a h=>by rw[h.1];rfl) rfl rfl rfl rfl (by simp only[aaj,aaO];omega) (by simp only[aaj,aaO];unfold maxLen;omega) fun ua uc I5 A5 a6 a1 bb=>?_;apply RG;simp only[go_sem,iv,e1];exact aj (i+1,.slice ua (o++[x]).length uc) _ _ dt bM (by simp only[go_sem,aa6,U3]) ⟨I5,A5,o++[x],rfl,a6,abV ac (abV aa a1),a0,bb,by simp only;rw[df hx,List.filter_append,<-am];simp[a3]⟩
 ·have:i=m.length:=by omega
  subst this;have a2:=Z6 m.length;refine bf an [0] fun aS=>?_;refine ae (c:=.st _) aS fun I4 aS aa bc=>?_;apply RG;simp only[go_sem,iv,a2];exact af rfl aS (r:=[_]) rfl (abV ao (abV ac aa)) ⟨rfl,by rw[aaS]at am;rw[<-am];exact Ow.sl (R:=ot) (fun{I J c a} h k=>h) hA aa bc⟩
end Go.Proofs.YtfaclfkpnmcmlaaGreatDoor
