import Derived.Test.YtfaclfkpnmcmlaaGreatDoorS08
import Derived.Test.YtfaclfkpnmcmlaaGreatDoorS09
import Derived.Test.YtfaclfkpnmcmlaaGreatDoorS10
import Derived.Test.YtfaclfkpnmcmlaaGreatDoorS11
import Derived.Test.YtfaclfkpnmcmlaaGreatDoorS12
import Derived.Test.YtfaclfkpnmcmlaaGreatDoorS13
set_option maxHeartbeats 8000000
set_option linter.all false
namespace Go.Proofs.YtfaclfkpnmcmlaaGreatDoor
open Go Go.Sx Dg Syn
theorem FY:aP Tryz.prog 84:=⟨_,Tryz.func84,rfl,rfl⟩
theorem Ib:aP Tryz.prog 146:=⟨_,Tryz.func146,rfl,rfl⟩
theorem Fk{I:PH}{v:Value}{l:List Nd}(hS:db I v l)(hl:l.length<=aF):aO Tryz.prog 146 #[v] I [] fun r I2 qs=>∃A,qs=[A]/\br I2 A r l:=by
 intro hd;obtain⟨fa,fc,rfl,ak⟩:=id hS;unfold aF at hl;refine ir 8 Tryz.func146 fun w0=>?_;cases fa with
 |none=>
  have am:l=[]:=by
   rcases ak with h|⟨b,off,xs,e,_⟩
   ·exact h
   ·cases e
  subst am;refine Un ?_;refine kw rfl rfl (by exact GT) rfl rfl ?_;apply RG;simp only[go_sem,Option.isNone];refine aT hd fun aj=>?_;exact ai rfl aj (r:=[_]) rfl (Uj _) ⟨_,rfl,Ow.nil _ _ _ _⟩
 |some a=>
  refine Un ?_;refine kw rfl rfl (by exact GT) rfl rfl ?_;apply RG;simp only[go_sem,Option.isNone];refine dP hd (by exact cT) rfl rfl rfl rfl rfl Vm fun b A aj aa=>?_;refine Un ?_;refine aY aj (by exact cT) (xs:=([]:List Nd)) (R:=aW) ⟨[],aa,rfl⟩ hS (fun{I J c a} h k=>aW.le h k) (fun{I} c a h=>aW.len c a h) (fun{I} c a h=>aW.ones h) rfl rfl rfl rfl (by simp only[S9];omega) (by simp only[S9];unfold maxLen;omega) fun a2 c2 I2 A2 an ac ao=>?_;apply RG;simp only[go_sem,SU];exact ai rfl an (r:=[_]) rfl ac ⟨_,rfl,ao⟩
theorem yv:∀(o:List Nd) (n:Nd),cK (pW o n)<=cK o+(cK n.kids+1)
 | [],n=>by simp only[pW,a8,cR];omega
 |m::o,n=>by
  rw[pW];split
  ·simp only[a8,fB];omega
  ·have:=yv o n;simp only[a8];omega
theorem sS:∀(l o:List Nd),cK (l.foldl qU o)<=cK o+cK l
 | [],o=>R7 _
 |n::l,o=>by
  have h1:=sS l (qU o n);have h2:cK (qU o n)<=cK o+(cK n.kids+1):=by
   unfold qU;split
   ·omega
   ·exact yv o n
  rw[Sj,a8];omega
theorem qz{C:Cx}{c:Cf}{σ:St}{H H':PH}(e:H=H')(h:RC C c σ H'):RC C c σ H:=by rw[e];exact h
theorem GQ{o:List Nd}{j:Nat}{m m':Nd}(hj:o[j]?=some m)(hk:m'.key=m.key)(y u:Value):Gi (o.set j m') y u<->Gi o y u:=by
 have aa:=(List.getElem?_eq_some_iff.1 hj).1;constructor
 ·rintro⟨i,x,hi,hy,hu⟩;rw[Tj]at hi;split at hi
  ·rename_i e;subst e;cases hi
   exact⟨j,m,hj,by rw[hy,hk],hu⟩
  ·exact⟨i,x,hi,hy,hu⟩
 ·rintro⟨i,x,hi,hy,hu⟩;by_cases e:i=j
  ·subst e;rw[hj]at hi;cases hi
   exact⟨i,m',List.getElem?_set_self aa,by rw[hy,hk],hu⟩
  ·exact⟨i,x,by rw[List.getElem?_set_ne (fun e2=>e e2.symm)];exact hi,hy,hu⟩
theorem Dh{o:List Nd}{n:Nd}(aa:∀x∈o,x.key≠n.key)(y u:Value):Gi (o++[n]) y u<->(y=nJ n.key/\u=iv o.length)\/(y≠nJ n.key/\Gi o y u):=by
 constructor
 ·rintro⟨i,x,hi,hy,hu⟩;rcases Sw i o.length with h|h
  ·rw[S1 h]at hi;refine .inr ⟨fun e=>aa x (Tg hi) (yU (hy.symm.trans e)),i,x,hi,hy,hu⟩
  ·rw[S2 h]at hi;have:i-o.length=0:=by
    rcases TI (i-o.length)with h0|h0
    ·exact h0
    ·rw[SF (by simp;omega)]at hi;cases hi
   rw[this]at hi;cases hi
   exact .inl ⟨hy,by rw[hu];congr 1;omega⟩
 ·rintro(⟨hy,hu⟩|⟨_,i,x,hi,hy,hu⟩)
  ·exact⟨o.length,n,by simp,hy,hu⟩
  ·exact⟨i,x,by rw[S1 (List.getElem?_eq_some_iff.1 hi).1];exact hi,hy,hu⟩
theorem nZ{l:List Nd}(h:fX l)(k:nL):fX (cF l k):=fD.2 fun x hx=>by
 obtain⟨n,hn,_,_,hx⟩:=js hx;exact fD.1 (eC.1 (fD.1 h n hn)).2 x hx
theorem uy{l:List Nd}{k:nL}{d:Nat}(h:eX l<d+1)(hk:k∈ks l):eX (cF l k)<d:=by
 obtain⟨n,hn,_⟩:=s6.1 hk;have h1:=o4 hn;rw[wi]at h1;have h2:eX l<=(d-1)+1:=by omega
 have:=tT (k:=k) h2;omega
theorem qI{α:Type}[Inhabited α]{lt:α->α->Bool}{d e:Array α}(p:Sort.PermIn 0 d.size d e)(s:Sort.SortedIn lt 0 d.size e):e.toList.Perm d.toList/\e.toList.Pairwise (fun a b=>lt b a=false):=by
 have hz:=p.1;refine⟨?_,List.pairwise_iff_getElem.2 fun i j hi hj aa=>?_⟩
 ·have h:=p.2.2;rw[show e.extract 0 d.size=e by rw[<-hz];simp,show d.extract 0 d.size=d by simp]at h;exact h
 ·simp only[Sk]at hi hj;have:=s i j (S6 _) aa Vi;rw[getElem!_pos e j hj,getElem!_pos e i hi]at this;simpa using this
def Kh(vl vm:Value)(n:Nat)(x:Nat×Value):St:=⟨dn 87 [(3,.v vm),(4,.v x.2),(12,.v vl),(13,.v (iv n)),(14,.v (iv x.1))],[]⟩
def Q3(l:List Nd)(mr:Nat)(I0:PH)(x:Nat×Value)(H:PH):Prop:=∃I M A l',H=U [I,M,A,U (l'.map Prod.fst)]/\Dj [I,M,A,U (l'.map Prod.fst)]/\Dj (l'.map Prod.fst)/\I0.le I/\x.1<=l.length/\jh Tryz.prog M mr 240 (Gi (l'.map Prod.snd))/\Ow oj 60 7 I A x.2 l'/\l'.map Prod.snd=(l.take x.1).foldl qU []
def Pa(v:Value)(n i:Nat):St:=⟨dn 87 [(4,.v v),(70,.v v),(71,.v (iv n)),(72,.v (iv i))],[]⟩
theorem Ia{l':List (PH×Nd)}{j:Nat}{m:Nd}(h:(l'.map Prod.snd)[j]?=some m):∃K,l'[j]?=some (K,m):=by
 rw[SA]at h;cases hl:l'[j]? with
 |none=>rw[hl]at h;cases h
 |some p=>rw[hl]at h;simp only[So,Sc]at h;exact⟨p.1,by rw[<-h]⟩
theorem Gd:∀(d:Nat) {I:PH} {v:Value} {l:List Nd},eX l<d->db I v l->oU v->fX l->kG l->cK l<=aF->aO Tryz.prog 84 #[v] I [] fun r I2 qs=>∃A,qs=[A]/\br I2 A r (kH d l):=by
 intro d
 induction d with
 |zero=>intro I v l h;omega
 |succ d ih=>
 intro I v l d6 hS hC dw el ed hd;obtain⟨va,vc,rfl,_⟩:=id hS;have fn:=gw l;unfold aF at ed;refine ir 87 Tryz.func84 fun w0=>?_
 try simp only[iv]
 refine Un ?_;refine lW 240 hd rfl rfl fun mr M0 e7 fb=>?_;refine Un ?_;refine aT e7 fun e4=>?_;refine aT e4 fun e2=>?_;refine Um e2 [2,0,1] fun e0=>?_;apply cO (fun x=>l.length-x.1) (Kh (.slice va l.length vc) (.map (some mr)) l.length) (Q3 l mr I) (fun x H=>x.1=l.length/\Q3 l mr I x H) (0,.slice none 0 0)
 ·exact Uo
 ·exact(by simp only[go_sem,Tq,Kh])
 ·exact⟨I,M0,PH.no,[],rfl,e0,List.Pairwise.nil,Uj _,S6 _,fb.congr fun y u=>⟨fun⟨j,m,h,_⟩=>by simp at h,fun h=>h.elim⟩,Ow.nil _ _ _ _,rfl⟩
 ·rintro⟨i,vo⟩ H ⟨I1,M1,A1,l',rfl,bc,b6,ao,hi,cp,a5,a6⟩ am da;simp only at hi a5 a6;simp only[Kh];obtain⟨oa,oc,rfl⟩:=a5.shape;rcases Sw i l.length with an|eA
  rotate_left
  ·have:i=l.length:=by omega
   subst this;have eb:=Z6 l.length;apply bq 7;simp only[go_sem,eb,iv];exact da (l.length,.slice oa l'.length oc) _ _ Uo (by simp only[go_sem,Tq,Kh]) ⟨rfl,I1,M1,A1,l',rfl,bc,b6,ao,R7 _,cp,a5,a6⟩
  have eb:decide ((i:Int)<(l.length:Int))=true:=by simp;omega
  have ec:=rJ hC an;obtain⟨n,hn⟩:∃n,l[i]?=some n:=⟨_,SC an⟩;have eg:=Tg hn;have eq:=(eC.1 (fD.1 dw n eg)).1;obtain⟨b,off,cs,rfl,e8,dd⟩:=Sl.load aW.len (db.le hS ao) hn;obtain⟨vk,na,nk,rfl,a1,ak,dk⟩:=e8.shape;obtain⟨ka,kc,rfl,_⟩:=id ak;have aS:=CK.of (l:=l) (fun x hx=>(eC.1 (fD.1 dw x hx)).1) i Vi;have a0:(l.take (i+1)).foldl qU []=qU (l'.map Prod.snd) n:=by rw[cv hn,T9,a6];rfl
  rw[<-a6]at aS;have dA:cK (l'.map Prod.snd)+(cK n.kids+1)<=cK l:=by
   rw[a6];have h1:=sS (l.take i) [];rw[cR,Sf]at h1;have h2:cK (l.take (i+1))<=cK l:=by
    conv=>rhs;rw[<-TL (i+1) l]
    rw[fB];omega
   rw[cv hn,fB,a8,cR]at h2;omega
  have bb:=gw (l'.map Prod.snd);rw[Sz]at bb;apply RG;simp only[go_sem,eb,iv,sD,rD];refine⟨Vi,?_⟩;refine Qz (l:=[.int .u8 n.kind,.string ⟨⟨n.text⟩⟩,.int .i64 n.tok,.int .i64 n.slot,.slice ka n.kids.length kc,sD na nk n.cond,rD n.cond]) (v:=.agg #[.int .u8 n.kind,.string ⟨⟨n.text⟩⟩,.int .i64 n.tok,.int .i64 n.slot,.slice ka n.kids.length kc,sD na nk n.cond,rD n.cond]) rfl (cellsU bc (.head _) dd) (.inl ⟨bT,rfl⟩) ?_;refine Uv ?_;refine Pf rfl gK (fq a1) fun v H2 hv=>?_;obtain⟨rfl,rfl⟩:=hv;cases dx:decide (n.cond=.lf false)
  rotate_left
  ·have eH:n.cond=ff:=by simpa using dx
   apply RG;simp only[go_sem,iv,sD,rD,dx,ec];exact am (i+1,.slice oa l'.length oc) _ _ V9 Uo (by simp only[go_sem,Tq,Kh]) ⟨I1,M1,A1,l',rfl,bc,b6,ao,an,cp,a5,by simp only;rw[a0,qU,SI eH]⟩
  have er:n.cond≠ff:=by simpa using dx
  have ds:qU (l'.map Prod.snd) n=pW (l'.map Prod.snd) n:=Sb er;apply RG;simp only[go_sem,iv,sD,rD,dx];refine Pf rfl oB (yz _ _ _ _ _ _ _ _ _ _ _ _) fun v H2 hv=>?_;obtain⟨rfl,rfl⟩:=hv;refine Uv ?_;have b0:=Mk (iL.1 el n eg);have eo:=cp.atU bc (.tail _ (.head _));by_cases d5:∃(j:Nat) (m:Nd),(l'.map Prod.snd)[j]?=some m/\m.key=n.key
  ·obtain⟨j,m,hj,d3⟩:=d5;obtain⟨Kj,d4⟩:=Ia hj;have cl:=(List.getElem?_eq_some_iff.1 d4).1;refine kh (by exact LP) (by exact Gr) Hw (key:=nJ n.key) rfl rfl rfl rfl eo b0 (iv j) true (.inl ⟨rfl,j,m,hj,by rw[d3],rfl⟩) ?_;apply RG;simp only[go_sem,iv,sD,rD,Ud];have fg:(l'.map Prod.fst)[j]?=some Kj:=by rw[SA,d4];rfl
   obtain⟨ue,ud⟩:=L3 (l:=[I1,M1,A1]) bc b6 fg;have cb:Dj [I1,M1,A1,Kj,U ((l'.map Prod.fst).eraseIdx j)]:=ud;rw[show U [I1,M1,A1,U (l'.map Prod.fst)]=U [I1,M1,A1,Kj,U ((l'.map Prod.fst).eraseIdx j)] from ue];clear ue ud;obtain⟨g,cap,cur,xs,ev,rfl,c1,c2,c3,c4,c5,ba⟩:=a5.open' Vi oj.len;cases ev
   obtain⟨vkj,ma,mk,cn,cA,a2⟩:=ba.get oj.len d4;obtain⟨kja,kjc,rfl⟩:=a2.shape;have bd:l'.length*7<=cur.size:=by rw[c3];exact Tb _ c1
   have fr:(j+1)*7<=l'.length*7:=Tb _ cl;have a4:=fp (k:=5) (m:=2) (e:=60) (g:=g) (cur:=cur) oj.len ba (i:=j) cl bd c4 cn Vi;simp only[TT,Tm,TW,TV]at a4;refine V8 [0,1,2,3,4,5,6,7,8,9,10,11,12] [6] [] ?_;refine Ut ?_;refine⟨Vi,?_⟩;refine P7 (l:=[sD ma mk m.cond,rD m.cond]) (v:=.agg #[sD ma mk m.cond,rD m.cond]) rfl (by simpa using cellsU cb (.tail _ (.tail _ (.head _))) a4) (.inl ⟨oQ,rfl⟩) ?_;refine Ut ?_;refine i7 cb [0,1,2,3] [] [M1,_,Kj,_] rfl sQ rfl (G1 cA a1) fun v I6 qs a7 ac hq=>?_;obtain⟨rfl,ef⟩:=hq;obtain⟨za,zk,rfl⟩:=ef.shape2;simp only[Z3]at a7 |-;refine Ut ?_;refine⟨Vi,?_⟩;refine UT a7 [1,0,2,3] fun ca=>?_;refine aH ca rfl rfl rfl rfl rfl rfl (by exact zp) (by simp;omega) fun cm=>?_;refine Ut ?_;refine aw ?_;have cx:Ow oj 60 7 I6 (sg g (.cells (be cur.toList (j*7+5) [sD za zk (m.cond.or n.cond),rD (m.cond.or n.cond)]).toArray 60 (0,0))) (.slice (some ⟨g,0,none⟩) l'.length oc) (l'.set j (Kj,{ m with cond:=m.cond.or n.cond })):=by
    refine⟨_,?_,lz oj.len (ba.mono fun _ _ h=>oj.le h ac) (i:=j) cl cn (k:=5) (cs:=[sD za zk (m.cond.or n.cond),rD (m.cond.or n.cond)]) (a:=(Kj,{ m with cond:=m.cond.or n.cond })) (by simp) ⟨.slice kja m.kids.length kjc,za,zk,by simp[be,sD,rD],ef,br.le a2 ac⟩⟩;rw[Tl];exact kI c5 c1 c2 c3 c4 (by simp;omega)
   have a9:Dj [I6,sg g (.cells (be cur.toList (j*7+5) [sD za zk (m.cond.or n.cond),rD (m.cond.or n.cond)]).toArray 60 (0,0)),M1,Kj,U ((l'.map Prod.fst).eraseIdx j)]:=cm
   change RC _ _ _ (U [I6,sg g (.cells (be cur.toList (j*7+5) [sD za zk (m.cond.or n.cond),rD (m.cond.or n.cond)]).toArray 60 (0,0)),M1,Kj,U ((l'.map Prod.fst).eraseIdx j)])
   clear cm ca a7 cb ba cn a4;generalize sg g (.cells (be cur.toList (j*7+5) [sD za zk (m.cond.or n.cond),rD (m.cond.or n.cond)]).toArray 60 (0,0))=A2 at cx a9;obtain⟨g2,cap2,cur2,xs2,ev2,rfl,b1,b2,b3,b4,b5,bx⟩:=cx.open' (by rw[Tl];omega) oj.len;rw[Tl]at ev2 b1 b4 b5;cases ev2
   have ey:(l'.set j (Kj,{ m with cond:=m.cond.or n.cond }))[j]?=some (Kj,{ m with cond:=m.cond.or n.cond }):=List.getElem?_set_self cl;obtain⟨vk2,m2a,m2k,dj,cB,a3⟩:=bx.get oj.len ey;obtain⟨k2a,k2c,rfl⟩:=a3.shape;have c9:j<(l'.set j (Kj,{ m with cond:=m.cond.or n.cond })).length:=by rw[Tl];exact cl
   have cy:l'.length*7<=cur2.size:=by rw[b3];exact Tb _ b1
   have c8:=fp (k:=4) (m:=1) (e:=60) (g:=g) (cur:=cur2) oj.len bx (i:=j) c9 (by rw[Tl];exact cy) (by rw[Tl];exact b4) dj Vi;simp only[TT,Tm,TW,TV]at c8;have fl:m.kids.length<=cK (l'.map Prod.snd):=by
    have h1:=oE (Tg hj);have h2:=gw m.kids;omega
   have fk:=gw n.kids;refine Uv ?_;refine V8 [0,1,2,3,4,5,6,7,8,9,10,11,12] [6] [] ?_;refine Ut ?_;refine⟨Vi,?_⟩;refine P7 (l:=[.slice k2a m.kids.length k2c]) (v:=.slice k2a m.kids.length k2c) rfl (by simpa using cellsU a9 (.tail _ (.head _)) c8) (.inr ⟨IF,rfl⟩) ?_;refine Ut ?_;refine UT a9 [2,0,1,3] fun aj=>?_;refine eZ aj (by exact cT) (a3) (db.le ak ac) (fun{I J c a} h k=>aW.le h k) (fun{I} c a h=>aW.len c a h) (fun{I} c a h=>aW.ones h) rfl rfl rfl rfl rfl rfl (by first|omega|(simp only[SB,S9];omega)) (by unfold maxLen;first|omega|(simp only[SB,S9];omega)) fun pa pc I7 K7 ap aa d7=>?_;refine Ut ?_;refine⟨Vi,?_⟩;refine UT ap [1,2,0,3] fun ci=>?_;refine aH ci rfl rfl rfl rfl rfl rfl (by exact GF) (by simp;omega) fun cf=>?_;refine Ut ?_;refine aw ?_;have ct:Ow oj 60 7 I7 (sg g (.cells (be cur2.toList (j*7+4) [.slice pa (m.kids++n.kids).length pc]).toArray 60 (0,0))) (.slice (some ⟨g,0,none⟩) l'.length oc) (l'.set j (K7,{ m with kids:=m.kids++n.kids,cond:=m.cond.or n.cond })):=by
    have p:=lz oj.len (bx.mono fun _ _ h=>oj.le h aa) (i:=j) c9 dj (k:=4) (cs:=[.slice pa (m.kids++n.kids).length pc]) (a:=(K7,{ m with kids:=m.kids++n.kids,cond:=m.cond.or n.cond })) (by simp) ⟨.slice pa (m.kids++n.kids).length pc,m2a,m2k,by simp[be],cB.le aa,d7⟩;rw[List.set_set]at p;refine⟨_,?_,p⟩;rw[Tl];exact kI b5 b1 b2 b3 b4 (by simp;omega)
   apply RG;simp only[go_sem,iv,ec,sD,rD];obtain⟨ue,ud,uk⟩:=Mh (l:=[I7,_,M1]) cf b6 (by rw[Sz];exact cl);have e5:(l'.map Prod.fst).set j K7=(l'.set j (K7,{ m with kids:=m.kids++n.kids,cond:=m.cond.or n.cond })).map Prod.fst:=by rw[List.map_set]
   have e6:(l'.set j (K7,{ m with kids:=m.kids++n.kids,cond:=m.cond.or n.cond })).map Prod.snd=pW (l'.map Prod.snd) n:=by
    rw[List.map_set,rM aS.dist hj d3]
   rw[e5]at ue ud uk;refine qz ue ?_;refine Um ud [1,0,2] fun cc=>?_;refine am (i+1,.slice (some ⟨g,0,none⟩) l'.length oc) _ _ V9 Uo (by simp only[go_sem,Tq,Kh]) ⟨I7,M1,_,_,rfl,cc,uk,Ui ao (Ui ac aa),an,?_,?_,?_⟩
   ·refine cp.congr fun y u=>?_;rw[e6,rM aS.dist hj d3];exact GQ (m':={ m with kids:=m.kids++n.kids,cond:=m.cond.or n.cond }) hj rfl y u
   ·exact ct
   ·simp only;rw[e6,a0,ds]
  ·
   have d0:∀x∈l'.map Prod.snd,x.key≠n.key:=fun x hx e=>by
    obtain⟨j,hj⟩:=List.mem_iff_getElem?.1 hx;exact d5 ⟨j,x,hj,e⟩
   refine kh (by exact LP) (by exact Gr) Hw (key:=nJ n.key) rfl rfl rfl rfl eo b0 (iv 0) false (.inr ⟨rfl,rfl,fun u ⟨j,m,hj,hk,_⟩=>d5 ⟨j,m,hj,(yU hk).symm⟩⟩) ?_;apply RG;simp only[go_sem,iv,sD,rD,T7];refine kM (by exact LP) (by exact Gr) (key:=nJ n.key) (v:=iv l'.length) bc rfl (.inl rfl) rfl rfl rfl cp b0 fun M5 cb fa=>?_;refine Uv ?_;refine f6 cb [0,1,2] [] [M5,A1,_] rfl Ib rfl (Fk ak (by have:=gw n.kids;unfold aF;omega)) fun v I6 qs a7 ac hq=>?_;obtain⟨K6,rfl,cr⟩:=hq;simp only[Z3]at a7 |-;obtain⟨qa,qc,rfl⟩:=cr.shape;refine Uv ?_;refine av a7 (by exact cT) rfl rfl rfl rfl rfl Vm fun nb I7 ca aa es=>?_;have e9:Sl oj I7 (.slice (some ⟨nb,0,none⟩) 1 1) [(K6,n)]:=⟨_,_,rfl,.inr ⟨nb,0,_,rfl,az es (by simp[aE,Value.cells]) (by simp[aE,Value.cells,iv,sD,rD]),.one ⟨.slice qa n.kids.length qc,na,nk,rfl,a1.le (Ui ac aa),br.le cr aa⟩⟩⟩;refine Uv ?_;refine Um ca [2,1,0,3] fun cm=>?_;refine aY (R:=oj) (xs:=l') (ys:=[(K6,n)]) cm (by exact cT) (Ow.le (R:=oj) (fun{I J c a} h k=>oj.le h k) a5 (Ui ac aa)) e9 (fun{I J c a} h k=>oj.le h k) (fun{I} c a h=>oj.len c a h) (fun{I} c a h=>oj.ones h) rfl rfl rfl rfl (by simp only[SB,S9];omega) (by simp only[SB,S9];unfold maxLen;omega) fun ua uc I8 A8 a9 d1 fj=>?_;apply RG;simp only[go_sem,iv,ec,sD,rD];have aj:Dj [I8,A8,M5,K6,U (l'.map Prod.fst)]:=a9;obtain⟨ue,ud,uk⟩:=Mn (l:=[I8,A8,M5]) aj b6;rw[show l'.map Prod.fst++[K6]=(l'++[(K6,n)]).map Prod.fst by simp]at ue ud uk;refine qz ue ?_;refine Um ud [1,0,2] fun ap=>?_;have e6:(l'++[(K6,n)]).map Prod.snd=pW (l'.map Prod.snd) n:=by rw[oF d0];simp
   refine am (i+1,.slice ua (l'++[(K6,n)]).length uc) _ _ V9 Uo (by simp only[go_sem,Tq,Kh]) ⟨I8,M5,A8,l'++[(K6,n)],rfl,ap,uk,Ui ao (Ui ac (Ui aa d1)),an,?_,fj,by simp only;rw[e6,a0,ds]⟩;refine fa.congr fun y u=>?_;rw[e6,oF d0,<-show (l'.map Prod.snd).length=l'.length from Sz ..];exact Dh d0 y u
 rintro⟨i,vo⟩ H ⟨hi,I1,M1,A1,l',rfl,bc,b6,ao,_,cp,a5,a6⟩;simp only at hi a5 a6;subst hi;rw[Td]at a6;simp only[Kh];obtain⟨oa,oc,rfl⟩:=a5.shape;have aS:=CK.of (l:=l) (fun x hx=>(eC.1 (fD.1 dw x hx)).1) l.length (R7 _);rw[Td,<-a6]at aS;have dA:cK (l'.map Prod.snd)<=cK l:=by
  rw[a6];have h1:=sS l [];rw[cR,Sf]at h1;exact h1
 have bb:=gw (l'.map Prod.snd);have ei:(l'.map Prod.snd).length=l'.length:=Sz ..;have cb:Dj [I1,M1,A1,U (l'.map Prod.fst)]:=bc;refine Um cb [2,0,1] fun a7=>?_;refine ag (c:=.st _) a7 fun I2 a7 c7 fi=>?_;have cx:br I2 A1 (.slice oa l'.length oc) (l'.map Prod.snd):=by
  obtain⟨xs,h1,h2⟩:=a5;exact⟨xs,by rw[ei];exact h1,LR.still c7 h2 fun p hp=>Ui (zM b6 (List.mem_map.2 ⟨p,hp,rfl⟩)) fi⟩
 rw[<-ei]at cx |-;generalize l'.map Prod.snd=o at *;refine Uq ?_;have dv:br I2 A1 (.slice oa o.length oc) o.toArray.toList:=cx;refine f6 a7 [1,0] [A1] [M1] rfl IA rfl (MD (d:=o.toArray) dv NJ (by simp;unfold aF;omega)) fun v I3 qs ca d2 hq=>?_;obtain⟨A3,e3,rfl,ct,en,em⟩:=hq;simp only[Z3]at ca |-;obtain⟨dT,ee⟩:=qI en em;have hL:e3.toList=(ks l).map (eW l):=aS.sorted dT ee;have eh:o.length=((ks l).map (eW l)).length:=by rw[<-hL,dT.length_eq]
 have ct:br I3 A3 (.slice oa o.length oc) e3.toList:=ct;rw[hL,eh]at ct;rw[eh];clear cx dv a5 dT ee em en;have dI:=uP l;have fo:=Cp l;have dc:∀n∈(ks l).map (eW l),eX n.kids<d/\fX n.kids/\kG n.kids/\cK n.kids<=2^40:=fun n hn=>by
  obtain⟨k,et,rfl⟩:=List.mem_map.1 hn;refine⟨?_,nZ dw k,As el k,R8 (AZ l k) ed⟩;show eX (cF l k)<d;exact uy d6 et
 have ek:((ks l).map (eW l)).length<=cK l:=R8 (gw _) dI;rw[s8];generalize (ks l).map (eW l)=L at *;refine Uq ?_;refine Um ca [1,0] fun cm=>?_;refine aB (fun i=>L.length-i) (Pa (.slice oa L.length oc) L.length) (fun i H=>∃I5 A5,H=U [I5,M1,A5]/\Dj [I5,M1,A5]/\I3.le I5/\i<=L.length/\br I5 A5 (.slice oa L.length oc) ((L.take i).map (fun(m:Nd)=>{ m with kids:=kH d m.kids })++L.drop i)) 0 Uo (by simp only[go_sem,Tq,Pa]) ?_ ?_
 ·exact⟨I3,A3,rfl,cm,Uj _,S6 _,ct⟩
 rintro i H ⟨I5,A5,rfl,a9,c6,hi,d9⟩ am;simp only[Pa];have ex:=Ui ao (Ui c7 (Ui d2 c6));rcases Sw i L.length with an|eA
 ·have ea:decide ((i:Int)<(L.length:Int))=true:=by simp;omega
  have e1:IntKind.i64.wrap ((i:Int)+1)=((i+1:Nat):Int):=by
   rw[<-wrap64 (n:=i+1) Vi];congr 1
  obtain⟨n,hn⟩:∃n,L[i]?=some n:=⟨_,SC an⟩;obtain⟨p1,p2,p3,p4⟩:=dc n (Tg hn);have cj:((L.take i).map (fun(m:Nd)=>{ m with kids:=kH d m.kids })++L.drop i).length=L.length:=by simp;omega
  have ez:((L.take i).map (fun(m:Nd)=>{ m with kids:=kH d m.kids })++L.drop i)[i]?=some n:=by
   rw[S2 (by simp;omega)];simp only[Sz,T1,S8 (SJ an),Nat.sub_self,Sh,Sd];exact hn
  have ep:((L.take i).map (fun(m:Nd)=>{ m with kids:=kH d m.kids })++L.drop i).set i { n with kids:=kH d n.kids }=(L.take (i+1)).map (fun(m:Nd)=>{ m with kids:=kH d m.kids })++L.drop (i+1):=by
   rw[List.set_append_right _ _ (by simp;omega)];simp only[Sz,T1,S8 (SJ an),Nat.sub_self];rw[cv hn,Uc,Te];congr 1;have:L.drop i=n::L.drop (i+1):=by
    rw[S5 an];rw[SC an]at hn;rw[Tk hn]
   rw[this];rfl
  obtain⟨g,cap,cur,xs,ev,rfl,c1,c2,c3,c4,c5,ba⟩:=d9.open' (by rw[cj];omega) aW.len;rw[cj]at ev c1 c4 c5;cases ev
  obtain⟨vk,na,nk,cn,a1,ak,dk⟩:=(ba.get aW.len ez).shape;obtain⟨ka,kc,rfl,_⟩:=id ak;have bd:L.length*7<=cur.size:=by rw[c3];exact Tb _ c1
  have fs:(i+1)*7<=L.length*7:=Tb _ an;have c8:=fp (k:=4) (m:=1) (e:=60) (g:=g) (cur:=cur) aW.len ba (i:=i) (by rw[cj];exact an) (by rw[cj];exact bd) (by rw[cj];exact c4) cn Vi;simp only[TT,Tm,TW,TV]at c8;apply RG;simp only[go_sem,iv,ea];refine⟨Vi,?_⟩;refine Qz (l:=[.slice ka n.kids.length kc]) rfl (by simpa using cellsU a9 (.tail _ (.tail _ (.head _))) c8) (.inr ⟨IF,rfl⟩) ?_;refine Uq ?_;refine f6 a9 [0,1] [] [M1,_] rfl FY rfl (ih p1 ak dk p2 p3 p4) fun v I6 qs aj ac hq=>?_;obtain⟨K6,rfl,cr⟩:=hq;simp only[Z3]at aj |-;obtain⟨qa,qc,rfl⟩:=cr.shape;have fh:=cr.capN aW.len;refine Um aj [0,1,2] fun ap=>?_;refine ag ap fun I7 ap aa d7=>?_;have fc:db I7 (.slice qa (kH d n.kids).length qc) (kH d n.kids):=br.sl cr aa d7;refine Uq ?_;refine⟨Vi,?_⟩;refine Um ap [1,0] fun ci=>?_;refine cG ci rfl rfl rfl rfl rfl (by exact GF) (by simp;omega) fun cf=>?_;apply RG;simp only[go_sem,iv,e1];refine Um cf [1,0] fun cc=>?_;have dy:=Ui ac aa;refine am (i+1) _ _ Vi Uo (by simp only[go_sem,Tq,Pa]) ⟨I7,_,rfl,cc,Ui c6 dy,an,?_⟩;rw[<-ep];refine⟨_,?_,lz aW.len (ba.mono fun _ _ h=>aW.le h dy) (i:=i) (by rw[cj];exact an) cn (k:=4) (cs:=[.slice qa (kH d n.kids).length qc]) (a:={ n with kids:=kH d n.kids }) (by simp) (aW.mk (n:={ n with kids:=kH d n.kids }) (a1.le dy) fc fh)⟩;rw[Tl,cj];exact kI c5 c1 c2 c3 c4 (by simp;omega)
 ·have:i=L.length:=by omega
  subst this;have ea:=Z6 L.length;rw[Td,T4,Tq]at d9;apply RG;simp only[go_sem,iv,ea];refine Um a9 [0,1] fun aj=>?_;refine ag (c:=.st _) aj fun I9 aj c0 fv=>?_;exact ai rfl aj (r:=[_]) rfl (Ui ex c0) ⟨A5,rfl,br.le d9 c0⟩
theorem Ow.part{α:Type}{R:PH->List Value->α->Prop}{e:TypeId}{size:Nat}{I A:PH}{v:Value}{l:List α}(h:Ow R e size I A v l)(hR:∀{I} c a,R I c a->c.length=size)(ak:∀{I J c a},R I c a->I.le J->R J c a){i:Nat}{x:α}(hi:l[i]?=some x)(k m:Nat)(hk:k+m<=size):
  ∃g cap cur c,v=.slice (some ⟨g,0,none⟩) l.length cap/\A=sg g (.cells cur e (0,0))/\l.length*size<=cur.size/\R I c x/\c.length=size/\aQ A g (i*size+k) ((c.drop k).take m)/\
   ∀J cs y,I.le J->k+cs.length<=size->R J (be c k cs) y->Ow R e size J (sg g (.cells (be cur.toList (i*size+k) cs).toArray e (0,0))) v (l.set i y):=by
 have aa:=(List.getElem?_eq_some_iff.1 hi).1;obtain⟨g,cap,cur,xs,ev,rfl,c1,c2,c3,c4,c5,ac⟩:=h.open' Vi fun c a k=>hR c a k;have ao:l.length*size<=cap*size:=Tb _ c1;have am:(i+1)*size<=l.length*size:=Tb _ aa;rw[Ta,TE]at am;have hg:=ac.get (fun c a k=>hR c a k) hi;have aj:=hR _ _ hg;have hc:=fp (k:=k) (m:=m) (e:=e) (g:=g) (cur:=cur) (fun c a k=>hR c a k) ac aa Vi c4 rfl hk;refine⟨g,cap,cur,_,ev,rfl,Vi,hg,aj,hc,?_⟩;intro J cs y hJ an hy;refine⟨be xs (i*size+k) cs,?_,?_⟩
 ·rw[ev,Tl];exact kI c5 c1 c2 c3 c4 Vi
 ·exact lz (fun c a k=>hR c a k) (ac.mono fun _ _ h=>ak h hJ) aa rfl an hy
def MO(vs:Value)(n i:Nat)(vo:Value):St:=⟨dn 50 [(3,.v vo),(12,.v vs),(13,.v (iv n)),(14,.v (iv i))],[]⟩
theorem DZ{I:PH}{v:Value}{l:List bX}(hS:Sl dg I v l)(hl:l.length<=aF)(cn:xQ l):aO Tryz.prog 95 #[v] I [] fun r I2 qs=>∃A,qs=[A]/\dl I2 A r (yA l):=by
 intro hd;have c5:=hl;unfold aF at c5;obtain⟨va,vc,rfl,_⟩:=id hS;refine ir 50 Tryz.func95 fun w0=>?_;refine Un ?_;refine V7 hd rfl Iq (F2 hS hl) fun v1 I1 qs c8 b5 hq=>?_;obtain⟨K,rfl,hK⟩:=hq;refine Un ?_;refine f6 c8 [0] [K] [] rfl JL rfl (F3 hK hl) fun v2 I2 qs cs c4 hq=>?_;obtain⟨A,rfl,rfl,hA⟩:=hq;simp only[Z3]at cs |-;refine Un ?_;have dx:(kB l).length<=l.length:=List.length_filter_le ..;have ds:dl I2 A v2 (kB l).toArray.toList:=hA;refine f6 cs [0] [A] [] rfl JT rfl (xm ds Om (by simp;unfold aF;omega)) fun v3 I3 qs cr b4 hq=>?_;obtain⟨A3,e3,rfl,bd,dd,dc⟩:=hq;simp only[Z3]at cr |-;obtain⟨a4,cl⟩:=qI dd dc;have bd:dl I3 A3 v2 e3.toList:=bd;have a4:e3.toList.Perm (kB l):=a4;generalize e3.toList=E at bd a4 cl;have hE:=a4.length_eq;have cc:∀d∈E,d.cond.ok 0:=fun d hd=>cn d (List.mem_filter.1 (a4.mem_iff.1 hd)).1;have dj:∀d,d∈E<->d∈l/\d.cond≠ff:=fun d=>by rw[a4.mem_iff];simp[kB]
 obtain⟨ea,ec,rfl⟩:=bd.shape;refine Un ?_;refine aT cr fun c7=>?_;refine Um c7 [1,0] fun c6=>?_;refine aB (fun x=>E.length-x.1) (fun x=>MO (.slice ea E.length ec) E.length x.1 x.2) (fun(x:Nat×Value) H=>∃I5 A5 B o,H=U [I5,A5,B]/\Dj [I5,A5,B]/\I3.le I5/\x.1<=E.length/\dl I5 A5 (.slice ea E.length ec) E/\dl I5 B x.2 o/\o.length<=x.1/\o=(E.take x.1).foldl tD []) (0,.slice none 0 0) Uo (by simp only[go_sem,Tq,MO]) ?_ ?_
 ·exact⟨I3,A3,PH.no,[],rfl,c6,Uj _,S6 _,bd,Ow.nil _ _ _ _,R7 _,rfl⟩
 rintro⟨i,vo⟩ H ⟨I5,A5,B,o,rfl,bb,a0,hi,b0,hB,cB,ho⟩ am;simp only at hi hB cB ho;simp only[MO];obtain⟨oa,oc,rfl⟩:=hB.shape;rcases Sw i E.length with bx|dy
 ·have cj:decide ((i:Int)<(E.length:Int))=true:=Uh Vi;have e1:IntKind.i64.wrap ((i:Int)+1)=((i+1:Nat):Int):=by rw[<-wrap64 (n:=i+1) Vi];congr 1
  have wm:=gd (k:=o.length) Vi;obtain⟨d,cp⟩:∃d,E[i]?=some d:=⟨_,SC bx⟩;obtain⟨g,cap,cur,c,ev,rfl,c1,c2,hc,dA,bc,_⟩:=b0.elem (fun{I} c a h=>dg.len c a h) (fun{I J c a} h k=>dg.le h k) cp;cases ev
  obtain⟨ca,ck,rfl,c9⟩:=id hc;have aj:(E.take (i+1)).foldl tD []=tD o d:=by rw[cv cp,T9,<-ho];rfl
  apply RG;simp only[go_sem,iv,cj,sD,rD];refine⟨Vi,?_⟩;refine Qz (l:=[.int .u8 d.code,.int .i64 d.tok,sD ca ck d.cond,rD d.cond]) (v:=.agg #[.int .u8 d.code,.int .i64 d.tok,sD ca ck d.cond,rD d.cond]) rfl (by simpa using cellsU bb (.tail _ (.head _)) bc) (.inl ⟨iQ,rfl⟩) ?_;apply RG;simp only[go_sem,iv,sD,rD,wm];have cx:∀{J},I5.le J->dg J [.int .u8 d.code,.int .i64 d.tok,sD ca ck d.cond,rD d.cond] d:=fun h=>dg.le hc h;rcases TI o.length with h0|h0
  ·have c0:o=[]:=List.length_eq_zero_iff.1 h0;have ci:decide ((o.length:Int)-1>=0)=false:=Ug Vi;refine V8 [0,1,2,3,4,5,6,7,8,9,10] [6] [] ?_;apply af;simp only[go_sem,iv,sD,rD,ci];refine aw ?_;refine Uv ?_;refine av bb (by exact qR) rfl rfl rfl rfl rfl Vm fun nb I7 a6 aa b3=>?_;have cb:Sl dg I7 (.slice (some ⟨nb,0,none⟩) 1 1) [d]:=⟨_,_,rfl,.inr ⟨nb,0,_,rfl,az b3 (by simp[aE,Value.cells]) (by simp[aE,Value.cells,iv,sD,rD]),.one (cx aa)⟩⟩;refine Uv ?_;refine Um a6 [1,0] fun a5=>?_;refine aY (R:=dg) (xs:=o) (ys:=[d]) a5 (by exact qR) (dl.le hB aa) cb (fun{I J c a} h k=>dg.le h k) (fun{I} c a h=>dg.len c a h) (fun{I} c a h=>dg.ones h) rfl rfl rfl rfl (by simp only[SB,S9];omega) (by simp only[SB,S9];unfold maxLen;omega) fun ua uc I8 B8 a1 aS cf=>?_;apply RG;simp only[go_sem,iv,sD,rD,e1];refine Um a1 [1,0] fun ao=>?_;refine am (i+1,.slice ua (o++[d]).length uc) _ _ V9 Uo (by simp only[go_sem,Tq,MO]) ⟨I8,_,B8,o++[d],rfl,ao,Ui a0 (Ui aa aS),bx,dl.le b0 (Ui aa aS),cf,by simp;omega,?_⟩;simp only;rw[aj,c0];rfl
  ·obtain⟨q,hq⟩:∃q,o.length=q+1:=⟨o.length-1,Vi⟩;have eq1:(o.length:Int)-1=(q:Int):=by omega
   have ci:decide ((q:Int)>=0)=true:=Uh Vi;obtain⟨x,hx⟩:∃x,o[q]?=some x:=⟨_,SC Vi⟩;have an:o.getLast?=some x:=by rw[List.getLast?_eq_getElem?,hq];exact hx
   obtain⟨g2,cap2,cur2,c',ev2,rfl,b1,ct,da,a3,cA⟩:=hB.part (fun{I} c a h=>dg.len c a h) (fun{I J c a} h k=>dg.le h k) hx 0 4 Vi;obtain⟨g3,cap3,cur3,c3,ev3,eA,_,b6,_,ap,a7⟩:=hB.part (fun{I} c a h=>dg.len c a h) (fun{I J c a} h k=>dg.le h k) hx 2 2 Vi;cases ev2
   simp only[Value.slice.injEq,Sc,Addr.mk.injEq,TY,SP]at ev3;obtain⟨eg3,_⟩:=ev3;subst eg3;have ecur:cur2=cur3:=by
    have:=congrFun eA g2;simp only[sg,R9,Sc,Obj.cells.injEq,TY,SP]at this;exact this
   subst ecur;clear eA;obtain⟨xa,xk,rfl,dv⟩:=id ct;obtain⟨ya,yk,rfl,cy⟩:=id b6;simp only[TT,Tm,TW,TV]at ap;have dw:(q+1)*4<=o.length*4:=Tb _ Vi;rw[eq1];refine V8 [0,1,2,3,4,5,6,7,8,9,10] [6] [] ?_;apply af;simp only[go_sem,iv,sD,rD,ci];refine⟨Vi,?_⟩;refine P7 (l:=[.int .u8 x.code,.int .i64 x.tok,sD xa xk x.cond,rD x.cond]) (v:=.agg #[.int .u8 x.code,.int .i64 x.tok,sD xa xk x.cond,rD x.cond]) rfl (by simpa using cellsU bb (.tail _ (.tail _ (.head _))) a3) (.inl ⟨iQ,rfl⟩) ?_;refine Ut ?_;refine i7 bb [0,1] [] [_,_] rfl AV rfl (wh (x:=x) (y:=d) ct hc) fun v I6 qs a6 ac hq=>?_;obtain⟨rfl,rfl⟩:=hq;simp only[Z3]at a6 |-;have hz:=yT x d;cases hk:decide (x.key=d.key)
   ·rw[hk]at hz;have ak:tD o d=o++[d]:=by
     unfold tD;rw[an];simp only;rw[Sb (Ua hk)]
    apply af;simp only[go_sem,iv,sD,rD,hz];refine aw ?_;apply RG;simp only[go_sem,iv,sD,rD,hz];refine av a6 (by exact qR) rfl rfl rfl rfl rfl Vm fun nb I7 a5 aa b3=>?_;have cb:Sl dg I7 (.slice (some ⟨nb,0,none⟩) 1 1) [d]:=⟨_,_,rfl,.inr ⟨nb,0,_,rfl,az b3 (by simp[aE,Value.cells]) (by simp[aE,Value.cells,iv,sD,rD]),.one (cx (Ui ac aa))⟩⟩;refine Uv ?_;refine Um a5 [1,0] fun a1=>?_;refine aY (R:=dg) (xs:=o) (ys:=[d]) a1 (by exact qR) (dl.le hB (Ui ac aa)) cb (fun{I J c a} h k=>dg.le h k) (fun{I} c a h=>dg.len c a h) (fun{I} c a h=>dg.ones h) rfl rfl rfl rfl (by simp only[SB,S9];omega) (by simp only[SB,S9];unfold maxLen;omega) fun ua uc I8 B8 ao aS cf=>?_;apply RG;simp only[go_sem,iv,sD,rD,e1];refine Um ao [1,0] fun a2=>?_;have k8:=Ui ac (Ui aa aS);refine am (i+1,.slice ua (o++[d]).length uc) _ _ V9 Uo (by simp only[go_sem,Tq,MO]) ⟨I8,_,B8,o++[d],rfl,a2,Ui a0 k8,bx,dl.le b0 k8,cf,by simp;omega,?_⟩;simp only;rw[aj,ak]
   ·rw[hk]at hz;have ak:tD o d=o.dropLast++[{ x with cond:=x.cond.or d.cond }]:=by
     unfold tD;rw[an];simp only;rw[SI (TG hk)]
    have b2:o.set q { x with cond:=x.cond.or d.cond }=o.dropLast++[{ x with cond:=x.cond.or d.cond }]:=by
     obtain⟨w,rfl⟩:=List.getLast?_eq_some_iff.1 an;have:w.length=q:=by simp at hq;exact hq
     rw[List.dropLast_concat,List.set_append_right _ _ Vi,this];simp
    apply af;simp only[go_sem,iv,sD,rD,hz];refine aw ?_;apply RG;simp only[go_sem,iv,sD,rD,hz];refine V8 [0,1,2,3,4,5,6,7,8,9,10,11,12] [6] [] ?_;refine Ut ?_;refine⟨Vi,?_⟩;refine P7 (l:=[sD ya yk x.cond,rD x.cond]) (v:=.agg #[sD ya yk x.cond,rD x.cond]) rfl (by simpa using cellsU a6 (.tail _ (.tail _ (.head _))) ap) (.inl ⟨oQ,rfl⟩) ?_;refine Ut ?_;refine i7 a6 [0,1] [] [_,_] rfl sQ rfl (G1 (cy.le ac) (c9.le ac)) fun v I7 qs a5 aa hq=>?_;obtain⟨rfl,cm⟩:=hq;obtain⟨za,zk,rfl⟩:=cm.shape2;simp only[Z3]at a5 |-;refine Ut ?_;refine⟨Vi,?_⟩;refine UT a5 [1,0] fun a1=>?_;refine aH a1 rfl rfl rfl rfl rfl rfl (by exact zp) (by simp;omega) fun ao=>?_;refine Ut ?_;refine aw ?_;apply RG;simp only[go_sem,iv,sD,rD,e1];refine Um ao [1,0] fun a2=>?_;have dk:=a7 I7 [sD za zk (x.cond.or d.cond),rD (x.cond.or d.cond)] { x with cond:=x.cond.or d.cond } (Ui ac aa) (by simp) ⟨za,zk,by simp[be,sD,rD],cm⟩;have k8:=Ui ac aa;refine am (i+1,.slice (some ⟨g2,0,none⟩) o.length oc) _ _ V9 Uo (by simp only[go_sem,Tq,MO]) ⟨I7,_,_,_,rfl,a2,Ui a0 k8,bx,dl.le b0 k8,dk,by simp;omega,?_⟩;simp only;rw[aj,ak,b2]
 ·have:i=E.length:=by omega
  subst this;have cj:=Z6 E.length;rw[Td]at ho;have ba:=(qb.all E [] [] qb.nil cc (by simpa[g9]using cl)).eq (by simpa using dj) cn;rw[<-ho]at ba;refine Um bb [0,1] fun a1=>?_;refine ag (c:=.st _) a1 fun I9 a1 a9 dI=>?_;apply RG;simp only[go_sem,iv,cj];exact ai rfl a1 (r:=[_]) rfl (Ui b5 (Ui b4 (Ui a0 a9))) ⟨B,rfl,by rw[<-ba];exact dl.le hB a9⟩
theorem Ls:aP Tryz.prog 38:=⟨_,Tryz.func38,rfl,rfl⟩
theorem Aw:aP Tryz.prog 22:=⟨_,Tryz.func22,rfl,rfl⟩
theorem Ex:aP Tryz.prog 19:=⟨_,Tryz.func19,rfl,rfl⟩
theorem Mf:aP Tryz.prog 69:=⟨_,Tryz.func69,rfl,rfl⟩
def Hr(I:PH)(c:List Value)(t:Tr):Prop:=∃vk vd,c=[vk,vd]/\db I vk t.kids/\oU vk/\Sl dg I vd t.diags/\oU vd
theorem Hr.le{I J:PH}{c:List Value}{t:Tr}(h:Hr I c t)(k:I.le J):Hr J c t:=by
 obtain⟨vk,vd,e,h1,h2,h3,h4⟩:=h;exact⟨vk,vd,e,db.le h1 k,h2,SlE.le h3 k,h4⟩
theorem Hr.len{I:PH}(c:List Value)(t:Tr)(h:Hr I c t):c.length=2:=by obtain⟨vk,vd,e,_⟩:=h;rw[e];rfl
def Ph(vl:Value)(n:Nat)(x:Nat×Value×Value):St:=⟨dn 32 [(2,.p 2 0),(3,.p 3 0),(6,.v vl),(7,.v (iv n)),(8,.v (iv x.1))],[⟨2,36,[.slice none 0 0,.slice none 0 0]⟩,⟨3,36,[x.2.1,x.2.2]⟩]⟩
def Rh(l:List Tr)(I0:PH)(x:Nat×Value×Value)(H:PH):Prop:=∃I A B,H=U [I,A,B]/\Dj [I,A,B]/\I0.le I/\x.1<=l.length/\br I A x.2.1 ((l.take x.1).flatMap (·.kids))/\dl I B x.2.2 ((l.take x.1).flatMap (·.diags))
theorem ot{α β:Type}(f:α->List β)(i:Nat)(l:List α):((l.take i).flatMap f).length<=(l.flatMap f).length:=by
 conv=>rhs;rw[<-TL i l]
 rw[TF,Tu];omega
theorem IE{I:PH}{v:Value}{l:List Tr}(hS:Sl Hr I v l)(hl:l.length<=100)(hk:fX (l.flatMap (·.kids)))(hf:kG (l.flatMap (·.kids)))(hz:cK (l.flatMap (·.kids))<=aF)(he:xQ (l.flatMap (·.diags)))(b6:(l.flatMap (·.diags)).length<=aF):
  aO Tryz.prog 38 #[v] I [] fun r I2 qs=>qs=[]/\zW I2 r (Pp l):=by
 obtain⟨va,vc,rfl,_⟩:=id hS;have cn:=gw (l.flatMap (·.kids));have cb:=hz;have a6:=b6;unfold aF at cb a6;intro hd;refine ir 32 Tryz.func38 fun w0=>?_;refine Un ?_;refine aT hd fun ci=>?_;refine aT ci fun bx=>?_;refine aB (fun x=>l.length-x.1) (Ph (.slice va l.length vc) l.length) (Rh l I) (0,.slice none 0 0,.slice none 0 0) Uo (by simp only[go_sem,Tq,Ph]) ?_ ?_
 ·exact⟨I,_,_,rfl,bx,Uj _,S6 _,Ow.nil _ _ _ _,Ow.nil _ _ _ _⟩
 rintro⟨i,vk,vd⟩ H ⟨I1,A1,B1,rfl,bd,ao,hi,hA,hB⟩ ap;simp only at hi hA hB;simp only[Ph];obtain⟨aa,ac,rfl⟩:=hA.shape;obtain⟨ba,bc,rfl⟩:=hB.shape;rcases Sw i l.length with b5|cp
 ·have h9:decide ((i:Int)<(l.length:Int))=true:=Uh Vi;have e1:IntKind.i64.wrap ((i:Int)+1)=((i+1:Nat):Int):=by rw[<-wrap64 (n:=i+1) Vi];congr 1
  obtain⟨t,ht⟩:∃t,l[i]?=some t:=⟨_,SC b5⟩;obtain⟨b,off,cs,rfl,cj,a3⟩:=Sl.load (fun{I} c a h=>Hr.len c a h) (Sl.le (R:=Hr) (fun{I J c a} h k=>Hr.le h k) hS ao) ht;obtain⟨wk,wd,rfl,b3,cc,b4,cf⟩:=cj;obtain⟨ka,kc,rfl,_⟩:=id b3;obtain⟨da,dc,rfl,_⟩:=id b4;have ek:(l.take (i+1)).flatMap (·.kids)=(l.take i).flatMap (·.kids)++t.kids:=by rw[cv ht,TF];simp
  have ed:(l.take (i+1)).flatMap (·.diags)=(l.take i).flatMap (·.diags)++t.diags:=by rw[cv ht,TF];simp
  have lk:=ot (fun t:Tr=>t.kids) (i+1) l;have ld:=ot (fun t:Tr=>t.diags) (i+1) l;rw[ek,Tu]at lk;rw[ed,Tu]at ld;apply RG;simp only[go_sem,iv,h9]
  try refine⟨Vi,?_⟩
  refine Qz (l:=[.slice ka t.kids.length kc,.slice da t.diags.length dc]) (v:=.agg #[.slice ka t.kids.length kc,.slice da t.diags.length dc]) rfl (cellsU bd (.head _) a3) (.inl ⟨NP,rfl⟩) ?_;refine Uq ?_;refine aY (R:=aW) (xs:=(l.take i).flatMap (·.kids)) (ys:=t.kids) bd (by exact cT) hA b3 (fun{I J c a} h k=>aW.le h k) (fun{I} c a h=>aW.len c a h) (fun{I} c a h=>aW.ones h) rfl rfl rfl rfl Vi (by unfold maxLen;omega) fun ua uc I3 A3 a2 ak b2=>?_;refine Uq ?_;refine Um a2 [1,0] fun a1=>?_;refine aY (R:=dg) (xs:=(l.take i).flatMap (·.diags)) (ys:=t.diags) a1 (by exact qR) (dl.le hB ak) (SlE.le b4 ak) (fun{I J c a} h k=>dg.le h k) (fun{I} c a h=>dg.len c a h) (fun{I} c a h=>dg.ones h) rfl rfl rfl rfl Vi (by unfold maxLen;omega) fun wa wc I4 B4 bb aj b1=>?_;apply RG;simp only[go_sem,iv,e1];refine Um bb [1,0] fun a4=>?_;exact ap (i+1,.slice ua ((l.take i).flatMap (·.kids)++t.kids).length uc,.slice wa ((l.take i).flatMap (·.diags)++t.diags).length wc) _ _ V9 Uo (by simp only[go_sem,Tq,Ph]) ⟨I4,A3,B4,rfl,a4,Ui ao (Ui ak aj),b5,by simp only;rw[ek];exact br.le b2 aj,by simp only;rw[ed];exact b1⟩
 ·have:i=l.length:=by omega
  subst this;have h9:=Z6 l.length;have ca:=hA.capN aW.len;rw[Td]at hA hB ca |-;refine Um bd [0,1] fun a2=>?_;refine ag (c:=.st _) a2 fun I3 a2 ak b2=>?_;refine Um a2 [0] fun a1=>?_;refine ag (c:=.st _) a1 fun I4 a1 aj b1=>?_;have hK:=br.sl (J:=I4) hA (Ui ak aj) (Ui b2 aj);have hE:=dl.sl (dl.le hB ak) aj b1;have k4:=Ui ao (Ui ak aj);apply RG;simp only[go_sem,iv,h9];refine V8 [0,1,3,4,2,5,6,7] [] [] ?_;refine Ur ?_;refine IR a1 rfl FY (Gd (eX (l.flatMap (·.kids))+1) (Tv _) hK ca hk hf hz) fun v5 I5 qs bb a0 hq=>?_;obtain⟨K,rfl,a5⟩:=hq;obtain⟨qa,qc,rfl⟩:=a5.shape;have hK5c:=a5.capN aW.len;refine Ur ?_;refine i7 bb [0] [] [K] rfl Lh rfl (DZ (SlE.le hE a0) b6 he) fun v6 I6 qs a4 aS hq=>?_;obtain⟨E,rfl,b0⟩:=hq;simp only[Z3]at a4 |-;obtain⟨ra,rc,rfl⟩:=b0.shape;have hE6c:=Ow.capN (R:=dg) b0 (fun c a h=>dg.len c a h);refine Ur ?_;refine aw ?_;refine Um a4 [0,1] fun a9=>?_;refine ag (c:=.st _) a9 fun I7 a9 an cm=>?_;refine Um a9 [0] fun a7=>?_;refine ag (c:=.st _) a7 fun I8 a7 am cl=>?_;refine Un ?_;refine ai rfl a7 (r:=[.agg #[.slice qa (kH (eX (l.flatMap (·.kids))+1) (l.flatMap (·.kids))).length qc,.slice ra (yA (l.flatMap (·.diags))).length rc]]) (by simp only[Tryz.results38,go_sem,iv]) (Ui k4 (Ui a0 (Ui aS (Ui an am)))) ⟨rfl,_,_,rfl,?_,hK5c,?_,hE6c⟩
  ·have e:kH (eX (l.flatMap (·.kids))+1) (l.flatMap (·.kids))=(Pp l).kids:=o8 (R7 _) (Nat.le_succ _);rw[e]at a5 |-;exact br.sl (br.le a5 (Ui aS an)) am cl
  ·exact SlE.le (dl.sl b0 an cm) am
end Go.Proofs.YtfaclfkpnmcmlaaGreatDoor
namespace Syn
open Dg
def tk(k:Nat)(s:bM):Tok:=⟨k,s,tt,true⟩
def kA:T:=.nd 0 ff tt
def Qm:List Tok:=[tk 1 [118,97,114],tk 1 [120],tk 3 [58],⟨1,[105,110,116],kA,true⟩,⟨1,[98,111,111,108],kA.not,true⟩,tk 3 [59]]
def MV:List Tok:=[tk 1 [102,110],tk 1 [109,97,105,110],tk 3 [40],tk 3 [41],tk 3 [123],tk 1 [112,114,105,110,116],tk 2 [49],tk 3 [43],tk 2 [50],tk 3 [42],tk 2 [51],tk 3 [59],tk 3 [125]]
def rB:bE:=⟨[⟨2,[120],1,0,[⟨5,[105,110,116],3,0,[],kA⟩,⟨5,[98,111,111,108],4,0,[],kA.not⟩],tt⟩],[(6,tt)],[]⟩
def lA:List Nd:=[⟨3,[109,97,105,110],1,0,[⟨6,[],4,2,[⟨11,[],5,0,[⟨13,[43],7,0,[⟨15,[49],6,0,[],tt⟩,⟨13,[42],9,1,[⟨15,[50],8,0,[],tt⟩,⟨15,[51],10,1,[],tt⟩],tt⟩],tt⟩],tt⟩],tt⟩],tt⟩]
mutual
def QL:Nd->Nd->Bool
 |⟨k,t,o,s,ks,d⟩,⟨k',t',o',s',ks',d'⟩=>decide (k=k') && decide (t=t') && decide (o=o') && decide (s=s') && Mw ks ks' && decide (d=d')
def Mw:List Nd->List Nd->Bool
 | [],[]=>true
 |n::l,m::k=>QL n m && Mw l k
 |_,_=>false
end
mutual
theorem LU:∀{a b:Nd},QL a b=true->a=b
 |⟨k,t,o,s,ks,d⟩,⟨k',t',o',s',ks',d'⟩,h=>by
  simp only[QL,SG,SX]at h
  obtain⟨⟨⟨⟨⟨h1,h2⟩,h3⟩,h4⟩,h5⟩,h6⟩:=h
  rw[h1,h2,h3,h4,AW h5,h6]
theorem AW:∀{a b:List Nd},Mw a b=true->a=b
 | [],[],_=>rfl
 |n::l,m::k,h=>by
  simp only[Mw,SG]at h
  rw[LU h.1,AW h.2]
 | [],m::k,h=>by simp[Mw]at h
 |n::l,[],h=>by simp[Mw]at h
end
def QX(o:Option bE)(r:bE):Bool:=match o with
 |some x=>Mw x.l r.l && decide (x.f=r.f) && decide (x.e=r.e)
 |none=>false
theorem EG{o:Option bE}{r:bE}(h:QX o r=true):o=some r:=by
 cases o with
 |none=>cases h
 |some x=>
  simp only[QX,SG,SX]at h;obtain⟨⟨h1,h2⟩,h3⟩:=h;cases x;cases r
  simp only at h1 h2 h3;rw[AW h1,h2,h3]
theorem P5:run Qm fR (.seqL true 0 [(0,tt)] [] [])=some rB:=EG (by decide +kernel)
def rA:bE:=⟨lA,[(13,tt)],[]⟩
theorem Qd:run MV fR (.seqL true 0 [(0,tt)] [] [])=some rA:=EG (by decide +kernel)
theorem Ng:kH (eX (lI rB)) (lI rB)=[⟨1,[],-1,0,rB.l,tt⟩]/\yA rB.e=[]:=⟨by rfl,by rfl⟩
theorem Nv:kH (eX (lI rA)) (lI rA)=[⟨1,[],-1,0,lA,tt⟩]/\yA rA.e=[]:=⟨by rfl,by rfl⟩
theorem Lk:bu MV:=fun t h=>by
 simp only[MV,tk,Su,SW,or_false]at h;rcases h with h|h|h|h|h|h|h|h|h|h|h|h|h<;>subst h<;>exact trivial
theorem Qc{t:Tr}(h:Jk Qm tt t):t=⟨[⟨1,[],-1,0,rB.l,tt⟩],[]⟩:=by
 rcases h with ⟨e,_⟩|⟨_,r,er,et⟩
 ·cases e
 ·rw[P5]at er;cases er
  rw[et,Ng.1,Ng.2]
theorem QD:Jk MV tt ⟨[⟨1,[],-1,0,lA,tt⟩],[]⟩:=by
 refine .inr ⟨by decide,rA,Qd,?_⟩;rw[Nv.1,Nv.2]
theorem Md{w:T}(hw:w.ok 0){t:Tr}(h:Jk MV w t){c:cg}(hc:w.at' c=true):prj c t=⟨[⟨1,[],-1,0,lA,tt⟩],[]⟩:=by
 rw[BH Lk hw (show tt.ok 0 from trivial) h QD hc rfl];rfl
end Syn
namespace Go.Proofs.YtfaclfkpnmcmlaaGreatDoor
open Go Go.Sx Dg Syn
theorem yw{K:Type}[DecidableEq K](lt:K->K->Bool)(k:K):∀l:List K,(qT lt k l).length<=l.length+1
 | []=>R7 _
 |y::l=>by
  have:=yw lt k l;simp only[qT];split
  ·simp
  ·split
   ·simp only[SB];omega
   ·simp
theorem uE{K:Type}[DecidableEq K](lt:K->K->Bool):∀l:List K,(lM lt l).length<=l.length
 | []=>R7 _
 |y::l=>by
  have h1:=uE lt l;have h2:=yw lt y (lM lt l);show (qT lt y (lM lt l)).length<=_;simp only[SB];omega
theorem HJ(e:List bX):(yA e).length<=e.length:=by
 unfold yA MT;rw[Sz];refine R8 (uE _ _) ?_;rw[Sz];exact List.length_filter_le ..
def ML(t:Tr):Prop:=cK t.kids<=aF/\t.diags.length<=aF
theorem ML.prj{t:Tr}(c:Nat)(h:ML t):ML (prj (dW c) t):=⟨R8 (vY _ _) h.1,by
 have h2:((t.diags.filter fun d=>d.cond.at' (dW c)).map fun d=>{ d with cond:=tt }).length<=t.diags.length:=by
  rw[Sz];exact List.length_filter_le ..
 exact R8 h2 h.2⟩
def QC(ts:List Tok)(w:T)(r:Value)(I2:PH):Prop:=∃t,Jk (ts.map refit) w t/\zW I2 r t/\ML t
structure oC(I:PH)(v:Value)(ts:List Tok):Prop where
 sh:∃lv ga gn gc,v=.agg #[lv,.slice ga gn gc]/\Sl cJ I lv ts
 ok:bu ts
 len:ts.length<=16384
 txt:∀t∈ts,t.text.length<2^40
theorem oC.le{I J:PH}{v:Value}{ts:List Tok}(h:oC I v ts)(k:I.le J):oC J v ts:=
 ⟨let ⟨lv,ga,gn,gc,e,hs⟩:=h.sh;⟨lv,ga,gn,gc,e,Sl.le (R:=cJ) (fun{I J c a} h k=>cJ.le h k) hs k⟩,h.ok,h.len,h.txt⟩
theorem j3{ts:List Tok}(h:bu ts):bu (ts.map refit):=fun t ht=>by
 obtain⟨s,hs,rfl⟩:=List.mem_map.1 ht;exact h s hs
theorem Iz{ts:List Tok}(h:∀t∈ts,t.text.length<2^40)(i:Nat):(X (ts.map refit) i).length<4611686018427387904:=by
 unfold X cL;split
 ·rename_i t ht;split
  ·obtain⟨s,hs,rfl⟩:=List.mem_map.1 (Tg ht);have:=h s hs;show s.text.length<_;omega
  ·simp
 ·simp
theorem su{I:PH}{v vd:Value}{ts:List Tok}{w:T}(hV:fN I)(hT:oC I v ts)(hW:cu I vd w):aO Tryz.prog 22 #[v,vd] I [] fun r I2 qs=>qs=[]/\QC ts w r I2:=by
 obtain⟨⟨lv,ga,gn,gc,rfl,hS⟩,a3,hl,hx⟩:=hT;obtain⟨la,lc,rfl,_⟩:=id hS;obtain⟨wa,wk,rfl⟩:=hW.shape2;intro hd;refine ir 39 Tryz.func22 fun w0=>?_
 try simp only[sD,rD,iv]
 refine Un ?_;refine Pf rfl gK (fq (hW.le (cD hd))) fun v H2 hv=>?_;obtain⟨rfl,rfl⟩:=hv;cases cc:decide (w=.lf false)
 rotate_left
 ·have cx:w=ff:=by simpa using cc
  refine Un ?_;exact ai rfl hd (r:=[.agg #[.slice none 0 0,.slice none 0 0]]) (by simp only[Tryz.results22,go_sem,iv]) (Uj _) ⟨rfl,⟨[],[]⟩,.inl ⟨cx,rfl⟩,⟨_,_,rfl,⟨none,0,rfl,.inl rfl⟩,jq,⟨none,0,rfl,.inl rfl⟩,jq⟩,by exact⟨S6 _,S6 _⟩⟩
 have a2:w≠ff:=by simpa using cc
 refine Un ?_;refine V7 hd rfl K4 (yV hV hS hl hx) fun v1 I1 qs cB a0 hq=>?_;obtain⟨pb,fv,rfl,rfl,hF⟩:=hq;have hP:vF I1 (ts.map refit) (.slice la ts.length lc) fv:=⟨Sl.refit (Sl.le (R:=cJ) (fun{I J c a} h k=>cJ.le h k) hS a0),hF,by simpa using hl,j3 a3⟩;obtain⟨r,er,fn,re,rl⟩:=Dk (j3 a3) hW.1 a2 (by simpa using hl);obtain⟨q0,_,RR0⟩:=gG (j3 a3) hW.1 a2 er (fun _=>false);have cn:=Ff (j3 a3) (by simpa using hl) hW.1 a2 er;have cr:=Lu (j3 a3) (by simpa using hl) (Iz hx) hW.1 a2 er;obtain⟨cp,_⟩:=xu RR0.fok RR0.lok;have dk:cK (ll (fE r.f) r.l)+1=cK (lI r):=by unfold lI;rw[a8,cR]
 unfold LL at cn;refine VI ?_;refine aT cB fun cA=>?_;refine Um cA [1,0] fun cy=>?_;refine f6 cy [0,1] [sg pb _,_] [] rfl LB rfl (yr (o:=0) Vi er hP (hW.le a0) a2 (Ow.nil _ _ _ _) (by have re':=re;unfold aF at re';simp only[S9];unfold pY;omega)) fun v2 I2 qs ci bd hq=>?_;obtain⟨dv2,D2,rs,rfl,a6,⟨A,B,va,vb,rfl,rfl,hA,hB⟩,dv,ds⟩:=hq;rw[SU]at a6;simp only[Z3]at ci |-;obtain⟨aa,ac,rfl⟩:=hA.shape;obtain⟨ba,bc,rfl⟩:=hB.shape;obtain⟨ea,ec,rfl⟩:=a6.shape;have dc:=hA.capN aW.len;have c8:=Ow.capN (R:=dg) a6 (fun c a h=>dg.len c a h);refine Um ci [0,1,2,3] fun b2=>?_;refine ag b2 fun I3 b2 aS c0=>?_;refine Um b2 [0,1,2] fun b1=>?_;refine ag b1 fun I4 b1 ap c9=>?_;refine Um b1 [0,1] fun b0=>?_;refine ag b0 fun I5 b0 ao dd=>?_;refine Um b0 [0] fun bx=>?_;refine ag bx fun I6 bx an da=>?_;have cb:=Ui ap (Ui ao an);have cl:=Ui aS cb;have a7:aQ I6 pb 4 [.slice ea r.e.length ec]:=(aU (by simp) rfl:aQ (sg pb (bD (.slice la ts.length lc) fv (.slice none 0 0) (.slice ea r.e.length ec) 0)) pb 4 [.slice ea r.e.length ec]).le (Ui c0 cb);have c4:db I6 (.slice aa r.l.length ac) r.l:=db.le (br.sl (br.le hA (Ui aS ap)) ao dd) an;have c7:Sl dg I6 (.slice ea r.e.length ec) r.e:=SlE.le (dl.sl (dl.le a6 aS) ap c9) (Ui ao an);have c6:du I6 (.slice ba r.f.length bc) r.f:=Ow.sl (R:=fP) (fun{I J c a} h k=>fP.le h k) (Ow.le (R:=fP) (fun{I J c a} h k=>fP.le h k) hB (Ui aS (Ui ap ao))) an da;have cm:=Ui bd cl;refine Un ?_;refine V7 bx rfl Lz (Nk c6 (by have:=fn.len;simp only[Sz]at this;omega)) fun v3 I7 qs cf am hq=>?_;obtain⟨rfl,a9⟩:=hq;obtain⟨za,zk,rfl⟩:=a9.shape2
 refine Up ?_;refine Qz (l:=[.slice ea r.e.length ec]) rfl (cellsU cf (.head _) (a7.le am)) (.inr ⟨LF,rfl⟩) ?_;refine Uv ?_;refine V8 [0,1,3,2,4,5,6,7] [] [] ?_;refine Ut ?_;refine IR cf rfl ES (C0 (cK r.l+1) (Tv _) (db.le c4 am) dc a9 (by unfold aF;omega)) fun v4 I8 qs b6 bb hq=>?_;obtain⟨K,rfl,hK⟩:=hq;obtain⟨ka,kc,rfl⟩:=hK.shape;have c5:=hK.capN aW.len;refine Ut ?_;refine aZ b6 (by exact cT) rfl rfl rfl rfl rfl Vm fun nb I9 b5 a4 cs=>?_;refine Ut ?_;refine aw ?_;refine Um b5 [0] fun a1=>?_;refine ag (c:=.st _) a1 fun cj a1 ak ca=>?_;have c3:db cj (.slice ka (ll (fE r.f) r.l).length kc) (ll (fE r.f) r.l):=br.sl (br.le hK a4) ak ca;have k710:=Ui bb (Ui a4 ak);have c2:db cj (.slice (some ⟨nb,0,none⟩) 1 1) (lI r):=fT ((az cs (by simp[aE,Value.cells]) (by simp[aE,Value.cells,iv,sD,rD]):aQ I9 nb 0 _).le ak) (aW.mk (n:=⟨1,[],-1,0,ll (fE r.f) r.l,fE r.f⟩) (a9.le k710) c3 c5);refine Uv ?_;refine av a1 (by exact PU) rfl rfl rfl rfl rfl Vm fun mb dj b4 aj ct=>?_;have c1:Sl Hr dj (.slice (some ⟨mb,0,none⟩) 1 1) [⟨lI r,r.e⟩]:=⟨_,_,rfl,.inr ⟨mb,0,_,rfl,az ct (by simp[aE,Value.cells]) (by simp[aE,Value.cells]),.one ⟨_,_,rfl,db.le c2 aj,⟨R7 _,fun _=>by unfold maxLen;omega⟩,SlE.le c7 (Ui am (Ui k710 aj)),c8⟩⟩⟩;refine Un ?_;refine V7 b4 rfl Ls (IE c1 (by simp) (by simpa using cp) (by simpa using cr) (by simp only[TB,List.flatMap_nil,Tq];unfold aF;omega) (by simpa using RR0.eok) (by simpa using re)) fun v5 dw qs b3 a5 hq=>?_;obtain⟨rfl,hR⟩:=hq;have em:Pp [⟨lI r,r.e⟩]=⟨kH (eX (lI r)) (lI r),yA r.e⟩:=by simp[Pp]
 rw[em]at hR;obtain⟨_,_,rfl,hR⟩:=hR;obtain⟨⟨xa,xc,rfl,_⟩,_,⟨ya,yc,rfl,_⟩,_⟩:=id hR;refine Un ?_;refine ai rfl b3 (r:=[.agg #[.slice xa (kH (eX (lI r)) (lI r)).length xc,.slice ya (yA r.e).length yc]]) (by simp only[Tryz.results22,go_sem]) (Ui a0 (Ui cm (Ui am (Ui k710 (Ui aj a5))))) ⟨rfl,_,.inr ⟨a2,r,er,rfl⟩,⟨_,_,rfl,hR⟩,?_,?_⟩
 ·have:=Cw (eX (lI r)) (lI r);show cK (kH (eX (lI r)) (lI r))<=aF;unfold aF;omega
 ·exact R8 (HJ r.e) re
theorem N4{c:Nat}(hc:c<2^32):xH .u32 (BG .u32) (c:Int)=((4294967295 ^^^ c:Nat):Int):=by
 have hm:BG .u32=((4294967295:Nat):Int):=by decide
 rw[hm];have hb:(4294967295:Nat)<2^32:=by decide
 have ea:BitVec.ofInt 32 ((4294967295:Nat):Int)=BitVec.ofNat _ 4294967295:=by rw[BitVec.ofInt_natCast]
 have eb:BitVec.ofInt 32 (c:Int)=BitVec.ofNat _ c:=by rw[BitVec.ofInt_natCast]
 have hx:4294967295 ^^^ c<2^32:=Nat.xor_lt_two_pow hb hc;have:xH .u32 ((4294967295:Nat):Int) (c:Int)=IntKind.u32.wrap ((BitVec.ofInt 32 ((4294967295:Nat):Int) ^^^ BitVec.ofInt 32 (c:Int)).toNat:Int):=rfl;rw[this,ea,eb,BitVec.toNat_xor,BitVec.toNat_ofNat,BitVec.toNat_ofNat,Nat.mod_eq_of_lt hb,Nat.mod_eq_of_lt hc];simp only[IntKind.wrap,show IntKind.bits .u32=32 from rfl,show IntKind.signed .u32=false from rfl];have:((4294967295 ^^^ c:Nat):Int) % (2^32:Int)=((4294967295 ^^^ c:Nat):Int):=TH Vi (by exact_mod_cast hx);simpa using this
def Nb(ts:List Tok)(c:Nat)(r:Value)(I2:PH):Prop:=∃t,Jk (ts.map refit) (gL c (4294967295 ^^^ c)) t/\zW I2 r (prj (dW c) t)/\ML (prj (dW c) t)
theorem Cv{I:PH}{v:Value}{ts:List Tok}{c:Nat}(hV:fN I)(hT:oC I v ts)(hc:c<2^32):aO Tryz.prog 19 #[v,.int .u32 c] I [] fun r I2 qs=>qs=[]/\Nb ts c r I2:=by
 obtain⟨lv,ga,gn,gc,rfl,hS⟩:=hT.sh;obtain⟨la,lc,rfl,_⟩:=id hS;have hx:4294967295 ^^^ c<2^32:=Nat.xor_lt_two_pow Vm hc;intro hd;refine ir 13 Tryz.func19 fun w0=>?_;refine Un ?_;refine V8 [0,1,2,3,6,4,5,7,8] [] [] ?_;apply af;simp only[go_sem,N4 hc];refine IR hd rfl Mf (AX hc hx) fun v1 I1 qs aS aa hq=>?_;obtain⟨rfl,hW⟩:=hq;obtain⟨wa,wk,rfl⟩:=hW.shape2;refine Ux ?_;refine IR aS rfl Aw (su (hV.le aa) (hT.le aa) hW) fun v2 I2 qs ap aj hq=>?_;obtain⟨rfl,t,hF,hR,an,am⟩:=hq;obtain⟨xk,xd,rfl,⟨ua,uc,rfl,_⟩,_,⟨wa',wc,rfl,_⟩,_⟩:=id hR;refine Ux ?_;refine IR ap rfl Gs (vU hR hc an am) fun v3 I3 qs ao ac hq=>?_;obtain⟨rfl,ak⟩:=hq;obtain⟨yk,yd,rfl,⟨xa,xc,rfl,_⟩,_,⟨ya,yc,rfl,_⟩,_⟩:=id ak;refine Ux ?_;refine aw ?_;refine Un ?_;exact ai rfl ao (r:=[.agg #[.slice xa (prj (dW c) t).kids.length xc,.slice ya (prj (dW c) t).diags.length yc]]) (by simp only[Tryz.results19,go_sem]) (Ui aa (Ui aj ac)) ⟨rfl,t,hF,ak,ML.prj c ⟨an,am⟩⟩
theorem LW:aP Tryz.prog 16:=⟨_,Tryz.func16,rfl,rfl⟩
theorem MG:aP Tryz.prog 32:=⟨_,Tryz.func32,rfl,rfl⟩
def nT(_:PH)(c:List Value)(x:Nat):Prop:=c=[.int .u32 x]/\x<2^32
theorem nT.len{I:PH}(c:List Value)(x:Nat)(h:nT I c x):c.length=1:=by rw[h.1];rfl
abbrev Is(I A:PH)(v:Value)(l:List Nat):Prop:=Ow nT 23 1 I A v l
abbrev Oz(I:PH)(v:Value)(l:List Nat):Prop:=Sl nT I v l
theorem Is.le{I J A:PH}{v:Value}{l:List Nat}(h:Is I A v l)(k:I.le J):Is J A v l:=Ow.le (R:=nT) (fun{I J c a} h k=>h) h k
theorem Oz.le{I J:PH}{v:Value}{l:List Nat}(h:Oz I v l)(k:I.le J):Oz J v l:=Sl.le (R:=nT) (fun{I J c a} h k=>h) h k
def OU(u:Nat)(x:Nat×Value):St:=⟨dn 35 [(0,.v (.int .u32 u)),(3,.v x.2),(4,.v (iv x.1))],[]⟩
def RO(u:Nat)(I0:PH)(x:Nat×Value)(H:PH):Prop:=∃I A l,H=U [I,A]/\Dj [I,A]/\I0.le I/\x.1<=32/\Is I A x.2 l/\l.length=2^pM u x.1
def Jm(u i n:Nat)(x:Nat×Value):St:=⟨dn 35 [(0,.v (.int .u32 u)),(3,.v x.2),(4,.v (iv i)),(5,.v (iv n)),(6,.v (iv x.1))],[]⟩
def QI(n:Nat)(I0:PH)(x:Nat×Value)(H:PH):Prop:=∃I A l,H=U [I,A]/\Dj [I,A]/\I0.le I/\x.1<=n/\Is I A x.2 l/\l.length=n+x.1
theorem Ds{I:PH}{u:Nat}(hu:u<2^32)(hp:pM u 32<=8):aO Tryz.prog 21 #[.int .u32 u] I [] fun r I2 qs=>qs=[]/\∃l,Oz I2 r l/\l.length<=256:=by
 intro hd;refine ir 35 Tryz.func21 fun w0=>?_;refine Un ?_;refine dP hd (by exact Ev) rfl rfl rfl rfl rfl Vm fun b0 A0 b6 a4=>?_;have cf:Is I A0 (.slice (some ⟨b0,0,none⟩) 1 1) [0]:=⟨_,a4,⟨[.int .u32 0],[],by simp[aE,Value.cells],⟨rfl,by decide⟩,rfl⟩⟩;refine Un ?_;refine aB (fun x=>32-x.1) (OU u) (RO u I) (0,.slice (some ⟨b0,0,none⟩) 1 1) Uo (by simp only[go_sem,Tq,OU]) ?_ ?_
 ·exact⟨I,A0,[0],rfl,b6,Uj _,S6 _,cf,rfl⟩
 rintro⟨i,vo⟩ H ⟨I1,A1,l,rfl,a7,aj,hi,hA,am⟩ aa;simp only at hi hA am;simp only[OU];obtain⟨oa,oc,rfl⟩:=hA.shape;rcases Sw i 32 with bb|cj
 ·have h9:decide ((i:Int)<32)=true:=Uh Vi;have e1:IntKind.i64.wrap ((i:Int)+1)=((i+1:Nat):Int):=by rw[<-wrap64 (n:=i+1) Vi];congr 1
  have a1:=Oo hu (i:=i) Vi;have ci:=R8 (Hl u (i:=i+1) (j:=32) Vi) hp;have a3:pM u (i+1)=pM u i+(u.testBit i).toNat:=rfl;have a0:l.length<=256:=by
   rw[am];exact R8 (Tz Vi (show pM u i<=8 by omega)) Vm
  cases hb:u.testBit i
  ·rw[hb]at a1 a3;apply RG;simp only[go_sem,iv,h9,TP,a1,Bool.toNat_false,TJ,e1];exact aa (i+1,.slice oa l.length oc) _ _ V9 Uo (by simp only[go_sem,Tq,OU]) ⟨I1,A1,l,rfl,a7,aj,bb,hA,by simp only;rw[a3,am];rfl⟩
  ·rw[hb]at a1 a3;have bx:(true:Bool).toNat=1:=rfl;have bc:l.length<=128:=by
    rw[am];exact R8 (Tz Vi (show pM u i<=7 by omega)) Vm
   apply RG;simp only[go_sem,iv,h9,TP,a1,Bool.toNat_true,TJ];refine aB (fun x=>l.length-x.1) (Jm u i l.length) (QI l.length I1) (0,.slice oa l.length oc) Uo (by simp only[go_sem,Tq,Jm]) ?_ ?_
   ·exact⟨I1,A1,l,rfl,a7,Uj _,S6 _,hA,rfl⟩
   rintro⟨k,vq⟩ H ⟨I2,A2,m,rfl,ak,ap,hk,a2,ba⟩ ac;simp only at hk a2 ba;simp only[Jm];obtain⟨qa,qc,rfl⟩:=a2.shape;rcases Sw k l.length with a6|b3
   ·have a9:decide ((k:Int)<(l.length:Int))=true:=Uh Vi;have e2:IntKind.i64.wrap ((k:Int)+1)=((k+1:Nat):Int):=by rw[<-wrap64 (n:=k+1) Vi];congr 1
    obtain⟨x,hx⟩:∃x,m[k]?=some x:=⟨_,SC Vi⟩;obtain⟨g,cap,cur,c,ev,rfl,c1,c2,hc,cl,aS,_⟩:=a2.elem (fun{I} c a h=>nT.len (I:=I) c a h) (fun{I J c a} h k=>h) hx;cases ev
    obtain⟨rfl,bd⟩:=hc;obtain⟨n1,b2,q1⟩:=Js (x:Int) (zU .u32 1 (i:Int));apply RG;simp only[go_sem,iv,a9];refine V8 [0,1,2,3,4,5,6,7,8,9,10] [4] [] ?_;refine Ur ?_
    try refine⟨Vi,?_⟩
    refine P7 (l:=[.int .u32 x]) rfl (by simpa using cellsU ak (.tail _ (.head _)) aS) (.inr ⟨qZ,rfl⟩) ?_;apply af;simp only[go_sem,iv,TP,q1];refine aZ ak (by exact Ev) rfl rfl rfl rfl rfl Vm fun nb I4 b5 an b1=>?_;have ca:Sl nT I4 (.slice (some ⟨nb,0,none⟩) 1 1) [n1]:=⟨_,_,rfl,.inr ⟨nb,0,_,rfl,az b1 (by simp[aE,Value.cells]) (by simp[aE,Value.cells]),.one ⟨rfl,b2⟩⟩⟩;refine Ur ?_;refine eZ (R:=nT) (xs:=m) (ys:=[n1]) b5 (by exact Ev) (Is.le a2 an) ca (fun{I J c a} h k=>h) (fun{I} c a h=>nT.len (I:=I) c a h) (fun{I} c a h=>by rw[h.1];rfl) rfl rfl rfl rfl rfl rfl (by simp only[SB,S9];omega) (by simp only[SB,S9];unfold maxLen;omega) fun ua uc I5 A5 b4 a5 cb=>?_;refine Ur ?_;refine aw ?_;apply RG;simp only[go_sem,iv,e2];exact ac (k+1,.slice ua (m++[n1]).length uc) _ _ V9 Uo (by simp only[go_sem,Tq,Jm]) ⟨I5,A5,m++[n1],rfl,b4,Ui ap (Ui an a5),a6,cb,by simp;omega⟩
   ·have:k=l.length:=by omega
    subst this;have a9:=Z6 l.length;apply RG;simp only[go_sem,iv,a9,e1];exact aa (i+1,.slice qa m.length qc) _ _ V9 Uo (by simp only[go_sem,Tq,OU]) ⟨I2,A2,m,rfl,ak,Ui aj ap,bb,a2,by simp only;rw[a3,ba,bx,Ty,<-am];omega⟩
 ·have:i=32:=by omega
  subst this;have a0:l.length<=256:=by
   rw[am];exact R8 (Tz Vi hp) Vm
  refine Um a7 [0] fun ak=>?_;refine ag (c:=.st _) ak fun I3 ak ao cc=>?_;apply RG;simp only[go_sem,iv,TJ];exact ai rfl ak (r:=[_]) rfl (Ui aj ao) ⟨rfl,l,Ow.sl (R:=nT) (fun{I J c a} h k=>h) hA ao cc,a0⟩
def Nn(v:Value)(vc:Value)(x:Nat×Value):St:=⟨dn 30 [(0,.v v),(5,.v x.2),(6,.v vc),(7,.v (iv x.1))],[]⟩
def Rx(n:Nat)(I0:PH)(x:Nat×Value)(H:PH):Prop:=∃I A l,H=U [I,A]/\Dj [I,A]/\I0.le I/\x.1<=n/\Is I A x.2 l/\l.length<=x.1
theorem Cn{I:PH}{v:Value}{l:List (Nat×Nat)}{u:Nat}(hS:uj I v l)(hl:l.length<2^60)(hu:u<2^32)(hp:pM u 32<=8):aO Tryz.prog 25 #[v,.int .u32 u] I [] fun r I2 qs=>qs=[]/\∃a n c,r=.slice a n c:=by
 obtain⟨va,vc,rfl,_⟩:=id hS;intro hd;refine ir 30 Tryz.func25 fun w0=>?_;refine Un ?_;refine V7 hd rfl LI (Ds hu hp) fun v1 I1 qs a5 an hq=>?_;obtain⟨rfl,m,hm,a9⟩:=hq;obtain⟨ma,mc,rfl,_⟩:=id hm;refine Un ?_;refine aT a5 fun a4=>?_;refine aB (fun x=>m.length-x.1) (Nn (.slice va l.length vc) (.slice ma m.length mc)) (Rx m.length I1) (0,.slice none 0 0) Uo (by simp only[go_sem,Tq,Nn]) ?_ ?_
 ·exact⟨I1,_,[],rfl,a4,Uj _,S6 _,Ow.nil _ _ _ _,R7 _⟩
 rintro⟨i,vo⟩ H ⟨I2,A2,o,rfl,am,aa,hi,hA,a1⟩ aj;simp only at hi hA a1;simp only[Nn];obtain⟨oa,oc,rfl⟩:=hA.shape;rcases Sw i m.length with ap|bb
 ·have a0:decide ((i:Int)<(m.length:Int))=true:=Uh Vi;have e1:IntKind.i64.wrap ((i:Int)+1)=((i+1:Nat):Int):=by rw[<-wrap64 (n:=i+1) Vi];congr 1
  obtain⟨x,hx⟩:∃x,m[i]?=some x:=⟨_,SC ap⟩;obtain⟨b,off,cs,rfl,⟨rfl,x32⟩,ak⟩:=Sl.load (fun{I} c a h=>nT.len (I:=I) c a h) (Oz.le hm aa) hx;apply RG;simp only[go_sem,iv,a0]
  try refine⟨Vi,?_⟩
  refine Qz (l:=[.int .u32 x]) rfl (cellsU am (.head _) (by simpa using ak)) (.inr ⟨qZ,rfl⟩) ?_;refine Uq ?_;refine Pf rfl FF (NG (uj.le hS (Ui an (Ui aa (cD am)))) hl x32) fun v H2 hv=>?_;obtain⟨rfl,rfl⟩:=hv;cases ba:KF l x
  ·apply RG;simp only[go_sem,iv,e1];exact aj (i+1,.slice oa o.length oc) _ _ V9 Uo (by simp only[go_sem,Tq,Nn]) ⟨I2,A2,o,rfl,am,aa,ap,hA,by simp only;omega⟩
  ·refine Uq ?_
   try refine⟨Vi,?_⟩
   refine Qz (l:=[.int .u32 x]) rfl (cellsU am (.head _) (by simpa using ak)) (.inr ⟨qZ,rfl⟩) ?_;refine Uq ?_;refine av am (by exact Ev) rfl rfl rfl rfl rfl Vm fun nb I4 ao ac a2=>?_;have a6:Sl nT I4 (.slice (some ⟨nb,0,none⟩) 1 1) [x]:=⟨_,_,rfl,.inr ⟨nb,0,_,rfl,az a2 (by simp[aE,Value.cells]) (by simp[aE,Value.cells]),.one ⟨rfl,x32⟩⟩⟩;refine Uq ?_;refine aY (R:=nT) (xs:=o) (ys:=[x]) ao (by exact Ev) (Is.le hA ac) a6 (fun{I J c a} h k=>h) (fun{I} c a h=>nT.len (I:=I) c a h) (fun{I} c a h=>by rw[h.1];rfl) rfl rfl rfl rfl (by simp only[SB,S9];omega) (by simp only[SB,S9];unfold maxLen;omega) fun ua uc I5 A5 a3 aS a7=>?_;apply RG;simp only[go_sem,iv,e1];exact aj (i+1,.slice ua (o++[x]).length uc) _ _ V9 Uo (by simp only[go_sem,Tq,Nn]) ⟨I5,A5,o++[x],rfl,a3,Ui aa (Ui ac aS),ap,a7,by simp;omega⟩
 ·have:i=m.length:=by omega
  subst this;have a0:=Z6 m.length;refine Um am [0] fun ao=>?_;refine ag (c:=.st _) ao fun I4 ao ac bc=>?_;apply RG;simp only[go_sem,iv,a0];exact ai rfl ao (r:=[_]) rfl (Ui an (Ui aa ac)) ⟨rfl,_,_,_,rfl⟩
structure It where
 kind:Nat
 text:bM
 cubes:List (Nat×Nat)
def G3(I:PH)(c:List Value)(x:It):Prop:=∃va,c=[.int .u8 x.kind,.string ⟨⟨x.text⟩⟩,va]/\uj I va x.cubes
theorem G3.le{I J:PH}{c:List Value}{x:It}(h:G3 I c x)(k:I.le J):G3 J c x:=by
 obtain⟨va,e,h⟩:=h;exact⟨va,e,uj.le h k⟩
theorem G3.len{I:PH}(c:List Value)(x:It)(h:G3 I c x):c.length=3:=by obtain⟨va,e,_⟩:=h;rw[e];rfl
abbrev KJ(I:PH)(v:Value)(l:List It):Prop:=Sl G3 I v l
theorem KJ.le{I J:PH}{v:Value}{l:List It}(h:KJ I v l)(k:I.le J):KJ J v l:=Sl.le (R:=G3) (fun{I J c a} h k=>G3.le h k) h k
def dV(x:It):Tok:=⟨x.kind,x.text,jO x.cubes,true⟩
def Ql(x:It):Prop:=x.cubes.length<2^40/\x.text.length<2^40
def NU(x:It):Nat:=1+x.cubes.length+x.text.length / 64
def KX(n0:Nat)(l:List It):Nat:=n0+(l.map NU).sum
theorem F0(n0:Nat)(l:List It)(x:It):KX n0 (l++[x])=KX n0 l+NU x:=by
 unfold KX;rw[Uc,List.sum_append];simp;omega
theorem Cs(n0:Nat):∀l:List It,l.length<=KX n0 l
 | []=>S6 _
 |x::l=>by
  have:=Cs n0 l;unfold KX at this |-;simp only[Tf,List.sum_cons,SB];have:1<=NU x:=by unfold NU;omega
  omega
def AC(vl vw:Value)(most:Nat)(x:Nat×Nat×Nat):St:=⟨dn 120 [(0,.v vl),(1,.v vw),(2,.v (iv most)),(6,.p 6 0),(7,.v (.slice none 0 0)),(8,.v (.int .u32 0)),(9,.v (.bool false)),(10,.v (.int .u32 x.2.1)),(11,.v (iv x.2.2)),(12,.p 12 0),(13,.v (iv x.1))],[⟨6,27,[.slice none 0 0,.slice none 0 0]⟩,⟨12,27,[.slice none 0 0,.slice none 0 0]⟩]⟩
def qP(vl:Value)(u:Nat)(x:Nat×Value×Value):St:=⟨dn 120 [(0,.v vl),(6,.p 6 0),(10,.v (.int .u32 u)),(12,.p 12 0),(14,.v x.2.2),(15,.v (iv x.1))],[⟨6,27,[.slice none 0 0,.slice none 0 0]⟩,⟨12,27,[x.2.1,.slice none 0 0]⟩]⟩
def nm(_:PH)(c:List Value)(_:Unit):Prop:=∃k t a n m b bn bc i j,c=[.int .u8 k,.string t,.slice a n m,.int .i64 i,.int .i64 j,.slice b bn bc]
theorem nm.len{I:PH}(c:List Value)(x:Unit)(h:nm I c x):c.length=6:=by obtain⟨k,t,a,n,m,b,bn,bc,i,j,e⟩:=h;rw[e];rfl
abbrev Hv(I A:PH)(v:Value)(l:List Unit):Prop:=Ow nm 136 6 I A v l
theorem Hv.le{I J A:PH}{v:Value}{l:List Unit}(h:Hv I A v l)(k:I.le J):Hv J A v l:=Ow.le (R:=nm) (fun{I J c a} h k=>h) h k
def P8(l:List It)(I0:PH)(x:Nat×Value×Value)(H:PH):Prop:=∃I A B m,H=U [I,A,B]/\Dj [I,A,B]/\I0.le I/\x.1<=l.length/\ui I A x.2.1 ((l.take x.1).map dV)/\Hv I B x.2.2 m/\m.length=x.1
def OA(l:List It)(w:List (Nat×Nat))(v:Value)(I2:PH):Prop:=
 (∃lv,v=.tuple #[lv,.slice none 0 0,.int .u32 0,.bool false]/\lv=.agg #[.slice none 0 0,.slice none 0 0])\/
 (∃lv a n c u,v=.tuple #[lv,.slice a n c,.int .u32 u,.bool true]/\oC I2 lv (l.map dV)/\l.length<400/\∃a n k g,lv=.agg #[.slice a n k,g]/\n<=k)
theorem Mb{I:PH}{vl vw:Value}{l:List It}{w:List (Nat×Nat)}{most:Nat}(hS:KJ I vl l)(hW:uj I vw w)(hb:∀x∈l,Ql x)(hl:l.length<2^40)(hw:w.length<2^40)(hm:most<=8):aO Tryz.prog 16 #[vl,vw,iv most] I [] fun r I2 qs=>qs=[]/\OA l w r I2:=by
 obtain⟨la,lc,rfl,_⟩:=id hS;obtain⟨wa,wc,rfl,_⟩:=id hW;intro hd;refine ir 120 Tryz.func16 fun w0=>?_
 try simp only[iv]
 refine Un ?_;refine Pf rfl FU (E1 (uj.le hW (cD hd)) Vi) fun v H2 hv=>?_;obtain⟨⟨u0,cB,rfl⟩,rfl⟩:=hv;refine Un ?_;apply cO (fun(x:Nat×Nat×Nat)=>l.length-x.1) (AC (.slice la l.length lc) (.slice wa w.length wc) most) (fun x H=>H=U [I]/\x.1<=l.length/\x.2.1<2^32/\x.2.2=KX w.length (l.take x.1)/\x.2.2<2^44) (fun x H=>H=U [I]/\x.2.1<2^32/\x.2.2<2^44/\(x.2.2<400->KX w.length l<400)) (0,u0,w.length)
 ·exact Uo
 ·exact(by simp only[go_sem,Tq,AC])
 ·exact⟨rfl,S6 _,cB,by simp[KX],by simp only;omega⟩
 ·rintro⟨i,u,n⟩ H ⟨rfl,hi,hu,hn,b0⟩ a2 a5;simp only at hi hu hn b0;simp only[AC];rcases Sw i l.length with b3|c8
  ·have b5:decide ((i:Int)<(l.length:Int))=true:=Uh Vi;rcases Sw n 2000 with c4|c4
   ·have ct:decide ((n:Int)<2000)=true:=Uh Vi;have e1:IntKind.i64.wrap ((i:Int)+1)=((i+1:Nat):Int):=by rw[<-wrap64 (n:=i+1) Vi];congr 1
    obtain⟨x,hx⟩:∃x,l[i]?=some x:=⟨_,SC b3⟩;obtain⟨b,off,cs,rfl,⟨va,rfl,hc⟩,ak⟩:=Sl.load (fun{I} c a h=>G3.len c a h) hS hx;obtain⟨ca,cc,rfl,_⟩:=id hc;have c1:=ak.get (i:=1) rfl;have c2:=ak.get (i:=2) rfl;obtain⟨b1,b2⟩:=hb x (Tg hx);have e31:IntKind.i64.wrap ((n:Int)+1)=((n+1:Nat):Int):=by rw[<-wrap64 (n:=n+1) Vi];congr 1
    have e38:IntKind.i64.wrap (((n+1:Nat):Int)+(x.cubes.length:Int))=((n+1+x.cubes.length:Nat):Int):=by rw[<-wrap64 (n:=n+1+x.cubes.length) Vi];congr 1
    have e45:IntKind.i64.wrap ((x.text.length:Int).tdiv 64)=((x.text.length / 64:Nat):Int):=by
     have e:(x.text.length:Int).tdiv 64=((x.text.length / 64:Nat):Int):=by
      rw[Int.tdiv_eq_ediv_of_nonneg Vi];rfl
     rw[e];exact wrap64 Vi
    have e46:IntKind.i64.wrap (((n+1+x.cubes.length:Nat):Int)+((x.text.length / 64:Nat):Int))=((n+1+x.cubes.length+x.text.length / 64:Nat):Int):=by rw[<-wrap64 (n:=n+1+x.cubes.length+x.text.length / 64) Vi];congr 1
    apply RG;simp only[go_sem,iv,b5,ct];refine V8 [0,1,2,3,4,5,6,7,8,9,10,11,12,13,14,15,16,17] [6,13] [] ?_;apply af;simp only[go_sem,iv,e31]
    try refine⟨Vi,?_⟩
    refine P7 (l:=[.slice ca x.cubes.length cc]) rfl (cellsU hd (.head _) (by simpa using c2)) (.inr ⟨Gq,rfl⟩) ?_;apply af;simp only[go_sem,iv,e31,e38]
    try refine⟨Vi,?_⟩
    refine P7 (l:=[.string ⟨⟨x.text⟩⟩]) rfl (cellsU hd (.head _) (by simpa using c1)) (.inr ⟨rz,rfl⟩) ?_;apply af;simp only[go_sem,iv,bJ,e31,e38,e45,e46];refine aw ?_;refine Uq ?_
    try refine⟨Vi,?_⟩
    refine Qz (l:=[.slice ca x.cubes.length cc]) rfl (cellsU hd (.head _) (by simpa using c2)) (.inr ⟨Gq,rfl⟩) ?_;refine Uq ?_;refine Pf rfl FU (E1 (uj.le hc (cD hd)) Vi) fun v H2 hv=>?_;obtain⟨⟨u1,dj,rfl⟩,rfl⟩:=hv;obtain⟨n1,c5,q1⟩:=Js (u:Int) (u1:Int);apply RG;simp only[go_sem,iv,q1,e1];exact a2 (i+1,n1,n+1+x.cubes.length+x.text.length / 64) _ _ V9 Uo (by simp only[go_sem,Tq,AC]) ⟨rfl,b3,c5,by simp only;rw[i8 hx,F0,<-hn];unfold NU;omega,by simp only;omega⟩
   ·have ct:decide ((n:Int)<2000)=false:=Ug Vi;apply bq 14;simp only[go_sem,iv,b5,ct];exact a5 (i,u,n) _ _ Uo (by simp only[go_sem,Tq,AC]) ⟨rfl,hu,b0,fun h=>by simp only at h;omega⟩
  ·have:i=l.length:=by omega
   subst this;have b5:=Z6 l.length;rw[Td]at hn;apply bq 14;simp only[go_sem,iv,b5];exact a5 (l.length,u,n) _ _ Uo (by simp only[go_sem,Tq,AC]) ⟨rfl,hu,b0,fun h=>by simp only at h;omega⟩
 rintro⟨i,u,n⟩ H ⟨rfl,hu,b0,cx⟩;simp only at hu b0 cx;simp only[AC];rcases Sw n 400 with cy|cy
 rotate_left
 ·have cr:decide ((n:Int)>=400)=true:=Uh Vi;apply RG;simp only[go_sem,iv,cr];exact ai rfl hd (r:=[.agg #[.slice none 0 0,.slice none 0 0],.slice none 0 0,.int .u32 0,.bool false]) (by simp only[Tryz.results16,go_sem,iv]) (Uj _) ⟨rfl,.inl ⟨_,rfl,rfl⟩⟩
 have cr:decide ((n:Int)>=400)=false:=Ug Vi;have c3:=cx cy;have c7:=Cs w.length l;apply RG;simp only[go_sem,iv,cr];refine Pf rfl Lj (O1 (most:=most) hu) fun v H2 hv=>?_;obtain⟨rfl,rfl⟩:=hv;cases c9:decide (pM u 32<=most)
 ·refine Uq ?_;exact ai rfl hd (r:=[.agg #[.slice none 0 0,.slice none 0 0],.slice none 0 0,.int .u32 0,.bool false]) (by simp only[Tryz.results16,go_sem,iv]) (Uj _) ⟨rfl,.inl ⟨_,rfl,rfl⟩⟩
 have bx:pM u 32<=8:=R8 (TG c9) hm;refine Uq ?_;refine aT hd fun dc=>?_;refine aT dc fun da=>?_;refine aB (fun x=>l.length-x.1) (qP (.slice la l.length lc) u) (P8 l I) (0,.slice none 0 0,.slice none 0 0) Uo (by simp only[go_sem,Tq,qP]) ?_ ?_
 ·exact⟨I,_,_,[],rfl,da,Uj _,S6 _,Ow.nil _ _ _ _,Ow.nil _ _ _ _,rfl⟩
 rintro⟨j,va,vb⟩ H ⟨I1,A1,B1,m,rfl,b4,a6,hj,hA,hB,cA⟩ a2;simp only at hj hA hB cA;simp only[qP];obtain⟨aa,ac,rfl⟩:=hA.shape;obtain⟨ba,bc,rfl⟩:=hB.shape;rcases Sw j l.length with b3|c8
 ·have cp:decide ((j:Int)<(l.length:Int))=true:=Uh Vi;have e1:IntKind.i64.wrap ((j:Int)+1)=((j+1:Nat):Int):=by rw[<-wrap64 (n:=j+1) Vi];congr 1
  obtain⟨x,hx⟩:∃x,l[j]?=some x:=⟨_,SC b3⟩;obtain⟨b,off,cs,rfl,⟨vc,rfl,hc⟩,ak⟩:=Sl.load (fun{I} c a h=>G3.len c a h) (KJ.le hS a6) hx;obtain⟨ca,cc,rfl,_⟩:=id hc;have c0:=ak.get (i:=0) rfl;have c1:=ak.get (i:=1) rfl;have c2:=ak.get (i:=2) rfl;obtain⟨b1,b2⟩:=hb x (Tg hx);have c6:((l.take j).map dV).length=j:=by simp;omega
  have hI:I1.le (U [I1,A1,B1]):=cD b4;apply RG;simp only[go_sem,iv,cp];apply E6 (fun(y:Value)=>qP (.slice (some ⟨b,off,none⟩) l.length lc) u (j,y,.slice ba m.length bc)) (fun y H=>∃I A B,H=U [I,A,B]/\Dj [I,A,B]/\I1.le I/\ui I A y ((l.take (j+1)).map dV)/\Hv I B (.slice ba m.length bc) m)
  ·intro hg;have fin:∀{J A B:PH} {ua:Option Addr} {uc nb:Nat} {sv:Value} {za:Option Addr} {zk:Nat},I1.le J->ui J A (.slice ua ((l.take j).map dV++[dV x]).length uc) ((l.take j).map dV++[dV x])->ui J A (.slice ua ((l.take j).map dV++[dV x]).length uc) ((l.take (j+1)).map dV):=fun _ h=>by rw[i8 hx,Uc];exact h
   refine uD mixed [0,1,2,3,4,5,6,7,8,9,10,11,12,14,15,16,17,18] 13 19 [20,21,22,23,24] [20,21,22,23,24] [] [] [6,11,18] [13,19,21] I1 rfl rfl ?_;apply jR;simp only[go_sem,iv]
   try refine⟨Vi,?_⟩
   refine iZ (l:=[.int .u8 x.kind]) rfl hI rfl rfl rfl (by simpa using c0) (.inr ⟨MR,rfl⟩) ?_;apply jR;simp only[go_sem,iv]
   try refine⟨Vi,?_⟩
   refine iZ (l:=[.string ⟨⟨x.text⟩⟩]) rfl hI rfl rfl rfl (by simpa using c1) (.inr ⟨rz,rfl⟩) ?_;apply jR;simp only[go_sem,iv]
   try refine⟨Vi,?_⟩
   refine iZ (l:=[.slice ca x.cubes.length cc]) rfl hI rfl rfl rfl (by simpa using c2) (.inr ⟨Gq,rfl⟩) ?_;apply jR;simp only[go_sem,iv];refine ry ?_ ?_
   ·refine aZ b4 (by exact qX) rfl rfl rfl rfl rfl Vm fun nb I4 a4 aj b6=>?_;refine Ur ?_;refine Og a4 [0,1] rfl (fun _=>aj) rfl Ab (by rfl) (ps:=[]) (F:=[A1,B1]) rfl (Gv (uj.le hc aj) Vi) fun v1 I5 qs aS ap hq=>?_;obtain⟨rfl,hr⟩:=hq;simp only[Z3]at aS |-;obtain⟨za,zk,rfl⟩:=hr.shape2;refine Ut ?_;refine aZ aS (by exact DN) rfl rfl rfl rfl rfl Vm fun kb I6 a0 am a7=>?_;have a1:=Ui aj (Ui ap am);have bd:Sl cJ I6 (.slice (some ⟨kb,0,none⟩) 1 1) [dV x]:=⟨_,_,rfl,.inr ⟨kb,0,_,rfl,(az a7 (by simp[aE,Value.cells]) (by simp[aE,Value.cells,iv,sD,rD]):aQ I6 kb 0 [.int .u8 x.kind,.string ⟨⟨x.text⟩⟩,.slice (some ⟨nb,0,none⟩) 1 1,.int .i64 0,.int .i64 0,sD za zk (jO x.cubes),rD (jO x.cubes)]),.one ⟨.slice (some ⟨nb,0,none⟩) 1 1,0,0,za,zk,by simp[dV,sD,rD,iv],rfl,hr.le am⟩⟩⟩;refine Ur ?_;refine eZ (R:=cJ) (xs:=(l.take j).map dV) (ys:=[dV x]) a0 (by exact DN) (ui.le hA a1) bd (fun{I J c a} h k=>cJ.le h k) (fun{I} c a h=>cJ.len c a h) (fun{I} c a h=>cJ.ones h) rfl rfl rfl rfl rfl rfl (by simp only[SB,S9];omega) (by simp only[SB,S9];unfold maxLen;omega) fun ua uc I7 A7 a9 ao cl=>?_;refine Ur ?_;refine aw ?_;have k7:=Ui a1 ao;exact hg (.slice ua ((l.take j).map dV++[dV x]).length uc) _ _ ⟨I7,A7,B1,rfl,a9,k7,by rw[i8 hx,Uc];exact cl,Hv.le hB k7⟩ Uo (by simp only[go_sem,Tq,qP])
   ·refine Og b4 [0,1] rfl (fun _=>Uj _) rfl Ab (by rfl) (ps:=[]) (F:=[A1,B1]) rfl (Gv hc Vi) fun v1 I5 qs aS ap hq=>?_;obtain⟨rfl,hr⟩:=hq;simp only[Z3]at aS |-;obtain⟨za,zk,rfl⟩:=hr.shape2;refine Ut ?_;refine aZ aS (by exact qX) rfl rfl rfl rfl rfl Vm fun nb I4 a4 aj b6=>?_;refine Ut ?_;refine aZ a4 (by exact DN) rfl rfl rfl rfl rfl Vm fun kb I6 a0 am a7=>?_;have a1:=Ui ap (Ui aj am);have bd:Sl cJ I6 (.slice (some ⟨kb,0,none⟩) 1 1) [dV x]:=⟨_,_,rfl,.inr ⟨kb,0,_,rfl,(az a7 (by simp[aE,Value.cells]) (by simp[aE,Value.cells,iv,sD,rD]):aQ I6 kb 0 [.int .u8 x.kind,.string ⟨⟨x.text⟩⟩,.slice (some ⟨nb,0,none⟩) 1 1,.int .i64 0,.int .i64 0,sD za zk (jO x.cubes),rD (jO x.cubes)]),.one ⟨.slice (some ⟨nb,0,none⟩) 1 1,0,0,za,zk,by simp[dV,sD,rD,iv],rfl,hr.le (Ui aj am)⟩⟩⟩;refine Ur ?_;refine eZ (R:=cJ) (xs:=(l.take j).map dV) (ys:=[dV x]) a0 (by exact DN) (ui.le hA a1) bd (fun{I J c a} h k=>cJ.le h k) (fun{I} c a h=>cJ.len c a h) (fun{I} c a h=>cJ.ones h) rfl rfl rfl rfl rfl rfl (by simp only[SB,S9];omega) (by simp only[SB,S9];unfold maxLen;omega) fun ua uc I7 A7 a9 ao cl=>?_;refine Ur ?_;refine aw ?_;have k7:=Ui a1 ao;exact hg (.slice ua ((l.take j).map dV++[dV x]).length uc) _ _ ⟨I7,A7,B1,rfl,a9,k7,by rw[i8 hx,Uc];exact cl,Hv.le hB k7⟩ Uo (by simp only[go_sem,Tq,qP])
  rintro va2 H ⟨I2,A2,B2,rfl,a4,an,cn,cj⟩;obtain⟨aa2,ac2,rfl⟩:=cn.shape;simp only[qP];have c0:=c0.le an;have c1:=c1.le an;have c2:=c2.le an;have hc:=uj.le hc an;have hI:I2.le (U [I2,A2,B2]):=cD a4;refine Uq ?_;apply E6 (fun(y:Value)=>qP (.slice (some ⟨b,off,none⟩) l.length lc) u (j,.slice aa2 ((l.take (j+1)).map dV).length ac2,y)) (fun y H=>∃I A B,H=U [I,A,B]/\Dj [I,A,B]/\I2.le I/\ui I A (.slice aa2 ((l.take (j+1)).map dV).length ac2) ((l.take (j+1)).map dV)/\Hv I B y (m++[()]))
  ·intro hg;refine uD mixed [0,1,2,3,4,5,6,7,8,9,10,11,13,14,15,16,17,18] 12 19 [20,21,22,23] [20,21,22,23] [] [] [5,10,17] [12,19,21] I2 rfl rfl ?_;apply jR;simp only[go_sem,iv]
   try refine⟨Vi,?_⟩
   refine iZ (l:=[.int .u8 x.kind]) rfl hI rfl rfl rfl (by simpa using c0) (.inr ⟨MR,rfl⟩) ?_;apply jR;simp only[go_sem,iv]
   try refine⟨Vi,?_⟩
   refine iZ (l:=[.string ⟨⟨x.text⟩⟩]) rfl hI rfl rfl rfl (by simpa using c1) (.inr ⟨rz,rfl⟩) ?_;apply jR;simp only[go_sem,iv]
   try refine⟨Vi,?_⟩
   refine iZ (l:=[.slice ca x.cubes.length cc]) rfl hI rfl rfl rfl (by simpa using c2) (.inr ⟨Gq,rfl⟩) ?_;apply jR;simp only[go_sem,iv];refine ry ?_ ?_
   ·refine aZ a4 (by exact qX) rfl rfl rfl rfl rfl Vm fun nb I4 aS aj b6=>?_;refine Ur ?_;refine Og aS [0,1] rfl (fun _=>aj) rfl Hp (by rfl) (ps:=[]) (F:=[A2,B2]) rfl (Cn (uj.le hc aj) Vi hu bx) fun v1 I5 qs a0 ap hq=>?_;obtain⟨rfl,ta,tn,tc,rfl⟩:=hq;simp only[Z3]at a0 |-;refine Ur ?_;refine aZ a0 (by exact HQ) rfl rfl rfl rfl rfl Vm fun kb I6 a9 am a7=>?_;have a1:=Ui aj (Ui ap am);have bd:Sl nm I6 (.slice (some ⟨kb,0,none⟩) 1 1) [()]:=⟨_,_,rfl,.inr ⟨kb,0,_,rfl,(az a7 (by simp[aE,Value.cells]) (by simp[aE,Value.cells,iv]):aQ I6 kb 0 [.int .u8 x.kind,.string ⟨⟨x.text⟩⟩,.slice (some ⟨nb,0,none⟩) 1 1,.int .i64 0,.int .i64 0,.slice ta tn tc]),.one ⟨_,_,_,_,_,ta,tn,tc,0,0,rfl⟩⟩⟩;refine Ur ?_;refine UT a9 [1,0] fun cf=>?_;refine eZ (R:=nm) (xs:=m) (ys:=[()]) cf (by exact HQ) (Hv.le cj a1) bd (fun{I J c a} h k=>h) (fun{I} c a h=>nm.len (I:=I) c a h) (fun{I} c a h=>by obtain⟨k,t,a,n,m,b,bn,bc,i,j,e⟩:=h;rw[e];rfl) rfl rfl rfl rfl rfl rfl (by simp only[SB,S9];omega) (by simp only[SB,S9];unfold maxLen;omega) fun ua uc I7 B7 cb ao ci=>?_;refine Ur ?_;refine UT cb [1,0] fun bb=>?_;refine aw ?_;have k7:=Ui a1 ao;exact hg (.slice ua (m++[()]).length uc) _ _ ⟨I7,A2,B7,rfl,bb,k7,ui.le cn k7,ci⟩ Uo (by simp only[go_sem,Tq,qP])
   ·refine Og a4 [0,1] rfl (fun _=>Uj _) rfl Hp (by rfl) (ps:=[]) (F:=[A2,B2]) rfl (Cn hc Vi hu bx) fun v1 I5 qs a0 ap hq=>?_;obtain⟨rfl,ta,tn,tc,rfl⟩:=hq;simp only[Z3]at a0 |-;refine Ur ?_;refine aZ a0 (by exact qX) rfl rfl rfl rfl rfl Vm fun nb I4 aS aj b6=>?_;refine Ur ?_;refine aZ aS (by exact HQ) rfl rfl rfl rfl rfl Vm fun kb I6 a9 am a7=>?_;have a1:=Ui ap (Ui aj am);have bd:Sl nm I6 (.slice (some ⟨kb,0,none⟩) 1 1) [()]:=⟨_,_,rfl,.inr ⟨kb,0,_,rfl,(az a7 (by simp[aE,Value.cells]) (by simp[aE,Value.cells,iv]):aQ I6 kb 0 [.int .u8 x.kind,.string ⟨⟨x.text⟩⟩,.slice (some ⟨nb,0,none⟩) 1 1,.int .i64 0,.int .i64 0,.slice ta tn tc]),.one ⟨_,_,_,_,_,ta,tn,tc,0,0,rfl⟩⟩⟩;refine Ur ?_;refine UT a9 [1,0] fun cf=>?_;refine eZ (R:=nm) (xs:=m) (ys:=[()]) cf (by exact HQ) (Hv.le cj a1) bd (fun{I J c a} h k=>h) (fun{I} c a h=>nm.len (I:=I) c a h) (fun{I} c a h=>by obtain⟨k,t,a,n,m,b,bn,bc,i,j,e⟩:=h;rw[e];rfl) rfl rfl rfl rfl rfl rfl (by simp only[SB,S9];omega) (by simp only[SB,S9];unfold maxLen;omega) fun ua uc I7 B7 cb ao ci=>?_;refine Ur ?_;refine UT cb [1,0] fun bb=>?_;refine aw ?_;have k7:=Ui a1 ao;exact hg (.slice ua (m++[()]).length uc) _ _ ⟨I7,A2,B7,rfl,bb,k7,ui.le cn k7,ci⟩ Uo (by simp only[go_sem,Tq,qP])
  rintro vb2 H ⟨I3,A3,B3,rfl,aS,a3,cm,dd⟩;simp only[qP];apply RG;simp only[go_sem,iv,e1];exact a2 (j+1,.slice aa2 ((l.take (j+1)).map dV).length ac2,vb2) _ _ V9 Uo (by simp only[go_sem,Tq,qP]) ⟨I3,A3,B3,m++[()],rfl,aS,Ui a6 (Ui an a3),b3,cm,dd,by simp[cA]⟩
 ·have:j=l.length:=by omega
  subst this;have cp:=Z6 l.length;rw[Td]at hA |-;refine Um b4 [1,0] fun a4=>?_;refine Um a4 [0,1] fun aS=>?_;refine ag (c:=.st _) aS fun I2 aS an cj=>?_;refine Um aS [0] fun a0=>?_;refine ag (c:=.st _) a0 fun I3 a0 a3 cm=>?_;apply RG;simp only[go_sem,iv,cp];refine ai rfl a0 (r:=[.agg #[.slice aa (l.map dV).length ac,.slice none 0 0],.slice ba m.length bc,.int .u32 u,.bool true]) (by simp only[Tryz.results16,go_sem,iv]) (Ui a6 (Ui an a3)) ⟨rfl,.inr ⟨_,_,_,_,u,rfl,⟨⟨_,_,_,_,rfl,Ow.sl (R:=cJ) (fun{I J c a} h k=>cJ.le h k) (ui.le hA an) a3 cm⟩,?_,?_,?_⟩,Vi,_,_,_,_,rfl,hA.cap (fun c a h=>cJ.len c a h)⟩⟩
  ·intro t ht;obtain⟨y,hy,rfl⟩:=List.mem_map.1 ht;exact u8 y.cubes
  ·rw[Sz];omega
  ·intro t ht;obtain⟨y,hy,rfl⟩:=List.mem_map.1 ht;exact(hb y hy).2
theorem G2:aP Tryz.prog 70:=⟨_,Tryz.func70,rfl,rfl⟩
theorem jU:aP Tryz.prog 67:=⟨_,Tryz.func67,rfl,rfl⟩
theorem FI:aP Tryz.prog 66:=⟨_,Tryz.func66,rfl,rfl⟩
theorem Lq:aP Tryz.prog 65:=⟨_,Tryz.func65,rfl,rfl⟩
theorem EZ:aP Tryz.prog 17:=⟨_,Tryz.func17,rfl,rfl⟩
def QS:bM:=[102,110,32,109,97,105,110,32,40,32,41,32,123,32,112,114,105,110,116,32,49,32,43,32,50,32,42,32,51,32,59,32,125]
def Q5:bM:=[118,97,114,32,120,32,58,32,105,110,116,32,98,111,111,108,32,59]
def Of:List (Nat×bM):=[(1,[102,110]),(1,[109,97,105,110]),(3,[40]),(3,[41]),(3,[123]),(1,[112,114,105,110,116]),(2,[49]),(3,[43]),(2,[50]),(3,[42]),(2,[51]),(3,[59]),(3,[125])]
def Hu:List (Nat×bM):=[(1,[118,97,114]),(1,[120]),(3,[58]),(1,[105,110,116]),(1,[98,111,111,108]),(3,[59])]
theorem Qj:sF QS=some Of:=by decide +kernel
theorem Px:sF Q5=some Hu:=by decide +kernel
theorem PS:(Of.map ch).map refit=MV:=by
 have h:Of.all (fun x=>xg x.1 x.2)=true:=by decide +kernel
 have e:(Of.map ch).map refit=Of.map ch:=by
  rw[SK];refine SL fun x hx=>?_;have:=List.all_eq_true.1 h x hx;show refit (ch x)=ch x;unfold refit ch;simp only[this]
 rw[e];rfl
def xB:List Tok:=((Hu.map ch).set 3 { ch (1,[105,110,116])with cond:=kA }).set 4 { ch (1,[98,111,111,108])with cond:=kA.not }
theorem PB:xB.map refit=Qm:=by
 have h:Hu.all (fun x=>xg x.1 x.2)=true:=by decide +kernel
 have hh:∀x∈Hu,xg x.1 x.2=true:=List.all_eq_true.1 h;have e:∀t∈xB,refit t=t:=by
  intro t ht;have:∃x∈Hu,t.kind=x.1/\t.text=x.2/\t.fits=true:=by
   simp only[xB,Hu,ch,Tf,List.map_nil,List.set_cons_succ,Ue,Su,SW,or_false]at ht |-;rcases ht with h|h|h|h|h|h<;>subst h<;>simp
  obtain⟨x,hx,e1,e2,e3⟩:=this;unfold refit;have:=hh x hx;rw[<-e1,<-e2]at this;rw[this,<-e3]
 rw[show xB.map refit=xB.map id from SL e,List.map_id];rfl
theorem CG{I:PH}{s:bM}{l:List (Nat×bM)}(hs:s.length<2^40)(hV:fN I)(hx:sF s=some l):aO Tryz.prog 70 #[.string ⟨⟨s⟩⟩] I [] fun r I2 qs=>∃A lv,r=.agg #[lv,.slice none 0 0]/\qs=[A]/\ui I2 A lv (l.map ch):=by
 intro hd;refine ir 12 Tryz.func70 fun w0=>?_;refine Un ?_;refine V7 hd rfl ER (Kr hs hV) fun v I2 qs ak aj hq=>?_;unfold Kc at hq;rw[hx]at hq;obtain⟨A,va,rfl,rfl,hA⟩:=hq;obtain⟨aa,ac,rfl⟩:=hA.shape;refine Un ?_;exact ai rfl ak (r:=[.agg #[.slice aa (l.map ch).length ac,.slice none 0 0]]) (by simp only[Tryz.results70,go_sem,iv]) aj ⟨A,_,rfl,rfl,hA⟩
theorem nq{H:PH}{cs:List Value}{n k:Nd}{i:Nat}(hn:aW H cs n)(hk:n.kids[i]?=some k)(hi:i<2^40):bv Tryz.prog 67 #[.agg cs.toArray,iv i] H fun r H2=>(∃cs',r=.agg cs'.toArray/\aW H cs' k)/\H2=H:=by
 obtain⟨vk,a,ak,rfl,hr,ac,hc⟩:=hn.shape;obtain⟨ka,kc,rfl,_⟩:=id ac;have ap:=(List.getElem?_eq_some_iff.1 hk).1;have h9:decide ((i:Int)<(n.kids.length:Int))=true:=Uh Vi;obtain⟨b,off,ds,rfl,aj,aa⟩:=Sl.load aW.len ac hk;obtain⟨wk,wa,wn,rfl,an,am,ao⟩:=aj.shape;obtain⟨la,lc,rfl,_⟩:=id am;refine ir 16 Tryz.func67 fun w0=>?_
 try simp only[iv,sD,rD]
 apply RG;simp only[go_sem,h9]
 try refine⟨Vi,?_⟩
 refine Qz (l:=[.int .u8 k.kind,.string ⟨⟨k.text⟩⟩,.int .i64 k.tok,.int .i64 k.slot,.slice la k.kids.length lc,sD wa wn k.cond,rD k.cond]) (v:=.agg #[.int .u8 k.kind,.string ⟨⟨k.text⟩⟩,.int .i64 k.tok,.int .i64 k.slot,.slice la k.kids.length lc,sD wa wn k.cond,rD k.cond]) rfl aa (.inl ⟨bT,rfl⟩) ?_;refine Uv ?_;exact aK (r:=[.agg #[.int .u8 k.kind,.string ⟨⟨k.text⟩⟩,.int .i64 k.tok,.int .i64 k.slot,.slice la k.kids.length lc,sD wa wn k.cond,rD k.cond]]) (by simp only[Tryz.results67,go_sem,iv,sD,rD]) ⟨⟨_,rfl,aj⟩,rfl⟩
theorem EW{H:PH}{v:Value}{t:Tr}{k:Nd}(hT:zW H v t)(hk:t.kids[0]?=some k):bv Tryz.prog 66 #[v] H fun r H2=>(∃cs',r=.agg cs'.toArray/\aW H cs' k)/\H2=H:=by
 obtain⟨vk,vd,rfl,aa,hc,ak,_⟩:=hT;obtain⟨ka,kc,rfl,_⟩:=id aa;obtain⟨da,dc,rfl,_⟩:=id ak;have hn:aW H [.int .u8 0,.string ⟨⟨[]⟩⟩,.int .i64 0,.int .i64 0,.slice ka t.kids.length kc,.slice none 0 0,iv 0] ⟨0,[],0,0,t.kids,.lf false⟩:=aW.mk (n:=⟨0,[],0,0,t.kids,.lf false⟩) (a:=none) (k:=0) (jP H false) aa hc;refine ir 7 Tryz.func66 fun w0=>?_;refine Un ?_;refine Pf rfl jU (nq (i:=0) hn hk Vm) fun v H2 hv=>?_;obtain⟨⟨cs',rfl,ac⟩,rfl⟩:=hv;obtain⟨wk,wa,wn,rfl,am,aj,an⟩:=ac.shape;obtain⟨la,lc,rfl,_⟩:=id aj;refine Uv ?_;exact aK (r:=[.agg #[.int .u8 k.kind,.string ⟨⟨k.text⟩⟩,.int .i64 k.tok,.int .i64 k.slot,.slice la k.kids.length lc,sD wa wn k.cond,rD k.cond]]) (by simp only[Tryz.results66,go_sem,iv,sD,rD]) ⟨⟨_,rfl,ac⟩,rfl⟩
theorem FW{I:PH}{lv:Value}{l:List (Nat×bM)}(h:Sl cJ I lv (l.map ch))(hl:l.length<=256)(hx:∀x∈l,x.2.length<2^40):oC I (.agg #[lv,.slice none 0 0]) (l.map ch):=by
 refine⟨⟨lv,none,0,0,rfl,h⟩,fun t ht=>?_,by rw[Sz];omega,fun t ht=>?_⟩
 ·obtain⟨x,_,rfl⟩:=List.mem_map.1 ht;exact trivial
 ·obtain⟨x,aa,rfl⟩:=List.mem_map.1 ht;exact hx x aa
theorem EY{I:PH}{s:bM}{l:List (Nat×bM)}(hs:s.length<2^40)(hV:fN I)(hx:sF s=some l)(hl:l.length<=256)(ao:∀x∈l,x.2.length<2^40):aO Tryz.prog 65 #[.string ⟨⟨s⟩⟩] I [] fun r I2 qs=>qs=[]/\Nb (l.map ch) 0 r I2:=by
 intro hd;refine ir 6 Tryz.func65 fun w0=>?_;refine Un ?_;refine V7 hd rfl G2 (CG hs hV hx) fun v I2 qs aS ak hq=>?_;obtain⟨A,lv,rfl,rfl,hA⟩:=hq;obtain⟨aa,ac,rfl⟩:=hA.shape;refine Um aS [0] fun an=>?_;refine ag an fun I3 an aj a0=>?_;have hS:Sl cJ I3 (.slice aa (l.map ch).length ac) (l.map ch):=Ow.sl (R:=cJ) (fun{I J c a} h k=>cJ.le h k) hA aj a0;refine Un ?_;refine V7 an rfl Ex (Cv (c:=0) (hV.le (Ui ak aj)) (FW hS hl ao) Vm) fun v2 I4 qs ap am hq=>?_;obtain⟨rfl,t,hF,hR,hB⟩:=hq;obtain⟨_,_,rfl,⟨xa,xc,rfl,_⟩,_,⟨ya,yc,rfl,_⟩,_⟩:=id hR;refine Un ?_;exact ai rfl ap (r:=[.agg #[.slice xa (prj (dW 0) t).kids.length xc,.slice ya (prj (dW 0) t).diags.length yc]]) (by simp only[Tryz.results65,go_sem,iv]) (Ui ak (Ui aj am)) ⟨rfl,t,hF,hR,hB⟩
theorem jX{H:PH}{cs:List Value}{k:Nat}{t:bM}{o s:Int}{ks:List Nd}{d:T}(h:aW H cs ⟨k,t,o,s,ks,d⟩):∃va vc a n,cs=[.int .u8 k,.string ⟨⟨t⟩⟩,.int .i64 o,.int .i64 s,.slice va ks.length vc,sD a n d,rD d]/\db H (.slice va ks.length vc) ks/\cu H (.agg #[sD a n d,rD d]) d:=by
 obtain⟨vk,a,n,e,hr,hk,_⟩:=h.shape;obtain⟨va,vc,rfl,_⟩:=id hk;exact⟨va,vc,a,n,e,hk,hr⟩
def PN:Nd:=⟨13,[42],9,1,[⟨15,[50],8,0,[],tt⟩,⟨15,[51],10,1,[],tt⟩],tt⟩
def PI:Nd:=⟨13,[43],7,0,[⟨15,[49],6,0,[],tt⟩,PN],tt⟩
def Pw:Nd:=⟨11,[],5,0,[PI],tt⟩
def Qk:Nd:=⟨6,[],4,2,[Pw],tt⟩
def RZ:Nd:=⟨3,[109,97,105,110],1,0,[Qk],tt⟩
def QF:Nd:=⟨1,[],-1,0,[RZ],tt⟩
def Oe:Nd:=⟨5,[105,110,116],3,0,[],kA⟩
def KU:Nd:=⟨5,[98,111,111,108],4,0,[],kA.not⟩
def Qp:Nd:=⟨2,[120],1,0,[Oe,KU],tt⟩
def P6:Nd:=⟨1,[],-1,0,[Qp],tt⟩
theorem Oh:gL 1 0=kA:=by decide +kernel
set_option maxRecDepth 4000 in
theorem BE{I:PH}(hV:fN I):aO Tryz.prog 17 #[] I [] fun r I2 qs=>qs=[]/\r=.bool true:=by
 intro hd;refine ir 157 Tryz.func17 fun w0=>?_;refine Un ?_;refine V7 hd rfl Lq (EY (s:=QS) Vm hV Qj Vm Vm) fun v I1 qs c0 a3 hq=>?_;obtain⟨rfl,t,hF,hR,hB⟩:=hq;rw[PS]at hF;have hp:=Md (ub _ _) hF (vQ 0);rw[hp]at hR;have hR:zW I1 v ⟨[QF],[]⟩:=hR;obtain⟨vk,vd,rfl,hk,en,ct,er⟩:=id hR;obtain⟨ka,kc,rfl,_⟩:=id hk;obtain⟨da,dc,rfl,_⟩:=id ct;simp only[SB,S9]at hR hk ct |-;refine Un ?_;refine Pf rfl FI (EW (hR.le (cD c0)) rfl) fun v H2 hv=>?_;obtain⟨⟨c1,rfl,a6⟩,rfl⟩:=hv;obtain⟨pa,pc,pa2,pn,rfl,em,el⟩:=jX a6;refine Uv ?_;refine Pf rfl jU (nq (i:=0) a6 rfl Vm) fun v H2 hv=>?_;obtain⟨⟨c2,rfl,ds⟩,rfl⟩:=hv;obtain⟨fa,fc,fa2,fn,rfl,eq,ep⟩:=jX ds;refine Uv ?_;refine Pf rfl jU (nq (i:=0) ds rfl Vm) fun v H2 hv=>?_;obtain⟨⟨c3,rfl,dk⟩,rfl⟩:=hv;obtain⟨ba,bc,ba2,bn,rfl,ex,et⟩:=jX dk;refine Uv ?_;refine Pf rfl jU (nq (i:=0) dk rfl Vm) fun v H2 hv=>?_;obtain⟨⟨c4,rfl,dj⟩,rfl⟩:=hv;obtain⟨ra,rc,ra2,rn,rfl,eh,eg⟩:=jX dj;refine Uv ?_;refine Pf rfl jU (nq (i:=0) dj rfl Vm) fun v H2 hv=>?_;obtain⟨⟨c5,rfl,b6⟩,rfl⟩:=hv;obtain⟨ia,ic,ia2,inn,rfl,eo,dA⟩:=jX b6;refine Uv ?_;refine Pf rfl jU (nq (i:=0) a6 rfl Vm) fun v H2 hv=>?_;obtain⟨⟨c6,rfl,ea⟩,rfl⟩:=hv;obtain⟨xa6,xb6,xc6,xd6,rfl,_,_⟩:=jX ea;refine Uv ?_;refine Pf rfl jU (nq (i:=0) a6 rfl Vm) fun v H2 hv=>?_;obtain⟨⟨c7,rfl,d9⟩,rfl⟩:=hv;obtain⟨xa7,xb7,xc7,xd7,rfl,_,_⟩:=jX d9;refine Uv ?_;refine Pf rfl jU (nq (i:=1) b6 rfl Vm) fun v H2 hv=>?_;obtain⟨⟨c8,rfl,d7⟩,rfl⟩:=hv;obtain⟨xa8,xb8,xc8,xd8,rfl,_,_⟩:=jX d7;refine Uv ?_;refine Pf rfl jU (nq (i:=1) b6 rfl Vm) fun v H2 hv=>?_;obtain⟨⟨c9,rfl,d6⟩,rfl⟩:=hv;obtain⟨xa9,xb9,xc9,xd9,rfl,_,_⟩:=jX d6;refine Uv ?_;refine Pf rfl GY (Fs dA) fun v H2 hv=>?_;obtain⟨rfl,rfl⟩:=hv;refine Uv ?_
 refine V7 c0 rfl Ct (AX (on:=1) (off:=0) Vm Vm) fun v I2 qs d0 aS hq=>?_;obtain⟨rfl,a4⟩:=hq;rw[Oh]at a4;obtain⟨ua,uk,rfl⟩:=a4.shape2;refine Uv ?_;refine V7 d0 rfl G2 (CG (s:=Q5) Vm (hV.le (Ui a3 aS)) Px) fun v I3 qs dT aj hq=>?_;obtain⟨A,lv,rfl,rfl,hA⟩:=hq;obtain⟨g,cap,cur,cc,rfl,rfl,d4,d3,es,_,a9⟩:=hA.part (fun{I} c a h=>cJ.len c a h) (fun{I J c a} h k=>cJ.le h k) (i:=3) (x:=ch (1,[105,110,116])) rfl 5 2 Vm;have cp:(Hu.map ch).length=6:=rfl;rw[cp]at d4;obtain⟨p1,f1,l1,a1,k1,rfl,dy,_⟩:=d3;apply RG;simp only[go_sem,sD,rD,iv,cp,TJ];refine cG dT rfl rfl rfl rfl rfl (by exact zp) (by simp;omega) fun cB=>?_;have cb:=a9 I3 [sD ua uk kA,rD kA] { ch (1,[105,110,116])with cond:=kA } (Uj _) (by simp) ⟨p1,f1,l1,ua,uk,by simp[be,sD,rD,ch],dy,a4.le aj⟩;simp only[sD,rD,iv]at cb;generalize a7:sg g _=A2 at cB cb |-;clear a7;refine Uv ?_;refine V8 [0,1,2,3,4,5,6] [] [] ?_;refine Ut ?_;refine i7 cB [0] [] [A2] rfl mn rfl (qK (a4.le aj)) fun v I4 qs cA am hq=>?_;obtain⟨rfl,dd⟩:=hq;simp only[Z3]at cA |-;obtain⟨na,nk,rfl⟩:=dd.shape2;obtain⟨g2,cap2,cur2,cc2,ev,rfl,b3,b2,d5,_,ao⟩:=Ow.part (R:=cJ) (ui.le cb am) (fun{I} c a h=>cJ.len c a h) (fun{I J c a} h k=>cJ.le h k) (i:=4) (x:=ch (1,[98,111,111,108])) rfl 5 2 Vm;cases ev
 have bb:((Hu.map ch).set 3 { ch (1,[105,110,116])with cond:=kA }).length=6:=rfl;rw[bb]at b3;obtain⟨p2,f2,l2,a2,k2,rfl,dx,_⟩:=b2;refine Ut ?_;refine aH cA rfl rfl rfl rfl rfl rfl (by exact zp) (by simp;omega) fun cy=>?_;have ca:=ao I4 [sD na nk kA.not,rD kA.not] { ch (1,[98,111,111,108])with cond:=kA.not } (Uj _) (by simp) ⟨p2,f2,l2,na,nk,by simp[be,sD,rD,ch],dx,dd⟩;simp only[sD,rD,iv]at ca;generalize a7:sg _ _=A3 at cy ca |-;clear a7;refine Ut ?_;refine aw ?_;refine Um cy [0] fun bd=>?_;refine ag (c:=.st _) bd fun I5 bd ak ec=>?_;have hS:Sl cJ I5 (.slice (some ⟨g,0,none⟩) 6 cap) xB:=Ow.sl (R:=cJ) (fun{I J c a} h k=>cJ.le h k) ca ak ec;have cf:=Ui a3 (Ui aS (Ui aj (Ui am ak)));have eb:oC I5 (.agg #[.slice (some ⟨g,0,none⟩) 6 cap,.slice none 0 0]) xB:=by
  refine⟨⟨_,none,0,0,rfl,hS⟩,fun t ht=>?_,by decide,fun t ht=>?_⟩
  ·simp only[xB,Hu,ch,Tf,List.map_nil,List.set_cons_succ,Ue,Su,SW,or_false]at ht;rcases ht with h|h|h|h|h|h<;>subst h<;>first|exact trivial|exact⟨by decide,by decide,by decide,trivial,trivial⟩
  ·simp only[xB,Hu,ch,Tf,List.map_nil,List.set_cons_succ,Ue,Su,SW,or_false]at ht;rcases ht with h|h|h|h|h|h<;>subst h<;>decide
 refine Uv ?_;refine V8 [3,0,1,2,4] [] [] ?_;refine Ut ?_;refine IR bd rfl Bd (bv.keep (Bo _)) fun v I6 qs dI ac hq=>?_;obtain⟨rfl,rfl⟩:=hq;refine Ut ?_;refine IR dI rfl Aw (su (hV.le (Ui cf ac)) (eb.le ac) (Fj I6)) fun v I7 qs cx ap hq=>?_;obtain⟨rfl,t2,dv,a5,ey⟩:=hq;rw[PB]at dv;have dw:=Qc dv;subst dw;have a5:zW I7 v ⟨[P6],[]⟩:=a5;obtain⟨wk,wd,rfl,cm,_,cn,_⟩:=id a5;obtain⟨wka,wkc,rfl,_⟩:=id cm;obtain⟨wda,wdc,rfl,_⟩:=id cn;simp only[SB,S9]at a5 cm cn |-;refine Ut ?_;refine aw ?_;refine Uv ?_;refine Pf rfl FI (EW (a5.le (cD cx)) rfl) fun v H2 hv=>?_;obtain⟨⟨d1,rfl,hd1c⟩,rfl⟩:=hv;obtain⟨qa,qc,qa2,qn,rfl,ek,ei⟩:=jX hd1c;refine Uv ?_;refine Pf rfl jU (nq (i:=0) hd1c rfl Vm) fun v H2 hv=>?_;obtain⟨⟨d2,rfl,hd2c⟩,rfl⟩:=hv;obtain⟨xa,xc,xa2,xn,rfl,cl,cj⟩:=jX hd2c;obtain⟨b0,o0,cs0,rfl,b5,cs⟩:=Sl.load aW.len cl (i:=0) (x:=Oe) rfl;obtain⟨b1,o1,cs1,e1,b4,cr⟩:=Sl.load aW.len cl (i:=1) (x:=KU) rfl;cases e1
 obtain⟨ya,yc,ya2,yn,rfl,ef,ci⟩:=jX b5;obtain⟨za,zc,za2,zn,rfl,ee,ed⟩:=jX b4;have m1:=cs.get (i:=1) rfl;have m5:=cs.sub 5 2 (by simp);have w1:=cr.get (i:=1) rfl;have w2:=cr.get (i:=2) rfl;rw[jl]at ci cj w1 w2;refine Uv ?_;refine ax mixed [0,1,2,3,4,5,6,7,8,9,10,11,12,13,14,15,16,17,18,19,20,21,22,23,24,25,26,27,28,29,30,31,32,33,34,35,36,37,38,39,40,41,42,43,44,45,46,47,48,49,50,51,52,53,54,55,56,57,58,59] [26,34,43,51] [] (by kernel_rfl) rfl ?_;refine Ut ?_;refine P7 (l:=[.string ⟨⟨[105,110,116]⟩⟩]) rfl (by simpa using m1) (.inr ⟨rz,rfl⟩) ?_;refine Ut ?_;refine P7 (l:=[sD ya2 yn kA,rD kA]) (v:=.agg #[sD ya2 yn kA,rD kA]) rfl (by simpa using m5) (.inl ⟨oQ,rfl⟩) ?_;refine Ut ?_;refine IR cx rfl z8 (bv.keep (Bn ci (a4.le (Ui aj (Ui am (Ui ak (Ui ac ap))))))) fun v8 I8 qs an aa hq=>?_;obtain⟨rfl,rfl⟩:=hq;refine Ut ?_;refine P7 (l:=[.string ⟨⟨[98,111,111,108]⟩⟩]) rfl (cellsU an (.head _) (by simpa using w1.le aa)) (.inr ⟨rz,rfl⟩) ?_;refine Ut ?_;refine P7 (l:=[.int .i64 4]) rfl (cellsU an (.head _) (by simpa using w2.le aa)) (.inr ⟨mF,rfl⟩) ?_;refine Ut ?_;refine IR an rfl GY (bv.keep (Fs (cj.le aa))) fun v9 I9 qs bx a0 hq=>?_;obtain⟨rfl,rfl⟩:=hq;refine Ut ?_;refine aw ?_;refine Un ?_;exact ai rfl bx (r:=[.bool true]) rfl (Ui cf (Ui ac (Ui ap (Ui aa a0)))) ⟨rfl,rfl⟩
def PT(l:List It)(v:Value)(I2:PH):Prop:=v=.tuple #[.agg #[.slice none 0 0,.slice none 0 0],.bool false]\/∃lv,v=.tuple #[lv,.bool true]/\oC I2 lv (l.map dV)/\l.length<400/\∃a n k g,lv=.agg #[.slice a n k,g]/\n<=k
theorem J6{I:PH}{vl vw:Value}{l:List It}{w:List (Nat×Nat)}(hS:KJ I vl l)(hW:uj I vw w)(hb:∀x∈l,Ql x)(hl:l.length<2^40)(hw:w.length<2^40):aO Tryz.prog 32 #[vl,vw] I [] fun r I2 qs=>qs=[]/\PT l r I2:=by
 obtain⟨la,lc,rfl,_⟩:=id hS;obtain⟨wa,wc,rfl,_⟩:=id hW;intro hd;refine ir 20 Tryz.func32 fun w0=>?_;refine Un ?_;refine V7 hd rfl LW (Mb (most:=8) hS hW hb hl hw Vm) fun v I2 qs ac aa hq=>?_;obtain⟨rfl,hq⟩:=hq;rcases hq with ⟨lv,rfl,rfl⟩|⟨lv,a,n,cc,u,rfl,hL,aj⟩
 ·refine Un ?_;exact ai rfl ac (r:=[.agg #[.slice none 0 0,.slice none 0 0],.bool false]) (by simp only[Tryz.results32,go_sem,iv]) aa ⟨rfl,.inl rfl⟩
 ·obtain⟨⟨tv,ga,gn,gc,rfl,hT⟩,h2,h3,h4⟩:=id hL;obtain⟨ta,tc,rfl,_⟩:=id hT;refine Un ?_;exact ai rfl ac (r:=[.agg #[.slice ta (l.map dV).length tc,.slice ga gn gc],.bool true]) (by simp only[Tryz.results32,go_sem,iv]) aa ⟨rfl,.inr ⟨_,rfl,hL,aj⟩⟩
end Go.Proofs.YtfaclfkpnmcmlaaGreatDoor
