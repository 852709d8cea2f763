import Derived.Test.YtfaclfkpnmcmlaaGreatDoorQ09
import Derived.Test.YtfaclfkpnmcmlaaGreatDoorQ10
import Derived.Test.YtfaclfkpnmcmlaaGreatDoorQ11
import Derived.Test.YtfaclfkpnmcmlaaGreatDoorQ12
import Derived.Test.YtfaclfkpnmcmlaaGreatDoorQ13
import Derived.Test.YtfaclfkpnmcmlaaGreatDoorQ14
set_option maxHeartbeats 8000000
set_option linter.all false
namespace Go.Proofs.YtfaclfkpnmcmlaaGreatDoor
open Go Go.Sx Dg Syn
theorem FY:aP Tryz.prog 84:=⟨_,Tryz.func84,rfl,rfl⟩
theorem Ib:aP Tryz.prog 146:=⟨_,Tryz.func146,rfl,rfl⟩
theorem Fk{I:PH}{v:Value}{l:List Nd}(hS:db I v l)(hl:l.length<=aF):aO Tryz.prog 146 #[v] I [] fun r I2 qs=>∃A,qs=[A]/\br I2 A r l:=by
 intro hd;obtain⟨fa,fc,rfl,ak⟩:=id hS;unfold aF at hl;refine Ot Tryz.func146 rfl fun w0=>?_;simp only[Tryz.ntmps146];cases fa with
 |none=>
  have am:l=[]:=by
   rcases ak with h|⟨b,off,xs,e,_⟩
   ·exact h
   ·cases e
  subst am;apply RG;simp only[go_sem];refine kw rfl rfl (by exact GT) rfl rfl ?_;apply RG;simp only[go_sem,Option.isNone];refine aT hd fun aj=>?_;exact ai rfl aj (r:=[_]) rfl (Uj _) ⟨_,rfl,Ow.nil _ _ _ _⟩
 |some a=>
  apply RG;simp only[go_sem];refine kw rfl rfl (by exact GT) rfl rfl ?_;apply RG;simp only[go_sem,Option.isNone];refine dP hd (by exact cT) rfl rfl rfl rfl rfl (by decide) fun b A aj aa=>?_;apply RG;simp only[go_sem];refine aY aj (by exact cT) (xs:=([]:List Nd)) (R:=aW) ⟨[],aa,rfl⟩ hS (fun{I J c a} h k=>aW.le h k) (fun{I} c a h=>aW.len c a h) (fun{I} c a h=>aW.ones h) rfl rfl rfl rfl (by simp only[S9];omega) (by simp only[S9];unfold maxLen;omega) fun a2 c2 I2 A2 an ac ao=>?_;apply RG;simp only[go_sem,SU];exact ai rfl an (r:=[_]) rfl ac ⟨_,rfl,ao⟩
theorem yv:∀(o:List Nd) (n:Nd),cK (pW o n)<=cK o+(cK n.kids+1)
 | [],n=>by simp only[pW,a8,cR];omega
 |m::o,n=>by
  rw[pW];split
  ·simp only[a8,fB];omega
  ·have:=yv o n;simp only[a8];omega
theorem sS:∀(l o:List Nd),cK (l.foldl qU o)<=cK o+cK l
 | [],o=>R7 _
 |n::l,o=>by
  have h1:=sS l (qU o n);have h2:cK (qU o n)<=cK o+(cK n.kids+1):=by
   unfold qU;split
   ·omega
   ·exact yv o n
  rw[Sj,a8];omega
theorem qz{C:Cx}{c:Cf}{σ:St}{H H':PH}(e:H=H')(h:RC C c σ H'):RC C c σ H:=by rw[e];exact h
theorem GQ{o:List Nd}{j:Nat}{m m':Nd}(hj:o[j]?=some m)(hk:m'.key=m.key)(y u:Value):Gi (o.set j m') y u<->Gi o y u:=by
 have aa:=(List.getElem?_eq_some_iff.1 hj).1;constructor
 ·rintro⟨i,x,hi,hy,hu⟩;rw[Tj]at hi;split at hi
  ·rename_i e;subst e;cases hi
   exact⟨j,m,hj,by rw[hy,hk],hu⟩
  ·exact⟨i,x,hi,hy,hu⟩
 ·rintro⟨i,x,hi,hy,hu⟩;by_cases e:i=j
  ·subst e;rw[hj]at hi;cases hi
   exact⟨i,m',List.getElem?_set_self aa,by rw[hy,hk],hu⟩
  ·exact⟨i,x,by rw[List.getElem?_set_ne (fun e2=>e e2.symm)];exact hi,hy,hu⟩
theorem Dh{o:List Nd}{n:Nd}(aa:∀x∈o,x.key≠n.key)(y u:Value):Gi (o++[n]) y u<->(y=nJ n.key/\u=iv o.length)\/(y≠nJ n.key/\Gi o y u):=by
 constructor
 ·rintro⟨i,x,hi,hy,hu⟩;rcases Sw i o.length with h|h
  ·rw[S1 h]at hi;refine .inr ⟨fun e=>aa x (Tg hi) (yU (hy.symm.trans e)),i,x,hi,hy,hu⟩
  ·rw[S2 h]at hi;have:i-o.length=0:=by
    rcases TI (i-o.length)with h0|h0
    ·exact h0
    ·rw[SF (by simp;omega)]at hi;cases hi
   rw[this]at hi;cases hi
   exact .inl ⟨hy,by rw[hu];congr 1;omega⟩
 ·rintro(⟨hy,hu⟩|⟨_,i,x,hi,hy,hu⟩)
  ·exact⟨o.length,n,by simp,hy,hu⟩
  ·exact⟨i,x,by rw[S1 (List.getElem?_eq_some_iff.1 hi).1];exact hi,hy,hu⟩
theorem nZ{l:List Nd}(h:fX l)(k:nL):fX (cF l k):=fD.2 fun x hx=>by
 obtain⟨n,hn,_,_,hx⟩:=js hx;exact fD.1 (eC.1 (fD.1 h n hn)).2 x hx
theorem uy{l:List Nd}{k:nL}{d:Nat}(h:eX l<d+1)(hk:k∈ks l):eX (cF l k)<d:=by
 obtain⟨n,hn,_⟩:=s6.1 hk;have h1:=o4 hn;rw[wi]at h1;have h2:eX l<=(d-1)+1:=by omega
 have:=tT (k:=k) h2;omega
theorem qI{α:Type}[Inhabited α]{lt:α->α->Bool}{d e:Array α}(p:Sort.PermIn 0 d.size d e)(s:Sort.SortedIn lt 0 d.size e):e.toList.Perm d.toList/\e.toList.Pairwise (fun a b=>lt b a=false):=by
 have hz:=p.1;refine⟨?_,List.pairwise_iff_getElem.2 fun i j hi hj aa=>?_⟩
 ·have h:=p.2.2;rw[show e.extract 0 d.size=e by rw[<-hz];simp,show d.extract 0 d.size=d by simp]at h;exact h
 ·simp only[Sk]at hi hj;have:=s i j (S6 _) aa (by omega);rw[getElem!_pos e j hj,getElem!_pos e i hi]at this;simpa using this
def Kh(vl vm:Value)(n:Nat)(x:Nat×Value):St:=⟨dn 87 [(3,.v vm),(4,.v x.2),(12,.v vl),(13,.v (iv n)),(14,.v (iv x.1))],[]⟩
def Q3(l:List Nd)(mr:Nat)(I0:PH)(x:Nat×Value)(H:PH):Prop:=∃I M A l',H=U [I,M,A,U (l'.map Prod.fst)]/\Dj [I,M,A,U (l'.map Prod.fst)]/\Dj (l'.map Prod.fst)/\I0.le I/\x.1<=l.length/\jh Tryz.prog M mr 240 (Gi (l'.map Prod.snd))/\Ow oj 60 7 I A x.2 l'/\l'.map Prod.snd=(l.take x.1).foldl qU []
def Pa(v:Value)(n i:Nat):St:=⟨dn 87 [(4,.v v),(70,.v v),(71,.v (iv n)),(72,.v (iv i))],[]⟩
theorem Ia{l':List (PH×Nd)}{j:Nat}{m:Nd}(h:(l'.map Prod.snd)[j]?=some m):∃K,l'[j]?=some (K,m):=by
 rw[SA]at h;cases hl:l'[j]? with
 |none=>rw[hl]at h;cases h
 |some p=>rw[hl]at h;simp only[So,Sc]at h;exact⟨p.1,by rw[<-h]⟩
theorem Gd:∀(d:Nat) {I:PH} {v:Value} {l:List Nd},eX l<d->db I v l->oU v->fX l->kG l->cK l<=aF->aO Tryz.prog 84 #[v] I [] fun r I2 qs=>∃A,qs=[A]/\br I2 A r (kH d l):=by
 intro d
 induction d with
 |zero=>intro I v l h;omega
 |succ d ih=>
 intro I v l d5 hS hC dv ek ec hd;obtain⟨va,vc,rfl,_⟩:=id hS;have fl:=gw l;unfold aF at ec;refine Ot Tryz.func84 rfl fun w0=>?_;simp only[Tryz.ntmps84,iv];apply RG;simp only[go_sem];refine lW 240 hd rfl rfl fun mr M0 e4 fa=>?_;apply RG;simp only[go_sem];refine aT e4 fun e2=>?_;refine aT e2 fun e0=>?_;refine ab e0 [2,0,1] rfl fun el=>?_;simp only[Z4]at el |-;apply cO (fun x=>l.length-x.1) (Kh (.slice va l.length vc) (.map (some mr)) l.length) (Q3 l mr I) (fun x H=>x.1=l.length/\Q3 l mr I x H) (0,.slice none 0 0)
 ·exact(ae (by simp only[go_sem,Tq,iv]))
 ·exact(by simp only[go_sem,Tq,Kh])
 ·exact⟨I,M0,PH.no,[],rfl,el,List.Pairwise.nil,Uj _,S6 _,fa.congr fun y u=>⟨fun⟨j,m,h,_⟩=>by simp at h,fun h=>h.elim⟩,Ow.nil _ _ _ _,rfl⟩
 ·rintro⟨i,vo⟩ H ⟨I1,M1,A1,l',rfl,b0,cc,ap,hi,cn,a9,ba⟩ an c9;simp only at hi a9 ba;simp only[Kh];obtain⟨oa,oc,rfl⟩:=a9.shape;rcases Sw i l.length with ao|eA
  rotate_left
  ·have:i=l.length:=by omega
   subst this;have ea:=Z6 l.length;apply bq 7;simp only[go_sem,ea,iv];exact c9 (l.length,.slice oa l'.length oc) _ _ (ae (by simp only[go_sem,Tq,iv])) (by simp only[go_sem,Tq,Kh]) ⟨rfl,I1,M1,A1,l',rfl,b0,cc,ap,R7 _,cn,a9,ba⟩
  have ea:decide ((i:Int)<(l.length:Int))=true:=by simp;omega
  have eb:=rJ hC ao;obtain⟨n,hn⟩:∃n,l[i]?=some n:=⟨_,SC ao⟩;have ef:=Tg hn;have eq:=(eC.1 (fD.1 dv n ef)).1;obtain⟨b,off,cs,rfl,e7,dc⟩:=Sl.load aW.len (db.le hS ap) hn;obtain⟨vk,na,nk,rfl,a1,ak,dj⟩:=e7.shape;obtain⟨ka,kc,rfl,_⟩:=id ak;have aS:=CK.of (l:=l) (fun x hx=>(eC.1 (fD.1 dv x hx)).1) i (by omega);have a0:(l.take (i+1)).foldl qU []=qU (l'.map Prod.snd) n:=by rw[cv hn,T9,ba];rfl
  rw[<-ba]at aS;have dy:cK (l'.map Prod.snd)+(cK n.kids+1)<=cK l:=by
   rw[ba];have h1:=sS (l.take i) [];rw[cR,Sf]at h1;have h2:cK (l.take (i+1))<=cK l:=by
    conv=>rhs;rw[<-TL (i+1) l]
    rw[fB];omega
   rw[cv hn,fB,a8,cR]at h2;omega
  have bd:=gw (l'.map Prod.snd);rw[Sz]at bd;apply RG;simp only[go_sem,ea,iv,sD,rD];refine⟨by omega,?_⟩;refine Qz (l:=[.int .u8 n.kind,.string ⟨⟨n.text⟩⟩,.int .i64 n.tok,.int .i64 n.slot,.slice ka n.kids.length kc,sD na nk n.cond,rD n.cond]) (v:=.agg #[.int .u8 n.kind,.string ⟨⟨n.text⟩⟩,.int .i64 n.tok,.int .i64 n.slot,.slice ka n.kids.length kc,sD na nk n.cond,rD n.cond]) rfl (cellsU b0 (.head _) dc) (.inl ⟨bT,rfl⟩) ?_;apply RG;simp only[go_sem,iv,sD,rD];refine Pf rfl gK (fq a1) fun v H2 hv=>?_;obtain⟨rfl,rfl⟩:=hv;cases dw:decide (n.cond=.lf false)
  rotate_left
  ·have eH:n.cond=ff:=by simpa using dw
   apply RG;simp only[go_sem,iv,sD,rD,dw,eb];exact an (i+1,.slice oa l'.length oc) _ _ (by simp only;omega) (ae (by simp only[go_sem,Tq,iv])) (by simp only[go_sem,Tq,Kh]) ⟨I1,M1,A1,l',rfl,b0,cc,ap,ao,cn,a9,by simp only;rw[a0,qU,SI eH]⟩
  have er:n.cond≠ff:=by simpa using dw
  have dk:qU (l'.map Prod.snd) n=pW (l'.map Prod.snd) n:=Sb er;apply RG;simp only[go_sem,iv,sD,rD,dw];refine Pf rfl oB (yz _ _ _ _ _ _ _ _ _ _ _ _) fun v H2 hv=>?_;obtain⟨rfl,rfl⟩:=hv;apply RG;simp only[go_sem,iv,sD,rD];have cb:=Mk (iL.1 ek n ef);have eo:=cn.atU b0 (.tail _ (.head _));by_cases d4:∃(j:Nat) (m:Nd),(l'.map Prod.snd)[j]?=some m/\m.key=n.key
  ·obtain⟨j,m,hj,d2⟩:=d4;obtain⟨Kj,d3⟩:=Ia hj;have cl:=(List.getElem?_eq_some_iff.1 d3).1;refine kh (by exact LP) (by exact Gr) Hw (key:=nJ n.key) rfl rfl rfl rfl eo cb (iv j) true (.inl ⟨rfl,j,m,hj,by rw[d2],rfl⟩) ?_;apply RG;simp only[go_sem,iv,sD,rD,Ud];have fc:(l'.map Prod.fst)[j]?=some Kj:=by rw[SA,d3];rfl
   obtain⟨ue,ud⟩:=L3 (l:=[I1,M1,A1]) b0 cc fc;have cf:Dj [I1,M1,A1,Kj,U ((l'.map Prod.fst).eraseIdx j)]:=ud;rw[show U [I1,M1,A1,U (l'.map Prod.fst)]=U [I1,M1,A1,Kj,U ((l'.map Prod.fst).eraseIdx j)] from ue];clear ue ud;obtain⟨g,cap,cur,xs,ev,rfl,c1,c2,c3,c4,c5,bc⟩:=a9.open' (by omega) oj.len;cases ev
   obtain⟨vkj,ma,mk,cm,cy,a2⟩:=bc.get oj.len d3;obtain⟨kja,kjc,rfl⟩:=a2.shape;have b6:l'.length*7<=cur.size:=by rw[c3];exact Tb _ c1
   have fo:(j+1)*7<=l'.length*7:=Tb _ cl;have a7:=fp (k:=5) (m:=2) (e:=60) (g:=g) (cur:=cur) oj.len bc (i:=j) cl b6 c4 cm (by omega);simp only[TT,Tm,TW,TV]at a7;refine ax mixed [0,1,2,3,4,5,6,7,8,9,10,11,12] [6] [] rfl rfl ?_;apply af;simp only[go_sem,iv,sD,rD];refine⟨by omega,?_⟩;refine P7 (l:=[sD ma mk m.cond,rD m.cond]) (v:=.agg #[sD ma mk m.cond,rD m.cond]) rfl (by simpa using cellsU cf (.tail _ (.tail _ (.head _))) a7) (.inl ⟨oQ,rfl⟩) ?_;apply af;simp only[go_sem,iv,sD,rD];refine Og cf [0,1,2,3] rfl (fun h=>by cases h) rfl sQ (by rfl) (ps:=[]) (F:=[M1,_,Kj,_]) rfl (G1 cy a1) fun v I6 qs a4 aj hq=>?_;obtain⟨rfl,ee⟩:=hq;obtain⟨za,zk,rfl⟩:=ee.shape2;simp only[Z3]at a4 |-;apply af;simp only[go_sem,iv,sD,rD];refine⟨by omega,?_⟩;refine cq a4 [1,0,2,3] rfl fun bx=>?_;simp only[Z4]at bx |-;refine aH bx rfl rfl rfl rfl rfl rfl (by exact zp) (by simp;omega) fun bs=>?_;apply af;simp only[go_sem,iv,sD,rD];refine aw ?_;have ct:Ow oj 60 7 I6 (sg g (.cells (be cur.toList (j*7+5) [sD za zk (m.cond.or n.cond),rD (m.cond.or n.cond)]).toArray 60 (0,0))) (.slice (some ⟨g,0,none⟩) l'.length oc) (l'.set j (Kj,{ m with cond:=m.cond.or n.cond })):=by
    refine⟨_,?_,lz oj.len (bc.mono fun _ _ h=>oj.le h aj) (i:=j) cl cm (k:=5) (cs:=[sD za zk (m.cond.or n.cond),rD (m.cond.or n.cond)]) (a:=(Kj,{ m with cond:=m.cond.or n.cond })) (by simp) ⟨.slice kja m.kids.length kjc,za,zk,by simp[be,sD,rD],ee,br.le a2 aj⟩⟩;rw[Tl];exact kI c5 c1 c2 c3 c4 (by simp;omega)
   have bb:Dj [I6,sg g (.cells (be cur.toList (j*7+5) [sD za zk (m.cond.or n.cond),rD (m.cond.or n.cond)]).toArray 60 (0,0)),M1,Kj,U ((l'.map Prod.fst).eraseIdx j)]:=bs
   change RC _ _ _ (U [I6,sg g (.cells (be cur.toList (j*7+5) [sD za zk (m.cond.or n.cond),rD (m.cond.or n.cond)]).toArray 60 (0,0)),M1,Kj,U ((l'.map Prod.fst).eraseIdx j)])
   clear bs bx a4 cf bc cm a7;generalize sg g (.cells (be cur.toList (j*7+5) [sD za zk (m.cond.or n.cond),rD (m.cond.or n.cond)]).toArray 60 (0,0))=A2 at ct bb;obtain⟨g2,cap2,cur2,xs2,ev2,rfl,b1,b2,b3,b4,b5,ca⟩:=ct.open' (by rw[Tl];omega) oj.len;rw[Tl]at ev2 b1 b4 b5;cases ev2
   have ey:(l'.set j (Kj,{ m with cond:=m.cond.or n.cond }))[j]?=some (Kj,{ m with cond:=m.cond.or n.cond }):=List.getElem?_set_self cl;obtain⟨vk2,m2a,m2k,dd,cA,a3⟩:=ca.get oj.len ey;obtain⟨k2a,k2c,rfl⟩:=a3.shape;have c8:j<(l'.set j (Kj,{ m with cond:=m.cond.or n.cond })).length:=by rw[Tl];exact cl
   have cx:l'.length*7<=cur2.size:=by rw[b3];exact Tb _ b1
   have c7:=fp (k:=4) (m:=1) (e:=60) (g:=g) (cur:=cur2) oj.len ca (i:=j) c8 (by rw[Tl];exact cx) (by rw[Tl];exact b4) dd (by omega);simp only[TT,Tm,TW,TV]at c7;have fk:m.kids.length<=cK (l'.map Prod.snd):=by
    have h1:=oE (Tg hj);have h2:=gw m.kids;omega
   have fj:=gw n.kids;apply RG;simp only[go_sem,iv,sD,rD];refine ax mixed [0,1,2,3,4,5,6,7,8,9,10,11,12] [6] [] rfl rfl ?_;apply af;simp only[go_sem,iv,sD,rD];refine⟨by omega,?_⟩;refine P7 (l:=[.slice k2a m.kids.length k2c]) (v:=.slice k2a m.kids.length k2c) rfl (by simpa using cellsU bb (.tail _ (.head _)) c7) (.inr ⟨IF,rfl⟩) ?_;apply af;simp only[go_sem,iv,sD,rD];refine cq bb [2,0,1,3] rfl fun aa=>?_;simp only[Z4]at aa |-;refine eZ aa (by exact cT) (a3) (db.le ak aj) (fun{I J c a} h k=>aW.le h k) (fun{I} c a h=>aW.len c a h) (fun{I} c a h=>aW.ones h) rfl rfl rfl rfl rfl rfl (by first|omega|(simp only[SB,S9];omega)) (by unfold maxLen;first|omega|(simp only[SB,S9];omega)) fun pa pc I7 K7 am ac d6=>?_;apply af;simp only[go_sem,iv,sD,rD];refine⟨by omega,?_⟩;refine cq am [1,2,0,3] rfl fun a6=>?_;simp only[Z4]at a6 |-;refine aH a6 rfl rfl rfl rfl rfl rfl (by exact GF) (by simp;omega) fun ci=>?_;apply af;simp only[go_sem,iv,sD,rD];refine aw ?_;have cr:Ow oj 60 7 I7 (sg g (.cells (be cur2.toList (j*7+4) [.slice pa (m.kids++n.kids).length pc]).toArray 60 (0,0))) (.slice (some ⟨g,0,none⟩) l'.length oc) (l'.set j (K7,{ m with kids:=m.kids++n.kids,cond:=m.cond.or n.cond })):=by
    have p:=lz oj.len (ca.mono fun _ _ h=>oj.le h ac) (i:=j) c8 dd (k:=4) (cs:=[.slice pa (m.kids++n.kids).length pc]) (a:=(K7,{ m with kids:=m.kids++n.kids,cond:=m.cond.or n.cond })) (by simp) ⟨.slice pa (m.kids++n.kids).length pc,m2a,m2k,by simp[be],cA.le ac,d6⟩;rw[List.set_set]at p;refine⟨_,?_,p⟩;rw[Tl];exact kI b5 b1 b2 b3 b4 (by simp;omega)
   apply RG;simp only[go_sem,iv,eb,sD,rD];obtain⟨ue,ud,uk⟩:=Mh (l:=[I7,_,M1]) ci cc (by rw[Sz];exact cl);have e5:(l'.map Prod.fst).set j K7=(l'.set j (K7,{ m with kids:=m.kids++n.kids,cond:=m.cond.or n.cond })).map Prod.fst:=by rw[List.map_set]
   have e6:(l'.set j (K7,{ m with kids:=m.kids++n.kids,cond:=m.cond.or n.cond })).map Prod.snd=pW (l'.map Prod.snd) n:=by
    rw[List.map_set,rM aS.dist hj d2]
   rw[e5]at ue ud uk;refine qz ue ?_;refine ab ud [1,0,2] rfl fun a5=>?_;simp only[Z4]at a5 |-;refine an (i+1,.slice (some ⟨g,0,none⟩) l'.length oc) _ _ (by simp only;omega) (ae (by simp only[go_sem,Tq,iv])) (by simp only[go_sem,Tq,Kh]) ⟨I7,M1,_,_,rfl,a5,uk,Ui ap (Ui aj ac),ao,?_,?_,?_⟩
   ·refine cn.congr fun y u=>?_;rw[e6,rM aS.dist hj d2];exact GQ (m':={ m with kids:=m.kids++n.kids,cond:=m.cond.or n.cond }) hj rfl y u
   ·exact cr
   ·simp only;rw[e6,a0,dk]
  ·
   have dT:∀x∈l'.map Prod.snd,x.key≠n.key:=fun x hx e=>by
    obtain⟨j,hj⟩:=List.mem_iff_getElem?.1 hx;exact d4 ⟨j,x,hj,e⟩
   refine kh (by exact LP) (by exact Gr) Hw (key:=nJ n.key) rfl rfl rfl rfl eo cb (iv 0) false (.inr ⟨rfl,rfl,fun u ⟨j,m,hj,hk,_⟩=>d4 ⟨j,m,hj,(yU hk).symm⟩⟩) ?_;apply RG;simp only[go_sem,iv,sD,rD,T7];refine kM (by exact LP) (by exact Gr) (key:=nJ n.key) (v:=iv l'.length) b0 rfl (.inl rfl) rfl rfl rfl cn cb fun M5 cf e9=>?_;apply RG;simp only[go_sem,iv,sD,rD];refine NB cf [0,1,2] rfl Ib (by rfl) (ps:=[]) (F:=[M5,A1,_]) rfl (Fk ak (by have:=gw n.kids;unfold aF;omega)) fun v I6 qs a4 aj hq=>?_;obtain⟨K6,rfl,cp⟩:=hq;simp only[Z3]at a4 |-;obtain⟨qa,qc,rfl⟩:=cp.shape;apply RG;simp only[go_sem,iv,sD,rD];refine av a4 (by exact cT) rfl rfl rfl rfl rfl (by decide) fun nb I7 bx ac es=>?_;have e8:Sl oj I7 (.slice (some ⟨nb,0,none⟩) 1 1) [(K6,n)]:=⟨_,_,rfl,.inr ⟨nb,0,_,rfl,az es (by simp[aE,Value.cells]) (by simp[aE,Value.cells,iv,sD,rD]),.one ⟨.slice qa n.kids.length qc,na,nk,rfl,a1.le (Ui aj ac),br.le cp ac⟩⟩⟩;apply RG;simp only[go_sem,iv,sD,rD];refine ab bx [2,1,0,3] rfl fun bs=>?_;simp only[Z4]at bs |-;refine aY (R:=oj) (xs:=l') (ys:=[(K6,n)]) bs (by exact cT) (Ow.le (R:=oj) (fun{I J c a} h k=>oj.le h k) a9 (Ui aj ac)) e8 (fun{I J c a} h k=>oj.le h k) (fun{I} c a h=>oj.len c a h) (fun{I} c a h=>oj.ones h) rfl rfl rfl rfl (by simp only[SB,S9];omega) (by simp only[SB,S9];unfold maxLen;omega) fun ua uc I8 A8 bb d0 fi=>?_;apply RG;simp only[go_sem,iv,eb,sD,rD];have aa:Dj [I8,A8,M5,K6,U (l'.map Prod.fst)]:=bb;obtain⟨ue,ud,uk⟩:=Mn (l:=[I8,A8,M5]) aa cc;rw[show l'.map Prod.fst++[K6]=(l'++[(K6,n)]).map Prod.fst by simp]at ue ud uk;refine qz ue ?_;refine ab ud [1,0,2] rfl fun am=>?_;simp only[Z4]at am |-
   have e6:(l'++[(K6,n)]).map Prod.snd=pW (l'.map Prod.snd) n:=by rw[oF dT];simp
   refine an (i+1,.slice ua (l'++[(K6,n)]).length uc) _ _ (by simp only;omega) (ae (by simp only[go_sem,Tq,iv])) (by simp only[go_sem,Tq,Kh]) ⟨I8,M5,A8,l'++[(K6,n)],rfl,am,uk,Ui ap (Ui aj (Ui ac d0)),ao,?_,fi,by simp only;rw[e6,a0,dk]⟩;refine e9.congr fun y u=>?_;rw[e6,oF dT,<-show (l'.map Prod.snd).length=l'.length from Sz ..];exact Dh dT y u
 rintro⟨i,vo⟩ H ⟨hi,I1,M1,A1,l',rfl,b0,cc,ap,_,cn,a9,ba⟩;simp only at hi a9 ba;subst hi;rw[Td]at ba;simp only[Kh];obtain⟨oa,oc,rfl⟩:=a9.shape;have aS:=CK.of (l:=l) (fun x hx=>(eC.1 (fD.1 dv x hx)).1) l.length (R7 _);rw[Td,<-ba]at aS;have dy:cK (l'.map Prod.snd)<=cK l:=by
  rw[ba];have h1:=sS l [];rw[cR,Sf]at h1;exact h1
 have bd:=gw (l'.map Prod.snd);have eh:(l'.map Prod.snd).length=l'.length:=Sz ..;have cf:Dj [I1,M1,A1,U (l'.map Prod.fst)]:=b0;refine ab cf [2,0,1] rfl fun a4=>?_;simp only[Z4]at a4 |-;refine ag (c:=.st _) a4 fun I2 a4 c6 fh=>?_;have ct:br I2 A1 (.slice oa l'.length oc) (l'.map Prod.snd):=by
  obtain⟨xs,h1,h2⟩:=a9;exact⟨xs,by rw[eh];exact h1,LR.still c6 h2 fun p hp=>Ui (zM cc (List.mem_map.2 ⟨p,hp,rfl⟩)) fh⟩
 rw[<-eh]at ct |-;generalize l'.map Prod.snd=o at *;apply RG;simp only[go_sem,iv];have ds:br I2 A1 (.slice oa o.length oc) o.toArray.toList:=ct;refine NB a4 [1,0] rfl IA (by rfl) (ps:=[A1]) (F:=[M1]) rfl (MD (d:=o.toArray) ds NJ (by simp;unfold aF;omega)) fun v I3 qs bx d1 hq=>?_;obtain⟨A3,e3,rfl,cr,en,em⟩:=hq;simp only[Z3]at bx |-;obtain⟨dI,ed⟩:=qI en em;have hL:e3.toList=(ks l).map (eW l):=aS.sorted dI ed;have eg:o.length=((ks l).map (eW l)).length:=by rw[<-hL,dI.length_eq]
 have cr:br I3 A3 (.slice oa o.length oc) e3.toList:=cr;rw[hL,eg]at cr;rw[eg];clear ct ds a9 dI ed em en;have dA:=uP l;have fn:=Cp l;have da:∀n∈(ks l).map (eW l),eX n.kids<d/\fX n.kids/\kG n.kids/\cK n.kids<=2^40:=fun n hn=>by
  obtain⟨k,et,rfl⟩:=List.mem_map.1 hn;refine⟨?_,nZ dv k,As ek k,R8 (AZ l k) ec⟩;show eX (cF l k)<d;exact uy d5 et
 have ei:((ks l).map (eW l)).length<=cK l:=R8 (gw _) dA;rw[s8];generalize (ks l).map (eW l)=L at *;apply RG;simp only[go_sem,iv];refine ab bx [1,0] rfl fun bs=>?_;simp only[Z4]at bs |-;refine aB (fun i=>L.length-i) (Pa (.slice oa L.length oc) L.length) (fun i H=>∃I5 A5,H=U [I5,M1,A5]/\Dj [I5,M1,A5]/\I3.le I5/\i<=L.length/\br I5 A5 (.slice oa L.length oc) ((L.take i).map (fun(m:Nd)=>{ m with kids:=kH d m.kids })++L.drop i)) 0 (ae (by simp only[go_sem,Tq,iv])) (by simp only[go_sem,Tq,Pa]) ?_ ?_
 ·exact⟨I3,A3,rfl,bs,Uj _,S6 _,cr⟩
 rintro i H ⟨I5,A5,rfl,bb,c0,hi,d7⟩ an;simp only[Pa];have ex:=Ui ap (Ui c6 (Ui d1 c0));rcases Sw i L.length with ao|eA
 ·have d9:decide ((i:Int)<(L.length:Int))=true:=by simp;omega
  have e1:IntKind.i64.wrap ((i:Int)+1)=((i+1:Nat):Int):=by
   rw[<-wrap64 (n:=i+1) (by omega)];congr 1
  obtain⟨n,hn⟩:∃n,L[i]?=some n:=⟨_,SC ao⟩;obtain⟨p1,p2,p3,p4⟩:=da n (Tg hn);have cj:((L.take i).map (fun(m:Nd)=>{ m with kids:=kH d m.kids })++L.drop i).length=L.length:=by simp;omega
  have ez:((L.take i).map (fun(m:Nd)=>{ m with kids:=kH d m.kids })++L.drop i)[i]?=some n:=by
   rw[S2 (by simp;omega)];simp only[Sz,T1,S8 (SJ ao),Nat.sub_self,Sh,Sd];exact hn
  have ep:((L.take i).map (fun(m:Nd)=>{ m with kids:=kH d m.kids })++L.drop i).set i { n with kids:=kH d n.kids }=(L.take (i+1)).map (fun(m:Nd)=>{ m with kids:=kH d m.kids })++L.drop (i+1):=by
   rw[List.set_append_right _ _ (by simp;omega)];simp only[Sz,T1,S8 (SJ ao),Nat.sub_self];rw[cv hn,Uc,Te];congr 1;have:L.drop i=n::L.drop (i+1):=by
    rw[S5 ao];rw[SC ao]at hn;rw[Tk hn]
   rw[this];rfl
  obtain⟨g,cap,cur,xs,ev,rfl,c1,c2,c3,c4,c5,bc⟩:=d7.open' (by rw[cj];omega) aW.len;rw[cj]at ev c1 c4 c5;cases ev
  obtain⟨vk,na,nk,cm,a1,ak,dj⟩:=(bc.get aW.len ez).shape;obtain⟨ka,kc,rfl,_⟩:=id ak;have b6:L.length*7<=cur.size:=by rw[c3];exact Tb _ c1
  have fr:(i+1)*7<=L.length*7:=Tb _ ao;have c7:=fp (k:=4) (m:=1) (e:=60) (g:=g) (cur:=cur) aW.len bc (i:=i) (by rw[cj];exact ao) (by rw[cj];exact b6) (by rw[cj];exact c4) cm (by omega);simp only[TT,Tm,TW,TV]at c7;apply RG;simp only[go_sem,iv,d9];refine⟨by omega,?_⟩;refine Qz (l:=[.slice ka n.kids.length kc]) rfl (by simpa using cellsU bb (.tail _ (.tail _ (.head _))) c7) (.inr ⟨IF,rfl⟩) ?_;apply RG;simp only[go_sem,iv];refine NB bb [0,1] rfl FY (by rfl) (ps:=[]) (F:=[M1,_]) rfl (ih p1 ak dj p2 p3 p4) fun v I6 qs aa aj hq=>?_;obtain⟨K6,rfl,cp⟩:=hq;simp only[Z3]at aa |-;obtain⟨qa,qc,rfl⟩:=cp.shape;have fg:=cp.capN aW.len;refine ab aa [0,1,2] rfl fun am=>?_;simp only[Z4]at am |-;refine ag am fun I7 am ac d6=>?_;have fb:db I7 (.slice qa (kH d n.kids).length qc) (kH d n.kids):=br.sl cp ac d6;apply RG;simp only[go_sem,iv];refine⟨by omega,?_⟩;refine ab am [1,0] rfl fun a6=>?_;simp only[Z4]at a6 |-;refine cG a6 rfl rfl rfl rfl rfl (by exact GF) (by simp;omega) fun ci=>?_;apply RG;simp only[go_sem,iv,e1];refine ab ci [1,0] rfl fun a5=>?_;simp only[Z4]at a5 |-;have dx:=Ui aj ac;refine an (i+1) _ _ (by omega) (ae (by simp only[go_sem,Tq,iv])) (by simp only[go_sem,Tq,Pa]) ⟨I7,_,rfl,a5,Ui c0 dx,ao,?_⟩;rw[<-ep];refine⟨_,?_,lz aW.len (bc.mono fun _ _ h=>aW.le h dx) (i:=i) (by rw[cj];exact ao) cm (k:=4) (cs:=[.slice qa (kH d n.kids).length qc]) (a:={ n with kids:=kH d n.kids }) (by simp) (aW.mk (n:={ n with kids:=kH d n.kids }) (a1.le dx) fb fg)⟩;rw[Tl,cj];exact kI c5 c1 c2 c3 c4 (by simp;omega)
 ·have:i=L.length:=by omega
  subst this;have d9:=Z6 L.length;rw[Td,T4,Tq]at d7;apply RG;simp only[go_sem,iv,d9];refine ab bb [0,1] rfl fun aa=>?_;simp only[Z4]at aa |-;refine ag (c:=.st _) aa fun I9 aa cB fs=>?_;exact ai rfl aa (r:=[_]) rfl (Ui ex cB) ⟨A5,rfl,br.le d7 cB⟩
theorem Ow.part{α:Type}{R:PH->List Value->α->Prop}{e:TypeId}{size:Nat}{I A:PH}{v:Value}{l:List α}(h:Ow R e size I A v l)(hR:∀{I} c a,R I c a->c.length=size)(ak:∀{I J c a},R I c a->I.le J->R J c a){i:Nat}{x:α}(hi:l[i]?=some x)(k m:Nat)(hk:k+m<=size):
  ∃g cap cur c,v=.slice (some ⟨g,0,none⟩) l.length cap/\A=sg g (.cells cur e (0,0))/\l.length*size<=cur.size/\R I c x/\c.length=size/\aQ A g (i*size+k) ((c.drop k).take m)/\
   ∀J cs y,I.le J->k+cs.length<=size->R J (be c k cs) y->Ow R e size J (sg g (.cells (be cur.toList (i*size+k) cs).toArray e (0,0))) v (l.set i y):=by
 have aa:=(List.getElem?_eq_some_iff.1 hi).1;obtain⟨g,cap,cur,xs,ev,rfl,c1,c2,c3,c4,c5,ac⟩:=h.open' (by omega) fun c a k=>hR c a k;have ao:l.length*size<=cap*size:=Tb _ c1;have am:(i+1)*size<=l.length*size:=Tb _ aa;rw[Ta,TE]at am;have hg:=ac.get (fun c a k=>hR c a k) hi;have aj:=hR _ _ hg;have hc:=fp (k:=k) (m:=m) (e:=e) (g:=g) (cur:=cur) (fun c a k=>hR c a k) ac aa (by omega) c4 rfl hk;refine⟨g,cap,cur,_,ev,rfl,by omega,hg,aj,hc,?_⟩;intro J cs y hJ an hy;refine⟨be xs (i*size+k) cs,?_,?_⟩
 ·rw[ev,Tl];exact kI c5 c1 c2 c3 c4 (by omega)
 ·exact lz (fun c a k=>hR c a k) (ac.mono fun _ _ h=>ak h hJ) aa rfl an hy
def MO(vs:Value)(n i:Nat)(vo:Value):St:=⟨dn 50 [(3,.v vo),(12,.v vs),(13,.v (iv n)),(14,.v (iv i))],[]⟩
theorem DZ{I:PH}{v:Value}{l:List bX}(hS:Sl dg I v l)(hl:l.length<=aF)(cm:xQ l):aO Tryz.prog 95 #[v] I [] fun r I2 qs=>∃A,qs=[A]/\dl I2 A r (yA l):=by
 intro hd;have c6:=hl;unfold aF at c6;obtain⟨va,vc,rfl,_⟩:=id hS;refine Ot Tryz.func95 rfl fun w0=>?_;simp only[Tryz.ntmps95];apply RG;simp only[go_sem];refine NB hd [] rfl Iq (by rfl) (ps:=[]) (F:=[]) rfl (F2 hS hl) fun v1 I1 qs ct b4 hq=>?_;obtain⟨K,rfl,hK⟩:=hq;simp only[Z3]at ct |-;apply RG;simp only[go_sem];refine NB ct [0] rfl JL (by rfl) (ps:=[K]) (F:=[]) rfl (F3 hK hl) fun v2 I2 qs cs c5 hq=>?_;obtain⟨A,rfl,rfl,hA⟩:=hq;simp only[Z3]at cs |-;apply RG;simp only[go_sem];have dw:(kB l).length<=l.length:=List.length_filter_le ..;have dk:dl I2 A v2 (kB l).toArray.toList:=hA;refine NB cs [0] rfl JT (by rfl) (ps:=[A]) (F:=[]) rfl (xm dk Om (by simp;unfold aF;omega)) fun v3 I3 qs cr b3 hq=>?_;obtain⟨A3,e3,rfl,bd,dc,da⟩:=hq;simp only[Z3]at cr |-;obtain⟨a5,cj⟩:=qI dc da;have bd:dl I3 A3 v2 e3.toList:=bd;have a5:e3.toList.Perm (kB l):=a5;generalize e3.toList=E at bd a5 cj;have hE:=a5.length_eq;have cb:∀d∈E,d.cond.ok 0:=fun d hd=>cm d (List.mem_filter.1 (a5.mem_iff.1 hd)).1;have dd:∀d,d∈E<->d∈l/\d.cond≠ff:=fun d=>by rw[a5.mem_iff];simp[kB]
 obtain⟨ea,ec,rfl⟩:=bd.shape;apply RG;simp only[go_sem];refine aT cr fun c7=>?_;refine ab c7 [1,0] rfl fun cp=>?_;simp only[Z4]at cp |-;refine aB (fun x=>E.length-x.1) (fun x=>MO (.slice ea E.length ec) E.length x.1 x.2) (fun(x:Nat×Value) H=>∃I5 A5 B o,H=U [I5,A5,B]/\Dj [I5,A5,B]/\I3.le I5/\x.1<=E.length/\dl I5 A5 (.slice ea E.length ec) E/\dl I5 B x.2 o/\o.length<=x.1/\o=(E.take x.1).foldl tD []) (0,.slice none 0 0) (ae (by simp only[go_sem,Tq,iv])) (by simp only[go_sem,Tq,MO]) ?_ ?_
 ·exact⟨I3,A3,PH.no,[],rfl,cp,Uj _,S6 _,bd,Ow.nil _ _ _ _,R7 _,rfl⟩
 rintro⟨i,vo⟩ H ⟨I5,A5,B,o,rfl,bb,a2,hi,bx,hB,c0,ho⟩ ao;simp only at hi hB c0 ho;simp only[MO];obtain⟨oa,oc,rfl⟩:=hB.shape;rcases Sw i E.length with bs|dx
 ·have ci:=Z5 (a:=i) (b:=E.length) (by omega);have e1:=Z7 (i:=i) (by omega);have wm:=gd (k:=o.length) (by omega);obtain⟨d,cn⟩:∃d,E[i]?=some d:=⟨_,SC bs⟩;obtain⟨g,cap,cur,c,ev,rfl,c1,c2,hc,dy,bc,_⟩:=bx.elem (fun{I} c a h=>dg.len c a h) (fun{I J c a} h k=>dg.le h k) cn;cases ev
  obtain⟨ca,ck,rfl,c8⟩:=id hc;have am:(E.take (i+1)).foldl tD []=tD o d:=by rw[cv cn,T9,<-ho];rfl
  apply RG;simp only[go_sem,iv,ci,sD,rD];refine⟨by omega,?_⟩;refine Qz (l:=[.int .u8 d.code,.int .i64 d.tok,sD ca ck d.cond,rD d.cond]) (v:=.agg #[.int .u8 d.code,.int .i64 d.tok,sD ca ck d.cond,rD d.cond]) rfl (by simpa using cellsU bb (.tail _ (.head _)) bc) (.inl ⟨iQ,rfl⟩) ?_;apply RG;simp only[go_sem,iv,sD,rD,wm];have cy:∀{J},I5.le J->dg J [.int .u8 d.code,.int .i64 d.tok,sD ca ck d.cond,rD d.cond] d:=fun h=>dg.le hc h;rcases TI o.length with h0|h0
  ·have c4:o=[]:=List.length_eq_zero_iff.1 h0;have cf:decide ((o.length:Int)-1>=0)=false:=Ug (by omega);refine ax mixed [0,1,2,3,4,5,6,7,8,9,10] [6] [] rfl rfl ?_;apply af;simp only[go_sem,iv,sD,rD,cf];refine aw ?_;apply RG;simp only[go_sem,iv,sD,rD];refine av bb (by exact qR) rfl rfl rfl rfl rfl (by decide) fun nb I7 a6 aa b2=>?_;have b6:Sl dg I7 (.slice (some ⟨nb,0,none⟩) 1 1) [d]:=⟨_,_,rfl,.inr ⟨nb,0,_,rfl,az b2 (by simp[aE,Value.cells]) (by simp[aE,Value.cells,iv,sD,rD]),.one (cy aa)⟩⟩;apply RG;simp only[go_sem,iv,sD,rD];refine ab a6 [1,0] rfl fun a3=>?_;simp only[Z4]at a3 |-;refine aY (R:=dg) (xs:=o) (ys:=[d]) a3 (by exact qR) (dl.le hB aa) b6 (fun{I J c a} h k=>dg.le h k) (fun{I} c a h=>dg.len c a h) (fun{I} c a h=>dg.ones h) rfl rfl rfl rfl (by simp only[SB,S9];omega) (by simp only[SB,S9];unfold maxLen;omega) fun ua uc I8 B8 ak a1 cc=>?_;apply RG;simp only[go_sem,iv,sD,rD,e1];refine ab ak [1,0] rfl fun aj=>?_;simp only[Z4]at aj |-;refine ao (i+1,.slice ua (o++[d]).length uc) _ _ (by simp only;omega) (ae (by simp only[go_sem,Tq,iv])) (by simp only[go_sem,Tq,MO]) ⟨I8,_,B8,o++[d],rfl,aj,Ui a2 (Ui aa a1),bs,dl.le bx (Ui aa a1),cc,by simp;omega,?_⟩;simp only;rw[am,c4];rfl
  ·obtain⟨q,hq⟩:∃q,o.length=q+1:=⟨o.length-1,by omega⟩;have eq1:(o.length:Int)-1=(q:Int):=by omega
   have cf:decide ((q:Int)>=0)=true:=Uh (by omega);obtain⟨x,hx⟩:∃x,o[q]?=some x:=⟨_,SC (by omega)⟩;have ap:o.getLast?=some x:=by rw[List.getLast?_eq_getElem?,hq];exact hx
   obtain⟨g2,cap2,cur2,c',ev2,rfl,b1,cx,c9,a4,cB⟩:=hB.part (fun{I} c a h=>dg.len c a h) (fun{I J c a} h k=>dg.le h k) hx 0 4 (by omega);obtain⟨g3,cap3,cur3,c3,ev3,eA,_,b5,_,a0,a7⟩:=hB.part (fun{I} c a h=>dg.len c a h) (fun{I J c a} h k=>dg.le h k) hx 2 2 (by omega);cases ev2
   simp only[Value.slice.injEq,Sc,Addr.mk.injEq,TY,SP]at ev3;obtain⟨eg3,_⟩:=ev3;subst eg3;have ecur:cur2=cur3:=by
    have:=congrFun eA g2;simp only[sg,R9,Sc,Obj.cells.injEq,TY,SP]at this;exact this
   subst ecur;clear eA;obtain⟨xa,xk,rfl,ds⟩:=id cx;obtain⟨ya,yk,rfl,cA⟩:=id b5;simp only[TT,Tm,TW,TV]at a0;have dv:(q+1)*4<=o.length*4:=Tb _ (by omega);rw[eq1];refine ax mixed [0,1,2,3,4,5,6,7,8,9,10] [6] [] rfl rfl ?_;apply af;simp only[go_sem,iv,sD,rD,cf];refine⟨by omega,?_⟩;refine P7 (l:=[.int .u8 x.code,.int .i64 x.tok,sD xa xk x.cond,rD x.cond]) (v:=.agg #[.int .u8 x.code,.int .i64 x.tok,sD xa xk x.cond,rD x.cond]) rfl (by simpa using cellsU bb (.tail _ (.tail _ (.head _))) a4) (.inl ⟨iQ,rfl⟩) ?_;apply af;simp only[go_sem,iv,sD,rD];refine Og bb [0,1] rfl (fun h=>by cases h) rfl AV (by rfl) (ps:=[]) (F:=[_,_]) rfl (wh (x:=x) (y:=d) cx hc) fun v I6 qs a6 ac hq=>?_;obtain⟨rfl,rfl⟩:=hq;simp only[Z3]at a6 |-;have hz:=yT x d;cases hk:decide (x.key=d.key)
   ·rw[hk]at hz;have an:tD o d=o++[d]:=by
     unfold tD;rw[ap];simp only;rw[Sb (Ua hk)]
    apply af;simp only[go_sem,iv,sD,rD,hz];refine aw ?_;apply RG;simp only[go_sem,iv,sD,rD,hz];refine av a6 (by exact qR) rfl rfl rfl rfl rfl (by decide) fun nb I7 a3 aa b2=>?_;have b6:Sl dg I7 (.slice (some ⟨nb,0,none⟩) 1 1) [d]:=⟨_,_,rfl,.inr ⟨nb,0,_,rfl,az b2 (by simp[aE,Value.cells]) (by simp[aE,Value.cells,iv,sD,rD]),.one (cy (Ui ac aa))⟩⟩;apply RG;simp only[go_sem,iv,sD,rD];refine ab a3 [1,0] rfl fun ak=>?_;simp only[Z4]at ak |-;refine aY (R:=dg) (xs:=o) (ys:=[d]) ak (by exact qR) (dl.le hB (Ui ac aa)) b6 (fun{I J c a} h k=>dg.le h k) (fun{I} c a h=>dg.len c a h) (fun{I} c a h=>dg.ones h) rfl rfl rfl rfl (by simp only[SB,S9];omega) (by simp only[SB,S9];unfold maxLen;omega) fun ua uc I8 B8 aj a1 cc=>?_;apply RG;simp only[go_sem,iv,sD,rD,e1];refine ab aj [1,0] rfl fun aS=>?_;simp only[Z4]at aS |-;have k8:=Ui ac (Ui aa a1);refine ao (i+1,.slice ua (o++[d]).length uc) _ _ (by simp only;omega) (ae (by simp only[go_sem,Tq,iv])) (by simp only[go_sem,Tq,MO]) ⟨I8,_,B8,o++[d],rfl,aS,Ui a2 k8,bs,dl.le bx k8,cc,by simp;omega,?_⟩;simp only;rw[am,an]
   ·rw[hk]at hz;have an:tD o d=o.dropLast++[{ x with cond:=x.cond.or d.cond }]:=by
     unfold tD;rw[ap];simp only;rw[SI (TG hk)]
    have b0:o.set q { x with cond:=x.cond.or d.cond }=o.dropLast++[{ x with cond:=x.cond.or d.cond }]:=by
     obtain⟨w,rfl⟩:=List.getLast?_eq_some_iff.1 ap;have:w.length=q:=by simp at hq;exact hq
     rw[List.dropLast_concat,List.set_append_right _ _ (by omega),this];simp
    apply af;simp only[go_sem,iv,sD,rD,hz];refine aw ?_;apply RG;simp only[go_sem,iv,sD,rD,hz];refine ax mixed [0,1,2,3,4,5,6,7,8,9,10,11,12] [6] [] rfl rfl ?_;apply af;simp only[go_sem,iv,sD,rD];refine⟨by omega,?_⟩;refine P7 (l:=[sD ya yk x.cond,rD x.cond]) (v:=.agg #[sD ya yk x.cond,rD x.cond]) rfl (by simpa using cellsU a6 (.tail _ (.tail _ (.head _))) a0) (.inl ⟨oQ,rfl⟩) ?_;apply af;simp only[go_sem,iv,sD,rD];refine Og a6 [0,1] rfl (fun h=>by cases h) rfl sQ (by rfl) (ps:=[]) (F:=[_,_]) rfl (G1 (cA.le ac) (c8.le ac)) fun v I7 qs a3 aa hq=>?_;obtain⟨rfl,cl⟩:=hq;obtain⟨za,zk,rfl⟩:=cl.shape2;simp only[Z3]at a3 |-;apply af;simp only[go_sem,iv,sD,rD];refine⟨by omega,?_⟩;refine cq a3 [1,0] rfl fun ak=>?_;simp only[Z4]at ak |-;refine aH ak rfl rfl rfl rfl rfl rfl (by exact zp) (by simp;omega) fun aj=>?_;apply af;simp only[go_sem,iv,sD,rD];refine aw ?_;apply RG;simp only[go_sem,iv,sD,rD,e1];refine ab aj [1,0] rfl fun aS=>?_;simp only[Z4]at aS |-;have dj:=a7 I7 [sD za zk (x.cond.or d.cond),rD (x.cond.or d.cond)] { x with cond:=x.cond.or d.cond } (Ui ac aa) (by simp) ⟨za,zk,by simp[be,sD,rD],cl⟩;have k8:=Ui ac aa;refine ao (i+1,.slice (some ⟨g2,0,none⟩) o.length oc) _ _ (by simp only;omega) (ae (by simp only[go_sem,Tq,iv])) (by simp only[go_sem,Tq,MO]) ⟨I7,_,_,_,rfl,aS,Ui a2 k8,bs,dl.le bx k8,dj,by simp;omega,?_⟩;simp only;rw[am,an,b0]
 ·have:i=E.length:=by omega
  subst this;have ci:=Z6 E.length;rw[Td]at ho;have ba:=(qb.all E [] [] qb.nil cb (by simpa[g9]using cj)).eq (by simpa using dd) cm;rw[<-ho]at ba;refine ab bb [0,1] rfl fun ak=>?_;simp only[Z4]at ak |-;refine ag (c:=.st _) ak fun I9 ak a9 dA=>?_;apply RG;simp only[go_sem,iv,ci];exact ai rfl ak (r:=[_]) rfl (Ui b4 (Ui b3 (Ui a2 a9))) ⟨B,rfl,by rw[<-ba];exact dl.le hB a9⟩
theorem Ls:aP Tryz.prog 38:=⟨_,Tryz.func38,rfl,rfl⟩
theorem Aw:aP Tryz.prog 22:=⟨_,Tryz.func22,rfl,rfl⟩
theorem Ex:aP Tryz.prog 19:=⟨_,Tryz.func19,rfl,rfl⟩
theorem Mf:aP Tryz.prog 69:=⟨_,Tryz.func69,rfl,rfl⟩
def Hr(I:PH)(c:List Value)(t:Tr):Prop:=∃vk vd,c=[vk,vd]/\db I vk t.kids/\oU vk/\Sl dg I vd t.diags/\oU vd
theorem Hr.le{I J:PH}{c:List Value}{t:Tr}(h:Hr I c t)(k:I.le J):Hr J c t:=by
 obtain⟨vk,vd,e,h1,h2,h3,h4⟩:=h;exact⟨vk,vd,e,db.le h1 k,h2,SlE.le h3 k,h4⟩
theorem Hr.len{I:PH}(c:List Value)(t:Tr)(h:Hr I c t):c.length=2:=by obtain⟨vk,vd,e,_⟩:=h;rw[e];rfl
def Ph(vl:Value)(n:Nat)(x:Nat×Value×Value):St:=⟨dn 32 [(2,.p 2 0),(3,.p 3 0),(6,.v vl),(7,.v (iv n)),(8,.v (iv x.1))],[⟨2,36,[.slice none 0 0,.slice none 0 0]⟩,⟨3,36,[x.2.1,x.2.2]⟩]⟩
def Rh(l:List Tr)(I0:PH)(x:Nat×Value×Value)(H:PH):Prop:=∃I A B,H=U [I,A,B]/\Dj [I,A,B]/\I0.le I/\x.1<=l.length/\br I A x.2.1 ((l.take x.1).flatMap (·.kids))/\dl I B x.2.2 ((l.take x.1).flatMap (·.diags))
theorem ot{α β:Type}(f:α->List β)(i:Nat)(l:List α):((l.take i).flatMap f).length<=(l.flatMap f).length:=by
 conv=>rhs;rw[<-TL i l]
 rw[TF,Tu];omega
theorem IE{I:PH}{v:Value}{l:List Tr}(hS:Sl Hr I v l)(hl:l.length<=100)(hk:fX (l.flatMap (·.kids)))(hf:kG (l.flatMap (·.kids)))(hz:cK (l.flatMap (·.kids))<=aF)(he:xQ (l.flatMap (·.diags)))(b5:(l.flatMap (·.diags)).length<=aF):
  aO Tryz.prog 38 #[v] I [] fun r I2 qs=>qs=[]/\zW I2 r (Pp l):=by
 obtain⟨va,vc,rfl,_⟩:=id hS;have cm:=gw (l.flatMap (·.kids));have ca:=hz;have bb:=b5;unfold aF at ca bb;intro hd;refine Ot Tryz.func38 rfl fun w0=>?_;simp only[Tryz.ntmps38];apply RG;simp only[go_sem];refine aT hd fun cf=>?_;refine aT cf fun bs=>?_;refine aB (fun x=>l.length-x.1) (Ph (.slice va l.length vc) l.length) (Rh l I) (0,.slice none 0 0,.slice none 0 0) (ae (by simp only[go_sem,Tq,iv])) (by simp only[go_sem,Tq,Ph]) ?_ ?_
 ·exact⟨I,_,_,rfl,bs,Uj _,S6 _,Ow.nil _ _ _ _,Ow.nil _ _ _ _⟩
 rintro⟨i,vk,vd⟩ H ⟨I1,A1,B1,rfl,bd,ao,hi,hA,hB⟩ a0;simp only at hi hA hB;simp only[Ph];obtain⟨aa,ac,rfl⟩:=hA.shape;obtain⟨ba,bc,rfl⟩:=hB.shape;rcases Sw i l.length with b4|cn
 ·have h9:=Z5 (a:=i) (b:=l.length) (by omega);have e1:=Z7 (i:=i) (by omega);obtain⟨t,ht⟩:∃t,l[i]?=some t:=⟨_,SC b4⟩;obtain⟨b,off,cs,rfl,ci,a4⟩:=Sl.load (fun{I} c a h=>Hr.len c a h) (Sl.le (R:=Hr) (fun{I J c a} h k=>Hr.le h k) hS ao) ht;obtain⟨wk,wd,rfl,b2,cb,b3,cc⟩:=ci;obtain⟨ka,kc,rfl,_⟩:=id b2;obtain⟨da,dc,rfl,_⟩:=id b3;have ek:(l.take (i+1)).flatMap (·.kids)=(l.take i).flatMap (·.kids)++t.kids:=by rw[cv ht,TF];simp
  have ed:(l.take (i+1)).flatMap (·.diags)=(l.take i).flatMap (·.diags)++t.diags:=by rw[cv ht,TF];simp
  have lk:=ot (fun t:Tr=>t.kids) (i+1) l;have ld:=ot (fun t:Tr=>t.diags) (i+1) l;rw[ek,Tu]at lk;rw[ed,Tu]at ld;apply RG;simp only[go_sem,iv,h9]
  try refine⟨by omega,?_⟩
  refine Qz (l:=[.slice ka t.kids.length kc,.slice da t.diags.length dc]) (v:=.agg #[.slice ka t.kids.length kc,.slice da t.diags.length dc]) rfl (cellsU bd (.head _) a4) (.inl ⟨NP,rfl⟩) ?_;apply RG;simp only[go_sem,iv];refine aY (R:=aW) (xs:=(l.take i).flatMap (·.kids)) (ys:=t.kids) bd (by exact cT) hA b2 (fun{I J c a} h k=>aW.le h k) (fun{I} c a h=>aW.len c a h) (fun{I} c a h=>aW.ones h) rfl rfl rfl rfl (by omega) (by unfold maxLen;omega) fun ua uc I3 A3 aS ak b1=>?_;apply RG;simp only[go_sem,iv];refine ab aS [1,0] rfl fun ap=>?_;simp only[Z4]at ap |-;refine aY (R:=dg) (xs:=(l.take i).flatMap (·.diags)) (ys:=t.diags) ap (by exact qR) (dl.le hB ak) (SlE.le b3 ak) (fun{I J c a} h k=>dg.le h k) (fun{I} c a h=>dg.len c a h) (fun{I} c a h=>dg.ones h) rfl rfl rfl rfl (by omega) (by unfold maxLen;omega) fun wa wc I4 B4 a7 aj b0=>?_;apply RG;simp only[go_sem,iv,e1];refine ab a7 [1,0] rfl fun a3=>?_;simp only[Z4]at a3 |-;exact a0 (i+1,.slice ua ((l.take i).flatMap (·.kids)++t.kids).length uc,.slice wa ((l.take i).flatMap (·.diags)++t.diags).length wc) _ _ (by simp only;omega) (ae (by simp only[go_sem,Tq,iv])) (by simp only[go_sem,Tq,Ph]) ⟨I4,A3,B4,rfl,a3,Ui ao (Ui ak aj),b4,by simp only;rw[ek];exact br.le b1 aj,by simp only;rw[ed];exact b0⟩
 ·have:i=l.length:=by omega
  subst this;have h9:=Z6 l.length;have b6:=hA.capN aW.len;rw[Td]at hA hB b6 |-;refine ab bd [0,1] rfl fun aS=>?_;simp only[Z4]at aS |-;refine ag (c:=.st _) aS fun I3 aS ak b1=>?_;refine ab aS [0] rfl fun ap=>?_;simp only[Z4]at ap |-;refine ag (c:=.st _) ap fun I4 ap aj b0=>?_;have hK:=br.sl (J:=I4) hA (Ui ak aj) (Ui b1 aj);have hE:=dl.sl (dl.le hB ak) aj b0;have k4:=Ui ao (Ui ak aj);apply RG;simp only[go_sem,iv,h9];refine ax mixed [0,1,3,4,2,5,6,7] [] [] rfl rfl ?_;apply af;simp only[go_sem,iv];refine Og ap [] rfl (fun h=>by cases h) rfl FY (by rfl) (ps:=[]) (F:=[]) rfl (Gd (eX (l.flatMap (·.kids))+1) (Tv _) hK b6 hk hf hz) fun v5 I5 qs a7 a2 hq=>?_;obtain⟨K,rfl,a9⟩:=hq;simp only[Z3]at a7 |-;obtain⟨qa,qc,rfl⟩:=a9.shape;have hK5c:=a9.capN aW.len;apply af;simp only[go_sem,iv];refine Og a7 [0] rfl (fun h=>by cases h) rfl Lh (by rfl) (ps:=[]) (F:=[K]) rfl (DZ (SlE.le hE a2) b5 he) fun v6 I6 qs a3 a1 hq=>?_;obtain⟨E,rfl,bx⟩:=hq;simp only[Z3]at a3 |-;obtain⟨ra,rc,rfl⟩:=bx.shape;have hE6c:=Ow.capN (R:=dg) bx (fun c a h=>dg.len c a h);apply af;simp only[go_sem,iv];refine aw ?_;refine ab a3 [0,1] rfl fun a6=>?_;simp only[Z4]at a6 |-;refine ag (c:=.st _) a6 fun I7 a6 an cl=>?_;refine ab a6 [0] rfl fun a5=>?_;simp only[Z4]at a5 |-;refine ag (c:=.st _) a5 fun I8 a5 am cj=>?_;apply RG;simp only[go_sem];refine ai rfl a5 (r:=[.agg #[.slice qa (kH (eX (l.flatMap (·.kids))+1) (l.flatMap (·.kids))).length qc,.slice ra (yA (l.flatMap (·.diags))).length rc]]) (by simp only[Tryz.results38,go_sem,iv]) (Ui k4 (Ui a2 (Ui a1 (Ui an am)))) ⟨rfl,_,_,rfl,?_,hK5c,?_,hE6c⟩
  ·have e:kH (eX (l.flatMap (·.kids))+1) (l.flatMap (·.kids))=(Pp l).kids:=o8 (R7 _) (Nat.le_succ _);rw[e]at a9 |-;exact br.sl (br.le a9 (Ui a1 an)) am cj
  ·exact SlE.le (dl.sl bx an cl) am
end Go.Proofs.YtfaclfkpnmcmlaaGreatDoor
namespace Syn
open Dg
def tk(k:Nat)(s:bM):Tok:=⟨k,s,tt,true⟩
def kA:T:=.nd 0 ff tt
def Qm:List Tok:=[tk 1 [118,97,114],tk 1 [120],tk 3 [58],⟨1,[105,110,116],kA,true⟩,⟨1,[98,111,111,108],kA.not,true⟩,tk 3 [59]]
def MV:List Tok:=[tk 1 [102,110],tk 1 [109,97,105,110],tk 3 [40],tk 3 [41],tk 3 [123],tk 1 [112,114,105,110,116],tk 2 [49],tk 3 [43],tk 2 [50],tk 3 [42],tk 2 [51],tk 3 [59],tk 3 [125]]
def rB:bE:=⟨[⟨2,[120],1,0,[⟨5,[105,110,116],3,0,[],kA⟩,⟨5,[98,111,111,108],4,0,[],kA.not⟩],tt⟩],[(6,tt)],[]⟩
def lA:List Nd:=[⟨3,[109,97,105,110],1,0,[⟨6,[],4,2,[⟨11,[],5,0,[⟨13,[43],7,0,[⟨15,[49],6,0,[],tt⟩,⟨13,[42],9,1,[⟨15,[50],8,0,[],tt⟩,⟨15,[51],10,1,[],tt⟩],tt⟩],tt⟩],tt⟩],tt⟩],tt⟩]
mutual
def QL:Nd->Nd->Bool
 |⟨k,t,o,s,ks,d⟩,⟨k',t',o',s',ks',d'⟩=>decide (k=k') && decide (t=t') && decide (o=o') && decide (s=s') && Mw ks ks' && decide (d=d')
def Mw:List Nd->List Nd->Bool
 | [],[]=>true
 |n::l,m::k=>QL n m && Mw l k
 |_,_=>false
end
mutual
theorem LU:∀{a b:Nd},QL a b=true->a=b
 |⟨k,t,o,s,ks,d⟩,⟨k',t',o',s',ks',d'⟩,h=>by
  simp only[QL,SG,SX]at h
  obtain⟨⟨⟨⟨⟨h1,h2⟩,h3⟩,h4⟩,h5⟩,h6⟩:=h
  rw[h1,h2,h3,h4,AW h5,h6]
theorem AW:∀{a b:List Nd},Mw a b=true->a=b
 | [],[],_=>rfl
 |n::l,m::k,h=>by
  simp only[Mw,SG]at h
  rw[LU h.1,AW h.2]
 | [],m::k,h=>by simp[Mw]at h
 |n::l,[],h=>by simp[Mw]at h
end
def QX(o:Option bE)(r:bE):Bool:=match o with
 |some x=>Mw x.l r.l && decide (x.f=r.f) && decide (x.e=r.e)
 |none=>false
theorem EG{o:Option bE}{r:bE}(h:QX o r=true):o=some r:=by
 cases o with
 |none=>cases h
 |some x=>
  simp only[QX,SG,SX]at h;obtain⟨⟨h1,h2⟩,h3⟩:=h;cases x;cases r
  simp only at h1 h2 h3;rw[AW h1,h2,h3]
theorem P5:run Qm fR (.seqL true 0 [(0,tt)] [] [])=some rB:=EG (by decide +kernel)
def rA:bE:=⟨lA,[(13,tt)],[]⟩
theorem Qd:run MV fR (.seqL true 0 [(0,tt)] [] [])=some rA:=EG (by decide +kernel)
theorem Ng:kH (eX (lI rB)) (lI rB)=[⟨1,[],-1,0,rB.l,tt⟩]/\yA rB.e=[]:=⟨by rfl,by rfl⟩
theorem Nv:kH (eX (lI rA)) (lI rA)=[⟨1,[],-1,0,lA,tt⟩]/\yA rA.e=[]:=⟨by rfl,by rfl⟩
theorem Lk:bu MV:=fun t h=>by
 simp only[MV,tk,Su,SW,or_false]at h;rcases h with h|h|h|h|h|h|h|h|h|h|h|h|h<;>subst h<;>exact trivial
theorem Qc{t:Tr}(h:Jk Qm tt t):t=⟨[⟨1,[],-1,0,rB.l,tt⟩],[]⟩:=by
 rcases h with ⟨e,_⟩|⟨_,r,er,et⟩
 ·cases e
 ·rw[P5]at er;cases er
  rw[et,Ng.1,Ng.2]
theorem QD:Jk MV tt ⟨[⟨1,[],-1,0,lA,tt⟩],[]⟩:=by
 refine .inr ⟨by decide,rA,Qd,?_⟩;rw[Nv.1,Nv.2]
theorem Md{w:T}(hw:w.ok 0){t:Tr}(h:Jk MV w t){c:cg}(hc:w.at' c=true):prj c t=⟨[⟨1,[],-1,0,lA,tt⟩],[]⟩:=by
 rw[BH Lk hw (show tt.ok 0 from trivial) h QD hc rfl];rfl
end Syn
namespace Go.Proofs.YtfaclfkpnmcmlaaGreatDoor
open Go Go.Sx Dg Syn
theorem yw{K:Type}[DecidableEq K](lt:K->K->Bool)(k:K):∀l:List K,(qT lt k l).length<=l.length+1
 | []=>R7 _
 |y::l=>by
  have:=yw lt k l;simp only[qT];split
  ·simp
  ·split
   ·simp only[SB];omega
   ·simp
theorem uE{K:Type}[DecidableEq K](lt:K->K->Bool):∀l:List K,(lM lt l).length<=l.length
 | []=>R7 _
 |y::l=>by
  have h1:=uE lt l;have h2:=yw lt y (lM lt l);show (qT lt y (lM lt l)).length<=_;simp only[SB];omega
theorem HJ(e:List bX):(yA e).length<=e.length:=by
 unfold yA MT;rw[Sz];refine R8 (uE _ _) ?_;rw[Sz];exact List.length_filter_le ..
def ML(t:Tr):Prop:=cK t.kids<=aF/\t.diags.length<=aF
theorem ML.prj{t:Tr}(c:Nat)(h:ML t):ML (prj (dW c) t):=⟨R8 (vY _ _) h.1,by
 have h2:((t.diags.filter fun d=>d.cond.at' (dW c)).map fun d=>{ d with cond:=tt }).length<=t.diags.length:=by
  rw[Sz];exact List.length_filter_le ..
 exact R8 h2 h.2⟩
def QC(ts:List Tok)(w:T)(r:Value)(I2:PH):Prop:=∃t,Jk (ts.map refit) w t/\zW I2 r t/\ML t
structure oC(I:PH)(v:Value)(ts:List Tok):Prop where
 sh:∃lv ga gn gc,v=.agg #[lv,.slice ga gn gc]/\Sl cJ I lv ts
 ok:bu ts
 len:ts.length<=16384
 txt:∀t∈ts,t.text.length<2^40
theorem oC.le{I J:PH}{v:Value}{ts:List Tok}(h:oC I v ts)(k:I.le J):oC J v ts:=
 ⟨let ⟨lv,ga,gn,gc,e,hs⟩:=h.sh;⟨lv,ga,gn,gc,e,Sl.le (R:=cJ) (fun{I J c a} h k=>cJ.le h k) hs k⟩,h.ok,h.len,h.txt⟩
theorem j3{ts:List Tok}(h:bu ts):bu (ts.map refit):=fun t ht=>by
 obtain⟨s,hs,rfl⟩:=List.mem_map.1 ht;exact h s hs
theorem Iz{ts:List Tok}(h:∀t∈ts,t.text.length<2^40)(i:Nat):(X (ts.map refit) i).length<4611686018427387904:=by
 unfold X cL;split
 ·rename_i t ht;split
  ·obtain⟨s,hs,rfl⟩:=List.mem_map.1 (Tg ht);have:=h s hs;show s.text.length<_;omega
  ·simp
 ·simp
theorem su{I:PH}{v vd:Value}{ts:List Tok}{w:T}(hV:fN I)(hT:oC I v ts)(hW:cu I vd w):aO Tryz.prog 22 #[v,vd] I [] fun r I2 qs=>qs=[]/\QC ts w r I2:=by
 obtain⟨⟨lv,ga,gn,gc,rfl,hS⟩,a3,hl,hx⟩:=hT;obtain⟨la,lc,rfl,_⟩:=id hS;obtain⟨wa,wk,rfl⟩:=hW.shape2;intro hd;refine Ot Tryz.func22 rfl fun w0=>?_;simp only[Tryz.ntmps22,sD,rD,iv];apply RG;simp only[go_sem];refine Pf rfl gK (fq (hW.le (cD hd))) fun v H2 hv=>?_;obtain⟨rfl,rfl⟩:=hv;cases cc:decide (w=.lf false)
 rotate_left
 ·have cy:w=ff:=by simpa using cc
  apply RG;simp only[go_sem];exact ai rfl hd (r:=[.agg #[.slice none 0 0,.slice none 0 0]]) (by simp only[Tryz.results22,go_sem,iv]) (Uj _) ⟨rfl,⟨[],[]⟩,.inl ⟨cy,rfl⟩,⟨_,_,rfl,⟨none,0,rfl,.inl rfl⟩,jq,⟨none,0,rfl,.inl rfl⟩,jq⟩,by exact⟨S6 _,S6 _⟩⟩
 have a2:w≠ff:=by simpa using cc
 apply RG;simp only[go_sem];refine NB hd [] rfl K4 (by rfl) (ps:=[]) (F:=[]) rfl (yV hV hS hl hx) fun v1 I1 qs cj a1 hq=>?_;obtain⟨pb,fv,rfl,rfl,hF⟩:=hq;simp only[Z3]at cj |-;have hP:vF I1 (ts.map refit) (.slice la ts.length lc) fv:=⟨Sl.refit (Sl.le (R:=cJ) (fun{I J c a} h k=>cJ.le h k) hS a1),hF,by simpa using hl,j3 a3⟩;obtain⟨r,er,fn,re,rl⟩:=Dk (j3 a3) hW.1 a2 (by simpa using hl);obtain⟨q0,_,RR0⟩:=gG (j3 a3) hW.1 a2 er (fun _=>false);have cp:=Ff (j3 a3) (by simpa using hl) hW.1 a2 er;have cs:=Lu (j3 a3) (by simpa using hl) (Iz hx) hW.1 a2 er;obtain⟨cr,_⟩:=xu RR0.fok RR0.lok;have dj:cK (ll (fE r.f) r.l)+1=cK (lI r):=by unfold lI;rw[a8,cR]
 unfold LL at cp;apply RG;simp only[go_sem,pt];refine aT cj fun cA=>?_;refine ab cA [1,0] rfl fun ci=>?_;simp only[Z4]at ci |-;refine NB ci [0,1] rfl LB (by rfl) (ps:=[sg pb _,_]) (F:=[]) rfl (yr (o:=0) (by omega) er hP (hW.le a1) a2 (Ow.nil _ _ _ _) (by have re':=re;unfold aF at re';simp only[S9];unfold pY;omega)) fun v2 I2 qs cf b3 hq=>?_;obtain⟨dv2,D2,rs,rfl,bx,⟨A,B,va,vb,rfl,rfl,hA,hB⟩,ds,dk⟩:=hq;rw[SU]at bx;simp only[Z3]at cf |-;obtain⟨aa,ac,rfl⟩:=hA.shape;obtain⟨ba,bc,rfl⟩:=hB.shape;obtain⟨ea,ec,rfl⟩:=bx.shape;have da:=hA.capN aW.len;have c7:=Ow.capN (R:=dg) bx (fun c a h=>dg.len c a h);refine ab cf [0,1,2,3] rfl fun bs=>?_;simp only[Z4]at bs |-;refine ag bs fun I3 bs aS cB=>?_;refine ab bs [0,1,2] rfl fun bd=>?_;simp only[Z4]at bd |-;refine ag bd fun I4 bd ap c8=>?_;refine ab bd [0,1] rfl fun bb=>?_;simp only[Z4]at bb |-;refine ag bb fun I5 bb ao dc=>?_;refine ab bb [0] rfl fun a9=>?_;simp only[Z4]at a9 |-;refine ag a9 fun I6 a9 an c9=>?_;have cb:=Ui ap (Ui ao an);have cm:=Ui aS cb;have b0:aQ I6 pb 4 [.slice ea r.e.length ec]:=(aU (by simp) rfl:aQ (sg pb (bD (.slice la ts.length lc) fv (.slice none 0 0) (.slice ea r.e.length ec) 0)) pb 4 [.slice ea r.e.length ec]).le (Ui cB cb);have c3:db I6 (.slice aa r.l.length ac) r.l:=db.le (br.sl (br.le hA (Ui aS ap)) ao dc) an;have c6:Sl dg I6 (.slice ea r.e.length ec) r.e:=SlE.le (dl.sl (dl.le bx aS) ap c8) (Ui ao an);have c5:du I6 (.slice ba r.f.length bc) r.f:=Ow.sl (R:=fP) (fun{I J c a} h k=>fP.le h k) (Ow.le (R:=fP) (fun{I J c a} h k=>fP.le h k) hB (Ui aS (Ui ap ao))) an c9
 have cn:=Ui b3 cm;apply RG;simp only[go_sem];refine NB a9 [] rfl Lz (by rfl) (ps:=[]) (F:=[]) rfl (Nk c5 (by have:=fn.len;simp only[Sz]at this;omega)) fun v3 I7 qs b4 am hq=>?_;obtain⟨rfl,b1⟩:=hq;obtain⟨za,zk,rfl⟩:=b1.shape2;simp only[Z3]at b4 |-;apply RG;simp only[go_sem,sD,rD,iv,pt];refine Qz (l:=[.slice ea r.e.length ec]) rfl (cellsU b4 (.head _) (b0.le am)) (.inr ⟨LF,rfl⟩) ?_;apply RG;simp only[go_sem,sD,rD,iv];refine ax mixed [0,1,3,2,4,5,6,7] [] [] rfl rfl ?_;apply af;simp only[go_sem,sD,rD,iv];refine Og b4 [] rfl (fun h=>by cases h) rfl ES (by rfl) (ps:=[]) (F:=[]) rfl (C0 (cK r.l+1) (Tv _) (db.le c3 am) da b1 (by unfold aF;omega)) fun v4 I8 qs a7 b2 hq=>?_;obtain⟨K,rfl,hK⟩:=hq;simp only[Z3]at a7 |-;obtain⟨ka,kc,rfl⟩:=hK.shape;have c4:=hK.capN aW.len;apply af;simp only[go_sem,sD,rD,iv];refine aZ a7 (by exact cT) rfl rfl rfl rfl rfl (by decide) fun nb I9 b6 a4 ct=>?_;apply af;simp only[go_sem,sD,rD,iv];refine aw ?_;refine ab b6 [0] rfl fun a0=>?_;simp only[Z4]at a0 |-;refine ag (c:=.st _) a0 fun cl a0 ak ca=>?_;have c2:db cl (.slice ka (ll (fE r.f) r.l).length kc) (ll (fE r.f) r.l):=br.sl (br.le hK a4) ak ca;have k710:=Ui b2 (Ui a4 ak);have c1:db cl (.slice (some ⟨nb,0,none⟩) 1 1) (lI r):=fT ((az ct (by simp[aE,Value.cells]) (by simp[aE,Value.cells,iv,sD,rD]):aQ I9 nb 0 _).le ak) (aW.mk (n:=⟨1,[],-1,0,ll (fE r.f) r.l,fE r.f⟩) (b1.le k710) c2 c4);apply RG;simp only[go_sem,sD,rD,iv];refine av a0 (by exact PU) rfl rfl rfl rfl rfl (by decide) fun mb dd b5 aj cx=>?_
 have c0:Sl Hr dd (.slice (some ⟨mb,0,none⟩) 1 1) [⟨lI r,r.e⟩]:=⟨_,_,rfl,.inr ⟨mb,0,_,rfl,az cx (by simp[aE,Value.cells]) (by simp[aE,Value.cells]),.one ⟨_,_,rfl,db.le c1 aj,⟨R7 _,fun _=>by unfold maxLen;omega⟩,SlE.le c6 (Ui am (Ui k710 aj)),c7⟩⟩⟩;apply RG;simp only[go_sem];refine NB b5 [] rfl Ls (by rfl) (ps:=[]) (F:=[]) rfl (IE c0 (by simp) (by simpa using cr) (by simpa using cs) (by simp only[TB,List.flatMap_nil,Tq];unfold aF;omega) (by simpa using RR0.eok) (by simpa using re)) fun v5 dv qs a6 a5 hq=>?_;obtain⟨rfl,hR⟩:=hq;simp only[Z3]at a6 |-;have em:Pp [⟨lI r,r.e⟩]=⟨kH (eX (lI r)) (lI r),yA r.e⟩:=by simp[Pp]
 rw[em]at hR;obtain⟨_,_,rfl,hR⟩:=hR;obtain⟨⟨xa,xc,rfl,_⟩,_,⟨ya,yc,rfl,_⟩,_⟩:=id hR;apply RG;simp only[go_sem];refine ai rfl a6 (r:=[.agg #[.slice xa (kH (eX (lI r)) (lI r)).length xc,.slice ya (yA r.e).length yc]]) (by simp only[Tryz.results22,go_sem]) (Ui a1 (Ui cn (Ui am (Ui k710 (Ui aj a5))))) ⟨rfl,_,.inr ⟨a2,r,er,rfl⟩,⟨_,_,rfl,hR⟩,?_,?_⟩
 ·have:=Cw (eX (lI r)) (lI r);show cK (kH (eX (lI r)) (lI r))<=aF;unfold aF;omega
 ·exact R8 (HJ r.e) re
theorem N4{c:Nat}(hc:c<2^32):xH .u32 (BG .u32) (c:Int)=((4294967295 ^^^ c:Nat):Int):=by
 have hm:BG .u32=((4294967295:Nat):Int):=by decide
 rw[hm];have hb:(4294967295:Nat)<2^32:=by decide
 have ea:BitVec.ofInt 32 ((4294967295:Nat):Int)=BitVec.ofNat _ 4294967295:=by rw[BitVec.ofInt_natCast]
 have eb:BitVec.ofInt 32 (c:Int)=BitVec.ofNat _ c:=by rw[BitVec.ofInt_natCast]
 have hx:4294967295 ^^^ c<2^32:=Nat.xor_lt_two_pow hb hc;have:xH .u32 ((4294967295:Nat):Int) (c:Int)=IntKind.u32.wrap ((BitVec.ofInt 32 ((4294967295:Nat):Int) ^^^ BitVec.ofInt 32 (c:Int)).toNat:Int):=rfl;rw[this,ea,eb,BitVec.toNat_xor,BitVec.toNat_ofNat,BitVec.toNat_ofNat,Nat.mod_eq_of_lt hb,Nat.mod_eq_of_lt hc];simp only[IntKind.wrap,show IntKind.bits .u32=32 from rfl,show IntKind.signed .u32=false from rfl];have:((4294967295 ^^^ c:Nat):Int) % (2^32:Int)=((4294967295 ^^^ c:Nat):Int):=TH (by omega) (by exact_mod_cast hx);simpa using this
def Nb(ts:List Tok)(c:Nat)(r:Value)(I2:PH):Prop:=∃t,Jk (ts.map refit) (gL c (4294967295 ^^^ c)) t/\zW I2 r (prj (dW c) t)/\ML (prj (dW c) t)
theorem Cv{I:PH}{v:Value}{ts:List Tok}{c:Nat}(hV:fN I)(hT:oC I v ts)(hc:c<2^32):aO Tryz.prog 19 #[v,.int .u32 c] I [] fun r I2 qs=>qs=[]/\Nb ts c r I2:=by
 obtain⟨lv,ga,gn,gc,rfl,hS⟩:=hT.sh;obtain⟨la,lc,rfl,_⟩:=id hS;have hx:4294967295 ^^^ c<2^32:=Nat.xor_lt_two_pow (by decide) hc;intro hd;refine Ot Tryz.func19 rfl fun w0=>?_;simp only[Tryz.ntmps19];apply RG;simp only[go_sem];refine ax mixed [0,1,2,3,6,4,5,7,8] [] [] rfl rfl ?_;apply af;simp only[go_sem,N4 hc];refine Og hd [] rfl (fun h=>by cases h) rfl Mf (by rfl) (ps:=[]) (F:=[]) rfl (AX hc hx) fun v1 I1 qs an aa hq=>?_;obtain⟨rfl,hW⟩:=hq;simp only[Z3]at an |-;obtain⟨wa,wk,rfl⟩:=hW.shape2;apply af;simp only[go_sem];refine Og an [] rfl (fun h=>by cases h) rfl Aw (by rfl) (ps:=[]) (F:=[]) rfl (su (hV.le aa) (hT.le aa) hW) fun v2 I2 qs am aj hq=>?_;obtain⟨rfl,t,hF,hR,aS,ap⟩:=hq;simp only[Z3]at am |-;obtain⟨xk,xd,rfl,⟨ua,uc,rfl,_⟩,_,⟨wa',wc,rfl,_⟩,_⟩:=id hR;apply af;simp only[go_sem];refine Og am [] rfl (fun h=>by cases h) rfl Gs (by rfl) (ps:=[]) (F:=[]) rfl (vU hR hc aS ap) fun v3 I3 qs ak ac hq=>?_;obtain⟨rfl,ao⟩:=hq;simp only[Z3]at ak |-;obtain⟨yk,yd,rfl,⟨xa,xc,rfl,_⟩,_,⟨ya,yc,rfl,_⟩,_⟩:=id ao;apply af;simp only[go_sem];refine aw ?_;apply RG;simp only[go_sem];exact ai rfl ak (r:=[.agg #[.slice xa (prj (dW c) t).kids.length xc,.slice ya (prj (dW c) t).diags.length yc]]) (by simp only[Tryz.results19,go_sem]) (Ui aa (Ui aj ac)) ⟨rfl,t,hF,ao,ML.prj c ⟨aS,ap⟩⟩
theorem LW:aP Tryz.prog 16:=⟨_,Tryz.func16,rfl,rfl⟩
theorem MG:aP Tryz.prog 32:=⟨_,Tryz.func32,rfl,rfl⟩
def nT(_:PH)(c:List Value)(x:Nat):Prop:=c=[.int .u32 x]/\x<2^32
theorem nT.len{I:PH}(c:List Value)(x:Nat)(h:nT I c x):c.length=1:=by rw[h.1];rfl
abbrev Is(I A:PH)(v:Value)(l:List Nat):Prop:=Ow nT 23 1 I A v l
abbrev Oz(I:PH)(v:Value)(l:List Nat):Prop:=Sl nT I v l
theorem Is.le{I J A:PH}{v:Value}{l:List Nat}(h:Is I A v l)(k:I.le J):Is J A v l:=Ow.le (R:=nT) (fun{I J c a} h k=>h) h k
theorem Oz.le{I J:PH}{v:Value}{l:List Nat}(h:Oz I v l)(k:I.le J):Oz J v l:=Sl.le (R:=nT) (fun{I J c a} h k=>h) h k
def OU(u:Nat)(x:Nat×Value):St:=⟨dn 35 [(0,.v (.int .u32 u)),(3,.v x.2),(4,.v (iv x.1))],[]⟩
def RO(u:Nat)(I0:PH)(x:Nat×Value)(H:PH):Prop:=∃I A l,H=U [I,A]/\Dj [I,A]/\I0.le I/\x.1<=32/\Is I A x.2 l/\l.length=2^pM u x.1
def Jm(u i n:Nat)(x:Nat×Value):St:=⟨dn 35 [(0,.v (.int .u32 u)),(3,.v x.2),(4,.v (iv i)),(5,.v (iv n)),(6,.v (iv x.1))],[]⟩
def QI(n:Nat)(I0:PH)(x:Nat×Value)(H:PH):Prop:=∃I A l,H=U [I,A]/\Dj [I,A]/\I0.le I/\x.1<=n/\Is I A x.2 l/\l.length=n+x.1
theorem Ds{I:PH}{u:Nat}(hu:u<2^32)(hp:pM u 32<=8):aO Tryz.prog 21 #[.int .u32 u] I [] fun r I2 qs=>qs=[]/\∃l,Oz I2 r l/\l.length<=256:=by
 intro hd;refine Ot Tryz.func21 rfl fun w0=>?_;simp only[Tryz.ntmps21];apply RG;simp only[go_sem];refine dP hd (by exact Ev) rfl rfl rfl rfl rfl (by decide) fun b0 A0 b5 a4=>?_;have cc:Is I A0 (.slice (some ⟨b0,0,none⟩) 1 1) [0]:=⟨_,a4,⟨[.int .u32 0],[],by simp[aE,Value.cells],⟨rfl,by decide⟩,rfl⟩⟩;apply RG;simp only[go_sem];refine aB (fun x=>32-x.1) (OU u) (RO u I) (0,.slice (some ⟨b0,0,none⟩) 1 1) (ae (by simp only[go_sem,Tq,iv])) (by simp only[go_sem,Tq,OU]) ?_ ?_
 ·exact⟨I,A0,[0],rfl,b5,Uj _,S6 _,cc,rfl⟩
 rintro⟨i,vo⟩ H ⟨I1,A1,l,rfl,a7,ak,hi,hA,am⟩ aa;simp only at hi hA am;simp only[OU];obtain⟨oa,oc,rfl⟩:=hA.shape;rcases Sw i 32 with bb|ci
 ·have h9:decide ((i:Int)<32)=true:=Uh (by omega);have e1:=Z7 (i:=i) (by omega);have a1:=Oo hu (i:=i) (by omega);have cf:=R8 (Hl u (i:=i+1) (j:=32) (by omega)) hp;have a3:pM u (i+1)=pM u i+(u.testBit i).toNat:=rfl;have a0:l.length<=256:=by
   rw[am];exact R8 (Tz (by omega) (show pM u i<=8 by omega)) (by decide)
  cases hb:u.testBit i
  ·rw[hb]at a1 a3;apply RG;simp only[go_sem,iv,h9,TP,a1,Bool.toNat_false,TJ,e1];exact aa (i+1,.slice oa l.length oc) _ _ (by simp only;omega) (ae (by simp only[go_sem,Tq,iv])) (by simp only[go_sem,Tq,OU]) ⟨I1,A1,l,rfl,a7,ak,bb,hA,by simp only;rw[a3,am];rfl⟩
  ·rw[hb]at a1 a3;have bs:(true:Bool).toNat=1:=rfl;have bc:l.length<=128:=by
    rw[am];exact R8 (Tz (by omega) (show pM u i<=7 by omega)) (by decide)
   apply RG;simp only[go_sem,iv,h9,TP,a1,Bool.toNat_true,TJ];refine aB (fun x=>l.length-x.1) (Jm u i l.length) (QI l.length I1) (0,.slice oa l.length oc) (ae (by simp only[go_sem,Tq,iv])) (by simp only[go_sem,Tq,Jm]) ?_ ?_
   ·exact⟨I1,A1,l,rfl,a7,Uj _,S6 _,hA,rfl⟩
   rintro⟨k,vq⟩ H ⟨I2,A2,m,rfl,ac,ap,hk,a2,ba⟩ aj;simp only at hk a2 ba;simp only[Jm];obtain⟨qa,qc,rfl⟩:=a2.shape;rcases Sw k l.length with a6|b2
   ·have a9:=Z5 (a:=k) (b:=l.length) (by omega);have e2:=Z7 (i:=k) (by omega);obtain⟨x,hx⟩:∃x,m[k]?=some x:=⟨_,SC (by omega)⟩;obtain⟨g,cap,cur,c,ev,rfl,c1,c2,hc,cj,aS,_⟩:=a2.elem (fun{I} c a h=>nT.len (I:=I) c a h) (fun{I J c a} h k=>h) hx;cases ev
    obtain⟨rfl,bd⟩:=hc;obtain⟨n1,b1,q1⟩:=Js (x:Int) (zU .u32 1 (i:Int));apply RG;simp only[go_sem,iv,a9];refine ax mixed [0,1,2,3,4,5,6,7,8,9,10] [4] [] rfl rfl ?_;apply af;simp only[go_sem,iv]
    try refine⟨by omega,?_⟩
    refine P7 (l:=[.int .u32 x]) rfl (by simpa using cellsU ac (.tail _ (.head _)) aS) (.inr ⟨qZ,rfl⟩) ?_;apply af;simp only[go_sem,iv,TP,q1];refine aZ ac (by exact Ev) rfl rfl rfl rfl rfl (by decide) fun nb I4 b4 an bx=>?_;have b6:Sl nT I4 (.slice (some ⟨nb,0,none⟩) 1 1) [n1]:=⟨_,_,rfl,.inr ⟨nb,0,_,rfl,az bx (by simp[aE,Value.cells]) (by simp[aE,Value.cells]),.one ⟨rfl,b1⟩⟩⟩;apply af;simp only[go_sem,iv];refine eZ (R:=nT) (xs:=m) (ys:=[n1]) b4 (by exact Ev) (Is.le a2 an) b6 (fun{I J c a} h k=>h) (fun{I} c a h=>nT.len (I:=I) c a h) (fun{I} c a h=>by rw[h.1];rfl) rfl rfl rfl rfl rfl rfl (by simp only[SB,S9];omega) (by simp only[SB,S9];unfold maxLen;omega) fun ua uc I5 A5 b3 a5 ca=>?_;apply af;simp only[go_sem,iv];refine aw ?_;apply RG;simp only[go_sem,iv,e2];exact aj (k+1,.slice ua (m++[n1]).length uc) _ _ (by simp only;omega) (ae (by simp only[go_sem,Tq,iv])) (by simp only[go_sem,Tq,Jm]) ⟨I5,A5,m++[n1],rfl,b3,Ui ap (Ui an a5),a6,ca,by simp;omega⟩
   ·have:k=l.length:=by omega
    subst this;have a9:=Z6 l.length;apply RG;simp only[go_sem,iv,a9,e1];exact aa (i+1,.slice qa m.length qc) _ _ (by simp only;omega) (ae (by simp only[go_sem,Tq,iv])) (by simp only[go_sem,Tq,OU]) ⟨I2,A2,m,rfl,ac,Ui ak ap,bb,a2,by simp only;rw[a3,ba,bs,Ty,<-am];omega⟩
 ·have:i=32:=by omega
  subst this;have a0:l.length<=256:=by
   rw[am];exact R8 (Tz (by omega) hp) (by decide)
  refine ab a7 [0] rfl fun ac=>?_;simp only[Z4]at ac |-;refine ag (c:=.st _) ac fun I3 ac ao cb=>?_;apply RG;simp only[go_sem,iv,TJ];exact ai rfl ac (r:=[_]) rfl (Ui ak ao) ⟨rfl,l,Ow.sl (R:=nT) (fun{I J c a} h k=>h) hA ao cb,a0⟩
def Nn(v:Value)(vc:Value)(x:Nat×Value):St:=⟨dn 30 [(0,.v v),(5,.v x.2),(6,.v vc),(7,.v (iv x.1))],[]⟩
def Rx(n:Nat)(I0:PH)(x:Nat×Value)(H:PH):Prop:=∃I A l,H=U [I,A]/\Dj [I,A]/\I0.le I/\x.1<=n/\Is I A x.2 l/\l.length<=x.1
theorem Cn{I:PH}{v:Value}{l:List (Nat×Nat)}{u:Nat}(hS:uj I v l)(hl:l.length<2^60)(hu:u<2^32)(hp:pM u 32<=8):aO Tryz.prog 25 #[v,.int .u32 u] I [] fun r I2 qs=>qs=[]/\∃a n c,r=.slice a n c:=by
 obtain⟨va,vc,rfl,_⟩:=id hS;intro hd;refine Ot Tryz.func25 rfl fun w0=>?_;simp only[Tryz.ntmps25];apply RG;simp only[go_sem];refine NB hd [] rfl LI (by rfl) (ps:=[]) (F:=[]) rfl (Ds hu hp) fun v1 I1 qs a1 ao hq=>?_;obtain⟨rfl,m,hm,a9⟩:=hq;simp only[Z3]at a1 |-;obtain⟨ma,mc,rfl,_⟩:=id hm;apply RG;simp only[go_sem];refine aT a1 fun a5=>?_;refine aB (fun x=>m.length-x.1) (Nn (.slice va l.length vc) (.slice ma m.length mc)) (Rx m.length I1) (0,.slice none 0 0) (ae (by simp only[go_sem,Tq,iv])) (by simp only[go_sem,Tq,Nn]) ?_ ?_
 ·exact⟨I1,_,[],rfl,a5,Uj _,S6 _,Ow.nil _ _ _ _,R7 _⟩
 rintro⟨i,vo⟩ H ⟨I2,A2,o,rfl,an,aa,hi,hA,a2⟩ aj;simp only at hi hA a2;simp only[Nn];obtain⟨oa,oc,rfl⟩:=hA.shape;rcases Sw i m.length with ap|bb
 ·have a0:=Z5 (a:=i) (b:=m.length) (by omega);have e1:=Z7 (i:=i) (by omega);obtain⟨x,hx⟩:∃x,m[i]?=some x:=⟨_,SC ap⟩;obtain⟨b,off,cs,rfl,⟨rfl,x32⟩,ak⟩:=Sl.load (fun{I} c a h=>nT.len (I:=I) c a h) (Oz.le hm aa) hx;apply RG;simp only[go_sem,iv,a0]
  try refine⟨by omega,?_⟩
  refine Qz (l:=[.int .u32 x]) rfl (cellsU an (.head _) (by simpa using ak)) (.inr ⟨qZ,rfl⟩) ?_;apply RG;simp only[go_sem,iv];refine Pf rfl FF (NG (uj.le hS (Ui ao (Ui aa (cD an)))) hl x32) fun v H2 hv=>?_;obtain⟨rfl,rfl⟩:=hv;cases ba:KF l x
  ·apply RG;simp only[go_sem,iv,e1];exact aj (i+1,.slice oa o.length oc) _ _ (by simp only;omega) (ae (by simp only[go_sem,Tq,iv])) (by simp only[go_sem,Tq,Nn]) ⟨I2,A2,o,rfl,an,aa,ap,hA,by simp only;omega⟩
  ·apply RG;simp only[go_sem,iv]
   try refine⟨by omega,?_⟩
   refine Qz (l:=[.int .u32 x]) rfl (cellsU an (.head _) (by simpa using ak)) (.inr ⟨qZ,rfl⟩) ?_;apply RG;simp only[go_sem,iv];refine av an (by exact Ev) rfl rfl rfl rfl rfl (by decide) fun nb I4 am ac a3=>?_;have a6:Sl nT I4 (.slice (some ⟨nb,0,none⟩) 1 1) [x]:=⟨_,_,rfl,.inr ⟨nb,0,_,rfl,az a3 (by simp[aE,Value.cells]) (by simp[aE,Value.cells]),.one ⟨rfl,x32⟩⟩⟩;apply RG;simp only[go_sem,iv];refine aY (R:=nT) (xs:=o) (ys:=[x]) am (by exact Ev) (Is.le hA ac) a6 (fun{I J c a} h k=>h) (fun{I} c a h=>nT.len (I:=I) c a h) (fun{I} c a h=>by rw[h.1];rfl) rfl rfl rfl rfl (by simp only[SB,S9];omega) (by simp only[SB,S9];unfold maxLen;omega) fun ua uc I5 A5 a4 aS a7=>?_;apply RG;simp only[go_sem,iv,e1];exact aj (i+1,.slice ua (o++[x]).length uc) _ _ (by simp only;omega) (ae (by simp only[go_sem,Tq,iv])) (by simp only[go_sem,Tq,Nn]) ⟨I5,A5,o++[x],rfl,a4,Ui aa (Ui ac aS),ap,a7,by simp;omega⟩
 ·have:i=m.length:=by omega
  subst this;have a0:=Z6 m.length;refine ab an [0] rfl fun am=>?_;simp only[Z4]at am |-;refine ag (c:=.st _) am fun I4 am ac bc=>?_;apply RG;simp only[go_sem,iv,a0];exact ai rfl am (r:=[_]) rfl (Ui ao (Ui aa ac)) ⟨rfl,_,_,_,rfl⟩
structure It where
 kind:Nat
 text:bM
 cubes:List (Nat×Nat)
def G3(I:PH)(c:List Value)(x:It):Prop:=∃va,c=[.int .u8 x.kind,.string ⟨⟨x.text⟩⟩,va]/\uj I va x.cubes
theorem G3.le{I J:PH}{c:List Value}{x:It}(h:G3 I c x)(k:I.le J):G3 J c x:=by
 obtain⟨va,e,h⟩:=h;exact⟨va,e,uj.le h k⟩
theorem G3.len{I:PH}(c:List Value)(x:It)(h:G3 I c x):c.length=3:=by obtain⟨va,e,_⟩:=h;rw[e];rfl
abbrev KJ(I:PH)(v:Value)(l:List It):Prop:=Sl G3 I v l
theorem KJ.le{I J:PH}{v:Value}{l:List It}(h:KJ I v l)(k:I.le J):KJ J v l:=Sl.le (R:=G3) (fun{I J c a} h k=>G3.le h k) h k
def dV(x:It):Tok:=⟨x.kind,x.text,jO x.cubes,true⟩
def Ql(x:It):Prop:=x.cubes.length<2^40/\x.text.length<2^40
def NU(x:It):Nat:=1+x.cubes.length+x.text.length / 64
def KX(n0:Nat)(l:List It):Nat:=n0+(l.map NU).sum
theorem F0(n0:Nat)(l:List It)(x:It):KX n0 (l++[x])=KX n0 l+NU x:=by
 unfold KX;rw[Uc,List.sum_append];simp;omega
theorem Cs(n0:Nat):∀l:List It,l.length<=KX n0 l
 | []=>S6 _
 |x::l=>by
  have:=Cs n0 l;unfold KX at this |-;simp only[Tf,List.sum_cons,SB];have:1<=NU x:=by unfold NU;omega
  omega
def AC(vl vw:Value)(most:Nat)(x:Nat×Nat×Nat):St:=⟨dn 120 [(0,.v vl),(1,.v vw),(2,.v (iv most)),(6,.p 6 0),(7,.v (.slice none 0 0)),(8,.v (.int .u32 0)),(9,.v (.bool false)),(10,.v (.int .u32 x.2.1)),(11,.v (iv x.2.2)),(12,.p 12 0),(13,.v (iv x.1))],[⟨6,27,[.slice none 0 0,.slice none 0 0]⟩,⟨12,27,[.slice none 0 0,.slice none 0 0]⟩]⟩
def qP(vl:Value)(u:Nat)(x:Nat×Value×Value):St:=⟨dn 120 [(0,.v vl),(6,.p 6 0),(10,.v (.int .u32 u)),(12,.p 12 0),(14,.v x.2.2),(15,.v (iv x.1))],[⟨6,27,[.slice none 0 0,.slice none 0 0]⟩,⟨12,27,[x.2.1,.slice none 0 0]⟩]⟩
def nm(_:PH)(c:List Value)(_:Unit):Prop:=∃k t a n m b bn bc i j,c=[.int .u8 k,.string t,.slice a n m,.int .i64 i,.int .i64 j,.slice b bn bc]
theorem nm.len{I:PH}(c:List Value)(x:Unit)(h:nm I c x):c.length=6:=by obtain⟨k,t,a,n,m,b,bn,bc,i,j,e⟩:=h;rw[e];rfl
abbrev Hv(I A:PH)(v:Value)(l:List Unit):Prop:=Ow nm 136 6 I A v l
theorem Hv.le{I J A:PH}{v:Value}{l:List Unit}(h:Hv I A v l)(k:I.le J):Hv J A v l:=Ow.le (R:=nm) (fun{I J c a} h k=>h) h k
def P8(l:List It)(I0:PH)(x:Nat×Value×Value)(H:PH):Prop:=∃I A B m,H=U [I,A,B]/\Dj [I,A,B]/\I0.le I/\x.1<=l.length/\ui I A x.2.1 ((l.take x.1).map dV)/\Hv I B x.2.2 m/\m.length=x.1
def OA(l:List It)(w:List (Nat×Nat))(v:Value)(I2:PH):Prop:=
 (∃lv,v=.tuple #[lv,.slice none 0 0,.int .u32 0,.bool false]/\lv=.agg #[.slice none 0 0,.slice none 0 0])\/
 (∃lv a n c u,v=.tuple #[lv,.slice a n c,.int .u32 u,.bool true]/\oC I2 lv (l.map dV))
theorem Mb{I:PH}{vl vw:Value}{l:List It}{w:List (Nat×Nat)}{most:Nat}(hS:KJ I vl l)(hW:uj I vw w)(hb:∀x∈l,Ql x)(hl:l.length<2^40)(hw:w.length<2^40)(hm:most<=8):aO Tryz.prog 16 #[vl,vw,iv most] I [] fun r I2 qs=>qs=[]/\OA l w r I2:=by
 obtain⟨la,lc,rfl,_⟩:=id hS;obtain⟨wa,wc,rfl,_⟩:=id hW;intro hd;refine Ot Tryz.func16 rfl fun w0=>?_;simp only[Tryz.ntmps16,iv];apply RG;simp only[go_sem];refine Pf rfl FU (E1 (uj.le hW (cD hd)) (by omega)) fun v H2 hv=>?_;obtain⟨⟨u0,cA,rfl⟩,rfl⟩:=hv;apply RG;simp only[go_sem];apply cO (fun(x:Nat×Nat×Nat)=>l.length-x.1) (AC (.slice la l.length lc) (.slice wa w.length wc) most) (fun x H=>H=U [I]/\x.1<=l.length/\x.2.1<2^32/\x.2.2=KX w.length (l.take x.1)/\x.2.2<2^44) (fun x H=>H=U [I]/\x.2.1<2^32/\x.2.2<2^44/\(x.2.2<400->KX w.length l<400)) (0,u0,w.length)
 ·exact(ae (by simp only[go_sem,Tq,iv]))
 ·exact(by simp only[go_sem,Tq,AC])
 ·exact⟨rfl,S6 _,cA,by simp[KX],by simp only;omega⟩
 ·rintro⟨i,u,n⟩ H ⟨rfl,hi,hu,hn,bx⟩ a2 a6;simp only at hi hu hn bx;simp only[AC];rcases Sw i l.length with b0|c7
  ·have b5:=Z5 (a:=i) (b:=l.length) (by omega);rcases Sw n 2000 with c3|c3
   ·have cr:decide ((n:Int)<2000)=true:=Uh (by omega);have e1:=Z7 (i:=i) (by omega);obtain⟨x,hx⟩:∃x,l[i]?=some x:=⟨_,SC b0⟩;obtain⟨b,off,cs,rfl,⟨va,rfl,hc⟩,ak⟩:=Sl.load (fun{I} c a h=>G3.len c a h) hS hx;obtain⟨ca,cc,rfl,_⟩:=id hc;have c1:=ak.get (i:=1) rfl;have c2:=ak.get (i:=2) rfl;obtain⟨b1,b2⟩:=hb x (Tg hx);have e31:=Z7 (i:=n) (by omega);have e38:IntKind.i64.wrap (((n+1:Nat):Int)+(x.cubes.length:Int))=((n+1+x.cubes.length:Nat):Int):=by rw[<-wrap64 (n:=n+1+x.cubes.length) (by omega)];congr 1
    have e45:IntKind.i64.wrap ((x.text.length:Int).tdiv 64)=((x.text.length / 64:Nat):Int):=by
     have e:(x.text.length:Int).tdiv 64=((x.text.length / 64:Nat):Int):=by
      rw[Int.tdiv_eq_ediv_of_nonneg (by omega)];rfl
     rw[e];exact wrap64 (by omega)
    have e46:IntKind.i64.wrap (((n+1+x.cubes.length:Nat):Int)+((x.text.length / 64:Nat):Int))=((n+1+x.cubes.length+x.text.length / 64:Nat):Int):=by rw[<-wrap64 (n:=n+1+x.cubes.length+x.text.length / 64) (by omega)];congr 1
    apply RG;simp only[go_sem,iv,b5,cr];refine ax mixed [0,1,2,3,4,5,6,7,8,9,10,11,12,13,14,15,16,17] [6,13] [] rfl rfl ?_;apply af;simp only[go_sem,iv,e31]
    try refine⟨by omega,?_⟩
    refine P7 (l:=[.slice ca x.cubes.length cc]) rfl (cellsU hd (.head _) (by simpa using c2)) (.inr ⟨Gq,rfl⟩) ?_;apply af;simp only[go_sem,iv,e31,e38]
    try refine⟨by omega,?_⟩
    refine P7 (l:=[.string ⟨⟨x.text⟩⟩]) rfl (cellsU hd (.head _) (by simpa using c1)) (.inr ⟨rz,rfl⟩) ?_;apply af;simp only[go_sem,iv,bJ,e31,e38,e45,e46];refine aw ?_;apply RG;simp only[go_sem,iv]
    try refine⟨by omega,?_⟩
    refine Qz (l:=[.slice ca x.cubes.length cc]) rfl (cellsU hd (.head _) (by simpa using c2)) (.inr ⟨Gq,rfl⟩) ?_;apply RG;simp only[go_sem,iv];refine Pf rfl FU (E1 (uj.le hc (cD hd)) (by omega)) fun v H2 hv=>?_;obtain⟨⟨u1,dd,rfl⟩,rfl⟩:=hv;obtain⟨n1,c4,q1⟩:=Js (u:Int) (u1:Int);apply RG;simp only[go_sem,iv,q1,e1];exact a2 (i+1,n1,n+1+x.cubes.length+x.text.length / 64) _ _ (by simp only;omega) (ae (by simp only[go_sem,Tq,iv])) (by simp only[go_sem,Tq,AC]) ⟨rfl,b0,c4,by simp only;rw[i8 hx,F0,<-hn];unfold NU;omega,by simp only;omega⟩
   ·have cr:decide ((n:Int)<2000)=false:=Ug (by omega);apply bq 14;simp only[go_sem,iv,b5,cr];exact a6 (i,u,n) _ _ (ae (by simp only[go_sem,Tq,iv])) (by simp only[go_sem,Tq,AC]) ⟨rfl,hu,bx,fun h=>by simp only at h;omega⟩
  ·have:i=l.length:=by omega
   subst this;have b5:=Z6 l.length;rw[Td]at hn;apply bq 14;simp only[go_sem,iv,b5];exact a6 (l.length,u,n) _ _ (ae (by simp only[go_sem,Tq,iv])) (by simp only[go_sem,Tq,AC]) ⟨rfl,hu,bx,fun h=>by simp only at h;omega⟩
 rintro⟨i,u,n⟩ H ⟨rfl,hu,bx,ct⟩;simp only at hu bx ct;simp only[AC];rcases Sw n 400 with cx|cx
 rotate_left
 ·have cp:decide ((n:Int)>=400)=true:=Uh (by omega);apply RG;simp only[go_sem,iv,cp];exact ai rfl hd (r:=[.agg #[.slice none 0 0,.slice none 0 0],.slice none 0 0,.int .u32 0,.bool false]) (by simp only[Tryz.results16,go_sem,iv]) (Uj _) ⟨rfl,.inl ⟨_,rfl,rfl⟩⟩
 have cp:decide ((n:Int)>=400)=false:=Ug (by omega);have cB:=ct cx;have c6:=Cs w.length l;apply RG;simp only[go_sem,iv,cp];refine Pf rfl Lj (O1 (most:=most) hu) fun v H2 hv=>?_;obtain⟨rfl,rfl⟩:=hv;cases c8:decide (pM u 32<=most)
 ·apply RG;simp only[go_sem,iv];exact ai rfl hd (r:=[.agg #[.slice none 0 0,.slice none 0 0],.slice none 0 0,.int .u32 0,.bool false]) (by simp only[Tryz.results16,go_sem,iv]) (Uj _) ⟨rfl,.inl ⟨_,rfl,rfl⟩⟩
 have bs:pM u 32<=8:=R8 (TG c8) hm;apply RG;simp only[go_sem,iv];refine aT hd fun da=>?_;refine aT da fun c9=>?_;refine aB (fun x=>l.length-x.1) (qP (.slice la l.length lc) u) (P8 l I) (0,.slice none 0 0,.slice none 0 0) (ae (by simp only[go_sem,Tq,iv])) (by simp only[go_sem,Tq,qP]) ?_ ?_
 ·exact⟨I,_,_,[],rfl,c9,Uj _,S6 _,Ow.nil _ _ _ _,Ow.nil _ _ _ _,rfl⟩
 rintro⟨j,va,vb⟩ H ⟨I1,A1,B1,m,rfl,b4,a7,hj,hA,hB,cy⟩ a2;simp only at hj hA hB cy;simp only[qP];obtain⟨aa,ac,rfl⟩:=hA.shape;obtain⟨ba,bc,rfl⟩:=hB.shape;rcases Sw j l.length with b0|c7
 ·have cn:=Z5 (a:=j) (b:=l.length) (by omega);have e1:=Z7 (i:=j) (by omega);obtain⟨x,hx⟩:∃x,l[j]?=some x:=⟨_,SC b0⟩;obtain⟨b,off,cs,rfl,⟨vc,rfl,hc⟩,ak⟩:=Sl.load (fun{I} c a h=>G3.len c a h) (KJ.le hS a7) hx;obtain⟨ca,cc,rfl,_⟩:=id hc;have c0:=ak.get (i:=0) rfl;have c1:=ak.get (i:=1) rfl;have c2:=ak.get (i:=2) rfl;obtain⟨b1,b2⟩:=hb x (Tg hx);have c5:((l.take j).map dV).length=j:=by simp;omega
  have hI:I1.le (U [I1,A1,B1]):=cD b4;apply RG;simp only[go_sem,iv,cn];apply E6 (fun(y:Value)=>qP (.slice (some ⟨b,off,none⟩) l.length lc) u (j,y,.slice ba m.length bc)) (fun y H=>∃I A B,H=U [I,A,B]/\Dj [I,A,B]/\I1.le I/\ui I A y ((l.take (j+1)).map dV)/\Hv I B (.slice ba m.length bc) m)
  ·intro hg;have fin:∀{J A B:PH} {ua:Option Addr} {uc nb:Nat} {sv:Value} {za:Option Addr} {zk:Nat},I1.le J->ui J A (.slice ua ((l.take j).map dV++[dV x]).length uc) ((l.take j).map dV++[dV x])->ui J A (.slice ua ((l.take j).map dV++[dV x]).length uc) ((l.take (j+1)).map dV):=fun _ h=>by rw[i8 hx,Uc];exact h
   refine uD mixed [0,1,2,3,4,5,6,7,8,9,10,11,12,14,15,16,17,18] 13 19 [20,21,22,23,24] [20,21,22,23,24] [] [] [6,11,18] [13,19,21] I1 rfl rfl ?_;apply jR;simp only[go_sem,iv]
   try refine⟨by omega,?_⟩
   refine iZ (l:=[.int .u8 x.kind]) rfl hI rfl rfl rfl (by simpa using c0) (.inr ⟨MR,rfl⟩) ?_;apply jR;simp only[go_sem,iv]
   try refine⟨by omega,?_⟩
   refine iZ (l:=[.string ⟨⟨x.text⟩⟩]) rfl hI rfl rfl rfl (by simpa using c1) (.inr ⟨rz,rfl⟩) ?_;apply jR;simp only[go_sem,iv]
   try refine⟨by omega,?_⟩
   refine iZ (l:=[.slice ca x.cubes.length cc]) rfl hI rfl rfl rfl (by simpa using c2) (.inr ⟨Gq,rfl⟩) ?_;apply jR;simp only[go_sem,iv];refine ry ?_ ?_
   ·refine aZ b4 (by exact qX) rfl rfl rfl rfl rfl (by decide) fun nb I4 a4 aj b6=>?_;apply af;simp only[go_sem,iv];refine Og a4 [0,1] rfl (fun _=>aj) rfl Ab (by rfl) (ps:=[]) (F:=[A1,B1]) rfl (Gv (uj.le hc aj) (by omega)) fun v1 I5 qs ao aS hq=>?_;obtain⟨rfl,hr⟩:=hq;simp only[Z3]at ao |-;obtain⟨za,zk,rfl⟩:=hr.shape2;apply af;simp only[go_sem,iv,sD,rD];refine aZ ao (by exact DN) rfl rfl rfl rfl rfl (by decide) fun kb I6 a0 am a9=>?_;have a1:=Ui aj (Ui aS am);have bd:Sl cJ I6 (.slice (some ⟨kb,0,none⟩) 1 1) [dV x]:=⟨_,_,rfl,.inr ⟨kb,0,_,rfl,(az a9 (by simp[aE,Value.cells]) (by simp[aE,Value.cells,iv,sD,rD]):aQ I6 kb 0 [.int .u8 x.kind,.string ⟨⟨x.text⟩⟩,.slice (some ⟨nb,0,none⟩) 1 1,.int .i64 0,.int .i64 0,sD za zk (jO x.cubes),rD (jO x.cubes)]),.one ⟨.slice (some ⟨nb,0,none⟩) 1 1,0,0,za,zk,by simp[dV,sD,rD,iv],rfl,hr.le am⟩⟩⟩;apply af;simp only[go_sem,iv];refine eZ (R:=cJ) (xs:=(l.take j).map dV) (ys:=[dV x]) a0 (by exact DN) (ui.le hA a1) bd (fun{I J c a} h k=>cJ.le h k) (fun{I} c a h=>cJ.len c a h) (fun{I} c a h=>cJ.ones h) rfl rfl rfl rfl rfl rfl (by simp only[SB,S9];omega) (by simp only[SB,S9];unfold maxLen;omega) fun ua uc I7 A7 bb ap cj=>?_;apply af;simp only[go_sem,iv];refine aw ?_;have k7:=Ui a1 ap;exact hg (.slice ua ((l.take j).map dV++[dV x]).length uc) _ _ ⟨I7,A7,B1,rfl,bb,k7,by rw[i8 hx,Uc];exact cj,Hv.le hB k7⟩ (ae (by simp only[go_sem,Tq,iv])) (by simp only[go_sem,Tq,qP])
   ·refine Og b4 [0,1] rfl (fun _=>Uj _) rfl Ab (by rfl) (ps:=[]) (F:=[A1,B1]) rfl (Gv hc (by omega)) fun v1 I5 qs ao aS hq=>?_;obtain⟨rfl,hr⟩:=hq;simp only[Z3]at ao |-;obtain⟨za,zk,rfl⟩:=hr.shape2;apply af;simp only[go_sem,iv,sD,rD];refine aZ ao (by exact qX) rfl rfl rfl rfl rfl (by decide) fun nb I4 a4 aj b6=>?_;apply af;simp only[go_sem,iv,sD,rD];refine aZ a4 (by exact DN) rfl rfl rfl rfl rfl (by decide) fun kb I6 a0 am a9=>?_;have a1:=Ui aS (Ui aj am);have bd:Sl cJ I6 (.slice (some ⟨kb,0,none⟩) 1 1) [dV x]:=⟨_,_,rfl,.inr ⟨kb,0,_,rfl,(az a9 (by simp[aE,Value.cells]) (by simp[aE,Value.cells,iv,sD,rD]):aQ I6 kb 0 [.int .u8 x.kind,.string ⟨⟨x.text⟩⟩,.slice (some ⟨nb,0,none⟩) 1 1,.int .i64 0,.int .i64 0,sD za zk (jO x.cubes),rD (jO x.cubes)]),.one ⟨.slice (some ⟨nb,0,none⟩) 1 1,0,0,za,zk,by simp[dV,sD,rD,iv],rfl,hr.le (Ui aj am)⟩⟩⟩;apply af;simp only[go_sem,iv];refine eZ (R:=cJ) (xs:=(l.take j).map dV) (ys:=[dV x]) a0 (by exact DN) (ui.le hA a1) bd (fun{I J c a} h k=>cJ.le h k) (fun{I} c a h=>cJ.len c a h) (fun{I} c a h=>cJ.ones h) rfl rfl rfl rfl rfl rfl (by simp only[SB,S9];omega) (by simp only[SB,S9];unfold maxLen;omega) fun ua uc I7 A7 bb ap cj=>?_;apply af;simp only[go_sem,iv];refine aw ?_;have k7:=Ui a1 ap;exact hg (.slice ua ((l.take j).map dV++[dV x]).length uc) _ _ ⟨I7,A7,B1,rfl,bb,k7,by rw[i8 hx,Uc];exact cj,Hv.le hB k7⟩ (ae (by simp only[go_sem,Tq,iv])) (by simp only[go_sem,Tq,qP])
  rintro va2 H ⟨I2,A2,B2,rfl,a4,an,cm,ci⟩;obtain⟨aa2,ac2,rfl⟩:=cm.shape;simp only[qP];have c0:=c0.le an;have c1:=c1.le an;have c2:=c2.le an;have hc:=uj.le hc an;have hI:I2.le (U [I2,A2,B2]):=cD a4;apply RG;simp only[go_sem,iv];apply E6 (fun(y:Value)=>qP (.slice (some ⟨b,off,none⟩) l.length lc) u (j,.slice aa2 ((l.take (j+1)).map dV).length ac2,y)) (fun y H=>∃I A B,H=U [I,A,B]/\Dj [I,A,B]/\I2.le I/\ui I A (.slice aa2 ((l.take (j+1)).map dV).length ac2) ((l.take (j+1)).map dV)/\Hv I B y (m++[()]))
  ·intro hg;refine uD mixed [0,1,2,3,4,5,6,7,8,9,10,11,13,14,15,16,17,18] 12 19 [20,21,22,23] [20,21,22,23] [] [] [5,10,17] [12,19,21] I2 rfl rfl ?_;apply jR;simp only[go_sem,iv]
   try refine⟨by omega,?_⟩
   refine iZ (l:=[.int .u8 x.kind]) rfl hI rfl rfl rfl (by simpa using c0) (.inr ⟨MR,rfl⟩) ?_;apply jR;simp only[go_sem,iv]
   try refine⟨by omega,?_⟩
   refine iZ (l:=[.string ⟨⟨x.text⟩⟩]) rfl hI rfl rfl rfl (by simpa using c1) (.inr ⟨rz,rfl⟩) ?_;apply jR;simp only[go_sem,iv]
   try refine⟨by omega,?_⟩
   refine iZ (l:=[.slice ca x.cubes.length cc]) rfl hI rfl rfl rfl (by simpa using c2) (.inr ⟨Gq,rfl⟩) ?_;apply jR;simp only[go_sem,iv];refine ry ?_ ?_
   ·refine aZ a4 (by exact qX) rfl rfl rfl rfl rfl (by decide) fun nb I4 ao aj b6=>?_;apply af;simp only[go_sem,iv];refine Og ao [0,1] rfl (fun _=>aj) rfl Hp (by rfl) (ps:=[]) (F:=[A2,B2]) rfl (Cn (uj.le hc aj) (by omega) hu bs) fun v1 I5 qs a0 aS hq=>?_;obtain⟨rfl,ta,tn,tc,rfl⟩:=hq;simp only[Z3]at a0 |-;apply af;simp only[go_sem,iv];refine aZ a0 (by exact HQ) rfl rfl rfl rfl rfl (by decide) fun kb I6 bb am a9=>?_;have a1:=Ui aj (Ui aS am);have bd:Sl nm I6 (.slice (some ⟨kb,0,none⟩) 1 1) [()]:=⟨_,_,rfl,.inr ⟨kb,0,_,rfl,(az a9 (by simp[aE,Value.cells]) (by simp[aE,Value.cells,iv]):aQ I6 kb 0 [.int .u8 x.kind,.string ⟨⟨x.text⟩⟩,.slice (some ⟨nb,0,none⟩) 1 1,.int .i64 0,.int .i64 0,.slice ta tn tc]),.one ⟨_,_,_,_,_,ta,tn,tc,0,0,rfl⟩⟩⟩;apply af;simp only[go_sem,iv];refine cq bb [1,0] rfl fun b3=>?_;simp only[Z4]at b3 |-;refine eZ (R:=nm) (xs:=m) (ys:=[()]) b3 (by exact HQ) (Hv.le ci a1) bd (fun{I J c a} h k=>h) (fun{I} c a h=>nm.len (I:=I) c a h) (fun{I} c a h=>by obtain⟨k,t,a,n,m,b,bn,bc,i,j,e⟩:=h;rw[e];rfl) rfl rfl rfl rfl rfl rfl (by simp only[SB,S9];omega) (by simp only[SB,S9];unfold maxLen;omega) fun ua uc I7 B7 cb ap cf=>?_;apply af;simp only[go_sem,iv];refine cq cb [1,0] rfl fun a3=>?_;simp only[Z4]at a3 |-;refine aw ?_;have k7:=Ui a1 ap;exact hg (.slice ua (m++[()]).length uc) _ _ ⟨I7,A2,B7,rfl,a3,k7,ui.le cm k7,cf⟩ (ae (by simp only[go_sem,Tq,iv])) (by simp only[go_sem,Tq,qP])
   ·refine Og a4 [0,1] rfl (fun _=>Uj _) rfl Hp (by rfl) (ps:=[]) (F:=[A2,B2]) rfl (Cn hc (by omega) hu bs) fun v1 I5 qs a0 aS hq=>?_;obtain⟨rfl,ta,tn,tc,rfl⟩:=hq;simp only[Z3]at a0 |-;apply af;simp only[go_sem,iv];refine aZ a0 (by exact qX) rfl rfl rfl rfl rfl (by decide) fun nb I4 ao aj b6=>?_;apply af;simp only[go_sem,iv];refine aZ ao (by exact HQ) rfl rfl rfl rfl rfl (by decide) fun kb I6 bb am a9=>?_;have a1:=Ui aS (Ui aj am);have bd:Sl nm I6 (.slice (some ⟨kb,0,none⟩) 1 1) [()]:=⟨_,_,rfl,.inr ⟨kb,0,_,rfl,(az a9 (by simp[aE,Value.cells]) (by simp[aE,Value.cells,iv]):aQ I6 kb 0 [.int .u8 x.kind,.string ⟨⟨x.text⟩⟩,.slice (some ⟨nb,0,none⟩) 1 1,.int .i64 0,.int .i64 0,.slice ta tn tc]),.one ⟨_,_,_,_,_,ta,tn,tc,0,0,rfl⟩⟩⟩;apply af;simp only[go_sem,iv];refine cq bb [1,0] rfl fun b3=>?_;simp only[Z4]at b3 |-;refine eZ (R:=nm) (xs:=m) (ys:=[()]) b3 (by exact HQ) (Hv.le ci a1) bd (fun{I J c a} h k=>h) (fun{I} c a h=>nm.len (I:=I) c a h) (fun{I} c a h=>by obtain⟨k,t,a,n,m,b,bn,bc,i,j,e⟩:=h;rw[e];rfl) rfl rfl rfl rfl rfl rfl (by simp only[SB,S9];omega) (by simp only[SB,S9];unfold maxLen;omega) fun ua uc I7 B7 cb ap cf=>?_;apply af;simp only[go_sem,iv];refine cq cb [1,0] rfl fun a3=>?_;simp only[Z4]at a3 |-;refine aw ?_;have k7:=Ui a1 ap;exact hg (.slice ua (m++[()]).length uc) _ _ ⟨I7,A2,B7,rfl,a3,k7,ui.le cm k7,cf⟩ (ae (by simp only[go_sem,Tq,iv])) (by simp only[go_sem,Tq,qP])
  rintro vb2 H ⟨I3,A3,B3,rfl,ao,a5,cl,dc⟩;simp only[qP];apply RG;simp only[go_sem,iv,e1];exact a2 (j+1,.slice aa2 ((l.take (j+1)).map dV).length ac2,vb2) _ _ (by simp only;omega) (ae (by simp only[go_sem,Tq,iv])) (by simp only[go_sem,Tq,qP]) ⟨I3,A3,B3,m++[()],rfl,ao,Ui a7 (Ui an a5),b0,cl,dc,by simp[cy]⟩
 ·have:j=l.length:=by omega
  subst this;have cn:=Z6 l.length;rw[Td]at hA |-;refine ab b4 [1,0] rfl fun a4=>?_;simp only[Z4]at a4 |-;refine ab a4 [0,1] rfl fun ao=>?_;simp only[Z4]at ao |-;refine ag (c:=.st _) ao fun I2 ao an ci=>?_;refine ab ao [0] rfl fun a0=>?_;simp only[Z4]at a0 |-;refine ag (c:=.st _) a0 fun I3 a0 a5 cl=>?_;apply RG;simp only[go_sem,iv,cn];refine ai rfl a0 (r:=[.agg #[.slice aa (l.map dV).length ac,.slice none 0 0],.slice ba m.length bc,.int .u32 u,.bool true]) (by simp only[Tryz.results16,go_sem,iv]) (Ui a7 (Ui an a5)) ⟨rfl,.inr ⟨_,_,_,_,u,rfl,⟨⟨_,_,_,_,rfl,Ow.sl (R:=cJ) (fun{I J c a} h k=>cJ.le h k) (ui.le hA an) a5 cl⟩,?_,?_,?_⟩⟩⟩
  ·intro t ht;obtain⟨y,hy,rfl⟩:=List.mem_map.1 ht;exact u8 y.cubes
  ·rw[Sz];omega
  ·intro t ht;obtain⟨y,hy,rfl⟩:=List.mem_map.1 ht;exact(hb y hy).2
theorem G2:aP Tryz.prog 70:=⟨_,Tryz.func70,rfl,rfl⟩
theorem jU:aP Tryz.prog 67:=⟨_,Tryz.func67,rfl,rfl⟩
theorem FI:aP Tryz.prog 66:=⟨_,Tryz.func66,rfl,rfl⟩
theorem Lq:aP Tryz.prog 65:=⟨_,Tryz.func65,rfl,rfl⟩
theorem EZ:aP Tryz.prog 17:=⟨_,Tryz.func17,rfl,rfl⟩
def QS:bM:=[102,110,32,109,97,105,110,32,40,32,41,32,123,32,112,114,105,110,116,32,49,32,43,32,50,32,42,32,51,32,59,32,125]
def Q5:bM:=[118,97,114,32,120,32,58,32,105,110,116,32,98,111,111,108,32,59]
def Of:List (Nat×bM):=[(1,[102,110]),(1,[109,97,105,110]),(3,[40]),(3,[41]),(3,[123]),(1,[112,114,105,110,116]),(2,[49]),(3,[43]),(2,[50]),(3,[42]),(2,[51]),(3,[59]),(3,[125])]
def Hu:List (Nat×bM):=[(1,[118,97,114]),(1,[120]),(3,[58]),(1,[105,110,116]),(1,[98,111,111,108]),(3,[59])]
theorem Qj:sF QS=some Of:=by decide +kernel
theorem Px:sF Q5=some Hu:=by decide +kernel
theorem PS:(Of.map ch).map refit=MV:=by
 have h:Of.all (fun x=>xg x.1 x.2)=true:=by decide +kernel
 have e:(Of.map ch).map refit=Of.map ch:=by
  rw[SK];refine SL fun x hx=>?_;have:=List.all_eq_true.1 h x hx;show refit (ch x)=ch x;unfold refit ch;simp only[this]
 rw[e];rfl
def xB:List Tok:=((Hu.map ch).set 3 { ch (1,[105,110,116])with cond:=kA }).set 4 { ch (1,[98,111,111,108])with cond:=kA.not }
theorem PB:xB.map refit=Qm:=by
 have h:Hu.all (fun x=>xg x.1 x.2)=true:=by decide +kernel
 have hh:∀x∈Hu,xg x.1 x.2=true:=List.all_eq_true.1 h;have e:∀t∈xB,refit t=t:=by
  intro t ht;have:∃x∈Hu,t.kind=x.1/\t.text=x.2/\t.fits=true:=by
   simp only[xB,Hu,ch,Tf,List.map_nil,List.set_cons_succ,Ue,Su,SW,or_false]at ht |-;rcases ht with h|h|h|h|h|h<;>subst h<;>simp
  obtain⟨x,hx,e1,e2,e3⟩:=this;unfold refit;have:=hh x hx;rw[<-e1,<-e2]at this;rw[this,<-e3]
 rw[show xB.map refit=xB.map id from SL e,List.map_id];rfl
theorem CG{I:PH}{s:bM}{l:List (Nat×bM)}(hs:s.length<2^40)(hV:fN I)(hx:sF s=some l):aO Tryz.prog 70 #[.string ⟨⟨s⟩⟩] I [] fun r I2 qs=>∃A lv,r=.agg #[lv,.slice none 0 0]/\qs=[A]/\ui I2 A lv (l.map ch):=by
 intro hd;refine Ot Tryz.func70 rfl fun w0=>?_;simp only[Tryz.ntmps70];apply RG;simp only[go_sem];refine NB hd [] rfl ER (by rfl) (ps:=[]) (F:=[]) rfl (Kr hs hV) fun v I2 qs ak aj hq=>?_;unfold Kc at hq;rw[hx]at hq;obtain⟨A,va,rfl,rfl,hA⟩:=hq;simp only[Z3]at ak |-;obtain⟨aa,ac,rfl⟩:=hA.shape;apply RG;simp only[go_sem];exact ai rfl ak (r:=[.agg #[.slice aa (l.map ch).length ac,.slice none 0 0]]) (by simp only[Tryz.results70,go_sem,iv]) aj ⟨A,_,rfl,rfl,hA⟩
theorem nq{H:PH}{cs:List Value}{n k:Nd}{i:Nat}(hn:aW H cs n)(hk:n.kids[i]?=some k)(hi:i<2^40):bv Tryz.prog 67 #[.agg cs.toArray,iv i] H fun r H2=>(∃cs',r=.agg cs'.toArray/\aW H cs' k)/\H2=H:=by
 obtain⟨vk,a,ak,rfl,hr,ac,hc⟩:=hn.shape;obtain⟨ka,kc,rfl,_⟩:=id ac;have ap:=(List.getElem?_eq_some_iff.1 hk).1;have h9:=Z5 (a:=i) (b:=n.kids.length) (by omega);obtain⟨b,off,ds,rfl,aj,aa⟩:=Sl.load aW.len ac hk;obtain⟨wk,wa,wn,rfl,an,am,ao⟩:=aj.shape;obtain⟨la,lc,rfl,_⟩:=id am;refine Ot Tryz.func67 rfl fun w0=>?_;simp only[Tryz.ntmps67,iv,sD,rD];apply RG;simp only[go_sem,h9]
 try refine⟨by omega,?_⟩
 refine Qz (l:=[.int .u8 k.kind,.string ⟨⟨k.text⟩⟩,.int .i64 k.tok,.int .i64 k.slot,.slice la k.kids.length lc,sD wa wn k.cond,rD k.cond]) (v:=.agg #[.int .u8 k.kind,.string ⟨⟨k.text⟩⟩,.int .i64 k.tok,.int .i64 k.slot,.slice la k.kids.length lc,sD wa wn k.cond,rD k.cond]) rfl aa (.inl ⟨bT,rfl⟩) ?_;apply RG;simp only[go_sem,sD,rD,iv];exact aK (r:=[.agg #[.int .u8 k.kind,.string ⟨⟨k.text⟩⟩,.int .i64 k.tok,.int .i64 k.slot,.slice la k.kids.length lc,sD wa wn k.cond,rD k.cond]]) (by simp only[Tryz.results67,go_sem,iv,sD,rD]) ⟨⟨_,rfl,aj⟩,rfl⟩
theorem EW{H:PH}{v:Value}{t:Tr}{k:Nd}(hT:zW H v t)(hk:t.kids[0]?=some k):bv Tryz.prog 66 #[v] H fun r H2=>(∃cs',r=.agg cs'.toArray/\aW H cs' k)/\H2=H:=by
 obtain⟨vk,vd,rfl,aa,hc,ak,_⟩:=hT;obtain⟨ka,kc,rfl,_⟩:=id aa;obtain⟨da,dc,rfl,_⟩:=id ak;have hn:aW H [.int .u8 0,.string ⟨⟨[]⟩⟩,.int .i64 0,.int .i64 0,.slice ka t.kids.length kc,.slice none 0 0,iv 0] ⟨0,[],0,0,t.kids,.lf false⟩:=aW.mk (n:=⟨0,[],0,0,t.kids,.lf false⟩) (a:=none) (k:=0) (jP H false) aa hc;refine Ot Tryz.func66 rfl fun w0=>?_;simp only[Tryz.ntmps66];apply RG;simp only[go_sem];refine Pf rfl jU (nq (i:=0) hn hk (by decide)) fun v H2 hv=>?_;obtain⟨⟨cs',rfl,ac⟩,rfl⟩:=hv;obtain⟨wk,wa,wn,rfl,am,aj,an⟩:=ac.shape;obtain⟨la,lc,rfl,_⟩:=id aj;apply RG;simp only[go_sem,sD,rD,iv];exact aK (r:=[.agg #[.int .u8 k.kind,.string ⟨⟨k.text⟩⟩,.int .i64 k.tok,.int .i64 k.slot,.slice la k.kids.length lc,sD wa wn k.cond,rD k.cond]]) (by simp only[Tryz.results66,go_sem,iv,sD,rD]) ⟨⟨_,rfl,ac⟩,rfl⟩
theorem FW{I:PH}{lv:Value}{l:List (Nat×bM)}(h:Sl cJ I lv (l.map ch))(hl:l.length<=256)(hx:∀x∈l,x.2.length<2^40):oC I (.agg #[lv,.slice none 0 0]) (l.map ch):=by
 refine⟨⟨lv,none,0,0,rfl,h⟩,fun t ht=>?_,by rw[Sz];omega,fun t ht=>?_⟩
 ·obtain⟨x,_,rfl⟩:=List.mem_map.1 ht;exact trivial
 ·obtain⟨x,aa,rfl⟩:=List.mem_map.1 ht;exact hx x aa
theorem EY{I:PH}{s:bM}{l:List (Nat×bM)}(hs:s.length<2^40)(hV:fN I)(hx:sF s=some l)(hl:l.length<=256)(aS:∀x∈l,x.2.length<2^40):aO Tryz.prog 65 #[.string ⟨⟨s⟩⟩] I [] fun r I2 qs=>qs=[]/\Nb (l.map ch) 0 r I2:=by
 intro hd;refine Ot Tryz.func65 rfl fun w0=>?_;simp only[Tryz.ntmps65];apply RG;simp only[go_sem];refine NB hd [] rfl G2 (by rfl) (ps:=[]) (F:=[]) rfl (CG hs hV hx) fun v I2 qs ap ak hq=>?_;obtain⟨A,lv,rfl,rfl,hA⟩:=hq;simp only[Z3]at ap |-;obtain⟨aa,ac,rfl⟩:=hA.shape;refine ab ap [0] rfl fun am=>?_;simp only[Z4]at am |-;refine ag am fun I3 am aj a0=>?_;have hS:Sl cJ I3 (.slice aa (l.map ch).length ac) (l.map ch):=Ow.sl (R:=cJ) (fun{I J c a} h k=>cJ.le h k) hA aj a0;apply RG;simp only[go_sem];refine NB am [] rfl Ex (by rfl) (ps:=[]) (F:=[]) rfl (Cv (c:=0) (hV.le (Ui ak aj)) (FW hS hl aS) (by decide)) fun v2 I4 qs ao an hq=>?_;obtain⟨rfl,t,hF,hR,hB⟩:=hq;simp only[Z3]at ao |-;obtain⟨_,_,rfl,⟨xa,xc,rfl,_⟩,_,⟨ya,yc,rfl,_⟩,_⟩:=id hR;apply RG;simp only[go_sem];exact ai rfl ao (r:=[.agg #[.slice xa (prj (dW 0) t).kids.length xc,.slice ya (prj (dW 0) t).diags.length yc]]) (by simp only[Tryz.results65,go_sem,iv]) (Ui ak (Ui aj an)) ⟨rfl,t,hF,hR,hB⟩
theorem jX{H:PH}{cs:List Value}{k:Nat}{t:bM}{o s:Int}{ks:List Nd}{d:T}(h:aW H cs ⟨k,t,o,s,ks,d⟩):∃va vc a n,cs=[.int .u8 k,.string ⟨⟨t⟩⟩,.int .i64 o,.int .i64 s,.slice va ks.length vc,sD a n d,rD d]/\db H (.slice va ks.length vc) ks/\cu H (.agg #[sD a n d,rD d]) d:=by
 obtain⟨vk,a,n,e,hr,hk,_⟩:=h.shape;obtain⟨va,vc,rfl,_⟩:=id hk;exact⟨va,vc,a,n,e,hk,hr⟩
def PN:Nd:=⟨13,[42],9,1,[⟨15,[50],8,0,[],tt⟩,⟨15,[51],10,1,[],tt⟩],tt⟩
def PI:Nd:=⟨13,[43],7,0,[⟨15,[49],6,0,[],tt⟩,PN],tt⟩
def Pw:Nd:=⟨11,[],5,0,[PI],tt⟩
def Qk:Nd:=⟨6,[],4,2,[Pw],tt⟩
def RZ:Nd:=⟨3,[109,97,105,110],1,0,[Qk],tt⟩
def QF:Nd:=⟨1,[],-1,0,[RZ],tt⟩
def Oe:Nd:=⟨5,[105,110,116],3,0,[],kA⟩
def KU:Nd:=⟨5,[98,111,111,108],4,0,[],kA.not⟩
def Qp:Nd:=⟨2,[120],1,0,[Oe,KU],tt⟩
def P6:Nd:=⟨1,[],-1,0,[Qp],tt⟩
theorem Oh:gL 1 0=kA:=by decide +kernel
set_option maxRecDepth 4000 in
theorem BE{I:PH}(hV:fN I):aO Tryz.prog 17 #[] I [] fun r I2 qs=>qs=[]/\r=.bool true:=by
 intro hd;refine Ot Tryz.func17 rfl fun w0=>?_;simp only[Tryz.ntmps17];apply RG;simp only[go_sem];refine NB hd [] rfl Lq (by rfl) (ps:=[]) (F:=[]) rfl (EY (s:=QS) (by decide) hV Qj (by decide) (by decide)) fun v I1 qs b2 a3 hq=>?_;obtain⟨rfl,t,hF,hR,hB⟩:=hq;simp only[Z3]at b2 |-;rw[PS]at hF;have hp:=Md (ub _ _) hF (vQ 0);rw[hp]at hR;have hR:zW I1 v ⟨[QF],[]⟩:=hR;obtain⟨vk,vd,rfl,hk,em,cx,eq⟩:=id hR;obtain⟨ka,kc,rfl,_⟩:=id hk;obtain⟨da,dc,rfl,_⟩:=id cx;simp only[SB,S9]at hR hk cx |-;apply RG;simp only[go_sem];refine Pf rfl FI (EW (hR.le (cD b2)) rfl) fun v H2 hv=>?_;obtain⟨⟨c1,rfl,a9⟩,rfl⟩:=hv;obtain⟨pa,pc,pa2,pn,rfl,el,ek⟩:=jX a9;apply RG;simp only[go_sem,sD,rD,iv];refine Pf rfl jU (nq (i:=0) a9 rfl (by decide)) fun v H2 hv=>?_;obtain⟨⟨c2,rfl,dw⟩,rfl⟩:=hv;obtain⟨fa,fc,fa2,fn,rfl,ep,eo⟩:=jX dw;apply RG;simp only[go_sem,sD,rD,iv];refine Pf rfl jU (nq (i:=0) dw rfl (by decide)) fun v H2 hv=>?_;obtain⟨⟨c3,rfl,dv⟩,rfl⟩:=hv;obtain⟨ba,bc,ba2,bn,rfl,et,es⟩:=jX dv;apply RG;simp only[go_sem,sD,rD,iv];refine Pf rfl jU (nq (i:=0) dv rfl (by decide)) fun v H2 hv=>?_;obtain⟨⟨c4,rfl,ds⟩,rfl⟩:=hv;obtain⟨ra,rc,ra2,rn,rfl,eg,ef⟩:=jX ds;apply RG;simp only[go_sem,sD,rD,iv];refine Pf rfl jU (nq (i:=0) ds rfl (by decide)) fun v H2 hv=>?_;obtain⟨⟨c5,rfl,ca⟩,rfl⟩:=hv;obtain⟨ia,ic,ia2,inn,rfl,en,dT⟩:=jX ca;apply RG;simp only[go_sem,sD,rD,iv];refine Pf rfl jU (nq (i:=0) a9 rfl (by decide)) fun v H2 hv=>?_;obtain⟨⟨c6,rfl,d9⟩,rfl⟩:=hv;obtain⟨xa6,xb6,xc6,xd6,rfl,_,_⟩:=jX d9;apply RG;simp only[go_sem,sD,rD,iv];refine Pf rfl jU (nq (i:=0) a9 rfl (by decide)) fun v H2 hv=>?_;obtain⟨⟨c7,rfl,d7⟩,rfl⟩:=hv;obtain⟨xa7,xb7,xc7,xd7,rfl,_,_⟩:=jX d7;apply RG;simp only[go_sem,sD,rD,iv]
 refine Pf rfl jU (nq (i:=1) ca rfl (by decide)) fun v H2 hv=>?_;obtain⟨⟨c8,rfl,d6⟩,rfl⟩:=hv;obtain⟨xa8,xb8,xc8,xd8,rfl,_,_⟩:=jX d6;apply RG;simp only[go_sem,sD,rD,iv];refine Pf rfl jU (nq (i:=1) ca rfl (by decide)) fun v H2 hv=>?_;obtain⟨⟨c9,rfl,d5⟩,rfl⟩:=hv;obtain⟨xa9,xb9,xc9,xd9,rfl,_,_⟩:=jX d5;apply RG;simp only[go_sem,sD,rD,iv];refine Pf rfl GY (Fs dT) fun v H2 hv=>?_;obtain⟨rfl,rfl⟩:=hv;apply RG;simp only[go_sem,sD,rD,iv];refine NB b2 [] rfl Ct (by rfl) (ps:=[]) (F:=[]) rfl (AX (on:=1) (off:=0) (by decide) (by decide)) fun v I2 qs dj aS hq=>?_;obtain⟨rfl,a5⟩:=hq;rw[Oh]at a5;obtain⟨ua,uk,rfl⟩:=a5.shape2;simp only[Z3]at dj |-;apply RG;simp only[go_sem,sD,rD,iv];refine NB dj [] rfl G2 (by rfl) (ps:=[]) (F:=[]) rfl (CG (s:=Q5) (by decide) (hV.le (Ui a3 aS)) Px) fun v I3 qs dd aj hq=>?_;obtain⟨A,lv,rfl,rfl,hA⟩:=hq;simp only[Z3]at dd |-;obtain⟨g,cap,cur,cc,rfl,rfl,d3,d0,er,_,bd⟩:=hA.part (fun{I} c a h=>cJ.len c a h) (fun{I J c a} h k=>cJ.le h k) (i:=3) (x:=ch (1,[105,110,116])) rfl 5 2 (by decide);have cr:(Hu.map ch).length=6:=rfl;rw[cr]at d3;obtain⟨p1,f1,l1,a1,k1,rfl,dI,_⟩:=d0;apply RG;simp only[go_sem,sD,rD,iv,cr,TJ];refine cG dd rfl rfl rfl rfl rfl (by exact zp) (by simp;omega) fun c0=>?_;have cf:=bd I3 [sD ua uk kA,rD kA] { ch (1,[105,110,116])with cond:=kA } (Uj _) (by simp) ⟨p1,f1,l1,ua,uk,by simp[be,sD,rD,ch],dI,a5.le aj⟩;simp only[sD,rD,iv]at cf;generalize bb:sg g _=A2 at c0 cf |-;clear bb;apply RG;simp only[go_sem,sD,rD,iv];refine ax mixed [0,1,2,3,4,5,6] [] [] rfl rfl ?_;apply af;simp only[go_sem,sD,rD,iv];refine Og c0 [0] rfl (fun h=>by cases h) rfl mn (by rfl) (ps:=[]) (F:=[A2]) rfl (qK (a5.le aj)) fun v I4 qs cB an hq=>?_
 obtain⟨rfl,dk⟩:=hq;simp only[Z3]at cB |-;obtain⟨na,nk,rfl⟩:=dk.shape2;obtain⟨g2,cap2,cur2,cc2,ev,rfl,b4,b3,d4,_,ao⟩:=Ow.part (R:=cJ) (ui.le cf an) (fun{I} c a h=>cJ.len c a h) (fun{I J c a} h k=>cJ.le h k) (i:=4) (x:=ch (1,[98,111,111,108])) rfl 5 2 (by decide);cases ev
 have bs:((Hu.map ch).set 3 { ch (1,[105,110,116])with cond:=kA }).length=6:=rfl;rw[bs]at b4;obtain⟨p2,f2,l2,a2,k2,rfl,dA,_⟩:=b3;apply af;simp only[go_sem,sD,rD,iv];refine aH cB rfl rfl rfl rfl rfl rfl (by exact zp) (by simp;omega) fun cA=>?_;have cb:=ao I4 [sD na nk kA.not,rD kA.not] { ch (1,[98,111,111,108])with cond:=kA.not } (Uj _) (by simp) ⟨p2,f2,l2,na,nk,by simp[be,sD,rD,ch],dA,dk⟩;simp only[sD,rD,iv]at cb;generalize bb:sg _ _=A3 at cA cb |-;clear bb;apply af;simp only[go_sem,sD,rD,iv];refine aw ?_;refine ab cA [0] rfl fun a7=>?_;simp only[Z4]at a7 |-;refine ag (c:=.st _) a7 fun I5 a7 am eb=>?_;have hS:Sl cJ I5 (.slice (some ⟨g,0,none⟩) 6 cap) xB:=Ow.sl (R:=cJ) (fun{I J c a} h k=>cJ.le h k) cb am eb;have ci:=Ui a3 (Ui aS (Ui aj (Ui an am)));have ea:oC I5 (.agg #[.slice (some ⟨g,0,none⟩) 6 cap,.slice none 0 0]) xB:=by
  refine⟨⟨_,none,0,0,rfl,hS⟩,fun t ht=>?_,by decide,fun t ht=>?_⟩
  ·simp only[xB,Hu,ch,Tf,List.map_nil,List.set_cons_succ,Ue,Su,SW,or_false]at ht;rcases ht with h|h|h|h|h|h<;>subst h<;>first|exact trivial|exact⟨by decide,by decide,by decide,trivial,trivial⟩
  ·simp only[xB,Hu,ch,Tf,List.map_nil,List.set_cons_succ,Ue,Su,SW,or_false]at ht;rcases ht with h|h|h|h|h|h<;>subst h<;>decide
 apply RG;simp only[go_sem,sD,rD,iv];refine ax mixed [3,0,1,2,4] [] [] rfl rfl ?_;apply af;simp only[go_sem,sD,rD,iv];refine Og a7 [] rfl (fun h=>by cases h) rfl Bd (by rfl) (ps:=[]) (F:=[]) rfl (bv.keep (Bo _)) fun v I6 qs cy ac hq=>?_;obtain⟨rfl,rfl⟩:=hq;simp only[Z3]at cy |-;apply af;simp only[go_sem,sD,rD,iv];refine Og cy [] rfl (fun h=>by cases h) rfl Aw (by rfl) (ps:=[]) (F:=[]) rfl (su (hV.le (Ui ci ac)) (ea.le ac) (Fj I6)) fun v I7 qs bx ap hq=>?_;obtain⟨rfl,t2,dx,a6,ex⟩:=hq;simp only[Z3]at bx |-;rw[PB]at dx;have dy:=Qc dx;subst dy;have a6:zW I7 v ⟨[P6],[]⟩:=a6;obtain⟨wk,wd,rfl,cn,_,cp,_⟩:=id a6;obtain⟨wka,wkc,rfl,_⟩:=id cn;obtain⟨wda,wdc,rfl,_⟩:=id cp;simp only[SB,S9]at a6 cn cp |-;apply af;simp only[go_sem,sD,rD,iv];refine aw ?_;apply RG;simp only[go_sem,sD,rD,iv];refine Pf rfl FI (EW (a6.le (cD bx)) rfl) fun v H2 hv=>?_;obtain⟨⟨d1,rfl,hd1c⟩,rfl⟩:=hv;obtain⟨qa,qc,qa2,qn,rfl,ei,eh⟩:=jX hd1c;apply RG;simp only[go_sem,sD,rD,iv];refine Pf rfl jU (nq (i:=0) hd1c rfl (by decide)) fun v H2 hv=>?_;obtain⟨⟨d2,rfl,hd2c⟩,rfl⟩:=hv;obtain⟨xa,xc,xa2,xn,rfl,cm,cl⟩:=jX hd2c;obtain⟨b0,o0,cs0,rfl,b6,ct⟩:=Sl.load aW.len cm (i:=0) (x:=Oe) rfl;obtain⟨b1,o1,cs1,e1,b5,cs⟩:=Sl.load aW.len cm (i:=1) (x:=KU) rfl;cases e1
 obtain⟨ya,yc,ya2,yn,rfl,ee,cj⟩:=jX b6;obtain⟨za,zc,za2,zn,rfl,ed,ec⟩:=jX b5;have m1:=ct.get (i:=1) rfl;have m5:=ct.sub 5 2 (by simp);have w1:=cs.get (i:=1) rfl;have w2:=cs.get (i:=2) rfl;rw[jl]at cj cl w1 w2;apply RG;simp only[go_sem,sD,rD,iv];refine ax mixed [0,1,2,3,4,5,6,7,8,9,10,11,12,13,14,15,16,17,18,19,20,21,22,23,24,25,26,27,28,29,30,31,32,33,34,35,36,37,38,39,40,41,42,43,44,45,46,47,48,49,50,51,52,53,54,55,56,57,58,59] [26,34,43,51] [] (by kernel_rfl) rfl ?_;apply af;simp only[go_sem,sD,rD,iv];refine P7 (l:=[.string ⟨⟨[105,110,116]⟩⟩]) rfl (by simpa using m1) (.inr ⟨rz,rfl⟩) ?_;apply af;simp only[go_sem,sD,rD,iv];refine P7 (l:=[sD ya2 yn kA,rD kA]) (v:=.agg #[sD ya2 yn kA,rD kA]) rfl (by simpa using m5) (.inl ⟨oQ,rfl⟩) ?_;apply af;simp only[go_sem,sD,rD,iv];refine Og bx [] rfl (fun h=>by cases h) rfl z8 (by rfl) (ps:=[]) (F:=[]) rfl (bv.keep (Bn cj (a5.le (Ui aj (Ui an (Ui am (Ui ac ap))))))) fun v8 I8 qs ak aa hq=>?_;obtain⟨rfl,rfl⟩:=hq;simp only[Z3]at ak |-;apply af;simp only[go_sem,sD,rD,iv];refine P7 (l:=[.string ⟨⟨[98,111,111,108]⟩⟩]) rfl (cellsU ak (.head _) (by simpa using w1.le aa)) (.inr ⟨rz,rfl⟩) ?_;apply af;simp only[go_sem,sD,rD,iv];refine P7 (l:=[.int .i64 4]) rfl (cellsU ak (.head _) (by simpa using w2.le aa)) (.inr ⟨mF,rfl⟩) ?_;apply af;simp only[go_sem,sD,rD,iv];refine Og ak [] rfl (fun h=>by cases h) rfl GY (by rfl) (ps:=[]) (F:=[]) rfl (bv.keep (Fs (cl.le aa))) fun v9 I9 qs a4 a0 hq=>?_;obtain⟨rfl,rfl⟩:=hq;simp only[Z3]at a4 |-;apply af;simp only[go_sem,sD,rD,iv];refine aw ?_;apply RG;simp only[go_sem]
 exact ai rfl a4 (r:=[.bool true]) rfl (Ui ci (Ui ac (Ui ap (Ui aa a0)))) ⟨rfl,rfl⟩
end Go.Proofs.YtfaclfkpnmcmlaaGreatDoor
