import Derived.Test.YtfaclfkpnmcmlaaGreatDoorJ19
import Derived.Test.YtfaclfkpnmcmlaaGreatDoorJ25
set_option maxHeartbeats 8000000
set_option linter.all false
open Go.Proofs.Tryz hiding f8
namespace Go.Proofs.YtfaclfkpnmcmlaaGreatDoor
open Go Go.Sx Dg Syn
def z7:ax prog 106:=⟨_,func106,rfl,rfl⟩
variable{F:Nat->al->Prop}
def ul{w:T}(n:M):VN F w n<->(1<=n.kind/\n.kind<=19)/\lq F n.kind n.text/\(n.cond.ok 0/\n.cond≠ff/\np n.cond w)/\(-1<=n.tok/\n.tok<1099511627776/\(n.tok=-1<->n.kind=1))/\(n.kids.map M.key).Pairwise (fun a b=>jU a b=true)/\(∀m∈n.kids,xw n.kind m)/\n.kids.Pairwise (wz n.kind)/\(∀(i:Nat) r,(rl n.kind)[i]?=some r->r.1=0->∀c,n.cond.at' c=true->∃m∈n.kids,m.slot=(i:Int)/\m.cond.at' c=true)/\VL F n.cond n.kids:=by cases n;exact Iff.rfl
def Dv(n:M):sX n=(n.tok,n.cond)::iF n.kids:=by cases n;rfl
variable{I:PH}
def pA.le{J:PH}{L:List (Int×T)}{S:Value->Value->Prop}(h:pA I L S)(k:I.le J):pA J L S:=fun y u hs=>let ⟨o,t,e,hr,ha⟩:=h y u hs;⟨o,t,e,hr.le k,ha⟩
def vS(nb:List Value)(e lev:Nat)(a b c:Value)(d i:Nat):St:=⟨dn 190 [(2,.v (E lev)),(3,.v (.map (some e))),(4,.p 4 0),(8,.v (.bool false)),(9,.v a),(10,.v b),(86,.v c),(87,.v (E d)),(88,.v (E i))],[⟨4,60,nb⟩]⟩
def LF(n:M)(r:Nat)(L:List (Int×T))(a:Value)(b:PH)(i:Nat)(H:PH):Prop:=∃I Z A,H=U [I,Z,A]/\Dj [I,Z,A]/\b.le I/\i<=n.kids.length/\pz I Z r (L++(n.tok,n.cond)::iF (n.kids.take i))/\qX I A a (oX (rl n.kind).length (n.kids.take i))
def sf(nb mb:List Value)(key:Nat)(e lev:Nat)(a b c:Value)(d i:Nat):St:=⟨dn 190 [(2,.v (E lev)),(3,.v (.map (some e))),(4,.p 4 0),(8,.v (.bool false)),(9,.v a),(10,.v b),(12,.p 12 0),(86,.v c),(87,.v (E d)),(88,.v (E i)),(key,.v (.bool false))],[⟨4,60,nb⟩,⟨12,60,mb⟩]⟩
def yI(nb:List Value)(a b:Value)(n i:Nat):St:=⟨dn 190 [(4,.p 4 0),(8,.v (.bool false)),(10,.v b),(169,.v a),(170,.v (E n)),(171,.v (E i))],[⟨4,60,nb⟩]⟩
def XB(n:M)(r:Nat)(L:List (Int×T))(a:Value)(b:PH)(i:Nat)(H:PH):Prop:=∃I Z A,H=U [I,Z,A]/\Dj [I,Z,A]/\b.le I/\i<=(rl n.kind).length/\pz I Z r (L++sX n)/\qX I A a (oX (rl n.kind).length n.kids)
variable{k i:Nat}
def Vd{r:Nat×List Nat}(h:(rl k)[i]?=some r):r.2.length<2^40:=by
 have key:∀l:List (Nat×List Nat),(l.all fun r=>decide (r.2.length<100))=true->l[i]?=some r->r.2.length<2^40:=fun l b hi=>by have:=List.all_eq_true.1 b r (cY hi);have:=ng this;omega
 refine key _ ?_ h;rcases aI k 20 with a|a
 .exact(by decide:∀k,k<20->((rl k).all fun r=>decide (r.2.length<100))=true) k a
 .have:rl k=[]:=by
   unfold rl
   repeat rw[ab O]
  rw[this];rfl
theorem Xw:∀(k:Nat) {n:M},aO n.kids<k->∀{I Z:PH} {cn:List Value} {vw:Value} {w:T} {r:Nat} {L:List (Int×T)} {lev:Nat},ae I cn n->bU I vw w->VN FX w n->ip I->lev+mD n<=16385->pz I Z r L->(L++sX n).Pairwise tQ->
  aT prog 106 #[.agg cn.toArray,vw,E lev,.map (some r)] I [Z] fun res I2 qs=>res=.bool true/\∃M2,qs=[M2]/\pz I2 M2 r (L++sX n):=by
 intro k
 induction k with
 |zero=>intro n h;omega
 |succ k ih=>
 intro n hk I Z cn vw w r L lev hN hW hv hV fb hM cl hd;obtain⟨vk,na,nk,rfl,G,aa,cp⟩:=hN.shape;obtain⟨ka,kc,rfl,_⟩:=id aa;obtain⟨wa,wk,rfl⟩:=hW.shape2;obtain⟨⟨em,el⟩,c3,⟨cy,e7,c2⟩,⟨e6,e5,ek⟩,cf,dw,c6,dd,bc⟩:=(ul n).1 hv;obtain⟨c3,e0⟩:=Xi c3;have ga:=pJ n;refine aP 190 func106 fun w0=>?_
 try simp only[sD,rD,E]
 have f1:decide ((lev:Int)>16384)=false:=cd O;have f2:decide ((n.kind:Int)<1)=false:=cd O;have f3:decide ((n.kind:Int)>19)=false:=cd O;apply RG;simp only[go_sem,sD,rD,E,f1,f2,f3];refine au hd [0] [] [Z] rfl Py rfl (TK e0 hV ⟨em,el⟩ c3) ?_;rintro v1 I1 qs ex a1⟨rfl,rfl⟩;simp only[Z3]at ex |-;refine cv ?_;refine X4 rfl iG (iE G) ?_;rintro v H2⟨rfl,rfl⟩;have f4:decide (n.cond=.lf false)=false:=cd e7;refine dP f4 ?_;refine au ex [0] [] [Z] rfl Pz rfl (XJ (G.le a1) (hW.le a1)) ?_;rintro v2 I2 qs dT dv⟨rfl,rfl⟩;simp only[Z3]at dT |-;have f5:decide (n.cond.and w.not=.lf false)=true:=bl (XK cy hW.1 c2);have f6:decide (n.tok < -1)=false:=cd O;obtain⟨q,q1,q2⟩:∃q,(n.tok == -1)=q/\((n.kind:Int) == 1)=q:=by
  refine⟨_,rfl,?_⟩;by_cases e:n.kind=1
  .rw[ek.2 e,e];rfl
  .have:¬n.tok=-1:=fun h=>e (ek.1 h);rw[beq_eq_false_iff_ne.2 this,beq_eq_false_iff_ne.2 O]
 have k2:=D a1 dv;obtain⟨S,c0,hS⟩:=hM.le k2;obtain⟨xa,xk,tt0,c7,b4,d4⟩:=WQ hS n.tok;have a4:=SA e6 e5;apply RG;simp only[go_sem,sD,rD,E,f5,f6,q1,q2];refine tX (.bool false) rfl rfl (fun w _=>by cases q<;>kernel_rfl) ?_;refine cv ?_;refine L5 (by exact K3) (by exact D1) (by exact B0) rfl rfl rfl rfl (c0.atU dT (by simp)) (by exact a4) c7 ?_;refine cv ?_;refine au dT [0] [] [Z] rfl Ac rfl (AD b4 (G.le k2)) ?_;rintro v3 I3 qs dx a0⟨rfl,rfl⟩;simp only[Z3]at dx |-;have f7:decide (tt0.and n.cond=.lf false)=true:=bl (zx b4.1 cy fun c ⟨h1,h2⟩=>by obtain⟨p,hp,e,h3⟩:=d4 c h1;exact(List.pairwise_append.1 cl).2.2 p hp (n.tok,n.cond) (by rw[Dv];exact .head _) e c ⟨h3,h2⟩)
 have k3:=D k2 a0;apply RG;simp only[go_sem,sD,rD,E,f7,cP];refine bE [0,1,2,3,4,5,6,7,8,9,10] [6] [] ?_;refine cF ?_;refine Mi (by exact K3) (by exact D1) (by exact B0) rfl rfl rfl rfl rfl (c0.atU dx (by simp)) (by exact a4) c7 ?_;refine cF ?_;refine cE dx [0] [] [Z] rfl oC rfl (oL (b4.le a0) (G.le k3)) ?_;rintro v4 I4 qs et ca⟨rfl,ei⟩;obtain⟨ya,yk,rfl⟩:=ei.shape2;simp only[Z3]at et |-;refine cF ?_;refine Ct (by exact K3) (by exact D1) (key:=.int .i64 n.tok) (v:=.agg #[sD ya yk (tt0.or n.cond),rD (tt0.or n.cond)]) et rfl rfl rfl (.inl rfl) rfl rfl rfl c0 a4 fun M5 fs ea=>?_;have ez:=pA.put hS (D a0 ca) b4.1 cy ei d4;have ea:pz I4 M5 r (L++[(n.tok,n.cond)]):=⟨_,ea,ez⟩;clear ez hS c0 c7 b4 d4 hM;refine cF ?_;apply aL;refine cv ?_;refine au fs [0] [] [M5] rfl PA rfl (Vh ⟨em,el⟩) ?_;rintro v6 I6 qs es b8⟨rfl,d5⟩;obtain⟨ra,rc,rfl,_⟩:=id d5;simp only[Z3]at es |-;have e3:=Ve n.kind;refine cv ?_;refine L7 es (by exact VJ) (by exact B0) rfl rfl rfl rfl O O fun sb er=>?_;have ed:=Uq (I:=I6) (b:=sb) e3;rw[<-VP]at ed;have k6:=D k3 (D ca b8);generalize sg sb (.cells (madeCells (Value.agg #[.slice none 0 0,.int .i64 0]).cells ((rl n.kind).length*2)) 50 (0,0))=A0 at ed er |-;have fz:=ea.le b8;refine cv ?_;refine aj er [1,0] fun fr=>?_
 apply il (fun i=>n.kids.length-i) (vS [.int .u8 n.kind,.string ⟨⟨n.text⟩⟩,.int .i64 n.tok,.int .i64 n.slot,.slice ka n.kids.length kc,sD na nk n.cond,rD n.cond] r lev (.slice ra (rl n.kind).length rc) (.slice (some ⟨sb,0,none⟩) (rl n.kind).length (rl n.kind).length) (.slice ka n.kids.length kc) n.kids.length) (LF n r L (.slice (some ⟨sb,0,none⟩) (rl n.kind).length (rl n.kind).length) I6) (fun i H=>i=n.kids.length/\LF n r L (.slice (some ⟨sb,0,none⟩) (rl n.kind).length (rl n.kind).length) I6 i H) 0
 .exact ak
 .exact(by simp only[go_sem,Y,vS,sD,rD,E])
 .exact⟨I6,M5,A0,rfl,fr,aC _,aF _,fz,ed⟩
 .rintro i H ⟨I7,M7,A7,rfl,a6,o,hi,bs,cr⟩ P ci;simp only[vS];rcases aI i n.kids.length with B|fh
  rotate_left
  .have:i=n.kids.length:=by omega
   subst this;have ee:decide (((n.kids.length:Nat):Int)<(n.kids.length:Int))=false:=by simp
   apply cD 7;simp only[go_sem,ee,E];exact ci n.kids.length _ _ ak (by simp only[go_sem,Y,vS]) ⟨rfl,I7,M7,A7,rfl,a6,o,aR _,bs,cr⟩
  have ee:=Z5 i n.kids.length;have fA:=n7 cp B;obtain⟨m,b7⟩:∃m,n.kids[i]?=some m:=⟨_,aZ B⟩;have bb:=cY b7;obtain⟨s,cA,Q,y,e8⟩:=dw m bb;have ef:=(List.getElem?_eq_some_iff.1 y).1;obtain⟨b,off,cs,ev,d2,ap⟩:=Sl.load ae.len (bu.le aa (D k6 o)) b7;cases ev
  obtain⟨vkm,ma,mk,rfl,b3,a3,ey⟩:=d2.shape;obtain⟨kma,kmc,rfl,_⟩:=id a3;rw[cA]at d2 ap;have fc:m.key=⟨(s:Int),m.tok,m.kind,m.text⟩:=by unfold M.key;rw[cA]
  refine dP ee ?_;refine⟨O,?_⟩;refine X5 (l:=[.int .u8 m.kind,.string ⟨⟨m.text⟩⟩,.int .i64 m.tok,.int .i64 s,.slice kma m.kids.length kmc,sD ma mk m.cond,rD m.cond]) (v:=.agg #[.int .u8 m.kind,.string ⟨⟨m.text⟩⟩,.int .i64 m.tok,.int .i64 s,.slice kma m.kids.length kmc,sD ma mk m.cond,rD m.cond]) rfl (cellsU a6 (.head _) ap) (.inl ⟨b9,rfl⟩) ?_;refine cv ?_;obtain⟨rb,roff,rcs,ev,aq,N⟩:=Sl.load og.len (gL.le d5 o) y;cases ev
  obtain⟨vkk,rfl,c1⟩:=id aq;obtain⟨kka,kkc,rfl,_⟩:=id c1;apply sK (fun _:Unit=>sf [.int .u8 n.kind,.string ⟨⟨n.text⟩⟩,.int .i64 n.tok,.int .i64 n.slot,.slice (some ⟨b,off,none⟩) n.kids.length kc,sD na nk n.cond,rD n.cond] [.int .u8 m.kind,.string ⟨⟨m.text⟩⟩,.int .i64 m.tok,.int .i64 s,.slice kma m.kids.length kmc,sD ma mk m.cond,rD m.cond] 119 r lev (.slice (some ⟨rb,roff,none⟩) (rl n.kind).length rc) (.slice (some ⟨sb,0,none⟩) (rl n.kind).length (rl n.kind).length) (.slice (some ⟨b,off,none⟩) n.kids.length kc) n.kids.length i) (fun _ H=>∃I,H=U [I,M7,A7]/\Dj [I,M7,A7]/\I7.le I)
  .intro hg;have f94:decide ((s:Int)<0)=false:=cd O;have f98:decide ((s:Int)>=((rl n.kind).length:Int))=false:=cd O;refine bE [0,1,2,3,4,5,6,7,8,9,10,11,12,13,14,15,16,17,18,19,21,20,22,23,24,25,26] [19] [] ?_;rcases jt i with h0|h0
   .have f105:decide ((i:Int)>0)=false:=cd O;apply bd;simp only[go_sem,E,sD,rD,f94,f98,f105];apply aL;exact hg () _ _ ⟨I7,rfl,a6,aC _⟩ ak (by simp only[go_sem,Y,sf,E,sD,rD])
   obtain⟨j,hj⟩:∃j,i=j+1:=⟨i-1,O⟩;have f105:decide ((i:Int)>0)=true:=bl O;have ej:IntKind.i64.wrap ((i:Int)-1)=(j:Int):=by
    rw[show (i:Int)-1=(j:Int) by omega];rcases j with _|j'
    .exact wrap64 O
    .exact n7 cp O
   obtain⟨F,dc⟩:∃F,n.kids[j]?=some F:=⟨_,aZ O⟩;obtain⟨b2,off2,cs2,ev2,d1,a7⟩:=Sl.load ae.len (bu.le aa (D k6 o)) dc;cases ev2
   obtain⟨vkp,pa,pk,rfl,eg,a2,_⟩:=d1.shape;obtain⟨kpa,kpc,rfl,_⟩:=id a2;apply bd;simp only[go_sem,E,sD,rD,f94,f98,f105,ej];refine⟨O,?_⟩;refine X6 (l:=[.int .u8 F.kind,.string ⟨⟨F.text⟩⟩,.int .i64 F.tok,.int .i64 F.slot,.slice kpa F.kids.length kpc,sD pa pk F.cond,rD F.cond]) (v:=.agg #[.int .u8 F.kind,.string ⟨⟨F.text⟩⟩,.int .i64 F.tok,.int .i64 F.slot,.slice kpa F.kids.length kpc,sD pa pk F.cond,rD F.cond]) rfl (cellsU a6 (.head _) a7) (.inl ⟨b9,rfl⟩) ?_;refine cF ?_;refine cE a6 [0,1] [] [M7,A7] rfl xf rfl (br.keep (xv _ _ _ _ _ _ _ _ _ _ _ _)) ?_;rintro va Ia qs C f⟨rfl,rfl⟩;simp only[Z3]at C |-;refine cF ?_;refine cE C [0,1] [] [M7,A7] rfl xf rfl (br.keep (xv _ _ _ _ _ _ _ _ _ _ _ _)) ?_;rintro vb Ib qs V R⟨rfl,rfl⟩;simp only[Z3]at V |-;refine cF ?_;refine cE V [0,1] [] [M7,A7] rfl HG rfl (G1 F.key ⟨(s:Int),m.tok,m.kind,m.text⟩ Ib) ?_;rintro vc Ic qs cm ac⟨rfl,rfl⟩;simp only[Z3]at cm |-;have f117:decide (An F.key ⟨(s:Int),m.tok,m.kind,m.text⟩>=0)=false:=by
    have h1:jU F.key m.key=true:=by
     have:=List.pairwise_iff_getElem.1 cf j i (by rw[eN];omega) (by rw[eN];exact B) O;rw[List.getElem_map,List.getElem_map]at this;have e1:n.kids[j]'(by (omega))=F:=by rw[aZ O]at dc;exact cW dc
     have e2:n.kids[i]=m:=by rw[aZ B]at b7;exact cW b7
     rw[e1,e2]at this;exact this
    rw[<-II,fc]at h1;have:=ng h1;exact cd O
   apply bd;simp only[go_sem,E,sD,rD,f117];apply aL;exact hg () _ _ ⟨Ic,rfl,cm,D f (D R ac)⟩ ak (by simp only[go_sem,Y,sf,E,sD,rD])
  rintro⟨⟩ H ⟨I8,rfl,u,d⟩;simp only[sf];refine cv ?_;refine⟨O,?_⟩;refine X5 (l:=[.int .u8 Q.1,.slice kka Q.2.length kkc]) (v:=.agg #[.int .u8 Q.1,.slice kka Q.2.length kkc]) rfl (cellsU u (.head _) (N.le d)) (.inl ⟨CJ,rfl⟩) ?_;refine cv ?_;have k8:=D k6 (D o d);have d0:=ae.le d2 d;have an:=b3.le d;obtain⟨g,cap,cur,cc,ev,eA,b1,cB,d3,t,da⟩:=Ow.part (qX.le cr d) (fun{I} c a h=>lD.len c a h) (fun{I J c a} h k=>lD.le h k) (Bz ef (n.kids.take i)) 0 2 O;obtain⟨X,W,rfl,b0⟩:=id cB;rw[yi]at ev b1;cases ev
  subst eA;simp only[gV,lz,lB]at t;have f134:∀{z:Bool},((Q.1:Int) != 2)=z->((Q.1:Int) != 2)=z:=fun h=>h;have fa:np m.cond n.cond:=((ul m).1 (sN.1 bc m bb)).2.2.1.2.2;have dk:=((ul m).1 (sN.1 bc m bb)).2.2.1.1;have f0:=ry bb;have fC:=vK bb;have elev:=Z7 lev;have c4:n.kids.take (i+1)=n.kids.take i++[m]:=ji b7;have a5:L++(n.tok,n.cond)::iF (n.kids.take (i+1))=(L++(n.tok,n.cond)::iF (n.kids.take i))++sX m:=by rw[c4,Dt];simp[iF]
  have cj:((L++(n.tok,n.cond)::iF (n.kids.take i))++sX m).Pairwise tQ:=by
   rw[<-a5];refine cl.sublist (List.Sublist.append (List.Sublist.refl L) ?_);rw[Dv];refine List.Sublist.cons_cons _ ?_
   conv=>rhs;rw[<-tL (i+1) n.kids,Dt]
   exact List.sublist_append_left _ _
  have recur {J:PH} (hJ:I8.le J):=ih (n:=m) O (ae.le d0 hJ) (G.le (D k8 hJ)) (sN.1 bc m bb) (hV.le (D k8 hJ)) (lev:=lev+1) O (bs.le (D d hJ)) cj;apply sK (fun _:Unit=>sf [.int .u8 n.kind,.string ⟨⟨n.text⟩⟩,.int .i64 n.tok,.int .i64 n.slot,.slice (some ⟨b,off,none⟩) n.kids.length kc,sD na nk n.cond,rD n.cond] [.int .u8 m.kind,.string ⟨⟨m.text⟩⟩,.int .i64 m.tok,.int .i64 s,.slice kma m.kids.length kmc,sD ma mk m.cond,rD m.cond] 155 r lev (.slice (some ⟨rb,roff,none⟩) (rl n.kind).length rc) (.slice (some ⟨sb,0,none⟩) (rl n.kind).length (rl n.kind).length) (.slice (some ⟨b,off,none⟩) n.kids.length kc) n.kids.length i) (fun _ H=>∃I M',H=U [I,M',sg sb (.cells cur 50 (0,0))]/\Dj [I,M',sg sb (.cells cur 50 (0,0))]/\I8.le I/\pz I M' r (L++(n.tok,n.cond)::iF (n.kids.take (i+1))))
  .intro hg;refine bE [0,1,2,3,4,5,6,7,8,9,10,11,12,13,14,15,16,17,18,19,20,21,22,23,24,25,26,27,28,29,30] [15] [] ?_;refine cF ?_;refine cE u [0,1] [] [M7,_] rfl PB rfl (br.keep (Sv (gk.le c1 d) (Vd y) e8)) ?_;rintro va Ia qs C f⟨rfl,rfl⟩;simp only[Z3]at C |-;cases am:((Q.1:Int) != 2)
   .apply bd;simp only[go_sem,E,sD,rD,cP,am,elev];refine cE C [0,1] [M7] [_] rfl z7 rfl (recur f) ?_;rintro vb Ib qs V R⟨rfl,Mb,rfl,d7⟩;simp only[Z3]at V |-;apply bd;simp only[go_sem,E,sD,rD,cP];apply aL;exact hg () _ _ ⟨Ib,Mb,rfl,V,D f R,by rw[a5];exact d7⟩ ak (by simp only[go_sem,Y,sf,E,sD,rD])
   .apply bd;simp only[go_sem,E,sD,rD,cP,am,elev];refine⟨O,?_⟩;refine X6 (l:=[sD X W (gU (n.kids.take i) s),rD (gU (n.kids.take i) s)]) (v:=.agg #[sD X W (gU (n.kids.take i) s),rD (gU (n.kids.take i) s)]) rfl (by simpa using cellsU C (.tail _ (.tail _ (.head _))) t) (.inl ⟨iB,rfl⟩) ?_;refine cF ?_;refine cE C [0,1] [] [M7,_] rfl Ac rfl (AD (b0.le f) (an.le f)) ?_;rintro vc Ic qs cm ac⟨rfl,rfl⟩;simp only[Z3]at cm |-;have f143:decide ((gU (n.kids.take i) s).and m.cond=.lf false)=true:=bl (zx b0.1 dk fun c ⟨h1,h2⟩=>by
     rw[(E6 (n.kids.take i) s fun x hx=>((ul x).1 (sN.1 bc x (ly hx))).2.2.1.1).2 c,List.any_eq_true]at h1;obtain⟨x,hx,h3⟩:=h1;rw[cX,dA]at h3;have bx:∀x∈n.kids.take i,wz n.kind x m:=by
      have h4:(n.kids.take i++[m]).Pairwise (wz n.kind):=by rw[<-c4];exact c6.sublist (List.take_sublist _ _)
      exact fun x hx=>(List.pairwise_append.1 h4).2.2 x hx m (.head _)
     exact bx x hx s Q y (fun e=>by rw[e]at am;cases am) h3.1 cA c ⟨h3.2,h2⟩)
    apply bd;simp only[go_sem,E,sD,rD,f143,cP,elev];refine cE cm [0,1] [M7] [_] rfl z7 rfl (recur (D f ac)) ?_;rintro vb Ib qs V R⟨rfl,Mb,rfl,d7⟩;simp only[Z3]at V |-;apply bd;simp only[go_sem,E,sD,rD,cP];apply aL;exact hg () _ _ ⟨Ib,Mb,rfl,V,D (D f ac) R,by rw[a5];exact d7⟩ ak (by simp only[go_sem,Y,sf,E,sD,rD])
  rintro⟨⟩ H ⟨I9,M9,rfl,K,A,fv⟩;simp only[sf];refine cv ?_;refine bE [0,1,2,3,4,5,6,7,8,9,10,11,12] [7] [] ?_;refine cF ?_;refine⟨O,?_⟩;refine X6 (l:=[sD X W (gU (n.kids.take i) s),rD (gU (n.kids.take i) s)]) (v:=.agg #[sD X W (gU (n.kids.take i) s),rD (gU (n.kids.take i) s)]) rfl (by simpa using cellsU K (.tail _ (.tail _ (.head _))) t) (.inl ⟨iB,rfl⟩) ?_;refine cF ?_;refine cE K [0,1] [] [M9,_] rfl oC rfl (oL (b0.le A) (an.le A)) ?_;rintro vd Id qs eq aS⟨rfl,eh⟩;obtain⟨za,zk,rfl⟩:=eh.shape2;simp only[Z3]at eq |-;refine cF ?_;refine⟨O,?_⟩;refine iV eq [1,0] fun fn=>?_;refine cT fn rfl rfl rfl rfl rfl rfl (by exact qC) (by simp;omega) fun fl=>?_;refine cF ?_;apply aL;refine dP fA ?_;refine aj fl [1,0] fun fi=>?_;have cx:=da Id [sD za zk ((gU (n.kids.take i) s).or m.cond),rD ((gU (n.kids.take i) s).or m.cond)] ((gU (n.kids.take i) s).or m.cond) (D A aS) (by simp) ⟨za,zk,by simp[bL,sD,rD],eh⟩;rw[<-VQ ef _ m cA,<-c4]at cx;refine P (i+1) _ _ O ak (by simp only[go_sem,Y,vS,E,sD,rD]) ⟨Id,M9,_,rfl,fi,D o (D d (D A aS)),B,fv.le aS,cx⟩
 rintro i H ⟨rfl,I7,M7,A7,rfl,a6,o,_,bs,cr⟩;simp only[vS];rw[dO]at bs cr;rw[<-Dv]at bs;have k7:=D k6 o;refine cv ?_;refine bY (fun i=>(rl n.kind).length-i) (yI [.int .u8 n.kind,.string ⟨⟨n.text⟩⟩,.int .i64 n.tok,.int .i64 n.slot,.slice ka n.kids.length kc,sD na nk n.cond,rD n.cond] (.slice ra (rl n.kind).length rc) (.slice (some ⟨sb,0,none⟩) (rl n.kind).length (rl n.kind).length) (rl n.kind).length) (XB n r L (.slice (some ⟨sb,0,none⟩) (rl n.kind).length (rl n.kind).length) I7) 0 ak (by simp only[go_sem,Y,yI,sD,rD,E]) ⟨I7,M7,A7,rfl,a6,aC _,aF _,bs,cr⟩ ?_;rintro i H ⟨I8,M8,A8,rfl,u,d,hi,d9,ec⟩ P;simp only[yI];rcases aI i (rl n.kind).length with B|fh
 .have ba:decide ((i:Int)<((rl n.kind).length:Int))=true:=bl O;have e1:=Z7 i;obtain⟨Q,y⟩:∃Q,(rl n.kind)[i]?=some Q:=⟨_,aZ B⟩;obtain⟨rb,roff,rcs,ev,aq,N⟩:=Sl.load og.len (gL.le d5 (D o d)) y;cases ev
  obtain⟨vkk,rfl,c1⟩:=id aq;obtain⟨kka,kkc,rfl,_⟩:=id c1;refine dP ba ?_;refine⟨O,?_⟩;refine X5 (l:=[.int .u8 Q.1,.slice kka Q.2.length kkc]) (v:=.agg #[.int .u8 Q.1,.slice kka Q.2.length kkc]) rfl (cellsU u (.head _) N) (.inl ⟨CJ,rfl⟩) ?_;refine cv ?_;refine bE [0,1,2,3,4,5,6,7,8,9,10,11,12] [7] [] ?_;cases a9:((Q.1:Int) == 0)
  .apply bd;simp only[go_sem,E,sD,rD,a9];apply aL;refine dP e1 ?_;exact P (i+1) _ _ O ak (by simp only[go_sem,Y,yI,E,sD,rD]) ⟨I8,M8,A8,rfl,u,d,B,d9,ec⟩
  .have c8:Q.1=0:=by have:=eq_of_beq a9;omega
   have cb:∀x∈n.kids,x.cond.ok 0:=fun x hx=>((ul x).1 (sN.1 bc x hx)).2.2.1.1;have c5:gU n.kids i=n.cond:=by
    refine T.ext (E6 _ _ cb).1 cy fun c=>?_;rw[(E6 _ _ cb).2 c];cases hc:n.cond.at' c with
    |true=>obtain⟨x,hx,h1,h2⟩:=dd i Q y c8 c hc;exact List.any_eq_true.2 ⟨x,hx,by rw[bl h1,h2];rfl⟩
    |false=>refine Bool.eq_false_iff.2 fun h=>?_;obtain⟨x,hx,h1⟩:=List.any_eq_true.1 h;rw[cX]at h1;have:=((ul x).1 (sN.1 bc x hx)).2.2.1.2.2 c h1.2;rw[hc]at this;cases this
   obtain⟨g,cap,cur,cc,ev,eA,b1,_,cB,d3,t,_⟩:=Ow.elem ec (fun{I} c a h=>lD.len c a h) (fun{I J c a} h k=>lD.le h k) (Bz B n.kids);rw[c5]at cB;obtain⟨X,W,rfl,b0⟩:=id cB;rw[yi]at ev b1;cases ev
   subst eA;apply bd;simp only[go_sem,E,sD,rD,a9];refine⟨O,?_⟩;refine X6 (l:=[sD X W n.cond,rD n.cond]) (v:=.agg #[sD X W n.cond,rD n.cond]) rfl (by simpa using cellsU u (.tail _ (.tail _ (.head _))) t) (.inl ⟨iB,rfl⟩) ?_;refine cF ?_;refine cE u [0,1] [] [M8,_] rfl DZ rfl (br.keep (EW b0 (G.le (D k7 d)))) ?_;rintro va Ia qs C f⟨rfl,rfl⟩;simp only[Z3]at C |-;apply bd;simp only[go_sem,E,sD,rD,cP];apply aL;refine dP e1 ?_;exact P (i+1) _ _ O ak (by simp only[go_sem,Y,yI,E,sD,rD]) ⟨Ia,M8,_,rfl,C,D d f,B,d9.le f,qX.le ec f⟩
 .have:i=(rl n.kind).length:=by omega
  subst this;have ba:decide (((rl n.kind).length:Int)<((rl n.kind).length:Int))=false:=by simp
  refine aj u [1,0] fun K=>?_;refine aH (c:=.st _) K fun I9 K A gb=>?_;refine be ba ?_;exact az rfl K (r:=[_]) rfl (D k7 (D d A)) ⟨rfl,M8,rfl,d9.le A⟩
def Qn:ax prog 49:=⟨_,func49,rfl,rfl⟩
def Qo:ax prog 52:=⟨_,func52,rfl,rfl⟩
theorem KZ:(T.subs ff).length=0:=rfl
theorem JU:T.plc (T.subs ff) ff=0:=rfl
def BW(a:Value)(n:Nat)(x:Nat×Option Addr×Nat×T):St:=⟨dn 20 [(2,.p 2 0),(3,.p 3 0),(8,.v a),(9,.v (E n)),(10,.v (E x.1))],[⟨2,50,[.slice none 0 0,E 0]⟩,⟨3,50,[sD x.2.1 x.2.2.1 x.2.2.2,rD x.2.2.2]⟩]⟩
def FQ(l:List M)(a:PH)(x:Nat×Option Addr×Nat×T)(H:PH):Prop:=∃I,H=U [I]/\Dj [I]/\a.le I/\x.1<=l.length/\bU I (.agg #[sD x.2.1 x.2.2.1 x.2.2.2,rD x.2.2.2]) x.2.2.2/\∀c,x.2.2.2.at' c=(l.take x.1).any (·.cond.at' c)
def zy{α:Type}{l:List α}{n:α}(h:l[i]?=some n)(p:α->Bool):(l.take (i+1)).any p=((l.take i).any p || p n):=by rw[md h,List.any_append];simp
variable{t:Tr}{v:Value}
theorem XI(W:j6 I v t):aT prog 49 #[v] I [] fun r A B=>B=[]/\∃S:T,bU A r S/\∀c,S.at' c=t.kids.any (·.cond.at' c):=by
 obtain⟨vk,vd,rfl,J,z,Z,X⟩:=id W;obtain⟨R,Q,rfl,_⟩:=id J;obtain⟨da,dc,rfl,_⟩:=id Z;intro hd;refine aP 20 func49 fun w0=>?_;refine ai ?_;refine X4 rfl sZ (sW _) ?_;rintro v H2⟨rfl,rfl⟩;refine bF ?_;refine bY (fun x=>t.kids.length-x.1) (BW (.slice R t.kids.length Q) t.kids.length) (FQ t.kids I) (0,none,0,ff) ak (by simp only[go_sem,Y,BW,E,sD,rD,KZ,JU]) ⟨I,rfl,hd,aC _,aF _,x5 I,fun c=>rfl⟩ ?_;rintro⟨i,sa,P,S⟩ H ⟨I1,rfl,j,a,hi,u,d⟩ f;simp only at hi u d;simp only[BW];rcases aI i t.kids.length with g|V
 .have m:=Z5 i t.kids.length;have e1:=n7 z g;obtain⟨n,G⟩:∃n,t.kids[i]?=some n:=⟨_,aZ g⟩;obtain⟨b,off,cs,ev,y,k⟩:=Sl.load ae.len (bu.le J a) G;cases ev
  obtain⟨N,F,C,rfl,e,h,_⟩:=y.shape;obtain⟨p,o,rfl,_⟩:=id h;refine dP m ?_;refine⟨O,?_⟩;refine X5 (l:=[.int .u8 n.kind,.string ⟨⟨n.text⟩⟩,.int .i64 n.tok,.int .i64 n.slot,.slice p n.kids.length o,sD F C n.cond,rD n.cond]) (v:=.agg #[.int .u8 n.kind,.string ⟨⟨n.text⟩⟩,.int .i64 n.tok,.int .i64 n.slot,.slice p n.kids.length o,sD F C n.cond,rD n.cond]) rfl (cellsU j (.head _) k) (.inl ⟨b9,rfl⟩) ?_;refine cv ?_;refine fF j rfl oC (oL u e) ?_;rintro v2 A B w s⟨rfl,q⟩;obtain⟨L,K,rfl⟩:=q.shape2;refine dP e1 ?_;exact f (i+1,L,K,S.or n.cond) _ _ bh ak (by simp only[go_sem,Y,BW,E,sD,rD]) ⟨A,rfl,w,D a s,g,q,fun c=>by simp only;rw[zy G,T.or_at u.1 e.1,d]⟩
 .have:i=t.kids.length:=by omega
  subst this;have m:decide (((t.kids.length:Nat):Int)<(t.kids.length:Int))=false:=by simp
  rw[dO]at d;refine dP m ?_;exact az rfl j (r:=[.agg #[sD sa P S,rD S]]) (by simp only[results49,go_sem,E,sD,rD]) a ⟨rfl,S,u,d⟩
def vR(a b:Value)(n:Nat)(x:Nat×Option Addr×Nat×T):St:=⟨dn 91 [(1,.p 1 0),(2,.v (.bool false)),(3,.p 3 0),(10,.v a),(11,.v (E n)),(12,.v (E x.1))],[⟨1,36,[a,b]⟩,⟨3,50,[sD x.2.1 x.2.2.1 x.2.2.2,rD x.2.2.2]⟩]⟩
def BQ(a b:Value)(nb:List Value)(n:Nat)(x:Nat×Option Addr×Nat×T):St:=⟨dn 91 [(1,.p 1 0),(2,.v (.bool false)),(3,.p 3 0),(5,.p 5 0),(10,.v a),(11,.v (E n)),(12,.v (E x.1)),(35,.v (.bool false))],[⟨1,36,[a,b]⟩,⟨3,50,[sD x.2.1 x.2.2.1 x.2.2.2,rD x.2.2.2]⟩,⟨5,60,nb⟩]⟩
def BS(b a:Value)(n:Nat)(x:Nat×Option Addr×Nat×T):St:=⟨dn 91 [(1,.p 1 0),(2,.v (.bool false)),(3,.p 3 0),(40,.v a),(41,.v (E n)),(42,.v (E x.1))],[⟨1,36,[b,a]⟩,⟨3,50,[sD x.2.1 x.2.2.1 x.2.2.2,rD x.2.2.2]⟩]⟩
def BR(b a:Value)(nb:List Value)(n:Nat)(x:Nat×Option Addr×Nat×T):St:=⟨dn 91 [(1,.p 1 0),(2,.v (.bool false)),(3,.p 3 0),(7,.p 7 0),(40,.v a),(41,.v (E n)),(42,.v (E x.1)),(85,.v (.bool false))],[⟨1,36,[b,a]⟩,⟨3,50,[sD x.2.1 x.2.2.1 x.2.2.2,rD x.2.2.2]⟩,⟨7,80,nb⟩]⟩
def LD(t:Tr)(a:PH)(x:Nat×Option Addr×Nat×T)(H:PH):Prop:=∃I,H=U [I]/\Dj [I]/\a.le I/\x.1<=t.diags.length/\bU I (.agg #[sD x.2.1 x.2.2.1 x.2.2.2,rD x.2.2.2]) x.2.2.2/\∀c,x.2.2.2.at' c=(t.kids.any (·.cond.at' c) || (t.diags.take x.1).any (·.cond.at' c))
def Gz{w:T}{m:Nat}(hv:VT F w m t){d:aG}(hd:t.diags[i]?=some d){S:T}(f:S.ok 0)(j:∀c,S.at' c=(t.kids.any (·.cond.at' c) || (t.diags.take i).any (·.cond.at' c))):d.cond.and S=.lf false:=by
 refine zx (hv.sort.2 d (cY hd)).1 f fun c ⟨h1,h2⟩=>?_;rw[j c,sr]at h2;have ha:=hv.apart;rw[List.pairwise_append]at ha;rcases h2 with h2|h2
 .obtain⟨n,g,h3⟩:=List.any_eq_true.1 h2;exact ha.2.2 n.cond (List.mem_map.2 ⟨n,g,rfl⟩) d.cond (List.mem_map.2 ⟨d,cY hd,rfl⟩) c ⟨h3,h1⟩
 .obtain⟨e,h,h3⟩:=List.any_eq_true.1 h2;have h4:((t.diags.take i++[d]).map (·.cond)).Pairwise fun a b=>∀c,¬(a.at' c=true/\b.at' c=true):=by rw[<-md hd];exact ha.2.1.sublist ((List.take_sublist _ _).map _)
  rw[mf,List.pairwise_append]at h4;exact h4.2.2 e.cond (List.mem_map.2 ⟨e,h,rfl⟩) d.cond (by simp) c ⟨h3,h1⟩
theorem Xv{w:T}{m:Nat}(hV:ip I)(hT:j6 I v t)(hv:VT FX w m t)(hm:m<=16000):aT prog 52 #[v] I [] fun r I2 W=>W=[]/\r=.bool true:=by
 obtain⟨vk,vd,rfl,hK,b7,hD,bb⟩:=id hT;obtain⟨ka,kc,rfl,_⟩:=id hK;obtain⟨da,dc,rfl,_⟩:=id hD;intro hd;refine aP 91 func52 fun w0=>?_;refine ai ?_;refine X4 rfl sZ (sW _) ?_;rintro v H2⟨rfl,rfl⟩;refine bF ?_;apply il (fun x=>t.kids.length-x.1) (vR (.slice ka t.kids.length kc) (.slice da t.diags.length dc) t.kids.length) (FQ t.kids I) (fun x H=>x.1=t.kids.length/\FQ t.kids I x H) (0,none,0,ff)
 .exact ak
 .exact(by simp only[go_sem,Y,vR,E,sD,rD,KZ,JU])
 .exact⟨I,rfl,hd,aC _,aF _,x5 I,fun c=>rfl⟩
 .rintro⟨i,sa,sk,S⟩ H ⟨I1,rfl,F,o,hi,V,f⟩ s am;simp only at hi V f;simp only[vR];rcases aI i t.kids.length with a|b1
  rotate_left
  .have:i=t.kids.length:=by omega
   subst this;have a5:decide (((t.kids.length:Nat):Int)<(t.kids.length:Int))=false:=by simp
   apply cD 7;simp only[go_sem,a5,E];exact am (t.kids.length,sa,sk,S) _ _ ak (by simp only[go_sem,Y,vR,E,sD,rD]) ⟨rfl,I1,rfl,F,o,aR _,V,f⟩
  have a5:=Z5 i t.kids.length;have e1:=n7 b7 a;obtain⟨n,hn⟩:∃n,t.kids[i]?=some n:=⟨_,aZ a⟩;obtain⟨a1,bx,bs,b6,a2⟩:i=0/\n.kind=1/\n.slot=0/\VN FX tt n/\(iF [n]).Pairwise tQ:=by
   rcases hv.kids with h|⟨n',h,h1,h2,h3,h4,_⟩
   .rw[h]at a;cases a
   .have a1:i=0:=by rw[h]at a;simp at a;exact a
    subst a1;rw[h]at hn;obtain rfl:n'=n:=by simpa using hn
    exact⟨rfl,h1,h2,h3,h4⟩
  have b3:mD n<=16001:=by have:=ry (cY hn);have:=hv.dep;omega
  obtain⟨b,off,cs,ev,R,z⟩:=Sl.load ae.len (bu.le hK o) hn;cases ev
  obtain⟨vkn,na,nk,rfl,g,ac,_⟩:=R.shape;obtain⟨nka,nkc,rfl,_⟩:=id ac;have f18:decide ((i:Int)>0)=false:=cd O;have f22:((n.kind:Int) != 1)=false:=by rw[bx];rfl
  have f27:(n.slot != 0)=false:=by rw[bs];rfl
  refine dP a5 ?_;refine⟨O,?_⟩;refine X5 (l:=[.int .u8 n.kind,.string ⟨⟨n.text⟩⟩,.int .i64 n.tok,.int .i64 n.slot,.slice nka n.kids.length nkc,sD na nk n.cond,rD n.cond]) (v:=.agg #[.int .u8 n.kind,.string ⟨⟨n.text⟩⟩,.int .i64 n.tok,.int .i64 n.slot,.slice nka n.kids.length nkc,sD na nk n.cond,rD n.cond]) rfl (cellsU F (.head _) z) (.inl ⟨b9,rfl⟩) ?_;refine cv ?_;apply sK (fun _:Unit=>BQ (.slice (some ⟨b,off,none⟩) t.kids.length kc) (.slice da t.diags.length dc) [.int .u8 n.kind,.string ⟨⟨n.text⟩⟩,.int .i64 n.tok,.int .i64 n.slot,.slice nka n.kids.length nkc,sD na nk n.cond,rD n.cond] t.kids.length (i,sa,sk,S)) (fun _ H=>∃I,H=U [I]/\Dj [I]/\I1.le I)
  .intro hg;have fin {J Z:PH} {r:Nat} (hJ:I1.le J) (hM:jv prog Z r 3 (fun _ _=>False)):=Xw (aO n.kids+1) (n:=n) (eO _) (ae.le R hJ) (EP J) b6 (hV.le (D o hJ)) (lev:=1) (r:=r) (Z:=Z) (L:=[]) O ⟨_,hM,fun _ _ h=>h.elim⟩ (by rw[aM];simpa[iF]using a2);refine Cu mixed [0,1,2,3,4,5,6,7,8,9,10,11,12,13] 14 15 [16,17,18] [16,17,18] [] [] rfl rfl ?_;apply nj;simp only[go_sem,E,sD,rD,f18,f22,f27];refine ww ?_ ?_
   .refine cF ?_;refine eY F rfl xh (br.keep (yF _)) ?_;rintro va Ia W P k⟨rfl,rfl⟩;refine cF ?_;refine Cs 3 P rfl rfl fun r Mm q a3=>?_;refine cF ?_;refine cE q [0] [Mm] [] rfl z7 rfl (fin k a3) ?_;rintro vc Ic W u p⟨rfl,Mc,rfl,_⟩;simp only[Z3]at u |-;apply bd;simp only[go_sem,E,sD,rD,cP];apply aL;refine aj u [0] fun y=>?_;refine aH (c:=.st _) y fun I9 y K b8=>?_;exact hg () _ _ ⟨I9,rfl,y,D k (D p K)⟩ ak (by simp only[go_sem,Y,BQ,E,sD,rD])
   .refine cF ?_;refine Cs 3 F rfl rfl fun r Mm P a3=>?_;refine cF ?_;refine cE P [0] [] [Mm] rfl xh rfl (br.keep (yF _)) ?_;rintro va Ib W q A⟨rfl,rfl⟩;simp only[Z3]at q |-;refine cF ?_;refine cE q [0] [Mm] [] rfl z7 rfl (fin A a3) ?_;rintro vc Ic W u p⟨rfl,Mc,rfl,_⟩;simp only[Z3]at u |-;apply bd;simp only[go_sem,E,sD,rD,cP];apply aL;refine aj u [0] fun y=>?_;refine aH (c:=.st _) y fun I9 y K b8=>?_;exact hg () _ _ ⟨I9,rfl,y,D A (D p K)⟩ ak (by simp only[go_sem,Y,BQ,E,sD,rD])
  rintro⟨⟩ H ⟨I2,rfl,Q,e⟩;simp only[BQ];refine dP e1 ?_;exact s (i+1,na,nk,n.cond) _ _ bh ak (by simp only[go_sem,Y,vR,E,sD,rD]) ⟨I2,rfl,Q,D o e,a,g.le e,fun c=>by simp only;rw[zy hn,a1];rfl⟩
 rintro⟨i,sa,sk,S⟩ H ⟨hi,I1,rfl,F,o,_,V,f⟩;simp only at hi V f;subst hi;rw[dO]at f;simp only[vR];refine cv ?_;refine bY (fun x=>t.diags.length-x.1) (BS (.slice ka t.kids.length kc) (.slice da t.diags.length dc) t.diags.length) (LD t I) (0,sa,sk,S) ak (by simp only[go_sem,Y,BS,E,sD,rD]) ⟨I1,rfl,F,o,aF _,V,fun c=>by rw[f];simp⟩ ?_;rintro⟨i,sa,sk,S⟩ H ⟨I2,rfl,Q,e,hi,V,f⟩ s;simp only at hi V f;simp only[BS];rcases aI i t.diags.length with a|b1
 .have a4:=Z5 i t.diags.length;have e1:=n7 bb a;obtain⟨d,C⟩:∃d,t.diags[i]?=some d:=⟨_,aZ a⟩;have a9:=cY C;obtain⟨b,off,cs,ev,R,z⟩:=Sl.load bi.len (SlE.le hD e) C;cases ev
  obtain⟨ea,ek,rfl,g⟩:=id R;obtain⟨ba,bc⟩:=hv.code d a9;have b0:=(hv.sort.2 d a9).2;refine dP a4 ?_;refine⟨O,?_⟩;refine X5 (l:=[.int .u8 d.code,.int .i64 d.tok,sD ea ek d.cond,rD d.cond]) (v:=.agg #[.int .u8 d.code,.int .i64 d.tok,sD ea ek d.cond,rD d.cond]) rfl (cellsU Q (.head _) z) (.inl ⟨gA,rfl⟩) ?_;refine cv ?_;apply sK (fun _:Unit=>BR (.slice ka t.kids.length kc) (.slice (some ⟨b,off,none⟩) t.diags.length dc) [.int .u8 d.code,.int .i64 d.tok,sD ea ek d.cond,rD d.cond] t.diags.length (i,sa,sk,S)) (fun _ H=>∃I,H=U [I]/\Dj [I]/\I2.le I)
  .intro hg;have f49:decide ((d.code:Int)<10)=false:=cd O;have f53:decide ((d.code:Int)>12)=false:=cd O;have f58:decide (d.tok<0)=false:=cd O;have f63:decide (d.cond=.lf false)=false:=cd b0;have f69:decide (d.cond.and S=.lf false)=true:=bl (Gz hv C V.1 f);refine bE [0,1,2,3,4,5,6,7,8,9,10,11,12,13,14,15,16,17,18,19,20,21,22,23,24,25,26,27,28,29,30,31,32,33,34,35,36,37,38] [33] [] ?_;apply bd;simp only[go_sem,E,sD,rD,f49,f53,f58];refine eY Q rfl iG (br.keep (iE g)) ?_;rintro va Ia W P k⟨rfl,rfl⟩;apply bd;simp only[go_sem,E,sD,rD,f63];refine eY P rfl Ac (AD (g.le k) (V.le k)) ?_;rintro vb Ib W q A⟨rfl,rfl⟩;have X:=D k A;rcases jt i with h0|h0
   .have f73:decide ((i:Int)>0)=false:=cd O;apply bd;simp only[go_sem,E,sD,rD,f69,f73,cP];apply aL;exact hg () _ _ ⟨Ib,rfl,q,X⟩ ak (by simp only[go_sem,Y,BR,E,sD,rD])
   obtain⟨j,hj⟩:∃j,i=j+1:=⟨i-1,O⟩;have f73:decide ((i:Int)>0)=true:=bl O;have ej:IntKind.i64.wrap ((i:Int)-1)=(j:Int):=by
    rw[show (i:Int)-1=(j:Int) by omega];rcases j with _|j'
    .exact wrap64 O
    .exact n7 bb O
   obtain⟨B,aS⟩:∃B,t.diags[j]?=some B:=⟨_,aZ O⟩;obtain⟨b2,off2,cs2,ev2,an,aa⟩:=Sl.load bi.len (SlE.le hD (D e X)) aS;cases ev2
   obtain⟨pa,pk,rfl,a6⟩:=id an;apply bd;simp only[go_sem,E,sD,rD,f69,f73,ej,cP];refine⟨O,?_⟩;refine X6 (l:=[.int .u8 B.code,.int .i64 B.tok,sD pa pk B.cond,rD B.cond]) (v:=.agg #[.int .u8 B.code,.int .i64 B.tok,sD pa pk B.cond,rD B.cond]) rfl (cellsU q (.head _) aa) (.inl ⟨gA,rfl⟩) ?_;refine cF ?_;refine eY q rfl D0 (Dh an (R.le X)) ?_;rintro vc Ic W u p⟨rfl,rfl⟩;have f83:decide (uA B d>=0)=false:=by
    have h1:cQ B d=true:=by
     have:=List.pairwise_iff_getElem.1 hv.sort.1 j i (by rw[eN];omega) (by rw[eN];exact a) O;rw[List.getElem_map,List.getElem_map]at this;have e1:t.diags[j]'(by (omega))=B:=by rw[aZ O]at aS;exact cW aS
     have e2:t.diags[i]=d:=by rw[aZ a]at C;exact cW C
     rw[e1,e2]at this;exact this
    rw[<-Hb]at h1;have:=ng h1;exact cd O
   apply bd;simp only[go_sem,E,sD,rD,f83];apply aL;exact hg () _ _ ⟨Ic,rfl,u,D X p⟩ ak (by simp only[go_sem,Y,BR,E,sD,rD])
  rintro⟨⟩ H ⟨I3,rfl,b5,N⟩;simp only[BR];refine cv ?_;refine fF b5 rfl oC (oL (V.le N) (g.le N)) ?_;rintro v4 I4 W b4 a0⟨rfl,a7⟩;obtain⟨za,zk,rfl⟩:=a7.shape2;refine dP e1 ?_;exact s (i+1,za,zk,S.or d.cond) _ _ bh ak (by simp only[go_sem,Y,BS,E,sD,rD]) ⟨I4,rfl,b4,D e (D N a0),a,a7,fun c=>by simp only;rw[zy C,T.or_at V.1 g.1,f,Bool.or_assoc]⟩
 .have:i=t.diags.length:=by omega
  subst this;have a4:decide (((t.diags.length:Nat):Int)<(t.diags.length:Int))=false:=by simp
  refine dP a4 ?_;exact az rfl Q (r:=[_]) rfl e ⟨rfl,rfl⟩
def Ig:ax prog 70:=⟨_,func70,rfl,rfl⟩
def oD:ax prog 67:=⟨_,func67,rfl,rfl⟩
def H9:ax prog 66:=⟨_,func66,rfl,rfl⟩
def Qq:ax prog 65:=⟨_,func65,rfl,rfl⟩
def HK:ax prog 17:=⟨_,func17,rfl,rfl⟩
def Lr:al:=[102,110,32,109,97,105,110,32,40,32,41,32,123,32,112,114,105,110,116,32,49,32,43,32,50,32,42,32,51,32,59,32,125]
def Ls:al:=[118,97,114,32,120,32,58,32,105,110,116,32,98,111,111,108,32,59]
def xy:List (Nat×al):=[(1,[102,110]),(1,[109,97,105,110]),(3,[40]),(3,[41]),(3,[123]),(1,[112,114,105,110,116]),(2,[49]),(3,[43]),(2,[50]),(3,[42]),(2,[51]),(3,[59]),(3,[125])]
def oJ:List (Nat×al):=[(1,[118,97,114]),(1,[120]),(3,[58]),(1,[105,110,116]),(1,[98,111,111,108]),(3,[59])]
def Tg:nD Lr=some xy:=by decide +kernel
def Th:nD Ls=some oJ:=by decide +kernel
def Va:(xy.map dy).map refit=vM:=by
 have h:xy.all (fun x=>mE x.1 x.2)=true:=by decide +kernel
 have e:(xy.map dy).map refit=xy.map dy:=by rw[pi];refine m0 fun x a=>?_;have:=List.all_eq_true.1 h x a;show refit (dy x)=dy x;unfold refit dy;simp only[this]
 rw[e];rfl
def qF:List Syn.Tok:=((oJ.map dy).set 3 { dy (1,[105,110,116])with cond:=iK }).set 4 { dy (1,[98,111,111,108])with cond:=iK.not }
def Vb:qF.map refit=Fz:=by
 have h:oJ.all (fun x=>mE x.1 x.2)=true:=by decide +kernel
 have b:∀x∈oJ,mE x.1 x.2=true:=List.all_eq_true.1 h;have e:∀t∈qF,refit t=t:=by
  intro t ht;have:∃x∈oJ,t.kind=x.1/\t.text=x.2/\t.fits=true:=by simp only[qF,oJ,dy,ib,List.map_nil,List.set_cons_succ,yS,jY,dH,or_false]at ht |-;rcases ht with h|h|h|h|h|h<;>subst h<;>simp
  obtain⟨x,a,e1,e2,c⟩:=this;unfold refit;have:=b x a;rw[<-e1,<-e2]at this;rw[this,<-c]
 rw[show qF.map refit=qF.map id from m0 e,List.map_id];rfl
variable{l:List (Nat×al)}
def Iw{s:al}(hs:s.length<2^40)(h:ip I)(g:nD s=some l):aT prog 70 #[.string ⟨⟨s⟩⟩] I [] fun r f d=>∃A lv,r=.agg #[lv,.slice none 0 0]/\d=[A]/\iy f A lv (l.map dy):=by intro hd;refine aP 12 func70 fun w0=>?_;refine ai ?_;refine fF hd rfl Ii (IW hs h) fun v f d c a b=>?_;unfold y0 at b;rw[g]at b;obtain⟨A,k,rfl,rfl,e⟩:=b;obtain⟨j,i,rfl⟩:=e.shape;refine ai ?_;exact az rfl c (r:=[.agg #[.slice j (l.map dy).length i,.slice none 0 0]]) (by simp only[results70,go_sem,E]) a ⟨A,_,rfl,rfl,e⟩
variable{cs:List Value}{H:PH}
def oE{n k:M}(s:ae H cs n)(o:n.kids[i]?=some k)(hi:i<2^40):br prog 67 #[.agg cs.toArray,E i] H fun r H2=>(∃f,r=.agg f.toArray/\ae H f k)/\H2=H:=by
 obtain⟨x,a,C,rfl,hr,d,A⟩:=s.shape;obtain⟨z,y,rfl,_⟩:=id d;have t:=(List.getElem?_eq_some_iff.1 o).1;have u:=Z5 i n.kids.length;obtain⟨b,off,B,rfl,e,c⟩:=Sl.load ae.len d o;obtain⟨w,h,g,rfl,p,m,q⟩:=e.shape;obtain⟨la,j,rfl,_⟩:=id m;refine aP 16 func67 fun w0=>?_
 try simp only[E,sD,rD]
 refine dq u ?_
 try refine⟨O,?_⟩
 refine X5 (l:=[.int .u8 k.kind,.string ⟨⟨k.text⟩⟩,.int .i64 k.tok,.int .i64 k.slot,.slice la k.kids.length j,sD h g k.cond,rD k.cond]) (v:=.agg #[.int .u8 k.kind,.string ⟨⟨k.text⟩⟩,.int .i64 k.tok,.int .i64 k.slot,.slice la k.kids.length j,sD h g k.cond,rD k.cond]) rfl c (.inl ⟨b9,rfl⟩) ?_;refine cv ?_;exact aU (r:=[.agg #[.int .u8 k.kind,.string ⟨⟨k.text⟩⟩,.int .i64 k.tok,.int .i64 k.slot,.slice la k.kids.length j,sD h g k.cond,rD k.cond]]) (by simp only[results67,go_sem,E,sD,rD]) ⟨⟨_,rfl,e⟩,rfl⟩
def Ka{k:M}(w:j6 H v t)(s:t.kids[0]?=some k):br prog 66 #[v] H fun r H2=>(∃b,r=.agg b.toArray/\ae H b k)/\H2=H:=by obtain⟨y,z,rfl,c,u,f,_⟩:=w;obtain⟨m,l,rfl,_⟩:=id c;obtain⟨B,A,rfl,_⟩:=id f;have q:ae H [.int .u8 0,.string ⟨⟨[]⟩⟩,.int .i64 0,.int .i64 0,.slice m t.kids.length l,.slice none 0 0,E 0] ⟨0,[],0,0,t.kids,.lf false⟩:=ae.mk (n:=⟨0,[],0,0,t.kids,.lf false⟩) (a:=none) (k:=0) (oV H false) c u;refine aP 7 func66 fun w0=>?_;refine ai ?_;refine X4 rfl oD (oE (i:=0) q s af) ?_;rintro v H2⟨⟨b,rfl,d⟩,rfl⟩;obtain⟨x,h,g,rfl,o,e,p⟩:=d.shape;obtain⟨la,j,rfl,_⟩:=id e;refine cv ?_;exact aU (r:=[.agg #[.int .u8 k.kind,.string ⟨⟨k.text⟩⟩,.int .i64 k.tok,.int .i64 k.slot,.slice la k.kids.length j,sD h g k.cond,rD k.cond]]) (by simp only[results66,go_sem,E,sD,rD]) ⟨⟨_,rfl,d⟩,rfl⟩
def Ts{lv:Value}(h:Sl cR I lv (l.map dy))(c:l.length<=256)(b:∀x∈l,x.2.length<2^40):od I (.agg #[lv,.slice none 0 0]) (l.map dy):=by
 refine⟨⟨lv,none,0,0,rfl,h⟩,fun t ht=>?_,by rw[eN];omega,fun t ht=>?_⟩
 .obtain⟨x,_,rfl⟩:=List.mem_map.1 ht;exact trivial
 .obtain⟨x,a,rfl⟩:=List.mem_map.1 ht;exact b x a
def Ux{s:al}(hs:s.length<2^40)(p:ip I)(F:nD s=some l)(G:l.length<=256)(i:∀x∈l,x.2.length<2^40):aT prog 65 #[.string ⟨⟨s⟩⟩] I [] fun r w g=>g=[]/\FZ (l.map dy) 0 r w:=by intro hd;refine aP 6 func65 fun w0=>?_;refine ai ?_;refine fF hd rfl Ig (Iw hs p F) ?_;rintro v w g n d⟨A,lv,rfl,rfl,u⟩;obtain⟨P,N,rfl⟩:=u.shape;refine aj n [0] fun e=>?_;refine aH e fun Q e b o=>?_;have H:Sl cR Q (.slice P (l.map dy).length N) (l.map dy):=Ow.sl (R:=cR) (fun{I J c a} h k=>cR.le h k) u b o;refine ai ?_;refine fF e rfl PC (UH (c:=0) (p.le (D d b)) (Ts H G i) af) ?_;rintro v2 S g m f⟨rfl,t,K,q,L⟩;obtain⟨_,_,rfl,⟨C,B,rfl,_⟩,_,⟨z,y,rfl,_⟩,_⟩:=id q;refine ai ?_;exact az rfl m (r:=[.agg #[.slice C (prj (f8 0) t).kids.length B,.slice z (prj (f8 0) t).diags.length y]]) (by simp only[results65,go_sem,E]) (D d (D b f)) ⟨rfl,t,K,q,L⟩
def lW{t:al}{o s:Int}{ks:List M}{d:T}(h:ae H cs ⟨k,t,o,s,ks,d⟩):∃b vc a n,cs=[.int .u8 k,.string ⟨⟨t⟩⟩,.int .i64 o,.int .i64 s,.slice b ks.length vc,sD a n d,rD d]/\bu H (.slice b ks.length vc) ks/\bU H (.agg #[sD a n d,rD d]) d:=by obtain⟨f,a,n,e,hr,c,_⟩:=h.shape;obtain⟨b,vc,rfl,_⟩:=id c;exact⟨b,vc,a,n,e,c,hr⟩
def TW:M:=⟨13,[42],9,1,[⟨15,[50],8,0,[],tt⟩,⟨15,[51],10,1,[],tt⟩],tt⟩
def TT:M:=⟨13,[43],7,0,[⟨15,[49],6,0,[],tt⟩,TW],tt⟩
def TZ:M:=⟨11,[],5,0,[TT],tt⟩
def TU:M:=⟨6,[],4,2,[TZ],tt⟩
def TV:M:=⟨3,[109,97,105,110],1,0,[TU],tt⟩
def TY:M:=⟨1,[],-1,0,[TV],tt⟩
def Jw:M:=⟨5,[105,110,116],3,0,[],iK⟩
def Jv:M:=⟨5,[98,111,111,108],4,0,[],iK.not⟩
def T1:M:=⟨2,[120],1,0,[Jw,Jv],tt⟩
def TX:M:=⟨1,[],-1,0,[T1],tt⟩
def Oj:iD 1 0=iK:=by decide +kernel
set_option maxRecDepth 4000 in
theorem GF{I:PH}(hV:ip I):aT prog 17 #[] I [] fun r I2 q=>q=[]/\r=.bool true:=by
 intro hd;refine aP 157 func17 fun w0=>?_;refine ai ?_;refine fF hd rfl Qq (Ux (s:=Lr) af hV Tg af af) ?_;rintro v I1 q bb z⟨rfl,t,hF,P,hB⟩;rw[Va]at hF;have hp:=UG (G6 _ _) hF (Ol 0);rw[hp]at P;have P:j6 I1 v ⟨[TY],[]⟩:=P;obtain⟨vk,vd,rfl,hk,dT,a4,d5⟩:=id P;obtain⟨ka,kc,rfl,_⟩:=id hk;obtain⟨da,dc,rfl,_⟩:=id a4;simp only[bm,bo]at P hk a4 |-;refine ai ?_;refine X4 rfl H9 (Ka (P.le (iH bb)) rfl) ?_;rintro v H2⟨⟨c1,rfl,u⟩,rfl⟩;obtain⟨pa,pc,pa2,pn,rfl,dx,dw⟩:=lW u;refine cv ?_;refine X4 rfl oD (oE (i:=0) u rfl af) ?_;rintro v H2⟨⟨c2,rfl,b3⟩,rfl⟩;obtain⟨fa,fc,fa2,fn,rfl,d4,d3⟩:=lW b3;refine cv ?_;refine X4 rfl oD (oE (i:=0) b3 rfl af) ?_;rintro v H2⟨⟨c3,rfl,b2⟩,rfl⟩;obtain⟨ba,bc,ba2,bn,rfl,ea,d9⟩:=lW b2;refine cv ?_;refine X4 rfl oD (oE (i:=0) b2 rfl af) ?_;rintro v H2⟨⟨c4,rfl,bx⟩,rfl⟩;obtain⟨ra,rc,ra2,rn,rfl,dd,c0⟩:=lW bx;refine cv ?_;refine X4 rfl oD (oE (i:=0) bx rfl af) ?_;rintro v H2⟨⟨c5,rfl,K⟩,rfl⟩;obtain⟨ia,ic,ia2,inn,rfl,d0,b8⟩:=lW K;refine cv ?_;refine X4 rfl oD (oE (i:=0) u rfl af) ?_;rintro v H2⟨⟨c6,rfl,cr⟩,rfl⟩;obtain⟨xa6,xb6,xc6,xd6,rfl,_,_⟩:=lW cr;refine cv ?_;refine X4 rfl oD (oE (i:=0) u rfl af) ?_;rintro v H2⟨⟨c7,rfl,cp⟩,rfl⟩;obtain⟨xa7,xb7,xc7,xd7,rfl,_,_⟩:=lW cp;refine cv ?_;refine X4 rfl oD (oE (i:=1) K rfl af) ?_;rintro v H2⟨⟨c8,rfl,cn⟩,rfl⟩;obtain⟨xa8,xb8,xc8,xd8,rfl,_,_⟩:=lW cn;refine cv ?_;refine X4 rfl oD (oE (i:=1) K rfl af) ?_;rintro v H2⟨⟨c9,rfl,cm⟩,rfl⟩;obtain⟨xa9,xb9,xc9,xd9,rfl,_,_⟩:=lW cm;refine cv ?_;refine X4 rfl Ie (Hv b8) ?_;rintro v H2⟨rfl,rfl⟩;refine cv ?_
 refine fF bb rfl If (Dd (on:=1) (off:=0) af af) ?_;rintro v I2 q cf y⟨rfl,o⟩;rw[Oj]at o;obtain⟨ua,uk,rfl⟩:=o.shape2;refine cv ?_;refine fF cf rfl Ig (Iw (s:=Ls) af (hV.le (D z y)) Th) ?_;rintro v I3 q cb f⟨A,lv,rfl,rfl,hA⟩;obtain⟨g,cap,cur,cc,rfl,rfl,cj,ci,d7,_,Z⟩:=hA.part (fun{I} c a h=>cR.len c a h) (fun{I J c a} h k=>cR.le h k) (i:=3) (x:=dy (1,[105,110,116])) rfl 5 2 af;have aS:(oJ.map dy).length=6:=rfl;rw[aS]at cj;obtain⟨p1,f1,l1,a1,k1,rfl,b7,_⟩:=ci;apply RG;simp only[go_sem,sD,rD,E,aS,dL];refine kK cb rfl rfl rfl rfl rfl (by exact qC) (by simp;omega) fun a9=>?_;have N:=Z I3 [sD ua uk iK,rD iK] { dy (1,[105,110,116])with cond:=iK } (aC _) (by simp) ⟨p1,f1,l1,ua,uk,by simp[bL,sD,rD,dy],b7,o.le f⟩;simp only[sD,rD,E]at N;generalize C:sg g _=A2 at a9 N |-;clear C;refine cv ?_;refine bE [0,1,2,3,4,5,6] [] [] ?_;refine cF ?_;refine cE a9 [0] [] [A2] rfl pT rfl (qf (o.le f)) ?_;rintro v I4 q a7 m⟨rfl,bs⟩;simp only[Z3]at a7 |-;obtain⟨na,nk,rfl⟩:=bs.shape2;obtain⟨g2,cap2,cur2,cc2,ev,rfl,an,am,cl,_,F⟩:=Ow.part (R:=cR) (iy.le N m) (fun{I} c a h=>cR.len c a h) (fun{I J c a} h k=>cR.le h k) (i:=4) (x:=dy (1,[98,111,111,108])) rfl 5 2 af;cases ev
 have aa:((oJ.map dy).set 3 { dy (1,[105,110,116])with cond:=iK }).length=6:=rfl;rw[aa]at an;obtain⟨p2,f2,l2,a2,k2,rfl,b6,_⟩:=am;refine cF ?_;refine cT a7 rfl rfl rfl rfl rfl rfl (by exact qC) (by simp;omega) fun a6=>?_;have L:=F I4 [sD na nk iK.not,rD iK.not] { dy (1,[98,111,111,108])with cond:=iK.not } (aC _) (by simp) ⟨p2,f2,l2,na,nk,by simp[bL,sD,rD,dy],b6,bs⟩;simp only[sD,rD,E]at L;generalize C:sg _ _=A3 at a6 L |-;clear C;refine cF ?_;apply aL;refine aj a6 [0] fun H=>?_;refine aH (c:=.st _) H fun I5 H j cx=>?_;have hS:Sl cR I5 (.slice (some ⟨g,0,none⟩) 6 cap) qF:=Ow.sl (R:=cR) (fun{I J c a} h k=>cR.le h k) L j cx;have S:=D z (D y (D f (D m j)));have cs:od I5 (.agg #[.slice (some ⟨g,0,none⟩) 6 cap,.slice none 0 0]) qF:=by
  refine⟨⟨_,none,0,0,rfl,hS⟩,fun t ht=>?_,by decide,fun t ht=>?_⟩
  .simp only[qF,oJ,dy,ib,List.map_nil,List.set_cons_succ,yS,jY,dH,or_false]at ht;rcases ht with h|h|h|h|h|h<;>subst h<;>first|exact trivial|exact⟨by decide,by decide,by decide,trivial,trivial⟩
  .simp only[qF,oJ,dy,ib,List.map_nil,List.set_cons_succ,yS,jY,dH,or_false]at ht;rcases ht with h|h|h|h|h|h<;>subst h<;>decide
 refine cv ?_;refine bE [3,0,1,2,4] [] [] ?_;refine cF ?_;refine eY H rfl xh (br.keep (yF _)) ?_;rintro v I6 q ca e⟨rfl,rfl⟩;refine cF ?_;refine eY ca rfl DP (Dr (hV.le (D S e)) (cs.le e) (EP I6)) ?_;rintro v I7 q a5 w⟨rfl,t2,b4,p,ec⟩;rw[Vb]at b4;have b5:=OO b4;subst b5;have p:j6 I7 v ⟨[TX],[]⟩:=p;obtain⟨wk,wd,rfl,W,_,X,_⟩:=id p;obtain⟨wka,wkc,rfl,_⟩:=id W;obtain⟨wda,wdc,rfl,_⟩:=id X;simp only[bm,bo]at p W X |-;refine cF ?_;apply aL;refine cv ?_;refine X4 rfl H9 (Ka (p.le (iH a5)) rfl) ?_;rintro v H2⟨⟨d1,rfl,B⟩,rfl⟩;obtain⟨qa,qc,qa2,qn,rfl,dv,dk⟩:=lW B;refine cv ?_;refine X4 rfl oD (oE (i:=0) B rfl af) ?_;rintro v H2⟨⟨d2,rfl,hd2c⟩,rfl⟩;obtain⟨xa,xc,xa2,xn,rfl,V,U⟩:=lW hd2c;obtain⟨b0,o0,cs0,rfl,aq,a3⟩:=Sl.load ae.len V (i:=0) (x:=Jw) rfl;obtain⟨b1,o1,cs1,e1,ap,a0⟩:=Sl.load ae.len V (i:=1) (x:=Jv) rfl;cases e1
 obtain⟨ya,yc,Q,yn,rfl,cB,T⟩:=lW aq;obtain⟨za,zc,za2,zn,rfl,cA,cy⟩:=lW ap;have m1:=a3.get (i:=1) rfl;have m5:=a3.sub 5 2 (by simp);have w1:=a0.get (i:=1) rfl;have w2:=a0.get (i:=2) rfl;rw[sM]at T U w1 w2;refine cv ?_;refine iA mixed [0,1,2,3,4,5,6,7,8,9,10,11,12,13,14,15,16,17,18,19,20,21,22,23,24,25,26,27,28,29,30,31,32,33,34,35,36,37,38,39,40,41,42,43,44,45,46,47,48,49,50,51,52,53,54,55,56,57,58,59] [26,34,43,51] [] (by kernel_rfl) rfl ?_;refine cF ?_;refine X6 (l:=[.string ⟨⟨[105,110,116]⟩⟩]) rfl (by simpa using m1) (.inr ⟨gM,rfl⟩) ?_;refine cF ?_;refine X6 (l:=[sD Q yn iK,rD iK]) (v:=.agg #[sD Q yn iK,rD iK]) rfl (by simpa using m5) (.inl ⟨iB,rfl⟩) ?_;refine cF ?_;refine eY a5 rfl DZ (br.keep (EW T (o.le (D f (D m (D j (D e w))))))) ?_;rintro v8 I8 q n b⟨rfl,rfl⟩;refine cF ?_;refine X6 (l:=[.string ⟨⟨[98,111,111,108]⟩⟩]) rfl (cellsU n (.head _) (by simpa using w1.le b)) (.inr ⟨gM,rfl⟩) ?_;refine cF ?_;refine X6 (l:=[.int .i64 4]) rfl (cellsU n (.head _) (by simpa using w2.le b)) (.inr ⟨fI,rfl⟩) ?_;refine cF ?_;refine eY n rfl Ie (br.keep (Hv (U.le b))) ?_;rintro v9 I9 q ac G⟨rfl,rfl⟩;refine cF ?_;apply aL;refine ai ?_;exact az rfl ac (r:=[.bool true]) rfl (D S (D e (D w (D b G)))) ⟨rfl,rfl⟩
def LS(l:List It)(v:Value)(b:PH):Prop:=v=.tuple #[.agg #[.slice none 0 0,.slice none 0 0],.bool false]\/∃lv,v=.tuple #[lv,.bool true]/\od b lv (l.map fP)/\l.length<400/\∃a n k g,lv=.agg #[.slice a n k,g]/\n<=k
variable{w:List (Nat×Nat)}
def Rh{vl vw:Value}{l:List It}(h:px I vl l)(g:g4 I vw w)(hb:∀x∈l,yZ x)(o:l.length<2^40)(m:w.length<2^40):aT prog 32 #[vl,vw] I [] fun r j f=>f=[]/\LS l r j:=by
 obtain⟨la,y,rfl,_⟩:=id h;obtain⟨s,q,rfl,_⟩:=id g;intro hd;refine aP 20 func32 fun w0=>?_;refine ai ?_;refine fF hd rfl Ps (Tt (most:=8) h g hb o m af) ?_;rintro v j f c b⟨rfl,d⟩;rcases d with ⟨lv,rfl,rfl⟩|⟨lv,a,n,z,u,rfl,i,e⟩
 .refine ai ?_;exact az rfl c (r:=[.agg #[.slice none 0 0,.slice none 0 0],.bool false]) (by simp only[results32,go_sem,E]) b ⟨rfl,.inl rfl⟩
 .obtain⟨⟨t,ga,gn,gc,rfl,p⟩,h2,h3,h4⟩:=id i;obtain⟨ta,k,rfl,_⟩:=id p;refine ai ?_;exact az rfl c (r:=[.agg #[.slice ta (l.map fP).length k,.slice ga gn gc],.bool true]) (by simp only[results32,go_sem,E]) b ⟨rfl,.inr ⟨_,rfl,i,e⟩⟩
def J5{Z:List Syn.Tok}(b:∀t∈Z,t.text.length<2^40)(a:k≠0)(i:Nat)(h:K (Z.map refit) i=k):FX k (X (Z.map refit) i):=by
 unfold K at h;unfold X;unfold fk at h |-;rw[jG]at h |-;cases ht:Z[i]? with
 |none=>rw[ht]at h;exact absurd h.symm a
 |some t=>
  rw[ht]at h;simp only[cZ]at h |-;cases hf:(refit t).fits with
  |false=>rw[hf]at h;exact absurd h.symm a
  |true=>rw[hf]at h;simp only[co]at h |-;subst h;exact⟨hf,b t (cY ht)⟩
def Az(a:List Value)(b c:Value)(x:Nat×Option Addr×Nat×T):St:=⟨dn 70 [(4,.v (.bool false)),(7,.p 7 0),(8,.p 8 0),(9,.p 9 0),(10,.v (E x.1))],[⟨7,50,a⟩,⟨8,36,[b,c]⟩,⟨9,50,[sD x.2.1 x.2.2.1 x.2.2.2,rD x.2.2.2]⟩]⟩
def Eo(a:List Value)(b c:Value)(x:Nat×Option Addr×Nat×T):St:=⟨dn 70 [(4,.v (.bool false)),(7,.p 7 0),(8,.p 8 0),(9,.p 9 0),(10,.v (E x.1)),(54,.v (.bool false))],[⟨7,50,a⟩,⟨8,36,[b,c]⟩,⟨9,50,[sD x.2.1 x.2.2.1 x.2.2.2,rD x.2.2.2]⟩]⟩
theorem Xu{vl vw:Value}{l:List It}(hV:ip I)(u:px I vl l)(hW:g4 I vw w)(hb:∀x∈l,yZ x)(hl:l.length<2^40)(hw:w.length<2^40):
  aT prog 11 #[vl,vw] I [] fun r I2 p=>p=[]/\r=.bool true:=by
 obtain⟨la,lc,rfl,_⟩:=id u;obtain⟨wa,wc,rfl,_⟩:=id hW;intro hd;refine aP 70 func11 fun w0=>?_;refine ai ?_;refine fF hd rfl Qi (Rh u hW hb hl hw) ?_;rintro v I2 p ac n⟨rfl,e⟩;rcases e with rfl|⟨lv,rfl,hL,a9,_⟩
 .refine ai ?_;refine fF ac rfl HK (GF (hV.le n)) ?_;rintro v I3 p L m⟨rfl,rfl⟩;refine ai ?_;exact az rfl L (r:=[_]) rfl (D n m) ⟨rfl,rfl⟩
 obtain⟨⟨tv,ga,gn,gc,rfl,hT⟩,_⟩:=id hL;obtain⟨ta,tc,rfl,_⟩:=id hT;refine ai ?_;refine fF ac rfl HK (GF (hV.le n)) ?_;rintro v I3 p L m⟨rfl,rfl⟩;have k3:=D n m;refine ai ?_;refine fF L rfl DR (E0 (g4.le hW k3) O) ?_;rintro v4 I4 p a4 C⟨rfl,q⟩;obtain⟨qa,qk,rfl⟩:=q.shape2;have k4:=D k3 C;refine cv ?_;refine fF a4 rfl DP (Dr (hV.le k4) (hL.le (D m C)) q) ?_;rintro v5 I5 p a3 B⟨rfl,t,hF,hR,hB⟩;have k5:=D k4 B;have y:=OT (F:=FX) (vA hL.ok) (fun i h=>J5 hL.txt af i h) (fun i h=>J5 hL.txt af i h) (by simp;omega) q.1 hF;have hm:((l.map fP).map refit).length<=16000:=by simp;omega
 obtain⟨vk,vd,rfl,hK,bb,hD,a7⟩:=id hR;obtain⟨ka,kc,rfl,_⟩:=id hK;obtain⟨da,dc,rfl,_⟩:=id hD;refine cv ?_;refine fF a3 rfl Qn (XI hR) ?_;rintro v6 I6 p a2 k⟨rfl,S0,am,aa⟩;obtain⟨s0a,s0k,rfl⟩:=am.shape2;refine cv ?_;refine bY (fun x=>t.diags.length-x.1) (Az [sD qa qk (kS w),rD (kS w)] (.slice ka t.kids.length kc) (.slice da t.diags.length dc)) (LD t I6) (0,s0a,s0k,S0) ak (by simp only[go_sem,Y,Az,E,sD,rD]) ⟨I6,rfl,a2,aC _,aF _,am,fun c=>by rw[aa];simp⟩ ?_;rintro⟨i,sa,sk,S⟩ H ⟨I7,rfl,K,f,hi,u,s⟩ G;simp only at hi u s;simp only[Az];rcases aI i t.diags.length with J|ba
 .have P:=Z5 i t.diags.length;have e1:=n7 a7 J;obtain⟨d,z⟩:∃d,t.diags[i]?=some d:=⟨_,aZ J⟩;have aS:=cY z;obtain⟨b,off,cs,ev,a5,N⟩:=Sl.load bi.len (SlE.le hD (D k f)) z;cases ev
  obtain⟨R,Q,rfl,g⟩:=id a5;have aq:=(y.sort.2 d aS).2;have A:=N.sub 2 2 (by simp);simp only[ls,gV,lz,lB]at A;refine dP P ?_;apply sK (fun _:Unit=>Eo [sD qa qk (kS w),rD (kS w)] (.slice ka t.kids.length kc) (.slice (some ⟨b,off,none⟩) t.diags.length dc) (i,sa,sk,S)) (fun _ H=>∃I,H=U [I]/\Dj [I]/\I7.le I)
  .intro hg;have f45:decide (d.cond=.lf false)=false:=cd aq;have f53:decide (d.cond.and S=.lf false)=true:=bl (Gz y z u.1 s);refine bE [0,1,2,3,4,5,6,7,8,9,10,11,12,13,14,15,16] [5,13] [] ?_;refine cF ?_;refine⟨O,?_⟩;refine X6 (l:=[sD R Q d.cond,rD d.cond]) (v:=.agg #[sD R Q d.cond,rD d.cond]) rfl (by simpa using cellsU K (.head _) A) (.inl ⟨iB,rfl⟩) ?_;refine cF ?_;refine eY K rfl iG (br.keep (iE g)) ?_;rintro va Ia p Z j⟨rfl,rfl⟩;apply bd;simp only[go_sem,E,sD,rD,f45];refine⟨O,?_⟩;refine X6 (l:=[sD R Q d.cond,rD d.cond]) (v:=.agg #[sD R Q d.cond,rD d.cond]) rfl (by simpa using cellsU Z (.head _) (A.le j)) (.inl ⟨iB,rfl⟩) ?_;refine cF ?_;refine eY Z rfl Ac (AD (g.le j) (u.le j)) ?_;rintro vb Ib p a0 W⟨rfl,rfl⟩;apply bd;simp only[go_sem,E,sD,rD,f53,cP];apply aL;exact hg () _ _ ⟨Ib,rfl,a0,D j W⟩ ak (by simp only[go_sem,Y,Eo,E,sD,rD])
  rintro⟨⟩ H ⟨I8,rfl,o,a⟩;simp only[Eo];refine cv ?_;refine bE [0,1,2,3,4,5,6,7,8] [6] [] ?_;refine cF ?_;refine⟨O,?_⟩;refine X6 (l:=[sD R Q d.cond,rD d.cond]) (v:=.agg #[sD R Q d.cond,rD d.cond]) rfl (by simpa using cellsU o (.head _) (A.le a)) (.inl ⟨iB,rfl⟩) ?_;refine cF ?_;refine eY o rfl oC (oL (u.le a) (g.le a)) ?_;rintro v9 I9 p a1 X⟨rfl,V⟩;obtain⟨za,zk,rfl⟩:=V.shape2;refine cF ?_;apply aL;refine dP e1 ?_;exact G (i+1,za,zk,S.or d.cond) _ _ bh ak (by simp only[go_sem,Y,Az,E,sD,rD]) ⟨I9,rfl,a1,D f (D a X),J,V,fun c=>by simp only;rw[zy z,T.or_at u.1 g.1,s,Bool.or_assoc]⟩
 .have:i=t.diags.length:=by omega
  subst this;have P:decide (((t.diags.length:Nat):Int)<(t.diags.length:Int))=false:=by simp
  rw[dO]at s;have a6:S=kS w:=T.ext u.1 q.1 fun c=>by rw[s,y.all]
  refine dP P ?_;have k7:=D k5 (D k f);refine fF K rfl Qo (Xv (hV.le k7) (hR.le (D k f)) y hm) ?_;rintro v8 I8 p o a⟨rfl,rfl⟩;refine cv ?_;subst a6;refine X4 rfl DZ (EW (u.le (D a (iH o))) (q.le (D (D B (D k f)) (D a (iH o))))) ?_;rintro v H2⟨rfl,rfl⟩;refine cv ?_;exact az rfl o (r:=[_]) rfl (D k7 a) ⟨rfl,rfl⟩
end Go.Proofs.YtfaclfkpnmcmlaaGreatDoor
