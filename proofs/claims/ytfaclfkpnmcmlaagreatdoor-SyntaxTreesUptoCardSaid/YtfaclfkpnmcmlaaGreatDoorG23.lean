import Derived.Test.YtfaclfkpnmcmlaaGreatDoorG04
import Derived.Test.YtfaclfkpnmcmlaaGreatDoorG18
import Derived.Test.YtfaclfkpnmcmlaaGreatDoorG19
import Derived.Test.YtfaclfkpnmcmlaaGreatDoorG21
import Derived.Test.YtfaclfkpnmcmlaaGreatDoorG22
set_option maxHeartbeats 8000000
set_option linter.all false
open Go.Proofs.Tryz
namespace Go.Proofs.YtfaclfkpnmcmlaaGreatDoor
open Go Go.Sx Dg Syn
def OT:ay prog 115:=⟨_,func115,rfl,rfl⟩
def P4:ay prog 60:=⟨_,func60,rfl,rfl⟩
variable{k:Int×Nat}{p:List aN}
def oY:k∈ew p<->∃d∈p,d.cond≠ff/\d.key=k:=by
 unfold ew;rw[zE gZ,mW];constructor
 .rintro⟨d,hd,rfl⟩;rw[jx]at hd;exact⟨d,hd.1,eF hd.2,rfl⟩
 .rintro⟨d,h1,h2,rfl⟩;exact⟨d,List.mem_filter.2 ⟨h1,ar h2⟩,rfl⟩
def oZ(p:List aN):(ew p).Pairwise fun a b=>fF a b=true:=wr gZ _
def BK(p:List aN)(x:aN)(k:Int×Nat):jN (p++[x]) k=if jO k x then (jN p k).or x.cond else jN p k:=by unfold jN;rw[List.filter_append,lP];cases h:jO k x<;>simp[gJ,h]
def NA(h:k∉ew p):jN p k=ff:=by
 have:p.filter (jO k)=[]:=List.filter_eq_nil_iff.2 fun d hd hm=>by simp only[jO,bu,cu]at hm;exact h (oY.2 ⟨d,hd,hm.2,hm.1⟩)
 unfold jN;rw[this];rfl
def kQ(p:List aN)(k:Int×Nat):aN:=⟨k.2,k.1,jN p k⟩
theorem mw(p:List aN):cK p=(ew p).map (kQ p):=rfl
variable{x:aN}
def BL(h:x.cond=ff\/x.key≠k):kQ (p++[x]) k=kQ p k:=by
 have:jO k x=false:=by
  rcases h with h|h
  .simp[jO,h]
  .have:¬(x.tok,x.code)=k:=h;simp[jO,this]
 unfold kQ;rw[BK,this];simp
def SD(h:x.cond=ff):cK (p++[x])=cK p:=by
 have e:ew (p++[x])=ew p:=tz gZ (oZ _) (oZ _) fun k=>by
  rw[oY,oY];constructor
  .rintro⟨d,hd,a,rfl⟩;rcases List.mem_append.1 hd with hd|hd
   .exact⟨d,hd,a,rfl⟩
   .rw[List.mem_singleton]at hd;subst hd;exact absurd h a
  .rintro⟨d,hd,a,rfl⟩;exact⟨d,dk _ hd,a,rfl⟩
 rw[mw,mw,e];exact n8 fun k _=>BL (.inl h)
variable{j:Nat}
def SB{m:aN}(h:(cK p)[j]?=some m):(ew p)[j]?=some m.key/\m=kQ p m.key:=by
 rw[mw,fX]at h;cases a:(ew p)[j]? with
 |none=>rw[a]at h;cases h
 |some k=>
  rw[a]at h;cases h
  exact⟨rfl,rfl⟩
def Sz{m:aN}(l:x.cond≠ff)(t:(cK p)[j]?=some m)(s:m.key=x.key):cK (p++[x])=(cK p).set j { m with cond:=m.cond.or x.cond }:=by
 obtain⟨h1,h2⟩:=SB t;rw[s]at h1 h2;have e:ew (p++[x])=ew p:=tz gZ (oZ _) (oZ _) fun k=>by
  rw[oY,oY];constructor
  .rintro⟨d,hd,l,rfl⟩;rcases List.mem_append.1 hd with hd|hd
   .exact⟨d,hd,l,rfl⟩
   .rw[List.mem_singleton]at hd;subst hd;exact oY.1 (cH h1)
  .rintro⟨d,hd,l,rfl⟩;exact⟨d,dk _ hd,l,rfl⟩
 rw[mw,mw,e];apply List.ext_getElem?;intro i;rw[fX,pY,dW,fX];by_cases hi:j=i
 .subst hi;have c:=(List.getElem?_eq_some_iff.1 h1).1;rw[h1,ak rfl,ak c,h2];have hm:jO x.key x=true:=by simp[jO,l];rfl
  simp[kQ,BK,hm]
 .rw[ad hi];cases f:(ew p)[i]? with
  |none=>rfl
  |some k=>
   have n:x.key≠k:=fun e2=>by
    have hd:=(oZ p).imp fun{a b} (h:fF a b=true)=>show a≠b from fun e=>by rw[e,gZ.irr]at h;cases h
    have g:=(List.getElem?_eq_some_iff.1 f).1;have c:=(List.getElem?_eq_some_iff.1 h1).1;have r:(ew p)[j]=x.key:=by rw[aL c]at h1;exact df h1
    have q:(ew p)[i]=k:=by rw[aL g]at f;exact df f
    rcases Nat.lt_or_gt_of_ne hi with o|o
    .exact List.pairwise_iff_getElem.1 hd j i c g o (by rw[r,q,e2])
    .exact List.pairwise_iff_getElem.1 hd i j g c o (by rw[r,q,e2])
   simp[BL (p:=p) (.inr n)]
def SC(i:x.cond.ok 0)(f:x.cond≠ff)(h1:∀m∈(cK p).take j,bP m x=true)(h2:∀m∈(cK p).drop j,bP x m=true):cK (p++[x])=(cK p).take j++[x]++(cK p).drop j:=by
 have k1:∀k∈(ew p).take j,fF k x.key=true:=fun k c=>by
  have:kQ p k∈(cK p).take j:=by rw[mw,<-List.map_take];exact List.mem_map_of_mem c
  exact h1 _ this
 have k2:∀k∈(ew p).drop j,fF x.key k=true:=fun k c=>by
  have:kQ p k∈(cK p).drop j:=by rw[mw,<-List.map_drop];exact List.mem_map_of_mem c
  exact h2 _ this
 have g:x.key∉ew p:=fun c=>by
  rw[<-fl j (ew p)]at c;rcases List.mem_append.1 c with c|c
  .have:=k1 _ c;rw[gZ.irr]at this;cases this
  .have:=k2 _ c;rw[gZ.irr]at this;cases this
 have e:ew (p++[x])=(ew p).take j++[x.key]++(ew p).drop j:=by
  refine tz gZ (oZ _) ?_ fun k=>?_
  .have h3:=oZ p;rw[<-fl j (ew p),List.pairwise_append]at h3;rw[eD];refine List.pairwise_append.2 ⟨h3.1,List.pairwise_cons.2 ⟨k2,h3.2.1⟩,fun a ha b hb=>?_⟩;rcases List.mem_cons.1 hb with rfl|hb
   .exact k1 a ha
   .exact h3.2.2 a ha b hb
  .have o:k∈(ew p).take j++[x.key]++(ew p).drop j<->k∈ew p\/k=x.key:=by
    conv=>rhs;rw[<-fl j (ew p)]
    simp only[gS,List.mem_singleton];constructor
    .rintro((h|h)|h)
     .exact .inl (.inl h)
     .exact .inr h
     .exact .inl (.inr h)
    .rintro((h|h)|h)
     .exact .inl (.inl h)
     .exact .inr h
     .exact .inl (.inr h)
   rw[o,oY,oY];constructor
   .rintro⟨d,hd,f,rfl⟩;rcases List.mem_append.1 hd with hd|hd
    .exact .inl ⟨d,hd,f,rfl⟩
    .rw[List.mem_singleton]at hd;subst hd;exact .inr rfl
   .rintro(⟨d,hd,f,rfl⟩|rfl)
    .exact⟨d,dk _ hd,f,rfl⟩
    .exact⟨x,eo _ (.head _),f,rfl⟩
 have n:kQ (p++[x]) x.key=x:=by
  have hm:jO x.key x=true:=by simp[jO,f];rfl
  unfold kQ;rw[BK,hm,NA g,ak rfl,Gi i];rfl
 have l:∀k∈ew p,kQ (p++[x]) k=kQ p k:=fun k c=>BL (.inr fun e=>g (by rw[e];exact c));rw[mw,mw,e,jV,jV,List.map_singleton,n,<-List.map_take,<-List.map_drop];congr 1
 .congr 1;exact n8 fun k c=>l k (List.mem_of_mem_take c)
 .exact n8 fun k c=>l k (List.mem_of_mem_drop c)
def NJ{y:aN}(h:bP x y=false):(eV x y == 0)=!bP y x:=by
 unfold bP fF aN.key at *;unfold eV cU cU cU cS;by_cases a1:x.tok<y.tok
 .simp[a1]at h
 .by_cases a2:y.tok<x.tok
  .simp[a1,a2]
  .by_cases b1:x.code<y.code
   .simp[a1,a2,b1]at h
   .by_cases b2:y.code<x.code
    .simp[a1,a2,b1,b2]
    .simp[a1,a2,b1,b2]
def SE(p:List aN):(cK p).Pairwise fun a b=>bP a b=true:=by rw[mw,List.pairwise_map];exact oZ p
def SA(h:∀m,(cK p)[j]?=some m->bP x m=true):∀m∈(cK p).drop j,bP x m=true:=fun m hm=>by
 have hd:((cK p).drop j).Pairwise fun a b=>bP a b=true:=(SE p).sublist (List.drop_sublist _ _);cases c:(cK p).drop j with
 |nil=>rw[c]at hm;cases hm
 |cons y r=>
  rw[c]at hm hd;have d:=h y (sE c).1;rcases List.mem_cons.1 hm with rfl|hm
  .exact d
  .exact gZ.tr _ _ _ d ((List.pairwise_cons.1 hd).1 m hm)
def pj(v w:Value)(x:aN)(j:Nat):St:=⟨dn 69 [(0,.v v),(3,.p 3 0),(5,.v (E j))],[⟨3,102,[.int .u8 x.code,.int .i64 x.tok,w]⟩]⟩
def zD:aN:=⟨0,0,ff⟩
variable{I:PH}{u:Nat}
def TU(hu:u<2^32)(hp:bM u 32<=8){A:PH}{v vw:Value}(hA:ir u I A v (cK p))(hw:aP u I vw x.cond)(hl:(cK p).length<2^36):aI prog 115 #[v,.agg #[.int .u8 x.code,.int .i64 x.tok,vw]] I [A] fun r I2 qs=>∃A2,qs=[A2]/\ir u I2 A2 r (cK (p++[x])):=by
 have hW:=js hu hp;obtain⟨oa,oc,rfl⟩:=hA.shape;obtain⟨wa,wc,rfl,_⟩:=id hw.2;intro hd;generalize f:cK p=out at *;refine aG 69 func115 fun w0=>?_;by_cases B:x.cond=ff
 .have h9:(((aF u x.cond).length:Int) == 0)=true:=by rw[B];show (((aF u (.lf false)).length:Int) == 0)=true;rw[qv];rfl
  refine aj h9 ?_;exact ao rfl hd (r:=[.slice oa out.length oc]) (by simp only[results115,go_sem,E]) (ax _) ⟨A,rfl,by rw[SD B,f];exact hA⟩
 have h9:(((aF u x.cond).length:Int) == 0)=false:=by have:aF u x.cond≠[]:=fun e=>B ((sy hu hw.1).1 e);have:=List.length_pos_iff.2 this;rw[hU];omega
 refine aj h9 ?_;apply qg (pj (.slice oa out.length oc) (.slice wa (aF u x.cond).length wc) x) (fun j H=>H=U [I,A]/\j<=out.length/\(∀m∈out.take j,bP m x=true)/\∀m∈out.drop j,bP x m=true)
 .intro hg;refine bz (fun j=>out.length-j) (pj (.slice oa out.length oc) (.slice wa (aF u x.cond).length wc) x) (fun j H=>H=U [I,A]/\j<=out.length/\∀m∈out.take j,bP m x=true) 0 ae (by simp only[go_sem,ab,pj]) ⟨rfl,bg _,fun m hm=>by simp at hm⟩ ?_;rintro j H ⟨rfl,hj,z⟩ F;simp only[pj];rcases aB j out.length with V|V
  rotate_left
  .have:j=out.length:=by omega
   subst this;have C:decide ((out.length:Int)<(out.length:Int))=false:=ai;refine av ?_;refine aV [0,1,2,3,4,5,6,7,8,9,10,11,12] [8] [] ?_;refine aM C ?_;apply an;refine av ?_;refine aV [0,1,2,3,4,5,6,7,8,9,10,11,12] [8] [] ?_;refine aM C ?_;apply an;apply bU 2;simp only[go_sem,E];exact hg out.length _ _ ⟨rfl,aW _,z,fun m hm=>by rw[jw]at hm;cases hm⟩ ae (by simp only[go_sem,ab,pj])
  have C:=Z5 j out.length;have e2:=Z7 j;obtain⟨m,hm⟩:∃m,out[j]?=some m:=⟨_,aL V⟩;obtain⟨g,cap,cur,cm,ev,eA,q1,q2,a9,bd,b,bc⟩:=hA.elem (fun{I} c a h=>bB.len (I:=I) c a h) (fun{I J c a} h k=>gn h k) hm;cases ev
  obtain⟨vwm,rfl,am⟩:=a9;obtain⟨ya,yc,rfl,_⟩:=id am.2;refine av ?_;refine aV [0,1,2,3,4,5,6,7,8,9,10,11,12] [8] [] ?_;refine aM C ?_
  try refine⟨O,?_⟩
  refine Xc (l:=[.int .u8 m.code,.int .i64 m.tok,.slice ya (aF u m.cond).length yc]) (v:=.agg #[.int .u8 m.code,.int .i64 m.tok,.slice ya (aF u m.cond).length yc]) rfl (cellsU hd (.tail _ (.head _)) (by simpa using b)) (.inl ⟨l6,rfl⟩) ?_;refine aC ?_;refine lW rfl rfl rfl rfl uV (vM m x _ _ _ _ _ _ _) ?_;rintro v H2⟨rfl,rfl⟩;refine⟨gL.le (ax _),?_⟩;have N:=F4 m x;cases w:bP m x
  rotate_left
  .rw[w]at N;refine aM N ?_;apply an;refine aj e2 ?_;exact F (j+1) _ _ O ae (by simp only[go_sem,ab,pj]) ⟨rfl,V,fun y s=>by rw[cw hm]at s;rcases List.mem_append.1 s with s|s;exact z y s;rw[List.mem_singleton]at s;rw[s];exact w⟩
  rw[w]at N;refine aM N ?_;apply an;refine av ?_;refine aV [0,1,2,3,4,5,6,7,8,9,10,11,12] [8] [] ?_;refine aM C ?_
  try refine⟨O,?_⟩
  refine Xc (l:=[.int .u8 m.code,.int .i64 m.tok,.slice ya (aF u m.cond).length yc]) (v:=.agg #[.int .u8 m.code,.int .i64 m.tok,.slice ya (aF u m.cond).length yc]) rfl (cellsU hd (.tail _ (.head _)) (by simpa using b)) (.inl ⟨l6,rfl⟩) ?_;refine aC ?_;refine lW rfl rfl rfl rfl uV (vM m x _ _ _ _ _ _ _) ?_;rintro v H2⟨rfl,rfl⟩;refine⟨gL.le (ax _),?_⟩;have M:=NJ w;cases G:bP x m
  rotate_left
  .rw[G]at M;apply bp;simp only[go_sem,E,M,bX];apply an;apply bU 2;simp only[go_sem,E];subst f;exact hg j _ _ ⟨rfl,hj,z,SA fun y s=>by rw[hm]at s;cases s;exact G⟩ ae (by simp only[go_sem,ab,pj])
  have ac:m.key=x.key:=gZ.tri _ _ w G;rw[G]at M;apply bp;simp only[go_sem,E,M,cF];apply an;refine av ?_;have a3:=b.get (i:=2) rfl;subst eA;refine aV [0,1,2,3,4,5,6,7,8,9,10,11,12] [6] [] ?_;refine aC ?_
  try refine⟨O,?_⟩
  refine Xc (l:=[.slice ya (aF u m.cond).length yc]) rfl (cellsU hd (.tail _ (.head _)) (by simpa using a3)) (.inr ⟨kO,rfl⟩) ?_;refine aC ?_;refine cv hd [0] [] [_] rfl uW rfl (wP hp am hw) ?_;rintro v I3 qs L d⟨rfl,nG⟩;obtain⟨za,zc,rfl,_⟩:=id nG.2;simp only[Z3]at L |-;refine aC ?_
  try refine⟨O,?_⟩
  refine cg L rfl rfl rfl rfl rfl rfl (by exact Ee) (by simp;omega) fun K=>?_;refine aC ?_;apply an;have ap:ir u I3 (sg g (.cells (bi cur.toList (j*3+2) [.slice za (aF u (m.cond.or x.cond)).length zc]).toArray 102 (0,0))) (.slice (some ⟨g,0,none⟩) out.length oc) (out.set j { m with cond:=m.cond.or x.cond }):=
   Ow.put hA (fun{I} c a h=>bB.len (I:=I) c a h) (fun{I J c a} h k=>gn h k) (k:=2) hm b rfl ai d ⟨.slice za (aF u (m.cond.or x.cond)).length zc,rfl,nG⟩
  refine av ?_;subst f;rw[<-Sz B hm ac]at ap;exact ao rfl K (r:=[.slice (some ⟨g,0,none⟩) (cK p).length oc]) (by simp only[results115,go_sem,E]) d ⟨_,rfl,ap⟩
 rintro j H ⟨rfl,hj,z,a6⟩;simp only[pj];refine av ?_;refine cd hd (by exact mE) rfl rfl rfl rfl rfl aR fun nb I3 L d a2=>?_;have ba:Sl (bB (aP u)) I3 (.slice (some ⟨nb,0,none⟩) 1 1) [zD]:=⟨_,_,rfl,.inr ⟨nb,0,_,rfl,bD a2 (by simp[aD,Value.cells]) (by simp[aD,Value.cells,zD]),.one ⟨.slice none 0 0,rfl,wK u I3⟩⟩⟩;refine av ?_;refine dX (R:=bB (aP u)) (xs:=out) (ys:=[zD]) L (by exact mE) (ir.le hA d) ba (fun{I J c a} h k=>gn h k) (fun{I} c a h=>bB.len (I:=I) c a h) (fun{I} c a h=>xX h) rfl rfl rfl rfl (by simp only[bf,bA];omega) (by simp only[bf,bA];unfold maxLen;omega) fun ua uc I4 A4 K P bb=>?_;have t:(out++[zD]).length=out.length+1:=ai;obtain⟨g,cap,cur,ys,ev,eA,q1,q2,aq,T,a0,al,D⟩:=bb.shift (fun{I} c a h=>bB.len (I:=I) c a h) (fun{I} c a h=>xX h) (k:=j) O;rw[t]at ev q1 T |-;cases ev
 subst eA;have e2:=Z7 j;obtain⟨o1,s1,a1,W⟩:∃o1,eZ (some ⟨g,0,none⟩) 3 (j+1) uc=some ⟨g,o1,none⟩/\bi cur.toList o1 ys=bi cur.toList ((j+1)*3) ys/\o1+ys.length<=cur.size:=by
  rcases aB (j+1) uc with h|h
  .exact⟨(j+1)*3,zP h,rfl,al⟩
  .have hz:out.length+1-(j+1)=0:=by omega
   have s:ys=[]:=List.length_eq_zero_iff.1 (by rw[T,hz]);subst s;refine⟨0,?_,rfl,by simp⟩;have:j+1=uc:=O;subst this;unfold eZ;rw[ak O]
 have s2:=zP (g:=g) (l:=j) (cap:=uc) (size:=3) O;obtain⟨inf,ag,aa⟩:=QF;refine av ?_;refine aV [0,1,2,3,4,5,6,7] [] [] ?_;apply bp;simp only[go_sem,E,e2,s1,s2]
 try refine⟨O,?_⟩
 refine ER (by exact K) (by exact V3) (by exact ag) rfl rfl rfl rfl rfl rfl (cellsU K (.tail _ (.head _)) aq) (by rw[aa,T,Nat.min_eq_right O]) W a0 fun X=>?_;apply an;rw[a1]at X |-;generalize (bi cur.toList ((j+1)*3) ys).toArray=S at X D |-;obtain⟨y,hx⟩:=Hp out zD hj;rw[t]at hx D;obtain⟨g5,cap5,cur6,c6,ev6,eA6,_,_,bo,o,q,_⟩:=D.elem (fun{I} c a h=>bB.len (I:=I) c a h) (fun{I J c a} h k=>gn h k) hx;have eg:g5=g:=by simp only[Value.slice.injEq,bv,Addr.mk.injEq,dP,dm]at ev6;exact ev6.1.symm
 subst eg;have a5:(j+1)*3<=S.size:=by obtain⟨b1,_⟩:=BB q;rw[o]at b1;omega
 refine av ?_
 try refine⟨O,?_⟩
 refine oB X rfl rfl rfl rfl rfl (by exact JH) (by simp[Value.cells];omega) fun a7=>?_;have Z:ir u I4 (sg g5 (.cells (bi S.toList (j*3+0) [.int .u8 x.code,.int .i64 x.tok,.slice wa (aF u x.cond).length wc]).toArray 102 (0,0))) (.slice (some ⟨g5,0,none⟩) (out.length+1) uc) (((out++[zD]).take (j+1)++((out++[zD]).drop j).take (out.length+1-(j+1))).set j x):=
  Ow.put D (fun{I} c a h=>bB.len (I:=I) c a h) (fun{I J c a} h k=>gn h k) hx q o ai (ax _) (by rw[lg _ _ _ (by rw[o];simp),od,List.drop_eq_nil_of_le (by rw[o];simp)];exact⟨_,rfl,hw.le (Y d P)⟩)
 have Q:=Hq out zD x hj;rw[t]at Q;rw[Q]at Z;refine av ?_;subst f;have hm:=SC hw.1.1 B z a6;have a4:((cK p).take j++[x]++(cK p).drop j).length=(cK p).length+1:=by simp;omega
 rw[<-hm]at Z;exact ao rfl a7 (r:=[.slice (some ⟨g5,0,none⟩) ((cK p).length+1) uc]) (by simp only[results115,go_sem,E]) (Y d P) ⟨_,rfl,Z⟩
def ep(u d:Nat)(I:PH)(c:List Value)(t:Tr):Prop:=∃a vd,c=[a,vd]/\c7 u d I a t.kids/\Sl (bB (aP u)) I vd t.diags
variable{d:Nat}
def ep.le(f:u<2^32)(hp:bM u 32<=8){J:PH}{c:List Value}{t:Tr}(h:ep u d I c t)(k:I.le J):ep u d J c t:=by obtain⟨b,vd,e,h1,h2⟩:=h;exact⟨b,vd,e,c7.le f hp h1 k,Sl.le (R:=bB (aP u)) (fun{I J c a} h k=>gn h k) h2 k⟩
def ep.len(c:List Value)(t:Tr)(h:ep u d I c t):c.length=2:=by obtain⟨a,vd,e,_⟩:=h;rw[e];rfl
def Gz{α β:Type}(f:α->List β){i:Nat}{l:List α}{t:α}(h:l[i]?=some t):((l.take i).flatMap f).length+(f t).length<=(l.flatMap f).length:=by have:=Ce f (i+1) l;rw[cw h,pU,dG]at this;simpa using this
def ym(v a vd:Value)(i:Nat):St:=⟨dn 46 [(0,.v v),(2,.p 2 0),(3,.p 3 0),(4,.v a),(5,.v (E i))],[⟨2,41,[.slice none 0 0,.slice none 0 0]⟩,⟨3,41,[.slice none 0 0,vd]⟩]⟩
def yo(v a:Value)(i:Nat)(x:Nat×Value):St:=⟨dn 46 [(0,.v v),(2,.p 2 0),(3,.p 3 0),(4,.v a),(5,.v (E i)),(6,.v (E x.1))],[⟨2,41,[.slice none 0 0,.slice none 0 0]⟩,⟨3,41,[.slice none 0 0,x.2]⟩]⟩
def ON(u d:Nat)(l:List Tr)(a:PH)(x:Nat×Value×Value)(H:PH):Prop:=∃I A B,H=U [I,A,B]/\Dj [I,A,B]/\a.le I/\x.1<=l.length/\gM u d I A x.2.1 ((l.take x.1).flatMap (·.kids))/\ir u I B x.2.2 (cK ((l.take x.1).flatMap (·.diags)))
def SL(D:u<2^32)(hp:bM u 32<=8){v:Value}{l:List Tr}(hS:Sl (ep u d) I v l)(hl:l.length<2^36)(hz:aw (l.flatMap (·.kids))<2^36)(a0:(l.flatMap (·.diags)).length<2^36):aI prog 60 #[v] I [] fun r I2 qs=>qs=[]/\gy u d I2 r ⟨dj d (l.flatMap (·.kids)),cK (l.flatMap (·.diags))⟩:=by
 have hW:=js D hp;obtain⟨va,vc,rfl,_⟩:=id hS;have y:=fJ (l.flatMap (·.kids));intro hd;refine aG 46 func60 fun w0=>?_;refine af ?_;refine dR hd fun am=>?_;refine dR am fun W=>?_;refine bz (fun x=>l.length-x.1) (fun x:Nat×Value×Value=>ym (.slice va l.length vc) x.2.1 x.2.2 x.1) (ON u d l I) (0,.slice none 0 0,.slice none 0 0) ae (by simp only[go_sem,ab,ym]) ?_ ?_
 .exact⟨I,_,_,rfl,W,ax _,bg _,Ow.nil _ _ _ _,Ow.nil _ _ _ _⟩
 rintro⟨i,vk,vd⟩ H ⟨I1,A1,B1,rfl,G,o,hi,Z,X⟩ F;simp only at hi Z X;simp only[ym];obtain⟨aa,ac,rfl⟩:=Z.shape;obtain⟨ba,bc,rfl⟩:=X.shape;rcases aB i l.length with V|aq
 rotate_left
 .have:i=l.length:=by omega
  subst this;have M:decide (((l.length:Nat):Int)<(l.length:Int))=false:=ai;rw[cB]at Z X |-;refine bq G [0,1] fun p=>?_;refine bH (c:=.st _) p fun I3 p f A=>?_;refine bq p [0] fun g=>?_;refine bH (c:=.st _) g fun B g e j=>?_;have hK:c7 u d B (.slice aa (l.flatMap (·.kids)).length ac) (l.flatMap (·.kids)):=fZ (R:=aU (aP u) d) (fun{I J c a} h k=>fy D hp h k) Z (Y f e) (Y A e);have hE:Sl (bB (aP u)) B (.slice ba (cK (l.flatMap (·.diags))).length bc) (cK (l.flatMap (·.diags))):=fZ (R:=bB (aP u)) (fun{I J c a} h k=>gn h k) (ir.le X f) e j;refine aj M ?_;refine dq g rfl GM (Tc D hp d hK hz) ?_;rintro v I5 qs z m⟨rfl,hM⟩;obtain⟨ma,mc,rfl,_⟩:=id hM;refine av ?_;exact ao rfl z (r:=[.agg #[.slice ma (dj d (l.flatMap (·.kids))).length mc,.slice ba (cK (l.flatMap (·.diags))).length bc]]) (by simp only[results60,go_sem,E]) (Y o (Y f (Y e m))) ⟨rfl,_,_,rfl,hM,Sl.le (R:=bB (aP u)) (fun{I J c a} h k=>gn h k) hE m⟩
 have M:=Z5 i l.length;have e1:=Z7 i;obtain⟨t,ht⟩:∃t,l[i]?=some t:=⟨_,aL V⟩;obtain⟨b,off,cs,rfl,ap,q⟩:=Sl.load (R:=ep u d) (fun{I} c a h=>ep.len (I:=I) c a h) (Sl.le (R:=ep u d) (fun{I J c a} h k=>ep.le D hp h k) hS o) ht;obtain⟨wk,wd,rfl,S,T⟩:=ap;obtain⟨ka,kc,rfl,_⟩:=id S;obtain⟨da,dc,rfl,_⟩:=id T;have ek:(l.take (i+1)).flatMap (·.kids)=(l.take i).flatMap (·.kids)++t.kids:=by rw[cw ht,pU];simp
 have ed:(l.take (i+1)).flatMap (·.diags)=(l.take i).flatMap (·.diags)++t.diags:=by rw[cw ht,pU];simp
 have lk:=Gz (fun t:Tr=>t.kids) ht;have ld:=Gz (fun t:Tr=>t.diags) ht;have c0:=q.get (i:=0) rfl;refine aj M ?_
 try refine⟨O,?_⟩
 refine Xb (l:=[.slice ka t.kids.length kc]) rfl (cellsU G (.head _) (by simpa using c0)) (.inr ⟨rZ,rfl⟩) ?_;refine av ?_;refine dX (R:=aU (aP u) d) (xs:=(l.take i).flatMap (·.kids)) (ys:=t.kids) G (by exact i8) Z S (fun{I J c a} h k=>fy D hp h k) (fun{I} c a h=>aU.len (I:=I) c a h) (fun{I} c a h=>aU.ones hW h) rfl rfl rfl rfl O (by unfold maxLen;omega) fun ua uc I3 A3 p f A=>?_;refine av ?_;refine bz (fun x=>t.diags.length-x.1) (yo (.slice (some ⟨b,off,none⟩) l.length vc) (.slice ua ((l.take i).flatMap (·.kids)++t.kids).length uc) i) (fun x H=>∃B N,H=U [B,A3,N]/\Dj [B,A3,N]/\I3.le B/\x.1<=t.diags.length/\ir u B N x.2 (cK ((l.take i).flatMap (·.diags)++t.diags.take x.1))) (0,.slice ba (cK ((l.take i).flatMap (·.diags))).length bc) ae (by simp only[go_sem,ab,yo]) ⟨I3,B1,rfl,p,ax _,bg _,by simpa using ir.le X f⟩ ?_;rintro⟨k,vo⟩ H ⟨B,N,rfl,g,e,hk,j⟩ w;simp only at hk j;simp only[yo];obtain⟨oa,oc,rfl⟩:=j.shape;have C:=Y f e;have c1:=(q.le C).get (i:=1) rfl;refine av ?_
 try refine⟨O,?_⟩
 refine Xb (l:=[.slice da t.diags.length dc]) rfl (cellsU g (.head _) (by simpa using c1)) (.inr ⟨Bm,rfl⟩) ?_;rcases aB k t.diags.length with y|y
 .have L:=Z5 k t.diags.length;have e2:=Z7 k;obtain⟨x,hx⟩:∃x,t.diags[k]?=some x:=⟨_,aL y⟩;obtain⟨b2,P,cs2,rfl,⟨vx,rfl,Q⟩,s⟩:=Sl.load (R:=bB (aP u)) (fun{I} c a h=>bB.len (I:=I) c a h) (Sl.le (R:=bB (aP u)) (fun{I J c a} h k=>gn h k) T C) hx;obtain⟨xa,xc,rfl,_⟩:=id Q.2;have ag:=HT ((l.take i).flatMap (·.diags)++t.diags.take k);rw[dG,eE]at ag;refine aj L ?_;refine aV [0,1,2,3,4,5,6,7,8,9,10,11,12] [6,9] [] ?_;refine aC ?_
  try refine⟨O,?_⟩
  refine Xc (l:=[.slice (some ⟨b2,P,none⟩) t.diags.length dc]) rfl (cellsU g (.head _) (by simpa using c1)) (.inr ⟨Bm,rfl⟩) ?_;refine aC ?_
  try refine⟨O,?_⟩
  refine Xc (l:=[.int .u8 x.code,.int .i64 x.tok,.slice xa (aF u x.cond).length xc]) (v:=.agg #[.int .u8 x.code,.int .i64 x.tok,.slice xa (aF u x.cond).length xc]) rfl (cellsU g (.head _) (by simpa using s)) (.inl ⟨l6,rfl⟩) ?_;refine aC ?_;refine cv g [1,0] [N] [A3] rfl OT rfl (TU D hp j Q O) ?_;rintro v I5 qs z m⟨B5,rfl,K⟩;obtain⟨pa,pc,rfl⟩:=K.shape;simp only[gR,gk]at z |-;refine aC ?_;apply an;have ex:(l.take i).flatMap (·.diags)++t.diags.take (k+1)=((l.take i).flatMap (·.diags)++t.diags.take k)++[x]:=by rw[cw hx,eD]
  rw[<-ex]at K;refine bq z [1,0] fun al=>?_;refine aj e2 ?_;rw[<-ex];exact w (k+1,.slice pa (cK ((l.take i).flatMap (·.diags)++t.diags.take (k+1))).length pc) _ _ bC ae (by simp only[go_sem,ab,yo]) ⟨I5,B5,rfl,al,Y e m,y,K⟩
 .have:k=t.diags.length:=by omega
  subst this;have L:decide ((t.diags.length:Int)<(t.diags.length:Int))=false:=ai;rw[cB,<-ed]at j;rw[cB,<-ed];rw[<-ek]at A |-;refine bW L e1 ?_;exact F (i+1,.slice ua ((l.take (i+1)).flatMap (·.kids)).length uc,.slice oa (cK ((l.take (i+1)).flatMap (·.diags))).length oc) _ _ bC ae (by simp only[go_sem,ab,ym]) ⟨B,A3,N,rfl,g,Y o C,V,gM.le D hp A e,j⟩
def Pe:ay prog 173:=⟨_,func173,rfl,rfl⟩
def GU:ay prog 174:=⟨_,func174,rfl,rfl⟩
def Ct:ay prog 176:=⟨_,func176,rfl,rfl⟩
def GV:ay prog 177:=⟨_,func177,rfl,rfl⟩
def Pf:ay prog 178:=⟨_,func178,rfl,rfl⟩
def Pg:ay prog 179:=⟨_,func179,rfl,rfl⟩
def Px:ay prog 240:=⟨_,func240,rfl,rfl⟩
def yr:ay prog 241:=⟨_,func241,rfl,rfl⟩
def x5(k:Nat)(H:PH):aJ prog 241 #[.int .u8 k] H fun v H2=>v=.bool (decide (k∈bR))/\H2=H:=by
 refine aG 29 func241 fun w0=>?_;by_cases a:k=19
 .subst a;apply RG;simp only[go_sem,bG];exact au (r:=[_]) rfl ⟨by simp[bR,bT],rfl⟩
 have h:((k:Int) == 19)=false:=beq_eq_false_iff_ne.2 O;by_cases g:k=13
 .subst g;apply RG;simp only[go_sem,bG];exact au (r:=[_]) rfl ⟨by simp[bR,bT],rfl⟩
 have o:((k:Int) == 13)=false:=beq_eq_false_iff_ne.2 O;by_cases f:k=14
 .subst f;apply RG;simp only[go_sem,bG];exact au (r:=[_]) rfl ⟨by simp[bR,bT],rfl⟩
 have n:((k:Int) == 14)=false:=beq_eq_false_iff_ne.2 O;by_cases e:k=15
 .subst e;apply RG;simp only[go_sem,bG];exact au (r:=[_]) rfl ⟨by simp[bR,bT],rfl⟩
 have m:((k:Int) == 15)=false:=beq_eq_false_iff_ne.2 O;by_cases d:k=16
 .subst d;apply RG;simp only[go_sem,bG];exact au (r:=[_]) rfl ⟨by simp[bR,bT],rfl⟩
 have l:((k:Int) == 16)=false:=beq_eq_false_iff_ne.2 O;by_cases c:k=17
 .subst c;apply RG;simp only[go_sem,bG];exact au (r:=[_]) rfl ⟨by simp[bR,bT],rfl⟩
 have j:((k:Int) == 17)=false:=beq_eq_false_iff_ne.2 O;by_cases b:k=18
 .subst b;apply RG;simp only[go_sem,bG];exact au (r:=[_]) rfl ⟨by simp[bR,bT],rfl⟩
 have i:((k:Int) == 18)=false:=beq_eq_false_iff_ne.2 O;apply RG;simp only[go_sem,h,o,n,m,l,j,i];exact au (r:=[_]) rfl ⟨by simp[bR,bT,a,g,f,e,d,c,b],rfl⟩
def Vi(k:Nat)(H:PH):aJ prog 240 #[.int .u8 k] H fun v H2=>v=.bool (decide (k∈dx))/\H2=H:=by
 refine aG 37 func240 fun w0=>?_;by_cases h2:k=2
 .subst h2;apply RG;simp only[go_sem,bG];exact au (r:=[_]) rfl ⟨by simp[dx,bT],rfl⟩
 have s:((k:Int) == 2)=false:=beq_eq_false_iff_ne.2 O;by_cases l:k=7
 .subst l;apply RG;simp only[go_sem,bG];exact au (r:=[_]) rfl ⟨by simp[dx,bT],rfl⟩
 have p:((k:Int) == 7)=false:=beq_eq_false_iff_ne.2 O;by_cases a:k=19
 .subst a;apply RG;simp only[go_sem,bG];exact au (r:=[_]) rfl ⟨by simp[dx,bT],rfl⟩
 have e:((k:Int) == 19)=false:=beq_eq_false_iff_ne.2 O;by_cases j:k=8
 .subst j;apply RG;simp only[go_sem,bG];exact au (r:=[_]) rfl ⟨by simp[dx,bT],rfl⟩
 have o:((k:Int) == 8)=false:=beq_eq_false_iff_ne.2 O;by_cases i:k=9
 .subst i;apply RG;simp only[go_sem,bG];exact au (r:=[_]) rfl ⟨by simp[dx,bT],rfl⟩
 have n:((k:Int) == 9)=false:=beq_eq_false_iff_ne.2 O;by_cases d:k=10
 .subst d;apply RG;simp only[go_sem,bG];exact au (r:=[_]) rfl ⟨by simp[dx,bT],rfl⟩
 have h:((k:Int) == 10)=false:=beq_eq_false_iff_ne.2 O;by_cases c:k=11
 .subst c;apply RG;simp only[go_sem,bG];exact au (r:=[_]) rfl ⟨by simp[dx,bT],rfl⟩
 have g:((k:Int) == 11)=false:=beq_eq_false_iff_ne.2 O;by_cases b:k=12
 .subst b;apply RG;simp only[go_sem,bG];exact au (r:=[_]) rfl ⟨by simp[dx,bT],rfl⟩
 have f:((k:Int) == 12)=false:=beq_eq_false_iff_ne.2 O;by_cases m:k=6
 .subst m;apply RG;simp only[go_sem,bG];exact au (r:=[_]) rfl ⟨by simp[dx,bT],rfl⟩
 have q:((k:Int) == 6)=false:=beq_eq_false_iff_ne.2 O;apply RG;simp only[go_sem,s,p,e,o,n,h,g,f,q];exact au (r:=[_]) rfl ⟨by simp[dx,bT,h2,l,a,j,i,d,c,b,m],rfl⟩
def wg:List (Nat×Nat×(Nat×List Nat)):=[(1,0,(2,[2,3])),(2,0,(0,[5])),(2,1,(1,bR)),(3,0,(2,[4])),(3,1,(1,[5])),(3,2,(0,[6])),(4,0,(0,[5])),(6,0,(2,dx)),(7,0,(0,bR)),(8,0,(0,bR)),(8,1,(0,[6])),(8,2,(1,[6,8])),(9,0,(0,bR)),(9,1,(0,[6])),(10,0,(1,bR)),(11,0,(0,bR)),(12,0,(0,bR)),(13,0,(0,bR)),(13,1,(0,bR)),(14,0,(0,bR)),(19,0,(2,bR))]
variable{ru:Nat×List Nat}
def DF{k s:Nat}(h:(rl k)[s]?=some ru):(k,s,ru)∈wg:=by
 have a:k<20:=by
  refine Nat.lt_of_not_le fun a=>?_;have:rl k=[]:=by
   unfold rl
   repeat rw[ad O]
  rw[this]at h;cases h
 have b:s<3:=by have h1:=(List.getElem?_eq_some_iff.1 h).1;have h2:=DE k;omega
 have key:∀k,k<20->∀s,s<3->(match (rl k)[s]? with|none=>true|some ru=>wg.contains (k,s,ru))=true:=by decide
 have h1:=key k a s b;rw[h]at h1;simpa using h1
set_option maxRecDepth 20000 in
theorem x7{k s b:Nat}{a:List Nat}(hm:(k=1/\s=0/\b=2/\a=[2,3])\/(k=2/\s=0/\b=0/\a=[5])\/(k=2/\s=1/\b=1/\a=bR)\/(k=3/\s=0/\b=2/\a=[4]))(m:Nat)(H:PH):aJ prog 177 #[.int .u8 k,E s,.int .u8 m] H fun v H2=>v=.bool (decide (m∈a))/\H2=H:=by
 refine aG 83 func177 fun w0=>?_;rcases hm with ⟨rfl,rfl,rfl,rfl⟩|⟨rfl,rfl,rfl,rfl⟩|⟨rfl,rfl,rfl,rfl⟩|⟨rfl,rfl,rfl,rfl⟩
 .skip
  by_cases ha:m=2
  .subst ha;apply RG;simp only[go_sem,E,bG];exact au (r:=[_]) rfl ⟨rfl,rfl⟩
  .have c:((m:Int) == 2)=false:=beq_eq_false_iff_ne.2 O;apply RG;simp only[go_sem,E,bG,c];exact au (r:=[.bool ((m:Int) == 3)]) rfl ⟨by show Value.bool _=_;congr 1;rw[Bool.eq_iff_iff,beq_iff_eq,cu,fC,List.mem_singleton];omega,rfl⟩
 .skip
  apply RG;simp only[go_sem,E,bG];exact au (r:=[.bool ((m:Int) == 5)]) rfl ⟨by show Value.bool _=_;congr 1;rw[Bool.eq_iff_iff,beq_iff_eq,cu,List.mem_singleton];omega,rfl⟩
 .skip
  apply RG;simp only[go_sem,E,bG];refine Xa rfl yr (x5 m H) ?_;rintro v H2⟨rfl,rfl⟩;refine af ?_;exact au (r:=[_]) rfl ⟨rfl,rfl⟩
 .skip
  apply RG;simp only[go_sem,E,bG];exact au (r:=[.bool ((m:Int) == 4)]) rfl ⟨by show Value.bool _=_;congr 1;rw[Bool.eq_iff_iff,beq_iff_eq,cu,List.mem_singleton];omega,rfl⟩
set_option maxRecDepth 20000 in
theorem x8{k s b:Nat}{a:List Nat}(hm:(k=3/\s=1/\b=1/\a=[5])\/(k=3/\s=2/\b=0/\a=[6])\/(k=4/\s=0/\b=0/\a=[5])\/(k=6/\s=0/\b=2/\a=dx))(m:Nat)(H:PH):aJ prog 177 #[.int .u8 k,E s,.int .u8 m] H fun v H2=>v=.bool (decide (m∈a))/\H2=H:=by
 refine aG 83 func177 fun w0=>?_;rcases hm with ⟨rfl,rfl,rfl,rfl⟩|⟨rfl,rfl,rfl,rfl⟩|⟨rfl,rfl,rfl,rfl⟩|⟨rfl,rfl,rfl,rfl⟩
 .skip
  apply RG;simp only[go_sem,E,bG];exact au (r:=[.bool ((m:Int) == 5)]) rfl ⟨by show Value.bool _=_;congr 1;rw[Bool.eq_iff_iff,beq_iff_eq,cu,List.mem_singleton];omega,rfl⟩
 .skip
  apply RG;simp only[go_sem,E,bG];exact au (r:=[.bool ((m:Int) == 6)]) rfl ⟨by show Value.bool _=_;congr 1;rw[Bool.eq_iff_iff,beq_iff_eq,cu,List.mem_singleton];omega,rfl⟩
 .skip
  apply RG;simp only[go_sem,E,bG];exact au (r:=[.bool ((m:Int) == 5)]) rfl ⟨by show Value.bool _=_;congr 1;rw[Bool.eq_iff_iff,beq_iff_eq,cu,List.mem_singleton];omega,rfl⟩
 .skip
  apply RG;simp only[go_sem,E,bG];refine Xa rfl Px (Vi m H) ?_;rintro v H2⟨rfl,rfl⟩;refine af ?_;exact au (r:=[_]) rfl ⟨rfl,rfl⟩
set_option maxRecDepth 20000 in
theorem Oj{k s b:Nat}{a:List Nat}(hm:(k=8/\s=0/\b=0/\a=bR))(m:Nat)(H:PH):aJ prog 177 #[.int .u8 k,E s,.int .u8 m] H fun v H2=>v=.bool (decide (m∈a))/\H2=H:=by
 refine aG 83 func177 fun w0=>?_;rcases hm with ⟨rfl,rfl,rfl,rfl⟩
 .skip
  apply RG;simp only[go_sem,E,bG];refine Xa rfl yr (x5 m H) ?_;rintro v H2⟨rfl,rfl⟩;refine af ?_;exact au (r:=[_]) rfl ⟨rfl,rfl⟩
set_option maxRecDepth 20000 in
theorem Ok{k s b:Nat}{a:List Nat}(hm:(k=8/\s=1/\b=0/\a=[6]))(m:Nat)(H:PH):aJ prog 177 #[.int .u8 k,E s,.int .u8 m] H fun v H2=>v=.bool (decide (m∈a))/\H2=H:=by
 refine aG 83 func177 fun w0=>?_;rcases hm with ⟨rfl,rfl,rfl,rfl⟩
 .skip
  apply RG;simp only[go_sem,E,bG];exact au (r:=[.bool ((m:Int) == 6)]) rfl ⟨by show Value.bool _=_;congr 1;rw[Bool.eq_iff_iff,beq_iff_eq,cu,List.mem_singleton];omega,rfl⟩
set_option maxRecDepth 20000 in
theorem Ol{k s b:Nat}{a:List Nat}(hm:(k=8/\s=2/\b=1/\a=[6,8]))(m:Nat)(H:PH):aJ prog 177 #[.int .u8 k,E s,.int .u8 m] H fun v H2=>v=.bool (decide (m∈a))/\H2=H:=by
 refine aG 83 func177 fun w0=>?_;rcases hm with ⟨rfl,rfl,rfl,rfl⟩
 .skip
  by_cases ha:m=6
  .subst ha;apply RG;simp only[go_sem,E,bG];exact au (r:=[_]) rfl ⟨rfl,rfl⟩
  .have c:((m:Int) == 6)=false:=beq_eq_false_iff_ne.2 O;apply RG;simp only[go_sem,E,bG,c];exact au (r:=[.bool ((m:Int) == 8)]) rfl ⟨by show Value.bool _=_;congr 1;rw[Bool.eq_iff_iff,beq_iff_eq,cu,fC,List.mem_singleton];omega,rfl⟩
set_option maxRecDepth 20000 in
theorem Om{k s b:Nat}{a:List Nat}(hm:(k=9/\s=0/\b=0/\a=bR))(m:Nat)(H:PH):aJ prog 177 #[.int .u8 k,E s,.int .u8 m] H fun v H2=>v=.bool (decide (m∈a))/\H2=H:=by
 refine aG 83 func177 fun w0=>?_;rcases hm with ⟨rfl,rfl,rfl,rfl⟩
 .skip
  apply RG;simp only[go_sem,E,bG];refine Xa rfl yr (x5 m H) ?_;rintro v H2⟨rfl,rfl⟩;refine af ?_;exact au (r:=[_]) rfl ⟨rfl,rfl⟩
set_option maxRecDepth 20000 in
theorem On{k s b:Nat}{a:List Nat}(hm:(k=9/\s=1/\b=0/\a=[6]))(m:Nat)(H:PH):aJ prog 177 #[.int .u8 k,E s,.int .u8 m] H fun v H2=>v=.bool (decide (m∈a))/\H2=H:=by
 refine aG 83 func177 fun w0=>?_;rcases hm with ⟨rfl,rfl,rfl,rfl⟩
 .skip
  apply RG;simp only[go_sem,E,bG];exact au (r:=[.bool ((m:Int) == 6)]) rfl ⟨by show Value.bool _=_;congr 1;rw[Bool.eq_iff_iff,beq_iff_eq,cu,List.mem_singleton];omega,rfl⟩
set_option maxRecDepth 20000 in
theorem o7{k s:Nat}(h:k≠1/\k≠2/\k≠3/\k≠4/\k≠6/\k≠8/\k≠9)(m:Nat)(H:PH):aJ prog 177 #[.int .u8 k,E s,.int .u8 m] H fun v H2=>v=.bool (decide (m∈bR))/\H2=H:=by refine aG 83 func177 fun w0=>?_;have g:((k:Int) == 1)=false:=beq_eq_false_iff_ne.2 O;have f:((k:Int) == 2)=false:=beq_eq_false_iff_ne.2 O;have e:((k:Int) == 3)=false:=beq_eq_false_iff_ne.2 O;have d:((k:Int) == 4)=false:=beq_eq_false_iff_ne.2 O;have c:((k:Int) == 6)=false:=beq_eq_false_iff_ne.2 O;have b:((k:Int) == 8)=false:=beq_eq_false_iff_ne.2 O;have a:((k:Int) == 9)=false:=beq_eq_false_iff_ne.2 O;apply RG;simp only[go_sem,E,g,f,e,d,c,b,a];refine Xa rfl yr (x5 m H) ?_;rintro v H2⟨rfl,rfl⟩;refine af ?_;exact au (r:=[_]) rfl ⟨rfl,rfl⟩
def Oi{k s:Nat}(hr:(rl k)[s]?=some ru)(m:Nat)(H:PH):aJ prog 177 #[.int .u8 k,E s,.int .u8 m] H fun v H2=>v=.bool (decide (m∈ru.2))/\H2=H:=by
 obtain⟨b,a⟩:=ru;have hm:=DF hr;simp only[wg,fC,dH,or_false,eL]at hm;rcases hm with h|h|h|h|h|h|h|h|h|h|h|h|h|h|h|h|h|h|h|h|h
 .exact x7 (.inl h) m H
 .exact x7 (.inr (.inl h)) m H
 .exact x7 (.inr (.inr (.inl h))) m H
 .exact x7 (.inr (.inr (.inr (h)))) m H
 .exact x8 (.inl h) m H
 .exact x8 (.inr (.inl h)) m H
 .exact x8 (.inr (.inr (.inl h))) m H
 .exact x8 (.inr (.inr (.inr (h)))) m H
 .obtain⟨rfl,rfl,rfl,rfl⟩:=h;exact o7 aR m H
 .exact Oj (h) m H
 .exact Ok (h) m H
 .exact Ol (h) m H
 .exact Om (h) m H
 .exact On (h) m H
 .obtain⟨rfl,rfl,rfl,rfl⟩:=h;exact o7 aR m H
 .obtain⟨rfl,rfl,rfl,rfl⟩:=h;exact o7 aR m H
 .obtain⟨rfl,rfl,rfl,rfl⟩:=h;exact o7 aR m H
 .obtain⟨rfl,rfl,rfl,rfl⟩:=h;exact o7 aR m H
 .obtain⟨rfl,rfl,rfl,rfl⟩:=h;exact o7 aR m H
 .obtain⟨rfl,rfl,rfl,rfl⟩:=h;exact o7 aR m H
 .obtain⟨rfl,rfl,rfl,rfl⟩:=h;exact o7 aR m H
set_option maxRecDepth 20000 in
theorem SF{k s:Nat}{a:Nat×List Nat}(hr:(rl k)[s]?=some a)(H:PH):aJ prog 178 #[.int .u8 k,E s] H fun v H2=>v=.bool (decide (a.1=2))/\H2=H:=by
 obtain⟨c,b⟩:=a;refine aG 23 func178 fun w0=>?_;have hm:=DF hr;simp only[wg,fC,dH,or_false,eL]at hm;rcases hm with ⟨rfl,rfl,rfl,rfl⟩|⟨rfl,rfl,rfl,rfl⟩|⟨rfl,rfl,rfl,rfl⟩|⟨rfl,rfl,rfl,rfl⟩|⟨rfl,rfl,rfl,rfl⟩|⟨rfl,rfl,rfl,rfl⟩|⟨rfl,rfl,rfl,rfl⟩|⟨rfl,rfl,rfl,rfl⟩|⟨rfl,rfl,rfl,rfl⟩|⟨rfl,rfl,rfl,rfl⟩|⟨rfl,rfl,rfl,rfl⟩|⟨rfl,rfl,rfl,rfl⟩|⟨rfl,rfl,rfl,rfl⟩|⟨rfl,rfl,rfl,rfl⟩|⟨rfl,rfl,rfl,rfl⟩|⟨rfl,rfl,rfl,rfl⟩|⟨rfl,rfl,rfl,rfl⟩|⟨rfl,rfl,rfl,rfl⟩|⟨rfl,rfl,rfl,rfl⟩|⟨rfl,rfl,rfl,rfl⟩|⟨rfl,rfl,rfl,rfl⟩
 all_goals
  apply RG;simp only[go_sem,E,bG];exact au (r:=[_]) rfl ⟨rfl,rfl⟩
set_option maxRecDepth 20000 in
theorem SI{k s:Nat}{a:Nat×List Nat}(hr:(rl k)[s]?=some a)(H:PH):aJ prog 179 #[.int .u8 k,E s] H fun v H2=>v=.bool (decide (a.1=1))/\H2=H:=by
 obtain⟨c,b⟩:=a;refine aG 31 func179 fun w0=>?_;have hm:=DF hr;simp only[wg,fC,dH,or_false,eL]at hm;rcases hm with ⟨rfl,rfl,rfl,rfl⟩|⟨rfl,rfl,rfl,rfl⟩|⟨rfl,rfl,rfl,rfl⟩|⟨rfl,rfl,rfl,rfl⟩|⟨rfl,rfl,rfl,rfl⟩|⟨rfl,rfl,rfl,rfl⟩|⟨rfl,rfl,rfl,rfl⟩|⟨rfl,rfl,rfl,rfl⟩|⟨rfl,rfl,rfl,rfl⟩|⟨rfl,rfl,rfl,rfl⟩|⟨rfl,rfl,rfl,rfl⟩|⟨rfl,rfl,rfl,rfl⟩|⟨rfl,rfl,rfl,rfl⟩|⟨rfl,rfl,rfl,rfl⟩|⟨rfl,rfl,rfl,rfl⟩|⟨rfl,rfl,rfl,rfl⟩|⟨rfl,rfl,rfl,rfl⟩|⟨rfl,rfl,rfl,rfl⟩|⟨rfl,rfl,rfl,rfl⟩|⟨rfl,rfl,rfl,rfl⟩|⟨rfl,rfl,rfl,rfl⟩
 all_goals
  apply RG;simp only[go_sem,E,bG];exact au (r:=[_]) rfl ⟨rfl,rfl⟩
def DY{k:Nat}(b:1<=k/\k<=19)(H:PH):aJ prog 176 #[.int .u8 k] H fun v H2=>v=E (rl k).length/\H2=H:=by
 refine aG 21 func176 fun w0=>?_;have a:k=1\/k=2\/k=3\/k=4\/k=5\/k=6\/k=7\/k=8\/k=9\/k=10\/k=11\/k=12\/k=13\/k=14\/k=15\/k=16\/k=17\/k=18\/k=19:=O;rcases a with rfl|rfl|rfl|rfl|rfl|rfl|rfl|rfl|rfl|rfl|rfl|rfl|rfl|rfl|rfl|rfl|rfl|rfl|rfl
 all_goals
  apply RG;simp only[go_sem,bG];exact au (r:=[_]) rfl ⟨rfl,rfl⟩
def Jg{H:PH}{va vb:Value}{la lb:List Nat}(h1:dh H va la)(h2:dh H vb lb)(D:la.length<2^60):aJ prog 174 #[va,vb] H fun r H2=>(∃b:Bool,r=.bool b/\(b=true<->la=lb))/\H2=H:=by
 obtain⟨a1,A,rfl,_⟩:=id h1;obtain⟨a2,c2,rfl,_⟩:=id h2;refine aG 26 func174 fun w0=>?_;cases m:((la.length:Int) != (lb.length:Int))
 rotate_left
 .apply RG;simp only[go_sem,m];exact au (r:=[_]) rfl ⟨⟨false,rfl,fun h=>(by cases h),fun h=>by subst h;simp at m⟩,rfl⟩
 have q:la.length=lb.length:=by have:=bne_eq_false_iff_eq.1 m;omega
 apply RG;simp only[go_sem,m];refine bz (fun x=>la.length-x) (xS (.slice a1 la.length A) (.slice a2 lb.length c2)) (fun i H2=>H2=H/\i<=la.length/\la.take i=lb.take i) 0 ae (by simp only[go_sem,ab,xS]) ⟨rfl,bg _,by simp⟩ ?_;rintro i H2 ⟨rfl,hi,f⟩ e;simp only[xS];rcases aB i la.length with j|u
 .have g:=Z5 i la.length;have v:=Z7 i;obtain⟨x,p⟩:∃x,la[i]?=some x:=⟨_,aL j⟩;obtain⟨y,k⟩:∃y,lb[i]?=some y:=⟨_,aL O⟩;obtain⟨b1,C,z,rfl,⟨rfl,_⟩,t⟩:=Sl.load (fun{I} c a h=>cG.len (I:=I) c a h) h1 p;obtain⟨b2,B,w,rfl,⟨rfl,_⟩,s⟩:=Sl.load (fun{I} c a h=>cG.len (I:=I) c a h) h2 k;refine aj g ?_;refine aV [0,1,2,3,4,5,6,7,8] [3,7] [] ?_;refine aC ?_
  try refine⟨O,?_⟩
  refine Xc (l:=[.int .u32 x]) rfl (by simpa using t) (.inr ⟨dz,rfl⟩) ?_;refine aC ?_
  try refine⟨O,?_⟩
  refine Xc (l:=[.int .u32 y]) rfl (by simpa using s) (.inr ⟨dz,rfl⟩) ?_;cases d:((x:Int) != (y:Int))
  .refine aM d ?_;apply an;refine aj v ?_;have o:x=y:=by have:=bne_eq_false_iff_eq.1 d;omega
   exact e (i+1) _ _ O ae (by simp only[go_sem,ab,xS]) ⟨rfl,j,by rw[cw p,cw k,f,o]⟩
  .refine aM d ?_;apply an;refine av ?_;exact au (r:=[_]) rfl ⟨⟨false,rfl,fun h=>(by cases h),fun h=>by subst h;rw[p]at k;cases k;simp at d⟩,rfl⟩
 .have:i=la.length:=by omega
  subst this;rw[cB,q,cB]at f;have g:decide ((la.length:Int)<(la.length:Int))=false:=ai;refine aj g ?_;exact au (r:=[_]) rfl ⟨⟨true,rfl,fun _=>f,fun _=>rfl⟩,rfl⟩
def Sf(x:aE):py x 0 km=if fI x=9 then -1 else (fI x:Int):=by
 unfold fI;simp only[py,km];by_cases b:x=rg
 .subst b;decide
 by_cases h1:x=qT
 .subst h1;decide
 rw[ad (by simpa using b),ad (by simpa using h1),ad b,ad h1];by_cases h2:[qW,rf,q8,q7,qZ,qY].contains x=true
 .rw[ak h2,ak h2];rfl
 rw[ad h2,ad h2];by_cases h3:x=rh\/x=mK
 .rw[ak (by simpa using h3),ak h3];rfl
 rw[ad (by simpa using h3),ad h3];by_cases a:[re,qV,q9].contains x=true
 .rw[ak a,ak a];rfl
 rw[ad a,ad a];rfl
def W2{k:Nat}{x:aE}(m:x.length<2^40)(g:1<=k/\k<=19):aI prog 173 #[.int .u8 k,.string ⟨⟨x⟩⟩] I [] fun r I2 qs=>qs=[]/\∃b:Bool,r=.bool b/\(b=true<->n6 FB k x):=by
 have j:∀{k:Nat},(k=2\/k=3\/k=4\/k=7\/k=18\/k=19)->aI prog 173 #[.int .u8 k,.string ⟨⟨x⟩⟩] I [] fun r I2 qs=>qs=[]/\∃b:Bool,r=.bool b/\(b=true<->FB 1 x/\fG x=false):=by
  intro k g hd;refine aG 55 func173 fun w0=>?_;rcases g with rfl|rfl|rfl|rfl|rfl|rfl
  all_goals
   apply RG;simp only[go_sem,bG];refine Xa rfl O2 (QY x O _) ?_;rintro v H2⟨rfl,rfl⟩;cases h1:fV x
   .refine af ?_;exact ao rfl hd (r:=[_]) rfl (ax _) ⟨rfl,false,rfl,fun h=>(by cases h),fun h=>by have:=h.1;unfold FB at this;rw[Gs,h1]at this;cases this⟩
   .refine af ?_;refine dq hd rfl Pw (WM x I) ?_;rintro i l qs c a⟨rfl,rfl⟩;refine af ?_;exact ao rfl c (r:=[.bool (!fG x)]) rfl a ⟨rfl,_,rfl,fun h=>⟨by unfold FB;rw[Gs,h1],by simpa using h⟩,fun h=>by rw[h.2];rfl⟩
 have rest:∀{k:Nat},(k=1\/k=6\/k=8\/k=9\/k=10\/k=11\/k=12\/k=17)->aI prog 173 #[.int .u8 k,.string ⟨⟨x⟩⟩] I [] fun r I2 qs=>qs=[]/\∃b:Bool,r=.bool b/\(b=true<->x=[]):=by
  intro k g hd;refine aG 55 func173 fun w0=>?_;rcases g with rfl|rfl|rfl|rfl|rfl|rfl|rfl|rfl
  all_goals
   apply RG;simp only[go_sem,bG];exact ao rfl hd (r:=[.bool (x == [])]) rfl (ax _) ⟨rfl,_,rfl,beq_iff_eq⟩
 have d:(k=2\/k=3\/k=4\/k=7\/k=18\/k=19)\/(k=1\/k=6\/k=8\/k=9\/k=10\/k=11\/k=12\/k=17)\/k=5\/k=13\/k=14\/k=15\/k=16:=O;have imp:∀{P Q:Prop},(P<->Q)->aI prog 173 #[.int .u8 k,.string ⟨⟨x⟩⟩] I [] (fun r I2 qs=>qs=[]/\∃b:Bool,r=.bool b/\(b=true<->P))->aI prog 173 #[.int .u8 k,.string ⟨⟨x⟩⟩] I [] (fun r I2 qs=>qs=[]/\∃b:Bool,r=.bool b/\(b=true<->Q)):=fun e h=>h.mono fun r I2 qs _ f=>let ⟨h1,b,h2,h3⟩:=f;⟨h1,b,h2,h3.trans e⟩
 rcases d with d|d|rfl|rfl|rfl|rfl|rfl
 .refine imp ?_ (j d);unfold n6;rw[ak d]
 .refine imp ?_ (rest d);unfold n6;rw[ad O,ad O,ad O,ad O,ad O,ad O]
 .show aI prog 173 #[.int .u8 (5:Nat),.string ⟨⟨x⟩⟩] I [] fun r I2 qs=>qs=[]/\∃b:Bool,r=.bool b/\(b=true<->x=q6\/x=qU);intro hd;refine aG 55 func173 fun w0=>?_;cases e:(x == [105,110,116])
  .apply RG;simp only[go_sem,bG,e];exact ao rfl hd (r:=[.bool (x == [98,111,111,108])]) rfl (ax _) ⟨rfl,_,rfl,fun h=>.inr (beq_iff_eq.1 h),fun h=>h.elim (fun h=>absurd (show (x == [105,110,116])=true from beq_iff_eq.2 h) (by rw[e];simp)) fun h=>beq_iff_eq.2 h⟩
  .apply RG;simp only[go_sem,bG,e];exact ao rfl hd (r:=[_]) rfl (ax _) ⟨rfl,true,rfl,fun _=>.inl (beq_iff_eq.1 e),fun _=>rfl⟩
 .show aI prog 173 #[.int .u8 (13:Nat),.string ⟨⟨x⟩⟩] I [] fun r I2 qs=>qs=[]/\∃b:Bool,r=.bool b/\(b=true<->fI x≠9);intro hd;refine aG 55 func173 fun w0=>?_;apply RG;simp only[go_sem,bG];refine dq hd rfl O4 (Sg x I) ?_;rintro i l qs c a⟨rfl,rfl⟩;refine af ?_;exact ao rfl c (r:=[.bool (decide (py x 0 km>=0))]) rfl a ⟨rfl,_,rfl,by rw[cu,Sf];split<;>omega⟩
 .show aI prog 173 #[.int .u8 (14:Nat),.string ⟨⟨x⟩⟩] I [] fun r I2 qs=>qs=[]/\∃b:Bool,r=.bool b/\(b=true<->x=Ei\/x=mK);intro hd;refine aG 55 func173 fun w0=>?_;cases e:(x == [33])
  .apply RG;simp only[go_sem,bG,e];exact ao rfl hd (r:=[.bool (x == [45])]) rfl (ax _) ⟨rfl,_,rfl,fun h=>.inr (beq_iff_eq.1 h),fun h=>h.elim (fun h=>absurd (show (x == [33])=true from beq_iff_eq.2 h) (by rw[e];simp)) fun h=>beq_iff_eq.2 h⟩
  .apply RG;simp only[go_sem,bG,e];exact ao rfl hd (r:=[_]) rfl (ax _) ⟨rfl,true,rfl,fun _=>.inl (beq_iff_eq.1 e),fun _=>rfl⟩
 .show aI prog 173 #[.int .u8 (15:Nat),.string ⟨⟨x⟩⟩] I [] fun r I2 qs=>qs=[]/\∃b:Bool,r=.bool b/\(b=true<->iD 2 x=true);intro hd;refine aG 55 func173 fun w0=>?_;apply RG;simp only[go_sem,bG];refine Xa rfl O3 (Q0 x O _) ?_;rintro v H2⟨rfl,rfl⟩;refine af ?_;exact ao rfl hd (r:=[.bool (kr x)]) rfl (ax _) ⟨rfl,_,rfl,by rw[Of,Ir]⟩
 .show aI prog 173 #[.int .u8 (16:Nat),.string ⟨⟨x⟩⟩] I [] fun r I2 qs=>qs=[]/\∃b:Bool,r=.bool b/\(b=true<->x=rk\/x=qX);intro hd;refine aG 55 func173 fun w0=>?_;cases e:(x == [116,114,117,101])
  .apply RG;simp only[go_sem,bG,e];exact ao rfl hd (r:=[.bool (x == [102,97,108,115,101])]) rfl (ax _) ⟨rfl,_,rfl,fun h=>.inr (beq_iff_eq.1 h),fun h=>h.elim (fun h=>absurd (show (x == [116,114,117,101])=true from beq_iff_eq.2 h) (by rw[e];simp)) fun h=>beq_iff_eq.2 h⟩
  .apply RG;simp only[go_sem,bG,e];exact ao rfl hd (r:=[_]) rfl (ax _) ⟨rfl,true,rfl,fun _=>.inl (beq_iff_eq.1 e),fun _=>rfl⟩
end Go.Proofs.YtfaclfkpnmcmlaaGreatDoor
namespace Go.Sx
open Go
def B0(id:Nat):Code->List Item->Option (List Item)
 | .block i b,k=>if i=id then some (.code b::.inBlock i::k)else none
 | .seq a b,k=>match B0 id a (.code b::k)with
  |some r=>some r
  |none=>B0 id b k
 |_,_=>none
def pQ(f:Func)(id:Nat):Option (List Item):=match f.body with
 |some c=>B0 id c []
 |none=>none
def qz(id:Nat):Code->Option Code
 | .region i ops d=>if i=id then some (.region i ops d)else none
 | .seq a b=>match qz id a with
  |some r=>some r
  |none=>qz id b
 | .cond _ a b=>match qz id a with
  |some r=>some r
  |none=>qz id b
 | .block _ b=>qz id b
 | .loop b=>qz id b
 |_=>none
def nU(f:Func)(id:Nat):Option Code:=match f.body with
 |some c=>qz id c
 |none=>none
section
variable {C:Cx} {K:List Item} {σ:St} {H:PH} {f:Func} {id:Nat}
def xf(h:pQ f id=some K)(k:RC C (.st K) σ H):RC C (.st ((pQ f id).getD [])) σ H:=by rw[h];exact k
def xh(h:pQ f id=some K)(ht:σ=σ)(k:RC C (.st ((pQ f id).getD [])) σ H):RC C (.st K) σ H:=by rw[h]at k;exact k
def KF{a:Item}{α:Type}(S:α->St)(Q:α->PH->Prop)(h1:(∀x σ' H,Q x H->fj (S x).tm σ'.tm->gH (S x).bx σ'.bx->RC C (.st K) σ' H)->RC C (.st (a::K)) σ H)(h2:∀x H,Q x H->RC C (.st K) (S x) H):RC C (.st (a::K)) σ H:=qg S Q h1 h2
def xj{c:Code}(h:nU f id=some c)(k:RC C (.st (.code c::K)) σ H):RC C (.st (.code ((nU f id).getD .skip)::K)) σ H:=by rw[h];exact k
def KN{c:Code}(h:nU f id=some c)(k:RC C (.st (.code ((nU f id).getD .skip)::K)) σ H):RC C (.st (.code c::K)) σ H:=by rw[h]at k;exact k
end
end Go.Sx
