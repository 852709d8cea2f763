import Derived.Test.YtfaclfkpnmcmlaaGreatDoorG03
import Derived.Test.YtfaclfkpnmcmlaaGreatDoorG04
import Derived.Test.YtfaclfkpnmcmlaaGreatDoorG08
import Derived.Test.YtfaclfkpnmcmlaaGreatDoorG09
import Derived.Test.YtfaclfkpnmcmlaaGreatDoorG12
import Derived.Test.YtfaclfkpnmcmlaaGreatDoorG13
import Derived.Test.YtfaclfkpnmcmlaaGreatDoorG16
import Derived.Test.YtfaclfkpnmcmlaaGreatDoorG18
import Derived.Test.YtfaclfkpnmcmlaaGreatDoorG21
import Derived.Test.YtfaclfkpnmcmlaaGreatDoorG22
import Derived.Test.YtfaclfkpnmcmlaaGreatDoorG23
import Derived.Test.YtfaclfkpnmcmlaaGreatDoorG24
import Derived.Test.YtfaclfkpnmcmlaaGreatDoorG25
set_option maxHeartbeats 8000000
set_option linter.all false
open Go.Proofs.Tryz hiding f8 t8
namespace Go.Sx
open Go
section
variable {P:Program} {ol:List Oper} {fr:bI} {str:bJ} {K:St->PH->Prop}
variable{q:Nat}{ops:Array Oper}{w0:World}{rr:Option Nat}
def VV{n0:Nat}{H0:PH}(hn:n0=w0.heap.size){cl:List (List Nat)}(S:pE ops.toList cl=true){p:Nat}{r m1 m2:List Nat}
  (a4:r.all (fun i=>(cl.getD i []).contains p || (cl.getD i []).contains q)=true) (R:∀i,i∈m1<->i=q\/i∈r) (a7:∀i,i∈m2<->i=p\/i∈r) :
  ∀(d:Nat) (κ:List Nat) (listed:Array Bool) {σ:St} {H:PH} {a:Act} {w:World},(κ++p::m1).length<=d->(κ++q::m2).length<=d->
   cL ops.toList cl fr str (κ++m1)=true->cL ops.toList cl fr str (κ++m2)=true->iV ops.toList cl fr str p κ=true->iV ops.toList cl fr str q κ=true->cL ops.toList cl fr str κ=true->p∉κ++m1->q∉κ++m2->
   Inv ops (κ++p::m1) listed->dy σ.bx->VD P ops.toList fr str (fun σ H=>VD P ops.toList fr str K (p::m1) σ H/\VD P ops.toList fr str K (q::m2) σ H) κ σ H->bN H0 w0 H w->G n0 σ H a w->wpAnyIn (FR rr) 0 P .any ops (QK n0 H0 w0 K) d listed a w:=by
 have T:∀i:Nat,ops[i]?=ops.toList[i]?:=fun i=>by simp
 have m:∀{listed:Array Bool} {x:Nat},listed.getD x false=true->listed.getD x true=false->False:=by
  intro listed x h1 h2;rw[en]at h1 h2;cases hg:listed[x]? with
  |none=>rw[hg]at h1;cases h1
  |some b=>rw[hg]at h1 h2;simp only[lp]at h1 h2;rw[h1]at h2;cases h2
 intro d
 induction d with
 |zero=>intro κ listed σ H a w f;simp at f
 |succ d ih=>
  intro κ listed σ H a w f n Z W a0 aq a5 N am B U h st g;refine⟨fun hr=>?_,fun i hi=>?_⟩
  .have:=In S B hr;simp at this
  .obtain⟨h1,h2,oi,M,j⟩:=(Dz listed i).1 hi;have c:ops.toList[i]?=some oi:=by rw[<-T];exact M
   have ba:i∈κ++p::m1:=(B.mem i).2 ⟨h1,h2⟩;have D:=xz S (L:=fun x=>listed.getD x false=true) B.closed (i+1) i O oi c j;have bub:∀(l:List Nat),(∀x∈l,x∈κ)->iV ops.toList cl fr str i l=true->∀x∈l,∃ox,ops.toList[x]?=some ox/\pR ops.toList (fr.at' x) (str.at' x) (str.at' i) ox oi=true:=by
    intro l hl hb x z;have:=List.all_eq_true.1 hb x z;simp only[im]at this;rcases this with A|A
    .exact(m (D x (by simpa using A)) ((B.mem x).1 (dk _ (hl x z))).2).elim
    .split at A
     .rename_i ox oy e1 e2;rw[c]at e2;cases e2;exact⟨ox,e1,A⟩
     .cases A
   have fin:∀(u:Nat) (s:List Nat),i=u->(∀x,x∈κ++u::s<->x∈κ++p::m1)->(κ++u::s).length<=d+1->cL ops.toList cl fr str (κ++s)=true->iV ops.toList cl fr str u κ=true->u∉κ++s->VD P ops.toList fr str (VD P ops.toList fr str K (u::s)) κ σ H->
     wpOpIn (FR rr) 0 P ops (QK n0 H0 w0 K) i (wpAnyIn (FR rr) 0 P .any ops (QK n0 H0 w0 K) d (listed.setIfInBounds i true)) a w:=by
    intro u s e ac f hp hb aa hv;subst e;have bb:=B.perm ac;have a3:=(Bb (K:=K) κ (i::s)).2 hv;have a1:=sm (K:=K) (P:=P) c κ s U (bub κ (fun _ h=>h) hb) a3;simp only[VD,c]at a1;have I:=(qj (K':=fun σ' H'=>dy σ'.bx/\VD P ops.toList fr str K (κ++s) σ' H') (fun σ' H' J h'=>⟨J,h'⟩) U a1).toV;have o:=bb.step aa c j;refine qm M hn (fun σ' H' a' w' t F g'=>?_) I st g;exact Bs hn rfl S d (κ++s) _ (by simp at f |-;omega) o.size hp o.mem o.closed t.1 t.2 F g'
   have Q:∀x,x∈κ++q::m2<->x∈κ++p::m1:=fun x=>by
    simp only[gS,fC,R,a7];constructor
    .rintro(h|h|h|h)
     .exact .inl h
     .exact .inr (.inr (.inl h))
     .exact .inr (.inl h)
     .exact .inr (.inr (.inr h))
    .rintro(h|h|h|h)
     .exact .inl h
     .exact .inr (.inr (.inl h))
     .exact .inr (.inl h)
     .exact .inr (.inr (.inr h))
   rcases List.mem_append.1 ba with t|t
   .obtain⟨y,v,rfl⟩:=List.append_of_mem t;have X:cL ops.toList cl fr str (y++i::(v++m1))=true:=by simpa using Z
    have V:cL ops.toList cl fr str (y++i::(v++m2))=true:=by simpa using W
    obtain⟨_,pb,pc⟩:=pI X;obtain⟨_,pb2,pc2⟩:=pI V;obtain⟨pk,pbk,pck⟩:=pI a5;have hb:=sm (K:=fun σ H=>VD P ops.toList fr str K (p::m1) σ H/\VD P ops.toList fr str K (q::m2) σ H) (P:=P) c y v U (fun x z=>by
     rcases pk x z with a2|⟨ox,oy,e1,e2,e3⟩
     .exact(m (D x a2) ((B.mem x).1 (dk _ (dk _ z))).2).elim
     .rw[c]at e2;cases e2;exact⟨ox,e1,e3⟩) h
    simp only[VD,c]at hb;have I:=(qj (K':=fun σ' H'=>dy σ'.bx/\VD P ops.toList fr str (fun σ H=>VD P ops.toList fr str K (p::m1) σ H/\VD P ops.toList fr str K (q::m2) σ H) (y++v) σ' H') (fun σ' H' J h'=>⟨J,h'⟩) U (by simpa only[VD]using hb)).toV;have a9:i≠p:=fun e=>by subst e;exact N ai
    have a6:i∉(y++v)++p::m1:=by
     intro hm;simp only[eD,gS,fC]at hm pc;rcases hm with h|h|h|h
     .exact pc (.inl h)
     .exact pc (.inr (.inl h))
     .exact a9 h
     .exact pc (.inr (.inr h))
    have bc:Inv ops (y++i::(v++p::m1)) listed:=B.perm fun x=>by simp
    have o:=bc.step (by simpa using a6) c j;have al:iV ops.toList cl fr str p (y++v)=true:=List.all_eq_true.2 fun x z=>List.all_eq_true.1 a0 x (by
     rcases List.mem_append.1 z with h|h
     .exact dk _ h
     .exact eo _ (.tail _ h))
    have ag:iV ops.toList cl fr str q (y++v)=true:=List.all_eq_true.2 fun x z=>List.all_eq_true.1 aq x (by
     rcases List.mem_append.1 z with h|h
     .exact dk _ h
     .exact eo _ (.tail _ h))
    refine qm M hn (fun σ' H' a' w' ap F g'=>?_) I st g;refine ih (y++v) _ (by simp at f |-;omega) (by simp at n |-;omega) (by simpa using pb) (by simpa using pb2) al ag pbk (fun hm=>N ?_) (fun hm=>am ?_) (by simpa using o) ap.1 ap.2 F g'
    .simp only[eD,gS,fC]at hm |-;rcases hm with h|h|h
     .exact .inl h
     .exact .inr (.inl (.inr h))
     .exact .inr (.inr h)
    .simp only[eD,gS,fC]at hm |-;rcases hm with h|h|h
     .exact .inl h
     .exact .inr (.inl (.inr h))
     .exact .inr (.inr h)
   .rcases List.mem_cons.1 t with e|t
    .exact fin p m1 e (fun x=>Iff.rfl) f Z a0 N (rV (fun σ' H' _ h=>h.1) κ U h)
    .rcases(R i).1 t with e|t
     .exact fin q m2 e Q n W aq am (rV (fun σ' H' _ h=>h.2) κ U h)
     .exfalso;have:=List.all_eq_true.1 a4 i t;simp only[im]at this;rcases this with A|A
      .exact m (D p (by simpa using A)) ((B.mem p).1 ai).2
      .exact m (D q (by simpa using A)) ((B.mem q).1 (by simp[R])).2
def vJ(ol:List Oper)(κ:List Nat)(p q:Nat)(r m1 a:List Nat)(fr:bI)(str:bJ):Bool:=
 pE ol (fg ol) && (List.range ol.length).all ((κ++p::m1).contains ·) && decide (p<ol.length) && decide (q<ol.length) &&
 r.all (fun i=>((fg ol).getD i []).contains p || ((fg ol).getD i []).contains q) && (m1.all (fun i=>i == q || r.contains i) && (q::r).all (m1.contains ·)) && (a.all (fun i=>i == p || r.contains i) && (p::r).all (a.contains ·)) &&
 cL ol (fg ol) fr str (κ++m1) && cL ol (fg ol) fr str (κ++a) && iV ol (fg ol) fr str p κ && iV ol (fg ol) fr str q κ && cL ol (fg ol) fr str κ &&
 !(κ++m1).contains p && !(κ++a).contains q
def H5{m r:List Nat}(h:(m.all (fun i=>i == q || r.contains i) && (q::r).all (m.contains ·))=true)(i:Nat):i∈m<->i=q\/i∈r:=by
 rw[bu]at h;constructor
 .intro hi;have:=List.all_eq_true.1 h.1 i hi;simpa using this
 .intro hi;have:=List.all_eq_true.1 h.2 i (List.mem_cons.2 hi);simpa using this
def NR{n0:Nat}{H0:PH}(S:n0=w0.heap.size)(hm:P.follows .mixedOrders=true){id:Nat}{κ:List Nat}{p:Nat}{r m1 m2:List Nat}(c:vJ ops.toList κ p q r m1 m2 fr str=true){σ:St}{H:PH}{a:Act}{w:World}
  (R:dy σ.bx) (h:VD P ops.toList fr str (fun σ H=>VD P ops.toList fr str K (p::m1) σ H/\VD P ops.toList fr str K (q::m2) σ H) κ σ H) (st:bN H0 w0 H w) (g:G n0 σ H a w):(Code.region id ops true).wpIn (FR rr) 0 P (QK n0 H0 w0 K) a w:=by
 simp only[vJ,bu (a:=_ && _) (b:=!_),cu,g8]at c;obtain⟨⟨c,D⟩,B⟩:=c;obtain⟨c,A⟩:=Bool.and_eq_true_iff.1 c;obtain⟨c,L⟩:=Bool.and_eq_true_iff.1 c;obtain⟨c,M⟩:=Bool.and_eq_true_iff.1 c;obtain⟨c,s⟩:=Bool.and_eq_true_iff.1 c;obtain⟨c,d⟩:=Bool.and_eq_true_iff.1 c;obtain⟨c,e2⟩:=Bool.and_eq_true_iff.1 c;obtain⟨c,T⟩:=Bool.and_eq_true_iff.1 c;obtain⟨c,z⟩:=Bool.and_eq_true_iff.1 c;obtain⟨c,m⟩:=Bool.and_eq_true_iff.1 c;obtain⟨c,n⟩:=Bool.and_eq_true_iff.1 c;obtain⟨h1,h2⟩:=Bool.and_eq_true_iff.1 c;have n:=eF n;have m:=eF m;have I:=H5 T;have F:=H5 e2;have j:p∉κ++m1:=by simpa using D
 have f:q∉κ++m2:=by simpa using B
 have mem:∀(l:List Nat),cL ops.toList (fg ops.toList) fr str l=true->∀i∈l,i<ops.size:=by
  intro l
  induction l with
  |nil=>intro _ i hi;cases hi
  |cons x l v=>
   intro hp i hi;simp only[cL,bu,cu]at hp;rcases List.mem_cons.1 hi with rfl|hi
   .simpa using hp.1.1.1
   .exact v hp.2 i hi
 have len:∀(l:List Nat),cL ops.toList (fg ops.toList) fr str l=true->l.Nodup:=by
  intro l
  induction l with
  |nil=>intro _;exact List.nodup_nil
  |cons x l v=>intro hp;simp only[cL,bu]at hp;exact List.nodup_cons.2 ⟨by simpa using hp.1.1.2,v hp.2⟩
 have e:p<ops.size:=by simpa using n
 have u:q<ops.size:=by simpa using m
 have Q:(κ++p::m1).length<=ops.size:=by
  have t:(p::(κ++m1)).Nodup:=List.nodup_cons.2 ⟨j,len _ d⟩;have:=sV ops.size _ t fun i hi=>by
   rcases List.mem_cons.1 hi with rfl|hi
   .exact e
   .exact mem _ d i hi
  simp at this |-;omega
 have N:(κ++q::m2).length<=ops.size:=by
  have t:(q::(κ++m2)).Nodup:=List.nodup_cons.2 ⟨f,len _ s⟩;have:=sV ops.size _ t fun i hi=>by
   rcases List.mem_cons.1 hi with rfl|hi
   .exact u
   .exact mem _ s i hi
  simp at this |-;omega
 refine wpIn_region_any hm (VV S h1 z I F ops.size κ _ Q N d s M L A j f ⟨by simp,fun i=>?_,fun y o U J=>?_⟩ R h (w:={ w with drawn:=w.drawn+1 }) ?_ ?_)
 .constructor
  .intro hi;have:i<ops.size:=by
    simp only[gS,fC]at hi;rcases hi with hi|rfl|hi
    .exact mem _ d i (dk _ hi)
    .exact e
    .exact mem _ d i (eo _ hi)
   exact⟨this,by simp[en,this]⟩
  .rintro⟨hi,_⟩;have:=List.all_eq_true.1 h2 i (List.mem_range.2 (by simpa using hi));simpa using this
 .exfalso;rw[en,Array.getElem?_replicate]at J;split at J<;>cases J
 .exact⟨st.sub,st.size,st.priv,st.dom,st.os,st.tape,st.out⟩
 .obtain⟨β,g⟩:=g;exact⟨β,g.defers,g.size,g.tm,g.bx,g.inj,g.lo,g.keys⟩
end
section
variable {C:Cx} {k:List Item} {σ:St} {H:PH}
def Th{ol:List Oper}{κ:List Nat}{p q:Nat}{r m1 m2:List Nat}{fr:bI}{str:bJ}(a:vJ ol κ p q r m1 m2 fr str=true):p<ol.length/\q<ol.length/\cL ol (fg ol) fr str (κ++m1)=true/\cL ol (fg ol) fr str (κ++m2)=true:=by unfold vJ at a;obtain⟨a,_⟩:=Bool.and_eq_true_iff.1 a;obtain⟨a,_⟩:=Bool.and_eq_true_iff.1 a;obtain⟨a,_⟩:=Bool.and_eq_true_iff.1 a;obtain⟨a,_⟩:=Bool.and_eq_true_iff.1 a;obtain⟨a,_⟩:=Bool.and_eq_true_iff.1 a;obtain⟨a,d⟩:=Bool.and_eq_true_iff.1 a;obtain⟨a,e⟩:=Bool.and_eq_true_iff.1 a;obtain⟨a,_⟩:=Bool.and_eq_true_iff.1 a;obtain⟨a,_⟩:=Bool.and_eq_true_iff.1 a;obtain⟨a,_⟩:=Bool.and_eq_true_iff.1 a;obtain⟨a,b⟩:=Bool.and_eq_true_iff.1 a;obtain⟨_,c⟩:=Bool.and_eq_true_iff.1 a;exact⟨eF c,eF b,e,d⟩
def Lf{id:Nat}{ops:Array Oper}(hm:C.P.follows .mixedOrders=true)(κ:List Nat)(p q:Nat)(r m1 f:List Nat)(fr str:List Nat)(a:vJ ops.toList κ p q r m1 f ⟨fr,[],PH.emp,[],[]⟩ ⟨str,[],[]⟩=true)(m:mG σ.bx=true)
  (h:lU C ops.toList ⟨fr,[],PH.emp,[],[]⟩ ⟨str,[],[]⟩ (pick ops.toList (p::m1)) (pick ops.toList (q::f)) (pick ops.toList κ) k σ H):RC C (.st (.code (.region id ops true)::k)) σ H:=by
 obtain⟨c,b,e,d⟩:=Th a;have l:=vP e;have e2:=vP d;refine(show R C (.code (.region id ops true)::k) σ H from t8 fun _ _ s g=>NR rfl hm a (D5 m) ?_ s g);refine oN κ (fun i hi=>l i (dk _ hi)) (Er (fun σ' H' j=>⟨oN _ (fun i hi=>?_) j.1,oN _ (fun i hi=>?_) j.2⟩) _ h)
 .rcases List.mem_cons.1 hi with rfl|hi
  .exact c
  .exact l i (eo _ hi)
 .rcases List.mem_cons.1 hi with rfl|hi
  .exact b
  .exact e2 i (eo _ hi)
def EO{ol:List Oper}{fr:bI}{str:bJ}{r1 r2:List (Nat×Oper)}{i:Nat}{o:Oper}{lo:List (Nat×Oper)}{T:TypeId}{x:Operand}{b off:Nat}{l:List Value}{v:Value}(hf:fr.h.contains i=true)(hw:be ol σ o=some true)(aa:o.op=.load T x)(a:ev σ x=.v (.pointer (some ⟨b,off,none⟩)))(h:aX H b off l)
  (d:a8 C.P T=some (some l.length)/\v=.agg l.toArray\/a8 C.P T=some none/\l=[v]) (c:lU C ol fr str r1 r2 lo k (σ.put o.dst (.v v)) H):lU C ol fr str r1 r2 ((i,o)::lo) k σ H:=by
 obtain⟨h1,h2⟩:=yT (P:=C.P) aa a h d;exact .inr ⟨hw,by rw[show eb o.op=.val by rw[aa];rfl];exact⟨_,.inr (.inl ⟨hf,v,rfl,h1,h2⟩),c⟩⟩
end
end Go.Sx
namespace Go.Proofs.YtfaclfkpnmcmlaaGreatDoor
open Go Go.Sx Dg Syn
def Pz:ay prog 26:=⟨_,func26,rfl,rfl⟩
def jQ(w:List (List Nat×Nd))(k:Nat):Nat:=kX (w.take k)
variable{w:List (List Nat×Nd)}
def HQ{k:Nat}{x:List Nat×Nd}(h:w[k]?=some x):jQ w (k+1)=max (jQ w k) x.1.length:=by unfold jQ;rw[cw h,HS]
def su(a mb:Nat)(w:List (List Nat×Nd))(k:Nat):PH:=U [nS a k,nS mb (jQ w k)]
def My{nb mb:Nat}:∀k b,su nb mb w 0 b=none->su nb mb w k b=none:=fun k b h=>by
 unfold su at h |-;have e:∀A B:PH,U [A,B] b=none<->A b=none/\B b=none:=fun A B=>by show (A.uni (B.uni PH.no)) b=none<->_;rw[PH.uni_no,PH.uni_none]
 rw[e]at h |-;refine⟨S4 nb k b h.1,?_⟩;have:=h.2;unfold nS sg at this |-;split at this
 .cases this
 .rename_i hb;rw[ad hb]
def CL(a vd:Value)(b mb c:Nat):St:=⟨dn 17 [(2,.v (pt b)),(3,.v (pt mb)),(6,.v (.func (.func 141) #[] #[pt c]))],[⟨1,36,[a,vd]⟩]⟩
def UM{I:PH}{v:Value}{t:Tr}(hT:gh I v t)(hz:aw t.kids<2^30):aI prog 26 #[v] I [] fun r _ qs=>qs=[]/\r=.tuple #[E (aw t.kids),E (kX (cq [] 0 t.kids))]:=by
 obtain⟨vk,vd,rfl,hK,a5,hD,bd⟩:=id hT;obtain⟨ka,kc,rfl,_⟩:=id hK;obtain⟨da,dc,rfl,_⟩:=id hD;have P:∀{k:Nat} {p:List Nat} {n:Nd},(cq [] 0 t.kids)[k]?=some (p,n)->k<aw t.kids/\p.length<=aw t.kids:=fun{k p n} h=>by obtain⟨⟨r,e,hr,bc⟩,h2,h3⟩:=Ko (aw t.kids+1) t.kids [] t.kids 0 O (fun i=>by rw[eR]) (cH h);have hl:=(List.getElem?_eq_some_iff.1 h).1;rw[mN]at hl;exact⟨hl,by simpa using h2⟩
 have ag:∀k,k<=aw t.kids->jQ (cq [] 0 t.kids) k<=aw t.kids:=fun k=>by
  induction k with
  |zero=>intro _;unfold jQ;simp[kX]
  |succ k ih=>intro hk;obtain⟨x,hx⟩:∃x,(cq [] 0 t.kids)[k]?=some x:=⟨_,aL (by rw[mN];omega)⟩;have h1:=(P (p:=x.1) (n:=x.2) hx).2;have h2:=ih O;rw[HQ hx];omega
 intro hd;refine aG 17 func26 fun w0=>?_;refine af ?_;refine dq hd rfl P9 (LU) ?_;rintro v I2 qs a1 A⟨rfl,cb,rfl,a2⟩;refine af ?_;refine jE 2 a1 rfl fun u a0=>?_;refine jE 3 a0 rfl fun mb aq=>?_;apply RG;simp only[go_sem,iH,List.map];refine fd (σ':=CL (.slice ka t.kids.length kc) (.slice da t.diags.length dc) u mb cb) Uy (by simp only[go_sem,ab,CL]) ?_;simp only[CL];refine bq aq [1,0] fun V=>?_;have Z:u≠mb:=UE V;obtain⟨w,G⟩:∃w,cq [] 0 t.kids=w:=⟨_,rfl⟩;have S:∀k,Dj [nS u k,nS mb (jQ w k)]:=fun k=>NN Z;refine KH (ps:=[nS u 0,nS mb (jQ w 0)]) V fun ap=>?_;refine KM ap [0] rfl rfl OW (by rfl) (S0:=[su u mb w 0]) (Fr:=[]) rfl (Ψ:=fun j _ S2=>S2=[su u mb w (qA (aw t.kids) (aw t.kids))]/\j=rJ (aw t.kids) .ret (qA (aw t.kids) (aw t.kids))) (fun yy D T a4=>Qy .ret My fun hf=>LQ (W3 hf fun{J k p n vp cx} hJ ba hw hp hn=>?_) (ax _) a2 (de.le hK A) a5 O) (fun j W S2 y B ⟨X,e2⟩=>?_)
 .have am:iq (dn 17 [(2,.v (pt u)),(3,.v (pt mb))]) T:=iq.sub (by rw[V8];exact n4 (by simp only[List.map,tG,l4,iZ];simp)) a4;obtain⟨bb,a9⟩:=P hw;have Q:=ag k O;rw[G]at hw Q;have g:=HQ hw;unfold su;refine W4 (S k) ?_;refine LG func26 rfl am fun w1 y=>?_;simp only[setPs,Jl,List.zip_cons_cons,List.zip_nil_right];obtain⟨vk2,na,nk,ec,ac,aa,a3⟩:=hn.shape;subst ec;obtain⟨pa,pc,rfl,_⟩:=id hp;obtain⟨m,hm⟩:∃m,jQ w k=m:=⟨_,rfl⟩;rw[hm]at Q g y |-;have X:=Z7 k;have e2:(if (m:Int)<(p.length:Int)then (p.length:Int)else (m:Int))=((max m p.length:Nat):Int):=by split<;>omega
  refine cz ?_;refine KC rfl y fun b=>?_;refine cz ?_;have H:aX (U (J::_::[nS u k,nS mb m])) u 0 [E k]:=(my u k).le (jk b (.tail _ (.tail _ (.head _))));have L:aX (U (J::_::[nS u k,nS mb m])) mb 0 [E m]:=(my mb m).le (jk b (.tail _ (.tail _ (.tail _ (.head _)))));refine Lf mixed [0,1,3,4] 2 6 [5,7] [5,6,7] [2,5,7] [0,2] [] rfl rfl ?_;apply oC;simp only[go_sem,pt,E];refine EO (l:=[E k]) rfl rfl rfl rfl (by simpa using H) (.inr ⟨dI,rfl⟩) ?_;apply oC;simp only[go_sem,pt,E,X];refine rN ?_ ?_
  .refine jF ?_;refine Xc (l:=[E m]) rfl (by simpa using L) (.inr ⟨dI,rfl⟩) ?_;apply bp;simp only[go_sem,pt,E,e2];refine gw b [1,0,2] fun f=>?_;refine cg f rfl rfl rfl rfl rfl rfl (by exact mI) ai fun d=>?_;refine jF ?_;refine gw d [2,1,0] fun s=>?_;refine cg s rfl rfl rfl rfl rfl rfl (by exact mI) ai fun q=>?_;refine jF ?_;apply an;refine bq q [1,2,0] fun a=>?_;refine af ?_;exact EM none rfl rfl ⟨J,[nS u (k+1),nS mb (jQ w (k+1))],by rw[g];rfl,by rw[g];exact a,ax _,by rw[show decide (k≠aw t.kids)=true from ar O];rfl,by rw[vY O]⟩
  .refine jF ?_;refine gw b [1,0,2] fun f=>?_;refine cg f rfl rfl rfl rfl rfl rfl (by exact mI) ai fun d=>?_;have K:=(my mb m).le (jk d (.tail _ (.tail _ (.tail _ (.head _)))));refine jF ?_;refine Xc (l:=[E m]) rfl (by exact K) (.inr ⟨dI,rfl⟩) ?_;apply bp;simp only[go_sem,pt,E,e2];refine gw d [2,1,0] fun s=>?_;refine cg s rfl rfl rfl rfl rfl rfl (by exact mI) ai fun q=>?_;refine jF ?_;apply an;refine bq q [1,2,0] fun a=>?_;refine af ?_;exact EM none rfl rfl ⟨J,[nS u (k+1),nS mb (jQ w (k+1))],by rw[g];rfl,by rw[g];exact a,ax _,by rw[show decide (k≠aw t.kids)=true from ar O];rfl,by rw[vY O]⟩
 obtain⟨N,hN⟩:∃N,aw t.kids=N:=⟨_,rfl⟩;have R:qA (aw t.kids) (aw t.kids)=N:=by rw[hN];unfold qA;rw[ad O]
 rw[R]at X e2;rw[vY O]at e2;subst X;subst e2;simp only[ab,om,Option.toList_none,gk]at y |-;have M:=mN [] 0 t.kids;rw[G]at M;have al:jQ w N=kX w:=by unfold jQ;rw[<-hN,<-M,cB]
 refine KP (ps:=[nS u N,nS mb (jQ w N)]) y (S N) fun b=>?_;rw[al]at b |-;rw[G];rw[hN]at *;obtain⟨m,hm⟩:∃m,kX w=m:=⟨_,rfl⟩;rw[hm]at b |-;have H:aX (U (W::[nS u N,nS mb m])) u 0 [E N]:=(my u N).le (jk b (.tail _ (.head _)));have L:aX (U (W::[nS u N,nS mb m])) mb 0 [E m]:=(my mb m).le (jk b (.tail _ (.tail _ (.head _))));refine tY ?_;refine ET mixed [0] 1 2 [3] [3] [0,1] [] rfl rfl ?_;apply oC;simp only[go_sem,pt,E];refine EO (l:=[E N]) rfl rfl rfl rfl (by simpa using H) (.inr ⟨dI,rfl⟩) ?_;apply oC;simp only[go_sem,pt,E];refine rN ?_ ?_
 .refine jF ?_;refine Xc (l:=[E m]) rfl (by simpa using L) (.inr ⟨dI,rfl⟩) ?_;refine jF ?_;refine cg b rfl rfl rfl rfl rfl rfl (by exact mI) ai fun f=>?_;refine jF ?_;refine gw f [1,0] fun d=>?_;refine cg d rfl rfl rfl rfl rfl rfl (by exact mI) ai fun s=>?_;refine jF ?_;apply an;refine bH (c:=.st _) s fun a7 q z F=>?_;refine bH (c:=.st _) q fun a6 a o C=>?_;refine af ?_;exact E1 rfl a (r:=[E N,E m]) (show oH prog _ _ [.cell 2 3,.cell 3 3] _ from ⟨_,_,rfl,⟨_,_,rfl,rfl,mb,0,[E m],rfl,((my mb m).le (Y F o)).le (eP a),.inr ⟨dI,rfl⟩⟩,u,0,[E N],rfl,((my u N).le C).le (eP a),.inr ⟨dI,rfl⟩⟩) (Y A (Y B (Y z o))) ⟨rfl,rfl⟩
 .refine jF ?_;refine cg b rfl rfl rfl rfl rfl rfl (by exact mI) ai fun f=>?_;have K:=(my mb m).le (jk f (.tail _ (.tail _ (.head _))));refine jF ?_;refine Xc (l:=[E m]) rfl (by exact K) (.inr ⟨dI,rfl⟩) ?_;refine jF ?_;refine gw f [1,0] fun d=>?_;refine cg d rfl rfl rfl rfl rfl rfl (by exact mI) ai fun s=>?_;refine jF ?_;apply an;refine bH (c:=.st _) s fun a7 q z F=>?_;refine bH (c:=.st _) q fun a6 a o C=>?_;refine af ?_;exact E1 rfl a (r:=[E N,E m]) (show oH prog _ _ [.cell 2 3,.cell 3 3] _ from ⟨_,_,rfl,⟨_,_,rfl,rfl,mb,0,[E m],rfl,((my mb m).le (Y F o)).le (eP a),.inr ⟨dI,rfl⟩⟩,u,0,[E N],rfl,((my u N).le C).le (eP a),.inr ⟨dI,rfl⟩⟩) (Y A (Y B (Y z o))) ⟨rfl,rfl⟩
end Go.Proofs.YtfaclfkpnmcmlaaGreatDoor
namespace Go.Ke
open Go Go.Sx
 noncomputable def rest(I H:PH):PH:=fun b=>match I b with|some _=>none|none=>H b
def T9(I H:PH):I.disj (rest I H):=fun b=>by unfold rest;cases I b<;>simp
def V9{I H:PH}(h:I.le H):I.uni (rest I H)=H:=by
 funext b;unfold PH.uni rest;cases hb:I b with
 |none=>rfl
 |some o=>exact(h b o hb).symm
def OE{X:bQ}{e:aH}{M:LM}{I H:PH}(k:cD X e M I H){f:FuncId}{args:Array Value}{Φ:Value->PH->Prop}(h:aI X.P f args I [] fun r I2 qs=>qs=[]/\Φ r I2):
  aJ X.P f args H fun r H2=>∃I2,I.le I2/\Φ r I2/\cD X e M I2 H2:=by
 have hd:Dj (I::[]++[rest I H]):=List.pairwise_cons.2 ⟨fun B A=>by have i:B∈[rest I H]:=A;rw[List.mem_singleton]at i;subst i;exact T9 I H,kE _ _⟩
 have F:U (I::[]++[rest I H])=H:=by show I.uni ((rest I H).uni PH.no)=H;rw[PH.uni_no,V9 k.le]
 have:=h.frame hd;rw[F]at this;refine this.mono fun r H2 ⟨I2,qs,z,y,l,w,v⟩=>?_;subst w;have e2:H2=I2.uni (rest I H):=by rw[z];show I2.uni ((rest I H).uni PH.no)=_;rw[PH.uni_no]
 have g:I2.disj (rest I H):=(List.pairwise_cons.1 y).1 _ ai;have d:I2.le H2:=by rw[e2];exact PH.le_uni _ _
 have priv:∀b,I b=none->H b≠none->I2 b=none/\H2 b=H b:=by
  intro b h1 h2;have hr:rest I H b=H b:=by unfold rest;rw[h1]
  have h3:I2 b=none:=by
   rcases g b with h|h
   .exact h
   .rw[hr]at h;exact absurd h h2
  exact⟨h3,by rw[e2];unfold PH.uni;rw[h3];exact hr⟩
 have keep:∀b o,H b=some o->H2 b=some o:=by
  intro b o hb;cases s:I b with
  |none=>rw[(priv b s (by rw[hb];simp)).2];exact hb
  |some o'=>have:=k.le b o' s;rw[hb]at this;cases this;exact d b o (l b o s)
 refine⟨I2,l,v,d,k.inj,fun id o q=>?_⟩;have j:=k.ob id o q;cases o with
 |cells c ty gr=>obtain⟨b,x,cs,post,h1,h2,h3,u,C⟩:=j;obtain⟨n,m⟩:=priv b h2 (by rw[h3];simp);exact⟨b,x,cs,post,h1,n,by rw[m];exact h3,u,C⟩
 |ro c=>obtain⟨b,x,cs,post,ty,D,h1,h2,h3⟩:=j;exact⟨b,x,cs,post,ty,D,h1,keep b _ h2,h3⟩
 |map es kt=>
  obtain⟨b,h1,h2,h3,u⟩:=j;have p:H b≠none:=by obtain⟨_,_,h,_⟩:=h3;rw[h];simp
  obtain⟨n,m⟩:=priv b h2 p;exact⟨b,h1,n,h3.of_eq m,u⟩
 |dia t=>obtain⟨a,b,h1,h2,h3⟩:=j;exact⟨a,b,h1,X.mono h2 l,h3⟩
 |dead=>trivial
end Go.Ke
namespace Go.Proofs.YtfaclfkpnmcmlaaGreatDoor
open Go Go.Sx Go.Ke Dg Syn
def gE{kt:TypeId}(h:(fun k:TypeId=>k == 240) kt=true):Maps.Keyed prog kt:=by have:kt=240:=eq_of_beq h;subst this;exact wZ
 noncomputable def gz(Q:Program)(ok:∀{kt:TypeId},(fun k:TypeId=>k == 240) kt=true->Maps.Keyed Q kt):bQ:=⟨Q,fun I a b t=>bO I (.agg #[a,b]) t,fun h k=>bO.le h k,fun k=>k == 240,fun h=>ok h⟩
def FX(on off:Nat):∀n,mh on off n≠.lf false
 |0=>by simp[mh]
 |n+1=>by
  unfold mh;split
  .simp
  .split
   .simp
   .exact FX on off n
def FW(on off:Nat):∀n,mh on off n=eT on off n
 |0=>rfl
 |n+1=>by have h:=FX on off n;unfold mh eT;rw[<-FW on off n];have a:¬(T.lf false=mh on off n):=fun e=>h e.symm;simp only[T.mk,ad h,ad a]
def Nu(on off:Nat):BH on off=gY on off:=by unfold BH gY;rw[FW]
variable{s:KS}{I:PH}{M:LM}{e:aH}
def mn{H:PH}{a:LV}{t:T}{y:Value}(m:lS [] M s.L)(l:cD (gz prog gE) e M I H)(h:kR s a=some t)(hv:VR e a y):bO I y t:=by
 unfold kR at h;split at h
 .rename_i i j;split at h
  .rename_i d;subst d;split at h
   .rename_i n k;cases h
    simp only[VR,aK]at hv;obtain⟨cs,rfl,g,ys,rfl,⟨b1,_,_,_,h1,_⟩,f,c,rfl,⟨a2,_,_,h2,_⟩,rfl⟩:=hv;rw[h1]at h2;cases h2;obtain⟨a,b,g1,g2,_⟩:=l.ob i _ (m i _ k dH);rw[h1]at g1;cases g1;exact g2
   .cases h
  .cases h
 .cases h
  simp only[VR,aK]at hv;obtain⟨cs,rfl,g,ys,rfl,rfl,f,c,rfl,rfl,rfl⟩:=hv;exact nV I false
 .cases h
  simp only[VR,aK]at hv;obtain⟨cs,rfl,g,ys,rfl,rfl,f,c,rfl,rfl,rfl⟩:=hv;exact nV I true
 .cases h
def Tu(M:LM)(c:Nat)(L:Ke.Tr LO):cJ M [] c c L=M:=by funext id;unfold cJ;rw[ad ai]
def T8{H:PH}{c:Nat}{a b:Value}{t:T}(h:cD (gz prog gE) e M I H)(q:e c=none)(s:M c=none)(hr:bO I (.agg #[a,b]) t):cD (gz prog gE) (e.up c (.dia a b)) (M.up c (.dia t)) I H:=by
 obtain⟨u,r,p⟩:=hr.shape;simp only[Value.agg.injEq]at p;have e2:=congrArg Array.toList p;simp only[tL,dm]at e2;obtain⟨rfl,rfl⟩:=e2;refine⟨h.le,fun i j oi oj b' y z hi d k g m l=>?_,fun j o d=>?_⟩
 .by_cases n:i=c
  .subst n;rw[LM.up_self]at hi;cases hi;cases k
  .by_cases f:j=c
   .subst f;rw[LM.up_self]at d;cases d;cases g
   .rw[LM.up_other n]at hi;rw[LM.up_other f]at d;rw[aH.up_other n]at m;rw[aH.up_other f]at l;exact h.inj i j oi oj b' y z hi d k g m l
 .by_cases f:j=c
  .subst f;rw[LM.up_self]at d;cases d;exact⟨_,_,aH.up_self _ _ _,hr,⟨_,_,_,rfl⟩,⟨_,_,rfl⟩⟩
  .rw[LM.up_other f]at d;exact(h.ob j o d).keep (aH.le_up q) fun _ _ _ _=>rfl
variable{ws:List Nat}{args:List Value}{f:FuncId}
def QB{t:T}{v:LV}{s':KS}(hr:newD s t=some (v,s',ws)){H:PH}(n:lS [] M s.L)(m:∀id,s.c<=id->s.L.get id=none)(j:lq M e s.c s'.c)(g:cD (gz prog gE) e M I H)
  (h:aI prog f args.toArray I [] fun r I2 qs=>qs=[]/\bO I2 r t) :
  aJ (gz prog gE).P f args.toArray H fun y H2=>∃e2 I2,e.le e2/\(∀id,¬(s.c<=id/\id<s'.c)->e2 id=e id)/\VR e2 v y/\cD (gz prog gE) e2 (cJ M ws s.c s'.c s'.L) I2 H2/\I.le I2:=by
 unfold newD at hr;split at hr
 .rename_i L i;cases hr
  obtain⟨l,d⟩:=j s.c (aW _) (iO _);refine(OE (X:=(gz prog gE)) g h).mono fun y H2 ⟨I2,h1,h2,h3⟩=>?_;obtain⟨a,k,rfl⟩:=h2.shape;refine⟨e.up s.c (.dia (.slice a (T.subs t).length k) (E (T.plc (T.subs t) t))),I2,aH.le_up d,fun id b=>aH.up_other fun e=>b (by subst e;exact⟨aW _,iO _⟩),?_,?_,h1⟩
  .simp only[VR,aK];exact⟨_,rfl,_,_,rfl,⟨_,_,_,_,aH.up_self _ _ _,rfl⟩,_,_,rfl,⟨_,_,_,aH.up_self _ _ _,rfl⟩,rfl⟩
  .have:cJ M [] s.c (s.c+1) L=M.up s.c (.dia t):=by
    funext id;unfold cJ LM.up;by_cases b:id=s.c
    .subst b;rw[ak (.inr ⟨aW _,iO _⟩),ak rfl,Tr.get_put i,ak rfl]
    .rw[ad b,ad (fun h=>h.elim (fun h=>by cases h) fun⟨h1,h2⟩=>b (Nat.le_antisymm (Nat.le_of_lt_succ h2) h1))]
   show cD (gz prog gE) _ (cJ M [] s.c (s.c+1) L) I2 H2;rw[this];exact T8 h3 d l h2
 .cases hr
def QA{b:Bool}{v:LV}{s':KS}(hr:bl s b=some (v,s',ws)){H:PH}(a:cD (gz prog gE) e M I H)
  (h:aJ prog f args.toArray H fun r H2=>r=.bool b/\H2=H) :
  aJ (gz prog gE).P f args.toArray H fun y H2=>∃e2 I2,e.le e2/\(∀id,¬(s.c<=id/\id<s'.c)->e2 id=e id)/\VR e2 v y/\cD (gz prog gE) e2 (cJ M ws s.c s'.c s'.L) I2 H2/\I.le I2:=by
 cases hr
 refine aJ.mono h fun y H2 ⟨h1,h2⟩=>?_;subst h1;subst h2;exact⟨e,I,aH.le_refl e,fun _ _=>rfl,by simp only[VR],by rw[Tu];exact a,ax I⟩
def El{a:Int}(h:Aq a=true):a=(a.toNat:Int)/\a.toNat<2^32:=by have:=eF h;omega
def P7:ay prog 69:=⟨_,func69,rfl,rfl⟩
 noncomputable def HK(s:KS)(f:FuncId)(args:List LV)(r:LV×KS×List Nat):Prop:=
 ay prog f/\((∃t,newD s t=some r/\∀{e:aH} {M:LM} {I H:PH} {args':List Value},lS [] M s.L->cD (gz prog gE) e M I H->aK e args args'->aI prog f args'.toArray I [] fun r I2 qs=>qs=[]/\bO I2 r t)\/
  (∃b,bl s b=some r/\∀{e:aH} {M:LM} {I H:PH} {args':List Value},lS [] M s.L->cD (gz prog gE) e M I H->aK e args args'->aJ prog f args'.toArray H fun r H2=>r=.bool b/\H2=H))
def u9{args:List LV}{r:LV×KS×List Nat}(h:qF f args s=some r):HK s f args r:=by
 unfold qF at h;split at h
 .rename_i a b;split at h
  .rename_i m;rw[bu]at m;obtain⟨a1,a2⟩:=El m.1;obtain⟨b1,b2⟩:=El m.2;refine⟨P7,.inl ⟨_,h,fun{e M I H args'} d c hv=>?_⟩⟩;simp only[aK,VR]at hv;obtain⟨k,ys,rfl,rfl,n,j,rfl,rfl,rfl⟩:=hv;have:=FY (I:=I) a2 b2;rw[<-a1,<-b1,<-Nu]at this;exact this
  .cases h
 .split at h
  .rename_i i l;refine⟨yu,.inl ⟨_,h,fun{e M I H args'} d c hv=>?_⟩⟩;simp only[aK]at hv;obtain⟨k,ys,rfl,g,n,j,rfl,v2,rfl⟩:=hv;exact xA (mn d c i g) (mn d c l v2)
  .cases h
 .split at h
  .rename_i i l;refine⟨pi,.inl ⟨_,h,fun{e M I H args'} d c hv=>?_⟩⟩;simp only[aK]at hv;obtain⟨k,ys,rfl,g,n,j,rfl,v2,rfl⟩:=hv;exact pH (mn d c i g) (mn d c l v2)
  .cases h
 .split at h
  .rename_i i;refine⟨Hb,.inl ⟨_,h,fun{e M I H args'} d c hv=>?_⟩⟩;simp only[aK]at hv;obtain⟨k,ys,rfl,g,rfl⟩:=hv;exact Ip (mn d c i g)
  .cases h
 .refine⟨uY,.inl ⟨_,h,fun{e M I H args'} d c hv=>?_⟩⟩;simp only[aK]at hv;subst hv;exact aJ.toI ((wN I).mono fun v H2 ⟨h1,h2⟩=>by subst h1;subst h2;exact⟨ax _,nV _ true⟩)
 .refine⟨u0,.inl ⟨_,h,fun{e M I H args'} d c hv=>?_⟩⟩;simp only[aK]at hv;subst hv;exact aJ.toI ((uS I).mono fun v H2 ⟨h1,h2⟩=>by subst h1;subst h2;exact⟨ax _,nV _ false⟩)
 .split at h
  .rename_i i;refine⟨nC,.inr ⟨_,h,fun{e M I H args'} d c hv=>?_⟩⟩;simp only[aK]at hv;obtain⟨k,ys,rfl,g,rfl⟩:=hv;exact ny (mn d c i g)
  .cases h
 .split at h
  .rename_i i;refine⟨P6,.inr ⟨_,h,fun{e M I H args'} d c hv=>?_⟩⟩;simp only[aK]at hv;obtain⟨k,ys,rfl,g,rfl⟩:=hv;exact OG (mn d c i g)
  .cases h
 .split at h
  .rename_i m i;obtain⟨a1,a2⟩:=El m;refine⟨uZ,.inr ⟨_,h,fun{e M I H args'} d c hv=>?_⟩⟩;simp only[aK,VR]at hv;obtain⟨k,ys,rfl,g,n,j,rfl,rfl,rfl⟩:=hv;have:=u5 (bO.le (mn d c i g) c.le) a2;rw[<-a1]at this;exact this
  .cases h
 .split at h
  .rename_i x y i l;refine⟨G9,.inr ⟨_,h,fun{e M I H args'} d c hv=>?_⟩⟩;simp only[aK]at hv;obtain⟨k,ys,rfl,g,n,j,rfl,v2,rfl⟩:=hv;have q:=bO.le (mn d c i g) c.le;have p:=bO.le (mn d c l v2) c.le;by_cases o:x=y
   .subst o;rw[ar rfl];exact Jh q p
   .rw[aS o];refine(Jf q p).mono fun v H2 ⟨⟨b,h1,h3⟩,h2⟩=>⟨?_,h2⟩;cases b
    .exact h1
    .exact absurd (h3 rfl) o
  .cases h
 .cases h
def Hk:f8 (gz prog gE) 6 qF:=by
 have kp:∀{s:KS} {t:T} {r:LV×KS×List Nat},newD s t=some r->r.2.1.c=s.c+1/\r.2.2=[]/\∀id,id≠s.c->r.2.1.L.get id=s.L.get id:=by
  intro s t r h;unfold newD at h;split at h
  .rename_i L k;cases h
   exact⟨rfl,rfl,fun id a=>by simp only[Tr.get_put k,ad a]⟩
  .cases h
 refine⟨fun{f args s r} h=>(u9 h).1,fun{f args s v s' ws} h=>?_,fun{f args s v s' ws} h=>?_,fun{f args s v s' ws} h=>?_,fun{f args s v s' ws} h {M e I H args'} g j l m d hv=>?_⟩
 .rcases(u9 h).2 with ⟨t,h1,_⟩|⟨b,h1,_⟩
  .have:=(kp h1).1;simp only at this;omega
  .cases h1;exact aW _
 .rcases(u9 h).2 with ⟨t,h1,_⟩|⟨b,h1,_⟩
  .intro id _ h3;have i:=(kp h1).1;exact(kp h1).2.2 id fun n=>h3 (by simp only at i;omega)
  .cases h1;intro id _ _;rfl
 .rcases(u9 h).2 with ⟨t,h1,_⟩|⟨b,h1,_⟩
  .intro id a;rw[show ws=[] from (kp h1).2.1]at a;cases a
  .cases h1;intro id a;cases a
 .rcases(u9 h).2 with ⟨t,h1,h2⟩|⟨b,h1,h2⟩
  .exact QB h1 g j l d (h2 g d hv)
  .exact QA h1 d (h2 g d hv)
def EF(x y:Value)(id:Nat):(L0 x y).get id=if id=3 then some (.ro zy)else if id=2 then some (.ro [.v y])else if id=1 then some (.ro [.v x])else if id=0 then some (.ro zM)else none:=by unfold L0;rw[Tr.get_set _ _ _ _ O,Tr.get_set _ _ _ _ O,Tr.get_set _ _ _ _ O,Tr.get_set _ _ _ _ O];rfl
 noncomputable def e0:aH:=fun id=>if id<6 then some (.blk id 0)else none
def Ga{id:Nat}{x:EV}(h:e0 id=some x):id<6/\x=.blk id 0:=by
 unfold e0 at h;split at h
 .cases h;exact⟨by assumption,rfl⟩
 .cases h
def BA{H:PH}{b:Nat}{l:List Value}(h:aX H b 0 l):∃post ty a,H b=some (.cells (l++post).toArray ty a):=by
 obtain⟨cs,ty,a,h1,h2,h3⟩:=h;rw[jU]at h3;refine⟨cs.toList.drop l.length,ty,a,?_⟩;rw[h1];have:cs=(l++cs.toList.drop l.length).toArray:=by
  apply Array.ext';rw[List.toList_toArray]
  conv=>lhs;rw[<-fl l.length cs.toList,h3]
 exact congrArg (fun z=>some (Obj.cells z ty a)) this
def TO(e:aH):aK e zy (Lib.pow10Tab.map fun z=>Value.int .u64 z):=by rw[show zy=(Lib.pow10Tab.map fun z=>Value.int .u64 z).map LV.v by kernel_rfl];exact aK.map_v e _
def UJ(e:aH):aK e zM mD:=by rw[show zM=mD.map LV.v by kernel_rfl];exact aK.map_v e _
def T7{te te2:TypeId}{pe pe2:Value}(d:rQ I)(h1:aX I 1 0 [.iface te pe])(h2:aX I 2 0 [.iface te2 pe2])(h3:rR I):cD (gz prog gE) e0 (fun id=>(L0 (.iface te pe) (.iface te2 pe2)).get id) I I:=by
 refine⟨ax I,fun i j oi oj b x y _ _ _ _ h e=>?_,fun id o a=>?_⟩
 .obtain⟨_,f⟩:=Ga h;obtain⟨_,e2⟩:=Ga e;cases f;cases e2;rfl
 .simp only[EF]at a;split at a
  .subst_vars;cases a
   obtain⟨ty,c,hb⟩:=h3;exact⟨3,0,Lib.pow10Tab.map fun z=>Value.int .u64 z,[],ty,c,rfl,by rw[ab];exact hb,TO e0⟩
  .split at a
   .subst_vars;cases a
    obtain⟨post,ty,c,hb⟩:=BA h2;exact⟨2,0,_,post,ty,c,rfl,hb,aK.map_v e0 [_]⟩
   .split at a
    .subst_vars;cases a
     obtain⟨post,ty,c,hb⟩:=BA h1;exact⟨1,0,_,post,ty,c,rfl,hb,aK.map_v e0 [_]⟩
    .split at a
     .subst_vars;cases a
      obtain⟨post,ty,c,hb⟩:=BA d;exact⟨0,0,_,post,ty,c,rfl,hb,UJ e0⟩
     .cases a
def Q1{r:Option (LV×KS×List Nat)}(h:CQ r=true):∃s,r=some (.v (.bool true),s,[]):=by
 unfold CQ at h;split at h
 .subst h;exact⟨_,rfl⟩
 .cases h
def Fs(k:iR I):aI prog 17 #[] I [] fun r _ qs=>qs=[]/\r=.bool true:=by
 obtain⟨o,⟨c,d,h1⟩,⟨a,b,h2⟩,h3⟩:=k;obtain⟨s',hr⟩:=Q1 (Mj (gz prog gE).rep (gz prog gE).mono (gz prog gE).keyedOk c a d b);have l:f8 (gz prog gE) 6 (qt (gz prog gE) qF (wj (gz prog gE) 6 qF 100000)):=Fy Hk (DN Hk mixed _) mixed;have hb:∀id,1000<=id->(L0 (.iface c d) (.iface a b)).get id=none:=fun id i=>by rw[EF,ad O,ad O,ad O,ad O]
 refine aJ.toI ((l.does hr (M:=fun id=>(L0 (.iface c d) (.iface a b)).get id) (e:=e0) (I:=I) (H:=I) (args':=[]) (fun id ob h _=>h) hb (fun id h _=>⟨hb id h,?_⟩) (fun g j=>?_) (T7 o h1 h2 h3) (by simp only[aK])).mono fun y H2 ⟨e2,I2,_,_,f,n,m⟩=>?_)
 .unfold e0;rw[ad (by simp only at h;omega)]
 .unfold e0;rw[ak j]
 .simp only[VR]at f;exact⟨Y m n.le,f⟩
open Go Go.Sx Dg Syn
def P2:ay prog 57:=⟨_,func57,rfl,rfl⟩
mutual
def yd:Tw->Prop
 |⟨k,_,t,s,ks,_⟩=>(k<256/\-9223372036854775808<=t/\t<9223372036854775808/\-9223372036854775808<=s/\s<9223372036854775808)/\lA ks
def lA:List Tw->Prop
 | []=>True
 |x::l=>yd x/\lA l
end
def Ov{l:List Tw}:lA l<->∀x∈l,yd x:=by
 induction l with
 |nil=>simp[lA]
 |cons x l a=>simp[lA,a]
mutual
theorem S8:∀x:Tw,yd x->mQ x<2^20->qB (jl x)/\nf oL (jl x)/\sW (jl x)
 |⟨k,s,t,o,ks,i⟩,h,hw=>by
  rw[mQ]at hw
  obtain⟨h1,h2⟩:=h
  obtain⟨k1,k2,k3⟩:=Df ks h2 O
  obtain⟨a,b,c,d,e⟩:=h1
  rw[jl]
  exact⟨⟨⟨a,b,c,d,e,O⟩,k1⟩,⟨by show s.length<2^40;omega,k2⟩,⟨uH i,k3⟩⟩
theorem Df:∀l:List Tw,lA l->cW l<2^20->iY (dM l)/\ne oL (dM l)/\ii (dM l)
 | [],_,_=>by rw[dM];exact⟨trivial,trivial,trivial⟩
 |x::l,h,hw=>by
  rw[cW]at hw
  obtain⟨a1,a2,a3⟩:=S8 x h.1 O
  obtain⟨b1,b2,b3⟩:=Df l h.2 O
  rw[dM]
  exact⟨⟨a1,b1⟩,⟨a2,b2⟩,⟨a3,b3⟩⟩
end
def aU.fit{W:PH->Value->T->Prop}:∀{d D:Nat} {I:PH} {c:List Value} {n:Nd},aU W d I c n->mo n<=D->aU W D I c n
 |0,_,_,_,_,h,_=>h.elim
 |d+1,0,_,_,n,_,b=>by rw[nx]at b;omega
 |d+1,D+1,I,c,n,⟨f,w,e,hw,g⟩,b=>⟨f,w,e,hw,Sl.imp (fun c a ha h=>aU.fit h (by have:=kS ha;rw[nx]at b;omega)) g⟩
variable{t:Tr}
def kL.fit{u D:Nat}{v:Value}(h:kL (dZ u) I v t)(f:eO t.kids<=D):gy u D I v t:=by obtain⟨b,vd,d,e,h1,h2⟩:=h;exact⟨b,vd,e,Sl.imp (fun c a ha h=>aU.fit (aU.toC h) (by have:=kS ha;omega)) h1,Sl.imp (fun c a _ h=>bB.toC h) h2⟩
variable{c:List Value}
def fx.ones(h:fx I c t):c.all Sx.one=true:=by obtain⟨d,vd,rfl,⟨a,c,rfl,_⟩,_,⟨b,e,rfl,_⟩,_⟩:=h;rfl
def ep.ones{u d:Nat}(h:ep u d I c t):c.all Sx.one=true:=by obtain⟨f,vd,rfl,⟨a,c,rfl,_⟩,⟨b,e,rfl,_⟩⟩:=h;rfl
def JL{B:Nat}:∀{l:List Tr},(∀t∈l,aw t.kids<=B)->aw (l.flatMap (·.kids))<=l.length*B
 | [],_=>by simp[aw]
 |t::l,h=>by rw[pV,jr,bf,fm];have h1:=h t (.head _);have h2:=JL (B:=B) (l:=l) fun x a=>h x (.tail _ a);omega
def HF{B:Nat}:∀{l:List Tr},(∀t∈l,t.diags.length<=B)->(l.flatMap (·.diags)).length<=l.length*B
 | [],_=>by simp
 |t::l,h=>by rw[pV,dG,bf,fm];have h1:=h t (.head _);have h2:=HF (B:=B) (l:=l) fun x a=>h x (.tail _ a);omega
def uI{B:Nat}:∀{l:List Nd},(∀n∈l,mo n<=B)->eO l<=B
 | [],_=>bg _
 |n::l,h=>by rw[eO];exact Nat.max_le.2 ⟨h n (.head _),uI fun m hm=>h m (.tail _ hm)⟩
def WI{l:List Nd}{S:T}(e:S.ok 0)(d:ii l)(h:∀c,S.at' c=l.any (·.cond.at' c)):S=pT l:=by have a:∀n∈l,n.cond.ok 0:=fun n b=>(vK.1 (mz.1 d n b)).1;exact T.ext e (WE a) fun c=>by rw[h c,WD c a]
abbrev Kz(I A:PH)(v:Value)(l:List Tr):Prop:=Ow fx 36 2 I A v l
abbrev Ky(u d:Nat)(I A:PH)(v:Value)(l:List Tr):Prop:=Ow (ep u d) 41 2 I A v l
def yz(a vd b:Value)(c u:Nat)(x:Nat×Value×Value):St:=⟨dn 123 [(0,.v a),(1,.v vd),(2,.v (.int .u32 c)),(6,.v (.bool false)),(7,.v (.int .u32 u)),(9,.v b),(10,.v x.2.1),(11,.v x.2.2),(12,.v (E x.1))],[]⟩
def Qr(u:Nat)(l:List Sm)(a:PH)(x:Nat×Value×Value)(H:PH):Prop:=∃I A B,H=U [I,A,B]/\Dj [I,A,B]/\a.le I/\x.1<=l.length/\Kz I A x.2.1 ((l.take x.1).map fk)/\Ky u 600 I B x.2.2 ((l.take x.1).map fk)
def VN{d c:Nat}{vl vd:Value}{l:List Sm}{w:List (Nat×Nat)}(hV:iR I)(hS:oJ d I vl l)(hW:gd I vd w)(hb:∀x∈l,ug x)(hf:∀x∈l,lA x.kids)(a7:l.length<2^40)(e5:w.length<2^40)(hc:c<2^32):
  aI prog 12 #[vl,vd,.int .u32 c] I [] fun r _ qs=>qs=[]/\r=.bool true:=by
 obtain⟨la,lc,rfl,_⟩:=id hS;obtain⟨da,dc,rfl,_⟩:=id hW;intro hd;refine aG 123 func12 fun w0=>?_;refine af ?_;refine Xa rfl PW (UU (most:=5) (oJ.le hS (eP hd)) (gd.le hW (eP hd)) hb a7 e5) ?_;rintro v H2⟨⟨u,ok,rfl,hu,fz⟩,rfl⟩;cases ok with
 |false=>apply RG;simp only[go_sem,cF];refine dq hd rfl GT (Fs hV) ?_;rintro v I2 qs du A⟨rfl,rfl⟩;refine af ?_;exact ao rfl du (r:=[.bool true]) (by simp only[results12,go_sem]) A ⟨rfl,rfl⟩
 |true=>
 obtain⟨hm,hl,gb,gs,ej⟩:=fz rfl;have f:bM u 32<=8:=O;have e:u<2^32:=O;have c3:=js e f;have sz:∀x∈l,aw (fk x).kids<500/\(fk x).diags.length<500/\iY (fk x).kids/\ne oL (fk x).kids/\ii (fk x).kids/\pF (fk x).diags:=fun x hx=>by
  have h1:=ej x hx;obtain⟨f1,f2,f3⟩:=Df x.kids (hf x hx) (by have:=h1.1;omega);refine⟨jy (Ad x.kids) h1.1,?_,f1,f2,f3,fun d hd=>?_⟩
  .show (x.notes.map iW).length<500;rw[dW];exact h1.2.1
  .obtain⟨y,_,rfl⟩:=List.mem_map.1 hd;exact uH _
 apply RG;simp only[go_sem,bX];refine dq hd rfl Cw (BG e f) ?_;rintro v I1 qs gr M⟨rfl,hE⟩;obtain⟨ea,ec,rfl,_⟩:=id hE;refine af ?_;refine dR gr fun du=>?_;refine dR du fun gq=>?_;refine bz (fun x=>l.length-x.1) (yz (.slice la l.length lc) (.slice da w.length dc) (.slice ea (cI u 32).length ec) c u) (Qr u l I1) (0,.slice none 0 0,.slice none 0 0) ae (by simp only[go_sem,ab,yz,E]) ⟨I1,_,_,rfl,gq,ax _,bg _,Ow.nil _ _ _ _,Ow.nil _ _ _ _⟩ ?_;rintro⟨i,va,vb⟩ H ⟨I2,A2,B2,rfl,ds,A,hi,hA,hB⟩ a6;simp only at hi hA hB;simp only[yz];obtain⟨aa,ac,rfl⟩:=hA.shape;obtain⟨ba,bc,rfl⟩:=hB.shape;have c6:((l.take i).map fk).length=i:=by rw[dW,eE];omega
 rcases aB i l.length with ek|hn
 .have eh:=Z5 i l.length;have e1:=Z7 i;obtain⟨x,hx⟩:∃x,l[i]?=some x:=⟨_,aL ek⟩;have ei:=cH hx;obtain⟨z1,z2,z3,z4,z5,z6⟩:=sz x ei;have ge:=uJ _ (fk x).kids (iO _);have k2:=Y M A;obtain⟨b,off,cs,ev,⟨vk,vn,rfl,hk,P⟩,cp⟩:=Sl.load (R:=jJ d) (fun{I} c a h=>jJ.len (I:=I) c a h) (oJ.le hS k2) hx;cases ev
  obtain⟨xka,xkc,rfl,_⟩:=id hk;obtain⟨xna,xnc,rfl,_⟩:=id P;have esn:(l.take (i+1)).map fk=(l.take i).map fk++[fk x]:=by rw[cw hx,jV];rfl
  refine aj eh ?_
  try refine⟨O,?_⟩
  refine Xb (l:=[.slice xka x.kids.length xkc,.slice xna x.notes.length xnc]) (v:=.agg #[.slice xka x.kids.length xkc,.slice xna x.notes.length xnc]) rfl (cellsU ds (.head _) cp) (.inl ⟨Fi,rfl⟩) ?_;refine av ?_;refine ce ds [0,1] [] [A2,B2] rfl PX rfl (VM hu f hk P (ej x ei)) ?_;rintro v I3 qs N m⟨rfl,va,vb,rfl,d7,d5⟩;simp only[Z3]at N |-;obtain⟨X,hX⟩:∃X,fk x=X:=⟨_,rfl⟩;rw[hX]at d7 d5 z1 z2 z3 z4 z5 z6 ge esn;have ez:=kL.fit (D:=600) d5 O;have d6:=d7;have d4:=d5;have d3:=ez;obtain⟨_,_,rfl,et,d0,ex,d1⟩:=d7;obtain⟨_,_,ee,el,eq⟩:=ez;obtain⟨aka,akc,rfl,_⟩:=id et;obtain⟨ada,adc,rfl,_⟩:=id ex;subst ee;obtain⟨bka,bkc,rfl,_⟩:=id el;obtain⟨bda,bdc,rfl,_⟩:=id eq;refine av ?_;refine cd N (by exact Jt) rfl rfl rfl rfl rfl aR fun nb I4 b3 j f5=>?_;have g3:Sl fx I4 (.slice (some ⟨nb,0,none⟩) 1 1) [X]:=⟨_,_,rfl,.inr ⟨nb,0,_,rfl,(bD f5 (by simp[aD,Value.cells]) (by simp[aD,Value.cells]):aX I4 nb 0 [.slice aka X.kids.length akc,.slice ada X.diags.length adc]),.one ⟨_,_,rfl,de.le et j,d0,SlE.le ex j,d1⟩⟩⟩;refine av ?_;refine dX (R:=fx) (xs:=(l.take i).map fk) (ys:=[X]) b3 (by exact Jt) (Ow.le (R:=fx) (fun{I J c a} h k=>fx.le h k) hA (Y m j)) g3 (fun{I J c a} h k=>fx.le h k) (fun{I} c a h=>fx.len c a h) (fun{I} c a h=>fx.ones h) rfl rfl rfl rfl (by simp only[bf,bA];omega) (by simp only[bf,bA];unfold maxLen;omega) fun ua uc I5 A5 dl K he=>?_;refine av ?_;refine cd dl (by exact Jr) rfl rfl rfl rfl rfl aR fun mb I6 dd z ga=>?_;have c4:=Y j (Y K z)
  have g2:Sl (ep u 600) I6 (.slice (some ⟨mb,0,none⟩) 1 1) [X]:=⟨_,_,rfl,.inr ⟨mb,0,_,rfl,(bD ga (by simp[aD,Value.cells]) (by simp[aD,Value.cells]):aX I6 mb 0 [.slice bka X.kids.length bkc,.slice bda X.diags.length bdc]),.one (ep.le e f (⟨_,_,rfl,el,eq⟩:ep u 600 I3 [.slice bka X.kids.length bkc,.slice bda X.diags.length bdc] X) c4)⟩⟩;refine av ?_;refine bq dd [1,0] fun c9=>?_;refine dX (R:=ep u 600) (xs:=(l.take i).map fk) (ys:=[X]) c9 (by exact Jr) (Ow.le (R:=ep u 600) (fun{I J c a} h k=>ep.le e f h k) hB (Y m c4)) g2 (fun{I J c a} h k=>ep.le e f h k) (fun{I} c a h=>ep.len (I:=I) c a h) (fun{I} c a h=>ep.ones h) rfl rfl rfl rfl (by simp only[bf,bA];omega) (by simp only[bf,bA];unfold maxLen;omega) fun wa wc I7 B7 a2 G e2=>?_;refine bq a2 [1,0] fun dT=>?_;have c2:=Y c4 G;have e3:=Ow.le (R:=fx) (fun{I J c a} h k=>fx.le h k) he (Y z G);have o:oK X:=⟨by unfold bF;omega,by unfold bF;omega⟩;have B:=gh.le d6 c2;have a3:=gy.le e f d3 c2;have cx:=Ao e f d4 c2;have a1:j8 .u32 (c:Int) (u:Int)=((c&&&u:Nat):Int):=jL hc O;have q:=Y A (Y m c2);have ey:=gd.le hW (Y M q);refine av ?_;refine aV [0,1,3,4,5,6,7,9,2,8,10,11,12,13,14,17,18,19,22,15,16,20,21,23,24,25] [] [] ?_;refine aM a1 ?_;refine cv dT [0,1] [] [_,_] rfl PS rfl (TS B hc o.1 o.2) ?_;rintro v8 I8 qs cn s⟨rfl,eU⟩;simp only[Z3]at cn |-;have hP8a:=eU;obtain⟨_,_,rfl,fs,_,fv,_⟩:=eU;obtain⟨pka,pkc,rfl,_⟩:=id fs;obtain⟨pda,pdc,rfl,_⟩:=id fv;refine aC ?_;refine cv cn [0,1] [] [_,_] rfl P0 rfl (TR hu f (c:=c) (gy.le e f a3 s) (dh.le hE (Y q s)) O O) ?_;rintro v9 I9 qs cm a9⟨rfl,eN⟩;simp only[Z3]at cm |-
  have hQ9a:=eN;obtain⟨_,_,rfl,fn,fp⟩:=eN;obtain⟨qka,qkc,rfl,_⟩:=id fn;obtain⟨qda,qdc,rfl,_⟩:=id fp;refine aC ?_;refine cv cm [0,1] [] [_,_] rfl Cu rfl (BV c3 (oK.prj c o) (gh.le hP8a a9) (gy.toR hQ9a)) ?_;rintro v10 hG qs cl b0⟨rfl,rfl⟩;simp only[Z3]at cl |-;have Z:=Y s (Y a9 b0);apply bp;simp only[go_sem,E,bX];refine cv cl [0,1] [] [_,_] rfl Cz rfl (DU (gd.le ey Z) O) ?_;rintro v11 hF qs ck a0⟨rfl,c1⟩;obtain⟨za,zk,rfl⟩:=c1.shape2;simp only[Z3]at ck |-;refine bV ?_;refine cv ck [0,1] [] [_,_] rfl PU rfl (Ub (gh.le B (Y Z a0)) c1 o.1 o.2) ?_;rintro v12 hD qs cj bx⟨rfl,c0⟩;simp only[Z3]at cj |-;have hR12a:=c0;obtain⟨_,_,rfl,e8,_,fb,_⟩:=c0;obtain⟨rka,rkc,rfl,_⟩:=id e8;obtain⟨rda,rdc,rfl,_⟩:=id fb;have W:=Y Z (Y a0 bx);refine aC ?_;refine cv cj [0,1] [] [_,_] rfl CA rfl (Ek (gd.le ey W) O e f) ?_;rintro v13 hj qs ci F⟨rfl,ct⟩;simp only[Z3]at ci |-;obtain⟨ta,tc,rfl,_⟩:=id ct;have eg:aP u hj (.slice ta (mL w u).length tc) (fE w):=⟨cQ.cubes (D7 gs),by rw[FL];exact ct⟩;refine aC ?_;refine cv ci [0,1] [] [_,_] rfl Ha rfl (IU e f (gy.le e f a3 (Y W F)) eg O O) ?_;rintro v14 hC qs cf aq⟨rfl,cy⟩;simp only[Z3]at cf |-;have hS14a:=cy;obtain⟨_,_,rfl,e6,e7⟩:=cy;obtain⟨ska,skc,rfl,_⟩:=id e6;obtain⟨sda,sdc,rfl,_⟩:=id e7;have d9:oK (wi (fE w) X):=⟨cO (wI _ _) o.1,cO (DJ _ _) o.2⟩;refine aC ?_;refine cv cf [0,1] [] [_,_] rfl Cu rfl (BV c3 d9 (gh.le hR12a (Y F aq)) (gy.toR hS14a)) ?_;rintro v15 hz qs cc bs⟨rfl,rfl⟩;simp only[Z3]at cc |-
  have V:=Y W (Y F (Y aq bs));apply bp;simp only[go_sem,E,bX];apply an;refine av ?_;refine ce cc [0,1] [] [_,_] rfl Pz rfl (UM (gh.le B V) O) ?_;rintro v16 hw qs cb ap⟨rfl,rfl⟩;simp only[Z3]at cb |-;have fr:∀y∈cq [] 0 X.kids,y.1.length<2^40:=fun y hy=>by have:=(Ko (aw X.kids+1) X.kids [] X.kids 0 O (fun i=>by rw[eR]) hy).2.1;simp only[bA]at this;omega
  refine av ?_;refine ce cb [0,1] [] [_,_] rfl P1 rfl (UL e f (Ao e f cx (Y V ap)) O fr) ?_;rintro v17 hs qs ca bo⟨rfl,rfl⟩;simp only[Z3]at ca |-;have p:=Y V (Y ap bo);have d2:=hV.le (Y M (Y q p));have n91:((aw X.kids:Int) != (aw X.kids:Int))=false:=iU rfl;have n95:((kX (cq [] 0 X.kids):Int) != (kX (cq [] 0 X.kids):Int))=false:=iU rfl;refine av ?_;refine aV [0,1,2,3,4,5,6,7,8,9,11,12,10,13,14,15,16,17,19,21,18,20,22,23,24] [14] [] ?_;refine eS n91 n95 ?_;refine cv ca [0,1] [] [_,_] rfl PZ rfl (Wh d2 (gh.le B p) z4 z3 z5 O) ?_;rintro v18 hr qs b8 C⟨rfl,b1,rfl,es⟩;simp only[Z3]at b8 |-;refine aC ?_;refine cv b8 [0,1] [] [_,_] rfl P2 rfl (We e f (Ao e f cx (Y p C)) (dh.le hE (Y q (Y p C))) O O z4) ?_;rintro v19 hq qs b7 bd⟨rfl,b2,rfl,er⟩;simp only[Z3]at b7 |-;have g0:b2=b1:=by rw[Bool.eq_iff_iff,es,er]
  subst g0;have U:=Y p (Y C bd);refine aC ?_;refine oF (.bool false) rfl rfl rfl rfl (fun w _=>by clear es er;cases b2<;>kernel_rfl) ?_;refine aC ?_;refine cv b7 [0,1] [] [_,_] rfl PY rfl (WH (gh.le B U)) ?_;rintro v20 hp qs b6 am⟨rfl,S,a4,g1⟩;obtain rfl:=WI a4.1 z5 g1;obtain⟨ya,yk,rfl⟩:=a4.shape2;simp only[Z3]at b6 |-;refine bV ?_;refine cv b6 [0,1] [] [_,_] rfl P3 rfl (WG e f (gy.le e f a3 (Y U am)) O) ?_;rintro v21 ho qs b5 ag⟨rfl,cr⟩;obtain⟨oa,oc,rfl,_⟩:=id cr.2;simp only[Z3]at b5 |-;refine bV ?_;refine cv b5 [0,1] [] [_,_] rfl CI rfl (c3.al (a4.le ag) cr) ?_;rintro v22 hh qs b4 bb⟨rfl,rfl⟩;simp only[Z3]at b4 |-;apply bp;simp only[go_sem,E,bX];apply an;have T:=Y U (Y am (Y ag bb));refine aj e1 ?_;rw[<-esn]at e3 e2 |-;exact a6 (i+1,.slice ua ((l.take (i+1)).map fk).length uc,.slice wa ((l.take (i+1)).map fk).length wc) _ _ bC ae (by simp only[go_sem,ab,yz,E]) ⟨hh,A5,B7,rfl,b4,Y q T,ek,Ow.le (R:=fx) (fun{I J c a} h k=>fx.le h k) e3 T,Ow.le (R:=ep u 600) (fun{I J c a} h k=>ep.le e f h k) e2 T⟩
 .have:i=l.length:=by omega
  subst this;have eh:decide ((l.length:Int)<(l.length:Int))=false:=ai;rw[cB]at hA hB |-;refine bq ds [0,1] fun N=>?_;refine bH (c:=.st _) N fun I3 N m hg=>?_;refine bq N [0] fun b3=>?_;refine bH (c:=.st _) b3 fun I4 b3 j ha=>?_;have eA:Sl fx I4 (.slice aa (l.map fk).length ac) (l.map fk):=fZ (R:=fx) (fun{I J c a} h k=>fx.le h k) hA (Y m j) (Y hg j);have o:Sl (ep u 600) I4 (.slice ba (l.map fk).length bc) (l.map fk):=fZ (R:=ep u 600) (fun{I J c a} h k=>ep.le e f h k) (Ow.le (R:=ep u 600) (fun{I J c a} h k=>ep.le e f h k) hB m) j ha;have e4:=Y A (Y m j);have Q:∀t∈l.map fk,aw t.kids<500/\t.diags.length<500/\iY t.kids/\ii t.kids/\pF t.diags:=fun t ht=>by obtain⟨x,hx,rfl⟩:=List.mem_map.1 ht;obtain⟨z1,z2,z3,z4,z5,z6⟩:=sz x hx;exact⟨z1,z2,z3,z5,z6⟩
  have a7:(l.map fk).length<500:=by rw[dW];exact gb
  generalize l.map fk=L at eA o Q a7 c6 |-;have s1:aw (L.flatMap (·.kids))<=L.length*500:=JL fun t ht=>fo (Q t ht).1;have s2:(L.flatMap (·.diags)).length<=L.length*500:=HF fun t ht=>fo (Q t ht).2.1;have s1':aw (L.flatMap (·.kids))<=250000:=cO s1 (bS 500 (fo a7));have s2':(L.flatMap (·.diags)).length<=250000:=cO s2 (bS 500 (fo a7));have mk:∀n∈L.flatMap (·.kids),qB n/\sW n/\mo n<=600:=fun n P=>by obtain⟨t,ht,a5⟩:=List.mem_flatMap.1 P;obtain⟨y1,_,y3,y4,_⟩:=Q t ht;have h1:=uJ _ t.kids (iO _);have h2:=kS a5;exact⟨o9.1 y3 n a5,mz.1 y4 n a5,O⟩
  have md:pF (L.flatMap (·.diags)):=fun n P=>by obtain⟨t,ht,a5⟩:=List.mem_flatMap.1 P;exact(Q t ht).2.2.2.2 n a5
  have gc:iY (L.flatMap (·.kids)):=o9.2 fun n P=>(mk n P).1;have c5:ii (L.flatMap (·.kids)):=mz.2 fun n P=>(mk n P).2.1;have gf:eO (L.flatMap (·.kids))<=600:=uI fun n P=>(mk n P).2.2;refine aj eh ?_;refine dq b3 rfl PV (SM eA O c5 gc (by unfold bF;omega) md (by unfold bF;omega)) ?_;rintro v5 I5 qs dl K⟨rfl,hM⟩;have g5:=hM;obtain⟨_,_,rfl,f6,_,f7,_⟩:=hM;obtain⟨mka,mkc,rfl,_⟩:=id f6;obtain⟨mda,mdc,rfl,_⟩:=id f7;refine av ?_;refine dq dl rfl P4 (SL e f (Sl.le (R:=ep u 600) (fun{I J c a} h k=>ep.le e f h k) o K) O O O) ?_;rintro v6 I6 qs dd z⟨rfl,hN⟩;have em:(⟨dj 600 (L.flatMap (·.kids)),cK (L.flatMap (·.diags))⟩:Tr)=vB L:=by unfold vB;rw[Dd (aW _) gf]
  rw[em]at hN;have g4:=hN;obtain⟨_,_,rfl,f0,f4⟩:=hN;obtain⟨nka,nkc,rfl,_⟩:=id f0;obtain⟨nda,ndc,rfl,_⟩:=id f4;have ed:oK (vB L):=⟨cO (JO _ _) (by unfold bF;omega),cO (HT _) (by unfold bF;omega)⟩;refine av ?_;refine dq dd rfl Cu (BV c3 ed (gh.le g5 z) (gy.toR g4)) ?_;rintro v7 I7 qs c9 G⟨rfl,rfl⟩;have q:=Y M (Y e4 (Y K (Y z G)));refine av ?_;refine dq c9 rfl GT (Fs (hV.le q)) ?_;rintro v I8 qs a2 s⟨rfl,rfl⟩;refine af ?_;exact ao rfl a2 (r:=[.bool true]) (by simp only[results12,go_sem]) (Y q s) ⟨rfl,rfl⟩
end Go.Proofs.YtfaclfkpnmcmlaaGreatDoor
