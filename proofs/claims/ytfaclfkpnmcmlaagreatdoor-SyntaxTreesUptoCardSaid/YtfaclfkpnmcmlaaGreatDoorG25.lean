import Derived.Test.YtfaclfkpnmcmlaaGreatDoorG04
import Derived.Test.YtfaclfkpnmcmlaaGreatDoorG18
import Derived.Test.YtfaclfkpnmcmlaaGreatDoorG21
import Derived.Test.YtfaclfkpnmcmlaaGreatDoorG22
import Derived.Test.YtfaclfkpnmcmlaaGreatDoorG24
set_option maxHeartbeats 8000000
set_option linter.all false
open Go.Proofs.Tryz
namespace Go.Proofs.YtfaclfkpnmcmlaaGreatDoor
open Go Go.Sx Dg Syn
def yp:ay prog 106:=⟨_,func106,rfl,rfl⟩
def yb(n:Nd):iE n=(n.tok,n.cond)::dv n.kids:=by cases n;rfl
def tJ(e:List Value)(f lev:Nat)(a b c:Value)(d i:Nat):St:=⟨dn 190 [(2,.v (E lev)),(3,.v (.map (some f))),(4,.p 4 0),(8,.v (.bool false)),(9,.v a),(10,.v b),(86,.v c),(87,.v (E d)),(88,.v (E i))],[⟨4,60,e⟩]⟩
def pS(e mb:List Value)(key:Nat)(f lev:Nat)(a b c:Value)(d i:Nat):St:=⟨dn 190 [(2,.v (E lev)),(3,.v (.map (some f))),(4,.p 4 0),(8,.v (.bool false)),(9,.v a),(10,.v b),(12,.p 12 0),(86,.v c),(87,.v (E d)),(88,.v (E i)),(key,.v (.bool false))],[⟨4,60,e⟩,⟨12,60,mb⟩]⟩
def wQ(c:List Value)(a b:Value)(n i:Nat):St:=⟨dn 190 [(4,.p 4 0),(8,.v (.bool false)),(10,.v b),(169,.v a),(170,.v (E n)),(171,.v (E i))],[⟨4,60,c⟩]⟩
def Uh{k i:Nat}{r:Nat×List Nat}(h:(rl k)[i]?=some r):r.2.length<2^40:=by
 have key:∀l:List (Nat×List Nat),(l.all fun r=>decide (r.2.length<100))=true->l[i]?=some r->r.2.length<2^40:=fun l b hi=>by have:=List.all_eq_true.1 b r (cH hi);have:=eF this;omega
 refine key _ ?_ h;rcases aB k 20 with a|a
 .exact(by decide:∀k,k<20->((rl k).all fun r=>decide (r.2.length<100))=true) k a
 .have:rl k=[]:=by
   unfold rl
   repeat rw[ad O]
  rw[this];rfl
variable{l:List Nat}{v:Value}
def R3{H:PH}{k:Nat}(h:fw H v l)(q:l.length<2^40):aJ prog 238 #[v,.int .u8 k] H fun r H2=>(∃z:Int,r=.int .i64 z/\(decide (z>=0)=decide (k∈l)))/\H2=H:=by
 by_cases j:k∈l
 .exact(R2 h q j).mono fun r H2 ⟨⟨i,e⟩,e2⟩=>⟨⟨_,e,by rw[ar j];exact ar O⟩,e2⟩
 obtain⟨p,vc,rfl,_⟩:=id h;refine aG 19 func238 fun w0=>?_
 try simp only[E]
 refine af ?_;refine bz (fun i=>l.length-i) (pw (.slice p l.length vc) k l.length) (fun i H2=>H2=H/\i<=l.length) 0 ae (by simp only[go_sem,ab,pw,E]) ⟨rfl,bg _⟩ ?_;rintro i H2 ⟨rfl,hi⟩ d;simp only[pw];rcases aB i l.length with g|s
 .have m:=Z5 i l.length;have w:=Z7 i;obtain⟨x,o⟩:∃x,l[i]?=some x:=⟨_,aL g⟩;obtain⟨b,off,cs,rfl,u,f⟩:=Sl.load (fun{I} c a h=>qe.len (I:=I) c a h) h o;cases u
  refine aj m ?_;refine⟨O,?_⟩;refine Xb (l:=[.int .u8 x]) rfl (by simpa using f) (.inr ⟨qq,rfl⟩) ?_;have t:((k:Int) == (x:Int))=false:=beq_eq_false_iff_ne.2 fun e=>j (by rw[show k=x by omega];exact cH o);refine bW t w ?_;exact d (i+1) _ _ O ae (by simp only[go_sem,ab,pw,E]) ⟨rfl,g⟩
 .have:i=l.length:=by omega
  subst this;have m:decide ((l.length:Int)<(l.length:Int))=false:=ai;refine aj m ?_;exact au (r:=[_]) rfl ⟨⟨_,rfl,by rw[aS j];rfl⟩,rfl⟩
def RM{H:PH}{k:Nat}(h:fw H v l)(b:l.length<2^40):aJ prog 172 #[v,.int .u8 k] H fun r H2=>r=.bool (decide (k∈l))/\H2=H:=by obtain⟨c,vc,rfl,_⟩:=id h;refine aG 9 func172 fun w0=>?_;refine af ?_;refine Xa rfl Pv (R3 h b) ?_;rintro v H2⟨⟨z,rfl,a⟩,rfl⟩;refine aj a ?_;exact au (r:=[.bool (decide (k∈l))]) rfl ⟨rfl,rfl⟩
def nl(I:PH)(L:List (Int×T))(S:Value->Value->Prop):Prop:=(∀y u,S y u->∃o t,y=.int .i64 o/\bO I u t/\∀c,t.at' c=true<->∃p∈L,p.1=o/\p.2.at' c=true)/\∀p∈L,∃u,S (.int .i64 p.1) u
def nm(I M:PH)(r:Nat)(L:List (Int×T)):Prop:=∃S,ip prog M r 3 S/\nl I L S
variable{S:Value->Value->Prop}{L:List (Int×T)}{I:PH}
def nl.le{J:PH}(h:nl I L S)(k:I.le J):nl J L S:=⟨fun y u a=>let ⟨o,t,e,hr,ha⟩:=h.1 y u a;⟨o,t,e,hr.le k,ha⟩,h.2⟩
def nm.le{J M:PH}{r:Nat}(h:nm I M r L)(k:I.le J):nm J M r L:=by obtain⟨S,h1,h2⟩:=h;exact⟨S,h1,h2.le k⟩
def RQ{z:Int}(h:-9223372036854775808<=z)(h2:z<9223372036854775808):dQ prog 3 (.int .i64 z):=⟨_,Maps.keyOf_int_mk lM (Es h h2)⟩
def VK(h:nl I L S)(o:Int):∃a k t,(S (.int .i64 o) (.agg #[sD a k t,rD t])\/(.agg #[sD a k t,rD t]:Value)=.agg #[.slice none 0 0,.int .i64 0]/\∀u,¬S (.int .i64 o) u)/\bO I (.agg #[sD a k t,rD t]) t/\∀c,t.at' c=true<->∃p∈L,p.1=o/\p.2.at' c=true:=by
 by_cases d:∃u,S (.int .i64 o) u
 .obtain⟨u,b⟩:=d;obtain⟨o',t,e,hr,ha⟩:=h.1 _ _ b;simp only[Value.int.injEq,dP]at e;subst e;obtain⟨a,k,rfl⟩:=hr.shape2;exact⟨a,k,t,.inl b,hr,ha⟩
 .exact⟨none,0,ff,.inr ⟨rfl,fun u b=>d ⟨u,b⟩⟩,we I,fun c=>⟨fun f=>(by cases f),fun⟨p,hp,e,_⟩=>(d (by rw[<-e];exact h.2 p hp)).elim⟩⟩
theorem nl.put{J:PH}(h:nl I L S)(k:I.le J){o:Int}{u:Value}{t d:T}(ht:t.ok 0)(hd:d.ok 0)(hr:bO J u (t.or d))(ha:∀c,t.at' c=true<->∃p∈L,p.1=o/\p.2.at' c=true):
  nl J (L++[(o,d)]) fun y x=>(y=.int .i64 o/\x=u)\/(y≠.int .i64 o/\S y x):=by
 constructor
 .rintro y x (⟨rfl,rfl⟩|⟨f,l⟩)
  .refine⟨o,_,rfl,hr,fun c=>?_⟩;rw[T.or_at ht hd,im,ha c];constructor
   .rintro(⟨p,hp,e⟩|m)
    .exact⟨p,dk _ hp,e⟩
    .exact⟨(o,d),by simp,rfl,m⟩
   .rintro⟨p,hp,a,e2⟩;rcases List.mem_append.1 hp with hp|hp
    .exact .inl ⟨p,hp,a,e2⟩
    .rw[List.mem_singleton]at hp;subst hp;exact .inr e2
  .obtain⟨o',i,e,b,g⟩:=h.1 _ _ l;refine⟨o',i,e,b.le k,fun c=>?_⟩;rw[g c];constructor
   .rintro⟨p,hp,e⟩;exact⟨p,dk _ hp,e⟩
   .rintro⟨p,hp,a,e2⟩;rcases List.mem_append.1 hp with hp|hp
    .exact⟨p,hp,a,e2⟩
    .rw[List.mem_singleton]at hp;subst hp;exact(f (by rw[e,<-a])).elim
 .intro p hp;by_cases e:p.1=o
  .exact⟨u,.inl ⟨by rw[e],rfl⟩⟩
  .rcases List.mem_append.1 hp with hp|hp
   .obtain⟨x,j⟩:=h.2 p hp;exact⟨x,.inr ⟨fun e2=>e (by simpa using e2),j⟩⟩
   .rw[List.mem_singleton]at hp;subst hp;exact(e rfl).elim
def Oo{n:Nd}(i:Nat):(L++(n.tok,n.cond)::dv (n.kids.take i)).Sublist (L++iE n):=by
 refine List.Sublist.append (List.Sublist.refl L) ?_;rw[yb];refine List.Sublist.cons_cons _ ?_
 conv=>rhs;rw[<-fl i n.kids,o8]
 exact List.sublist_append_left _ _
def Kf(n:Nd)(r:Nat)(L:List (Int×T))(a:Value)(b:PH)(i:Nat)(H:PH):Prop:=∃I M A,H=U [I,M,A]/\Dj [I,M,A]/\b.le I/\i<=n.kids.length/\nm I M r (L++(n.tok,n.cond)::dv (n.kids.take i))/\oA I A a (mF (rl n.kind).length (n.kids.take i))/\(L++(n.tok,n.cond)::dv (n.kids.take i)).Pairwise kH/\∀j m,j<i->n.kids[j]?=some m->rK n j m/\(∀(s:Nat) r,(rl n.kind)[s]?=some r->r.1≠2->mZ n s j m)/\VX FB n.cond m
def Wu(n:Nd)(r:Nat)(L:List (Int×T))(a:Value)(b:PH)(i:Nat)(H:PH):Prop:=∃I M A,H=U [I,M,A]/\Dj [I,M,A]/\b.le I/\i<=(rl n.kind).length/\nm I M r (L++iE n)/\oA I A a (mF (rl n.kind).length n.kids)/\∀(s:Nat) r,s<i->(rl n.kind)[s]?=some r->r.1=0->cV n.kids s=n.cond
def Wl:∀(k:Nat) {n:Nd},aw n.kids<k->∀{I M:PH} {cn:List Value} {vw:Value} {w:T} {r:Nat} {L:List (Int×T)} {lev:Nat},az I cn n->bO I vw w->nf oL n->qB n->iR I->lev+mo n<=16385->nm I M r L->(∀p∈L,p.2.ok 0)->(∀p∈iE n,p.2.ok 0)->L.Pairwise kH->
  aI prog 106 #[.agg cn.toArray,vw,E lev,.map (some r)] I [M] fun res I2 qs=>∃M2,qs=[M2]/\∃b:Bool,res=.bool b/\(b=true<->VX FB w n/\(L++iE n).Pairwise kH)/\(b=true->nm I2 M2 r (L++iE n)):=by
 intro k
 induction k with
 |zero=>intro n h;omega
 |succ k ih=>
 intro n hk I M cn vw w r L lev hN hW g5 hl hV he hM e8 fb et hd;obtain⟨d6,d5⟩:=(EH n).1 g5;obtain⟨⟨_,fo1,fo2,_,_,_⟩,hn⟩:=Cg.1 hl;obtain⟨vk,na,nk,rfl,C,aa,c4⟩:=hN.shape;obtain⟨ka,kc,rfl,_⟩:=id aa;obtain⟨wa,wk,rfl⟩:=hW.shape2;have ee:=C.1;have h5:=nx n;refine aG 190 func106 fun w0=>?_
 try simp only[sD,rD,E]
 have f1:decide ((lev:Int)>16384)=false:=aS O;by_cases dl:1<=n.kind
 rotate_left
 .have f2:decide ((n.kind:Int)<1)=true:=ar O;apply RG;simp only[go_sem,sD,rD,E,f1,f2];exact ao rfl hd (r:=[_]) rfl (ax _) ⟨M,rfl,false,rfl,cC (fun h=>(dl ((fD n).1 h.1).1.1.1)),fun h=>(by cases h)⟩
 have f2:decide ((n.kind:Int)<1)=false:=aS O;by_cases dd:n.kind<=19
 rotate_left
 .have f3:decide ((n.kind:Int)>19)=true:=ar O;apply RG;simp only[go_sem,sD,rD,E,f1,f2,f3];exact ao rfl hd (r:=[_]) rfl (ax _) ⟨M,rfl,false,rfl,cC (fun h=>(dd ((fD n).1 h.1).1.1.2)),fun h=>(by cases h)⟩
 have f3:decide ((n.kind:Int)>19)=false:=aS O;apply RG;simp only[go_sem,sD,rD,E,f1,f2,f3];refine ce hd [0] [] [M] rfl Pa rfl (SH d6 hV ⟨dl,dd⟩) ?_;rintro v1 I1 qs dT Z⟨rfl,b1,rfl,g0⟩;simp only[Z3]at dT |-;cases b1 with
 |false=>refine cz ?_;exact ao rfl dT (r:=[_]) rfl Z ⟨M,rfl,false,rfl,cC (fun h=>(by have h2:=g0.2 ((fD n).1 h.1).1.2.1;cases h2)),fun h=>(by cases h)⟩
 |true=>
 refine cz ?_;refine Xa rfl nC (ny C) ?_;rintro v H2⟨rfl,rfl⟩;by_cases dc:n.cond=.lf false
 .have f4:decide (n.cond=.lf false)=true:=ar dc;refine dr f4 ?_;exact ao rfl dT (r:=[_]) rfl Z ⟨M,rfl,false,rfl,cC (fun h=>(((fD n).1 h.1).1.2.2.1 dc)),fun h=>(by cases h)⟩
 have f4:decide (n.cond=.lf false)=false:=aS dc;refine dr f4 ?_;refine ce dT [0] [] [M] rfl Pb rfl (WJ (C.le Z) (hW.le Z)) ?_;rintro v2 I2 qs cf es⟨rfl,rfl⟩;simp only[Z3]at cf |-;have k2:=Y Z es;by_cases am:n.cond.and w.not=.lf false
 rotate_left
 .have f5:decide (n.cond.and w.not=.lf false)=false:=aS am;apply RG;simp only[go_sem,sD,rD,E,f5,cF];exact ao rfl cf (r:=[_]) rfl k2 ⟨M,rfl,false,rfl,cC (fun h=>(am ((fD n).1 h.1).1.2.2.2.1)),fun h=>(by cases h)⟩
 have f5:decide (n.cond.and w.not=.lf false)=true:=ar am;by_cases fr:n.tok < -1
 .have f6:decide (n.tok < -1)=true:=ar fr;apply RG;simp only[go_sem,sD,rD,E,f5,f6,bX];exact ao rfl cf (r:=[_]) rfl k2 ⟨M,rfl,false,rfl,cC (fun h=>(by have:=((fD n).1 h.1).1.2.2.2.2.1.1;omega)),fun h=>(by cases h)⟩
 have f6:decide (n.tok < -1)=false:=aS fr;obtain⟨q1,h1⟩:∃q,(n.tok == -1)=q:=⟨_,rfl⟩;obtain⟨q2,h2⟩:∃q,((n.kind:Int) == 1)=q:=⟨_,rfl⟩;obtain⟨q3,h3⟩:∃q,(q1 != q2)=q:=⟨_,rfl⟩;have ea:q3=false<->(n.tok=-1<->n.kind=1):=by
  rw[<-h3,<-h1,<-h2];by_cases e1:n.tok=-1<;>by_cases e2:n.kind=1
  .rw[beq_iff_eq.2 e1,beq_iff_eq.2 (show (n.kind:Int)=1 by omega)];simp[e1,e2]
  .rw[beq_iff_eq.2 e1,beq_eq_false_iff_ne.2 (show (n.kind:Int)≠1 by omega)];simp[e1,e2]
  .rw[beq_eq_false_iff_ne.2 e1,beq_iff_eq.2 (show (n.kind:Int)=1 by omega)];simp[e1,e2]
  .rw[beq_eq_false_iff_ne.2 e1,beq_eq_false_iff_ne.2 (show (n.kind:Int)≠1 by omega)];simp[e1,e2]
 apply RG;simp only[go_sem,sD,rD,E,f5,f6,h1,h2,bX];refine tX (.bool q3) rfl rfl (fun w _=>by subst h3;clear ea h1 h2;cases q1<;>cases q2<;>kernel_rfl) ?_;cases q3 with
 |true=>refine cz ?_;exact ao rfl cf (r:=[_]) rfl k2 ⟨M,rfl,false,rfl,cC (fun h=>(by have h4:=ea.2 ((fD n).1 h.1).1.2.2.2.2.1.2;cases h4)),fun h=>(by cases h)⟩
 |false=>
 have b8:-1<=n.tok/\(n.tok=-1<->n.kind=1):=⟨O,ea.1 rfl⟩;obtain⟨S,d1,hS⟩:=hM.le k2;obtain⟨xa,xk,tt0,ck,cl,d0⟩:=VK hS n.tok;have a6:=RQ fo1 fo2;refine cz ?_;refine KI (by exact K3) (by exact CM) (by exact AH) rfl rfl rfl rfl (d1.atU cf ai) (by exact a6) ck ?_;refine cz ?_;refine ce cf [0] [] [M] rfl CH rfl (C9 cl (C.le k2)) ?_;rintro v3 I3 qs du a3⟨rfl,rfl⟩;simp only[Z3]at du |-;have k3:=Y k2 a3;have gq:tt0.and n.cond=.lf false<->∀p∈L,kH p (n.tok,n.cond):=by
  rw[<-BP cl.1 ee];constructor
  .intro h p hp e c ⟨h1,h2⟩;exact h c ⟨(d0 c).2 ⟨p,hp,e,h1⟩,h2⟩
  .intro h c ⟨h1,h2⟩;obtain⟨p,hp,e,h3⟩:=(d0 c).1 h1;exact h p hp e c ⟨h3,h2⟩
 by_cases ds:tt0.and n.cond=.lf false
 rotate_left
 .have f7:decide (tt0.and n.cond=.lf false)=false:=aS ds;apply RG;simp only[go_sem,sD,rD,E,f7,cF];exact ao rfl du (r:=[_]) rfl k3 ⟨M,rfl,false,rfl,cC (fun h=>(ds (gq.2 fun p hp=>(List.pairwise_append.1 h.2).2.2 p hp (n.tok,n.cond) (by rw[yb];exact .head _)))),fun h=>(by cases h)⟩
 have f7:decide (tt0.and n.cond=.lf false)=true:=ar ds;have c3:(L++[(n.tok,n.cond)]).Pairwise kH:=List.pairwise_append.2 ⟨et,kE _ _,fun p hp y hy=>by rw[List.mem_singleton]at hy;subst hy;exact gq.1 ds p hp⟩;apply RG;simp only[go_sem,sD,rD,E,f7,bX];refine aV [0,1,2,3,4,5,6,7,8,9,10] [6] [] ?_;refine bV ?_;refine KY (by exact K3) (by exact CM) (by exact AH) rfl rfl rfl rfl rfl (d1.atU du ai) (by exact a6) ck ?_;refine bV ?_;refine cv du [0] [] [M] rfl pi rfl (pH (cl.le a3) (C.le k3)) ?_;rintro v4 I4 qs gf c1⟨rfl,fz⟩;obtain⟨ya,yk,rfl⟩:=fz.shape2;simp only[Z3]at gf |-;refine bV ?_;refine AW (by exact K3) (by exact CM) (key:=.int .i64 n.tok) (v:=.agg #[sD ya yk (tt0.or n.cond),rD (tt0.or n.cond)]) gf rfl rfl rfl (.inl rfl) rfl rfl rfl d1 a6 fun M5 hz e7=>?_;have g1:=nl.put hS (Y a3 c1) cl.1 ee fz d0;have e7:nm I4 M5 r (L++[(n.tok,n.cond)]):=⟨_,e7,g1⟩;clear g1 hS d1 ck cl d0 hM;refine bV ?_;apply an;refine cz ?_;refine ce hz [0] [] [M5] rfl Pc rfl (Um ⟨dl,dd⟩) ?_;rintro v6 I6 qs ge c0⟨rfl,e4⟩;obtain⟨ra,rc,rfl,_⟩:=id e4;simp only[Z3]at ge |-;have ha:=DE n.kind;refine cz ?_;refine KK ge (by exact UN) (by exact AH) rfl rfl rfl rfl O O fun sb gc=>?_;have fp:=Ty (I:=I6) (b:=sb) ha;rw[<-US]at fp;have k6:=Y k3 (Y c1 c0);generalize sg sb (.cells (madeCells (Value.agg #[.slice none 0 0,.int .i64 0]).cells ((rl n.kind).length*2)) 50 (0,0))=A0 at fp gc |-;have hB:=e7.le c0;refine cz ?_;refine bq gc [1,0] fun hw=>?_
 apply gl (fun i=>n.kids.length-i) (tJ [.int .u8 n.kind,.string ⟨⟨n.text⟩⟩,.int .i64 n.tok,.int .i64 n.slot,.slice ka n.kids.length kc,sD na nk n.cond,rD n.cond] r lev (.slice ra (rl n.kind).length rc) (.slice (some ⟨sb,0,none⟩) (rl n.kind).length (rl n.kind).length) (.slice ka n.kids.length kc) n.kids.length) (Kf n r L (.slice (some ⟨sb,0,none⟩) (rl n.kind).length (rl n.kind).length) I6) (fun i H=>i=n.kids.length/\Kf n r L (.slice (some ⟨sb,0,none⟩) (rl n.kind).length (rl n.kind).length) I6 i H) 0
 .exact ae
 .exact(by simp only[go_sem,ab,tJ,sD,rD,E])
 .exact⟨I6,M5,A0,rfl,hw,ax _,bg _,hB,fp,c3,fun j m h=>by omega⟩
 .rintro i H ⟨I7,M7,A7,rfl,N,t,hi,ci,c5,P,cj⟩ V c2;simp only[tJ];rcases aB i n.kids.length with W|hh
  rotate_left
  .have:i=n.kids.length:=by omega
   subst this;have d3:decide (((n.kids.length:Nat):Int)<(n.kids.length:Int))=false:=ai;apply bU 7;simp only[go_sem,d3,E];exact c2 n.kids.length _ _ ae (by simp only[go_sem,ab,tJ]) ⟨rfl,I7,M7,A7,rfl,N,t,aW _,ci,c5,P,cj⟩
  have d3:=Z5 i n.kids.length;have hT:=mO c4 W;obtain⟨m,cb⟩:∃m,n.kids[i]?=some m:=⟨_,aL W⟩;have cy:=cH cb;have kx0:VX FB w n->rK n i m:=fun h=>((fD n).1 h).1.2.2.2.2.2.1 i m cb;have d4:=Y k6 t;obtain⟨b,off,cs,ev,eN,ag⟩:=Sl.load az.len (de.le aa (Y k6 t)) cb;cases ev
  obtain⟨vkm,ma,mk,rfl,ap,a5,gr⟩:=eN.shape;obtain⟨kma,kmc,rfl,_⟩:=id a5;by_cases ck:m.slot<0
  .have f94:decide (m.slot<0)=true:=ar ck;refine dr d3 ?_;refine⟨O,?_⟩;refine Xb (l:=[.int .u8 m.kind,.string ⟨⟨m.text⟩⟩,.int .i64 m.tok,.int .i64 m.slot,.slice kma m.kids.length kmc,sD ma mk m.cond,rD m.cond]) (v:=.agg #[.int .u8 m.kind,.string ⟨⟨m.text⟩⟩,.int .i64 m.tok,.int .i64 m.slot,.slice kma m.kids.length kmc,sD ma mk m.cond,rD m.cond]) rfl (cellsU N (.head _) ag) (.inl ⟨bK,rfl⟩) ?_;refine cz ?_;refine aV [0,1,2,3,4,5,6,7,8,9,10,11,12,13,14,15,16,17,18,19,21,20,22,23,24,25,26] [19] [] ?_;refine jG f94 ?_;apply an;refine bq N [1,0] fun b0=>?_;refine bH (c:=.st _) b0 fun If1 b0 er hR=>?_;refine af ?_;exact ao rfl b0 (r:=[_]) rfl (Y d4 er) ⟨M7,rfl,false,rfl,cC (fun h=>(by obtain⟨⟨s,e,_⟩,_⟩:=kx0 h.1;omega)),fun h=>(by cases h)⟩
  obtain⟨s,cx⟩:∃s:Nat,m.slot=(s:Int):=⟨m.slot.toNat,O⟩;rw[cx]at eN ag;have hf:m.key=⟨(s:Int),m.tok,m.kind,m.text⟩:=by unfold Nd.key;rw[cx]
  refine dr d3 ?_;refine⟨O,?_⟩;refine Xb (l:=[.int .u8 m.kind,.string ⟨⟨m.text⟩⟩,.int .i64 m.tok,.int .i64 s,.slice kma m.kids.length kmc,sD ma mk m.cond,rD m.cond]) (v:=.agg #[.int .u8 m.kind,.string ⟨⟨m.text⟩⟩,.int .i64 m.tok,.int .i64 s,.slice kma m.kids.length kmc,sD ma mk m.cond,rD m.cond]) rfl (cellsU N (.head _) ag) (.inl ⟨bK,rfl⟩) ?_;refine cz ?_;have f94:decide ((s:Int)<0)=false:=aS O;rcases aB s (rl n.kind).length with c9|c9
  rotate_left
  .have f98:decide ((s:Int)>=((rl n.kind).length:Int))=true:=ar O;refine aV [0,1,2,3,4,5,6,7,8,9,10,11,12,13,14,15,16,17,18,19,21,20,22,23,24,25,26] [19] [] ?_;apply bp;simp only[go_sem,E,sD,rD,f94,f98];apply an;refine bq N [1,0] fun bx=>?_;refine bH (c:=.st _) bx fun If2 bx eq hP=>?_;refine af ?_;exact ao rfl bx (r:=[_]) rfl (Y d4 eq) ⟨M7,rfl,false,rfl,cC (fun h=>(by obtain⟨⟨s2,e,r,hr,_⟩,_⟩:=kx0 h.1;have h2:=(List.getElem?_eq_some_iff.1 hr).1;omega)),fun h=>(by cases h)⟩
  obtain⟨z,o⟩:∃z,(rl n.kind)[s]?=some z:=⟨_,aL c9⟩;obtain⟨rb,roff,rcs,ev,a0,R⟩:=Sl.load lX.len (gg.le e4 t) o;cases ev
  obtain⟨vkk,rfl,d2⟩:=id a0;obtain⟨kka,kkc,rfl,_⟩:=id d2;apply qg (fun _:Unit=>pS [.int .u8 n.kind,.string ⟨⟨n.text⟩⟩,.int .i64 n.tok,.int .i64 n.slot,.slice (some ⟨b,off,none⟩) n.kids.length kc,sD na nk n.cond,rD n.cond] [.int .u8 m.kind,.string ⟨⟨m.text⟩⟩,.int .i64 m.tok,.int .i64 s,.slice kma m.kids.length kmc,sD ma mk m.cond,rD m.cond] 119 r lev (.slice (some ⟨rb,roff,none⟩) (rl n.kind).length rc) (.slice (some ⟨sb,0,none⟩) (rl n.kind).length (rl n.kind).length) (.slice (some ⟨b,off,none⟩) n.kids.length kc) n.kids.length i) (fun _ H=>∃I,H=U [I,M7,A7]/\Dj [I,M7,A7]/\I7.le I/\∀p,0<i->n.kids[i-1]?=some p->dE p.key m.key=true)
  .intro hg;have f98:decide ((s:Int)>=((rl n.kind).length:Int))=false:=aS O;refine aV [0,1,2,3,4,5,6,7,8,9,10,11,12,13,14,15,16,17,18,19,21,20,22,23,24,25,26] [19] [] ?_;rcases g9 i with h0|h0
   .have f105:decide ((i:Int)>0)=false:=aS O;apply bp;simp only[go_sem,E,sD,rD,f94,f98,f105];apply an;exact hg () _ _ ⟨I7,rfl,N,ax _,fun _ h _=>by omega⟩ ae (by simp only[go_sem,ab,pS,E,sD,rD])
   obtain⟨j,hj⟩:∃j,i=j+1:=⟨i-1,O⟩;have f105:decide ((i:Int)>0)=true:=ar O;have ej:IntKind.i64.wrap ((i:Int)-1)=(j:Int):=by
    rw[show (i:Int)-1=(j:Int) by omega];rcases j with _|j'
    .exact wrap64 O
    .exact mO c4 O
   obtain⟨G,ed⟩:∃G,n.kids[j]?=some G:=⟨_,aL O⟩;obtain⟨b2,off2,cs2,ev2,ez,b4⟩:=Sl.load az.len (de.le aa (Y k6 t)) ed;cases ev2
   obtain⟨vkp,pa,pk,rfl,fs,a4,_⟩:=ez.shape;obtain⟨kpa,kpc,rfl,_⟩:=id a4;apply bp;simp only[go_sem,E,sD,rD,f94,f98,f105,ej];refine⟨O,?_⟩;refine Xc (l:=[.int .u8 G.kind,.string ⟨⟨G.text⟩⟩,.int .i64 G.tok,.int .i64 G.slot,.slice kpa G.kids.length kpc,sD pa pk G.cond,rD G.cond]) (v:=.agg #[.int .u8 G.kind,.string ⟨⟨G.text⟩⟩,.int .i64 G.tok,.int .i64 G.slot,.slice kpa G.kids.length kpc,sD pa pk G.cond,rD G.cond]) rfl (cellsU N (.head _) b4) (.inl ⟨bK,rfl⟩) ?_;refine bV ?_;refine cv N [0,1] [] [M7,A7] rfl uX rfl (aJ.keep (vr _ _ _ _ _ _ _ _ _ _ _ _)) ?_;rintro va Ia qs B f⟨rfl,rfl⟩;simp only[Z3]at B |-;refine bV ?_;refine cv B [0,1] [] [M7,A7] rfl uX rfl (aJ.keep (vr _ _ _ _ _ _ _ _ _ _ _ _)) ?_;rintro vb Ib qs K D⟨rfl,rfl⟩;simp only[Z3]at K |-;refine bV ?_;refine cv K [0,1] [] [M7,A7] rfl GP rfl (FT G.key ⟨(s:Int),m.tok,m.kind,m.text⟩ Ib) ?_;rintro vc Ic qs b3 X⟨rfl,rfl⟩;simp only[Z3]at b3 |-;have kc7:=Y f (Y D X);have ct:(decide (fT G.key ⟨(s:Int),m.tok,m.kind,m.text⟩>=0)=false)<->dE G.key m.key=true:=by rw[<-vm,hf,cu,pZ];omega
   cases f117:decide (fT G.key ⟨(s:Int),m.tok,m.kind,m.text⟩>=0)
   .refine jG f117 ?_;apply an;exact hg () _ _ ⟨Ic,rfl,b3,kc7,fun p _ ga=>by rw[show i-1=j by omega,ed]at ga;cases ga;exact ct.1 f117⟩ ae (by simp only[go_sem,ab,pS,E,sD,rD])
   .skip
    refine jG f117 ?_;apply an;refine bq b3 [1,0] fun bo=>?_;refine bH (c:=.st _) bo fun If3 bo em hO=>?_;refine af ?_;exact ao rfl bo (r:=[_]) rfl (Y (Y d4 kc7) em) ⟨M7,rfl,false,rfl,cC (fun h=>(by rw[ct.2 ((kx0 h.1).2 G h0 (by rw[show i-1=j by omega];exact ed))]at f117;cases f117)),fun h=>(by cases h)⟩
  rintro⟨⟩ H ⟨I8,rfl,A,d,cr⟩;simp only[pS];refine cz ?_;refine⟨O,?_⟩;refine Xb (l:=[.int .u8 z.1,.slice kka z.2.length kkc]) (v:=.agg #[.int .u8 z.1,.slice kka z.2.length kkc]) rfl (cellsU A (.head _) (R.le d)) (.inl ⟨Bj,rfl⟩) ?_;refine cz ?_;have k8:=Y k6 (Y t d);have ey:=az.le eN d;have aq:=ap.le d;obtain⟨g,cap,cur,cc,ev,eA,b1,e3,eU,u,ec⟩:=Ow.part (oA.le c5 d) (fun{I} c a h=>jX.len c a h) (fun{I J c a} h k=>jX.le h k) (zR c9 (n.kids.take i)) 0 2 O;obtain⟨xca,xck,rfl,da⟩:=id e3;rw[wx]at ev b1;cases ev
  subst eA;simp only[jU,rE,od]at u;have hc:=ap.1;have hY:=kS cy;have hX:=iK cy;have elev:=Z7 lev;have b8:n.kids.take (i+1)=n.kids.take i++[m]:=iL cb;have ac:L++(n.tok,n.cond)::dv (n.kids.take (i+1))=(L++(n.tok,n.cond)::dv (n.kids.take i))++iE m:=by rw[b8,o8];simp[dv]
  have hC:∀p∈dv n.kids,p.2.ok 0:=fun p hp=>fb p (by rw[yb];exact .tail _ hp);have g3:∀p∈dv (n.kids.take (i+1)),p.2.ok 0:=fun p hp=>hC p (by
   have h2:(dv (n.kids.take (i+1))).Sublist (dv n.kids):=by
    conv=>rhs;rw[<-fl (i+1) n.kids,o8]
    exact List.sublist_append_left _ _
   exact h2.subset hp)
  have hD:∀p∈iE m,p.2.ok 0:=fun p hp=>g3 p (by rw[b8,o8];exact eo _ (by simpa[dv]using hp));have hE:∀p∈L++(n.tok,n.cond)::dv (n.kids.take i),p.2.ok 0:=fun p hp=>by
   rcases List.mem_append.1 hp with h|h
   .exact e8 p h
   .rcases List.mem_cons.1 h with rfl|h
    .exact ee
    .exact g3 p (by rw[b8,o8];exact dk _ h)
  have kx1:VX FB w n->z.1≠2->(cV (n.kids.take i) s).and m.cond=.lf false:=fun h h2=>((fD n).1 h).1.2.2.2.2.2.2.1 s z o h2 i m cb cx;have kvx:VX FB w n->VX FB n.cond m:=fun h=>((fD n).1 h).2 m cy;have recur {J:PH} (hJ:I8.le J):=ih (n:=m) O (az.le ey hJ) (C.le (Y k8 hJ)) (d5 m cy) (o9.1 hn m cy) (hV.le (Y k8 hJ)) (lev:=lev+1) O (ci.le (Y d hJ)) hE hD P;apply qg (fun _:Unit=>pS [.int .u8 n.kind,.string ⟨⟨n.text⟩⟩,.int .i64 n.tok,.int .i64 n.slot,.slice (some ⟨b,off,none⟩) n.kids.length kc,sD na nk n.cond,rD n.cond] [.int .u8 m.kind,.string ⟨⟨m.text⟩⟩,.int .i64 m.tok,.int .i64 s,.slice kma m.kids.length kmc,sD ma mk m.cond,rD m.cond] 155 r lev (.slice (some ⟨rb,roff,none⟩) (rl n.kind).length rc) (.slice (some ⟨sb,0,none⟩) (rl n.kind).length (rl n.kind).length) (.slice (some ⟨b,off,none⟩) n.kids.length kc) n.kids.length i) (fun _ H=>∃I M',H=U [I,M',sg sb (.cells cur 50 (0,0))]/\Dj [I,M',sg sb (.cells cur 50 (0,0))]/\I8.le I/\nm I M' r (L++(n.tok,n.cond)::dv (n.kids.take (i+1)))/\(L++(n.tok,n.cond)::dv (n.kids.take (i+1))).Pairwise kH/\m.kind∈z.2/\(z.1≠2->(cV (n.kids.take i) s).and m.cond=.lf false)/\VX FB n.cond m)
  .intro hg;refine aV [0,1,2,3,4,5,6,7,8,9,10,11,12,13,14,15,16,17,18,19,20,21,22,23,24,25,26,27,28,29,30] [15] [] ?_;refine bV ?_;refine cv A [0,1] [] [M7,_] rfl Pd rfl (aJ.keep (RM (k:=m.kind) (fw.le d2 d) (Uh o))) ?_;rintro va Ia qs B f⟨rfl,rfl⟩;simp only[Z3]at B |-;have k8a:=Y k8 f;by_cases a1:m.kind∈z.2
   rotate_left
   .have f130:decide (m.kind∈z.2)=false:=aS a1;apply bp;simp only[go_sem,E,sD,rD,f130,cF];apply an;refine bq B [1,0] fun bd=>?_;refine bH (c:=.st _) bd fun If4 bd el hL=>?_;refine af ?_;exact ao rfl bd (r:=[_]) rfl (Y k8a el) ⟨M7,rfl,false,rfl,cC (fun h=>(by obtain⟨⟨s2,e,r,hr,h3⟩,_⟩:=kx0 h.1;rw[show s2=s from O,o]at hr;cases hr;exact a1 h3)),fun h=>(by cases h)⟩
   have f130:decide (m.kind∈z.2)=true:=ar a1;have kno:(VX FB w n/\(L++iE n).Pairwise kH)->VX FB n.cond m/\((L++(n.tok,n.cond)::dv (n.kids.take i))++iE m).Pairwise kH:=fun h=>⟨kvx h.1,by rw[<-ac];exact h.2.sublist (Oo (i+1))⟩;by_cases h2:z.1=2
   .have b7:((z.1:Int) != 2)=false:=iU O;apply bp;simp only[go_sem,E,sD,rD,f130,bX,b7,elev];refine cv B [0,1] [M7] [_] rfl yp rfl (recur f) ?_;rintro vb Ib qs K D⟨Mb,rfl,bb,rfl,b5,e5⟩;simp only[Z3]at K |-;cases bb with
    |false=>apply bp;simp only[go_sem,E,sD,rD,cF];apply an;refine bq K [1,0] fun bc=>?_;refine bH (c:=.st _) bc fun If5 bc ek hK=>?_;refine af ?_;exact ao rfl bc (r:=[_]) rfl (Y (Y k8a D) ek) ⟨Mb,rfl,false,rfl,cC (fun h=>(by have h4:=b5.2 (kno h);cases h4)),fun h=>(by cases h)⟩
    |true=>apply bp;simp only[go_sem,E,sD,rD,bX];apply an;exact hg () _ _ ⟨Ib,Mb,rfl,K,Y f D,by rw[ac];exact e5 rfl,by rw[ac];exact(b5.1 rfl).2,a1,fun h=>(h h2).elim,(b5.1 rfl).1⟩ ae (by simp only[go_sem,ab,pS,E,sD,rD])
   .have b7:((z.1:Int) != 2)=true:=iz O;apply bp;simp only[go_sem,E,sD,rD,f130,bX,b7,elev];refine⟨O,?_⟩;refine Xc (l:=[sD xca xck (cV (n.kids.take i) s),rD (cV (n.kids.take i) s)]) (v:=.agg #[sD xca xck (cV (n.kids.take i) s),rD (cV (n.kids.take i) s)]) rfl (by simpa using cellsU B (.tail _ (.tail _ (.head _))) u) (.inl ⟨nr,rfl⟩) ?_;refine bV ?_;refine cv B [0,1] [] [M7,_] rfl CH rfl (C9 (da.le f) (aq.le f)) ?_;rintro vc Ic qs b3 X⟨rfl,rfl⟩;simp only[Z3]at b3 |-;have k8c:=Y k8a X;by_cases ca:(cV (n.kids.take i) s).and m.cond=.lf false
    rotate_left
    .have f143:decide ((cV (n.kids.take i) s).and m.cond=.lf false)=false:=aS ca;apply bp;simp only[go_sem,E,sD,rD,f143,cF];apply an;refine bq b3 [1,0] fun ba=>?_;refine bH (c:=.st _) ba fun If6 ba ei hI=>?_;refine af ?_;exact ao rfl ba (r:=[_]) rfl (Y k8c ei) ⟨M7,rfl,false,rfl,cC (fun h=>(ca (kx1 h.1 h2))),fun h=>(by cases h)⟩
    have f143:decide ((cV (n.kids.take i) s).and m.cond=.lf false)=true:=ar ca;apply bp;simp only[go_sem,E,sD,rD,f143,bX,elev];refine cv b3 [0,1] [M7] [_] rfl yp rfl (recur (Y f X)) ?_;rintro vb Ib qs K D⟨Mb,rfl,bb,rfl,b5,e5⟩;simp only[Z3]at K |-;cases bb with
    |false=>apply bp;simp only[go_sem,E,sD,rD,cF];apply an;refine bq K [1,0] fun a9=>?_;refine bH (c:=.st _) a9 fun If7 a9 eh hG=>?_;refine af ?_;exact ao rfl a9 (r:=[_]) rfl (Y (Y k8c D) eh) ⟨Mb,rfl,false,rfl,cC (fun h=>(by have h4:=b5.2 (kno h);cases h4)),fun h=>(by cases h)⟩
    |true=>apply bp;simp only[go_sem,E,sD,rD,bX];apply an;exact hg () _ _ ⟨Ib,Mb,rfl,K,Y (Y f X) D,by rw[ac];exact e5 rfl,by rw[ac];exact(b5.1 rfl).2,a1,fun _=>ca,(b5.1 rfl).1⟩ ae (by simp only[go_sem,ab,pS,E,sD,rD])
  rintro⟨⟩ H ⟨I9,M9,rfl,Q,F,hA,ex,a1,ca,g4⟩;simp only[pS];refine cz ?_;refine aV [0,1,2,3,4,5,6,7,8,9,10,11,12] [7] [] ?_;refine bV ?_;refine⟨O,?_⟩;refine Xc (l:=[sD xca xck (cV (n.kids.take i) s),rD (cV (n.kids.take i) s)]) (v:=.agg #[sD xca xck (cV (n.kids.take i) s),rD (cV (n.kids.take i) s)]) rfl (by simpa using cellsU Q (.tail _ (.tail _ (.head _))) u) (.inl ⟨nr,rfl⟩) ?_;refine bV ?_;refine cv Q [0,1] [] [M9,_] rfl pi rfl (pH (da.le F) (aq.le F)) ?_;rintro vd Id qs gb a2⟨rfl,fv⟩;obtain⟨za,zk,rfl⟩:=fv.shape2;simp only[Z3]at gb |-;refine bV ?_;refine⟨O,?_⟩;refine gw gb [1,0] fun hu=>?_;refine cg hu rfl rfl rfl rfl rfl rfl (by exact Ac) (by simp;omega) fun ht=>?_;refine bV ?_;apply an;refine dr hT ?_;refine bq ht [1,0] fun ho=>?_;have c6:=ec Id [sD za zk ((cV (n.kids.take i) s).or m.cond),rD ((cV (n.kids.take i) s).or m.cond)] ((cV (n.kids.take i) s).or m.cond) (Y F a2) ai ⟨za,zk,by simp[bi,sD,rD],fv⟩;rw[<-UT c9 _ m cx,<-b8]at c6;refine V (i+1) _ _ O ae (by simp only[go_sem,ab,tJ,E,sD,rD]) ⟨Id,M9,_,rfl,ho,Y t (Y d (Y F a2)),W,hA.le a2,c6,ex,fun j x hj hx=>?_⟩;rcases Nat.lt_or_eq_of_le (Nat.le_of_lt_succ hj)with h|rfl
  .exact cj j x h hx
  .rw[cb]at hx;cases hx;refine⟨⟨⟨s,cx,z,o,a1⟩,cr⟩,fun s2 r2 f0 h2 e=>?_,g4⟩;have:s2=s:=O;subst this;rw[o]at f0;cases f0;exact ca h2
 rintro i H ⟨rfl,I7,M7,A7,rfl,N,t,_,ci,c5,P,cj⟩;simp only[tJ];rw[cB]at ci c5 P;rw[<-yb]at ci P;have k7:=Y k6 t;refine cz ?_;refine bz (fun i=>(rl n.kind).length-i) (wQ [.int .u8 n.kind,.string ⟨⟨n.text⟩⟩,.int .i64 n.tok,.int .i64 n.slot,.slice ka n.kids.length kc,sD na nk n.cond,rD n.cond] (.slice ra (rl n.kind).length rc) (.slice (some ⟨sb,0,none⟩) (rl n.kind).length (rl n.kind).length) (rl n.kind).length) (Wu n r L (.slice (some ⟨sb,0,none⟩) (rl n.kind).length (rl n.kind).length) I7) 0 ae (by simp only[go_sem,ab,wQ,sD,rD,E]) ⟨I7,M7,A7,rfl,N,ax _,bg _,ci,c5,fun s r h=>by omega⟩ ?_;rintro i H ⟨I8,M8,A8,rfl,A,d,hi,e6,fn,g2⟩ V;simp only[wQ];rcases aB i (rl n.kind).length with W|hh
 .have b6:decide ((i:Int)<((rl n.kind).length:Int))=true:=ar O;have e1:=Z7 i;obtain⟨z,o⟩:∃z,(rl n.kind)[i]?=some z:=⟨_,aL W⟩;obtain⟨rb,roff,rcs,ev,a0,R⟩:=Sl.load lX.len (gg.le e4 (Y t d)) o;cases ev
  obtain⟨vkk,rfl,d2⟩:=id a0;obtain⟨kka,kkc,rfl,_⟩:=id d2;have step:(z.1=0->cV n.kids i=n.cond)->∀(s:Nat) r,s<i+1->(rl n.kind)[s]?=some r->r.1=0->cV n.kids s=n.cond:=fun h s r hs hr h0=>by
   rcases Nat.lt_or_eq_of_le (Nat.le_of_lt_succ hs)with h3|rfl
   .exact g2 s r h3 hr h0
   .rw[o]at hr;cases hr;exact h h0
  refine dr b6 ?_;refine⟨O,?_⟩;refine Xb (l:=[.int .u8 z.1,.slice kka z.2.length kkc]) (v:=.agg #[.int .u8 z.1,.slice kka z.2.length kkc]) rfl (cellsU A (.head _) R) (.inl ⟨Bj,rfl⟩) ?_;refine cz ?_;refine aV [0,1,2,3,4,5,6,7,8,9,10,11,12] [7] [] ?_;cases al:((z.1:Int) == 0)
  .refine jG al ?_;apply an;refine dr e1 ?_;exact V (i+1) _ _ O ae (by simp only[go_sem,ab,wQ,E,sD,rD]) ⟨I8,M8,A8,rfl,A,d,W,e6,fn,step fun h=>by rw[h]at al;cases al⟩
  .have d7:z.1=0:=by have:=eq_of_beq al;omega
   obtain⟨g,cap,cur,cc,ev,eA,b1,_,e3,eU,u,_⟩:=Ow.elem fn (fun{I} c a h=>jX.len c a h) (fun{I J c a} h k=>jX.le h k) (zR W n.kids);obtain⟨xca,xck,rfl,da⟩:=id e3;rw[wx]at ev b1;cases ev
   subst eA;refine jG al ?_;refine⟨O,?_⟩;refine Xc (l:=[sD xca xck (cV n.kids i),rD (cV n.kids i)]) (v:=.agg #[sD xca xck (cV n.kids i),rD (cV n.kids i)]) rfl (by simpa using cellsU A (.tail _ (.tail _ (.head _))) u) (.inl ⟨nr,rfl⟩) ?_;refine bV ?_;refine cv A [0,1] [] [M8,_] rfl G9 rfl (aJ.keepE (Uz da (C.le (Y k7 d)))) ?_;rintro va Ia qs B f⟨rfl,bs,rfl,gs⟩;simp only[Z3]at B |-;cases bs with
   |false=>apply bp;simp only[go_sem,E,sD,rD,cF];apply an;refine bq B [1,0] fun a7=>?_;refine bH (c:=.st _) a7 fun If8 a7 eg hF=>?_;refine af ?_;exact ao rfl a7 (r:=[_]) rfl (Y (Y k7 (Y d f)) eg) ⟨M8,rfl,false,rfl,cC (fun h=>(by have h4:=gs.2 (((fD n).1 h.1).1.2.2.2.2.2.2.2 i z o d7);cases h4)),fun h=>(by cases h)⟩
   |true=>
   apply bp;simp only[go_sem,E,sD,rD,bX];apply an;refine dr e1 ?_;exact V (i+1) _ _ O ae (by simp only[go_sem,ab,wQ,E,sD,rD]) ⟨Ia,M8,_,rfl,B,Y d f,W,e6.le f,oA.le fn f,step fun _=>gs.1 rfl⟩
 .have:i=(rl n.kind).length:=by omega
  subst this;have b6:decide (((rl n.kind).length:Int)<((rl n.kind).length:Int))=false:=ai;refine bq A [1,0] fun Q=>?_;refine bH (c:=.st _) Q fun I9 Q F h6=>?_;refine aj b6 ?_;refine ao rfl Q (r:=[_]) rfl (Y k7 (Y d F)) ⟨M8,rfl,true,rfl,AG ⟨(fD n).2 ⟨⟨⟨dl,dd⟩,g0.1 rfl,dc,am,b8,fun j m hj=>(cj j m ?_ hj).1,fun i r hr h2 j m hj=>(cj j m ?_ hj).2.1 i r hr h2,fun i r hr h0=>g2 i r ?_ hr h0⟩,fun m hm=>?_⟩,P⟩,fun _=>e6.le F⟩
  .exact(List.getElem?_eq_some_iff.1 hj).1
  .exact(List.getElem?_eq_some_iff.1 hj).1
  .exact(List.getElem?_eq_some_iff.1 hr).1
  .obtain⟨j,hj⟩:=List.getElem?_of_mem hm;exact(cj j m (List.getElem?_eq_some_iff.1 hj).1 hj).2.2
def PY:ay prog 49:=⟨_,func49,rfl,rfl⟩
def PZ:ay prog 52:=⟨_,func52,rfl,rfl⟩
theorem JE:(T.subs ff).length=0:=rfl
theorem IH:T.plc (T.subs ff) ff=0:=rfl
def AC(a:Value)(n:Nat)(x:Nat×Option Addr×Nat×T):St:=⟨dn 20 [(2,.p 2 0),(3,.p 3 0),(8,.v a),(9,.v (E n)),(10,.v (E x.1))],[⟨2,50,[.slice none 0 0,E 0]⟩,⟨3,50,[sD x.2.1 x.2.2.1 x.2.2.2,rD x.2.2.2]⟩]⟩
def WC(l:List Nd)(a:PH)(x:Nat×Option Addr×Nat×T)(H:PH):Prop:=∃I,H=U [I]/\Dj [I]/\a.le I/\x.1<=l.length/\bO I (.agg #[sD x.2.1 x.2.2.1 x.2.2.2,rD x.2.2.2]) x.2.2.2/\∀c,x.2.2.2.at' c=(l.take x.1).any (·.cond.at' c)
def L7{α:Type}{l:List α}{i:Nat}{n:α}(h:l[i]?=some n)(p:α->Bool):(l.take (i+1)).any p=((l.take i).any p || p n):=by rw[cw h,List.any_append];simp
def WH{t:Tr}(Q:gh I v t):aI prog 49 #[v] I [] fun r I2 qs=>qs=[]/\∃S:T,bO I2 r S/\∀c,S.at' c=t.kids.any (·.cond.at' c):=by
 obtain⟨W,vd,rfl,D,z,U,R⟩:=id Q;obtain⟨M,L,rfl,_⟩:=id D;obtain⟨Z,X,rfl,_⟩:=id U;intro hd;refine aG 20 func49 fun w0=>?_;refine af ?_;refine Xa rfl u0 (uS _) ?_;rintro v H2⟨rfl,rfl⟩;refine av ?_;refine bz (fun x=>t.kids.length-x.1) (AC (.slice M t.kids.length L) t.kids.length) (WC t.kids I) (0,none,0,ff) ae (by simp only[go_sem,ab,AC,E,sD,rD,JE,IH]) ⟨I,rfl,hd,ax _,bg _,we I,fun c=>rfl⟩ ?_;rintro⟨i,sa,K,S⟩ H ⟨I1,rfl,j,a,hi,u,d⟩ f;simp only at hi u d;simp only[AC];rcases aB i t.kids.length with g|P
 .have m:=Z5 i t.kids.length;have V:=mO z g;obtain⟨n,C⟩:∃n,t.kids[i]?=some n:=⟨_,aL g⟩;obtain⟨b,off,cs,ev,y,k⟩:=Sl.load az.len (de.le D a) C;cases ev
  obtain⟨J,B,A,rfl,e,h,_⟩:=y.shape;obtain⟨p,o,rfl,_⟩:=id h;refine dr m ?_;refine⟨O,?_⟩;refine Xb (l:=[.int .u8 n.kind,.string ⟨⟨n.text⟩⟩,.int .i64 n.tok,.int .i64 n.slot,.slice p n.kids.length o,sD B A n.cond,rD n.cond]) (v:=.agg #[.int .u8 n.kind,.string ⟨⟨n.text⟩⟩,.int .i64 n.tok,.int .i64 n.slot,.slice p n.kids.length o,sD B A n.cond,rD n.cond]) rfl (cellsU j (.head _) k) (.inl ⟨bK,rfl⟩) ?_;refine cz ?_;refine dq j rfl pi (pH u e) ?_;rintro v2 I2 qs w s⟨rfl,q⟩;obtain⟨G,F,rfl⟩:=q.shape2;refine dr V ?_;exact f (i+1,G,F,S.or n.cond) _ _ bC ae (by simp only[go_sem,ab,AC,E,sD,rD]) ⟨I2,rfl,w,Y a s,g,q,fun c=>by simp only;rw[L7 C,T.or_at u.1 e.1,d]⟩
 .have:i=t.kids.length:=by omega
  subst this;have m:decide (((t.kids.length:Nat):Int)<(t.kids.length:Int))=false:=ai;rw[cB]at d;refine dr m ?_;exact ao rfl j (r:=[.agg #[sD sa K S,rD S]]) (by simp only[results49,go_sem,E,sD,rD]) a ⟨rfl,S,u,d⟩
def tI(a vd:Value)(n:Nat)(x:Nat×Option Addr×Nat×T):St:=⟨dn 91 [(1,.p 1 0),(2,.v (.bool false)),(3,.p 3 0),(10,.v a),(11,.v (E n)),(12,.v (E x.1))],[⟨1,36,[a,vd]⟩,⟨3,50,[sD x.2.1 x.2.2.1 x.2.2.2,rD x.2.2.2]⟩]⟩
def At(a vd:Value)(b:List Value)(n:Nat)(x:Nat×Option Addr×Nat×T):St:=⟨dn 91 [(1,.p 1 0),(2,.v (.bool false)),(3,.p 3 0),(5,.p 5 0),(10,.v a),(11,.v (E n)),(12,.v (E x.1)),(35,.v (.bool false))],[⟨1,36,[a,vd]⟩,⟨3,50,[sD x.2.1 x.2.2.1 x.2.2.2,rD x.2.2.2]⟩,⟨5,60,b⟩]⟩
def Av(a vd:Value)(n:Nat)(x:Nat×Option Addr×Nat×T):St:=⟨dn 91 [(1,.p 1 0),(2,.v (.bool false)),(3,.p 3 0),(40,.v vd),(41,.v (E n)),(42,.v (E x.1))],[⟨1,36,[a,vd]⟩,⟨3,50,[sD x.2.1 x.2.2.1 x.2.2.2,rD x.2.2.2]⟩]⟩
def Au(a vd:Value)(b:List Value)(n:Nat)(x:Nat×Option Addr×Nat×T):St:=⟨dn 91 [(1,.p 1 0),(2,.v (.bool false)),(3,.p 3 0),(7,.p 7 0),(40,.v vd),(41,.v (E n)),(42,.v (E x.1)),(85,.v (.bool false))],[⟨1,36,[a,vd]⟩,⟨3,50,[sD x.2.1 x.2.2.1 x.2.2.2,rD x.2.2.2]⟩,⟨7,80,b⟩]⟩
def Kc(t:Tr)(a:PH)(x:Nat×Option Addr×Nat×T)(H:PH):Prop:=∃I,H=U [I]/\Dj [I]/\a.le I/\x.1<=t.kids.length/\bO I (.agg #[sD x.2.1 x.2.2.1 x.2.2.2,rD x.2.2.2]) x.2.2.2/\x.2.2.2=cM (t.kids.take x.1)/\(∀n∈t.kids.take x.1,n.kind=1/\n.slot=0/\VX FB (.lf true) n)/\(dv (t.kids.take x.1)).Pairwise kH/\(t.kids.take x.1).length<=1
def Wo(t:Tr)(a:PH)(x:Nat×Option Addr×Nat×T)(H:PH):Prop:=∃I,H=U [I]/\Dj [I]/\a.le I/\x.1<=t.diags.length/\bO I (.agg #[sD x.2.1 x.2.2.1 x.2.2.2,rD x.2.2.2]) x.2.2.2/\x.2.2.2=dw (cM t.kids) (t.diags.take x.1)/\∀i d,i<x.1->t.diags[i]?=some d->KD t i d
def Wh{t:Tr}(hV:iR I)(hT:gh I v t)(b6:ne oL t.kids)(ca:iY t.kids)(b7:ii t.kids)(hz:eO t.kids<=16000):aI prog 52 #[v] I [] fun r I2 qs=>qs=[]/\∃b:Bool,r=.bool b/\(b=true<->qk t):=by
 obtain⟨vk,vd,rfl,hK,ci,hD,b4⟩:=id hT;obtain⟨ka,kc,rfl,_⟩:=id hK;obtain⟨da,dc,rfl,_⟩:=id hD;intro hd;refine aG 91 func52 fun w0=>?_;refine af ?_;refine Xa rfl u0 (uS _) ?_;rintro v H2⟨rfl,rfl⟩;refine av ?_;apply gl (fun x=>t.kids.length-x.1) (tI (.slice ka t.kids.length kc) (.slice da t.diags.length dc) t.kids.length) (Kc t I) (fun x H=>x.1=t.kids.length/\Kc t I x H) (0,none,0,ff)
 .exact ae
 .exact(by simp only[go_sem,ab,tI,E,sD,rD,JE,IH])
 .exact⟨I,rfl,hd,ax _,bg _,we I,rfl,fun n h=>by simp at h,by simp[dv],by simp⟩
 .rintro⟨i,sa,sk,S⟩ H ⟨I1,rfl,z,f,hi,hS,s,hA,hF,hL⟩ D al;simp only at hi hS s hA hF hL;simp only[tI];rcases aB i t.kids.length with F|b8
  rotate_left
  .have:i=t.kids.length:=by omega
   subst this;have bo:decide (((t.kids.length:Nat):Int)<(t.kids.length:Int))=false:=ai;apply bU 7;simp only[go_sem,bo,E];exact al (t.kids.length,sa,sk,S) _ _ ae (by simp only[go_sem,ab,tI,E,sD,rD]) ⟨rfl,I1,rfl,z,f,aW _,hS,s,hA,hF,hL⟩
  have bo:=Z5 i t.kids.length;have e1:=mO ci F;obtain⟨n,hn⟩:∃n,t.kids[i]?=some n:=⟨_,aL F⟩;have A:=cH hn;have ck:=kS A;obtain⟨b,off,cs,ev,aq,G⟩:=Sl.load az.len (de.le hK f) hn;cases ev
  obtain⟨vkn,na,nk,rfl,u,ag,_⟩:=aq.shape;obtain⟨nka,nkc,rfl,_⟩:=id ag;refine dr bo ?_;refine⟨O,?_⟩;refine Xb (l:=[.int .u8 n.kind,.string ⟨⟨n.text⟩⟩,.int .i64 n.tok,.int .i64 n.slot,.slice nka n.kids.length nkc,sD na nk n.cond,rD n.cond]) (v:=.agg #[.int .u8 n.kind,.string ⟨⟨n.text⟩⟩,.int .i64 n.tok,.int .i64 n.slot,.slice nka n.kids.length nkc,sD na nk n.cond,rD n.cond]) rfl (cellsU z (.head _) G) (.inl ⟨bK,rfl⟩) ?_;refine cz ?_;apply qg (fun _:Unit=>At (.slice (some ⟨b,off,none⟩) t.kids.length kc) (.slice da t.diags.length dc) [.int .u8 n.kind,.string ⟨⟨n.text⟩⟩,.int .i64 n.tok,.int .i64 n.slot,.slice nka n.kids.length nkc,sD na nk n.cond,rD n.cond] t.kids.length (i,sa,sk,S)) (fun _ H=>∃I,H=U [I]/\Dj [I]/\I1.le I/\i=0/\n.kind=1/\n.slot=0/\VX FB (.lf true) n/\(iE n).Pairwise kH)
  .intro hg;refine ET mixed [0,1,2,3,4,5,6,7,8,9,10,11,12,13] 14 15 [16,17,18] [16,17,18] [] [] rfl rfl ?_;rcases g9 i with Z|Z
   rotate_left
   .have f18:decide ((i:Int)>0)=true:=ar O;apply oC;simp only[go_sem,E,sD,rD,f18];refine rN ?_ ?_
    all_goals
     refine bV ?_;apply an;refine af ?_;exact ao rfl z (r:=[_]) rfl f ⟨rfl,false,rfl,cC fun h=>by have:=h.1;omega⟩
   have f18:decide ((i:Int)>0)=false:=aS O;by_cases X:n.kind=1
   rotate_left
   .have f22:((n.kind:Int) != 1)=true:=iz O;apply oC;simp only[go_sem,E,sD,rD,f18,f22];refine rN ?_ ?_
    all_goals
     refine bV ?_;apply an;refine af ?_;exact ao rfl z (r:=[_]) rfl f ⟨rfl,false,rfl,cC fun h=>X (h.2.1 n A).1⟩
   have f22:((n.kind:Int) != 1)=false:=iU O;by_cases C:n.slot=0
   rotate_left
   .have f27:(n.slot != 0)=true:=iz C;apply oC;simp only[go_sem,E,sD,rD,f18,f22,f27];refine rN ?_ ?_
    all_goals
     refine bV ?_;apply an;refine af ?_;exact ao rfl z (r:=[_]) rfl f ⟨rfl,false,rfl,cC fun h=>C (h.2.1 n A).2.1⟩
   have f27:(n.slot != 0)=false:=iU C;have R:(iE n).Sublist (dv t.kids):=by
    have h2:dv t.kids=dv (t.kids.take i)++(iE n++dv (t.kids.drop (i+1))):=by
     conv=>lhs;rw[<-fl (i+1) t.kids,o8,cw hn,o8]
     simp[dv]
    rw[h2];exact(List.sublist_append_left _ _).trans (List.sublist_append_right _ _)
   have fin {J M:PH} {r:Nat} (hJ:I1.le J) (hM:ip prog M r 3 (fun _ _=>False)):=Wl (aw n.kids+1) (n:=n) (iO _) (az.le aq hJ) (IT J) (AQ.1 b6 n A) (o9.1 ca n A) (hV.le (Y f hJ)) (lev:=1) (r:=r) (M:=M) (L:=[]) O ⟨_,hM,fun _ _ h=>h.elim,fun p h=>by cases h⟩ (fun p h=>by cases h) (Gx n (mz.1 b7 n A)) List.Pairwise.nil;apply oC;simp only[go_sem,E,sD,rD,f18,f22,f27];refine rN ?_ ?_
   .refine bV ?_;refine cP z rfl uY (aJ.keep (wN _)) ?_;rintro va Ia qs Q e⟨rfl,rfl⟩;refine bV ?_;refine AU 3 Q rfl rfl fun r Mm w ba=>?_;have ac:=ax Ia;refine bV ?_;refine cv w [0] [Mm] [] rfl yp rfl (fin e ba) ?_;rintro vc Ic qs q k⟨Mc,rfl,bc,rfl,K,_⟩;simp only[Z3]at q |-;cases bc with
    |false=>apply bp;simp only[go_sem,E,sD,rD,cF];apply an;refine bq q [0] fun g=>?_;refine bH (c:=.st _) g fun I9 g o bb=>?_;refine af ?_;exact ao rfl g (r:=[_]) rfl (Y f (Y e (Y k o))) ⟨rfl,false,rfl,cC fun h=>by have h2:=K.2 ⟨(h.2.1 n A).2.2,h.2.2.2.sublist R⟩;cases h2⟩
    |true=>apply bp;simp only[go_sem,E,sD,rD,bX];apply an;refine bq q [0] fun g=>?_;refine bH (c:=.st _) g fun I9 g o bb=>?_;exact hg () _ _ ⟨I9,rfl,g,Y e (Y k o),Z,X,C,(K.1 rfl).1,(K.1 rfl).2⟩ ae (by simp only[go_sem,ab,At,E,sD,rD])
   .refine bV ?_;refine AU 3 z rfl rfl fun r Mm Q ba=>?_;refine bV ?_;refine cv Q [0] [] [Mm] rfl uY rfl (aJ.keep (wN _)) ?_;rintro va Ia qs w e⟨rfl,rfl⟩;simp only[Z3]at w |-;refine bV ?_;refine cv w [0] [Mm] [] rfl yp rfl (fin e ba) ?_;rintro vc Ic qs q k⟨Mc,rfl,bc,rfl,K,_⟩;simp only[Z3]at q |-;cases bc with
    |false=>apply bp;simp only[go_sem,E,sD,rD,cF];apply an;refine bq q [0] fun g=>?_;refine bH (c:=.st _) g fun I9 g o bb=>?_;refine af ?_;exact ao rfl g (r:=[_]) rfl (Y f (Y e (Y k o))) ⟨rfl,false,rfl,cC fun h=>by have h2:=K.2 ⟨(h.2.1 n A).2.2,h.2.2.2.sublist R⟩;cases h2⟩
    |true=>apply bp;simp only[go_sem,E,sD,rD,bX];apply an;refine bq q [0] fun g=>?_;refine bH (c:=.st _) g fun I9 g o bb=>?_;exact hg () _ _ ⟨I9,rfl,g,Y e (Y k o),Z,X,C,(K.1 rfl).1,(K.1 rfl).2⟩ ae (by simp only[go_sem,ab,At,E,sD,rD])
  rintro⟨⟩ H ⟨I2,rfl,B,a,Z,X,C,b5,cb⟩;simp only[At];refine dr e1 ?_;subst Z;have a0:t.kids.take (0+1)=[n]:=by rw[cw hn];rfl
  exact D (0+1,na,nk,n.cond) _ _ bC ae (by simp only[go_sem,ab,tI,E,sD,rD]) ⟨I2,rfl,B,Y f a,F,u.le a,by simp only;rw[a0];rfl,fun m hm=>(by simp only at hm;rw[a0,List.mem_singleton]at hm;subst hm;exact⟨X,C,b5⟩),by simp only;rw[a0];simpa[dv]using cb,by simp only;rw[a0];simp⟩
 rintro⟨i,sa,sk,S⟩ H ⟨hi,I1,rfl,z,f,_,hS,s,hA,hF,hL⟩;simp only at hi hS s hA hF hL;subst hi;rw[cB]at s hA hF hL;simp only[tI];refine cz ?_;refine bz (fun x=>t.diags.length-x.1) (Av (.slice ka t.kids.length kc) (.slice da t.diags.length dc) t.diags.length) (Wo t I) (0,sa,sk,S) ae (by simp only[go_sem,ab,Av,E,sD,rD]) ⟨I1,rfl,z,f,bg _,hS,s,fun i d h=>by simp at h⟩ ?_;rintro⟨i,sa,sk,S⟩ H ⟨I2,rfl,B,a,hi,hS,s,hB⟩ D;simp only at hi hS s hB;simp only[Av];rcases aB i t.diags.length with F|b8
 .have bd:=Z5 i t.diags.length;have e1:=mO b4 F;obtain⟨d,a1⟩:∃d,t.diags[i]?=some d:=⟨_,aL F⟩;obtain⟨b,off,cs,ev,aq,G⟩:=Sl.load aY.len (SlE.le hD a) a1;cases ev
  obtain⟨ea,ek,rfl,u⟩:=id aq;have kd:qk t->KD t i d:=fun h=>h.2.2.1 i d a1;refine dr bd ?_;refine⟨O,?_⟩;refine Xb (l:=[.int .u8 d.code,.int .i64 d.tok,sD ea ek d.cond,rD d.cond]) (v:=.agg #[.int .u8 d.code,.int .i64 d.tok,sD ea ek d.cond,rD d.cond]) rfl (cellsU B (.head _) G) (.inl ⟨fQ,rfl⟩) ?_;refine cz ?_;apply qg (fun _:Unit=>Au (.slice ka t.kids.length kc) (.slice (some ⟨b,off,none⟩) t.diags.length dc) [.int .u8 d.code,.int .i64 d.tok,sD ea ek d.cond,rD d.cond] t.diags.length (i,sa,sk,S)) (fun _ H=>∃I,H=U [I]/\Dj [I]/\I2.le I/\KD t i d)
  .intro hg;refine aV [0,1,2,3,4,5,6,7,8,9,10,11,12,13,14,15,16,17,18,19,20,21,22,23,24,25,26,27,28,29,30,31,32,33,34,35,36,37,38] [33] [] ?_;by_cases a9:10<=d.code
   rotate_left
   .have f49:decide ((d.code:Int)<10)=true:=ar O;refine jG f49 ?_;apply an;refine af ?_;exact ao rfl B (r:=[_]) rfl a ⟨rfl,false,rfl,cC fun h=>a9 (kd h).1.1⟩
   have f49:decide ((d.code:Int)<10)=false:=aS O;by_cases a7:d.code<=12
   rotate_left
   .have f53:decide ((d.code:Int)>12)=true:=ar O;apply bp;simp only[go_sem,E,sD,rD,f49,f53];apply an;refine af ?_;exact ao rfl B (r:=[_]) rfl a ⟨rfl,false,rfl,cC fun h=>a7 (kd h).1.2⟩
   have f53:decide ((d.code:Int)>12)=false:=aS O;by_cases bs:d.tok<0
   .have f58:decide (d.tok<0)=true:=ar bs;apply bp;simp only[go_sem,E,sD,rD,f49,f53,f58];apply an;refine af ?_;exact ao rfl B (r:=[_]) rfl a ⟨rfl,false,rfl,cC fun h=>by have:=(kd h).2.1;omega⟩
   have f58:decide (d.tok<0)=false:=aS bs;apply bp;simp only[go_sem,E,sD,rD,f49,f53,f58];refine cP B rfl nC (aJ.keep (ny u)) ?_;rintro va Ia qs Q e⟨rfl,rfl⟩;by_cases V:d.cond=.lf false
   .have f63:decide (d.cond=.lf false)=true:=ar V;refine jG f63 ?_;apply an;refine af ?_;exact ao rfl Q (r:=[_]) rfl (Y a e) ⟨rfl,false,rfl,cC fun h=>(kd h).2.2.1 V⟩
   have f63:decide (d.cond=.lf false)=false:=aS V;refine jG f63 ?_;refine cP Q rfl CH (C9 (u.le e) (hS.le e)) ?_;rintro vb Ib qs w ac⟨rfl,rfl⟩;have P:=Y e ac;have a6:d.cond.and S=(dw (cM t.kids) (t.diags.take i)).and d.cond:=by rw[<-s];exact xB u.1 hS.1
   by_cases am:d.cond.and S=.lf false
   rotate_left
   .have f69:decide (d.cond.and S=.lf false)=false:=aS am;apply bp;simp only[go_sem,E,sD,rD,f69,cF];apply an;refine af ?_;exact ao rfl w (r:=[_]) rfl (Y a P) ⟨rfl,false,rfl,cC fun h=>am (by rw[a6];exact(kd h).2.2.2.1)⟩
   have f69:decide (d.cond.and S=.lf false)=true:=ar am;rcases g9 i with h0|h0
   .have f73:decide ((i:Int)>0)=false:=aS O;apply bp;simp only[go_sem,E,sD,rD,f69,f73,bX];apply an;exact hg () _ _ ⟨Ib,rfl,w,P,⟨a9,a7⟩,O,V,by rw[<-a6];exact am,fun _ h _=>by omega⟩ ae (by simp only[go_sem,ab,Au,E,sD,rD])
   obtain⟨j,hj⟩:∃j,i=j+1:=⟨i-1,O⟩;have f73:decide ((i:Int)>0)=true:=ar O;have ej:IntKind.i64.wrap ((i:Int)-1)=(j:Int):=by
    rw[show (i:Int)-1=(j:Int) by omega];rcases j with _|j'
    .exact wrap64 O
    .exact mO b4 O
   obtain⟨N,a4⟩:∃N,t.diags[j]?=some N:=⟨_,aL O⟩;obtain⟨b2,off2,cs2,ev2,ap,aa⟩:=Sl.load aY.len (SlE.le hD (Y a P)) a4;cases ev2
   obtain⟨pa,pk,rfl,bx⟩:=id ap;apply bp;simp only[go_sem,E,sD,rD,f69,f73,ej,bX];refine⟨O,?_⟩;refine Xc (l:=[.int .u8 N.code,.int .i64 N.tok,sD pa pk N.cond,rD N.cond]) (v:=.agg #[.int .u8 N.code,.int .i64 N.tok,sD pa pk N.cond,rD N.cond]) rfl (cellsU w (.head _) aa) (.inl ⟨fQ,rfl⟩) ?_;refine bV ?_;refine cP w rfl CK (BM ap (aq.le P)) ?_;rintro vc Ic qs q k⟨rfl,rfl⟩;by_cases b3:eV N d>=0
   .have f83:decide (eV N d>=0)=true:=ar b3;refine jG f83 ?_;apply an;refine af ?_;exact ao rfl q (r:=[_]) rfl (Y a (Y P k)) ⟨rfl,false,rfl,cC fun h=>by have:=(kd h).2.2.2.2 N h0 (by rw[show i-1=j by omega];exact a4);omega⟩
   have f83:decide (eV N d>=0)=false:=aS b3;refine jG f83 ?_;apply an;exact hg () _ _ ⟨Ic,rfl,q,Y P k,⟨a9,a7⟩,O,V,by rw[<-a6];exact am,fun p _ b1=>by rw[show i-1=j by omega,a4]at b1;cases b1;omega⟩ ae (by simp only[go_sem,ab,Au,E,sD,rD])
  rintro⟨⟩ H ⟨I3,rfl,cf,W,cj⟩;simp only[Au];refine cz ?_;refine dq cf rfl pi (pH (hS.le W) (u.le W)) ?_;rintro v4 I4 qs cc a5⟨rfl,b0⟩;obtain⟨za,zk,rfl⟩:=b0.shape2;refine dr e1 ?_;exact D (i+1,za,zk,S.or d.cond) _ _ bC ae (by simp only[go_sem,ab,Av,E,sD,rD]) ⟨I4,rfl,cc,Y a (Y W a5),F,b0,by simp only;rw[cw a1,Ji,s],fun j y hj hy=>by
   rcases Nat.lt_or_eq_of_le (Nat.le_of_lt_succ hj)with h|rfl
   .exact hB j y h hy
   .rw[a1]at hy;cases hy;exact cj⟩
 .have:i=t.diags.length:=by omega
  subst this;have bd:decide (((t.diags.length:Nat):Int)<(t.diags.length:Int))=false:=ai;refine dr bd ?_;exact ao rfl B (r:=[_]) rfl a ⟨rfl,true,rfl,AG ⟨hL,hA,fun i d h=>hB i d (List.getElem?_eq_some_iff.1 h).1 h,hF⟩⟩
def rS(a:Nat)(e:Code)(k:Nat):LoopState:=if k<=a then .ready else .done
def rJ(a:Nat)(e:Code)(k:Nat):Option Code:=if k<=a then none else some e
variable{e:Code}{stop:Nat}
def IS{k:Nat}(h:k<=stop):rS stop e k=.ready:=ak h
def vY{k:Nat}(h:k<=stop):rJ stop e k=none:=ak h
def T6(a k:Nat)(e:Code):rS a e k≠LoopState.busy:=by unfold rS;split<;>simp
def NZ(a k:Nat)(e:Code):uP (rJ a e k)=rS a e k:=by unfold rS rJ;split<;>rfl
def rP(f:FuncId)(T:Array Value)(ps:Array Tmp)(b bo:Code)(D c:Nat)(S:Nat->PH)(a:Nat)(e:Code)(k:Nat):PH:=U [sg c (.loop (dL f T ps b bo D (rS a e k) (rJ a e k))),S k]
variable{ps:Array Tmp}{f:FuncId}
def Qy{P:Program}{T:Array Value}{asn bo:Code}{D yy:Nat}{gf:FuncId}{args:Array Value}{S:Nat->PH}{N:Nat}(e:Code)(a:∀k b,S 0 b=none->S k b=none)
  (h:(∀k,S k yy=none)->aI P gf args I [rP f T ps asn bo D yy S stop e 0] fun _ _ qs=>qs=[rP f T ps asn bo D yy S stop e N]) :
  aI P gf args I (sg yy (.loop (dL f T ps asn bo D .ready none))::[S 0]) fun _ _ qs=>∃st j c,st≠LoopState.busy/\qs=sg yy (.loop (dL f T ps asn bo D st j))::c/\(c=[S N]/\j=rJ stop e N):=fun hd=>by
 have hf:∀k,S k yy=none:=fun k=>a k yy (UD hd);have h:=h hf;rw[rP,IS (bg _),vY (bg _)]at h;exact(aI.split h fun v I2 qs _ d=>⟨[sg yy (.loop (dL f T ps asn bo D (rS stop e N) (rJ stop e N))),S N],d,DV (hf N),_,_,_,T6 stop N e,rfl,rfl,rfl⟩) hd
def W3{T:Array Value}{asn bo:Code}{D yy:Nat}{S:Nat->PH}{W:List (List Nat×Nd)}{I0:PH}(hf:∀k,S k yy=none)
  (h:∀{J:PH} {k:Nat} {p:List Nat} {n:Nd} {a:Value} {c:List Value},I0.le J->k<=stop->W[k]?=some (p,n)->gV J a p->az J c n->iS prog yy #[a,.agg c.toArray] J (sg yy (.loop (dL f T ps asn bo D .ready none))::[S k]) fun r _ qs=>r=.bool (decide (k≠stop))/\qs=sg yy (.loop (dL f T ps asn bo D (uP (rJ stop e (k+1))) (rJ stop e (k+1))))::[S (k+1)]) :
  Bh yy (rP f T ps asn bo D yy S stop e) stop W I0:=fun{J k p n a c} i b hw hp g=>by
 have h1:=iS.join (DV (hf k)) (h i b hw hp g);rw[rP,IS b,vY b];intro hd;exact(h1 hd).imp fun v H2 ⟨I2,qs,o,d,l,q,e2,m,j⟩=>⟨I2,qs,o,d,l,m,by rw[e2,j,NZ];rfl⟩
def Ko:∀(m:Nat) (a:List Nd) (q:List Nat) (l:List Nd) (j:Nat) {p:List Nat} {n:Nd},aw l<m->(∀i,l[i]?=a[j+i]?)->(p,n)∈cq q j l->(∃r,p=q++r/\r≠[]/\nu a (r.map Int.ofNat)=some n)/\p.length<=q.length+aw l/\aw n.kids<aw l:=by
 intro m
 induction m with
 |zero=>intro a q l j p n h;omega
 |succ m c=>
 intro a q l j p n hm e h;cases l with
 |nil=>rw[cq]at h;cases h
 |cons x l=>
  rw[eK]at hm |-;rw[cq,Kn,gR,fC,gS]at h;have d:a[j]?=some x:=by have:=e 0;rw[ln]at this;rw[<-this];rfl
  have g:=(List.getElem?_eq_some_iff.1 d).1;have b:∀ps,nu a (Int.ofNat j::ps)=DA nu (some x) x.kids ps:=fun ps=>Me ai (by simp;omega) (by simpa using d);rcases h with h|h|h
  .cases h
   exact⟨⟨[j],rfl,by simp,b []⟩,by simp only[dG,bf,bA];omega,O⟩
  .obtain⟨⟨r,rfl,hr,f⟩,h2,h3⟩:=c x.kids (q++[j]) x.kids 0 O (fun i=>by rw[eR]) h;refine⟨⟨j::r,by rw[eD];rfl,by simp,?_⟩,by simp only[dG,bf,bA]at h2 |-;omega,O⟩;rw[jW,b];cases r with
   |nil=>exact absurd rfl hr
   |cons y r=>exact f
  .obtain⟨h1,h2,h3⟩:=c a q l (j+1) O (fun i=>by have:=e (i+1);rw[pX]at this;rw[this];congr 1;omega) h;exact⟨h1,O,O⟩
def nS(a k:Nat):PH:=sg a (.cells #[E k] 3 (0,0))
def S4(a:Nat):∀k b,nS a 0 b=none->nS a k b=none:=fun k b h=>by
 unfold nS sg at h |-;split at h
 .cases h
 .rename_i hb;rw[ad hb]
def my(a k:Nat):aX (nS a k) a 0 [E k]:=gX ai rfl
end Go.Proofs.YtfaclfkpnmcmlaaGreatDoor
namespace Go.Sx
open Go
section
variable {C:Cx} {k:List Item} {σ:St} {H:PH}
def oH(P:Program)(σ:St)(H:PH):List ResultVar->List Value->Prop
 | [],r=>r=[]
 | .tmp t::l,r=>∃x a,r=x::a/\eW σ.tm t=.v x/\oH P σ H l a
 | .cell t T::l,r=>∃x a,r=x::a/\oH P σ H l a/\∃b off c,eW σ.tm t=.v (.pointer (some ⟨b,off,none⟩))/\aX H b off c/\(a8 P T=some (some c.length)/\x=.agg c.toArray\/a8 P T=some none/\c=[x])
def DB{P:Program}{n0:Nat}{β:Nat->Nat}{σ:St}{H:PH}{a:Act}{w:World}(g:GB n0 β σ H a w)(s:Sub H w):∀(l:List ResultVar) (r:List Value),oH P σ H l r->(l.mapM (g7 a.tmps)).run P w=.ok r w
 | [],r,h=>by cases h;simp
 | .tmp t::l,r,⟨x,d,e,c,hr⟩=>by
  subst e;have h1:=g.ev (.tmp t);simp only[ev,c,ef,Act.eval]at h1;have h2:(g7 a.tmps (.tmp t)).run P w=.ok x w:=by simp only[g7,h1];simp
  simp only[List.mapM_cons,bY,h2,Result.andThen,DB g s l _ hr];simp
 | .cell t T::l,r,⟨x,d,e,hr,b,off,j,c,f,i⟩=>by
  subst e;have h1:=g.ev (.tmp t);simp only[ev,c,ef,Act.eval]at h1;have h3:=HJ (P:=P) (T:=T) f i w s;have h2:(g7 a.tmps (.cell t T)).run P w=.ok x w:=by simp only[g7,h1,bY];simp[Result.andThen,asAddr,h3]
  simp only[List.mapM_cons,bY,h2,Result.andThen,DB g s l _ hr];simp
variable{r:List Value}{P:Program}
def Uc{n0:Nat}{β:Nat->Nat}{σ:St}{H:PH}{a:Act}{w:World}(g:GB n0 β σ H a w)(s:Sub H w){fn:Func}(h:oH P σ H fn.results.toList r):
  (results fn a.tmps).run P w=.ok (bT r) w:=by
 have h1:=DB g s _ _ h;show (do let c <-fn.results.mapM (g7 a.tmps);pure (if h:c.size=1 then c[0]else .tuple c):Sem Value).run P w=_;rw[Array.mapM_eq_mapM_toList];simp only[bY,Sem.run_map];rw[h1];simp only[Result.andThen]
 match r with
 | []=>simp[bT]
 | [v]=>simp[bT]
 |a::b::l=>simp[bT]
def Lo(h:oH C.P σ H C.fn.results.toList r)(hp:C.post (bT r) H)(b:C.rd=none:=by rfl):R C (.code .ret::k) σ H:=
 ub b (fun a cs w=>stepR_ret (by simp[Cx.fr,b])) fun w a s ⟨β,g⟩=>⟨_,hp,Uc g s.sub h⟩
variable{I:PH}
def E1{I2:PH}{qs:List PH}{Ψ:Value->PH->List PH->Prop}(a:C.post=fun v H2=>∃I2 qs,H2=U (I2::qs)/\Dj (I2::qs)/\I.le I2/\Ψ v I2 qs)(hd:Dj (I2::qs))(h:oH C.P σ (U (I2::qs)) C.fn.results.toList r)(b:I.le I2)(hp:Ψ (bT r) I2 qs)(c:C.rd=none:=by rfl):R C (.code .ret::k) σ (U (I2::qs)):=
 Lo h (by rw[a];exact⟨I2,qs,rfl,hd,b,hp⟩) c
variable{ps:List PH}
def KH{c:Cf}(hd:Dj (I::ps))(h:Dj (I::[U ps])->RC C c σ (U (I::[U ps]))):RC C c σ (U (I::ps)):=by rw[qG];exact h (pu.1 hd).1
def KP{c:Cf}(hd:Dj (I::[U ps]))(hp:Dj ps)(h:Dj (I::ps)->RC C c σ (U (I::ps))):RC C c σ (U (I::[U ps])):=by rw[<-qG];exact h (pu.2 ⟨hd,hp⟩)
def W4{y:Nat}{args:Array Value}{A A2:PH}{rs2:List PH}{r0:Value}(a:Dj ps)(h:iS P y args I (A::ps) fun r _ qs=>r=r0/\qs=A2::rs2):iS P y args I [A,U ps] fun r _ qs=>r=r0/\qs=[A2,U rs2]:=fun hd=>
 (iS.join1 (Ψ:=fun r _ B f=>r=r0/\B=A2/\f=rs2) a (fun b=>(h b).imp fun v H2 ⟨I2,qs,e,d,l,e2,c⟩=>⟨I2,qs,e,d,l,_,_,c,e2,rfl,rfl⟩) hd).imp fun v H2 ⟨I2,qs,e,d,l,B,f,e2,c,i,g⟩=>⟨I2,qs,e,d,l,c,by rw[e2,i,g]⟩
def NN{a b:Nat}{o o':Obj}(h:a≠b):Dj [sg a o,sg b o']:=DV (by unfold sg;rw[ad h])
def UE{a b:Nat}{o o':Obj}{l:List PH}(hd:Dj (I::sg a o::sg b o'::l)):a≠b:=fun e=>by subst e;rcases(List.pairwise_cons.1 hd.tail).1 _ (.head _) a with h|h<;>rw[dV]at h<;>cases h
end
end Go.Sx
