import Derived.Test.YtfaclfkpnmcmlaaGreatDoorG12
import Derived.Test.YtfaclfkpnmcmlaaGreatDoorG13
import Derived.Test.YtfaclfkpnmcmlaaGreatDoorG14
import Derived.Test.YtfaclfkpnmcmlaaGreatDoorG18
import Derived.Lib.AtoiTie
set_option maxHeartbeats 8000000
set_option linter.all false
open Go.Proofs.Tryz
namespace Go.Proofs.YtfaclfkpnmcmlaaGreatDoor
open Go Go.Sx Dg Syn
def PQ:ay prog 31:=⟨_,func31,rfl,rfl⟩
def Hc:ay prog 72:=⟨_,func72,rfl,rfl⟩
def Cu:ay prog 18:=⟨_,func18,rfl,rfl⟩
structure qn(W:PH->Value->T->Prop)(u:Nat):Prop where
 le:∀{I J:PH} {w:Value} {t:T},W I w t->I.le J->W J w t
 sh:∀{I:PH} {w:Value} {t:T},W I w t->∃a n c,w=.slice a n c
 al:∀{I:PH} {vd w:Value} {t:T},bO I vd t->W I w t->aI prog 58 #[vd,w,.int .u32 (u:Nat)] I [] fun r _ qs=>qs=[]/\r=.bool true
def aU(W:PH->Value->T->Prop):Nat->PH->List Value->Nd->Prop
 |0,_,_,_=>False
 |d+1,I,c,n=>∃a w,c=[.int .u8 n.kind,.string ⟨⟨n.text⟩⟩,.int .i64 n.tok,.int .i64 n.slot,a,w]/\W I w n.cond/\Sl (aU W d) I a n.kids
def aU.le{W:PH->Value->T->Prop}{u:Nat}(f:qn W u):∀{d:Nat} {I J:PH} {c:List Value} {n:Nd},aU W d I c n->I.le J->aU W d J c n
 |0,_,_,_,_,h,_=>h
 |d+1,I,J,c,n,⟨g,w,e,hw,i⟩,b=>⟨g,w,e,f.le hw b,Sl.le (R:=aU W d) (fun{I J c a} h k=>aU.le f h k) i b⟩
variable{I:PH}{W:PH->Value->T->Prop}
def aU.len{d:Nat}(c:List Value)(n:Nd)(h:aU W d I c n):c.length=6:=by
 cases d with
 |zero=>exact h.elim
 |succ d=>obtain⟨a,w,e,_⟩:=h;rw[e];rfl
def bB(W:PH->Value->T->Prop)(I:PH)(c:List Value)(d:aN):Prop:=∃w,c=[.int .u8 d.code,.int .i64 d.tok,w]/\W I w d.cond
def bB.len(c:List Value)(n:aN)(h:bB W I c n):c.length=3:=by obtain⟨w,e,_⟩:=h;rw[e];rfl
def kL(W:PH->Value->T->Prop)(I:PH)(v:Value)(t:Tr):Prop:=∃a vd d,v=.agg #[a,vd]/\Sl (aU W d) I a t.kids/\Sl (bB W) I vd t.diags
def y6(a vb:Value)(u:Nat)(i:Nat):St:=⟨dn 30 [(0,.v a),(1,.v vb),(2,.v (.int .u32 u)),(7,.v (E i))],[]⟩
variable{u:Nat}
def Td(C:qn W u):∀(m d:Nat) {I:PH} {va vb:Value} {l:List Nd},aw l<m->aw l<=bF->de I va l->Sl (aU W d) I vb l->aI prog 72 #[va,vb,.int .u32 u] I [] fun r _ qs=>qs=[]/\r=.bool true:=by
 intro m
 induction m with
 |zero=>intro d I va vb l h;omega
 |succ m ih=>
 intro d I va vb l hm hz h1 h2 hd;obtain⟨a1,c1,rfl,_⟩:=id h1;obtain⟨a2,c2,rfl,_⟩:=id h2;have a3:=fJ l;have X:=hz;unfold bF at X;have h0:((l.length:Int) != (l.length:Int))=false:=ai;have o:∀{J:PH} {G F:List Value} {n:Nd},n∈l->az J G n->aU W d J F n->aI prog 31 #[.agg G.toArray,.agg F.toArray,.int .u32 u] J [] fun r _ qs=>qs=[]/\r=.bool true:=by
  intro J G F n z D t hd;have a0:=iK z;obtain⟨vk,L,K,rfl,Z,g,_⟩:=D.shape;cases d with
  |zero=>exact t.elim
  |succ d=>
  obtain⟨wk,w,rfl,hw,f⟩:=t;obtain⟨V,S,rfl,_⟩:=id g;obtain⟨la,Q,rfl,_⟩:=id f;obtain⟨P,M,N,rfl⟩:=C.sh hw;refine aG 49 func31 fun w0=>?_
  try simp only[E,sD,rD]
  apply RG;simp only[go_sem,E,sD,rD,beq_self_eq_true];refine dq hd rfl CI (C.al Z hw) ?_;rintro v J2 qs q b⟨rfl,rfl⟩;refine cz ?_;refine dq q rfl Hc (ih d O O (de.le g b) (Sl.le (R:=aU W d) (fun{I J c a} h k=>aU.le C h k) f b)) ?_;rintro v J3 qs ac B⟨rfl,rfl⟩;refine av ?_;exact ao rfl ac (r:=[_]) rfl (Y b B) ⟨rfl,rfl⟩
 refine aG 30 func72 fun w0=>?_;apply RG;simp only[go_sem,h0];refine bz (fun x=>l.length-x) (y6 (.slice a1 l.length c1) (.slice a2 l.length c2) u) (fun i H=>∃J,H=U [J]/\Dj [J]/\I.le J/\i<=l.length) 0 ae (by simp only[go_sem,ab,y6]) ⟨I,rfl,hd,ax _,bg _⟩ ?_;rintro i H ⟨J,rfl,j,e,hi⟩ p;simp only[y6];rcases aB i l.length with A|a4
 .have s:=Z5 i l.length;have e1:=Z7 i;obtain⟨n,z⟩:∃n,l[i]?=some n:=⟨_,aL A⟩;have aa:=cH z;obtain⟨b1,o1,G,aq,D,am⟩:=Sl.load (R:=az) (fun{I} c a h=>az.len (I:=I) c a h) (de.le h1 e) z;cases aq
  obtain⟨b2,o2,F,ap,t,ag⟩:=Sl.load (R:=aU W d) (fun{I} c a h=>aU.len (I:=I) c a h) (Sl.le (R:=aU W d) (fun{I J c a} h k=>aU.le C h k) h2 e) z;cases ap
  cases d with
  |zero=>exact t.elim
  |succ d=>
  obtain⟨vk,L,K,rfl,_,g,_⟩:=id D.shape;obtain⟨vk2,w2,rfl,hw,f⟩:=id t;obtain⟨V,S,rfl,_⟩:=id g;obtain⟨la,Q,rfl,_⟩:=id f;obtain⟨P,M,N,rfl⟩:=C.sh hw;refine aj s ?_;refine aV [0,1,2,3,4,5,6,7,8,9,10] [3,7] [] ?_;refine aC ?_
  try refine⟨O,?_⟩
  refine Xc (l:=[.int .u8 n.kind,.string ⟨⟨n.text⟩⟩,.int .i64 n.tok,.int .i64 n.slot,.slice V n.kids.length S,sD L K n.cond,rD n.cond]) (v:=.agg #[.int .u8 n.kind,.string ⟨⟨n.text⟩⟩,.int .i64 n.tok,.int .i64 n.slot,.slice V n.kids.length S,sD L K n.cond,rD n.cond]) rfl (cellsU j (.head _) (by simpa using am)) (.inl ⟨bK,rfl⟩) ?_;refine bV ?_
  try refine⟨O,?_⟩
  refine Xc (l:=[.int .u8 n.kind,.string ⟨⟨n.text⟩⟩,.int .i64 n.tok,.int .i64 n.slot,.slice la n.kids.length Q,.slice P M N]) (v:=.agg #[.int .u8 n.kind,.string ⟨⟨n.text⟩⟩,.int .i64 n.tok,.int .i64 n.slot,.slice la n.kids.length Q,.slice P M N]) rfl (cellsU j (.head _) (by simpa using ag)) (.inl ⟨jK,rfl⟩) ?_;refine bV ?_;refine cP j rfl PQ (o aa D t) ?_;rintro v J2 qs q b⟨rfl,rfl⟩;apply bp;simp only[go_sem,bX];apply an;refine aj e1 ?_;exact p (i+1) _ _ O ae (by simp only[go_sem,ab,y6]) ⟨J2,rfl,q,Y e b,A⟩
 .have:i=l.length:=by omega
  subst this;have s:decide ((l.length:Int)<(l.length:Int))=false:=ai;refine aj s ?_;exact ao rfl j (r:=[_]) rfl e ⟨rfl,rfl⟩
def x4(c vd a b:Value)(u:Nat)(i:Nat):St:=⟨dn 76 [(2,.v (.int .u32 u)),(3,.p 3 0),(4,.p 4 0),(7,.v (E i))],[⟨3,36,[c,vd]⟩,⟨4,41,[a,b]⟩]⟩
variable{va vb:Value}
def BV(z:qn W u){t:Tr}(N:oK t)(h1:gh I va t)(h2:kL W I vb t):aI prog 18 #[va,vb,.int .u32 u] I [] fun r _ qs=>qs=[]/\r=.bool true:=by
 obtain⟨vk,vd,rfl,Q,_,y,_⟩:=h1;obtain⟨wk,wd,d,rfl,S,V⟩:=h2;obtain⟨ka,kc,rfl,_⟩:=id Q;obtain⟨da,dc,rfl,_⟩:=id y;obtain⟨qa,qc,rfl,_⟩:=id S;obtain⟨ra,rc,rfl,_⟩:=id V;have C:=N.2;unfold bF at C;have h0:((t.diags.length:Int) != (t.diags.length:Int))=false:=ai;intro hd;refine aG 76 func18 fun w0=>?_;apply RG;simp only[go_sem,h0];refine dq hd rfl Hc (Td z (aw t.kids+1) d O N.1 Q S) ?_;rintro v I1 qs F s⟨rfl,rfl⟩;apply RG;simp only[go_sem,bX];refine bz (fun x=>t.diags.length-x) (x4 (.slice ka t.kids.length kc) (.slice da t.diags.length dc) (.slice qa t.kids.length qc) (.slice ra t.diags.length rc) u) (fun i H=>∃J,H=U [J]/\Dj [J]/\I.le J/\i<=t.diags.length) 0 ae (by simp only[go_sem,ab,x4]) ⟨I1,rfl,F,s,bg _⟩ ?_;rintro i H ⟨J,rfl,b,f,hi⟩ g;simp only[x4];rcases aB i t.diags.length with p|aa
 .have o:=Z5 i t.diags.length;have e1:=Z7 i;obtain⟨n,P⟩:∃n,t.diags[i]?=some n:=⟨_,aL p⟩;obtain⟨b1,o1,cx,K,⟨M,L,rfl,A⟩,m⟩:=Sl.load (R:=aY) (fun{I} c a h=>aY.len (I:=I) c a h) (SlE.le y f) P;cases K
  obtain⟨b2,o2,cy,G,⟨w,rfl,hw⟩,j⟩:=Sl.load (R:=bB W) (fun{I} c a h=>bB.len (I:=I) c a h) (Sl.le (R:=bB W) (fun{I J c a} h k=>by obtain⟨w,e,h⟩:=h;exact⟨w,e,z.le h k⟩) V f) P;cases G
  obtain⟨wa,wn,wc,rfl⟩:=z.sh hw;have x0:=m.get (i:=0) rfl;have x1:=m.get (i:=1) rfl;have x2:=m.sub 2 2 ai;have y0:=j.get (i:=0) rfl;have Z:=j.get (i:=1) rfl;have X:=j.get (i:=2) rfl;have f1:((n.code:Int) != (n.code:Int))=false:=ai;have f2:(n.tok != n.tok)=false:=ai;refine aj o ?_;refine jI mixed [0,1,2,3,4,5,6,7,8,9,10,11,12,13,14,15,16,17,18,19,20,21,22,23,24,25,26,27,28,29,30,31,32,33,34,35,36,37,38,39,40,41,42,43,44] [5,11,19,25,34,40] [] ah rfl ?_;refine aC ?_
  try refine⟨O,?_⟩
  refine Xc (l:=[.int .u8 n.code]) rfl (cellsU b (.head _) (by simpa using x0)) (.inr ⟨Bn,rfl⟩) ?_;refine aC ?_
  try refine⟨O,?_⟩
  refine Xc (l:=[.int .u8 n.code]) rfl (cellsU b (.head _) (by simpa using y0)) (.inr ⟨Bn,rfl⟩) ?_;refine aM f1 ?_
  try refine⟨O,?_⟩
  refine Xc (l:=[.int .i64 n.tok]) rfl (cellsU b (.head _) (by simpa using x1)) (.inr ⟨dI,rfl⟩) ?_;refine aC ?_
  try refine⟨O,?_⟩
  refine Xc (l:=[.int .i64 n.tok]) rfl (cellsU b (.head _) (by simpa using Z)) (.inr ⟨dI,rfl⟩) ?_;refine aM f2 ?_
  try refine⟨O,?_⟩
  refine Xc (l:=[sD M L n.cond,rD n.cond]) (v:=.agg #[sD M L n.cond,rD n.cond]) rfl (cellsU b (.head _) (by simpa using x2)) (.inl ⟨nr,rfl⟩) ?_;refine bV ?_
  try refine⟨O,?_⟩
  refine Xc (l:=[.slice wa wn wc]) rfl (cellsU b (.head _) (by simpa using X)) (.inr ⟨kO,rfl⟩) ?_;refine bV ?_;refine cP b rfl CI (z.al A hw) ?_;rintro v J2 qs D q⟨rfl,rfl⟩;apply bp;simp only[go_sem,bX];apply an;refine aj e1 ?_;exact g (i+1) _ _ O ae (by simp only[go_sem,ab,x4]) ⟨J2,rfl,D,Y f q,p⟩
 .have:i=t.diags.length:=by omega
  subst this;have o:decide ((t.diags.length:Int)<(t.diags.length:Int))=false:=ai;refine aj o ?_;exact ao rfl b (r:=[_]) rfl f ⟨rfl,rfl⟩
def sA(c:dp):∀k:Nat,∃n:Nat,n<2^k/\∀i,i<k->n.testBit i=c i
 |0=>⟨0,by simp,fun i h=>by omega⟩
 |k+1=>by
  obtain⟨n,h1,h2⟩:=sA c k;have b:n.testBit k=false:=Nat.testBit_lt_two_pow h1;have hp:2^(k+1)=2^k+2^k:=by rw[og];omega
  cases a:c k
  .refine⟨n,O,fun i hi=>?_⟩;by_cases e:i=k
   .subst e;rw[b,a]
   .exact h2 i O
  .refine⟨n|||2^k,Nat.or_lt_two_pow O O,fun i hi=>?_⟩;rw[Nat.testBit_or,Nat.testBit_two_pow];by_cases e:i=k
   .subst e;simp[a]
   .rw[h2 i O];simp;intro e';exact absurd e'.symm e
def xW{c:dp}{n:Nat}(h:∀i,i<24->n.testBit i=c i)(l:List (Nat×Nat)):(fE l).at' c=jh l n:=by rw[<-BI];exact T.at_cut (uH l) fun i hi=>(h i hi).symm
def JU(l:List (Nat×Nat))(u:Nat):((cI u 32).filter fun c=>(fE l).at' (co c))=mL l u:=by unfold mL;congr 1;funext c;exact BI l c
def vI(i:Nat):T->Prop
 | .lf _=>False
 | .nd v l h=>i=v\/vI i l\/vI i h
def zj{i:Nat}:∀{t:T} {k:Nat},t.ok k->vI i t->k<=i/\i<24
 | .lf _,_,_,h=>h.elim
 | .nd v l h,k,a,b=>by
  rcases b with rfl|b|b
  .exact⟨a.1,a.2.1⟩
  .have:=zj a.2.2.2.1 b;exact⟨by have:=a.1;omega,this.2⟩
  .have:=zj a.2.2.2.2 b;exact⟨by have:=a.1;omega,this.2⟩
variable{i:Nat}
def Ka{c:dp}{j:Nat}{x y:Bool}(h:i≠j):fM (fM c i x) j y=fM (fM c j y) i x:=by funext k;unfold fM;by_cases h1:k=j<;>by_cases h2:k=i<;>simp_all
def Wc{c:dp}{x y:Bool}:fM (fM c i x) i y=fM c i y:=by funext k;unfold fM;by_cases h1:k=i<;>simp_all
def zi{i:Nat}:∀{t:T} {k:Nat},t.ok k->vI i t->∃(c:dp) (x:Bool),t.at' (fM c i x)≠t.at' c
 | .lf _,_,_,h=>h.elim
 | .nd v l h,k,a,b=>by
  rcases b with rfl|b|b
  .have g:∃c,l.at' c≠h.at' c:=by refine Classical.byContradiction fun f=>a.2.2.1 (T.ext a.2.2.2.1 a.2.2.2.2 fun c=>?_);exact Classical.byContradiction fun d=>f ⟨c,d⟩
   obtain⟨c,d⟩:=g;refine⟨fM c i false,true,?_⟩;rw[Wc,T.at_hi a,T.at_lo a];exact fun e=>d e.symm
  .obtain⟨c,x,d⟩:=zi a.2.2.2.1 b;have j:=(zj a.2.2.2.1 b).1;refine⟨fM c v false,x,?_⟩;rw[Ka O,T.at_lo a,T.at_lo a];exact d
  .obtain⟨c,x,d⟩:=zi a.2.2.2.2 b;have j:=(zj a.2.2.2.2 b).1;refine⟨fM c v true,x,?_⟩;rw[Ka O,T.at_hi a,T.at_hi a];exact d
def Ax:∀(t:T) (ts:List T) (x:T),x∈t.vis ts->x∈ts\/vI x.var t
 | .lf _,_,_,h=>.inl h
 | .nd v l h,ts,x,a=>by
  unfold T.vis at a;split at a
  .exact .inl a
  .rcases List.mem_append.1 a with a|a
   .rcases Ax h _ x a with a|a
    .rcases Ax l _ x a with a|a
     .exact .inl a
     .exact .inr (.inr (.inl a))
    .exact .inr (.inr (.inr a))
   .rw[List.mem_singleton]at a;subst a;exact .inr (.inl rfl)
def Ea{ts:List T}{i:Nat}:∀(l:List T) (z:Nat),(l.foldl (fun s x=>s|||2^(T.dec ts x).1) z).testBit i=true->z.testBit i=true\/∃x∈l,x.var=i
 | [],z,h=>.inl h
 |x::l,z,h=>by
  rcases Ea l _ h with h|⟨y,a,e⟩
  .rw[Nat.testBit_or,Nat.testBit_two_pow,im]at h;rcases h with h|h
   .exact .inl h
   .exact .inr ⟨x,.head _,by rw[<-T.dec_var ts x];exact eF h⟩
  .exact .inr ⟨y,.tail _ a,e⟩
variable{l:List (Nat×Nat)}
def Ny(h:kK l u)(hi:u.testBit i=false)(c:dp)(x:Bool):(fE l).at' (fM c i x)=(fE l).at' c:=by
 obtain⟨n,f,a⟩:=sA c 24;obtain⟨m,m1,b⟩:=sA (fM c i x) 24;rw[xW a,xW b,<-yF h n,<-yF h m];congr 1;apply Nat.eq_of_testBit_eq;intro j;rw[fY,fY];by_cases d:j<24
 .by_cases e:j=i
  .subst e;rw[hi,Bool.and_false,Bool.and_false]
  .rw[a j d,b j d];have:fM c i x j=c j:=by unfold fM;rw[ad e]
   rw[this]
 .rw[Nat.testBit_lt_two_pow (Nat.lt_of_lt_of_le f (iP O O)),Nat.testBit_lt_two_pow (Nat.lt_of_lt_of_le m1 (iP O O))]
def Vq(h:kK l u)(i:Nat)(hi:(zX (fE l)).testBit i=true):u.testBit i=true:=by
 rcases Ea _ 0 hi with e|⟨x,a,rfl⟩
 .simp at e
 .rcases Ax _ [] x a with h1|h1
  .cases h1
  .obtain⟨c,y,d⟩:=zi (uH l) h1;cases b:u.testBit x.var with
   |true=>rfl
   |false=>exact absurd (Ny h b c y) d
def Fp{a b:Nat}(h:∀i,a.testBit i=true->b.testBit i=true):ut .u32 (a:Int) (b:Int)=0:=by
 have d:BitVec.ofInt 32 (a:Int)=BitVec.ofNat _ a:=by rw[BitVec.ofInt_natCast]
 have c:BitVec.ofInt 32 (b:Int)=BitVec.ofNat _ b:=by rw[BitVec.ofInt_natCast]
 have e:ut .u32 (a:Int) (b:Int)=IntKind.u32.wrap ((BitVec.ofInt 32 (a:Int)&&&~~~ BitVec.ofInt 32 (b:Int)).toNat:Int):=rfl;have z:(BitVec.ofNat 32 a&&&~~~ BitVec.ofNat 32 b)=0#32:=by
  apply BitVec.eq_of_getLsbD_eq;intro i hi;rw[BitVec.getLsbD_and,BitVec.getLsbD_not,BitVec.getLsbD_ofNat,BitVec.getLsbD_ofNat];cases ha:a.testBit i
  .simp
  .rw[h i ha];simp
 rw[e,d,c,z];rfl
def dZ(u:Nat)(I:PH)(w:Value)(t:T):Prop:=∃l,kK l u/\t=fE l/\dh I w (mL l u)
def tD(b:u<2^32)(hp:bM u 32<=8):qn (dZ u) u where
 le:=fun⟨l,h1,h2,h3⟩ k=>⟨l,h1,h2,dh.le h3 k⟩
 sh:=fun⟨l,_,_,h⟩=>by obtain⟨a,c,e,_⟩:=h;exact⟨a,_,c,e⟩
 al:=fun{I vd w t} hr ⟨l,h1,h2,h3⟩=>by subst h2;exact Fj hr (by rw[JU];exact h3) b hp (Fp (Vq h1))
def JT{w:Value}(h:dh I w (mL l u))(a:kK l u):dZ u I w (fE l):=⟨l,a,rfl,h⟩
def D7(h:gC l|||u=u):kK l u:=by have:=(Vl l).left u;rw[h]at this;exact this
def Pr:ay prog 228:=⟨_,func228,rfl,rfl⟩
def Cp:ay prog 152:=⟨_,func152,rfl,rfl⟩
def O1:ay prog 151:=⟨_,func151,rfl,rfl⟩
def O2:ay prog 153:=⟨_,func153,rfl,rfl⟩
def G0:ay prog 231:=⟨_,func231,rfl,rfl⟩
def Se(n:Int)(H:PH):aJ prog 228 #[.int .u8 n] H fun v H2=>v=.bool (gO n)/\H2=H:=by
 refine aG 17 func228 fun w0=>?_;have b:decide (n>=97)=decide (97<=n):=rfl;have e2:decide (n>=65)=decide (65<=n):=rfl;cases h1:decide (97<=n)
 .cases h3:decide (65<=n)
  .apply RG;simp only[go_sem,b,e2,h1,h3];exact au (r:=[_]) rfl ⟨by simp only[gO,h1,h3];rfl,rfl⟩
  .cases a:decide (n<=90)
   .apply RG;simp only[go_sem,b,e2,h1,h3,a];exact au (r:=[_]) rfl ⟨by simp only[gO,h1,h3,a];rfl,rfl⟩
   .apply RG;simp only[go_sem,b,e2,h1,h3,a];exact au (r:=[_]) rfl ⟨by simp only[gO,h1,h3,a];rfl,rfl⟩
 .cases h2:decide (n<=122)
  .cases h3:decide (65<=n)
   .apply RG;simp only[go_sem,b,e2,h1,h2,h3];exact au (r:=[_]) rfl ⟨by simp only[gO,h1,h2,h3];rfl,rfl⟩
   .cases a:decide (n<=90)
    .apply RG;simp only[go_sem,b,e2,h1,h2,h3,a];exact au (r:=[_]) rfl ⟨by simp only[gO,h1,h2,h3,a];rfl,rfl⟩
    .apply RG;simp only[go_sem,b,e2,h1,h2,h3,a];exact au (r:=[_]) rfl ⟨by simp only[gO,h1,h2,h3,a];rfl,rfl⟩
  .apply RG;simp only[go_sem,b,e2,h1,h2];exact au (r:=[_]) rfl ⟨by simp only[gO,h1,h2];rfl,rfl⟩
def BO(n:Int)(H:PH):aJ prog 152 #[.int .u8 n] H fun v H2=>v=.bool (fS n)/\H2=H:=by
 refine aG 9 func152 fun w0=>?_;have a:decide (n>=48)=decide (48<=n):=rfl;cases h1:decide (48<=n)
 .refine je a h1 ?_;exact au (r:=[_]) rfl ⟨by simp only[fS,h1];rfl,rfl⟩
 .cases h2:decide (n<=57)
  .apply RG;simp only[go_sem,a,h1,h2];exact au (r:=[_]) rfl ⟨by simp only[fS,h1,h2];rfl,rfl⟩
  .apply RG;simp only[go_sem,a,h1,h2];exact au (r:=[_]) rfl ⟨by simp only[fS,h1,h2];rfl,rfl⟩
def TD(n:Int)(H:PH):aJ prog 151 #[.int .u8 n] H fun v H2=>v=.bool (eY n)/\H2=H:=by
 refine aG 13 func151 fun w0=>?_;refine af ?_;refine Xa rfl Pr (Se n H) ?_;rintro v H2⟨rfl,rfl⟩;cases h1:gO n
 .refine af ?_;refine Xa rfl Cp (BO n _) ?_;rintro v H2⟨rfl,rfl⟩;cases h2:fS n
  .cases h3:(n == 95)
   .refine db h3 ?_;exact au (r:=[_]) rfl ⟨by simp only[eY,h1,h2,h3];rfl,rfl⟩
   .refine db h3 ?_;exact au (r:=[_]) rfl ⟨by simp only[eY,h1,h2,h3];rfl,rfl⟩
  .refine af ?_;exact au (r:=[_]) rfl ⟨by simp only[eY,h1,h2];rfl,rfl⟩
 .refine af ?_;exact au (r:=[_]) rfl ⟨by simp only[eY,h1];rfl,rfl⟩
def zg(s:aE)(i:Nat):St:=⟨dn 28 [(0,.v (.string ⟨⟨s⟩⟩)),(3,.v (E i))],[]⟩
def QY(s:aE)(y:s.length<2^60)(H:PH):aJ prog 153 #[.string ⟨⟨s⟩⟩] H fun v H2=>v=.bool (fV s)/\H2=H:=by
 refine aG 28 func153 fun w0=>?_;cases s with
 |nil=>apply RG;simp only[go_sem,cN];exact au (r:=[_]) rfl ⟨rfl,rfl⟩
 |cons c0 q=>
  generalize k:c0::q=s at y |-;have t:0<s.length:=by rw[<-k];simp
  have f:decide ((s.length:Int)<1)=false:=aS O;have h:s.isEmpty=false:=by rw[<-k];rfl
  have l:s[0]?=some (s.getD 0 0):=by rw[<-k];rfl
  clear k c0 q;have o:=mf l;cases b:decide ((s.length:Int)>32)
  rotate_left
  .have e:fV s=false:=by have:decide (s.length>32)=true:=ar (by have:=eF b;omega);simp[fV,this]
   apply RG;simp only[go_sem,f,cN,b];exact au (r:=[_]) rfl ⟨by rw[e];rfl,rfl⟩
  have u:=rH b;have g:decide (s.length>32)=false:=aS O;apply RG;simp only[go_sem,f,cN,b,Int.toNat_zero,o];refine⟨O,?_⟩;refine Xa rfl Cp (BO _ _) ?_;rintro v H2⟨rfl,rfl⟩;cases j:fS (bZ (s.getD 0 0))
  rotate_left
  .have e:fV s=false:=by simp only[fV,j,Bool.or_true,bX,Bool.false_and]
   refine af ?_;exact au (r:=[_]) rfl ⟨by rw[e];rfl,rfl⟩
  have e:fV s=s.all fun c=>eY (bZ c):=by simp only[fV,h,g,j];simp
  rw[e];apply RG;simp only[go_sem,cN];refine bz (fun x=>s.length-x) (zg s) (fun i w=>w=H2/\i<=s.length/\((s.drop i).all fun c=>eY (bZ c))=(s.all fun c=>eY (bZ c))) 0 ae (by simp only[go_sem,ab,zg]) ⟨rfl,bg _,rfl⟩ ?_;rintro i w ⟨rfl,hi,ha⟩ d;simp only[zg];rcases aB i s.length with a|z
  .have p:=Z5 i s.length;have A:=Z7 i;obtain⟨c,m⟩:∃c,s[i]?=some c:=⟨_,aL a⟩;have hb:=mf m;have hd:s.drop i=c::s.drop (i+1):=by rw[jv a];rw[aL a]at m;rw[df m]
   rw[hd,List.all_cons]at ha;apply RG;simp only[go_sem,E,cN,p,hb];refine⟨by (try simp only[cN]);omega,?_⟩;refine Xa rfl O1 (TD _ _) ?_;rintro v H2⟨rfl,rfl⟩;cases hp:eY (bZ c)
   .apply RG;simp only[go_sem,cF];exact au (r:=[_]) rfl ⟨by rw[<-ha,hp];rfl,rfl⟩
   .apply RG;simp only[go_sem,bX,A];exact d (i+1) _ _ O ae (by simp only[go_sem,ab,zg]) ⟨rfl,a,by rw[<-ha,hp,Bool.true_and]⟩
  .have:i=s.length:=by omega
   subst this;have p:decide ((s.length:Int)<(s.length:Int))=false:=ai;rw[jw]at ha;apply RG;simp only[go_sem,E,cN,p];exact au (r:=[_]) rfl ⟨by rw[<-ha];rfl,rfl⟩
def nj(_:PH)(c:List Value)(x:aE):Prop:=c=[.string ⟨⟨x⟩⟩]
def nj.len(c:List Value)(x:aE)(h:nj I c x):c.length=1:=by rw[show c=_ from h];rfl
abbrev lY(I:PH)(v:Value)(l:List aE):Prop:=Sl nj I v l
def nz(s:aE):Nat->List aE->Int
 |_,[]=>-1
 |i,x::l=>if x=s then i else nz s (i+1) l
def ye(v:Value)(s:aE)(i:Nat):St:=⟨dn 19 [(0,.v v),(1,.v (.string ⟨⟨s⟩⟩)),(5,.v (E i))],[]⟩
variable{v:Value}
def Gq{H:PH}{l:List aE}(o:lY H v l)(s:aE)(w:l.length<2^60):aJ prog 231 #[v,.string ⟨⟨s⟩⟩] H fun r H2=>r=.int .i64 (nz s 0 l)/\H2=H:=by
 obtain⟨la,q,rfl,_⟩:=id o;refine aG 19 func231 fun w0=>?_;refine af ?_;refine bz (fun x=>l.length-x) (ye (.slice la l.length q) s) (fun i p=>p=H/\i<=l.length/\nz s i (l.drop i)=nz s 0 l) 0 ae (by simp only[go_sem,ab,ye]) ⟨rfl,bg _,rfl⟩ ?_;rintro i p ⟨rfl,hi,ha⟩ f;simp only[ye];rcases aB i l.length with d|t
 .have m:=Z5 i l.length;have u:=Z7 i;obtain⟨x,j⟩:∃x,l[i]?=some x:=⟨_,aL d⟩;obtain⟨b,off,cs,rfl,k,g⟩:=Sl.load (R:=nj) (fun{I} c a h=>nj.len (I:=I) c a h) o j;obtain rfl:cs=[.string ⟨⟨x⟩⟩]:=k;have hd:l.drop i=x::l.drop (i+1):=by rw[jv d];rw[aL d]at j;rw[df j]
  rw[hd]at ha;simp only[nz]at ha;refine aj m ?_;refine⟨O,?_⟩;refine Xb (l:=[.string ⟨⟨x⟩⟩]) rfl (by simpa using g) (.inr ⟨iT,rfl⟩) ?_;by_cases e:x=s
  .subst e;rw[ak rfl]at ha;refine av ?_;exact au (r:=[_]) rfl ⟨by rw[<-ha];rfl,rfl⟩
  .rw[ad e]at ha;have hb:(x == s)=false:=by simpa using e
   refine bW hb u ?_;exact f (i+1) _ _ O ae (by simp only[go_sem,ab,ye]) ⟨rfl,d,ha⟩
 .have:i=l.length:=by omega
  subst this;have m:decide ((l.length:Int)<(l.length:Int))=false:=ai;rw[jw]at ha;refine aj m ?_;exact au (r:=[_]) rfl ⟨by rw[<-ha];rfl,rfl⟩
def iX:Nat->aE->Nat
 |n,[]=>n
 |n,c::s=>iX (10*n+(c.toNat-48)) s
def gB(s:aE):Bool:=s.all fun c=>fS (bZ c)
def kr(s:aE):Bool:=decide (1<=s.length) && decide (s.length<=10) && !(decide (1<s.length) && (bZ (s.getD 0 0) == 48)) && gB s && decide (iX 0 s<=2147483647)
variable{c:UInt8}
def oX:fS (bZ c)=true<->48<=c.toNat/\c.toNat<=57:=by unfold fS bZ;simp only[bu,cu];omega
def BT(s:aE)(c:UInt8):∀n,iX n (s++[c])=10*iX n s+(c.toNat-48):=by
 induction s with
 |nil=>intro n;rfl
 |cons d s a=>intro n;exact a _
def FZ:∀(s:aE) (n:Nat),gB s=true->Lib.decFrom n s=some (iX n s)
 | [],n,_=>rfl
 |c::s,n,h=>by simp only[gB,List.all_cons,bu]at h;have a:=oX.1 h.1;simp only[Lib.decFrom,Lib.digitVal,ak a];rw[show n*10+(c.toNat-48)=10*n+(c.toNat-48) by omega];exact FZ s _ h.2
def NF{d:Nat}(h:1<=u)(hd:d<10):Lib.decDigits (10*u+d)=Lib.decDigits u++[UInt8.ofNat (48+d)]:=by rw[Lib.decDigits,dif_neg O,show (10*u+d) / 10=u by omega,show (10*u+d) % 10=d by omega]
def Is(h:48<=c.toNat/\c.toNat<=57):UInt8.ofNat (48+(c.toNat-48))=c:=by rw[show 48+(c.toNat-48)=c.toNat by omega];simp
variable{s:aE}
def NU(b:49<=c.toNat):∀n,1<=iX n (c::s):=by
 have:∀(s:aE) (n:Nat),n<=iX n s:=by
  intro s
  induction s with
  |nil=>intro n;exact aW _
  |cons d s a=>intro n;exact cO O (a _)
 intro n;exact cO O (this s (10*n+(c.toNat-48)))
def F0:∀(m:Nat) (s:aE),s.length=m+1->gB s=true->(1<s.length->49<=(s.getD 0 0).toNat)->Lib.decDigits (iX 0 s)=s
 |0,s,b,h,_=>by
  match s,b with
  | [c],_=>simp only[gB,List.all_cons,List.all_nil,lO]at h;have f:=oX.1 h;show Lib.decDigits (10*0+(c.toNat-48))=[c];rw[Lib.decDigits_one O,show 10*0+(c.toNat-48)=c.toNat-48 by omega,Is f]
 |m+1,s,b,h,i=>by
  obtain⟨t,c,rfl⟩:∃t c,s=t++[c]:=⟨s.dropLast,s.getLast (by intro e;rw[e]at b;cases b),(List.dropLast_concat_getLast _).symm⟩;have a:t.length=m+1:=by simpa using b
  simp only[gB,List.all_append,List.all_cons,List.all_nil,lO,bu]at h;have f:=oX.1 h.2;have g:(t++[c]).getD 0 0=t.getD 0 0:=by
   cases t with
   |nil=>simp at a
   |cons d t=>rfl
  have hd:=i (by rw[b];omega);rw[g]at hd;have hp:1<=iX 0 t:=by
   cases t with
   |nil=>simp at a
   |cons d t=>exact NU hd 0
  rw[BT,NF hp O,F0 m t a h.1 (fun _=>hd),Is f]
def ND:∀(u:Nat),gB (Lib.decDigits u)=true/\iX 0 (Lib.decDigits u)=u/\(1<(Lib.decDigits u).length->49<=((Lib.decDigits u).getD 0 0).toNat)/\(1<=u->49<=((Lib.decDigits u).getD 0 0).toNat):=by
 intro u
 induction u using Nat.strongRecOn with
 |_ u f=>
  have c:∀d,d<10->(UInt8.ofNat (48+d)).toNat=48+d:=fun d hd=>by simp;omega
  by_cases h:u<10
  .rw[Lib.decDigits_one h];have:=c u h;refine⟨?_,?_,fun h=>by simp at h,fun i=>?_⟩
   .simp only[gB,List.all_cons,List.all_nil,lO];exact oX.2 O
   .show 10*0+((UInt8.ofNat (48+u)).toNat-48)=u;omega
   .show 49<=(UInt8.ofNat (48+u)).toNat;omega
  .obtain⟨a,b,_,d⟩:=f (u / 10) O;have d:=d O;have e:Lib.decDigits u=Lib.decDigits (u / 10)++[UInt8.ofNat (48+u % 10)]:=by rw[Lib.decDigits,dif_neg h]
   have:=c (u % 10) O;have g:(Lib.decDigits (u / 10)++[UInt8.ofNat (48+u % 10)]).getD 0 0=(Lib.decDigits (u / 10)).getD 0 0:=by
    cases hd:Lib.decDigits (u / 10)with
    |nil=>exact absurd hd (F1 _)
    |cons x l=>rfl
   rw[e,g];refine⟨?_,?_,fun _=>d,fun _=>d⟩
   .simp only[gB,List.all_append,List.all_cons,List.all_nil,lO,bu];exact⟨a,oX.2 O⟩
   .rw[BT,b];omega
def Ir(s:aE):kr s=iG s:=by
 rw[Bool.eq_iff_iff];constructor
 .intro h;simp only[kr,bu,cu,g8,Bool.and_eq_false_iff,pZ]at h;obtain⟨⟨⟨⟨h1,h2⟩,h3⟩,m⟩,x⟩:=h;cases s with
  |nil=>simp at h1
  |cons c s=>
   have f:=m;simp only[gB,List.all_cons,bu]at m;have g:=oX.1 m.1;have r:1<(c::s).length->49<=((c::s).getD 0 0).toNat:=fun l=>by
    rcases h3 with h3|h3
    .exact absurd l h3
    .have:bZ c≠48:=by have h3:(bZ c == 48)=false:=h3;simpa using h3
     unfold bZ at this;show 49<=c.toNat;omega
   have p:Lib.atoiAll (c::s)=.ok ((iX 0 (c::s):Nat):Int):=by
    rw[Lib.atoiAll_short _ O];have w:(c == 45)=false:=by rw[hU];intro e;rw[e]at g;revert g;decide
    have e2:(c == 43)=false:=by rw[hU];intro e;rw[e]at g;revert g;decide
    simp only[Lib.atoi,w,e2,iN,gT,Lib.decNat,List.isEmpty_cons];rw[FZ _ 0 f];rfl
   unfold iG;rw[p];simp only[bu,cu];refine⟨⟨O,?_⟩,m.1⟩;rw[Lib.itoa,ad O,Int.toNat_natCast];exact F0 s.length _ rfl f r
 .intro h;unfold iG at h;split at h
  .rename_i v hv;simp only[bu,cu]at h;obtain⟨⟨h1,h2⟩,h3⟩:=h;have n:¬v<0:=fun o=>by
    rw[Lib.itoa,ak o]at h2;rw[<-h2]at h3;have:fS (bZ 45)=false:=by decide
    have h3:fS (bZ 45)=true:=h3;rw[this]at h3;cases h3
   rw[Lib.itoa,ad n]at h2;obtain⟨a,b,d,_⟩:=ND v.toNat;rw[h2]at a b d;have i:s.length=Lib.nDigits v.toNat:=by rw[<-h2,Lib.decDigits_length]
   have hp:=Lib.nDigits_pos v.toNat;have o:s.length<=10:=by
    rw[i];rcases aB 10 (Lib.nDigits v.toNat)with g|g
    .exfalso;have key:∀(k u:Nat),k+1<Lib.nDigits u->10^(k+1)<=u:=by
      intro k
      induction k with
      |zero=>
       intro u j;rcases aB u 10 with h|h
       .rw[Lib.nDigits_small h]at j;omega
       .simpa using h
      |succ k q=>
       intro u j;rcases aB u 10 with h|h
       .rw[Lib.nDigits_small h]at j;omega
       .rw[Lib.nDigits_big O]at j;have:=q (u / 10) O;rw[og];omega
     have:=key 9 v.toNat O;have t:(10:Nat)^(9+1)=10000000000:=by decide
     omega
    .exact g
   simp only[kr,bu,cu,g8,Bool.and_eq_false_iff,pZ];refine⟨⟨⟨⟨O,o⟩,?_⟩,a⟩,O⟩;rcases aB 1 s.length with l|l
   .right
    have:=d l;unfold bZ;rw[hU];omega
   .left;omega
  .cases h
def CY:∀(n:Nat) (d:aE) (l:List (Nat×aE)),d.length<n->lD d=some l->∀x∈l,x.2.length<=d.length
 |0,_,_,h,_=>by omega
 |n+1,[],l,_,e=>by rw[yS]at e;cases e;exact fun _ h=>(dH h).elim
 |n+1,c::s,l,h,e=>by
  simp only[bf]at h;rw[yR]at e;intro x f;split at e
  .have:=CY n s l O e x f;simp only[bf];omega
  .split at e
   .cases e;exact(dH f).elim
   .split at e
    .cases e
    .rename_i h3;obtain⟨a,b,_⟩:=yQ h3;rw[hH]at e;obtain⟨l',g,e2⟩:=e;subst e2;rcases List.mem_cons.1 f with f|f
     .rw[f];exact b
     .have:=CY n _ l' (by simp only[kC,bf]at b |-;omega) g x f;simp only[kC,bf]at this b |-;omega
variable{k:Nat}
def HG(h:lD s=some [(k,s)]):fh s=(k,s):=by
 cases s with
 |nil=>rw[yS]at h;cases h
 |cons c t=>
  rw[yR]at h;split at h
  .have:=CY _ t _ (iO _) h _ (.head _);simp only[bf]at this;omega
  .split at h
   .cases h
   .split at h
    .cases h
    .rw[hH]at h;obtain⟨l,_,e⟩:=h;exact(List.cons.inj e).1
def Sj{t:aE}(b:k≠0)(ha:fh (c::t)=(k,c::t))(hb:l9 (bZ c)=false)(hm:qw.isPrefixOf (c::t)=false)(a:((c::t).all fun c=>i6 (bZ c))=true):iD k (c::t)=true:=by unfold iD kU;rw[ak a,yR,hb,hm,ha];simp only[iN,gT,ad b,jw];simp[yS]
def IF(h:eY (bZ c)=true):i6 (bZ c)=true/\l9 (bZ c)=false/\c≠47:=by
 have hb:bZ c=(c.toNat:Int):=rfl;simp only[eY,gO,fS,im,bu,cu,beq_iff_eq]at h;refine⟨?_,?_,fun e=>?_⟩
 .simp only[i6,g8,Bool.and_eq_false_iff,Bool.or_eq_false_iff,pZ,bne_eq_false_iff_eq]
  right;constructor<;>omega
 .simp only[l9,Bool.or_eq_false_iff,hU];constructor<;>omega
 .subst e;have:bZ 47=47:=by decide
  omega
def DO:∀{s:aE},(s.all fun c=>eY (bZ c))=true->eI s=s.length
 | [],_=>rfl
 |c::s,h=>by simp only[List.all_cons,bu]at h;rw[eI,ak h.1,DO h.2];rfl
def Np{t:aE}(h:c≠47):qw.isPrefixOf (c::t)=false:=by
 rw[Bool.eq_false_iff];intro e;have:=List.isPrefixOf_iff_prefix.1 e;obtain⟨r,hr⟩:=this;unfold qw at hr;injection hr with h1 _
 exact h h1.symm
def Gt(e:k≠0)(hp:(s.all fun c=>eY (bZ c))=true)(ha:fh s=(k,s))(a:s≠[]):iD k s=true:=by
 cases s with
 |nil=>exact absurd rfl a
 |cons c t=>have b:=hp;simp only[List.all_cons,bu]at b;obtain⟨_,h2,h3⟩:=IF b.1;refine Sj e ha h2 (Np h3) ?_;rw[lm]at hp |-;exact fun x d=>(IF (hp x d)).1
def Gs(s:aE):iD 1 s=fV s:=by
 rw[Bool.eq_iff_iff];constructor
 .intro h;have h:=eF h;unfold kU at h;split at h
  .have:=HG h;unfold fh at this;split at this
   .rename_i h1;have e:=(Prod.mk.inj this).2;rw[e]at h1;exact h1
   .split at this
    .cases (Prod.mk.inj this).1
    .split at this<;>cases (Prod.mk.inj this).1
  .cases h
 .intro h;have hp:(s.all fun c=>eY (bZ c))=true:=by unfold fV at h;exact(Bool.and_eq_true_iff.1 h).2
  refine Gt aR hp ?_ (Il h);unfold fh;rw[DO hp,cB,ak h]
def Of(s:aE):iD 2 s=iG s:=by
 rw[Bool.eq_iff_iff];constructor
 .intro h;have h:=eF h;unfold kU at h;split at h
  .have:=HG h;unfold fh at this;split at this
   .cases (Prod.mk.inj this).1
   .split at this
    .rename_i h1;have e:=(Prod.mk.inj this).2;rw[e]at h1;exact h1
    .split at this<;>cases (Prod.mk.inj this).1
  .cases h
 .intro h;have hr:=h;rw[<-Ir]at hr;simp only[kr,bu,cu]at hr;have hd:=hr.1.2;have hp:(s.all fun c=>eY (bZ c))=true:=by unfold gB at hd;rw[lm]at hd |-;intro x a;simp only[eY,hd x a,Bool.or_true,Bool.true_or]
  refine Gt aR hp ?_ (Iq h);have b:fV s=false:=by
   cases s with
   |nil=>rfl
   |cons c t=>unfold gB at hd;rw[List.all_cons,bu]at hd;have:fS (bZ ((c::t).getD 0 0))=true:=hd.1;simp only[fV,this,Bool.or_true,bX,Bool.false_and]
  unfold fh;rw[DO hp,cB,ad (by rw[b];decide),ak h]
def O3:ay prog 154:=⟨_,func154,rfl,rfl⟩
def Pw:ay prog 239:=⟨_,func239,rfl,rfl⟩
def O4:ay prog 157:=⟨_,func157,rfl,rfl⟩
def zh(s:aE)(x:Nat×Nat):St:=⟨dn 44 [(0,.v (.string ⟨⟨s⟩⟩)),(3,.v (E x.2)),(4,.v (E x.1))],[]⟩
def NT(h:s[i]?=some c):iX 0 (s.take (i+1))=10*iX 0 (s.take i)+(c.toNat-48):=by rw[cw h,BT]
def F9:∀(s:aE) (n:Nat),gB s=true->iX n s<(n+1)*10^s.length
 | [],n,_=>by show n<(n+1)*1;omega
 |c::s,n,h=>by
  simp only[gB,List.all_cons,bu]at h;have a:=oX.1 h.1;have:=F9 s (10*n+(c.toNat-48)) h.2;rw[bf,og];refine Nat.lt_of_lt_of_le this ?_;have e:(n+1)*(10^s.length*10)=((n+1)*10)*10^s.length:=by rw[Nat.mul_comm (10^s.length) 10,Nat.mul_assoc]
  rw[e];exact bS _ O
def WO{n:Nat}(h:n<256):IntKind.u8.wrap (n:Int)=(n:Int):=by simp only[IntKind.wrap,show IntKind.bits .u8=8 from rfl,show IntKind.signed .u8=false from rfl];have:(n:Int) % (2^8:Int)=(n:Int):=rz O O;simpa using this
def Q0(s:aE)(M:s.length<2^60)(H:PH):aJ prog 154 #[.string ⟨⟨s⟩⟩] H fun v H2=>v=.bool (kr s)/\H2=H:=by
 refine aG 44 func154 fun w0=>?_;cases h1:decide ((s.length:Int)<1)
 rotate_left
 .have a:kr s=false:=by have:decide (1<=s.length)=false:=aS (by have:=eF h1;omega);simp only[kr,this,Bool.false_and]
  apply RG;simp only[go_sem,cN,h1];exact au (r:=[_]) rfl ⟨by rw[a];rfl,rfl⟩
 have y:=rH h1;have k1:decide (1<=s.length)=true:=ar O;cases h2:decide ((s.length:Int)>10)
 rotate_left
 .have a:kr s=false:=by have:decide (s.length<=10)=false:=aS (by have:=eF h2;omega);simp only[kr,this,Bool.and_false,Bool.false_and]
  apply RG;simp only[go_sem,cN,h1,h2];exact au (r:=[_]) rfl ⟨by rw[a];rfl,rfl⟩
 have F:=rH h2;have k2:decide (s.length<=10)=true:=ar O;have u:s[0]?=some (s.getD 0 0):=by
  cases s with
  |nil=>simp at y
  |cons c t=>rfl
 have k:=mf u;have g:∀(b:Bool),(decide (1<s.length) && (bZ (s.getD 0 0) == 48))=b->kr s=(!b && (gB s && decide (iX 0 s<=2147483647))):=fun b hb=>by simp only[kr,k1,k2,hb,Bool.true_and,Bool.and_assoc]
 have C:(0:Int)<=0/\(0:Int)<(s.length:Int):=⟨O,O⟩;cases h3:decide ((s.length:Int)>1)
 rotate_left
 cases o:(bZ (s.getD 0 0) == 48)
 rotate_left
 .have a:kr s=false:=by rw[g true (by rw[o,ar (by have:=eF h3;omega)];rfl)];rfl
  apply RG;simp only[go_sem,cN,h1,h2,h3,Int.toNat_zero,k,o];refine⟨O,?_⟩;exact au (r:=[_]) rfl ⟨by rw[a];rfl,rfl⟩
 rotate_left
 have a:=g false (by rw[o,Bool.and_false]);apply RG;simp only[go_sem,cN,h1,h2,h3,Int.toNat_zero,k,o];refine⟨O,?_⟩
 rotate_left
 have a:=g false (by rw[aS (by have:=rH h3;omega),Bool.false_and]);apply RG;simp only[go_sem,cN,h1,h2,h3]
 all_goals
  rw[cF,Bool.true_and]at a;rw[a];refine bz (fun x=>s.length-x.1) (zh s) (fun x z=>z=H/\x.1<=s.length/\x.2=iX 0 (s.take x.1)/\gB (s.take x.1)=true) (0,0) ae (by simp only[go_sem,ab,zh]) ⟨rfl,bg _,rfl,rfl⟩ ?_;rintro⟨i,n⟩ z ⟨rfl,hi,j,ha⟩ f;simp only at hi j ha;simp only[zh];have q:=F9 (s.take i) 0 ha;have hp:(0+1)*10^(s.take i).length<=10^10:=by rw[eR,lQ];exact iP aR (by rw[eE];omega)
  have K:(10:Nat)^10=10000000000:=by decide
  rw[<-j]at q;rcases aB i s.length with d|A
  .have w:=Z5 i s.length;obtain⟨c,m⟩:∃c,s[i]?=some c:=⟨_,aL d⟩;have hb:=mf m;have p:gB (s.take (i+1))=(fS (bZ c) && gB (s.take i)):=by rw[cw m];unfold gB;rw[List.all_append,Bool.and_comm];simp
   apply RG;simp only[go_sem,E,cN,w,hb];refine⟨by (try simp only[cN]);omega,?_⟩;refine Xa rfl Cp (BO _ _) ?_;rintro v H2⟨rfl,rfl⟩;cases e:fS (bZ c)
   .have l:gB s=false:=by unfold gB;rw[List.all_eq_false];exact⟨c,cH m,by rw[e];decide⟩
    apply RG;simp only[go_sem,cF];exact au (r:=[_]) rfl ⟨by rw[l];rfl,rfl⟩
   .have B:=oX.1 e;have L:=Z7 i;have e2:IntKind.i64.wrap (10*(n:Int))=((10*n:Nat):Int):=by rw[<-wrap64 (n:=10*n) O];congr 1
    have J:IntKind.u8.wrap (bZ c-48)=((c.toNat-48:Nat):Int):=by unfold bZ;have:(c.toNat:Int)-48=((c.toNat-48:Nat):Int):=O;rw[this];exact WO O
    have I:IntKind.i64.wrap (((c.toNat-48:Nat):Int))=((c.toNat-48:Nat):Int):=wrap64 O;have G:IntKind.i64.wrap (((10*n:Nat):Int)+((c.toNat-48:Nat):Int))=((10*n+(c.toNat-48):Nat):Int):=by rw[<-wrap64 (n:=10*n+(c.toNat-48)) O];congr 1
    apply RG;simp only[go_sem,E,cN,bX,hb,L,e2,J,I,G]
    try refine⟨by (try simp only[cN]);omega,?_⟩
    exact f (i+1,10*n+(c.toNat-48)) _ _ bC ae (by simp only[go_sem,ab,zh]) ⟨rfl,d,by simp only;rw[NT m,j],by rw[p,e,ha];rfl⟩
  .have:i=s.length:=by omega
   subst this;have w:decide ((s.length:Int)<(s.length:Int))=false:=ai;rw[cB]at ha j;have D:decide ((n:Int)<=2147483647)=decide (n<=2147483647):=by congr 1;exact propext ⟨fun h=>by omega,fun h=>by omega⟩
   apply RG;simp only[go_sem,E,cN,w,D];exact au (r:=[_]) rfl ⟨by rw[ha,<-j];rfl,rfl⟩
def qK{I:PH}:∀l:List aE,LR (nj I) (l.map fun x=>Value.string ⟨⟨x⟩⟩) l
 | []=>rfl
 |x::l=>⟨[_],_,rfl,rfl,qK l⟩
def Gn(s:aE):∀(l:List aE) (i:Nat),decide (nz s i l>=0)=l.contains s:=by
 have key:∀(l:List aE) (i:Nat),nz s i l>=0<->s∈l:=by
  intro l
  induction l with
  |nil=>intro i;exact⟨fun h=>absurd h (by show ¬(-1:Int)>=0;omega),fun h=>(dH h).elim⟩
  |cons x l a=>
   intro i;show (if x=s then (i:Int)else nz s (i+1) l)>=0<->_;by_cases h:x=s
   .rw[ak h];exact⟨fun _=>by rw[h];exact .head _,fun _=>by omega⟩
   .rw[ad h,a,fC];exact⟨.inr,fun k=>k.resolve_left fun e=>h e.symm⟩
 intro l i;rw[Bool.eq_iff_iff,cu,key,List.contains_iff_mem]
def rx:List aE:=[Am,Ah,q6,qU,Ai,Ag,An,Al,Aj,Af,rk,qX,Ak]
def WM(s:aE)(I:PH):aI prog 239 #[.string ⟨⟨s⟩⟩] I [] fun v I2 qs=>qs=[]/\v=.bool (fG s):=by intro hd;refine aG 7 func239 fun w0=>?_;refine af ?_;refine cd hd (by exact tw) rfl rfl rfl rfl rfl aR fun e g d b f=>?_;have i:lY g (.slice (some ⟨e,0,none⟩) 13 13) rx:=⟨_,_,rfl,.inr ⟨e,0,_,rfl,(bD f (by simp[aD,Value.cells,rx]) (by simp[aD,Value.cells,rx,Am,Ah,q6,qU,Ai,Ag,An,Al,Aj,Af,rk,qX,Ak]):aX g e 0 (rx.map fun x=>.string ⟨⟨x⟩⟩)),qK rx⟩⟩;refine af ?_;refine Xa rfl G0 (Gq (Sl.le (R:=nj) (fun{I J c a} h k=>h) i (eP d)) s aR) ?_;rintro v H2⟨rfl,rfl⟩;have h1:decide (nz s 0 rx>=0)=fG s:=Gn s rx 0;refine db h1 ?_;exact ao rfl d (r:=[_]) rfl b ⟨rfl,rfl⟩
def km:List (List aE):=[[rg],[qT],[qW,rf,q8,q7,qZ,qY],[rh,mK],[re,qV,q9]]
def uh(I:PH)(c:List Value)(l:List aE):Prop:=∃v,c=[v]/\lY I v l
def uh.len(c:List Value)(x:List aE)(h:uh I c x):c.length=1:=by obtain⟨v,e,_⟩:=h;rw[e];rfl
def py(s:aE):Nat->List (List aE)->Int
 |_,[]=>-1
 |i,l::a=>if l.contains s then i else py s (i+1) a
def yP(s:aE)(v:Value)(i:Nat):St:=⟨dn 25 [(0,.v (.string ⟨⟨s⟩⟩)),(3,.v v),(4,.v (E i))],[]⟩
def Sg(s:aE)(I:PH):aI prog 157 #[.string ⟨⟨s⟩⟩] I [] fun v I2 qs=>qs=[]/\v=.int .i64 (py s 0 km):=by
 intro hd;refine aG 25 func157 fun w0=>?_;refine af ?_;refine cd hd (by exact tw) rfl rfl rfl rfl rfl aR fun N I1 W f w=>?_;have h1:lY I1 (.slice (some ⟨N,0,none⟩) 1 1) [rg]:=⟨_,_,rfl,.inr ⟨N,0,_,rfl,(bD w (by simp[aD,Value.cells]) (by simp[aD,Value.cells,rg]):aX I1 N 0 ([rg].map fun x=>.string ⟨⟨x⟩⟩)),qK _⟩⟩;refine af ?_;refine cd W (by exact tw) rfl rfl rfl rfl rfl aR fun M I2 V D u=>?_;have h2:lY I2 (.slice (some ⟨M,0,none⟩) 1 1) [qT]:=⟨_,_,rfl,.inr ⟨M,0,_,rfl,(bD u (by simp[aD,Value.cells]) (by simp[aD,Value.cells,qT]):aX I2 M 0 ([qT].map fun x=>.string ⟨⟨x⟩⟩)),qK _⟩⟩;refine af ?_;refine cd V (by exact tw) rfl rfl rfl rfl rfl aR fun L I3 T C t=>?_;have h3:lY I3 (.slice (some ⟨L,0,none⟩) 6 6) [qW,rf,q8,q7,qZ,qY]:=⟨_,_,rfl,.inr ⟨L,0,_,rfl,(bD t (by simp[aD,Value.cells]) (by simp[aD,Value.cells,qW,rf,q8,q7,qZ,qY]):aX I3 L 0 ([qW,rf,q8,q7,qZ,qY].map fun x=>.string ⟨⟨x⟩⟩)),qK _⟩⟩;refine af ?_;refine cd T (by exact tw) rfl rfl rfl rfl rfl aR fun K I4 S B q=>?_;have h4:lY I4 (.slice (some ⟨K,0,none⟩) 2 2) [rh,mK]:=⟨_,_,rfl,.inr ⟨K,0,_,rfl,(bD q (by simp[aD,Value.cells]) (by simp[aD,Value.cells,rh,mK]):aX I4 K 0 ([rh,mK].map fun x=>.string ⟨⟨x⟩⟩)),qK _⟩⟩;refine af ?_;refine cd S (by exact tw) rfl rfl rfl rfl rfl aR fun H I5 Q A p=>?_;have h5:lY I5 (.slice (some ⟨H,0,none⟩) 3 3) [re,qV,q9]:=⟨_,_,rfl,.inr ⟨H,0,_,rfl,(bD p (by simp[aD,Value.cells]) (by simp[aD,Value.cells,re,qV,q9]):aX I5 H 0 ([re,qV,q9].map fun x=>.string ⟨⟨x⟩⟩)),qK _⟩⟩;refine af ?_;refine cd Q (by exact UP) rfl rfl rfl rfl rfl aR fun G F d z o=>?_;have up:∀{I:PH} {v:Value} {l:List aE},lY I v l->I.le F->lY F v l:=fun h k=>Sl.le (R:=nj) (fun{I J c a} h k=>h) h k;have Z:=z;have k4:=Y A Z;have k3:=Y B k4;have k2:=Y C k3;have k1:=Y D k2
 have hS:Sl uh F (.slice (some ⟨G,0,none⟩) 5 5) km:=⟨_,_,rfl,.inr ⟨G,0,_,rfl,(bD o (by simp[aD,Value.cells]) (by simp[aD,Value.cells]):aX F G 0 [.slice (some ⟨N,0,none⟩) 1 1,.slice (some ⟨M,0,none⟩) 1 1,.slice (some ⟨L,0,none⟩) 6 6,.slice (some ⟨K,0,none⟩) 2 2,.slice (some ⟨H,0,none⟩) 3 3]),⟨[_],_,rfl,⟨_,rfl,up h1 k1⟩,[_],_,rfl,⟨_,rfl,up h2 k2⟩,[_],_,rfl,⟨_,rfl,up h3 k3⟩,[_],_,rfl,⟨_,rfl,up h4 k4⟩,[_],_,rfl,⟨_,rfl,up h5 Z⟩,rfl⟩⟩⟩;clear h1 h2 h3 h4 h5 w u t q p o;refine af ?_;refine bz (fun x=>5-x) (yP s (.slice (some ⟨G,0,none⟩) 5 5)) (fun i H3=>H3=U [F]/\i<=5/\py s i (km.drop i)=py s 0 km) 0 ae (by simp only[go_sem,ab,yP]) ⟨rfl,bg _,rfl⟩ ?_;rintro i H3 ⟨rfl,hi,ha⟩ g;simp only[yP];rcases aB i 5 with j|ac
 .have h7:decide ((i:Int)<5)=true:=ar O;have e1:=Z7 i;obtain⟨x,P⟩:∃x,km[i]?=some x:=⟨_,aL (show i<km.length from j)⟩;obtain⟨b,off,cs,e0,⟨v,rfl,hv⟩,m⟩:=Sl.load (R:=uh) (fun{I} c a h=>uh.len (I:=I) c a h) hS P;cases e0
  obtain⟨xa,xc,rfl,_⟩:=id hv;have aa:x.length<=6:=by
   have:∀y∈km,y.length<=6:=by decide
   exact this x (cH P)
  have X:km.drop i=x::km.drop (i+1):=by have e:i<km.length:=j;rw[jv e];rw[aL e]at P;rw[df P]
  rw[X]at ha;simp only[py]at ha;refine aj h7 ?_
  try refine⟨O,?_⟩
  refine Xb (l:=[.slice xa x.length xc]) rfl (cellsU d (.head _) (by simpa using m)) (.inr ⟨Fc,rfl⟩) ?_;refine av ?_;refine Xa rfl G0 (Gq (Sl.le (R:=nj) (fun{I J c a} h k=>h) hv (eP d)) s O) ?_;rintro v H2⟨rfl,rfl⟩;have hf:=Gn s x 0;cases hc:x.contains s
  .rw[hc]at hf ha;rw[ad aR]at ha;refine bW hf e1 ?_;exact g (i+1) _ _ O ae (by simp only[go_sem,ab,yP]) ⟨rfl,j,ha⟩
  .rw[hc]at hf ha;rw[ak rfl]at ha;refine aj hf ?_;exact ao rfl d (r:=[_]) rfl (Y f k1) ⟨rfl,by rw[<-ha];rfl⟩
 .have:i=5:=by omega
  subst this;refine av ?_;exact ao rfl d (r:=[_]) rfl (Y f k1) ⟨rfl,by rw[<-ha];rfl⟩
def OV:ay prog 128:=⟨_,func128,rfl,rfl⟩
def yC(v:Value)(c:Nat)(i:Nat):St:=⟨dn 18 [(0,.v v),(1,.v (.int .u32 c)),(5,.v (E i))],[]⟩
variable{m:List Nat}
def Qx{H:PH}{c:Nat}(q:dh H v m)(y:m.length<2^60):aJ prog 128 #[v,.int .u32 c] H fun r H2=>r=.bool (m.contains c)/\H2=H:=by
 obtain⟨t,vc,rfl,_⟩:=id q;refine aG 18 func128 fun w0=>?_;refine af ?_;refine bz (fun x=>m.length-x) (yC (.slice t m.length vc) c) (fun i H2=>H2=H/\i<=m.length/\(m.drop i).contains c=m.contains c) 0 ae (by simp only[go_sem,ab,yC]) ⟨rfl,bg _,rfl⟩ ?_;rintro i H2 ⟨rfl,hi,ha⟩ e;simp only[yC];rcases aB i m.length with d|u
 .have p:=Z5 i m.length;have w:=Z7 i;obtain⟨x,k⟩:∃x,m[i]?=some x:=⟨_,aL d⟩;obtain⟨b,off,cs,rfl,⟨rfl,s⟩,f⟩:=Sl.load (fun{I} c a h=>cG.len (I:=I) c a h) q k;have o:m.drop i=x::m.drop (i+1):=by rw[jv d];rw[aL d]at k;rw[df k]
  rw[o,List.contains_cons]at ha;have g:((x:Int) == (c:Int))=(c == x):=by rw[Bool.eq_iff_iff,beq_iff_eq,beq_iff_eq];omega
  refine aj p ?_
  try refine⟨O,?_⟩
  refine Xb (l:=[.int .u32 x]) rfl (by simpa using f) (.inr ⟨dz,rfl⟩) ?_;cases j:(c == x)
  .rw[j,ju]at ha;rw[j]at g;refine bW g w ?_;exact e (i+1) _ _ O ae (by simp only[go_sem,ab,yC]) ⟨rfl,d,ha⟩
  .rw[j,Bool.true_or]at ha;rw[j]at g;refine aj g ?_;exact au (r:=[_]) rfl ⟨by rw[<-ha];rfl,rfl⟩
 .have:i=m.length:=by omega
  subst this;rw[jw]at ha;have p:decide (((m.length:Nat):Int)<(m.length:Int))=false:=ai;refine aj p ?_;exact au (r:=[_]) rfl ⟨by rw[<-ha];rfl,rfl⟩
def pg:ay prog 110:=⟨_,func110,rfl,rfl⟩
def uW:ay prog 113:=⟨_,func113,rfl,rfl⟩
def uU(a vb:Value)(x:Nat×Value):St:=⟨dn 27 [(0,.v a),(1,.v vb),(5,.v x.2),(6,.v (E x.1))],[]⟩
def OL(a b:List Nat)(c:PH)(x:Nat×Value)(H:PH):Prop:=∃I A l,H=U [I,A]/\Dj [I,A]/\c.le I/\x.1<=a.length/\it I A x.2 l/\l=(a.take x.1).filter b.contains
def SJ{a b:List Nat}(N:dh I va a)(M:dh I vb b)(ag:a.length<2^40)(Z:b.length<2^40):aI prog 110 #[va,vb] I [] fun r I2 qs=>qs=[]/\dh I2 r (a.filter b.contains):=by
 obtain⟨aa,ac,rfl,_⟩:=id N;obtain⟨ba,bc,rfl,_⟩:=id M;intro hd;refine aG 27 func110 fun w0=>?_;refine af ?_;refine dR hd fun D=>?_;refine bz (fun x=>a.length-x.1) (uU (.slice aa a.length ac) (.slice ba b.length bc)) (OL a b I) (0,.slice none 0 0) ae (by simp only[go_sem,ab,uU]) ?_ ?_
 .exact⟨I,_,[],rfl,D,ax _,bg _,Ow.nil _ _ _ _,by simp⟩
 rintro⟨i,vo⟩ H ⟨I2,A2,o,rfl,j,e,hi,y,f⟩ m;simp only at hi y f;have W:o.length<=i:=by rw[f];exact cO (List.length_filter_le _ _) (by rw[eE];omega)
 simp only[uU];obtain⟨V,U,rfl⟩:=y.shape;rcases aB i a.length with s|X
 .have t:=Z5 i a.length;have P:=Z7 i;obtain⟨x,A⟩:∃x,a[i]?=some x:=⟨_,aL s⟩;obtain⟨g,off,cs,rfl,⟨rfl,z⟩,q⟩:=Sl.load (fun{I} c a h=>cG.len (I:=I) c a h) (dh.le N e) A;refine aj t ?_
  try refine⟨O,?_⟩
  refine Xb (l:=[.int .u32 x]) rfl (cellsU j (.head _) (by simpa using q)) (.inr ⟨dz,rfl⟩) ?_;refine av ?_;refine Xa rfl OV (Qx (dh.le M (Y e (eP j))) O) ?_;rintro v H2⟨rfl,rfl⟩;cases w:b.contains x
  .refine aj P ?_;exact m (i+1,.slice V o.length U) _ _ bC ae (by simp only[go_sem,ab,uU]) ⟨I2,A2,o,rfl,j,e,s,y,by simp only;rw[cw A,List.filter_append,<-f];simp only[gJ,w,List.filter_nil];simp⟩
  .refine av ?_
   try refine⟨O,?_⟩
   refine Xb (l:=[.int .u32 x]) rfl (cellsU j (.head _) (by simpa using q)) (.inr ⟨dz,rfl⟩) ?_;refine av ?_;refine cd j (by exact ik) rfl rfl rfl rfl rfl aR fun L Q p d B=>?_;have F:Sl cG Q (.slice (some ⟨L,0,none⟩) 1 1) [x]:=⟨_,_,rfl,.inr ⟨L,0,_,rfl,bD B (by simp[aD,Value.cells]) (by simp[aD,Value.cells]),.one ⟨rfl,z⟩⟩⟩;refine av ?_;refine dX (R:=cG) (xs:=o) (ys:=[x]) p (by exact ik) (it.le y d) F (fun{I J c a} h k=>h) (fun{I} c a h=>cG.len (I:=I) c a h) (fun{I} c a h=>by rw[h.1];rfl) rfl rfl rfl rfl (by simp only[bf,bA];omega) (by simp only[bf,bA];unfold maxLen;omega) fun T S I5 A5 C u G=>?_;refine aj P ?_;exact m (i+1,.slice T (o++[x]).length S) _ _ bC ae (by simp only[go_sem,ab,uU]) ⟨I5,A5,o++[x],rfl,C,Y e (Y d u),s,G,by simp only;rw[cw A,List.filter_append,<-f];simp only[gJ,w,List.filter_nil];simp⟩
 .have:i=a.length:=by omega
  subst this;have t:decide ((a.length:Int)<(a.length:Int))=false:=ai;refine bq j [0] fun p=>?_;refine bH (c:=.st _) p fun Q p d K=>?_;refine aj t ?_;exact ao rfl p (r:=[_]) rfl (Y e d) ⟨rfl,by rw[cB]at f;rw[<-f];exact fZ (R:=cG) (fun{I J c a} h k=>h) y d K⟩
def Gr(p q:Nat->Bool):∀r:List Nat,(r.filter p≠[]\/r.filter q≠[])->∃z a,(p z || q z)=true/\(z::a).Sublist r/\r.filter p=(z::a).filter p/\r.filter q=(z::a).filter q/\r.filter (fun x=>p x || q x)=(z::a).filter (fun x=>p x || q x)
 | [],h=>by simp at h
 |x::r,h=>by
  by_cases c:(p x || q x)=true
  .exact⟨x,r,c,List.Sublist.refl _,rfl,rfl,rfl⟩
  .have hp:p x=false:=by cases e:p x<;>simp_all
   have b:q x=false:=by cases d:q x<;>simp_all
   obtain⟨z,a,h1,h2,h3,g,f⟩:=Gr p q r (by simpa[hp,b]using h);refine⟨z,a,h1,h2.trans (List.sublist_cons_self _ _),?_,?_,?_⟩
   .rw[<-h3];simp[hp]
   .rw[<-g];simp[b]
   .rw[<-f];simp[hp,b]
def pm(a vb:Value)(x:Nat×Nat×Value):St:=⟨dn 75 [(0,.v a),(1,.v vb),(5,.v x.2.2),(6,.v (E x.1)),(7,.v (E x.2.1))],[]⟩
def Qs(p q:Nat->Bool)(m:List Nat)(a:PH)(x:Nat×Nat×Value)(H:PH):Prop:=∃(I A:PH) (l r:List Nat),H=U [I,A]/\Dj [I,A]/\a.le I/\x.1<=(m.filter p).length/\x.2.1<=(m.filter q).length/\it I A x.2.2 l/\r.Pairwise (· < ·)/\
 (m.filter p).drop x.1=r.filter p/\(m.filter q).drop x.2.1=r.filter q/\l++r.filter (fun x=>p x || q x)=m.filter (fun x=>p x || q x)
def sE{α:Type}{l r:List α}{x:α}(h:l.drop i=x::r):l[i]?=some x/\i<l.length/\l.drop (i+1)=r:=by
 have h1:l[i]?=some x:=by have:=congrArg (fun l=>l[0]?) h;simpa[rA]using this
 refine⟨h1,(List.getElem?_eq_some_iff.1 h1).1,?_⟩;rw[<-kB,h];rfl
def Wa{p q:Nat->Bool}(hA:dh I va (m.filter p))(hB:dh I vb (m.filter q))(hm:m.Pairwise (· < ·))(bs:m.length<2^40):aI prog 113 #[va,vb] I [] fun r I2 qs=>qs=[]/\dh I2 r (m.filter fun x=>p x || q x):=by
 obtain⟨aa,ac,rfl,_⟩:=id hA;obtain⟨ba,bc,rfl,_⟩:=id hB;have b8:(m.filter p).length<2^40:=jy (List.length_filter_le _ _) bs;have b7:(m.filter q).length<2^40:=jy (List.length_filter_le _ _) bs;intro hd;refine aG 75 func113 fun w0=>?_;refine af ?_;refine dR hd fun b4=>?_;refine bz (fun x=>((m.filter p).length-x.1)+((m.filter q).length-x.2.1)) (pm (.slice aa (m.filter p).length ac) (.slice ba (m.filter q).length bc)) (Qs p q m I) (0,0,.slice none 0 0) ae (by simp only[go_sem,ab,pm]) ?_ ?_
 .exact⟨I,_,[],m,rfl,b4,ax _,bg _,bg _,Ow.nil _ _ _ _,hm,rfl,rfl,rfl⟩
 rintro⟨i,k,vo⟩ H ⟨I2,A2,o,r,rfl,f,u,hi,hk,hO,hr,N,L,S⟩ B;simp only at hi hk hO N L;have b6:o.length<=m.length:=by have:=congrArg List.length S;rw[dG]at this;have h2:=List.length_filter_le (fun x=>p x || q x) m;omega
 generalize a6:(m.filter p).length=la at *;generalize a0:(m.filter q).length=lb at *;simp only[pm];obtain⟨oa,oc,rfl⟩:=hO.shape;by_cases am:i=la/\k=lb
 .obtain⟨rfl,rfl⟩:=am;have A:decide ((i:Int)<(i:Int))=false:=ai;have bd:decide ((k:Int)<(k:Int))=false:=ai;refine bq f [0] fun w=>?_;refine bH (c:=.st _) w fun I4 w b b5=>?_;refine bW A bd ?_;refine ao rfl w (r:=[_]) rfl (Y u b) ⟨rfl,?_⟩;have e1:r.filter p=[]:=by rw[<-N,<-a6,jw]
  have e2:r.filter q=[]:=by rw[<-L,<-a0,jw]
  have e3:r.filter (fun x=>p x || q x)=[]:=by
   rw[List.filter_eq_nil_iff]at e1 e2 |-;intro x hx;have a1:=e1 x hx;have a2:=e2 x hx
   simp_all
  rw[e3,ab]at S;rw[<-S];exact fZ (R:=cG) (fun{I J c a} h k=>h) hO b b5
 obtain⟨z,K,hz,a4,h3,h4,h5⟩:=Gr p q r (by
  rw[<-N,<-L];by_cases b3:i=la
  .right;intro e
   have:=congrArg List.length e;rw[kC,a0]at this;simp at this;exact am ⟨b3,O⟩
  .left;intro e
   have:=congrArg List.length e;rw[kC,a6]at this;simp at this;omega)
 have bo:=hr.sublist a4;have b0:=fun{y:Nat} (h:y∈K)=>(List.pairwise_cons.1 bo).1 y h;have T:=(List.pairwise_cons.1 bo).2;rw[h3]at N;rw[h4]at L;rw[h5]at S;have ez:(z::K).filter (fun x=>p x || q x)=z::K.filter (fun x=>p x || q x):=by rw[gJ,ak hz]
 rw[ez]at S;have W:(o++[z])++K.filter (fun x=>p x || q x)=m.filter fun x=>p x || q x:=by rw[eD];exact S
 have later:∀{s:Nat->Bool} {l:List Nat} {j:Nat},s z=false->l.drop j=(z::K).filter s->j<l.length->∃y,l[j]?=some y/\z<y:=fun{s l j} hs hl hj=>by
  rw[gJ,ad (by simp[hs])]at hl;cases hf:K.filter s with
  |nil=>rw[hf]at hl;have:=congrArg List.length hl;rw[kC]at this;simp at this;omega
  |cons y ys=>
   rw[hf]at hl;refine⟨y,(sE hl).1,b0 ?_⟩;have:y∈K.filter s:=by rw[hf];exact .head _
   exact(List.mem_filter.1 this).1
 have e1:=Z7 i;have e2:=Z7 k;cases aq:p z with
 |true=>
  have a5:(m.filter p).drop i=z::K.filter p:=by rw[N,gJ,ak aq]
  obtain⟨ha,a7,a9⟩:=sE a5;rw[a6]at a7;obtain⟨g,off,cs,rfl,⟨rfl,Q⟩,t⟩:=Sl.load (fun{I} c a h=>cG.len (I:=I) c a h) (dh.le hA u) ha;have A:=Z5 i la;cases U:q z with
  |true=>
   have V:(m.filter q).drop k=z::K.filter q:=by rw[L,gJ,ak U]
   obtain⟨hb,X,a3⟩:=sE V;rw[a0]at X;obtain⟨g2,off2,cs2,rfl,⟨rfl,_⟩,d⟩:=Sl.load (fun{I} c a h=>cG.len (I:=I) c a h) (dh.le hB u) hb;have M:((k:Int) == (lb:Int))=false:=by simp;omega
   have Z:=Z5 k lb;have ap:decide ((z:Int)<=(z:Int))=true:=ai;have bb:((z:Int) == (z:Int))=true:=ai;refine aj A ?_;refine aV [0,1,2,3,4,5,6,7,8,9,10,11,12,13,14,15,16,17,18,19,20] [13,17] [] ?_;refine eS M A ?_
   try refine⟨O,?_⟩
   refine Xc (l:=[.int .u32 z]) rfl (cellsU f (.head _) (by simpa using t)) (.inr ⟨dz,rfl⟩) ?_;refine aC ?_
   try refine⟨O,?_⟩
   refine Xc (l:=[.int .u32 z]) rfl (cellsU f (.head _) (by simpa using d)) (.inr ⟨dz,rfl⟩) ?_;refine aM ap ?_;apply an;refine av ?_;refine aV [0,1,2,3,4,5,6,7,8,9,10,11,12,13,14] [8,12] [] ?_;refine aM Z ?_
   try refine⟨O,?_⟩
   refine Xc (l:=[.int .u32 z]) rfl (cellsU f (.head _) (by simpa using t)) (.inr ⟨dz,rfl⟩) ?_;refine aC ?_
   try refine⟨O,?_⟩
   refine Xc (l:=[.int .u32 z]) rfl (cellsU f (.head _) (by simpa using d)) (.inr ⟨dz,rfl⟩) ?_;refine aM bb ?_;apply an;refine aj e2 ?_
   try refine⟨O,?_⟩
   refine Xb (l:=[.int .u32 z]) rfl (cellsU f (.head _) (by simpa using t)) (.inr ⟨dz,rfl⟩) ?_;refine av ?_;refine cd f (by exact ik) rfl rfl rfl rfl rfl aR fun P I4 w b C=>?_;have F:Sl cG I4 (.slice (some ⟨P,0,none⟩) 1 1) [z]:=⟨_,_,rfl,.inr ⟨P,0,_,rfl,bD C (by simp[aD,Value.cells]) (by simp[aD,Value.cells]),.one ⟨rfl,Q⟩⟩⟩;refine av ?_;refine dX (R:=cG) (xs:=o) (ys:=[z]) w (by exact ik) (it.le hO b) F (fun{I J c a} h k=>h) (fun{I} c a h=>cG.len (I:=I) c a h) (fun{I} c a h=>by rw[h.1];rfl) rfl rfl rfl rfl (by simp only[bf,bA];omega) (by simp only[bf,bA];unfold maxLen;omega) fun ua uc I5 A5 D v G=>?_;refine bW e1 e2 ?_;exact B (i+1,k+1,.slice ua (o++[z]).length uc) _ _ bC ae (by simp only[go_sem,ab,pm]) ⟨I5,A5,o++[z],K,rfl,D,Y u (Y b v),by simp only;omega,by simp only;omega,G,T,a9,a3,W⟩
  |false=>
   have ag:(m.filter q).drop k=K.filter q:=by rw[L,gJ,ad (by simp[U])]
   rcases aB k lb with X|X
   .obtain⟨y,hy,bx⟩:=later U L O;obtain⟨g2,off2,cs2,rfl,⟨rfl,_⟩,d⟩:=Sl.load (fun{I} c a h=>cG.len (I:=I) c a h) (dh.le hB u) hy;have M:((k:Int) == (lb:Int))=false:=by simp;omega
    have Z:=Z5 k lb;have ap:decide ((z:Int)<=(y:Int))=true:=ar O;have bb:((z:Int) == (y:Int))=false:=by simp;omega
    refine aj A ?_;refine aV [0,1,2,3,4,5,6,7,8,9,10,11,12,13,14,15,16,17,18,19,20] [13,17] [] ?_;refine eS M A ?_
    try refine⟨O,?_⟩
    refine Xc (l:=[.int .u32 z]) rfl (cellsU f (.head _) (by simpa using t)) (.inr ⟨dz,rfl⟩) ?_;refine aC ?_
    try refine⟨O,?_⟩
    refine Xc (l:=[.int .u32 y]) rfl (cellsU f (.head _) (by simpa using d)) (.inr ⟨dz,rfl⟩) ?_;refine aM ap ?_;apply an;refine av ?_;refine aV [0,1,2,3,4,5,6,7,8,9,10,11,12,13,14] [8,12] [] ?_;refine aM Z ?_
    try refine⟨O,?_⟩
    refine Xc (l:=[.int .u32 z]) rfl (cellsU f (.head _) (by simpa using t)) (.inr ⟨dz,rfl⟩) ?_;refine aC ?_
    try refine⟨O,?_⟩
    refine Xc (l:=[.int .u32 y]) rfl (cellsU f (.head _) (by simpa using d)) (.inr ⟨dz,rfl⟩) ?_;refine aM bb ?_;apply an;refine av ?_
    try refine⟨O,?_⟩
    refine Xb (l:=[.int .u32 z]) rfl (cellsU f (.head _) (by simpa using t)) (.inr ⟨dz,rfl⟩) ?_;refine av ?_;refine cd f (by exact ik) rfl rfl rfl rfl rfl aR fun P I4 w b C=>?_;have F:Sl cG I4 (.slice (some ⟨P,0,none⟩) 1 1) [z]:=⟨_,_,rfl,.inr ⟨P,0,_,rfl,bD C (by simp[aD,Value.cells]) (by simp[aD,Value.cells]),.one ⟨rfl,Q⟩⟩⟩;refine av ?_;refine dX (R:=cG) (xs:=o) (ys:=[z]) w (by exact ik) (it.le hO b) F (fun{I J c a} h k=>h) (fun{I} c a h=>cG.len (I:=I) c a h) (fun{I} c a h=>by rw[h.1];rfl) rfl rfl rfl rfl (by simp only[bf,bA];omega) (by simp only[bf,bA];unfold maxLen;omega) fun ua uc I5 A5 D v G=>?_;refine bW e1 e2 ?_;exact B (i+1,k,.slice ua (o++[z]).length uc) _ _ bC ae (by simp only[go_sem,ab,pm]) ⟨I5,A5,o++[z],K,rfl,D,Y u (Y b v),by simp only;omega,by simp only;omega,G,T,a9,ag,W⟩
   .have b1:k=lb:=by omega
    subst b1;have M:((k:Int) == (k:Int))=true:=ai;have Z:decide ((k:Int)<(k:Int))=false:=ai;refine aj A ?_;refine aV [0,1,2,3,4,5,6,7,8,9,10,11,12,13,14,15,16,17,18,19,20] [13,17] [] ?_;refine aM M ?_;apply an;refine av ?_;refine aV [0,1,2,3,4,5,6,7,8,9,10,11,12,13,14] [8,12] [] ?_;refine aM Z ?_;apply an;refine av ?_
    try refine⟨O,?_⟩
    refine Xb (l:=[.int .u32 z]) rfl (cellsU f (.head _) (by simpa using t)) (.inr ⟨dz,rfl⟩) ?_;refine av ?_;refine cd f (by exact ik) rfl rfl rfl rfl rfl aR fun P I4 w b C=>?_;have F:Sl cG I4 (.slice (some ⟨P,0,none⟩) 1 1) [z]:=⟨_,_,rfl,.inr ⟨P,0,_,rfl,bD C (by simp[aD,Value.cells]) (by simp[aD,Value.cells]),.one ⟨rfl,Q⟩⟩⟩;refine av ?_;refine dX (R:=cG) (xs:=o) (ys:=[z]) w (by exact ik) (it.le hO b) F (fun{I J c a} h k=>h) (fun{I} c a h=>cG.len (I:=I) c a h) (fun{I} c a h=>by rw[h.1];rfl) rfl rfl rfl rfl (by simp only[bf,bA];omega) (by simp only[bf,bA];unfold maxLen;omega) fun ua uc I5 A5 D v G=>?_;refine bW e1 e2 ?_;exact B (i+1,k,.slice ua (o++[z]).length uc) _ _ bC ae (by simp only[go_sem,ab,pm]) ⟨I5,A5,o++[z],K,rfl,D,Y u (Y b v),by simp only;omega,by simp only;omega,G,T,a9,ag,W⟩
 |false=>
  have U:q z=true:=by simpa[aq]using hz
  have V:(m.filter q).drop k=z::K.filter q:=by rw[L,gJ,ak U]
  obtain⟨hb,X,a3⟩:=sE V;rw[a0]at X;obtain⟨g2,off2,cs2,rfl,⟨rfl,Q⟩,d⟩:=Sl.load (fun{I} c a h=>cG.len (I:=I) c a h) (dh.le hB u) hb;have al:(m.filter p).drop i=K.filter p:=by rw[N,gJ,ad (by simp[aq])]
  have M:((k:Int) == (lb:Int))=false:=by simp;omega
  have bd:=Z5 k lb;rcases aB i la with a7|a7
  .obtain⟨y,hy,bx⟩:=later aq N O;obtain⟨g,off,cs,rfl,⟨rfl,_⟩,t⟩:=Sl.load (fun{I} c a h=>cG.len (I:=I) c a h) (dh.le hA u) hy;have A:=Z5 i la;have ap:decide ((y:Int)<=(z:Int))=false:=aS O;refine aj A ?_;refine aV [0,1,2,3,4,5,6,7,8,9,10,11,12,13,14,15,16,17,18,19,20] [13,17] [] ?_;refine eS M A ?_
   try refine⟨O,?_⟩
   refine Xc (l:=[.int .u32 y]) rfl (cellsU f (.head _) (by simpa using t)) (.inr ⟨dz,rfl⟩) ?_;refine aC ?_
   try refine⟨O,?_⟩
   refine Xc (l:=[.int .u32 z]) rfl (cellsU f (.head _) (by simpa using d)) (.inr ⟨dz,rfl⟩) ?_;refine aM ap ?_;apply an;refine av ?_
   try refine⟨O,?_⟩
   refine Xb (l:=[.int .u32 z]) rfl (cellsU f (.head _) (by simpa using d)) (.inr ⟨dz,rfl⟩) ?_;refine av ?_;refine cd f (by exact ik) rfl rfl rfl rfl rfl aR fun P I4 w b C=>?_;have F:Sl cG I4 (.slice (some ⟨P,0,none⟩) 1 1) [z]:=⟨_,_,rfl,.inr ⟨P,0,_,rfl,bD C (by simp[aD,Value.cells]) (by simp[aD,Value.cells]),.one ⟨rfl,Q⟩⟩⟩;refine av ?_;refine dX (R:=cG) (xs:=o) (ys:=[z]) w (by exact ik) (it.le hO b) F (fun{I J c a} h k=>h) (fun{I} c a h=>cG.len (I:=I) c a h) (fun{I} c a h=>by rw[h.1];rfl) rfl rfl rfl rfl (by simp only[bf,bA];omega) (by simp only[bf,bA];unfold maxLen;omega) fun ua uc I5 A5 D v G=>?_;refine bW e1 e2 ?_;exact B (i,k+1,.slice ua (o++[z]).length uc) _ _ bC ae (by simp only[go_sem,ab,pm]) ⟨I5,A5,o++[z],K,rfl,D,Y u (Y b v),by simp only;omega,by simp only;omega,G,T,al,a3,W⟩
  .have b2:i=la:=by omega
   subst b2;have A:decide ((i:Int)<(i:Int))=false:=ai;refine bW A bd ?_;refine aV [0,1,2,3,4,5,6,7,8,9,10,11,12,13,14,15,16,17,18,19,20] [13,17] [] ?_;refine eS M A ?_;apply an;refine av ?_
   try refine⟨O,?_⟩
   refine Xb (l:=[.int .u32 z]) rfl (cellsU f (.head _) (by simpa using d)) (.inr ⟨dz,rfl⟩) ?_;refine av ?_;refine cd f (by exact ik) rfl rfl rfl rfl rfl aR fun P I4 w b C=>?_;have F:Sl cG I4 (.slice (some ⟨P,0,none⟩) 1 1) [z]:=⟨_,_,rfl,.inr ⟨P,0,_,rfl,bD C (by simp[aD,Value.cells]) (by simp[aD,Value.cells]),.one ⟨rfl,Q⟩⟩⟩;refine av ?_;refine dX (R:=cG) (xs:=o) (ys:=[z]) w (by exact ik) (it.le hO b) F (fun{I J c a} h k=>h) (fun{I} c a h=>cG.len (I:=I) c a h) (fun{I} c a h=>by rw[h.1];rfl) rfl rfl rfl rfl (by simp only[bf,bA];omega) (by simp only[bf,bA];unfold maxLen;omega) fun ua uc I5 A5 D v G=>?_;refine bW e1 e2 ?_;exact B (i,k+1,.slice ua (o++[z]).length uc) _ _ bC ae (by simp only[go_sem,ab,pm]) ⟨I5,A5,o++[z],K,rfl,D,Y u (Y b v),by simp only;omega,by simp only;omega,G,T,al,a3,W⟩
end Go.Proofs.YtfaclfkpnmcmlaaGreatDoor
