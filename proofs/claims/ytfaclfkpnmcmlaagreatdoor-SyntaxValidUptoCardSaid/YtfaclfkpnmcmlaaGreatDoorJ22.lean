import Derived.Test.YtfaclfkpnmcmlaaGreatDoorJ08
import Derived.Test.YtfaclfkpnmcmlaaGreatDoorJ09
import Derived.Test.YtfaclfkpnmcmlaaGreatDoorJ15
import Derived.Test.YtfaclfkpnmcmlaaGreatDoorJ16
import Derived.Test.YtfaclfkpnmcmlaaGreatDoorJ19
import Derived.Test.YtfaclfkpnmcmlaaGreatDoorJ20
import Derived.Test.YtfaclfkpnmcmlaaGreatDoorJ21
set_option maxHeartbeats 8000000
set_option linter.all false
open Go.Proofs.Tryz hiding f8
namespace Go.Proofs.YtfaclfkpnmcmlaaGreatDoor
open Go Go.Sx Dg Syn
def Qx:ax prog 95:=⟨_,func95,rfl,rfl⟩
def Pv:ax prog 164:=⟨_,func164,rfl,rfl⟩
def Pw:ax prog 165:=⟨_,func165,rfl,rfl⟩
def HJ:ax prog 166:=⟨_,func166,rfl,rfl⟩
def PS:ax prog 234:=⟨_,func234,rfl,rfl⟩
variable{v:Value}{I A:PH}{size:Nat}{e:TypeId}
def Ow.elem{α:Type}{R:PH->List Value->α->Prop}{l:List α}(h:Ow R e size I A v l)(j:∀{I} c a,R I c a->c.length=size)(o:∀{I J c a},R I c a->I.le J->R J c a){i:Nat}{x:α}(hi:l[i]?=some x):
  ∃g cap cur c,v=.slice (some ⟨g,0,none⟩) l.length cap/\A=sg g (.cells cur e (0,0))/\l.length*size<=cur.size/\l.length<=cap/\R I c x/\c.length=size/\aX A g (i*size) c/\
   ∀J n y,I.le J->R J n y->Ow R e size J (sg g (.cells (bL cur.toList (i*size) n).toArray e (0,0))) v (l.set i y):=by
 have d:=(List.getElem?_eq_some_iff.1 hi).1;obtain⟨g,cap,cur,xs,ev,rfl,c1,c2,c3,c4,c5,f⟩:=h.open' O fun c a k=>j c a k;have t:l.length*size<=cap*size:=ch _ c1;have q:(i+1)*size<=l.length*size:=ch _ d;rw[ig,qJ]at q;have s:=f.get (fun c a k=>j c a k) hi;have b:=j _ _ s;have u:=pH (k:=0) (m:=size) (e:=e) (g:=g) (cur:=cur) (fun c a k=>j c a k) f d O c4 rfl O;refine⟨g,cap,cur,_,ev,rfl,O,c1,s,b,?_,?_⟩
 .simpa[b,n9]using u
 .intro J n y w r;have p:=j _ _ r;refine⟨bL xs (i*size+0) n,?_,?_⟩
  .rw[ev,lu];exact tj c5 c1 c2 c3 c4 O
  .refine qd (fun c a k=>j c a k) (f.mono fun _ _ h=>o h w) d rfl O ?_;have:bL ((xs.drop (i*size)).take size) 0 n=n:=by rw[nQ _ _ _ O];simp[b,p]
   rw[this];exact r
def FI:prog.underlying 34=some (.slice 80):=by obtain⟨i,z,h,_⟩:=mU;exact h
variable{l:List aG}
def N4(o:Sl bi I v l)(s:l.length<=ao):aT prog 165 #[v] I [] fun r p q=>∃A,q=[A]/\bj p A r l:=by
 intro hd;obtain⟨t,x,rfl,i⟩:=id o;unfold ao at s;refine aP 8 func165 fun w0=>?_;cases t with
 |none=>
  have j:l=[]:=by
   rcases i with h|⟨b,off,xs,e,_⟩
   .exact h
   .cases e
  subst j;refine ai ?_;refine tV rfl rfl (by exact FI) rfl rfl ?_;apply RG;simp only[go_sem,Option.isNone];refine dg hd fun d=>?_;exact az rfl d (r:=[_]) rfl (aC _) ⟨_,rfl,Ow.nil _ _ _ _⟩
 |some a=>refine ai ?_;refine tV rfl rfl (by exact FI) rfl rfl ?_;apply RG;simp only[go_sem,Option.isNone];refine sJ hd (by exact mU) rfl rfl rfl rfl rfl af fun b A d f=>?_;refine ai ?_;refine fT d (by exact mU) (xs:=([]:List aG)) (R:=bi) ⟨[],f,rfl⟩ o (fun{I J c a} h k=>bi.le h k) (fun{I} c a h=>bi.len c a h) (fun{I} c a h=>bi.ones h) rfl rfl rfl rfl (by simp only[bo];omega) (by simp only[bo];unfold maxLen;omega) fun w u p y m g n=>?_;apply RG;simp only[go_sem,aM];exact az rfl m (r:=[_]) rfl g ⟨_,rfl,n⟩
def JJ{H:PH}{c:List Value}{d:aG}(h:bi I c d):br prog 166 #[.agg c.toArray] H fun v H2=>v=.bool (decide (d.cond=ff))/\H2=H:=by
 obtain⟨a,k,rfl,hr⟩:=h;refine aP 6 func166 fun w0=>?_
 try simp only[sD,rD,E]
 refine cv ?_;refine X4 rfl iG (iE hr) ?_;rintro v H2⟨rfl,rfl⟩;refine ai ?_;exact aU (r:=[_]) rfl ⟨rfl,rfl⟩
def Ak(v vf:Value)(n i:Nat):St:=⟨dn 19 [(0,.v v),(1,.v vf),(6,.v v),(7,.v (E n)),(8,.v (E i))],[]⟩
def LU(l:List aG)(r:Value):Prop:=(∀d∈l,d.cond≠ff)/\r=.int .i64 (-1)\/∃i d,l[i]?=some d/\d.cond=ff/\(∀x∈l.take i,x.cond≠ff)/\r=E i
def Rg(t:bj I A v l)(y:l.length<=ao):aT prog 234 #[v,.func (.func 166) #[] #[]] I [A] fun r C w=>w=[A]/\C=I/\LU l r:=by
 intro hd;unfold ao at y;obtain⟨u,vc,rfl⟩:=t.shape;refine aP 19 func234 fun w0=>?_;refine ai ?_;refine bY (fun i=>l.length-i) (Ak (.slice u l.length vc) (.func (.func 166) #[] #[]) l.length) (fun i H=>H=U [I,A]/\i<=l.length/\∀x∈l.take i,x.cond≠ff) 0 ak (by simp only[go_sem,Y,Ak]) ?_ ?_
 .exact⟨rfl,aF _,fun x m=>by simp at m⟩
 rintro i H ⟨rfl,hi,o⟩ b;simp only[Ak];rcases aI i l.length with j|z
 .have s:=Z5 i l.length;have e1:=Z7 i;obtain⟨d,e⟩:∃d,l[i]?=some d:=⟨_,aZ j⟩;obtain⟨g,cap,cur,c,ev,rfl,c1,c2,B,q,f,_⟩:=t.elem (fun{I} c a h=>bi.len c a h) (fun{I J c a} h k=>bi.le h k) e;cases ev
  refine be s ?_;refine⟨O,?_⟩;refine X5 (l:=c) (v:=.agg c.toArray) rfl (by simpa using cellsU hd (.tail _ (.head _)) f) (.inl ⟨by rw[q];exact gA,rfl⟩) ?_;refine bF ?_;refine X4 rfl HJ (JJ B) ?_;rintro v H2⟨rfl,rfl⟩;cases hb:decide (d.cond=ff)
  .refine be e1 ?_;have p:d.cond≠ff:=Cg hb;exact b (i+1) _ _ O ak (by simp only[go_sem,Y,Ak]) ⟨rfl,j,fun x m=>by
    rw[ji e]at m;rcases List.mem_append.1 m with h|h
    .exact o x h
    .rw[List.mem_singleton.1 h];exact p⟩
  .refine bF ?_;exact az rfl hd (r:=[E i]) rfl (aC _) ⟨rfl,rfl,.inr ⟨i,d,e,ng hb,o,rfl⟩⟩
 .have:i=l.length:=by omega
  subst this;have s:decide (((l.length:Nat):Int)<(l.length:Int))=false:=by simp
  rw[dO]at o;refine be s ?_;exact az rfl hd (r:=[.int .i64 (-1)]) rfl (aC _) ⟨rfl,rfl,.inl ⟨o,rfl⟩⟩
def lU(l:List aG):List aG:=l.filter fun d=>decide (d.cond≠ff)
def Em(a b:List aG):lU (a++b)=lU a++lU b:=List.filter_append ..
def Je(h:∀d∈l,d.cond≠ff):lU l=l:=List.filter_eq_self.2 fun d hd=>bl (h d hd)
def wT(v vf:Value)(i j:Nat):St:=⟨dn 42 [(0,.v v),(1,.v vf),(5,.v (E i)),(6,.v (E j))],[]⟩
def Ow.short{α:Type}{R:PH->List Value->α->Prop}{g cap:Nat}{cur:Array Value}{l:List α}{ys:List Value}{i n:Nat}(h:Ow R e size I (sg g (.cells cur e (0,0))) (.slice (some ⟨g,0,none⟩) n cap) l)(r:∀{I} c a,R I c a->c.length=size)(m:l.length=n)(u:0<n)(hi:i<=n)(x:ys.length=(n-i)*size):
  Ow R e size I (sg g (.cells (bL cur.toList (i*size) ys).toArray e (0,0))) (.slice (some ⟨g,0,none⟩) i cap) (l.take i):=by
 subst m;obtain⟨g',s,b,xs,ev,w,c1,c2,c3,c4,c5,j⟩:=h.open' u fun c a k=>r c a k;cases ev
 have v:(.cells cur e (0,0):Obj)=.cells b e (0,0):=by have:=congrFun w g;simp only[sg,co,a8]at this;exact this
 cases v
 have t:l.length*size<=cap*size:=ch _ c1;have o:i*size<=l.length*size:=ch _ hi;have f:=(LR.split (fun c a k=>r c a k) i j).1;have q:i*size+(l.length-i)*size=l.length*size:=by rw[<-ig];congr 1;omega
 have d:(xs.take (i*size)).length=i*size:=by rw[lw,c5];omega
 have p:(bL cur.toList (i*size) ys).toArray.size=cap*size:=by simp[eC,c3]
 refine⟨xs.take (i*size),?_,f⟩;rw[lw,ju hi];refine dE.of_sg d O c2 p ?_;show (bL cur.toList (i*size) ys).take (i*size)=_;rw[nQ _ _ _ (by simp only[n8];omega),<-c4];rw[cq,List.take_left' (by simp only[lw,n8];omega),n9,ju o]
theorem Oq(R:bj I A v l)(hl:l.length<=ao):aT prog 164 #[v,.func (.func 166) #[] #[]] I [A] fun r G qs=>∃A2,qs=[A2]/\G=I/\bj I A2 r (lU l):=by
 intro hd;have an:=hl;unfold ao at an;obtain⟨va,vc,rfl⟩:=R.shape;refine aP 42 func164 fun w0=>?_;refine ai ?_;refine au hd [0] [A] [] rfl PS rfl (Rg R hl) ?_;rintro v G qs z am⟨rfl,rfl,X⟩;simp only[Z3]at z |-;rcases X with ⟨Z,rfl⟩|⟨i0,d0,P,ap,Z,rfl⟩
 .refine ai ?_;exact az rfl z (r:=[_]) rfl (aC _) ⟨A,rfl,rfl,by rw[Je Z];exact R⟩
 have L:=(List.getElem?_eq_some_iff.1 P).1;have q1:((i0:Int) == -1)=false:=by rw[iU];omega
 have e1:=Z7 i0;obtain⟨o,rfl⟩:∃o,va=some ⟨o,0,none⟩:=by obtain⟨g,cap,cur,xs,ev,_⟩:=R.open' O fun c a k=>bi.len c a k;simp only[Value.slice.injEq]at ev;exact⟨g,ev.1⟩
 refine dW q1 e1 ?_;refine bY (fun x=>l.length-x.2) (fun x=>wT (.slice (some ⟨o,0,none⟩) l.length vc) (.func (.func 166) #[] #[]) x.1 x.2) (fun(x:Nat×Nat) H=>∃B m,H=U [G,B]/\Dj [G,B]/\m.length=l.length/\bj G B (.slice (some ⟨o,0,none⟩) l.length vc) m/\x.1<x.2/\x.2<=l.length/\m.take x.1=lU (l.take x.2)/\m.drop x.2=l.drop x.2) (i0,i0+1) ak (by simp only[go_sem,Y,wT]) ?_ ?_
 .refine⟨A,l,rfl,z,rfl,R,eO _,L,?_,rfl⟩;simp only;rw[ji P,Em,Je Z];simp[lU,ap]
 rintro⟨i,j⟩ H ⟨B,m,rfl,f,s,Q,N,hj,ht,e⟩ b;simp only at N hj ht e;simp only[wT];rcases aI j l.length with t|a2
 .have F:=Z5 j l.length;have w1:=Z7 j;have w2:=Z7 i;obtain⟨d,u⟩:∃d,l[j]?=some d:=⟨_,aZ t⟩;have ac:m[j]?=some d:=by have:=congrArg (fun x:List aG=>x[0]?) e;simpa[u]using this
  obtain⟨g,cap,cur,c,ev,rfl,c1,c2,hc,a5,C,aa⟩:=Q.elem (fun{I} c a h=>bi.len c a h) (fun{I J c a} h k=>bi.le h k) ac;simp only[Value.slice.injEq,a8,Addr.mk.injEq,dV]at ev;obtain⟨eg,_,ek⟩:=ev;subst eg;subst ek;obtain⟨ca,ck,rfl,a4⟩:=id hc;refine be F ?_;refine⟨O,?_⟩;refine X5 (l:=[.int .u8 d.code,.int .i64 d.tok,sD ca ck d.cond,rD d.cond]) (v:=.agg #[.int .u8 d.code,.int .i64 d.tok,sD ca ck d.cond,rD d.cond]) rfl (by simpa using cellsU f (.tail _ (.head _)) C) (.inl ⟨gA,rfl⟩) ?_;refine cv ?_;refine X4 rfl HJ (JJ hc) ?_;rintro v H2⟨rfl,rfl⟩;cases hb:decide (d.cond=ff)
  .have q:d.cond≠ff:=Cg hb;refine cv ?_;refine⟨O,?_⟩;have mi:(i+1)*4<=m.length*4:=ch _ O;refine kK f rfl rfl rfl rfl rfl (by exact o4) (by simp;omega) fun w=>?_;refine dW w1 w2 ?_;have hi:i<m.length:=by omega
   obtain⟨y,hy⟩:∃y,m[i]?=some y:=⟨_,aZ hi⟩;obtain⟨g',cap',T,c',S,eA,_,_,_,_,_,p⟩:=Q.elem (fun{I} c a h=>bi.len c a h) (fun{I J c a} h k=>bi.le h k) hy;simp only[Value.slice.injEq,a8,Addr.mk.injEq,dV]at S;obtain⟨eg',_,ek'⟩:=S;subst eg';have ec:cur=T:=by have:=congrFun eA o;simp only[sg,co,a8,Obj.cells.injEq,dV,eW]at this;exact this
   subst ec;have aq:=p G [.int .u8 d.code,.int .i64 d.tok,sD ca ck d.cond,rD d.cond] d (aC _) hc;refine b (i+1,j+1) _ _ bh ak (by simp only[go_sem,Y,wT]) ⟨_,m.set i d,rfl,w,by rw[lu];exact s,aq,by simp only;omega,t,?_,?_⟩
   .simp only;rw[ji u,Em,<-ht];have:(m.set i d)[i]?=some d:=List.getElem?_set_self hi;rw[ji this,List.take_set_of_le (aR i)];simp[lU,q]
   .simp only;rw[List.drop_set_of_lt O];rw[<-lr (i:=1) (j:=j),<-lr (i:=1) (j:=j),e]
  .have q:d.cond=ff:=ng hb;refine dP w1 ?_;refine b (i,j+1) _ _ bh ak (by simp only[go_sem,Y,wT]) ⟨_,m,rfl,f,s,Q,by simp only;omega,t,?_,?_⟩
   .simp only;rw[ji u,Em,<-ht];simp[lU,q]
   .simp only;rw[<-lr (i:=1) (j:=j),<-lr (i:=1) (j:=j),e]
 .have:j=l.length:=by omega
  subst this;have F:decide (((l.length:Nat):Int)<(l.length:Int))=false:=by simp
  rw[dO]at ht;have aS:=Q;obtain⟨g,cap,cur,xs,ev,rfl,c1,c2,c3,c4,c5,a0⟩:=Q.open' O fun c a k=>bi.len c a k;simp only[Value.slice.injEq,a8,Addr.mk.injEq,dV]at ev;obtain⟨eg,_,ek⟩:=ev;subst eg;subst ek;have a3:l.length*4<=vc*4:=ch _ O;have a1:i*4+(l.length-i)*4=l.length*4:=by rw[<-ig];congr 1;omega
  have W:fV (some ⟨o,0,none⟩) 4 i vc=some ⟨o,i*4,none⟩:=by
   have:¬vc=i:=by omega
   simp[fV,this,Addr.add];intro h;omega
  have K:fV (some ⟨o,0,none⟩) 4 0 vc=some ⟨o,0,none⟩:=by simp[fV,Addr.add]
  refine dW F W ?_;refine⟨O,?_⟩;refine L3 (off:=i*4) f (by exact FI) (by exact LM) (size:=4) rfl rfl rfl rfl (by rfl) O fun ys V w=>?_;refine be K ?_;refine⟨O,?_⟩;refine be K ?_;have hS:=aS.short (fun{I} c a h=>bi.len c a h) s O (lC N) V;rw[ht]at hS;exact az rfl w (r:=[_]) rfl (aC _) ⟨_,rfl,rfl,hS⟩
def Ql:ax prog 36:=⟨_,func36,rfl,rfl⟩
def Qw:ax prog 88:=⟨_,func88,rfl,rfl⟩
def HH:ax prog 159:=⟨_,func159,rfl,rfl⟩
def Qv:ax prog 87:=⟨_,func87,rfl,rfl⟩
def Qj:ax prog 33:=⟨_,func33,rfl,rfl⟩
def xp(a:Option Addr)(k:Nat)(t:T)(c:Nat)(u:T):St:=⟨dn 29 [(1,.v (.int .u32 c)),(2,.p 2 0),(5,.v (E (T.plc (T.subs t) u)))],[⟨2,50,[sD a k t,rD t]⟩]⟩
theorem Q3{H:PH}{t:T}{c:Nat}(h:bU H v t)(I:c<2^32):br prog 36 #[v,.int .u32 c] H fun r H2=>r=.bool (t.at' (f8 c))/\H2=H:=by
 obtain⟨g,sl,rfl,J⟩:=h;obtain⟨a,k,rfl,j⟩:=J;have sq:T.Seq (T.subs t):=(T.vis_spec t g O [] T.Seq.nil).1;have y:(T.subs t).length+1<=2^24:=by obtain⟨us,e1,e2,_⟩:=(T.vis_spec t g O [] T.Seq.nil).2.2;rw[aM]at e1;show (t.vis []).length+1<=_;rw[e1];exact e2
 have o:T.isIn (T.subs t) t:=T.subs_in g;refine aP 29 func36 fun w0=>?_
 try simp only[E]
 refine ai ?_;refine bY (fun u=>u.sz) (xp a k t c) (fun u H2=>H2=H/\T.isIn (T.subs t) u/\u.at' (f8 c)=t.at' (f8 c)) t ak (by simp only[go_sem,Y,xp,E,sD,rD]) ⟨rfl,o,rfl⟩ ?_;rintro u H2 ⟨rfl,x,p⟩ e;simp only[xp];cases u with
 |lf b=>
  have m:decide (((T.plc (T.subs t) (.lf b):Nat):Int)>1)=false:=by cases b<;>simp[T.plc]
  have s:(((T.plc (T.subs t) (.lf b):Nat):Int) == 1)=b:=by cases b<;>simp[T.plc]
  refine dW m s ?_;exact aU (r:=[_]) rfl ⟨by rw[<-p];rfl,rfl⟩
 |nd i l r=>
  have hm:T.nd i l r∈T.subs t:=x;have G:=tK hm;have hp:T.plc (T.subs t) (.nd i l r)=(T.subs t).idxOf (.nd i l r)+2:=rfl;have m:decide (((T.plc (T.subs t) (.nd i l r):Nat):Int)>1)=true:=by rw[hp];simp;omega
  have w:IntKind.i64.wrap (((T.plc (T.subs t) (.nd i l r):Nat):Int)-2)=(((T.subs t).idxOf (.nd i l r):Nat):Int):=by rw[<-wrap64 (n:=(T.subs t).idxOf (.nd i l r)) O,hp];congr 1;omega
  obtain⟨C,B⟩:=sq.kids hm;have z:i<24:=(sq.okk x).2.1;have q:T.dec (T.subs t) (.nd i l r)=(i,T.plc (T.subs t) l,T.plc (T.subs t) r):=rfl;rcases j with h0|⟨b,rfl,j⟩
  .rw[h0]at hm;simp at hm
  apply RG;simp only[go_sem,E,sD,rD,m,w];refine⟨O,?_⟩;have A:=T.plc_get hm;rw[hp,tM]at A;have F:(ln (T.subs t)).length=(T.subs t).length*3:=yH _;have f:=j.sub ((T.subs t).idxOf (.nd i l r)*3) 3 O;rw[yG A,ii,q]at f;refine X5 (l:=i8 (i,T.plc (T.subs t) l,T.plc (T.subs t) r)) (v:=ew (i,T.plc (T.subs t) l,T.plc (T.subs t) r)) rfl f (.inl ⟨sO,rfl⟩) ?_;have hs:mz .u32 (l8 .u32 (c:Int) (i:Int)) 1=((((c >>> i)&&&1:Nat)):Int):=by rw[Bv O];exact lM (b:=1) (Bw I) O
  have d:=CS c i;cases hb:c.testBit i
  .rw[hb]at d;apply RG;simp only[go_sem,E,sD,rD,ew,gH,hs,d];refine e l _ _ ?_ ak (by simp only[go_sem,Y,xp,E,sD,rD]) ⟨rfl,C,?_⟩
   .simp only[T.sz];omega
   .rw[<-p];simp[T.at',f8,hb]
  .rw[hb]at d;apply RG;simp only[go_sem,E,sD,rD,ew,gH,hs,d];refine e r _ _ ?_ ak (by simp only[go_sem,Y,xp,E,sD,rD]) ⟨rfl,B,?_⟩
   .simp only[T.sz];omega
   .rw[<-p];simp[T.at',f8,hb]
def sA(e:PH)(vf:Value)(g:T->T):Prop:=∃a first cap,vf=.func (.func a) first cap/\ax prog a/\∀{I:PH} {v:Value} {d:T},e.le I->bU I v d->aT prog a (first++#[v]++cap) I [] fun r c b=>b=[]/\bU c r (g d)
variable{g:T->T}{J:PH}
def sA.le{vf:Value}(h:sA I vf g)(k:I.le J):sA J vf g:=by obtain⟨a,first,cap,e,c,hd⟩:=h;exact⟨a,first,cap,e,c,fun b hr=>hd (D k b) hr⟩
def ny(c:Nat)(d:T):T:=.lf (d.at' (f8 c))
def EP(I:PH):bU I (.agg #[.slice none 0 0,E 1]) (.lf true):=oV I true
def x5(I:PH):bU I (.agg #[.slice none 0 0,E 0]) (.lf false):=oV I false
def UY{I0:PH}{cb c:Nat}(hb:aX I0 cb 0 [.int .u32 c])(f:c<2^32):sA I0 (.func (.func 88) #[] #[pt cb]) (ny c):=by
 refine⟨88,#[],#[pt cb],rfl,Qw,fun{I v d} e hr hd=>?_⟩;obtain⟨a,k,rfl⟩:=hr.shape2;show br prog 88 #[.agg #[sD a k d,rD d],pt cb] _ _;refine aP 9 func88 fun w0=>?_
 try simp only[E,pt,sD,rD]
 refine ai ?_;refine X5 (l:=[.int .u32 c]) rfl (cellsU hd (.head _) (hb.le e)) (.inr ⟨my,rfl⟩) ?_;refine ai ?_;refine X4 rfl Ql (Q3 (hr.le (iH hd)) f) ?_;rintro v H2⟨rfl,rfl⟩;cases b:d.at' (f8 c)
 .refine ai ?_;refine X4 rfl sZ (sW _) ?_;rintro v H2⟨rfl,rfl⟩;refine bF ?_;exact az rfl hd (r:=[.agg #[.slice none 0 0,.int .i64 0]]) (by simp only[results88,go_sem,E]) (aC _) ⟨rfl,by unfold ny;rw[b];exact x5 I⟩
 .refine ai ?_;refine X4 rfl xh (yF _) ?_;rintro v H2⟨rfl,rfl⟩;refine bF ?_;exact az rfl hd (r:=[.agg #[.slice none 0 0,.int .i64 1]]) (by simp only[results88,go_sem,E]) (aC _) ⟨rfl,by unfold ny;rw[b];exact EP I⟩
structure wh(g:T->T)(F:List M->List M):Prop where
 nil:F []=[]
 app:∀a b,F (a++b)=F a++F b
 one:∀n:M,F [n]=if g n.cond=ff then []else [{ n with kids:=F n.kids,cond:=g n.cond }]
variable{F:List M->List M}
def wh.take_le(h:wh g F)(i:Nat)(l:List M):aO (F (l.take i))<=aO (F l):=by
 conv=>rhs;rw[<-tL i l]
 rw[h.app,lm];omega
def NW(c:Nat):wh (ny c) (pL (f8 c)):=by refine⟨rfl,gQ _,fun n=>?_⟩;rw[iu];unfold ny;cases n.cond.at' (f8 c)<;>simp
def wR(vf vl:Value)(n:Nat)(x:Nat×Value):St:=⟨dn 34 [(1,.v vf),(5,.v x.2),(8,.v vl),(9,.v (E n)),(10,.v (E x.1))],[]⟩
def NX(F:List M->List M)(l:List M)(a:PH)(x:Nat×Value)(H:PH):Prop:=∃I A,H=U [I,A]/\Dj [I,A]/\a.le I/\x.1<=l.length/\ar I A x.2 (F (l.take x.1))
theorem NY(t:wh g F):∀(m:Nat) {I:PH} {v vf:Value} {l:List M},aO l<m->bu I v l->kH v->sA I vf g->aO (F l)<=ao->
  aT prog 159 #[v,vf] I [] fun r I2 qs=>∃A,qs=[A]/\ar I2 A r (F l):=by
 intro m
 induction m with
 |zero=>intro I v vf l hm;omega
 |succ m ih=>
 intro I v vf l hm hS hC hG hz hd;obtain⟨va,vc,rfl,_⟩:=id hS;obtain⟨fid,first,cap,rfl,am,ap⟩:=id hG;unfold ao at hz;refine aP 34 func159 fun w0=>?_
 try simp only[E]
 refine ai ?_;refine dg hd fun a0=>?_;refine bY (fun x=>l.length-x.1) (wR (.func (.func fid) first cap) (.slice va l.length vc) l.length) (NX F l I) (0,.slice none 0 0) ak (by simp only[go_sem,Y,wR]) ?_ ?_
 .exact⟨I,PH.no,rfl,a0,aC _,aF _,by rw[lB,t.nil];exact Ow.nil _ _ _ _⟩
 rintro⟨i,vo⟩ H ⟨I1,Z,rfl,C,e,hi,N⟩ f;simp only at hi N;simp only[wR];obtain⟨oa,oc,rfl⟩:=N.shape;rcases aI i l.length with o|ba
 .have L:decide ((i:Int)<(l.length:Int))=true:=by simp;omega
  have X:=n7 hC o;obtain⟨n,R⟩:∃n,l[i]?=some n:=⟨_,aZ o⟩;obtain⟨b,off,cs,rfl,a1,G⟩:=Sl.load ae.len (bu.le hS e) R;obtain⟨vk,na,nk,rfl,P,j,W⟩:=a1.shape;obtain⟨ka,kc,rfl,_⟩:=id j;have a7:=vK (cY R);have w:=t.take_le (i+1) l;rw[ji R,t.app,lm]at w;have a9:=nX (F (l.take i));refine dP L ?_;refine⟨O,?_⟩;refine X5 (l:=[.int .u8 n.kind,.string ⟨⟨n.text⟩⟩,.int .i64 n.tok,.int .i64 n.slot,.slice ka n.kids.length kc,sD na nk n.cond,rD n.cond]) (v:=.agg #[.int .u8 n.kind,.string ⟨⟨n.text⟩⟩,.int .i64 n.tok,.int .i64 n.slot,.slice ka n.kids.length kc,sD na nk n.cond,rD n.cond]) rfl (cellsU C (.head _) G) (.inl ⟨b9,rfl⟩) ?_;refine cv ?_;refine au C [0] [] [Z] rfl am rfl (ap e P) ?_;rintro v I3 qs B d⟨rfl,y⟩;obtain⟨za,zk,rfl⟩:=y.shape2;simp only[Z3]at B |-;refine cv ?_;refine X4 rfl iG (iE y) ?_;rintro v H2⟨rfl,rfl⟩;cases p:decide (g n.cond=.lf false)
  .have Q:g n.cond≠ff:=by simpa using p
   rw[t.one,ab Q,dl,gG]at w;simp only at w;apply RG;simp only[go_sem,E,sD,rD,p,ds];refine au B [0] [] [Z] rfl HH rfl (ih (l:=n.kids) O (bu.le j d) W (sA.le hG (D e d)) (by unfold ao;omega)) ?_;rintro v I4 qs V U⟨K,rfl,hK⟩;simp only[Z3]at V |-;obtain⟨qa,qc,rfl⟩:=hK.shape;have a4:=hK.capN ae.len;refine aj V [0,1] fun z=>?_;refine aH z fun I5 z s a5=>?_;have a3:bu I5 (.slice qa (F n.kids).length qc) (F n.kids):=ar.sl hK s a5;refine cv ?_;refine cH z (by exact df) rfl rfl rfl rfl rfl af fun nb I6 aS q ac=>?_;have u:=D U (D s q);have a2:bu I6 (.slice (some ⟨nb,0,none⟩) 1 1) [{ n with kids:=F n.kids,cond:=g n.cond }]:=nV (bz ac (by simp[av,Value.cells]) (by simp[av,Value.cells,E,sD,rD])) (ae.mk (n:={ n with kids:=F n.kids,cond:=g n.cond }) (y.le u) (bu.le a3 q) a4);refine cv ?_;refine fT aS (by exact df) (ar.le N (D d u)) (a2) (fun{I J c a} h k=>ae.le h k) (fun{I} c a h=>ae.len c a h) (fun{I} c a h=>ae.ones h) rfl rfl rfl rfl (by first|omega|(simp only[bm,bo];omega)) (by unfold maxLen;first|omega|(simp only[bm,bo];omega)) fun ua uc I7 A7 aq S a6=>?_;refine dP X ?_;have aa:=D e (D d (D u S));exact f (i+1,.slice ua (F (l.take i)++[{ n with kids:=F n.kids,cond:=g n.cond }]).length uc) _ _ bh tq (by simp only[go_sem,Y,wR,E,sD,rD]) ⟨I7,A7,rfl,aq,aa,o,by simp only;rw[ji R,t.app,t.one,ab Q];exact a6⟩
  .have an:g n.cond=ff:=by simpa using p
   apply RG;simp only[go_sem,E,sD,rD,p,cP,X];exact f (i+1,.slice oa (F (l.take i)).length oc) _ _ bh tq (by simp only[go_sem,Y,wR,E,sD,rD]) ⟨I3,Z,rfl,B,D e d,o,by simp only;rw[ji R,t.app,t.one,ag an,Y];exact ar.le N d⟩
 .have:i=l.length:=by omega
  subst this;have L:decide (((l.length:Nat):Int)<(l.length:Int))=false:=by simp
  refine dP L ?_;exact az rfl C (r:=[_]) rfl e ⟨Z,rfl,by rw[dO]at N |-;exact N⟩
def j6(I:PH)(v:Value)(t:Tr):Prop:=∃a b,v=.agg #[a,b]/\bu I a t.kids/\kH a/\Sl bi I b t.diags/\kH b
def SlE.le(h:Sl bi I v l)(k:I.le J):Sl bi J v l:=Sl.le (R:=bi) (fun{I J c a} h k=>bi.le h k) h k
variable{t:Tr}
def j6.le(h:j6 I v t)(k:I.le J):j6 J v t:=by obtain⟨a,b,e,h1,h2,h3,h4⟩:=h;exact⟨a,b,e,bu.le h1 k,h2,SlE.le h3 k,h4⟩
def i6(g:T->T)(e:List aG):List aG:=e.flatMap fun d=>if g d.cond=ff then []else [{ d with cond:=g d.cond }]
def NU(g:T->T)(a b:List aG):i6 g (a++b)=i6 g a++i6 g b:=by simp[i6]
def GV(g:T->T):∀e,(i6 g e).length<=e.length
 | []=>aR _
 |d::e=>by have:=GV g e;have h:i6 g (d::e)=(if g d.cond=ff then []else [{ d with cond:=g d.cond }])++i6 g e:=rfl;rw[h];split<;>simp<;>omega
def NV(c:Nat)(e:List aG):i6 (ny c) e=jD (f8 c) e:=by
 induction e with
 |nil=>rfl
 |cons d e a=>have h:i6 (ny c) (d::e)=(if ny c d.cond=ff then []else [{ d with cond:=ny c d.cond }])++i6 (ny c) e:=rfl;rw[h,a];unfold jD ny;cases hd:d.cond.at' (f8 c)<;>simp[hZ,hd]
def bj.sl(h:bj I A v l)(h1:I.le J)(h2:A.le J):Sl bi J v l:=Ow.sl (R:=bi) (fun{I J c a} h k=>bi.le h k) h h1 h2
def xM(vf b c a vl:Value)(n:Nat)(x:Nat×Value):St:=⟨dn 37 [(1,.v vf),(4,.p 4 0),(5,.p 5 0),(14,.v vl),(15,.v (E n)),(16,.v (E x.1))],[⟨4,36,[.slice none 0 0,.slice none 0 0]⟩,⟨5,36,[a,x.2]⟩]⟩
def Up(g:T->T)(l:List aG)(a:PH)(x:Nat×Value)(H:PH):Prop:=∃I A,H=U [I,A]/\Dj [I,A]/\a.le I/\x.1<=l.length/\bj I A x.2 (i6 g (l.take x.1))
theorem Ur(hF:wh g F){vf:Value}(hT:j6 I v t)(hG:sA I vf g)(hz:aO (F t.kids)<=ao)(ac:t.diags.length<=ao):
  aT prog 87 #[v,vf] I [] fun r X Z=>Z=[]/\j6 X r ⟨F t.kids,i6 g t.diags⟩:=by
 obtain⟨vk,vd,rfl,hK,a9,hD,bb⟩:=hT;obtain⟨fid,first,cap,rfl,aq,a0⟩:=id hG;obtain⟨ka,kc,rfl,_⟩:=id hK;obtain⟨da,dc,rfl,_⟩:=id hD;have N:=ac;unfold ao at N;intro hd;refine aP 37 func87 fun w0=>?_
 try simp only[E]
 refine ai ?_;refine fF hd rfl HH (NY hF (aO t.kids+1) (eO _) hK a9 hG hz) ?_;rintro v1 I1 Z a4 S⟨K,rfl,C⟩;obtain⟨qa,qc,rfl⟩:=C.shape;have V:=C.capN ae.len;refine aj a4 [0] fun A=>?_;refine aH A fun X A u a7=>?_;have ba:bu X (.slice qa (F t.kids).length qc) (F t.kids):=ar.sl C u a7;have w:=D S u;refine ai ?_;refine dg A fun a3=>?_;refine bY (fun x=>t.diags.length-x.1) (xM (.func (.func fid) first cap) (.slice ka t.kids.length kc) (.slice da t.diags.length dc) (.slice qa (F t.kids).length qc) (.slice da t.diags.length dc) t.diags.length) (Up g t.diags X) (0,.slice none 0 0) ak (by simp only[go_sem,Y,xM]) ?_ ?_
 .exact⟨X,PH.no,rfl,a3,aC _,aF _,Ow.nil _ _ _ _⟩
 rintro⟨i,vo⟩ H ⟨I3,A3,rfl,z,e,hi,G⟩ n;simp only at hi G;simp only[xM];obtain⟨oa,oc,rfl⟩:=G.shape;rcases aI i t.diags.length with q|b0
 .have L:decide ((i:Int)<(t.diags.length:Int))=true:=by simp;omega
  have W:=n7 bb q;obtain⟨d,U⟩:∃d,t.diags[i]?=some d:=⟨_,aZ q⟩;obtain⟨b,off,cs,rfl,a5,B⟩:=Sl.load bi.len (SlE.le hD (D w e)) U;obtain⟨na,nk,rfl,P⟩:=id a5;have am:=GV g (t.diags.take i);rw[lw]at am;have j:i6 g (t.diags.take (i+1))=i6 g (t.diags.take i)++(if g d.cond=ff then []else [{ d with cond:=g d.cond }]):=by rw[ji U,NU];simp[i6]
  refine dP L ?_;refine⟨O,?_⟩;refine X5 (l:=[.int .u8 d.code,.int .i64 d.tok,sD na nk d.cond,rD d.cond]) (v:=.agg #[.int .u8 d.code,.int .i64 d.tok,sD na nk d.cond,rD d.cond]) rfl (cellsU z (.head _) B) (.inl ⟨gA,rfl⟩) ?_;refine cv ?_;refine au z [0] [] [A3] rfl aq rfl (a0 (D w e) P) ?_;rintro v I4 Z f m⟨rfl,y⟩;obtain⟨za,zk,rfl⟩:=y.shape2;simp only[Z3]at f |-;refine cv ?_;refine X4 rfl iG (iE y) ?_;rintro v H2⟨rfl,rfl⟩;cases s:decide (g d.cond=.lf false)
  .have an:g d.cond≠ff:=by simpa using s
   rw[ab an]at j;apply RG;simp only[go_sem,E,sD,rD,s,ds];refine cH f (by exact mU) rfl rfl rfl rfl rfl af fun nb I6 a2 o ap=>?_;have a6:Sl bi I6 (.slice (some ⟨nb,0,none⟩) 1 1) [{ d with cond:=g d.cond }]:=⟨_,_,rfl,.inr ⟨nb,0,_,rfl,bz ap (by simp[av,Value.cells]) (by simp[av,Value.cells,E,sD,rD]),.one ⟨za,zk,rfl,y.le o⟩⟩⟩;refine cv ?_;refine fT (R:=bi) (xs:=i6 g (t.diags.take i)) (ys:=[{ d with cond:=g d.cond }]) a2 (by exact mU) (bj.le G (D m o)) a6 (fun{I J c a} h k=>bi.le h k) (fun{I} c a h=>bi.len c a h) (fun{I} c a h=>bi.ones h) rfl rfl rfl rfl (by simp only[bm,bo];omega) (by simp only[bm,bo];unfold maxLen;omega) fun ua uc I7 A7 a1 Q bx=>?_;refine dP W ?_;have aa:=D m (D o Q);exact n (i+1,.slice ua (i6 g (t.diags.take i)++[{ d with cond:=g d.cond }]).length uc) _ _ bh tq (by simp only[go_sem,Y,xM,E,sD,rD]) ⟨I7,A7,rfl,a1,D e aa,q,by simp only;rw[j];exact bx⟩
  .have aS:g d.cond=ff:=by simpa using s
   rw[ag aS,Y]at j;apply RG;simp only[go_sem,E,sD,rD,s,cP,W];exact n (i+1,.slice oa (i6 g (t.diags.take i)).length oc) _ _ bh tq (by simp only[go_sem,Y,xM,E,sD,rD]) ⟨I4,A3,rfl,f,D e m,q,by simp only;rw[j];exact bj.le G m⟩
 .have:i=t.diags.length:=by omega
  subst this;have L:decide (((t.diags.length:Nat):Int)<(t.diags.length:Int))=false:=by simp
  rw[dO]at G |-;have bs:=Ow.capN (R:=bi) G (fun c a h=>bi.len c a h);refine aj z [0] fun f=>?_;refine aH (c:=.st _) f fun I5 f p bc=>?_;refine dP L ?_;exact az rfl f (r:=[.agg #[.slice qa (F t.kids).length qc,.slice oa (i6 g t.diags).length oc]]) (by simp only[results87,go_sem,E]) (D w (D e p)) ⟨rfl,_,_,rfl,bu.le ba (D e p),V,bj.sl G p bc,bs⟩
def UZ{c:Nat}(l:j6 I v t)(u:c<2^32)(q:aO t.kids<=ao)(d:t.diags.length<=ao):aT prog 33 #[v,.int .u32 c] I [] fun r j k=>k=[]/\j6 j r (prj (f8 c) t):=by
 obtain⟨A,B,rfl,F,w,G,x⟩:=id l;intro hd;refine aP 8 func33 fun w0=>?_
 try simp only[E]
 apply cD 6;simp only[go_sem];refine jL 3 hd rfl fun i g=>?_;refine aH (c:=.st _) g fun j f a h=>?_;have hb:aX j i 0 [.int .u32 c]:=(dt (by simp) rfl:aX (sg i (.cells [.int .u32 c].toArray 23 (0,0))) i 0 [.int .u32 c]).le h;apply RG;simp only[go_sem,iN,List.map,pt];refine fF f rfl Qv (Ur (NW c) (l.le a) (UY hb u) (fD (BI _ _) q) d) ?_;rintro C H k e b⟨rfl,hr⟩;obtain⟨y,z,rfl,h1,h2,h3,h4⟩:=hr;rw[NV]at h3;obtain⟨p,o,rfl,_⟩:=id h1;obtain⟨n,m,rfl,_⟩:=id h3;refine ai ?_;exact az rfl e (r:=[.agg #[.slice p (pL (f8 c) t.kids).length o,.slice n (jD (f8 c) t.diags).length m]]) (by simp only[results33,go_sem]) (D a b) ⟨rfl,_,_,rfl,h1,h2,h3,h4⟩
end Go.Proofs.YtfaclfkpnmcmlaaGreatDoor
namespace Syn
open Dg
def nL(o:List aG)(d:aG):List aG:=
 match o.getLast? with
 |some x=>if x.key=d.key then o.dropLast++[{ x with cond:=x.cond.or d.cond }]else o++[d]
 |none=>[d]
structure lE(p o:List aG):Prop where
 so:o.Pairwise fun a b=>gD a.key b.key=true
 ks:∀k,k∈o.map aG.key<->k∈p.map aG.key
 ok:∀x∈o,x.cond.ok 0
 at':∀x∈o,∀c,x.cond.at' c=true<->∃d∈p,d.key=x.key/\d.cond.at' c=true
def lE.nil:lE [] []:=⟨List.Pairwise.nil,fun k=>Iff.rfl,fun x h=>by simp at h,fun x h=>by simp at h⟩
theorem lE.put{p o:List aG}{d:aG}(h:lE p o)(hd:d.cond.ok 0)(hs:∀x∈p,gD d.key x.key=false):lE (p++[d]) (nL o d):=by
 have u:∀x∈o,gD d.key x.key=false:=fun x t=>by obtain⟨y,f,e⟩:=List.mem_map.1 ((h.ks x.key).1 (List.mem_map_of_mem t));rw[<-e];exact hs y f
 unfold nL;cases v:o.getLast? with
 |none=>
  have w:o=[]:=List.getLast?_eq_none_iff.1 v;subst w;have hp:p=[]:=by
   cases p with
   |nil=>rfl
   |cons y p=>exact absurd ((h.ks y.key).2 (by simp)) (by simp)
  subst hp;refine⟨su _ _,fun k=>by simp,fun x t=>?_,fun x t c=>?_⟩
  .rw[List.mem_singleton.1 t];exact hd
  .rw[List.mem_singleton.1 t];constructor
   .intro n;exact⟨d,by simp,rfl,n⟩
   .rintro⟨y,f,_,n⟩;have:y=d:=by simpa using f
    rw[<-this];exact n
 |some x=>
  obtain⟨q,rfl⟩:=List.getLast?_eq_some_iff.1 v;simp only;have l:x∈q++[x]:=by simp
  have m:∀y∈q,gD y.key x.key=true:=fun y f=>by have:=(List.pairwise_append.1 h.so).2.2 y f x (by simp);exact this
  split
  .rename_i e;rw[List.dropLast_concat];have r:=h.ok x l;refine⟨?_,fun k=>?_,fun y f=>?_,fun y f c=>?_⟩
   .have:=List.pairwise_append.1 h.so;refine List.pairwise_append.2 ⟨this.1,su _ _,fun a ha b hb=>?_⟩;rw[List.mem_singleton.1 hb];exact m a ha
   .have:=h.ks k;simp only[mf,lx,ib,List.map_nil,List.mem_singleton]at this |-;show k∈q.map aG.key\/k=x.key<->_;rw[this,<-e];constructor
    .exact .inl
    .rintro(h1|h1)
     .exact h1
     .rw[h1];exact(h.ks x.key).1 (List.mem_map_of_mem l)
   .rcases List.mem_append.1 f with h1|h1
    .exact h.ok y (ge _ h1)
    .rw[List.mem_singleton.1 h1];exact T.or_ok r hd
   .rcases List.mem_append.1 f with h1|h1
    .rw[h.at' y (ge _ h1) c];have i:d.key≠y.key:=fun e2=>by have:=m y h1;rw[e,e2,jR.irr]at this;cases this
     constructor
     .rintro⟨z,g,e1,e2⟩;exact⟨z,by simp[g],e1,e2⟩
     .rintro⟨z,g,e1,e2⟩;rcases List.mem_append.1 g with h2|h2
      .exact⟨z,h2,e1,e2⟩
      .rw[List.mem_singleton.1 h2]at e1;exact absurd e1 i
    .rw[List.mem_singleton.1 h1];show (x.cond.or d.cond).at' c=true<->_;rw[T.or_at r hd,sr,h.at' x l c];show _<->∃z∈p++[d],z.key=x.key/\_;constructor
     .rintro(⟨z,g,e1,e2⟩|n)
      .exact⟨z,by simp[g],e1,e2⟩
      .exact⟨d,by simp,e.symm,n⟩
     .rintro⟨z,g,e1,e2⟩;rcases List.mem_append.1 g with h2|h2
      .exact .inl ⟨z,h2,e1,e2⟩
      .rw[List.mem_singleton.1 h2]at e2;exact .inr e2
  .rename_i i;have s:gD x.key d.key=true:=by
    have h1:=u x l;cases h2:gD x.key d.key with
    |true=>rfl
    |false=>exact absurd (jR.tri _ _ h2 h1) i
   have j:∀y∈q++[x],gD y.key d.key=true:=fun y f=>by
    rcases List.mem_append.1 f with h1|h1
    .exact jR.tr _ _ _ (m y h1) s
    .rw[List.mem_singleton.1 h1];exact s
   refine⟨List.pairwise_append.2 ⟨h.so,su _ _,fun a ha b hb=>by rw[List.mem_singleton.1 hb];exact j a ha⟩,fun k=>?_,fun y f=>?_,fun y f c=>?_⟩
   .rw[mf (l₁:=q++[x]),mf (l₁:=p),lx,lx,h.ks k]
   .rcases List.mem_append.1 f with h1|h1
    .exact h.ok y h1
    .rw[List.mem_singleton.1 h1];exact hd
   .rcases List.mem_append.1 f with h1|h1
    .rw[h.at' y h1 c];have i:d.key≠y.key:=fun e2=>by have:=j y h1;rw[<-e2,jR.irr]at this;cases this
     constructor
     .rintro⟨z,g,e1,e2⟩;exact⟨z,by simp[g],e1,e2⟩
     .rintro⟨z,g,e1,e2⟩;rcases List.mem_append.1 g with h2|h2
      .exact⟨z,h2,e1,e2⟩
      .rw[List.mem_singleton.1 h2]at e1;exact absurd e1 i
    .rw[List.mem_singleton.1 h1];constructor
     .intro n;exact⟨d,by simp,rfl,n⟩
     .rintro⟨z,g,e1,e2⟩;rcases List.mem_append.1 g with h2|h2
      .have h3:=(h.ks d.key).2 (by rw[<-e1];exact List.mem_map_of_mem h2);obtain⟨y,f,A⟩:=List.mem_map.1 h3;have:=j y f;rw[A,jR.irr]at this;cases this
      .rw[List.mem_singleton.1 h2]at e2;exact e2
def lE.all:∀(l p o:List aG),lE p o->(∀d∈l,d.cond.ok 0)->(p++l).Pairwise (fun a b=>gD b.key a.key=false)->lE (p++l) (l.foldl nL o)
 | [],p,o,h,_,_=>by simpa using h
 |d::l,p,o,h,c,hs=>by have h1:=List.pairwise_append.1 hs;have:=lE.all l (p++[d]) (nL o d) (h.put (c d (.head _)) fun x f=>h1.2.2 x f d (.head _)) (fun y e=>c y (.tail _ e)) (by simpa using hs);simpa using this
def lE.eq{p o l:List aG}(h:lE p o)(hp:∀d,d∈p<->d∈l/\d.cond≠ff)(b:jb l):o=it l:=by
 have f:o.map aG.key=pM l:=by
  refine yj jR (List.pairwise_map.2 h.so) (oW jR _) fun k=>?_;unfold pM;rw[h.ks k,vB jR];simp only[mg,jZ,dA];constructor
  .rintro⟨d,hd,e⟩;exact⟨d,(hp d).1 hd,e⟩
  .rintro⟨d,hd,e⟩;exact⟨d,(hp d).2 hd,e⟩
 unfold it;rw[<-f,pi]
 conv=>lhs;rw[<-List.map_id o]
 refine m0 fun x a=>?_;have g:x.cond=pI l x.key:=by
  refine T.ext (h.ok x a) (G8 b) fun c=>?_;have h1:=h.at' x a c;have h2:=De (k:=x.key) (c:=c) b;have h3:x.cond.at' c=true<->(pI l x.key).at' c=true:=by
   rw[h1,h2];constructor
   .rintro⟨d,hd,e1,e2⟩;exact⟨d,((hp d).1 hd).1,e1,e2⟩
   .rintro⟨d,hd,e1,e2⟩;exact⟨d,(hp d).2 ⟨hd,fun e=>by rw[e]at e2;cases e2⟩,e1,e2⟩
  cases ha:x.cond.at' c<;>cases hb:(pI l x.key).at' c<;>simp_all
 simp only[id,Function.comp];rw[<-g];cases x;rfl
mutual
def wZ:M->Prop
 |⟨k,x,t,s,ks,_⟩=>(k<256/\-4611686018427387904<=t/\t<4611686018427387904/\-4611686018427387904<=s/\s<4611686018427387904/\x.length<4611686018427387904)/\dQ ks
def dQ:List M->Prop
 | []=>True
 |n::l=>wZ n/\dQ l
end
variable{l:List M}
theorem pQ:dQ l<->∀n∈l,wZ n:=by
 induction l with
 |nil=>simp[dQ]
 |cons n l a=>simp[dQ,a]
theorem uD{n:M}:wZ n<->(n.kind<256/\-4611686018427387904<=n.tok/\n.tok<4611686018427387904/\-4611686018427387904<=n.slot/\n.slot<4611686018427387904/\n.text.length<4611686018427387904)/\dQ n.kids:=by cases n;rfl
theorem zV{a b:List M}:dQ (a++b)<->dQ a/\dQ b:=by simp only[pQ,lx];exact⟨fun h=>⟨fun n d=>h n (.inl d),fun n d=>h n (.inr d)⟩,fun h n d=>d.elim (h.1 n) (h.2 n)⟩
theorem kg{ks:List M}(h:dQ l)(b:dQ ks):dQ (give l ks):=pQ.2 fun n a=>by obtain⟨m,hm,rfl⟩:=List.mem_map.1 a;have:=uD.1 (pQ.1 h m hm);exact uD.2 ⟨this.1,zV.2 ⟨this.2,b⟩⟩
theorem O4(h:dQ l):dQ (slot0 l):=pQ.2 fun n d=>by obtain⟨m,hm,rfl⟩:=List.mem_map.1 d;obtain⟨⟨a,b,c,_,_,g⟩,k⟩:=uD.1 (pQ.1 h m hm);exact uD.2 ⟨⟨a,b,c,by show (-4611686018427387904:Int)<=0;omega,by show (0:Int)<_;omega,g⟩,k⟩
theorem nv{k:Nat}{t:al}{i s N:Nat}{ks:List M}{d:T}(ht:t.length<4611686018427387904)(a:k<256)(hi:i<N)(hN:N<=16384)(hs:s<=2)(h:dQ ks):dQ [⟨k,t,(i:Int),(s:Int),ks,d⟩]:=
 ⟨⟨⟨a,O,O,O,O,ht⟩,h⟩,trivial⟩
section
variable {c:aD} {Z:List Tok} (hN:Z.length<=16384) (hX:∀i,(X Z i).length<4611686018427387904)
include hN hX
variable{kind slot:Nat}
theorem xd(p:Option Nat)(a:kind<256)(hs:slot<=2):dQ (bS Z c p kind slot).l:=by
 unfold bS;cases p.map (nx c Z)with
 |none=>trivial
 |some i=>
  simp only;split
  .trivial
  .rename_i h;exact nv (by first|exact hX _|(show (0:Nat)<_;decide)) a (qP fun h2=>h (.inl (by rw[h2];decide))) hN hs trivial
theorem Dx(p:Option Nat)(hs:slot<=2):dQ (fL Z c p slot).l:=by
 unfold fL;cases p.map (nx c Z)with
 |none=>trivial
 |some i=>
  simp only;split
  .trivial
  .rename_i h;exact nv (by first|exact hX _|(show (0:Nat)<_;decide)) af (eS fun h2=>h (by rw[h2];exact⟨by decide,by decide⟩)) hN hs trivial
theorem zW{i:Option Nat}(a:kind<256)(h:Lt Z.length i)(hs:slot<=2):dQ (jg kind i slot):=by
 cases i with
 |none=>trivial
 |some j=>exact nv (by first|exact hX _|(show (0:Nat)<_;decide)) a (h j rfl) hN hs trivial
omit hN hX in
theorem JC{i x:Nat}{is:Nat->Bool}(h:bq c Z (bS Z c (some i) kind slot).p is=some x):i<Z.length:=by
 have h0:=qg c Z i;unfold bS at h;simp only[cZ]at h;split at h
 .cases h
 .rename_i a;have:nx c Z i<Z.length:=qP fun h2=>a (.inl (by rw[h2];decide));omega
def yY(N:Nat):gY->Prop
 | .line _ _ _ s=>s<=2
 | .lineL _ _ s _ l _ _=>s<=2/\dQ l
 | .lineO _ _ s op l _=>s<=2/\dQ l/\Lt N op
 | .unary _ _ s=>s<=2
 | .unaryH _ _ s=>s<=2
 | .calls _ i s x names _=>s<=2/\dQ names/\(∀j k,i=some j->x=some k->j<N)
 | .inside _ _ s=>s<=2
 | .listL _ _ l _ _=>dQ l
 | .behind _ _ _ _ s=>s<=2
 | .block _ _ s=>s<=2
 | .seqL _ _ _ l _=>dQ l
 | .sCalls _ i x l _=>dQ l/\(∀j k,i=some j->x=some k->j<N)
 | .branch _ i s=>s<=2/\Lt N i
 | .elses _ _ l _=>dQ l
 | .ifs _ y l _=>dQ l/\Lt N y
 |_=>True
theorem Pc{rec:jJ}(R:∀x q,rec x=some q->yY Z.length x->dQ q.l):∀x q,ay c Z rec x=some q->yY Z.length x->dQ q.l:=by
 have n:∀{x q},rec x=some q->yY Z.length x->dQ q.l:=fun{x q} h k=>R x q h k;intro x q e hi;cases x with
 |line k o p slot=>
  simp only[ay,mN]at e;split at e
  .have:=n e hi;exact this
  .obtain⟨a,m,e⟩:=aB e;obtain⟨b,t,e⟩:=aB e;cases e
   have:=n t ⟨hi,n m hi⟩;exact this
 |lineL k o slot first l g out=>
  simp only[ay,oQ]at e;cases g with
  |none=>cases e;exact hi.2
  |some p=>
   simp only at e;split at e
   .cases e;exact hi.2
   .obtain⟨a,m,e⟩:=aB e;obtain⟨b,t,e⟩:=aB e;cases e
    have:=n t ⟨hi.1,n m ⟨hi.1,hi.2,EC⟩⟩;exact this
 |lineO k o slot op l g=>
  simp only[ay,rS]at e;cases op with
  |none=>cases e;exact hi.2.1
  |some i=>
   obtain⟨a,m,e⟩:=aB e;cases e
   exact nv (by first|exact hX _|(show (0:Nat)<_;decide)) af (hi.2.2 i rfl) hN hi.1 (zV.2 ⟨O4 hi.2.1,n m (by show (1:Nat)<=2;decide)⟩)
 |unary o p slot=>have:=n (x:=.unaryH o (p.map (nx c Z)) slot) e hi;exact this
 |unaryH o i slot=>
  simp only[ay,jW]at e;cases i with
  |none=>cases e;trivial
  |some i=>
   simp only at e;split at e
   .rename_i u;have r:i<Z.length:=eS (by rcases u with h|h<;>rw[h]<;>decide);split at e
    .cases e;trivial
    .obtain⟨a,m,e⟩:=aB e;cases e
     exact nv (by first|exact hX _|(show (0:Nat)<_;decide)) af r hN hi (n m (by show (0:Nat)<=2;decide))
   .split at e
    .have:=n e hi;exact this
    .split at e
     .rename_i u;cases e
      exact nv (by first|exact hX _|(show (0:Nat)<_;decide)) af (qP (by rw[u];decide)) hN hi trivial
     .split at e
      .rename_i u;cases e
       exact nv (by first|exact hX _|(show (0:Nat)<_;decide)) af (eS (by rcases u with h|h<;>rw[h]<;>decide)) hN hi trivial
      .split at e
       .rename_i u;cases e
        exact nv (by first|exact hX _|(show (0:Nat)<_;decide)) af (eS (by rw[u];decide)) hN hi trivial
       .obtain⟨b,t,e⟩:=aB e;cases e
        have:=n t ⟨hi,xd hN hX _ af hi,fun j k z w=>by cases z;exact JC w⟩;exact this
 |calls o i slot x names g=>
  simp only[ay,oN]at e;split at e
  .rename_i i x;obtain⟨a,m,e⟩:=aB e;cases e
   exact nv (by first|exact hX _|(show (0:Nat)<_;decide)) af (hi.2.2 i x rfl rfl) hN hi.1 (n m trivial)
  .cases e;exact hi.2.1
 |inside o p slot=>
  simp only[ay,nH]at e;split at e
  .cases e;trivial
  .split at e
   .cases e;trivial
   .split at e
    .cases e;trivial
    .obtain⟨a,m,e⟩:=aB e;cases e
     have:=n m hi;exact this
 |listed par o p=>
  simp only[ay,nI]at e;split at e
  .cases e;trivial
  .split at e
   .cases e;trivial
   .split at e
    .cases e;trivial
    .obtain⟨a,m,e⟩:=aB e;cases e
     have:=n m trivial;exact this
 |listL par o l g fin=>
  simp only[ay,rT]at e;cases g with
  |none=>cases e;exact hi
  |some p=>
   obtain⟨a,m,e⟩:=aB e;obtain⟨b,t,e⟩:=aB e;cases e
   have:=n t (zV.2 ⟨hi,n m trivial⟩);exact this
 |item par o p=>
  simp only[ay,oP]at e;split at e
  .cases e
   exact kg (xd hN hX _ af af) (Dx hN hX _ af)
  .have:=n e (by show (0:Nat)<=2;decide);exact this
 |behind typ o p sign slot=>
  simp only[ay,oM]at e;obtain⟨a,m,e⟩:=aB e;cases e
  unfold mL at m;split at m
  .cases m;exact Dx hN hX _ hi
  .have:=n m hi;exact this
 |vrb o p=>
  simp only[ay,qr]at e;obtain⟨d,v,e⟩:=aB e;cases e
  exact kg (kg (xd hN hX _ af af) (Dx hN hX _ af)) (n v (by show (1:Nat)<=2;decide))
 |function o p=>
  simp only[ay,qp]at e;obtain⟨b,t,e⟩:=aB e;obtain⟨d,v,e⟩:=aB e;obtain⟨f,A,e⟩:=aB e;cases e
  exact kg (kg (kg (xd hN hX _ af af) (n t trivial)) (n v (by show (1:Nat)<=2;decide))) (n A (by show (2:Nat)<=2;decide))
 |block o p slot=>
  simp only[ay,nF]at e;split at e
  .cases e;trivial
  .rename_i i hp;split at e
   .cases e;trivial
   .rename_i u;have r:i<Z.length:=eS (by rw[Classical.not_not.1 u];decide);split at e
    .cases e;trivial
    .obtain⟨a,m,e⟩:=aB e;cases e
     exact nv (by first|exact hX _|(show (0:Nat)<_;decide)) af r hN hi (n m trivial)
 |seqL top o p l out=>
  simp only[ay,oS]at e;split at e
  .cases e;exact hi
  .split at e
   .cases e;exact hi
   .obtain⟨a,m,e⟩:=aB e;obtain⟨b,t,e⟩:=aB e;cases e
    have h1:dQ a.l:=by
     unfold kY at m;split at m
     .unfold nJ at m;split at m
      .have:=n m trivial;exact this
      .split at m
       .have:=n m trivial;exact this
       .cases m;trivial
     .have:=n m trivial;exact this
    have:=n t (zV.2 ⟨hi,h1⟩);exact this
 |stmt o i=>
  simp only[ay,kz]at e;cases i with
  |none=>cases e;trivial
  |some i=>
   simp only at e;split at e
   .have:=n e trivial;exact this
   .split at e
    .rename_i u;have:=n e ⟨by decide,Lt.of (eS (by rw[u];decide))⟩;exact this
    .split at e
     .rename_i u;have r:i<Z.length:=eS (by rw[u];decide);obtain⟨a,m,e⟩:=aB e;obtain⟨b,t,e⟩:=aB e;cases e
      exact kg (kg (zW hN hX af (Lt.of r) af) (n m (by show (0:Nat)<=2;decide))) (n t (by show (1:Nat)<=2;decide))
     .split at e
      .have:=n e (by show (0:Nat)<=2;decide);exact this
      .split at e
       .rename_i u;have r:i<Z.length:=eS (by rw[u];decide);obtain⟨a,m,e⟩:=aB e;cases e
        exact kg (zW hN hX af (Lt.of r) af) (n m (by show (0:Nat)<=2;decide))
       .split at e
        .rename_i u;have r:i<Z.length:=eS (by rcases u with h|h<;>rw[h]<;>decide);obtain⟨a,m,e⟩:=aB e;cases e
         exact kg (zW hN hX (by split<;>decide) (Lt.of r) af) (n m (by show (0:Nat)<=2;decide))
        .obtain⟨b,t,e⟩:=aB e;obtain⟨d,v,e⟩:=aB e;cases e
         have:=n v ⟨kg (xd hN hX _ af af) (n t (by show (0:Nat)<=2;decide)),fun j k z w=>by cases z;exact JC w⟩;exact this
 |sCalls o i x l g=>
  simp only[ay,oR]at e;split at e
  .rename_i i x;obtain⟨a,m,e⟩:=aB e;cases e
   exact nv (s:=0) (by first|exact hX _|(show (0:Nat)<_;decide)) af (hi.2 i x rfl rfl) hN af (n m trivial)
  .cases e;exact hi.1
 |branch o i slot=>
  simp only[ay,ql]at e;obtain⟨a,m,e⟩:=aB e;obtain⟨b,t,e⟩:=aB e;obtain⟨d,v,e⟩:=aB e;cases e
  have:=n v (kg (kg (zW hN hX af hi.2 hi.1) (n m (by show (0:Nat)<=2;decide))) (n t (by show (1:Nat)<=2;decide)));exact this
 |elses o x l out=>
  simp only[ay,qo]at e;cases x with
  |none=>cases e;exact hi
  |some j=>
   obtain⟨a,m,e⟩:=aB e;obtain⟨b,t,e⟩:=aB e;cases e
   have:=n t ⟨kg hi (n m (by show (2:Nat)<=2;decide)),th af⟩;exact this
 |ifs o y l out=>
  simp only[ay,qq]at e;cases y with
  |none=>cases e;exact hi.1
  |some j=>
   simp only at e;split at e
   .cases e;exact hi.1
   .obtain⟨a,m,e⟩:=aB e;cases e
    exact kg hi.1 (n m ⟨by decide,hi.2⟩)
theorem Hu:∀n x q,dC c Z n x=some q->yY Z.length x->dQ q.l
 |0,x,q,e,_=>by cases e
 |n+1,x,q,e,h=>Pc hN hX (fun x q e h=>Hu n x q e h) x q e h
end
theorem DC:∀(l:List M) (d:T),cz l->wL d l->u0 l->(∀c,dQ (pL c l))->dQ l
 | [],_,_,_,_,_=>trivial
 |⟨k,t,o,s,ks,e⟩::l,d,f,b,g,h=>by
  have key:∀c,e.at' c=true->wZ ⟨k,t,o,s,pL c ks,tt⟩:=fun c a=>by have:=h c;rw[eF,show (⟨k,t,o,s,ks,e⟩:M).cond=e from rfl,a,ag rfl]at this;exact this.1
  obtain⟨c0,i⟩:=T.some_of_ne f.1.1 g.1.1;refine⟨⟨(key c0 i).1,DC ks e f.1.2 b.1.2 g.1.2 fun c=>?_⟩,DC l d f.2 b.2 g.2 fun c=>?_⟩
  .cases a:e.at' c with
   |true=>exact(key c a).2
   |false=>rw[LG b.1.2 a];trivial
  .have:=h c;rw[eF]at this;split at this
   .exact this.2
   .exact this
theorem Wq{Z:List Tok}(a:bw Z)(h:Z.length<=16384)(hX:∀i,(X Z i).length<4611686018427387904){w:T}(d:w.ok 0)(b:w≠ff){n:Nat}{r:aw}(e:run Z n (.seqL true 0 [(0,w)] [] [])=some r):dQ (eo r):=by
 obtain⟨_,_,g⟩:=qB a d b e (fun _=>false);have j:=(zw (c:=fun _=>false) g.fok).1;obtain⟨k,a2,a3,a4⟩:=vI r.l (gB r.f) j g.lok;refine⟨⟨⟨by decide,by decide,by decide,by decide,by decide,by show (0:Nat)<_;decide⟩,DC _ (gB r.f) k a2 (yt _ _) fun c=>?_⟩,trivial⟩;rw[a4 c];split
 .obtain⟨q,⟨m,hm⟩,R⟩:=qB a d b e c;rw[R.l];exact Hu h hX m _ _ hm trivial
 .trivial
theorem O3{l:List M}(h:dQ l)(k:eP):dQ (en l k):=pQ.2 fun x a=>by obtain⟨n,b,_,_,a⟩:=uT a;exact pQ.1 (uD.1 (pQ.1 h n b)).2 x a
end Syn
namespace Go.Proofs.YtfaclfkpnmcmlaaGreatDoor
open Go Go.Sx Dg Syn
def sM(A:PH):U [A]=A:=PH.uni_no A
def Hj:∀{Ks:List PH} {i:Nat} {Ki:PH},Ks[i]?=some Ki->Ks.Perm (Ki::Ks.eraseIdx i)
 | [],i,Ki,h=>by simp at h
 |a::l,0,Ki,h=>by simp only[yQ,a8]at h;subst h;exact List.Perm.refl _
 |a::l,i+1,Ki,h=>by rw[vW]at h;exact((Hj h).cons a).trans (List.Perm.swap Ki a _)
def Kt:∀{Ks:List PH} {i:Nat} (K':PH),i<Ks.length->(K'::Ks.eraseIdx i).Perm (Ks.set i K')
 | [],i,K',h=>by simp at h
 |a::l,0,K',h=>List.Perm.refl _
 |a::l,i+1,K',h=>(List.Perm.swap a K' _).trans ((Kt K' (by simpa using h)).cons a)
def CB(A:PH)(l:List PH):U [A,U l]=U (A::l):=by show A.uni (U [U l])=A.uni (U l);rw[sM]
variable{l:List PH}
def LN{A:PH}(h:Dj (A::l)):Dj [A,U l]:=by have:=h.head;refine List.pairwise_cons.2 ⟨fun B a=>?_,su _ _⟩;rw[List.mem_singleton.1 a];exact this
def FT{A:PH}(h:Dj [A,U l])(a:Dj l):Dj (A::l):=a.cons (by
 have:=h.head
 rwa [sM]at this)
def LO{X:PH}{m:List PH}(h:Dj (l++[X]))(e:U m=X)(hm:Dj m):U (l++[X])=U (l++m)/\Dj (l++m):=by obtain⟨a,b,c⟩:=qN.1 h;rw[sM]at c;refine⟨by rw[uh,uh,sM,e],qN.2 ⟨a,hm,by rw[e];exact c⟩⟩
def FR{m:List PH}(h:Dj (l++m)):U (l++m)=U (l++[U m])/\Dj (l++[U m]):=by obtain⟨a,b,c⟩:=qN.1 h;refine⟨by rw[uh,uh,sM],qN.2 ⟨a,su _ _,by rw[sM];exact c⟩⟩
variable{Ks:List PH}
def MJ{i:Nat}{Ki:PH}(hd:Dj (l++[U Ks]))(a:Dj Ks)(hi:Ks[i]?=some Ki):U (l++[U Ks])=U (l++[Ki,U (Ks.eraseIdx i)])/\Dj (l++[Ki,U (Ks.eraseIdx i)]):=by obtain⟨e,d⟩:=pC (Hj hi) a;exact LO hd (by rw[CB,e]) (LN d)
def MK{i:Nat}{K':PH}(hd:Dj (l++[K',U (Ks.eraseIdx i)]))(c:Dj Ks)(hi:i<Ks.length):U (l++[K',U (Ks.eraseIdx i)])=U (l++[U (Ks.set i K')])/\Dj (l++[U (Ks.set i K')])/\Dj (Ks.set i K'):=by have h1:Dj (Ks.eraseIdx i):=List.Pairwise.sublist (List.eraseIdx_sublist _ _) c;have h2:Dj (K'::Ks.eraseIdx i):=FT (qN.1 hd).2.1 h1;obtain⟨e,d⟩:=pC (Kt K' hi) h2;obtain⟨a,b⟩:=FR hd;rw[CB,e]at a b;exact⟨a,b,d⟩
def ML{K':PH}(hd:Dj (l++[K',U Ks]))(c:Dj Ks):U (l++[K',U Ks])=U (l++[U (Ks++[K'])])/\Dj (l++[U (Ks++[K'])])/\Dj (Ks++[K']):=by have h2:Dj (K'::Ks):=FT (qN.1 hd).2.1 c;obtain⟨e,d⟩:=pC (List.perm_append_singleton K' Ks).symm h2;obtain⟨a,b⟩:=FR hd;rw[CB,e]at a b;exact⟨a,b,d⟩
def fw(I:PH)(c:List Value)(p:PH×M):Prop:=∃b a k,c=[.int .u8 p.2.kind,.string ⟨⟨p.2.text⟩⟩,.int .i64 p.2.tok,.int .i64 p.2.slot,b,sD a k p.2.cond,rD p.2.cond]/\bU I (.agg #[sD a k p.2.cond,rD p.2.cond]) p.2.cond/\ar I p.1 b p.2.kids
variable{p:PH×M}{I:PH}
def fw.le{J:PH}{c:List Value}(h:fw I c p)(b:I.le J):fw J c p:=by obtain⟨d,a,k,e,h1,h2⟩:=h;exact⟨d,a,k,e,h1.le b,ar.le h2 b⟩
def fw.len(c:List Value)(p:PH×M)(h:fw I c p):c.length=7:=by obtain⟨b,a,k,e,_⟩:=h;rw[e];rfl
def fw.ones{c:List Value}(h:fw I c p):c.all Sx.one=true:=by obtain⟨d,a,k,e,_,b⟩:=h;obtain⟨x,y,rfl⟩:=b.shape;rw[e];rfl
def fw.still{J:PH}{c:List Value}(h:fw I c p)(h1:I.le J)(h2:p.1.le J):ae J c p.2:=by obtain⟨d,a,k,rfl,hr,b⟩:=h;exact ae.mk (hr.le h1) (ar.sl b h1 h2) (b.capN ae.len)
def LR.still{I J:PH}(h1:I.le J):∀{l:List (PH×M)} {xs:List Value},LR (fw I) xs l->(∀p∈l,p.1.le J)->LR (ae J) xs (l.map Prod.snd)
 | [],xs,h,_=>h
 |p::l,xs,⟨c,ys,e,a,b⟩,hp=>⟨c,ys,e,a.still h1 (hp p (.head _)),LR.still h1 b fun q d=>hp q (.tail _ d)⟩
def xW(o:List M)(y u:Value):Prop:=∃j m,o[j]?=some m/\y=ky m.key/\u=E j
def IH{a b:eP}(h:ky a=ky b):a=b:=by
 unfold ky at h;simp only[Value.agg.injEq,Array.mk.injEq,mZ,Value.int.injEq,Value.string.injEq,dV,eW]at h;obtain⟨h1,h2,h3,h4⟩:=h;have d:a.kind=b.kind:=by omega
 have c:a.text=b.text:=by have:=congrArg (fun x:ByteArray=>x.data.toList) h4;exact this
 cases a;cases b
 simp_all
theorem Ly:prog.underlying 240=some (.struct #[⟨ "slot",3,0,false,"","motley/syntax",0⟩,⟨ "tok",3,1,false,"","motley/syntax",8⟩,⟨ "kind",5,2,false,"","motley/syntax",16⟩,⟨ "text",9,3,false,"","motley/syntax",24⟩]):=by kernel_rfl
theorem SQ:prog.keyTypeAt 3 240=true:=by kernel_rfl
theorem WM:prog.tiled 3 240=true:=by kernel_rfl
def Cm:Maps.Keyed prog 240:=by refine Maps.Keyed.of_law (deep_law (m:=3) O SQ WM ?_);rw[Ly]
theorem SC:prog.keyType 240=true:=by kernel_rfl
theorem NQ:prog.cellsOf 240=4:=by kernel_rfl
theorem GS:prog.cellsOf 5=1:=by kernel_rfl
theorem C0:prog.cellsOf 9=1:=by kernel_rfl
theorem LC:prog.underlying 5=some (.int .u8):=by kernel_rfl
theorem FJ:prog.underlying 9=some .string:=by kernel_rfl
def FP{z:Int}(h:-4611686018427387904<=z)(h2:z<4611686018427387904):(Lit.int .i64 z).wf=true:=by
 have h1:IntKind.min .i64=-9223372036854775808:=by decide
 have h2:IntKind.max .i64=9223372036854775807:=by decide
 simp only[Lit.wf,h1,h2,cX,dA];omega
def XG{n:Nat}(h:n<256):(Lit.int .u8 n).wf=true:=by
 have h1:IntKind.min .u8=0:=by decide
 have h2:IntKind.max .u8=255:=by decide
 simp only[Lit.wf,h1,h2,cX,dA];omega
def SG {P:Program} {k:eP} (g:P.underlying 240=some (.struct #[⟨ "slot",3,0,false,"","motley/syntax",0⟩,⟨ "tok",3,1,false,"","motley/syntax",8⟩,⟨ "kind",5,2,false,"","motley/syntax",16⟩,⟨ "text",9,3,false,"","motley/syntax",24⟩])) (h1:P.keyType 240=true) (h2:P.cellsOf 240=4) (h3:P.cellsOf 3=1) (h5:P.cellsOf 5=1) (h:P.cellsOf 9=1) (e:P.underlying 3=some (.int .i64)) (d:P.underlying 5=some (.int .u8)) (c:P.underlying 9=some .string) (hs:1<P.types.size)
  (b:(Lit.int .i64 k.slot).wf=true) (a2:(Lit.int .i64 k.tok).wf=true) (a3:(Lit.int .u8 k.kind).wf=true) (a4:k.text.length<4611686018427387904):fg P 240 (ky k):=by
 obtain⟨n,f⟩:∃n,P.types.size=n+1:=⟨P.types.size-1,O⟩;simp only[Lit.wf,cX,dA]at b a2 a3;have a:(9223372036854775807:Int)=IntKind.max .i64:=by decide
 unfold fg keyOf;rw[h1];have l:IntKind.i64.min<=k.slot/\k.slot<=9223372036854775807:=by rw[a];exact b
 have j:IntKind.i64.min<=k.tok/\k.tok<=9223372036854775807:=by rw[a];exact a2
 have i:(⟨⟨k.text⟩⟩:ByteArray).size<=maxLen:=by have:(⟨⟨k.text⟩⟩:ByteArray).size=k.text.length:=rfl;rw[this];exact fD (lC a4) af
 simp[g,Value.formed,ky,f,Program.keyLits,h2,h3,h5,h,e,d,c,Value.cells,Lit.wf,l,j,a3,i]
def Sy{n:M}(h:wZ n):fg prog 240 (ky n.key):=by obtain⟨⟨a,b,c,d,e,g⟩,_⟩:=uD.1 h;exact SG Ly SC NQ CZ GS C0 se LC FJ E2 (FP d e) (FP b c) (XG a) g
end Go.Proofs.YtfaclfkpnmcmlaaGreatDoor
