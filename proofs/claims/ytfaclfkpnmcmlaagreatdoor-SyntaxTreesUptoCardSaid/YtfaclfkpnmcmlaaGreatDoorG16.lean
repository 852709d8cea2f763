import Derived.Test.YtfaclfkpnmcmlaaGreatDoorG04
import Derived.Test.YtfaclfkpnmcmlaaGreatDoorG10
import Derived.Test.YtfaclfkpnmcmlaaGreatDoorG12
import Derived.Test.YtfaclfkpnmcmlaaGreatDoorG13
import Derived.Test.YtfaclfkpnmcmlaaGreatDoorG14
import Derived.Test.YtfaclfkpnmcmlaaGreatDoorG15
set_option maxHeartbeats 8000000
set_option linter.all false
open Go.Proofs.Tryz
namespace Go.Proofs.YtfaclfkpnmcmlaaGreatDoor
open Go Go.Sx Dg Syn
def Qc:ay prog 95:=⟨_,func95,rfl,rfl⟩
def O7:ay prog 164:=⟨_,func164,rfl,rfl⟩
def O8:ay prog 165:=⟨_,func165,rfl,rfl⟩
def GS:ay prog 166:=⟨_,func166,rfl,rfl⟩
def Ps:ay prog 234:=⟨_,func234,rfl,rfl⟩
variable{v:Value}{I A:PH}{size:Nat}{e:TypeId}
def Ow.elem{α:Type}{R:PH->List Value->α->Prop}{l:List α}(h:Ow R e size I A v l)(j:∀{I} c a,R I c a->c.length=size)(n:∀{I J c a},R I c a->I.le J->R J c a){i:Nat}{x:α}(hi:l[i]?=some x):
  ∃g cap cur c,v=.slice (some ⟨g,0,none⟩) l.length cap/\A=sg g (.cells cur e (0,0))/\l.length*size<=cur.size/\l.length<=cap/\R I c x/\c.length=size/\aX A g (i*size) c/\
   ∀J c' y,I.le J->R J c' y->Ow R e size J (sg g (.cells (bi cur.toList (i*size) c').toArray e (0,0))) v (l.set i y):=by
 have d:=(List.getElem?_eq_some_iff.1 hi).1;obtain⟨g,cap,cur,xs,ev,rfl,q,c2,c3,c4,c5,f⟩:=h.open' O fun c a k=>j c a k;have t:l.length*size<=cap*size:=bS _ q;have p:(i+1)*size<=l.length*size:=bS _ d;rw[fm,lQ]at p;have s:=f.get (fun c a k=>j c a k) hi;have b:=j _ _ s;have u:=qu (k:=0) (m:=size) (e:=e) (g:=g) (cur:=cur) (fun c a k=>j c a k) f d O c4 rfl O;refine⟨g,cap,cur,_,ev,rfl,O,q,s,b,?_,?_⟩
 .simpa[b,rF]using u
 .intro J c' y w r;have o:=j _ _ r;refine⟨bi xs (i*size+0) c',?_,?_⟩
  .rw[ev,kD];exact ti c5 q c2 c3 c4 O
  .refine qJ (fun c a k=>j c a k) (f.mono fun _ _ h=>n h w) d rfl O ?_;have:bi ((xs.drop (i*size)).take size) 0 c'=c':=by rw[lg _ _ _ O];simp[b,o]
   rw[this];exact r
def Em:prog.underlying 34=some (.slice 80):=by obtain⟨i,z,h,_⟩:=lh;exact h
variable{l:List aN}
def Ng(o:Sl aY I v l)(p:l.length<=bF):aI prog 165 #[v] I [] fun r I2 qs=>∃A,qs=[A]/\bL I2 A r l:=by
 intro hd;obtain⟨q,u,rfl,i⟩:=id o;unfold bF at p;refine aG 8 func165 fun w0=>?_;cases q with
 |none=>
  have j:l=[]:=by
   rcases i with h|⟨b,off,xs,e,_⟩
   .exact h
   .cases e
  subst j;refine af ?_;refine rM rfl rfl (by exact Em) rfl rfl ?_;apply RG;simp only[go_sem,Option.isNone];refine dR hd fun d=>?_;exact ao rfl d (r:=[_]) rfl (ax _) ⟨_,rfl,Ow.nil _ _ _ _⟩
 |some a=>refine af ?_;refine rM rfl rfl (by exact Em) rfl rfl ?_;apply RG;simp only[go_sem,Option.isNone];refine tV hd (by exact lh) rfl rfl rfl rfl rfl aR fun b A d f=>?_;refine af ?_;refine dX d (by exact lh) (xs:=([]:List aN)) (R:=aY) ⟨[],f,rfl⟩ o (fun{I J c a} h k=>aY.le h k) (fun{I} c a h=>aY.len c a h) (fun{I} c a h=>aY.ones h) rfl rfl rfl rfl (by simp only[bA];omega) (by simp only[bA];unfold maxLen;omega) fun t s I2 w m g n=>?_;apply RG;simp only[go_sem,gk];exact ao rfl m (r:=[_]) rfl g ⟨_,rfl,n⟩
def Im{H:PH}{c:List Value}{d:aN}(h:aY I c d):aJ prog 166 #[.agg c.toArray] H fun v H2=>v=.bool (decide (d.cond=ff))/\H2=H:=by
 obtain⟨a,k,rfl,hr⟩:=h;refine aG 6 func166 fun w0=>?_
 try simp only[sD,rD,E]
 refine cz ?_;refine Xa rfl nC (ny hr) ?_;rintro v H2⟨rfl,rfl⟩;refine af ?_;exact au (r:=[_]) rfl ⟨rfl,rfl⟩
def yK(v a:Value)(n i:Nat):St:=⟨dn 19 [(0,.v v),(1,.v a),(6,.v v),(7,.v (E n)),(8,.v (E i))],[]⟩
def Kx(l:List aN)(r:Value):Prop:=(∀d∈l,d.cond≠ff)/\r=.int .i64 (-1)\/∃i d,l[i]?=some d/\d.cond=ff/\(∀x∈l.take i,x.cond≠ff)/\r=E i
def QL(t:bL I A v l)(w:l.length<=bF):aI prog 234 #[v,.func (.func 166) #[] #[]] I [A] fun r I2 qs=>qs=[A]/\I2=I/\Kx l r:=by
 intro hd;unfold bF at w;obtain⟨u,vc,rfl⟩:=t.shape;refine aG 19 func234 fun w0=>?_;refine af ?_;refine bz (fun i=>l.length-i) (yK (.slice u l.length vc) (.func (.func 166) #[] #[]) l.length) (fun i H=>H=U [I,A]/\i<=l.length/\∀x∈l.take i,x.cond≠ff) 0 ae (by simp only[go_sem,ab,yK]) ?_ ?_
 .exact⟨rfl,bg _,fun x m=>by simp at m⟩
 rintro i H ⟨rfl,hi,o⟩ b;simp only[yK];rcases aB i l.length with j|y
 .have s:=Z5 i l.length;have B:=Z7 i;obtain⟨d,e⟩:∃d,l[i]?=some d:=⟨_,aL j⟩;obtain⟨g,cap,cur,c,ev,rfl,C,c2,z,q,f,_⟩:=t.elem (fun{I} c a h=>aY.len c a h) (fun{I J c a} h k=>aY.le h k) e;cases ev
  refine aj s ?_;refine⟨O,?_⟩;refine Xb (l:=c) (v:=.agg c.toArray) rfl (by simpa using cellsU hd (.tail _ (.head _)) f) (.inl ⟨by rw[q];exact fQ,rfl⟩) ?_;refine av ?_;refine Xa rfl GS (Im z) ?_;rintro v H2⟨rfl,rfl⟩;cases hb:decide (d.cond=ff)
  .refine aj B ?_;have p:d.cond≠ff:=rH hb;exact b (i+1) _ _ O ae (by simp only[go_sem,ab,yK]) ⟨rfl,j,fun x m=>by
    rw[iL e]at m;rcases List.mem_append.1 m with h|h
    .exact o x h
    .rw[List.mem_singleton.1 h];exact p⟩
  .refine av ?_;exact ao rfl hd (r:=[E i]) rfl (ax _) ⟨rfl,rfl,.inr ⟨i,d,e,eF hb,o,rfl⟩⟩
 .have:i=l.length:=by omega
  subst this;have s:decide (((l.length:Nat):Int)<(l.length:Int))=false:=ai;rw[cB]at o;refine aj s ?_;exact ao rfl hd (r:=[.int .i64 (-1)]) rfl (ax _) ⟨rfl,rfl,.inl ⟨o,rfl⟩⟩
def ko(l:List aN):List aN:=l.filter fun d=>decide (d.cond≠ff)
def C0(a b:List aN):ko (a++b)=ko a++ko b:=List.filter_append ..
def HI(h:∀d∈l,d.cond≠ff):ko l=l:=List.filter_eq_self.2 fun d hd=>ar (h d hd)
def uM(v a:Value)(i j:Nat):St:=⟨dn 42 [(0,.v v),(1,.v a),(5,.v (E i)),(6,.v (E j))],[]⟩
def Ow.short{α:Type}{R:PH->List Value->α->Prop}{g cap:Nat}{cur:Array Value}{l:List α}{ys:List Value}{i n:Nat}(h:Ow R e size I (sg g (.cells cur e (0,0))) (.slice (some ⟨g,0,none⟩) n cap) l)(r:∀{I} c a,R I c a->c.length=size)(m:l.length=n)(t:0<n)(hi:i<=n)(x:ys.length=(n-i)*size):
  Ow R e size I (sg g (.cells (bi cur.toList (i*size) ys).toArray e (0,0))) (.slice (some ⟨g,0,none⟩) i cap) (l.take i):=by
 subst m;obtain⟨y,cap',b,xs,ev,v,w,c2,c3,c4,c5,j⟩:=h.open' t fun c a k=>r c a k;cases ev
 have u:(.cells cur e (0,0):Obj)=.cells b e (0,0):=by have:=congrFun v g;simp only[sg,cY,bv]at this;exact this
 cases u
 have s:l.length*size<=cap*size:=bS _ w;have o:i*size<=l.length*size:=bS _ hi;have f:=(LR.split (fun c a k=>r c a k) i j).1;have q:i*size+(l.length-i)*size=l.length*size:=by rw[<-fm];congr 1;omega
 have d:(xs.take (i*size)).length=i*size:=by rw[eE,c5];omega
 have p:(bi cur.toList (i*size) ys).toArray.size=cap*size:=by simp[eJ,c3]
 refine⟨xs.take (i*size),?_,f⟩;rw[eE,kF hi];refine cZ.of_sg d O c2 p ?_;show (bi cur.toList (i*size) ys).take (i*size)=_;rw[lg _ _ _ (by simp only[kA];omega),<-c4];rw[eD,List.take_left' (by simp only[eE,kA];omega),rF,kF o]
def NG(N:bL I A v l)(hl:l.length<=bF):aI prog 164 #[v,.func (.func 166) #[] #[]] I [A] fun r I2 qs=>∃A2,qs=[A2]/\I2=I/\bL I A2 r (ko l):=by
 intro hd;have X:=hl;unfold bF at X;obtain⟨va,vc,rfl⟩:=N.shape;refine aG 42 func164 fun w0=>?_;refine af ?_;refine ce hd [0] [A] [] rfl Ps rfl (QL N hl) ?_;rintro v I2 qs z ac⟨rfl,rfl,T⟩;simp only[Z3]at z |-;rcases T with ⟨V,rfl⟩|⟨i0,d0,L,Z,V,rfl⟩
 .refine af ?_;exact ao rfl z (r:=[_]) rfl (ax _) ⟨A,rfl,rfl,by rw[HI V];exact N⟩
 have G:=(List.getElem?_eq_some_iff.1 L).1;have q1:((i0:Int) == -1)=false:=by rw[hU];omega
 have e1:=Z7 i0;obtain⟨o,rfl⟩:∃o,va=some ⟨o,0,none⟩:=by obtain⟨g,cap,cur,xs,ev,_⟩:=N.open' O fun c a k=>aY.len c a k;simp only[Value.slice.injEq]at ev;exact⟨g,ev.1⟩
 refine bW q1 e1 ?_;refine bz (fun x=>l.length-x.2) (fun x=>uM (.slice (some ⟨o,0,none⟩) l.length vc) (.func (.func 166) #[] #[]) x.1 x.2) (fun(x:Nat×Nat) H=>∃B m,H=U [I2,B]/\Dj [I2,B]/\m.length=l.length/\bL I2 B (.slice (some ⟨o,0,none⟩) l.length vc) m/\x.1<x.2/\x.2<=l.length/\m.take x.1=ko (l.take x.2)/\m.drop x.2=l.drop x.2) (i0,i0+1) ae (by simp only[go_sem,ab,uM]) ?_ ?_
 .refine⟨A,l,rfl,z,rfl,N,iO _,G,?_,rfl⟩;simp only;rw[iL L,C0,HI V];simp[ko,Z]
 rintro⟨i,j⟩ H ⟨B,m,rfl,f,s,M,K,hj,ht,e⟩ b;simp only at K hj ht e;simp only[uM];rcases aB j l.length with t|aq
 .have D:=Z5 j l.length;have w1:=Z7 j;have w2:=Z7 i;obtain⟨d,u⟩:∃d,l[j]?=some d:=⟨_,aL t⟩;have W:m[j]?=some d:=by have:=congrArg (fun x:List aN=>x[0]?) e;simpa[u]using this
  obtain⟨g,cap,cur,c,ev,rfl,c1,c2,hc,a2,C,aa⟩:=M.elem (fun{I} c a h=>aY.len c a h) (fun{I J c a} h k=>aY.le h k) W;simp only[Value.slice.injEq,bv,Addr.mk.injEq,dm]at ev;obtain⟨eg,_,ek⟩:=ev;subst eg;subst ek;obtain⟨ca,ck,rfl,a1⟩:=id hc;refine aj D ?_;refine⟨O,?_⟩;refine Xb (l:=[.int .u8 d.code,.int .i64 d.tok,sD ca ck d.cond,rD d.cond]) (v:=.agg #[.int .u8 d.code,.int .i64 d.tok,sD ca ck d.cond,rD d.cond]) rfl (by simpa using cellsU f (.tail _ (.head _)) C) (.inl ⟨fQ,rfl⟩) ?_;refine cz ?_;refine Xa rfl GS (Im hc) ?_;rintro v H2⟨rfl,rfl⟩;cases hb:decide (d.cond=ff)
  .have q:d.cond≠ff:=rH hb;refine cz ?_;refine⟨O,?_⟩;have mi:(i+1)*4<=m.length*4:=bS _ O;refine oB f rfl rfl rfl rfl rfl (by exact mJ) (by simp;omega) fun w=>?_;refine bW w1 w2 ?_;have hi:i<m.length:=O;obtain⟨y,hy⟩:∃y,m[i]?=some y:=⟨_,aL hi⟩;obtain⟨g',cap',Q,c',P,eA,_,_,_,_,_,p⟩:=M.elem (fun{I} c a h=>aY.len c a h) (fun{I J c a} h k=>aY.le h k) hy;simp only[Value.slice.injEq,bv,Addr.mk.injEq,dm]at P;obtain⟨eg',_,ek'⟩:=P;subst eg';have ec:cur=Q:=by have:=congrFun eA o;simp only[sg,cY,bv,Obj.cells.injEq,dm,dP]at this;exact this
   subst ec;have ag:=p I2 [.int .u8 d.code,.int .i64 d.tok,sD ca ck d.cond,rD d.cond] d (ax _) hc;refine b (i+1,j+1) _ _ bC ae (by simp only[go_sem,ab,uM]) ⟨_,m.set i d,rfl,w,by rw[kD];exact s,ag,by simp only;omega,t,?_,?_⟩
   .simp only;rw[iL u,C0,<-ht];have:(m.set i d)[i]?=some d:=List.getElem?_set_self hi;rw[iL this,List.take_set_of_le (aW i)];simp[ko,q]
   .simp only;rw[List.drop_set_of_lt O];rw[<-kB (i:=1) (j:=j),<-kB (i:=1) (j:=j),e]
  .have q:d.cond=ff:=eF hb;refine dr w1 ?_;refine b (i,j+1) _ _ bC ae (by simp only[go_sem,ab,uM]) ⟨_,m,rfl,f,s,M,by simp only;omega,t,?_,?_⟩
   .simp only;rw[iL u,C0,<-ht];simp[ko,q]
   .simp only;rw[<-kB (i:=1) (j:=j),<-kB (i:=1) (j:=j),e]
 .have:j=l.length:=by omega
  subst this;have D:decide (((l.length:Nat):Int)<(l.length:Int))=false:=ai;rw[cB]at ht;have al:=M;obtain⟨g,cap,cur,xs,ev,rfl,c1,c2,c3,c4,c5,am⟩:=M.open' O fun c a k=>aY.len c a k;simp only[Value.slice.injEq,bv,Addr.mk.injEq,dm]at ev;obtain⟨eg,_,ek⟩:=ev;subst eg;subst ek;have a0:l.length*4<=vc*4:=bS _ O;have ap:i*4+(l.length-i)*4=l.length*4:=by rw[<-fm];congr 1;omega
  have S:eZ (some ⟨o,0,none⟩) 4 i vc=some ⟨o,i*4,none⟩:=by have:¬vc=i:=O;simp[eZ,this,Addr.add];intro h;omega
  have F:eZ (some ⟨o,0,none⟩) 4 0 vc=some ⟨o,0,none⟩:=by simp[eZ,Addr.add]
  refine bW D S ?_;refine⟨O,?_⟩;refine KE (off:=i*4) f (by exact Em) (by exact Kr) (size:=4) rfl rfl rfl rfl (by rfl) O fun ys R w=>?_;refine aj F ?_;refine⟨O,?_⟩;refine aj F ?_;have hS:=al.short (fun{I} c a h=>aY.len c a h) s O (fo K) R;rw[ht]at hS;exact ao rfl w (r:=[_]) rfl (ax _) ⟨_,rfl,rfl,hS⟩
def uZ:ay prog 36:=⟨_,func36,rfl,rfl⟩
def Qb:ay prog 88:=⟨_,func88,rfl,rfl⟩
def GQ:ay prog 159:=⟨_,func159,rfl,rfl⟩
def Hf:ay prog 87:=⟨_,func87,rfl,rfl⟩
def PS:ay prog 33:=⟨_,func33,rfl,rfl⟩
def ve(a:Option Addr)(k:Nat)(t:T)(c:Nat)(u:T):St:=⟨dn 29 [(1,.v (.int .u32 c)),(2,.p 2 0),(5,.v (E (T.plc (T.subs t) u)))],[⟨2,50,[sD a k t,rD t]⟩]⟩
variable{c:Nat}
def u5{H:PH}{t:T}(h:bO H v t)(J:c<2^32):aJ prog 36 #[v,.int .u32 c] H fun r H2=>r=.bool (t.at' (co c))/\H2=H:=by
 obtain⟨g,sl,rfl,K⟩:=h;obtain⟨a,k,rfl,j⟩:=K;have sq:T.Seq (T.subs t):=(T.vis_spec t g O [] T.Seq.nil).1;have z:(T.subs t).length+1<=2^24:=by obtain⟨us,C,e2,_⟩:=(T.vis_spec t g O [] T.Seq.nil).2.2;rw[gk]at C;show (t.vis []).length+1<=_;rw[C];exact e2
 have o:T.isIn (T.subs t) t:=T.subs_in g;refine aG 29 func36 fun w0=>?_
 try simp only[E]
 refine af ?_;refine bz (fun u=>u.sz) (ve a k t c) (fun u H2=>H2=H/\T.isIn (T.subs t) u/\u.at' (co c)=t.at' (co c)) t ae (by simp only[go_sem,ab,ve,E,sD,rD]) ⟨rfl,o,rfl⟩ ?_;rintro u H2 ⟨rfl,x,p⟩ e;simp only[ve];cases u with
 |lf b=>
  have m:decide (((T.plc (T.subs t) (.lf b):Nat):Int)>1)=false:=by cases b<;>simp[T.plc]
  have s:(((T.plc (T.subs t) (.lf b):Nat):Int) == 1)=b:=by cases b<;>simp[T.plc]
  refine bW m s ?_;exact au (r:=[_]) rfl ⟨by rw[<-p];rfl,rfl⟩
 |nd i l r=>
  have hm:T.nd i l r∈T.subs t:=x;have I:=rB hm;have hp:T.plc (T.subs t) (.nd i l r)=(T.subs t).idxOf (.nd i l r)+2:=rfl;have m:decide (((T.plc (T.subs t) (.nd i l r):Nat):Int)>1)=true:=by rw[hp];simp;omega
  have w:IntKind.i64.wrap (((T.plc (T.subs t) (.nd i l r):Nat):Int)-2)=(((T.subs t).idxOf (.nd i l r):Nat):Int):=by rw[<-wrap64 (n:=(T.subs t).idxOf (.nd i l r)) O,hp];congr 1;omega
  obtain⟨F,D⟩:=sq.kids hm;have A:i<24:=(sq.okk x).2.1;have q:T.dec (T.subs t) (.nd i l r)=(i,T.plc (T.subs t) l,T.plc (T.subs t) r):=rfl;rcases j with L|⟨b,rfl,j⟩
  .rw[L]at hm;simp at hm
  apply RG;simp only[go_sem,E,sD,rD,m,w];refine⟨O,?_⟩;have B:=T.plc_get hm;rw[hp,rG]at B;have G:(iM (T.subs t)).length=(T.subs t).length*3:=rp _;have f:=j.sub ((T.subs t).idxOf (.nd i l r)*3) 3 O;rw[rn B,eR,q]at f;refine Xb (l:=gi (i,T.plc (T.subs t) l,T.plc (T.subs t) r)) (v:=cT (i,T.plc (T.subs t) l,T.plc (T.subs t) r)) rfl f (.inl ⟨l7,rfl⟩) ?_;have y:j8 .u32 (kw .u32 (c:Int) (i:Int)) 1=((((c >>> i)&&&1:Nat)):Int):=by rw[zI O];exact jL (b:=1) (zK J) O
  have d:=Bu c i;cases hb:c.testBit i
  .rw[hb]at d;apply RG;simp only[go_sem,E,sD,rD,cT,fN,y,d];refine e l _ _ ?_ ae (by simp only[go_sem,ab,ve,E,sD,rD]) ⟨rfl,F,?_⟩
   .simp only[T.sz];omega
   .rw[<-p];simp[T.at',co,hb]
  .rw[hb]at d;apply RG;simp only[go_sem,E,sD,rD,cT,fN,y,d];refine e r _ _ ?_ ae (by simp only[go_sem,ab,ve,E,sD,rD]) ⟨rfl,D,?_⟩
   .simp only[T.sz];omega
   .rw[<-p];simp[T.at',co,hb]
def oq(c:PH)(b:Value)(g:T->T):Prop:=∃a first cap,b=.func (.func a) first cap/\ay prog a/\∀{I:PH} {v:Value} {d:T},c.le I->bO I v d->aI prog a (first++#[v]++cap) I [] fun r I2 qs=>qs=[]/\bO I2 r (g d)
variable{g:T->T}{J:PH}
def oq.le{vf:Value}(h:oq I vf g)(k:I.le J):oq J vf g:=by obtain⟨a,first,cap,e,b,hd⟩:=h;exact⟨a,first,cap,e,b,fun k2 hr=>hd (Y k k2) hr⟩
def kT(c:Nat)(d:T):T:=.lf (d.at' (co c))
def IT(I:PH):bO I (.agg #[.slice none 0 0,E 1]) (.lf true):=nV I true
def we(I:PH):bO I (.agg #[.slice none 0 0,E 0]) (.lf false):=nV I false
def TQ{I0:PH}{cb:Nat}(hb:aX I0 cb 0 [.int .u32 c])(f:c<2^32):oq I0 (.func (.func 88) #[] #[pt cb]) (kT c):=by
 refine⟨88,#[],#[pt cb],rfl,Qb,fun{I v d} e hr hd=>?_⟩;obtain⟨a,k,rfl⟩:=hr.shape2;show aJ prog 88 #[.agg #[sD a k d,rD d],pt cb] _ _;refine aG 9 func88 fun w0=>?_
 try simp only[E,pt,sD,rD]
 refine af ?_;refine Xb (l:=[.int .u32 c]) rfl (cellsU hd (.head _) (hb.le e)) (.inr ⟨dz,rfl⟩) ?_;refine af ?_;refine Xa rfl uZ (u5 (hr.le (eP hd)) f) ?_;rintro v H2⟨rfl,rfl⟩;cases b:d.at' (co c)
 .refine af ?_;refine Xa rfl u0 (uS _) ?_;rintro v H2⟨rfl,rfl⟩;refine av ?_;exact ao rfl hd (r:=[.agg #[.slice none 0 0,.int .i64 0]]) (by simp only[results88,go_sem,E]) (ax _) ⟨rfl,by unfold kT;rw[b];exact we I⟩
 .refine af ?_;refine Xa rfl uY (wN _) ?_;rintro v H2⟨rfl,rfl⟩;refine av ?_;exact ao rfl hd (r:=[.agg #[.slice none 0 0,.int .i64 1]]) (by simp only[results88,go_sem,E]) (ax _) ⟨rfl,by unfold kT;rw[b];exact IT I⟩
structure rI(g:T->T)(F:List Nd->List Nd):Prop where
 nil:F []=[]
 app:∀a b,F (a++b)=F a++F b
 one:∀n:Nd,F [n]=if g n.cond=ff then []else [{ n with kids:=F n.kids,cond:=g n.cond }]
variable{F:List Nd->List Nd}
def rI.take_le(h:rI g F)(i:Nat)(l:List Nd):aw (F (l.take i))<=aw (F l):=by
 conv=>rhs;rw[<-fl i l]
 rw[h.app,jr];omega
def FP(c:Nat):rI (kT c) (pL (co c)):=by refine⟨rfl,ID _,fun n=>?_⟩;rw[Tz];unfold kT;cases n.cond.at' (co c)<;>simp
def uE(b a:Value)(n:Nat)(x:Nat×Value):St:=⟨dn 34 [(1,.v b),(5,.v x.2),(8,.v a),(9,.v (E n)),(10,.v (E x.1))],[]⟩
def MY(F:List Nd->List Nd)(l:List Nd)(a:PH)(x:Nat×Value)(H:PH):Prop:=∃I A,H=U [I,A]/\Dj [I,A]/\a.le I/\x.1<=l.length/\aT I A x.2 (F (l.take x.1))
def Na(t:rI g F):∀(m:Nat) {I:PH} {v vf:Value} {l:List Nd},aw l<m->de I v l->jB v->oq I vf g->aw (F l)<=bF->
  aI prog 159 #[v,vf] I [] fun r I2 qs=>∃A,qs=[A]/\aT I2 A r (F l):=by
 intro m
 induction m with
 |zero=>intro I v vf l hm;omega
 |succ m ih=>
 intro I v vf l hm hS hC hG hz hd;obtain⟨va,vc,rfl,_⟩:=id hS;obtain⟨fid,first,cap,rfl,ac,al⟩:=id hG;unfold bF at hz;refine aG 34 func159 fun w0=>?_
 try simp only[E]
 refine af ?_;refine dR hd fun aq=>?_;refine bz (fun x=>l.length-x.1) (uE (.func (.func fid) first cap) (.slice va l.length vc) l.length) (MY F l I) (0,.slice none 0 0) ae (by simp only[go_sem,ab,uE]) ?_ ?_
 .exact⟨I,PH.no,rfl,aq,ax _,bg _,by rw[od,t.nil];exact Ow.nil _ _ _ _⟩
 rintro⟨i,vo⟩ H ⟨I1,W,rfl,C,e,hi,L⟩ f;simp only at hi L;simp only[uE];obtain⟨oa,oc,rfl⟩:=L.shape;rcases aB i l.length with o|a9
 .have G:decide ((i:Int)<(l.length:Int))=true:=by simp;omega
  have V:=mO hC o;obtain⟨n,P⟩:∃n,l[i]?=some n:=⟨_,aL o⟩;obtain⟨b,off,cs,rfl,a0,D⟩:=Sl.load az.len (de.le hS e) P;obtain⟨vk,na,nk,rfl,M,j,U⟩:=a0.shape;obtain⟨ka,kc,rfl,_⟩:=id j;have a6:=iK (cH P);have w:=t.take_le (i+1) l;rw[iL P,t.app,jr]at w;have a7:=fJ (F (l.take i));refine dr G ?_;refine⟨O,?_⟩;refine Xb (l:=[.int .u8 n.kind,.string ⟨⟨n.text⟩⟩,.int .i64 n.tok,.int .i64 n.slot,.slice ka n.kids.length kc,sD na nk n.cond,rD n.cond]) (v:=.agg #[.int .u8 n.kind,.string ⟨⟨n.text⟩⟩,.int .i64 n.tok,.int .i64 n.slot,.slice ka n.kids.length kc,sD na nk n.cond,rD n.cond]) rfl (cellsU C (.head _) D) (.inl ⟨bK,rfl⟩) ?_;refine cz ?_;refine ce C [0] [] [W] rfl ac rfl (al e M) ?_;rintro v I3 qs B d⟨rfl,y⟩;obtain⟨za,zk,rfl⟩:=y.shape2;simp only[Z3]at B |-;refine cz ?_;refine Xa rfl nC (ny y) ?_;rintro v H2⟨rfl,rfl⟩;cases p:decide (g n.cond=.lf false)
  .have N:g n.cond≠ff:=by simpa using p
   rw[t.one,ad N,eK,lL]at w;simp only at w;apply RG;simp only[go_sem,E,sD,rD,p,cF];refine ce B [0] [] [W] rfl GQ rfl (ih (l:=n.kids) O (de.le j d) U (oq.le hG (Y e d)) (by unfold bF;omega)) ?_;rintro v I4 qs S R⟨K,rfl,hK⟩;simp only[Z3]at S |-;obtain⟨qa,qc,rfl⟩:=hK.shape;have a3:=hK.capN az.len;refine bq S [0,1] fun z=>?_;refine bH z fun I5 z s a4=>?_;have a2:de I5 (.slice qa (F n.kids).length qc) (F n.kids):=aT.sl hK s a4;refine cz ?_;refine cd z (by exact lJ) rfl rfl rfl rfl rfl aR fun nb I6 ap q aa=>?_;have u:=Y R (Y s q);have a1:de I6 (.slice (some ⟨nb,0,none⟩) 1 1) [{ n with kids:=F n.kids,cond:=g n.cond }]:=UQ (bD aa (by simp[aD,Value.cells]) (by simp[aD,Value.cells,E,sD,rD])) (az.mk (n:={ n with kids:=F n.kids,cond:=g n.cond }) (y.le u) (de.le a2 q) a3);refine cz ?_;refine dX ap (by exact lJ) (aT.le L (Y d u)) (a1) (fun{I J c a} h k=>az.le h k) (fun{I} c a h=>az.len c a h) (fun{I} c a h=>az.ones h) rfl rfl rfl rfl (by first|omega|(simp only[bf,bA];omega)) (by unfold maxLen;first|omega|(simp only[bf,bA];omega)) fun ua uc I7 A7 am Q a5=>?_;refine dr V ?_;have X:=Y e (Y d (Y u Q));exact f (i+1,.slice ua (F (l.take i)++[{ n with kids:=F n.kids,cond:=g n.cond }]).length uc) _ _ bC wt (by simp only[go_sem,ab,uE,E,sD,rD]) ⟨I7,A7,rfl,am,X,o,by simp only;rw[iL P,t.app,t.one,ad N];exact a5⟩
  .have ag:g n.cond=ff:=by simpa using p
   apply RG;simp only[go_sem,E,sD,rD,p,bX,V];exact f (i+1,.slice oa (F (l.take i)).length oc) _ _ bC wt (by simp only[go_sem,ab,uE,E,sD,rD]) ⟨I3,W,rfl,B,Y e d,o,by simp only;rw[iL P,t.app,t.one,ak ag,ab];exact aT.le L d⟩
 .have:i=l.length:=by omega
  subst this;have G:decide (((l.length:Nat):Int)<(l.length:Int))=false:=ai;refine dr G ?_;exact ao rfl C (r:=[_]) rfl e ⟨W,rfl,by rw[cB]at L |-;exact L⟩
def gh(I:PH)(v:Value)(t:Tr):Prop:=∃a vd,v=.agg #[a,vd]/\de I a t.kids/\jB a/\Sl aY I vd t.diags/\jB vd
def SlE.le(h:Sl aY I v l)(k:I.le J):Sl aY J v l:=Sl.le (R:=aY) (fun{I J c a} h k=>aY.le h k) h k
variable{t:Tr}
def gh.le(h:gh I v t)(k:I.le J):gh J v t:=by obtain⟨a,vd,e,h1,h2,h3,b⟩:=h;exact⟨a,vd,e,de.le h1 k,h2,SlE.le h3 k,b⟩
def gD(g:T->T)(e:List aN):List aN:=e.flatMap fun d=>if g d.cond=ff then []else [{ d with cond:=g d.cond }]
def MV(g:T->T)(a b:List aN):gD g (a++b)=gD g a++gD g b:=by simp[gD]
def FO(g:T->T):∀e,(gD g e).length<=e.length
 | []=>aW _
 |d::e=>by have:=FO g e;have h:gD g (d::e)=(if g d.cond=ff then []else [{ d with cond:=g d.cond }])++gD g e:=rfl;rw[h];split<;>simp<;>omega
def MW(c:Nat)(e:List aN):gD (kT c) e=s9 (co c) e:=by
 induction e with
 |nil=>rfl
 |cons d e a=>have h:gD (kT c) (d::e)=(if kT c d.cond=ff then []else [{ d with cond:=kT c d.cond }])++gD (kT c) e:=rfl;rw[h,a];unfold s9 kT;cases hd:d.cond.at' (co c)<;>simp[gJ,hd]
def bL.sl(h:bL I A v l)(h1:I.le J)(h2:A.le J):Sl aY J v l:=fZ (R:=aY) (fun{I J c a} h k=>aY.le h k) h h1 h2
def vN(c d vd a b:Value)(n:Nat)(x:Nat×Value):St:=⟨dn 37 [(1,.v c),(4,.p 4 0),(5,.p 5 0),(14,.v b),(15,.v (E n)),(16,.v (E x.1))],[⟨4,36,[.slice none 0 0,.slice none 0 0]⟩,⟨5,36,[a,x.2]⟩]⟩
def Tx(g:T->T)(l:List aN)(a:PH)(x:Nat×Value)(H:PH):Prop:=∃I A,H=U [I,A]/\Dj [I,A]/\a.le I/\x.1<=l.length/\bL I A x.2 (gD g (l.take x.1))
def IC(hF:rI g F){vf:Value}(hT:gh I v t)(hG:oq I vf g)(hz:aw (F t.kids)<=bF)(Z:t.diags.length<=bF):
  aI prog 87 #[v,vf] I [] fun r I2 qs=>qs=[]/\gh I2 r ⟨F t.kids,gD g t.diags⟩:=by
 obtain⟨vk,vd,rfl,hK,a6,hD,a9⟩:=hT;obtain⟨fid,first,cap,rfl,al,ap⟩:=id hG;obtain⟨ka,kc,rfl,_⟩:=id hK;obtain⟨da,dc,rfl,_⟩:=id hD;have L:=Z;unfold bF at L;intro hd;refine aG 37 func87 fun w0=>?_
 try simp only[E]
 refine af ?_;refine dq hd rfl GQ (Na hF (aw t.kids+1) (iO _) hK a6 hG hz) ?_;rintro v1 I1 qs a2 P⟨K,rfl,C⟩;obtain⟨W,V,rfl⟩:=C.shape;have S:=C.capN az.len;refine bq a2 [0] fun A=>?_;refine bH A fun I2 A u a5=>?_;have a7:de I2 (.slice W (F t.kids).length V) (F t.kids):=aT.sl C u a5;have w:=Y P u;refine af ?_;refine dR A fun a1=>?_;refine bz (fun x=>t.diags.length-x.1) (vN (.func (.func fid) first cap) (.slice ka t.kids.length kc) (.slice da t.diags.length dc) (.slice W (F t.kids).length V) (.slice da t.diags.length dc) t.diags.length) (Tx g t.diags I2) (0,.slice none 0 0) ae (by simp only[go_sem,ab,vN]) ?_ ?_
 .exact⟨I2,PH.no,rfl,a1,ax _,bg _,Ow.nil _ _ _ _⟩
 rintro⟨i,vo⟩ H ⟨I3,A3,rfl,z,e,hi,D⟩ n;simp only at hi D;simp only[vN];obtain⟨oa,oc,rfl⟩:=D.shape;rcases aB i t.diags.length with q|bd
 .have G:decide ((i:Int)<(t.diags.length:Int))=true:=by simp;omega
  have U:=mO a9 q;obtain⟨d,Q⟩:∃d,t.diags[i]?=some d:=⟨_,aL q⟩;obtain⟨b,off,cs,rfl,a3,B⟩:=Sl.load aY.len (SlE.le hD (Y w e)) Q;obtain⟨na,nk,rfl,M⟩:=id a3;have aa:=FO g (t.diags.take i);rw[eE]at aa;have j:gD g (t.diags.take (i+1))=gD g (t.diags.take i)++(if g d.cond=ff then []else [{ d with cond:=g d.cond }]):=by rw[iL Q,MV];simp[gD]
  refine dr G ?_;refine⟨O,?_⟩;refine Xb (l:=[.int .u8 d.code,.int .i64 d.tok,sD na nk d.cond,rD d.cond]) (v:=.agg #[.int .u8 d.code,.int .i64 d.tok,sD na nk d.cond,rD d.cond]) rfl (cellsU z (.head _) B) (.inl ⟨fQ,rfl⟩) ?_;refine cz ?_;refine ce z [0] [] [A3] rfl al rfl (ap (Y w e) M) ?_;rintro v I4 qs f m⟨rfl,y⟩;obtain⟨za,zk,rfl⟩:=y.shape2;simp only[Z3]at f |-;refine cz ?_;refine Xa rfl nC (ny y) ?_;rintro v H2⟨rfl,rfl⟩;cases s:decide (g d.cond=.lf false)
  .have ac:g d.cond≠ff:=by simpa using s
   rw[ad ac]at j;apply RG;simp only[go_sem,E,sD,rD,s,cF];refine cd f (by exact lh) rfl rfl rfl rfl rfl aR fun nb I6 a0 o ag=>?_;have a4:Sl aY I6 (.slice (some ⟨nb,0,none⟩) 1 1) [{ d with cond:=g d.cond }]:=⟨_,_,rfl,.inr ⟨nb,0,_,rfl,bD ag (by simp[aD,Value.cells]) (by simp[aD,Value.cells,E,sD,rD]),.one ⟨za,zk,rfl,y.le o⟩⟩⟩;refine cz ?_;refine dX (R:=aY) (xs:=gD g (t.diags.take i)) (ys:=[{ d with cond:=g d.cond }]) a0 (by exact lh) (bL.le D (Y m o)) a4 (fun{I J c a} h k=>aY.le h k) (fun{I} c a h=>aY.len c a h) (fun{I} c a h=>aY.ones h) rfl rfl rfl rfl (by simp only[bf,bA];omega) (by simp only[bf,bA];unfold maxLen;omega) fun ua uc I7 A7 aq N bc=>?_;refine dr U ?_;have X:=Y m (Y o N);exact n (i+1,.slice ua (gD g (t.diags.take i)++[{ d with cond:=g d.cond }]).length uc) _ _ bC wt (by simp only[go_sem,ab,vN,E,sD,rD]) ⟨I7,A7,rfl,aq,Y e X,q,by simp only;rw[j];exact bc⟩
  .have am:g d.cond=ff:=by simpa using s
   rw[ak am,ab]at j;apply RG;simp only[go_sem,E,sD,rD,s,bX,U];exact n (i+1,.slice oa (gD g (t.diags.take i)).length oc) _ _ bC wt (by simp only[go_sem,ab,vN,E,sD,rD]) ⟨I4,A3,rfl,f,Y e m,q,by simp only;rw[j];exact bL.le D m⟩
 .have:i=t.diags.length:=by omega
  subst this;have G:decide (((t.diags.length:Nat):Int)<(t.diags.length:Int))=false:=ai;rw[cB]at D |-;have bb:=Ow.capN (R:=aY) D (fun c a h=>aY.len c a h);refine bq z [0] fun f=>?_;refine bH (c:=.st _) f fun I5 f p ba=>?_;refine dr G ?_;exact ao rfl f (r:=[.agg #[.slice W (F t.kids).length V,.slice oa (gD g t.diags).length oc]]) (by simp only[results87,go_sem,E]) (Y w (Y e p)) ⟨rfl,_,_,rfl,de.le a7 (Y e p),S,bL.sl D p ba,bb⟩
def TS(j:gh I v t)(p:c<2^32)(n:aw t.kids<=bF)(d:t.diags.length<=bF):aI prog 33 #[v,.int .u32 c] I [] fun r I2 qs=>qs=[]/\gh I2 r (prj (co c) t):=by
 obtain⟨y,vd,rfl,A,q,B,s⟩:=id j;intro hd;refine aG 8 func33 fun w0=>?_
 try simp only[E]
 apply bU 6;simp only[go_sem];refine jE 3 hd rfl fun i g=>?_;refine bH (c:=.st _) g fun I2 f a h=>?_;have hb:aX I2 i 0 [.int .u32 c]:=(gX ai rfl:aX (sg i (.cells [.int .u32 c].toArray 23 (0,0))) i 0 [.int .u32 c]).le h;apply RG;simp only[go_sem,iH,List.map,pt];refine dq f rfl Hf (IC (FP c) (j.le a) (TQ hb p) (cO (Ae _ _) n) d) ?_;rintro z C qs e b⟨rfl,hr⟩;obtain⟨w,x,rfl,h1,h2,h3,u⟩:=hr;rw[MW]at h3;obtain⟨m,l,rfl,_⟩:=id h1;obtain⟨k,yc,rfl,_⟩:=id h3;refine af ?_;exact ao rfl e (r:=[.agg #[.slice m (pL (co c) t.kids).length l,.slice k (s9 (co c) t.diags).length yc]]) (by simp only[results33,go_sem]) (Y a b) ⟨rfl,_,_,rfl,h1,h2,h3,u⟩
end Go.Proofs.YtfaclfkpnmcmlaaGreatDoor
namespace Syn
open Dg
def lF(o:List aN)(d:aN):List aN:=
 match o.getLast? with
 |some x=>if x.key=d.key then o.dropLast++[{ x with cond:=x.cond.or d.cond }]else o++[d]
 |none=>[d]
structure jY(p o:List aN):Prop where
 so:o.Pairwise fun a b=>fF a.key b.key=true
 ks:∀k,k∈o.map aN.key<->k∈p.map aN.key
 ok:∀x∈o,x.cond.ok 0
 at':∀x∈o,∀c,x.cond.at' c=true<->∃d∈p,d.key=x.key/\d.cond.at' c=true
def jY.nil:jY [] []:=⟨List.Pairwise.nil,fun k=>Iff.rfl,fun x h=>by simp at h,fun x h=>by simp at h⟩
theorem jY.put{p o:List aN}{d:aN}(h:jY p o)(hd:d.cond.ok 0)(A:∀x∈p,fF d.key x.key=false):jY (p++[d]) (lF o d):=by
 have v:∀x∈o,fF d.key x.key=false:=fun x u=>by obtain⟨y,f,e⟩:=List.mem_map.1 ((h.ks x.key).1 (List.mem_map_of_mem u));rw[<-e];exact A y f
 unfold lF;cases w:o.getLast? with
 |none=>
  have B:o=[]:=List.getLast?_eq_none_iff.1 w;subst B;have hp:p=[]:=by
   cases p with
   |nil=>rfl
   |cons y p=>exact absurd ((h.ks y.key).2 ai) ai
  subst hp;refine⟨kE _ _,fun k=>by simp,fun x u=>?_,fun x u c=>?_⟩
  .rw[List.mem_singleton.1 u];exact hd
  .rw[List.mem_singleton.1 u];constructor
   .intro r;exact⟨d,by simp,rfl,r⟩
   .rintro⟨y,f,_,r⟩;have:y=d:=by simpa using f
    rw[<-this];exact r
 |some x=>
  obtain⟨q,rfl⟩:=List.getLast?_eq_some_iff.1 w;simp only;have m:x∈q++[x]:=ai;have n:∀y∈q,fF y.key x.key=true:=fun y f=>by have:=(List.pairwise_append.1 h.so).2.2 y f x ai;exact this
  split
  .rename_i e;rw[List.dropLast_concat];have s:=h.ok x m;refine⟨?_,fun k=>?_,fun y f=>?_,fun y f c=>?_⟩
   .have:=List.pairwise_append.1 h.so;refine List.pairwise_append.2 ⟨this.1,kE _ _,fun a ha b hb=>?_⟩;rw[List.mem_singleton.1 hb];exact n a ha
   .have:=h.ks k;simp only[jV,gS,jW,List.map_nil,List.mem_singleton]at this |-;show k∈q.map aN.key\/k=x.key<->_;rw[this,<-e];constructor
    .exact .inl
    .rintro(h1|h1)
     .exact h1
     .rw[h1];exact(h.ks x.key).1 (List.mem_map_of_mem m)
   .rcases List.mem_append.1 f with h1|h1
    .exact h.ok y (dk _ h1)
    .rw[List.mem_singleton.1 h1];exact T.or_ok s hd
   .rcases List.mem_append.1 f with h1|h1
    .rw[h.at' y (dk _ h1) c];have j:d.key≠y.key:=fun e2=>by have:=n y h1;rw[e,e2,gZ.irr]at this;cases this
     constructor
     .rintro⟨z,i,g,e2⟩;exact⟨z,by simp[i],g,e2⟩
     .rintro⟨z,i,g,e2⟩;rcases List.mem_append.1 i with h2|h2
      .exact⟨z,h2,g,e2⟩
      .rw[List.mem_singleton.1 h2]at g;exact absurd g j
    .rw[List.mem_singleton.1 h1];show (x.cond.or d.cond).at' c=true<->_;rw[T.or_at s hd,im,h.at' x m c];show _<->∃z∈p++[d],z.key=x.key/\_;constructor
     .rintro(⟨z,i,g,e2⟩|r)
      .exact⟨z,by simp[i],g,e2⟩
      .exact⟨d,by simp,e.symm,r⟩
     .rintro⟨z,i,g,e2⟩;rcases List.mem_append.1 i with h2|h2
      .exact .inl ⟨z,h2,g,e2⟩
      .rw[List.mem_singleton.1 h2]at e2;exact .inr e2
  .rename_i j;have t:fF x.key d.key=true:=by
    have h1:=v x m;cases h2:fF x.key d.key with
    |true=>rfl
    |false=>exact absurd (gZ.tri _ _ h2 h1) j
   have l:∀y∈q++[x],fF y.key d.key=true:=fun y f=>by
    rcases List.mem_append.1 f with h1|h1
    .exact gZ.tr _ _ _ (n y h1) t
    .rw[List.mem_singleton.1 h1];exact t
   refine⟨List.pairwise_append.2 ⟨h.so,kE _ _,fun a ha b hb=>by rw[List.mem_singleton.1 hb];exact l a ha⟩,fun k=>?_,fun y f=>?_,fun y f c=>?_⟩
   .rw[jV (l₁:=q++[x]),jV (l₁:=p),gS,gS,h.ks k]
   .rcases List.mem_append.1 f with h1|h1
    .exact h.ok y h1
    .rw[List.mem_singleton.1 h1];exact hd
   .rcases List.mem_append.1 f with h1|h1
    .rw[h.at' y h1 c];have j:d.key≠y.key:=fun e2=>by have:=l y h1;rw[<-e2,gZ.irr]at this;cases this
     constructor
     .rintro⟨z,i,g,e2⟩;exact⟨z,by simp[i],g,e2⟩
     .rintro⟨z,i,g,e2⟩;rcases List.mem_append.1 i with h2|h2
      .exact⟨z,h2,g,e2⟩
      .rw[List.mem_singleton.1 h2]at g;exact absurd g j
    .rw[List.mem_singleton.1 h1];constructor
     .intro r;exact⟨d,by simp,rfl,r⟩
     .rintro⟨z,i,g,e2⟩;rcases List.mem_append.1 i with h2|h2
      .have h3:=(h.ks d.key).2 (by rw[<-g];exact List.mem_map_of_mem h2);obtain⟨y,f,C⟩:=List.mem_map.1 h3;have:=l y f;rw[C,gZ.irr]at this;cases this
      .rw[List.mem_singleton.1 h2]at e2;exact e2
def jY.all:∀(l p o:List aN),jY p o->(∀d∈l,d.cond.ok 0)->(p++l).Pairwise (fun a b=>fF b.key a.key=false)->jY (p++l) (l.foldl lF o)
 | [],p,o,h,_,_=>by simpa using h
 |d::l,p,o,h,c,e=>by have h1:=List.pairwise_append.1 e;have:=jY.all l (p++[d]) (lF o d) (h.put (c d (.head _)) fun x g=>h1.2.2 x g d (.head _)) (fun y f=>c y (.tail _ f)) (by simpa using e);simpa using this
def jY.eq{p o l:List aN}(h:jY p o)(hp:∀d,d∈p<->d∈l/\d.cond≠ff)(f:pF l):o=cK l:=by
 have g:o.map aN.key=ew l:=by
  refine tz gZ (List.pairwise_map.2 h.so) (wr gZ _) fun k=>?_;unfold ew;rw[h.ks k,zE gZ];simp only[mW,jx,cu];constructor
  .rintro⟨d,hd,e⟩;exact⟨d,(hp d).1 hd,e⟩
  .rintro⟨d,hd,e⟩;exact⟨d,(hp d).2 hd,e⟩
 unfold cK;rw[<-g,List.map_map]
 conv=>lhs;rw[<-List.map_id o]
 refine n8 fun x b=>?_;have i:x.cond=jN l x.key:=by
  refine T.ext (h.ok x b) (NB f) fun c=>?_;have h1:=h.at' x b c;have h2:=Nz (k:=x.key) (c:=c) f;have h3:x.cond.at' c=true<->(jN l x.key).at' c=true:=by
   rw[h1,h2];constructor
   .rintro⟨d,hd,a,e2⟩;exact⟨d,((hp d).1 hd).1,a,e2⟩
   .rintro⟨d,hd,a,e2⟩;exact⟨d,(hp d).2 ⟨hd,fun e=>by rw[e]at e2;cases e2⟩,a,e2⟩
  cases ha:x.cond.at' c<;>cases hb:(jN l x.key).at' c<;>simp_all
 simp only[id,Function.comp];rw[<-i];cases x;rfl
mutual
def qB:Nd->Prop
 |⟨k,x,t,s,ks,_⟩=>(k<256/\-9223372036854775808<=t/\t<9223372036854775808/\-9223372036854775808<=s/\s<9223372036854775808/\x.length<4611686018427387904)/\iY ks
def iY:List Nd->Prop
 | []=>True
 |n::l=>qB n/\iY l
end
variable{l:List Nd}
def o9:iY l<->∀n∈l,qB n:=by
 induction l with
 |nil=>simp[iY]
 |cons n l a=>simp[iY,a]
def Cg{n:Nd}:qB n<->(n.kind<256/\-9223372036854775808<=n.tok/\n.tok<9223372036854775808/\-9223372036854775808<=n.slot/\n.slot<9223372036854775808/\n.text.length<4611686018427387904)/\iY n.kids:=by cases n;rfl
def Ou(h:iY l)(k:fc):iY (fH l k):=o9.2 fun x a=>by obtain⟨n,b,_,_,a⟩:=Da a;exact o9.1 (Cg.1 (o9.1 h n b)).2 x a
end Syn
namespace Go.Proofs.YtfaclfkpnmcmlaaGreatDoor
open Go Go.Sx Dg Syn
def rT(A:PH):U [A]=A:=PH.uni_no A
def Gb:∀{Ks:List PH} {i:Nat} {Ki:PH},Ks[i]?=some Ki->Ks.Perm (Ki::Ks.eraseIdx i)
 | [],i,Ki,h=>by simp at h
 |a::l,0,Ki,h=>by simp only[mV,bv]at h;subst h;exact List.Perm.refl _
 |a::l,i+1,Ki,h=>by rw[pX]at h;exact((Gb h).cons a).trans (List.Perm.swap Ki a _)
def Jm:∀{Ks:List PH} {i:Nat} (K':PH),i<Ks.length->(K'::Ks.eraseIdx i).Perm (Ks.set i K')
 | [],i,K',h=>by simp at h
 |a::l,0,K',h=>List.Perm.refl _
 |a::l,i+1,K',h=>(List.Perm.swap a K' _).trans ((Jm K' (by simpa using h)).cons a)
def Ba(A:PH)(l:List PH):U [A,U l]=U (A::l):=by show A.uni (U [U l])=A.uni (U l);rw[rT]
variable{l:List PH}{A:PH}
def Ku(h:Dj (A::l)):Dj [A,U l]:=by have:=h.head;refine List.pairwise_cons.2 ⟨fun B a=>?_,kE _ _⟩;rw[List.mem_singleton.1 a];exact this
def Ez(h:Dj [A,U l])(a:Dj l):Dj (A::l):=a.cons (by
 have:=h.head
 rwa [rT]at this)
def Kv{X:PH}{m:List PH}(h:Dj (l++[X]))(e:U m=X)(hm:Dj m):U (l++[X])=U (l++m)/\Dj (l++m):=by obtain⟨a,b,c⟩:=lR.1 h;rw[rT]at c;refine⟨by rw[oM,oM,rT,e],lR.2 ⟨a,hm,by rw[e];exact c⟩⟩
def Ey{m:List PH}(h:Dj (l++m)):U (l++m)=U (l++[U m])/\Dj (l++[U m]):=by obtain⟨a,b,c⟩:=lR.1 h;refine⟨by rw[oM,oM,rT],lR.2 ⟨a,kE _ _,by rw[rT];exact c⟩⟩
variable{Ks:List PH}
def Lx{i:Nat}{Ki:PH}(hd:Dj (l++[U Ks]))(a:Dj Ks)(hi:Ks[i]?=some Ki):U (l++[U Ks])=U (l++[Ki,U (Ks.eraseIdx i)])/\Dj (l++[Ki,U (Ks.eraseIdx i)]):=by obtain⟨e,d⟩:=kM (Gb hi) a;exact Kv hd (by rw[Ba,e]) (Ku d)
def Ly{i:Nat}{K':PH}(hd:Dj (l++[K',U (Ks.eraseIdx i)]))(b:Dj Ks)(hi:i<Ks.length):U (l++[K',U (Ks.eraseIdx i)])=U (l++[U (Ks.set i K')])/\Dj (l++[U (Ks.set i K')])/\Dj (Ks.set i K'):=by have h1:Dj (Ks.eraseIdx i):=List.Pairwise.sublist (List.eraseIdx_sublist _ _) b;have h2:Dj (K'::Ks.eraseIdx i):=Ez (lR.1 hd).2.1 h1;obtain⟨e,d⟩:=kM (Jm K' hi) h2;obtain⟨a,d3⟩:=Ey hd;rw[Ba,e]at a d3;exact⟨a,d3,d⟩
def Lz{K':PH}(hd:Dj (l++[K',U Ks]))(b:Dj Ks):U (l++[K',U Ks])=U (l++[U (Ks++[K'])])/\Dj (l++[U (Ks++[K'])])/\Dj (Ks++[K']):=by have h2:Dj (K'::Ks):=Ez (lR.1 hd).2.1 b;obtain⟨e,d⟩:=kM (List.perm_append_singleton K' Ks).symm h2;obtain⟨a,d3⟩:=Ey hd;rw[Ba,e]at a d3;exact⟨a,d3,d⟩
def eG(I:PH)(c:List Value)(p:PH×Nd):Prop:=∃b a k,c=[.int .u8 p.2.kind,.string ⟨⟨p.2.text⟩⟩,.int .i64 p.2.tok,.int .i64 p.2.slot,b,sD a k p.2.cond,rD p.2.cond]/\bO I (.agg #[sD a k p.2.cond,rD p.2.cond]) p.2.cond/\aT I p.1 b p.2.kids
variable{p:PH×Nd}{c:List Value}{I:PH}
def eG.le{J:PH}(h:eG I c p)(b:I.le J):eG J c p:=by obtain⟨d,a,k,e,h1,h2⟩:=h;exact⟨d,a,k,e,h1.le b,aT.le h2 b⟩
def eG.len(c:List Value)(p:PH×Nd)(h:eG I c p):c.length=7:=by obtain⟨b,a,k,e,_⟩:=h;rw[e];rfl
def eG.ones(h:eG I c p):c.all Sx.one=true:=by obtain⟨d,a,k,e,_,b⟩:=h;obtain⟨x,y,rfl⟩:=b.shape;rw[e];rfl
def eG.still{J:PH}(h:eG I c p)(h1:I.le J)(h2:p.1.le J):az J c p.2:=by obtain⟨d,a,k,rfl,hr,b⟩:=h;exact az.mk (hr.le h1) (aT.sl b h1 h2) (b.capN az.len)
def LR.still{I J:PH}(h1:I.le J):∀{l:List (PH×Nd)} {xs:List Value},LR (eG I) xs l->(∀p∈l,p.1.le J)->LR (az J) xs (l.map Prod.snd)
 | [],xs,h,_=>h
 |p::l,xs,⟨c,ys,e,a,b⟩,hp=>⟨c,ys,e,a.still h1 (hp p (.head _)),LR.still h1 b fun q d=>hp q (.tail _ d)⟩
def vT(o:List Nd)(y u:Value):Prop:=∃j m,o[j]?=some m/\y=ji m.key/\u=E j
def Hy{a b:fc}(h:ji a=ji b):a=b:=by
 unfold ji at h;simp only[Value.agg.injEq,Array.mk.injEq,tL,Value.int.injEq,Value.string.injEq,dm,dP]at h;obtain⟨h1,h2,h3,d⟩:=h;have e:a.kind=b.kind:=O;have c:a.text=b.text:=by have:=congrArg (fun x:ByteArray=>x.data.toList) d;exact this
 cases a;cases b
 simp_all
def JY:prog.underlying 240=some (.struct #[⟨ "slot",3,0,false,"","motley/syntax",0⟩,⟨ "tok",3,1,false,"","motley/syntax",8⟩,⟨ "kind",5,2,false,"","motley/syntax",16⟩,⟨ "text",9,3,false,"","motley/syntax",24⟩]):=ah
def Sa:prog.keyTypeAt 3 240=true:=ah
def VI:prog.tiled 3 240=true:=ah
def wZ:Maps.Keyed prog 240:=by refine Maps.Keyed.of_law (deep_law (m:=3) O Sa VI ?_);rw[JY]
def RS:prog.keyType 240=true:=ah
def MJ:prog.cellsOf 240=4:=ah
def FI:prog.cellsOf 5=1:=ah
def By:prog.cellsOf 9=1:=ah
def J5:prog.underlying 5=some (.int .u8):=ah
def Eo:prog.underlying 9=some .string:=ah
def Es{z:Int}(h:-9223372036854775808<=z)(h2:z<9223372036854775808):(Lit.int .i64 z).wf=true:=by
 have h1:IntKind.min .i64=-9223372036854775808:=by decide
 have h2:IntKind.max .i64=9223372036854775807:=by decide
 simp only[Lit.wf,h1,h2,bu,cu];omega
variable{n:Nat}
def WA(h:n<256):(Lit.int .u8 n).wf=true:=by
 have h1:IntKind.min .u8=0:=by decide
 have h2:IntKind.max .u8=255:=by decide
 simp only[Lit.wf,h1,h2,bu,cu];omega
def RW {P:Program} {k:fc} (f:P.underlying 240=some (.struct #[⟨ "slot",3,0,false,"","motley/syntax",0⟩,⟨ "tok",3,1,false,"","motley/syntax",8⟩,⟨ "kind",5,2,false,"","motley/syntax",16⟩,⟨ "text",9,3,false,"","motley/syntax",24⟩])) (h1:P.keyType 240=true) (h2:P.cellsOf 240=4) (h3:P.cellsOf 3=1) (h:P.cellsOf 5=1) (g:P.cellsOf 9=1) (d:P.underlying 3=some (.int .i64)) (c:P.underlying 5=some (.int .u8)) (b:P.underlying 9=some .string) (j:1<P.types.size)
  (a1:(Lit.int .i64 k.slot).wf=true) (a2:(Lit.int .i64 k.tok).wf=true) (a3:(Lit.int .u8 k.kind).wf=true) (a4:k.text.length<4611686018427387904):dQ P 240 (ji k):=by
 obtain⟨n,e⟩:∃n,P.types.size=n+1:=⟨P.types.size-1,O⟩;simp only[Lit.wf,bu,cu]at a1 a2 a3;have a:(9223372036854775807:Int)=IntKind.max .i64:=by decide
 unfold dQ keyOf;rw[h1];have b1:IntKind.i64.min<=k.slot/\k.slot<=9223372036854775807:=by rw[a];exact a1
 have b2:IntKind.i64.min<=k.tok/\k.tok<=9223372036854775807:=by rw[a];exact a2
 have i:(⟨⟨k.text⟩⟩:ByteArray).size<=maxLen:=by have:(⟨⟨k.text⟩⟩:ByteArray).size=k.text.length:=rfl;rw[this];exact cO (fo a4) aR
 simp[f,Value.formed,ji,e,Program.keyLits,h2,h3,h,g,d,c,b,Value.cells,Lit.wf,b1,b2,a3,i]
def RO{n:Nd}(h:qB n):dQ prog 240 (ji n.key):=by obtain⟨⟨a,b,c,d,e,g⟩,_⟩:=Cg.1 h;exact RW JY RS MJ sx FI By lM J5 Eo DX (Es d e) (Es b c) (WA a) g
def PM:ay prog 280:=⟨_,func280,rfl,rfl⟩
def GZ:ay prog 225:=⟨_,func225,rfl,rfl⟩
def PN:ay prog 297:=⟨_,func297,rfl,rfl⟩
def PO:ay prog 298:=⟨_,func298,rfl,rfl⟩
def PF:ay prog 273:=⟨_,func273,rfl,rfl⟩
def Bv:∀(f x k:Nat),x<2^f->(Lib.bitLenAux f x<=k<->x<2^k)
 |0,x,k,h=>by
  have:x=0:=by simpa using h
  subst this;simp[Lib.bitLenAux,Nat.two_pow_pos]
 |f+1,x,k,h=>by
  rw[Lib.bitLenAux];by_cases a:x=0
  .subst a;simp[Nat.two_pow_pos]
  .rw[ad a];cases k with
   |zero=>simp;omega
   |succ k=>have:=Bv f (x / 2) k (by rw[og]at h;omega);rw[og];omega
def Ml(h:n<2^64):Lib.bitLen n=Sort.bitsLen n:=by
 apply Nat.le_antisymm
 .exact(Bv 64 n _ h).2 (Sort.lt_two_pow_bitsLen n)
 .exact(Sort.bitsLen_le_iff n _).2 ((Bv 64 n _ h).1 (aW _))
def Sc(a:n<2^63)(H:PH):aJ prog 280 #[.int .u64 n] H fun v H2=>v=E (Sort.bitsLen n)/\H2=H:=by intro w hw;refine(Any.bits_Len64 { lays171 with } (n:Int) w O O).mono ?_;rintro e w2 ⟨rfl,rfl⟩;exact⟨H,bN.refl hw,by rw[Int.toNat_natCast,Ml O];rfl,rfl⟩
def HE(a:n<2^63)(H:PH):aJ prog 225 #[.int .u64 n] H fun v H2=>v=E (Sort.bitsLen n)/\H2=H:=by refine aG 8 func225 fun w0=>?_;refine af ?_;refine Xa rfl PM (Sc a H) ?_;rintro v H2⟨rfl,rfl⟩;refine af ?_;exact au (r:=[_]) rfl ⟨rfl,rfl⟩
def wT(h:n<2^64):IntKind.u64.wrap (n:Int)=(n:Int):=by simp only[IntKind.wrap,show IntKind.bits .u64=64 from rfl,show IntKind.signed .u64=false from rfl];simp;omega
def Te(b:n<2^41)(H:PH):aJ prog 297 #[E n] H fun v H2=>v=.int .u64 ((2^Sort.bitsLen n:Nat):Int)/\H2=H:=by
 have hb:Sort.bitsLen n<=41:=(Sort.bitsLen_le_iff n 41).2 b;refine aG 7 func297 fun w0=>?_
 try simp only[E]
 have a:=wT (n:=n) O;refine db a ?_;refine Xa rfl GZ (HE O H) ?_;rintro v H2⟨rfl,rfl⟩;have c:(0:Int)<=(Sort.bitsLen n:Int):=fN _;have w2:mC .u64 1 (Sort.bitsLen n:Int)=((2^Sort.bitsLen n:Nat):Int):=by unfold mC;rw[show IntKind.bits .u64=64 from rfl,Int.toNat_natCast,kF O];have h2:2^Sort.bitsLen n<=2^41:=iP O hb;have:=wT (n:=2^Sort.bitsLen n) O;rw[show (1:Int)*2^Sort.bitsLen n=((2^Sort.bitsLen n:Nat):Int) by simp];exact this
 apply RG;simp only[go_sem,E,c,w2];exact au (r:=[_]) rfl ⟨rfl,rfl⟩
abbrev pO(b:Nat)(x:Int):PH:=sg b (.cells #[.int .u64 x] 377 (0,0))
def Tb{rb:Nat}{x:Int}:aI prog 298 #[pt rb] I [pO rb x] fun r I2 qs=>I2=I/\∃y,qs=[pO rb y]/\r=.int .u64 y:=by
 intro hd;refine aG 33 func298 fun w0=>?_
 try simp only[pt]
 have cl:∀x,aX (pO rb x) rb 0 [.int .u64 x]:=fun x=>gX ai rfl;refine af ?_;refine aV [0,1,2,3,4,5,6,7,8,9] [2,5] [9] ?_;refine ng ?_;refine Xc (l:=[.int .u64 x]) rfl (cellsU hd (.tail _ (.head _)) (cl x)) (.inr ⟨oQ,rfl⟩) ?_;refine ng ?_;refine Xc (l:=[.int .u64 x]) rfl (cellsU hd (.tail _ (.head _)) (cl x)) (.inr ⟨oQ,rfl⟩) ?_;refine ng ?_;refine cg hd rfl rfl rfl rfl rfl rfl (by exact Ab) ai fun a=>?_;apply an;clear hd;simp only[bi,List.set]at a |-;obtain⟨x,b⟩:∃y,y=ry .u64 x (mC .u64 x 13):=⟨_,rfl⟩;rw[<-b]at a |-;clear b;have hd:=a;clear a;refine tY ?_;refine aV [0,1,2,3,4,5,6,7,8,9] [2,5] [9] ?_;refine ng ?_;refine Xc (l:=[.int .u64 x]) rfl (cellsU hd (.tail _ (.head _)) (cl x)) (.inr ⟨oQ,rfl⟩) ?_;refine ng ?_;refine Xc (l:=[.int .u64 x]) rfl (cellsU hd (.tail _ (.head _)) (cl x)) (.inr ⟨oQ,rfl⟩) ?_;refine ng ?_;refine cg hd rfl rfl rfl rfl rfl rfl (by exact Ab) ai fun a=>?_;apply an;clear hd;simp only[bi,List.set]at a |-;obtain⟨x,b⟩:∃y,y=ry .u64 x (kw .u64 x 7):=⟨_,rfl⟩;rw[<-b]at a |-;clear b;have hd:=a;clear a;refine tY ?_;refine aV [0,1,2,3,4,5,6,7,8,9] [2,5] [9] ?_;refine ng ?_;refine Xc (l:=[.int .u64 x]) rfl (cellsU hd (.tail _ (.head _)) (cl x)) (.inr ⟨oQ,rfl⟩) ?_;refine ng ?_;refine Xc (l:=[.int .u64 x]) rfl (cellsU hd (.tail _ (.head _)) (cl x)) (.inr ⟨oQ,rfl⟩) ?_;refine ng ?_;refine cg hd rfl rfl rfl rfl rfl rfl (by exact Ab) ai fun a=>?_;apply an;clear hd;simp only[bi,List.set]at a |-;obtain⟨x,b⟩:∃y,y=ry .u64 x (mC .u64 x 17):=⟨_,rfl⟩;rw[<-b]at a |-;clear b;have hd:=a;clear a;refine tY ?_;refine Xb (l:=[.int .u64 x]) rfl (cellsU hd (.tail _ (.head _)) (cl x)) (.inr ⟨oQ,rfl⟩) ?_;refine tY ?_;exact ao rfl hd (r:=[_]) rfl (ax _) ⟨rfl,x,rfl,rfl⟩
def L3{x:Int}{m:Nat}(hm:m<2^62):∃z:Nat,j8 .u64 x (m:Int)=(z:Int)/\z<=m:=by
 unfold j8;rw[show IntKind.bits .u64=64 from rfl,BitVec.toNat_and];have h2:(BitVec.ofInt 64 (m:Int)).toNat=m:=by rw[BitVec.toNat_ofInt];omega
 rw[h2];have h3:(BitVec.ofInt 64 x).toNat&&&m<=m:=Nat.and_le_right;exact⟨_,wT O,h3⟩
def xI(v:Value)(a n m rb b:Nat):St:=⟨dn 67 [(0,.v v),(1,.v (E a)),(8,.v (E n)),(9,.v (pt rb)),(10,.v (.int .u64 m)),(11,.v (E b))],[]⟩
def Ms{v vc:Value}{d:Array Nd}{a b:Nat}(hA:aT I A v d.toList)(a5:a<=b)(hb:b<=d.size)(hn:d.size<=bF):
  aI prog 273 #[v,E a,E b,vc] I [A] fun _ I2 qs=>∃p d2,qs=[p]/\Sort.PermIn a b d d2/\aT I2 p v d2.toList:=by
 intro hd;unfold bF at hn;obtain⟨va,vk,rfl⟩:=Ow.one' hA;refine aG 67 func273 fun w0=>?_
 try simp only[E]
 have w1:IntKind.i64.wrap ((b:Int)-(a:Int))=((b-a:Nat):Int):=by rw[fa O O];omega
 rcases aB (b-a) 8 with h8|h8
 .have G:decide (((b-a:Nat):Int)>=8)=false:=aS O;refine je w1 G ?_;exact iu rfl hd (r:=[]) rfl (ax _) ⟨A,d,rfl,Sort.permIn_refl d a b,hA⟩
 have G:decide (((b-a:Nat):Int)>=8)=true:=ar O;have w2:IntKind.u64.wrap ((b-a:Nat):Int)=((b-a:Nat):Int):=wT O;apply bU 20;simp only[go_sem,w1,G,w2];refine jE 9 hd rfl fun rb P=>?_;have N:Dj [I,pO rb ((b-a:Nat):Int),A]:=P
 change RC _ _ _ (U [I,pO rb ((b-a:Nat):Int),A])
 clear P hd;refine bq N [1,0] fun a0=>?_;clear N;have w:(((b-a:Nat):Int)).tdiv 4=(((b-a) / 4:Nat):Int):=rfl;obtain⟨q,ag⟩:∃q,q=(b-a) / 4:=⟨_,rfl⟩;have t:IntKind.i64.wrap ((((b-a) / 4:Nat):Int))=(q:Int):=by rw[<-ag];exact wrap64 O
 have T:IntKind.i64.wrap ((q:Int)*2)=((2*q:Nat):Int):=by rw[<-wrap64 (n:=2*q) O];congr 1;omega
 have S:IntKind.i64.wrap ((a:Int)+((2*q:Nat):Int))=((a+2*q:Nat):Int):=by rw[<-wrap64 (n:=a+2*q) O];congr 1
 have w5:IntKind.i64.wrap (((a+2*q:Nat):Int)-1)=((a+2*q-1:Nat):Int):=by rw[<-wrap64 (n:=a+2*q-1) O];congr 1;omega
 have w6:IntKind.i64.wrap (((a+2*q:Nat):Int)+1)=((a+2*q+1:Nat):Int):=by rw[<-wrap64 (n:=a+2*q+1) O];congr 1
 apply RG;simp only[go_sem,iH,List.map,E,pt];refine Xa rfl PN (Te (n:=b-a) O _) ?_;rintro r H2⟨rfl,rfl⟩;have am:=Sort.two_pow_bitsLen_le (n:=b-a) O;have al:0<2^Sort.bitsLen (b-a):=Nat.two_pow_pos _;generalize 2^Sort.bitsLen (b-a)=m at am al |-;have w7:IntKind.u64.wrap ((m:Int)-1)=((m-1:Nat):Int):=by rw[<-wT (n:=m-1) O];congr 1;omega
 apply RG;simp only[go_sem,iH,List.map,E,pt,w,t,T,S,w5];refine bz (fun x=>a+2*q+2-x) (xI (.slice va d.size vk) a (b-a) m rb) (fun x H=>∃y p d2,H=U [I,p,pO rb y]/\Dj [I,p,pO rb y]/\a<=x/\x<=a+2*q+2/\Sort.PermIn a b d d2/\aT I p (.slice va d.size vk) d2.toList) (a+2*q-1) kv (by simp only[go_sem,ab,xI,E,pt]) ?_ ?_
 .exact⟨_,A,d,rfl,a0,O,O,Sort.permIn_refl d a b,hA⟩
 rintro x H ⟨y,p,d2,rfl,M,aa,a4,B,Q⟩ C;simp only[xI];have ac:d2.size=d.size:=B.1;have R:decide ((x:Int)<=((a+2*q+1:Nat):Int))=decide (x<=a+2*q+1):=by simp only[Int.ofNat_le]
 by_cases hx:x<=a+2*q+1
 .have u:decide (x<=a+2*q+1)=true:=ar hx;have w8:=Z7 x;apply RG;simp only[go_sem,E,pt,w,t,T,S,w6,R,u];refine ce M [1,0] [pO rb y] [p] rfl PO rfl (Tb) ?_;rintro r I3 qs L ap⟨rfl,y2,rfl,rfl⟩;simp only[Z3]at L |-;obtain⟨z,hz,a3⟩:=L3 (x:=y2) (m:=m-1) O;have w9:IntKind.i64.wrap (z:Int)=(z:Int):=wrap64 O;refine bq L [1,0] fun D=>?_;rcases aB z (b-a)with Z|Z
  have F:decide ((z:Int)>=((b-a:Nat):Int))=false:=aS O;apply RG;simp only[go_sem,E,pt,w7,hz,w9,F];have ho:z<b-a:=O;have e:IntKind.i64.wrap ((a:Int)+((z:Nat):Int))=((a+(z):Nat):Int):=by rw[<-wrap64 (n:=a+(z)) O];congr 1
  generalize z=o at ho e |-
  rotate_left
  have F:decide ((z:Int)>=((b-a:Nat):Int))=true:=ar O;have V:IntKind.i64.wrap ((z:Int)-((b-a:Nat):Int))=((z-(b-a):Nat):Int):=by rw[fa O O];omega
  apply RG;simp only[go_sem,E,pt,w7,hz,w9,F,V];have ho:z-(b-a)<b-a:=O;have e:IntKind.i64.wrap ((a:Int)+((z-(b-a):Nat):Int))=((a+(z-(b-a)):Nat):Int):=by rw[<-wrap64 (n:=a+(z-(b-a))) O];congr 1
  generalize z-(b-a)=o at ho e |-
  all_goals
   obtain⟨g,cp,cur,ci,cj,ev,rfl,a1,ri,rj,X,W,ki,kj,K⟩:=Ow.two Q (fun{I} c a h=>az.len c a h) (fun{I J c a} h k=>az.le h k) (i:=x) (j:=a+o) O O;rw[ac]at ev a1;cases ev
   have mi:(x+1)*7<=d.size*7:=bS _ O;have mj:((a+o)+1)*7<=d.size*7:=bS _ O;refine aV [0,1,2,3,4,5,6,7,8,9,10,11,12,13,14,15,16,17,18,19] [11,15] [] ?_;refine aM e ?_;refine⟨O,?_⟩;refine Xc (l:=cj) (v:=.agg cj.toArray) rfl (cellsU D (.tail _ (.head _)) (by simpa using kj)) (.inl ⟨by rw[W];exact bK,rfl⟩) ?_;refine aM e ?_;refine⟨O,?_⟩;refine Xc (l:=ci) (v:=.agg ci.toArray) rfl (cellsU D (.tail _ (.head _)) (by simpa using ki)) (.inl ⟨by rw[X];exact bK,rfl⟩) ?_;refine aM e ?_;refine⟨O,?_⟩;refine cg D rfl rfl rfl rfl rfl (cR (az.ones rj)) (by rw[W];exact dF) (by rw[W];omega) fun aq=>?_;refine aM e ?_;refine⟨O,?_⟩;refine cg aq rfl rfl rfl rfl rfl (cR (az.ones ri)) (by rw[X];exact dF) (by rw[X];simp[eJ];omega) fun f=>?_;apply an;refine aj w8 ?_;have a2:=K I3 (ax _);exact C (x+1) _ _ O kv (by simp only[go_sem,ab,xI,E,pt]) ⟨y2,_,_,rfl,f,O,O,Sort.permIn_trans _ _ _ _ _ B (Sort.swp_permIn d2 a b x (a+o) aa O O O O),a2⟩
 .have u:decide (x<=a+2*q+1)=false:=aS hx;apply RG;simp only[go_sem,E,pt,w,t,T,S,w6,R,u];refine bq M [1,0] fun f=>?_;refine bH (c:=.st _) f fun I9 f s a6=>?_;exact iu rfl f (r:=[]) rfl s ⟨p,d2,rfl,B,aT.le Q s⟩
end Go.Proofs.YtfaclfkpnmcmlaaGreatDoor
