import Derived.Test.YtfaclfkpnmcmlaaGreatDoorJ03
import Derived.Test.YtfaclfkpnmcmlaaGreatDoorJ04
import Derived.Test.YtfaclfkpnmcmlaaGreatDoorJ05
import Derived.Test.YtfaclfkpnmcmlaaGreatDoorJ06
import Derived.Test.YtfaclfkpnmcmlaaGreatDoorJ11
set_option maxHeartbeats 8000000
set_option linter.all false
open Go.Proofs.Tryz hiding f9
namespace Go.Proofs.YtfaclfkpnmcmlaaGreatDoor
open Go Go.Sx Dg
def lM{a b:Nat}(ha:a<2^32)(hb:b<2^32):mz .u32 (a:Int) (b:Int)=((a&&&b:Nat):Int):=by
 have e:BitVec.ofInt 32 (a:Int)=BitVec.ofNat _ a:=by rw[BitVec.ofInt_natCast]
 have d:BitVec.ofInt 32 (b:Int)=BitVec.ofNat _ b:=by rw[BitVec.ofInt_natCast]
 have c:a&&&b<2^32:=v7 Nat.and_le_left ha;have:mz .u32 (a:Int) (b:Int)=IntKind.u32.wrap ((BitVec.ofInt 32 (a:Int)&&&BitVec.ofInt 32 (b:Int)).toNat:Int):=rfl;rw[this,e,d,BitVec.toNat_and,BitVec.toNat_ofNat,BitVec.toNat_ofNat,Nat.mod_eq_of_lt ha,Nat.mod_eq_of_lt hb];simp only[IntKind.wrap,show IntKind.bits .u32=32 from rfl,show IntKind.signed .u32=false from rfl];have:((a&&&b:Nat):Int) % (2^32:Int)=((a&&&b:Nat):Int):=tJ O (by exact_mod_cast c);simpa using this
def Bv{a i:Nat}(hi:i<=32):l8 .u32 (a:Int) (i:Int)=((a >>> i:Nat):Int):=by
 have:l8 .u32 (a:Int) (i:Int)=Int.fdiv (a:Int) (2^(min i 32)):=rfl;have e:min i 32=i:=by omega
 rw[this,e,qK];have:(2^i:Int)=((2^i:Nat):Int):=by simp
 rw[this,Int.fdiv_eq_ediv_of_nonneg _ (gH _)];rfl
def Bw{a i:Nat}(ha:a<2^32):a >>> i<2^32:=by rw[qK];exact v7 (Nat.div_le_self _ _) ha
def CS(a i:Nat):((((a >>> i)&&&1:Nat):Int) == 1)=a.testBit i:=by
 have:(a >>> i)&&&1=(a.testBit i).toNat:=by rw[Nat.and_one_is_mod,Nat.testBit_eq_decide_div_mod_eq,qK];have:=Nat.mod_two_eq_zero_or_one (a / 2^i);rcases this with h|h<;>simp[h]
 rw[this];cases a.testBit i<;>rfl
def f9(on off:Nat):Nat->T
 |0=>.lf true
 |k+1=>if on.testBit (23-k)then T.mk (23-k) (.lf false) (f9 on off k)else if off.testBit (23-k)then T.mk (23-k) (f9 on off k) (.lf false)else f9 on off k
def zR(on off:Nat):∀k,k<=24->(f9 on off k).ok (24-k)
 |0,_=>trivial
 |k+1,b=>by
  have a:=zR on off k O;have e:24-k=23-k+1:=by omega
  have e2:24-(k+1)=23-k:=by omega
  rw[e]at a;unfold f9;rw[e2];split
  .exact T.mk_ok (aR _) O trivial a
  .split
   .exact T.mk_ok (aR _) O a trivial
   .exact a.mono O
def G4(on off:Nat)(c:aD):∀k,k<=24->((f9 on off k).at' c=true<->∀i,24-k<=i->i<24->(on.testBit i=true->c i=true)/\(on.testBit i=false->off.testBit i=true->c i=false))
 |0,_=>⟨fun _ i h1 h2=>by omega,fun _=>rfl⟩
 |k+1,d=>by
  have a:=G4 on off c k O;have step:(∀i,24-(k+1)<=i->i<24->(on.testBit i=true->c i=true)/\(on.testBit i=false->off.testBit i=true->c i=false))<->
    ((on.testBit (23-k)=true->c (23-k)=true)/\(on.testBit (23-k)=false->off.testBit (23-k)=true->c (23-k)=false))/\(∀i,24-k<=i->i<24->(on.testBit i=true->c i=true)/\(on.testBit i=false->off.testBit i=true->c i=false)):=by
   constructor
   .exact fun h=>⟨h _ O O,fun i h1 h2=>h i O h2⟩
   .rintro⟨h1,h2⟩ i h3 h4;by_cases e:i=23-k
    .subst e;exact h1
    .exact h2 i O h4
  rw[step,<-a];have e:f9 on off (k+1)=if on.testBit (23-k)then T.mk (23-k) (.lf false) (f9 on off k)else if off.testBit (23-k)then T.mk (23-k) (f9 on off k) (.lf false)else f9 on off k:=rfl
  rw[e];generalize f9 on off k=r;cases h1:on.testBit (23-k)<;>cases h2:off.testBit (23-k)<;>cases b:c (23-k)<;>simp[T.mk_at,T.at',b]
def iD(on off:Nat):T:=if (on&&&16777215)&&&(off&&&16777215)≠0 then .lf false else f9 (on&&&16777215) (off&&&16777215) 24
def G6(on off:Nat):(iD on off).ok 0:=by
 unfold iD;split
 .trivial
 .exact zR _ _ 24 (aR _)
def ot(on off mb:Nat)(a:Nat×Nat):St:=
 ⟨sp 0 45 [(0,.v (.int .u32 on)),(1,.v (.int .u32 off)),(4,.p 4 0),(5,.v (pt mb)),(6,.v (E a.2)),(7,.v (.int .i64 (23-(a.1:Int))))],[⟨4,50,[.slice none 0 0,.int .i64 0]⟩]⟩
def Ok(on off mb:Nat)(b:PH)(a:Nat×Nat)(H:PH):Prop:=
 ∃I mk ms,H=U (I::mk)/\Dj (I::mk)/\b.le I/\a.1<=24/\po mb ms mk/\ms.length<=a.1/\T.isIn ms (f9 on off a.1)/\a.2=T.plc ms (f9 on off a.1)
def Dd{I:PH}{on off:Nat}(Q:on<2^32)(w:off<2^32):aT prog 69 #[.int .u32 on,.int .u32 off] I [] fun v I2 t=>t=[]/\bU I2 v (iD on off):=by
 intro hd;refine eX func69 rfl (by simp[ntmps69]) fun w0=>?_;simp only[ntmps69,E];have Z:(16777215:Nat)<2^32:=by decide
 have u:on&&&16777215<2^32:=v7 Nat.and_le_left Q;have h:off&&&16777215<2^32:=v7 Nat.and_le_left w;have e1:=lM Q Z;have e2:=lM w Z;have e3:=lM u h;simp only[dL]at e1 e2;by_cases hz:(on&&&16777215)&&&(off&&&16777215)=0
 .have K:((((on&&&16777215)&&&(off&&&16777215):Nat):Int) != 0)=false:=by rw[hz];rfl
  apply RG;simp only[go_sem,e1,e2,e3,K];refine F2 hd [] rfl DF rfl (F:=[]) rfl (Ew I) ?_;rintro v I2 t X V⟨mb,rfl,hM⟩;simp only[Y]at X |-;apply RG;simp only[go_sem,E,pt];refine bY (fun a=>24-a.1) (ot (on&&&16777215) (off&&&16777215) mb) (Ok (on&&&16777215) (off&&&16777215) mb I) (0,1) (by simp only[go_sem,Y,ot,E,pt,Int.sub_zero]) (by simp only[go_sem,Y,ot,E]) ?_ ?_
  .exact⟨I2,t,[],rfl,X,V,aF _,hM,by simp,trivial,rfl⟩
  rintro⟨k,r⟩ H ⟨I3,mk,ms,rfl,o,f,hk,d,ac,l,hr⟩ e;simp only at hk d ac l hr;subst hr;simp only[ot];rcases aI k 24 with n|am
  .have J:decide (23-(k:Int)>=0)=true:=by simp;omega
   have ei:(23-(k:Int))=((23-k:Nat):Int):=by omega
   have N:IntKind.i64.wrap (((23-k:Nat):Int)-1)=23-((k+1:Nat):Int):=by
    have h1:(((23-k:Nat):Int)-1)=22-(k:Int):=by omega
    rw[h1];have:∀k:Nat,k<24->IntKind.i64.wrap (22-(k:Int))=23-((k+1:Nat):Int):=by decide
    exact this k n
   have y:=Bv (a:=on&&&16777215) (i:=23-k) O;have x:=Bv (a:=off&&&16777215) (i:=23-k) O;have q:=lM (Bw (i:=23-k) u) (show (1:Nat)<2^32 by decide);have p:=lM (Bw (i:=23-k) h) (show (1:Nat)<2^32 by decide);simp only[dL]at q p;have C:=CS (on&&&16777215) (23-k);have B:=CS (off&&&16777215) (23-k);have m:decide (((23-k:Nat):Int)>=0)=true:=by simp
   have L:(0:Int)<=((23-k:Nat):Int):=by omega
   have g:=zR (on&&&16777215) (off&&&16777215) k hk;rw[show 24-k=23-k+1 by omega]at g;rw[ei];cases s:(on&&&16777215).testBit (23-k)
   .cases P:(off&&&16777215).testBit (23-k)
    .apply RG;simp only[go_sem,m,L,y,x,q,p,C,B,s,P,E,pt,N];refine e (k+1,T.plc ms (f9 (on&&&16777215) (off&&&16777215) k)) _ _ bh (by simp only[go_sem,Y,ot,E,pt]) (by simp only[go_sem,Y,ot,E]) ⟨I3,mk,ms,rfl,o,f,n,d,O,?_,?_⟩
     .simp only[f9,s,P,dK,dD];exact l
     .simp only[f9,s,P,dK,dD]
    .apply RG;simp only[go_sem,m,L,y,x,q,p,C,B,s,P,E,pt];have c1:=AN (mb:=mb) (I:=I3) (i:=23-k) (lo:=f9 (on&&&16777215) (off&&&16777215) k) (hi:=.lf false) d O g trivial l trivial O;obtain⟨mA,mS,mR,mM,rfl,U,S,R⟩:=d;refine F2 o [0,1,2] rfl z8 rfl (F:=[]) rfl c1 ?_;rintro v1 I4 t c b⟨us,G,aa,j,rfl⟩;simp only[Y]at c |-;apply RG;simp only[go_sem,E,pt,N];refine e (k+1,T.plc (ms++us) (f9 (on&&&16777215) (off&&&16777215) (k+1))) _ _ bh ?_ (by simp only[go_sem,Y,ot,E]) ⟨I4,t,ms++us,rfl,c,D f b,n,G,by simp only[aE];omega,?_,rfl⟩
     .simp only[f9,s,P,co,dK,dD];exact(by simp only[go_sem,Y,ot,E,pt])
     .simp only[f9,s,P,co,dK,dD];exact j
   .apply RG;simp only[go_sem,m,L,y,x,q,p,C,B,s,E,pt];have c1:=AN (mb:=mb) (I:=I3) (i:=23-k) (lo:=.lf false) (hi:=f9 (on&&&16777215) (off&&&16777215) k) d O trivial g trivial l O;obtain⟨mA,mS,mR,mM,rfl,U,S,R⟩:=d;refine F2 o [0,1,2] rfl z8 rfl (F:=[]) rfl c1 ?_;rintro v1 I4 t c b⟨us,G,aa,j,rfl⟩;simp only[Y]at c |-;apply RG;simp only[go_sem,E,pt,N];refine e (k+1,T.plc (ms++us) (f9 (on&&&16777215) (off&&&16777215) (k+1))) _ _ bh ?_ (by simp only[go_sem,Y,ot,E]) ⟨I4,t,ms++us,rfl,c,D f b,n,G,by simp only[aE];omega,?_,rfl⟩
    .simp only[f9,s,co,dK,dD];exact(by simp only[go_sem,Y,ot,E,pt])
    .simp only[f9,s,co,dK,dD];exact j
  .have W:k=24:=by omega
   subst W;have J:decide (23-((24:Nat):Int)>=0)=false:=by decide
   have g:=zR (on&&&16777215) (off&&&16777215) 24 (aR _);have A:iD on off=f9 (on&&&16777215) (off&&&16777215) 24:=by unfold iD;rw[ab (by simpa using hz)]
   rw[show 23-((24:Nat):Int)=-1 by decide]at J |-;apply RG;simp only[go_sem,J,E,pt];obtain⟨mA,mS,mR,mM,rfl,U,S,R⟩:=id d;refine F2 o [0,1,2] rfl DG rfl (F:=[]) rfl (Dl (mb:=mb) d l g O) ?_;rintro v2 I4 t c b⟨rfl,hr⟩;rw[<-A]at hr;obtain⟨xr,cr,rfl⟩:=hr.shape;simp only[Y]at c |-;apply RG;simp only[go_sem,E];exact az rfl c (r:=[.agg #[.slice xr (T.subs (iD on off)).length cr,E (T.plc (T.subs (iD on off)) (iD on off))]]) (by simp only[results69,go_sem,E]) (D f b) ⟨rfl,hr⟩
 .have K:((((on&&&16777215)&&&(off&&&16777215):Nat):Int) != 0)=true:=by simp only[bne_iff_ne,ne_eq];omega
  have A:iD on off=.lf false:=by unfold iD;rw[ag (by simpa using hz)]
  apply RG;simp only[go_sem,e1,e2,e3,K];exact az rfl hd (r:=[.agg #[.slice none 0 0,E 0]]) (by simp only[results69,go_sem,E]) (aC _) ⟨rfl,by rw[A];exact oV I false⟩
open Go Go.Sx Dg Syn
def LR{α:Type}(R:List Value->α->Prop):List Value->List α->Prop
 |xs,[]=>xs=[]
 |xs,a::l=>∃c ys,xs=c++ys/\R c a/\LR R ys l
section
variable {α:Type} {R:List Value->α->Prop} {n:Nat}
def LR.len(b:∀c a,R c a->c.length=n):∀{l:List α} {xs:List Value},LR R xs l->xs.length=l.length*n
 | [],xs,h=>by rw[show xs=[] from h];simp
 |a::l,xs,⟨c,ys,e,h1,h2⟩=>by rw[e,aE,b c a h1,LR.len b h2,bm,ig];omega
def LR.mono{R':List Value->α->Prop}(h:∀c a,R c a->R' c a):∀{l:List α} {xs:List Value},LR R xs l->LR R' xs l
 | [],xs,k=>k
 |a::l,xs,⟨c,ys,e,h1,h2⟩=>⟨c,ys,e,h c a h1,LR.mono h h2⟩
def LR.app:∀{l m:List α} {xs ys:List Value},LR R xs l->LR R ys m->LR R (xs++ys) (l++m)
 | [],m,xs,ys,h,k=>by rw[show xs=[] from h];exact k
 |a::l,m,xs,ys,⟨c,zs,e,h1,h2⟩,k=>⟨c,zs++ys,by rw[e,cq],h1,LR.app h2 k⟩
variable{c:List Value}
theorem LR.one{a:α}(h:R c a):LR R c [a]:=⟨c,[],by simp,h,rfl⟩
def LR.get(d:∀c a,R c a->c.length=n):∀{l:List α} {xs:List Value} {i:Nat} {a:α},LR R xs l->l[i]?=some a->R ((xs.drop (i*n)).take n) a
 | [],xs,i,a,h,k=>by simp at k
 |b::l,xs,0,a,⟨c,ys,e,h1,h2⟩,k=>by simp only[yQ,a8]at k;subst k;rw[e,Nat.zero_mul,gV,List.take_left' (d c b h1)];exact h1
 |b::l,xs,i+1,a,⟨c,ys,e,h1,h2⟩,k=>by simp only[vW]at k;rw[e,ig,qJ,Nat.add_comm,<-lr,List.drop_left' (d c b h1)];exact LR.get d h2 k
def LR.split(f:∀c a,R c a->c.length=n):∀{l:List α} {xs:List Value} (i:Nat),LR R xs l->LR R (xs.take (i*n)) (l.take i)/\LR R (xs.drop (i*n)) (l.drop i)
 |l,xs,0,h=>by simp only[Nat.zero_mul,lB,gV];exact⟨rfl,h⟩
 | [],xs,i+1,h=>by rw[show xs=[] from h];simp only[List.take_nil,List.drop_nil];exact⟨rfl,rfl⟩
 |b::l,xs,i+1,⟨c,ys,e,h1,h2⟩=>by
  obtain⟨j,g⟩:=LR.split f i h2;have d:=f c b h1;rw[e,ig,qJ,Nat.add_comm (i*n)];constructor
  .have:(c++ys).take (n+i*n)=c++ys.take (i*n):=by rw[<-d];exact List.take_length_add_append _
   rw[this,lz];exact⟨c,_,rfl,h1,j⟩
  .rw[<-lr,List.drop_left' d,ls];exact g
def LR.set(b:∀c a,R c a->c.length=n){l:List α}{xs:List Value}{i:Nat}{a:α}(h:LR R xs l)(hi:i<l.length)(d:R c a):LR R (xs.take (i*n)++c++xs.drop ((i+1)*n)) (l.set i a):=by
 obtain⟨h1,h2⟩:=LR.split b i h;obtain⟨_,h4⟩:=LR.split b (i+1) h;have e:l.set i a=l.take i++[a]++l.drop (i+1):=by rw[List.set_eq_take_append_cons_drop,ag hi];simp
 rw[e];exact(h1.app (.one d)).app h4
end
def Sl{α:Type}(R:PH->List Value->α->Prop)(I:PH)(v:Value)(l:List α):Prop:=∃a c,v=.slice a l.length c/\(l=[]\/∃b off xs,a=some ⟨b,off,none⟩/\aX I b off xs/\LR (R I) xs l)
variable{v:Value}{I J:PH}
def Sl.le{α:Type}{R:PH->List Value->α->Prop}(f:∀{I J c a},R I c a->I.le J->R J c a){l:List α}(h:Sl R I v l)(d:I.le J):Sl R J v l:=by obtain⟨a,c,e,h⟩:=h;exact⟨a,c,e,h.imp id fun⟨b,off,xs,e1,e2,g⟩=>⟨b,off,xs,e1,e2.le d,g.mono fun c a h=>f h d⟩⟩
def Ow{α:Type}(R:PH->List Value->α->Prop)(e:TypeId)(size:Nat)(I A:PH)(v:Value)(l:List α):Prop:=∃xs,dE A e size v l.length xs/\LR (R I) xs l
variable{A:PH}{size:Nat}{e:TypeId}
def Ow.le{α:Type}{R:PH->List Value->α->Prop}(d:∀{I J c a},R I c a->I.le J->R J c a){l:List α}(h:Ow R e size I A v l)(b:I.le J):Ow R e size J A v l:=by obtain⟨xs,h1,h2⟩:=h;exact⟨xs,h1,h2.mono fun c a h=>d h b⟩
def Ow.nil{α:Type}(R:PH->List Value->α->Prop)(e:TypeId)(size:Nat)(I:PH):Ow R e size I PH.no (.slice none 0 0) ([]:List α):=⟨[],dE.nil e size,rfl⟩
def Ow.sl{α:Type}{R:PH->List Value->α->Prop}(f:∀{I J c a},R I c a->I.le J->R J c a){l:List α}(h:Ow R e size I A v l)(h1:I.le J)(h2:A.le J):Sl R J v l:=by
 obtain⟨xs,h3,h4⟩:=h;obtain⟨a,c,e⟩:=h3.slice;rcases jt l.length with b|hp
 .subst e;exact⟨a,c,rfl,.inl (List.length_eq_zero_iff.1 b)⟩
 .obtain⟨g,cap,e2,d⟩:=h3.1.cells hp;exact⟨_,cap,e2,.inr ⟨g,0,xs,rfl,d.le h2,h4.mono fun c a h=>f h h1⟩⟩
def Ow.shape{α:Type}{R:PH->List Value->α->Prop}{l:List α}(h:Ow R e size I A v l):∃a c,v=.slice a l.length c:=by obtain⟨xs,h3,_⟩:=h;exact h3.slice
def cI(I:PH)(c:List Value)(s:Nat×T):Prop:=∃sl a,c=[E s.1,sl,a]/\bU I (.agg #[sl,a]) s.2
variable{s:Nat×T}{c:List Value}
def cI.le(h:cI I c s)(a:I.le J):cI J c s:=by obtain⟨sl,b,e,h⟩:=h;exact⟨sl,b,e,bU.le h a⟩
def cI.len(c:List Value)(s:Nat×T)(h:cI I c s):c.length=3:=by obtain⟨sl,a,e,_⟩:=h;rw[e];rfl
abbrev bK(I:PH)(v:Value)(f:ad):Prop:=Sl cI I v f
abbrev cU(I A:PH)(v:Value)(f:ad):Prop:=Ow cI 169 3 I A v f
open Go Go.Sx Dg Syn
def PX:ax prog 256:=⟨_,func256,rfl,rfl⟩
def HY:ax prog 257:=⟨_,func257,rfl,rfl⟩
variable{a:Nat}
def fu{b:Nat}(ha:a<2^62)(hb:b<2^62):IntKind.i64.wrap ((a:Int)-(b:Int))=(a:Int)-(b:Int):=by
 simp only[IntKind.wrap,show IntKind.bits .i64=64 from rfl,show IntKind.signed .i64=true from rfl];rcases aI a b with h|h
 .have h1:((a:Int)-(b:Int)) % (2^64:Int)=(a:Int)-(b:Int)+2^64:=by rw[<-Int.add_emod_right];exact tJ O O
  rw[h1,ag]
  .omega
  .simp;omega
 .have h1:((a:Int)-(b:Int)) % (2^64:Int)=(a:Int)-(b:Int):=tJ O O;rw[h1,ab];simp;omega
variable{p:Nat}
def GW{H:PH}{rt0 sl1 sl2:Nat}{sl0:Option Addr}(hp:p<2^62)(ha:a<2^62):br prog 257 #[.agg #[E p,.slice sl0 sl1 sl2,E rt0],E a] H fun v H2=>v=.int .i64 ((p:Int)-(a:Int))/\H2=H:=by refine eX func257 rfl (by simp[ntmps257]) fun w0=>?_;simp only[ntmps257,E];apply RG;simp only[go_sem,fu hp ha];exact aU (r:=[_]) rfl ⟨rfl,rfl⟩
def vU{n:Nat}(h:n<2^62):IntKind.u64.wrap (n:Int)=(n:Int):=by have h1:(n:Int) % (2^64:Int)=n:=tJ O O;simp only[IntKind.wrap,show IntKind.bits .u64=64 from rfl,show IntKind.signed .u64=false from rfl,h1];simp
variable{i:Nat}
def ye(hi:i<=64):l8 .u64 (a:Int) (i:Int)=((a >>> i:Nat):Int):=by
 have:l8 .u64 (a:Int) (i:Int)=Int.fdiv (a:Int) (2^(min i 64)):=rfl;have e:min i 64=i:=by omega
 rw[this,e,qK];have:(2^i:Int)=((2^i:Nat):Int):=by simp
 rw[this,Int.fdiv_eq_ediv_of_nonneg _ (gH _)];rfl
def In{α:Type}(R:PH->List Value->α->Prop)(I H:PH)(v:Value)(l:List α):Prop:=∃a c,v=.slice a l.length c/\(l=[]\/∃b off xs,a=some ⟨b,off,none⟩/\aX H b off xs/\LR (R I) xs l)
def rK(f:ad)(i a:Nat):Bool:=match f[i]? with
 |some s=>decide (s.1=a)
 |none=>false
def ru(vf:Value)(n a:Nat)(x:Nat×Nat):St:=⟨sp 0 49 [(0,.v vf),(1,.v (E a)),(2,.v (.func (.func 257) #[] #[])),(8,.v (E n)),(9,.v (E x.1)),(10,.v (E x.2))],[]⟩
def NA(f:ad)(a:Nat)(H0:PH)(x:Nat×Nat)(H:PH):Prop:=H=H0/\x.1<=x.2/\x.2<=f.length/\(∀k s,k<x.1->f[k]?=some s->s.1<a)/\(∀k s,x.2<=k->f[k]?=some s->a<=s.1)
variable{f:ad}{vf:Value}
def NB{H:PH}(hf:In cI I H vf f)(hs:f.Pairwise (fun s t=>s.1<t.1))(hp:∀s∈f,s.1<2^61)(ha:a<2^61)(hl:f.length<2^60):
  br prog 256 #[vf,E a,.func (.func 257) #[] #[]] H fun v H2=>H2=H/\∃i,i<=f.length/\(∀k s,k<i->f[k]?=some s->s.1<a)/\(∀k s,i<=k->f[k]?=some s->a<=s.1)/\v=.tuple #[E i,.bool (rK f i a)]:=by
 obtain⟨S,W,rfl,X⟩:=hf;have load:∀i s,f[i]?=some s->∃b off c p o g A,S=some ⟨b,off,none⟩/\aX H b (off+i*3) c/\c=[E s.1,.slice p o g,E A]:=by
  intro i s hi;rcases X with h0|⟨b,off,xs,rfl,F,hr⟩
  .rw[h0]at hi;simp at hi
  .have P:i<f.length:=by
    rcases aI i f.length with h|h
    .exact h
    .rw[fe h]at hi;cases hi
   have h1:=hr.get cI.len hi;have U:=hr.len cI.len;have h2:=F.sub (i*3) 3 O;obtain⟨sl,A,e,C⟩:=h1;obtain⟨x,y,e2⟩:=C.shape;simp only[Value.agg.injEq,Array.mk.injEq,mZ,dV]at e2;exact⟨b,off,_,x,s.2.subs.length,y,T.plc s.2.subs s.2,rfl,h2,by rw[e,e2.1,e2.2]⟩
 refine eX func256 rfl (by simp[ntmps256]) fun w0=>?_;simp only[ntmps256,E];refine ai ?_;refine bY (fun x=>x.2-x.1) (ru (.slice S f.length W) f.length a) (NA f a H) (0,f.length) (by simp only[go_sem,Y,ru,E]) (by simp only[go_sem,Y,ru]) ?_ ?_
 .exact⟨rfl,aF _,aR _,fun k s h=>by omega,fun k s h1 h2=>by rw[fe h1]at h2;cases h2⟩
 rintro⟨i,j⟩ H' ⟨rfl,h1,h2,h3,h4⟩ u;simp only at h1 h2 h3 h4;simp only[ru];rcases aI i j with P|aa
 .have z:decide ((i:Int)<(j:Int))=true:=by simp;omega
  have e1:=wrap64 (n:=i+j) O;have e2:=vU (n:=i+j) O;have G:=ye (a:=i+j) (i:=1) O;have V:=wrap64 (n:=(i+j) / 2) O;have e5:(i+j) >>> 1=(i+j) / 2:=qK _ 1;have B:(i:Int)+(j:Int)=((i+j:Nat):Int):=by omega
  simp only[dL]at G;rw[e5]at G;obtain⟨m,hm⟩:∃m,m=(i+j) / 2:=⟨_,rfl⟩;rw[<-hm]at G V;have N:i<=m:=by omega
  have Z:m<j:=by omega
  obtain⟨s,d⟩:∃s,f[m]?=some s:=⟨_,aZ O⟩;have L:=hp s (cY d);obtain⟨b,off,c,p,o,g,A,rfl,F,rfl⟩:=load m s d;apply RG;simp only[go_sem,z,E,B,e1,e2,G,V];refine⟨⟨O,O⟩,?_⟩;refine X5 (l:=[E s.1,.slice p o g,E A]) (v:=.agg #[E s.1,.slice p o g,E A]) rfl F (.inl ⟨rg,rfl⟩) ?_;apply RG;simp only[go_sem,E];refine X4 rfl HY (GW O O) ?_;rintro v H2⟨rfl,rfl⟩;cases q:decide ((s.1:Int)-(a:Int)<0)
  .apply RG;simp only[go_sem,E,q];refine u (i,m) _ _ bh (by simp only[go_sem,Y,ru,E]) (by simp only[go_sem,Y,ru]) ⟨rfl,N,by simp only;omega,h3,fun k t Q ht=>?_⟩;simp only[Ce]at q;rcases aI m k with h|h
   .have:s.1<t.1:=by obtain⟨K,e1⟩:=List.getElem?_eq_some_iff.1 d;obtain⟨J,e2⟩:=List.getElem?_eq_some_iff.1 ht;have:=List.pairwise_iff_getElem.1 hs m k K J h;rw[e1,e2]at this;exact this
    omega
   .have:k=m:=by simp only at Q;omega
    subst this;rw[d]at ht;cases ht;omega
  .have e6:=wrap64 (n:=m+1) O;have e7:(m:Int)+1=((m+1:Nat):Int):=by omega
   apply RG;simp only[go_sem,E,q,e7,e6];refine u (m+1,j) _ _ bh (by simp only[go_sem,Y,ru,E]) (by simp only[go_sem,Y,ru]) ⟨rfl,by simp only;omega,h2,fun k t Q ht=>?_,h4⟩;simp only[dA]at q;rcases aI k m with h|h
   .have:t.1<s.1:=by obtain⟨K,e1⟩:=List.getElem?_eq_some_iff.1 d;obtain⟨J,e2⟩:=List.getElem?_eq_some_iff.1 ht;have:=List.pairwise_iff_getElem.1 hs k m J K h;rw[e1,e2]at this;exact this
    omega
   .have:k=m:=by simp only at Q;omega
    subst this;rw[d]at ht;cases ht;omega
 .have R:i=j:=by omega
  subst R;have z:=Z6 i;cases w:decide ((i:Int)<(f.length:Int))
  .have:f[i]?=none:=fe (by simp at w;omega);apply RG;simp only[go_sem,z,E,w];refine aU (r:=[E i,.bool false]) (by simp only[results256,go_sem,E]) ⟨rfl,i,h2,h3,h4,by simp[dS,E,rK,this]⟩
  .obtain⟨s,d⟩:∃s,f[i]?=some s:=⟨_,aZ (by simp at w;omega)⟩;have L:=hp s (cY d);obtain⟨b,off,c,p,o,g,A,rfl,F,rfl⟩:=load i s d;apply RG;simp only[go_sem,z,E,w];refine⟨⟨O,by simp at w;omega⟩,?_⟩;refine X5 (l:=[E s.1,.slice p o g,E A]) (v:=.agg #[E s.1,.slice p o g,E A]) rfl F (.inl ⟨rg,rfl⟩) ?_;apply RG;simp only[go_sem,E];refine X4 rfl HY (GW O O) ?_;rintro v H2⟨rfl,rfl⟩;apply RG;simp only[go_sem,E];have he:((s.1:Int)-(a:Int) == 0)=decide (s.1=a):=by rw[Bool.eq_iff_iff];simp;omega
   refine aU (r:=[E i,.bool (rK f i a)]) ?_ ⟨rfl,i,h2,h3,h4,rfl⟩;simp only[rK,d,<-he];simp only[results256,go_sem,E]
def PY:ax prog 258:=⟨_,func258,rfl,rfl⟩
def yh{g l cap:Nat}(h:l<cap):fV (some ⟨g,0,none⟩) size l cap=some ⟨g,l*size,none⟩:=by unfold fV;rw[ab O];simp[nq]
def E5{a:Option Addr}{cap:Nat}(h:∀x,a=some x->x.spot=none):fV a size 0 cap=a:=by
 unfold fV;split
 .rfl
 .cases a with
  |none=>rfl
  |some x=>obtain⟨b,off,sp⟩:=x;have:=h _ rfl;simp only at this;subst this;simp[nq]
theorem Ua:(f288.name == "runtime.NumGoroutine")=false:=by kernel_rfl
theorem Nm:f288.body.isNone=true:=by kernel_rfl
theorem Uj:Extern.findNext f288=none:=by kernel_rfl
theorem Xn:prog.underlying 154=some (.slice 169):=by kernel_rfl
theorem Uo:Extern.find f288=some (Extern.SlicesOverlaps.overlaps #[154,154] #[4]):=by kernel_rfl
theorem vP:prog.underlying 155=some (.slice 169):=by kernel_rfl
def Rb:∃i,prog.info? 169=some i/\i.size=3:=by
 have h:=K4;unfold Sx.bD at h;cases hi:prog.info? 169 with
 |none=>rw[hi]at h;cases h
 |some i=>rw[hi]at h;simp at h;exact⟨i,rfl,h⟩
def cI.ones(h:cI I c s):c.all Sx.one=true:=by obtain⟨sl,a,e,hr⟩:=h;obtain⟨x,y,e2⟩:=hr.shape;simp only[Value.agg.injEq,Array.mk.injEq,mZ,dV]at e2;rw[e,e2.1,e2.2];rfl
def LR.ones{α:Type}{R:List Value->α->Prop}(b:∀c a,R c a->c.all Sx.one=true):∀{l:List α} {xs:List Value},LR R xs l->xs.all Sx.one=true
 | [],xs,h=>by rw[show xs=[] from h];rfl
 |a::l,xs,⟨c,ys,e,h1,h2⟩=>by rw[e,List.all_append,b c a h1,LR.ones b h2];rfl
def Rp{l ys:List Value}(h:p+c.length+ys.length<=l.length):(bL (bL l p c) (p+c.length) ys).take (p+c.length+ys.length)=l.take p++c++ys:=by
 rw[nQ _ _ _ (by rw[eC];exact h),nQ _ _ _ O];have h1:(l.take p++c).length=p+c.length:=by simp;omega
 have h2:(l.take p++c++l.drop (p+c.length)).take (p+c.length)=l.take p++c:=by rw[<-h1];exact List.take_left
 rw[h2];have h3:(l.take p++c++ys).length=p+c.length+ys.length:=by rw[aE,h1]
 rw[<-h3];exact List.take_left
def Rq{l ys:List Value}(h:p+c.length+ys.length<=l.length):(bL (bL l (p+c.length) ys) p c).take (p+c.length+ys.length)=l.take p++c++ys:=by
 rw[nQ (bL l (p+c.length) ys) c p (by rw[eC];omega),nQ _ _ _ O];have h1:(l.take (p+c.length)++ys).length=p+c.length+ys.length:=by simp;omega
 have h4:(l.take (p+c.length)++ys++l.drop (p+c.length+ys.length)).take p=l.take p:=by rw[cq,Cd (by simp;omega),n9,ju O]
 have h5:(l.take (p+c.length)++ys++l.drop (p+c.length+ys.length)).drop (p+c.length)=ys++l.drop (p+c.length+ys.length):=by rw[cq];exact List.drop_left' (by simp;omega)
 rw[h4,h5];have h3:(l.take p++c++ys).length=p+c.length+ys.length:=by simp;omega
 rw[<-cq,<-h3];exact List.take_left
def Rt{nb c1:Nat}{ty:TypeId}(hf:cU I A vf f)(hi:i<=f.length)(R:I nb=some (.cells c.toArray ty (0,0)))(hc:cI I c s)(hl:f.length<2^40):
  aT prog 258 #[vf,E i,.slice (some ⟨nb,0,none⟩) 1 c1] I [A] fun v I2 qs=>∃A2,qs=[A2]/\cU I2 A2 v (f.take i++[s]++f.drop i):=by
 intro hd;obtain⟨xs,u,z⟩:=hf;have a:=cI.len _ _ hc;have k:aX I nb 0 c:=bz R (by simp) (by simp);have j:=z.len cI.len;obtain⟨za,q,rfl⟩:=u.slice;refine eX func258 rfl (by simp[ntmps258]) fun w0=>?_;simp only[ntmps258,E];rcases aI i f.length with bc|bx
 .obtain⟨g,cap,cur,e1,rfl,a4,a9,C,P⟩:=u.sg O;cases e1
  have F:((i:Int) == (f.length:Int))=false:=by simp;omega
  have e1:=wrap64 (n:=f.length+1) O;have aq:IntKind.i64.wrap ((f.length:Int)+1)=((f.length+1:Nat):Int):=by rw[<-e1];congr 1
  have e2:IntKind.i64.wrap (((f.length+1:Nat):Int)-(i:Int))=((f.length+1-i:Nat):Int):=by rw[fu O O];omega
  have e3:=wrap64 (n:=i+1) O;have G:IntKind.i64.wrap ((i:Int)+1)=((i+1:Nat):Int):=by rw[<-e3];congr 1
  obtain⟨inf,o,y⟩:=Rb;have d:(xs.drop (i*3)).length=(f.length-i)*3:=by rw[vY,j,<-pm]
  have N:(xs.drop (i*3)).all one=true:=(z.split cI.len i).2.ones (fun _ _ h=>h.ones);have fin:∀(cells:List Value) (g2 b:Nat) (I2:PH),I.le I2->cells.take ((f.length+1)*3)=xs.take (i*3)++c++xs.drop (i*3)->cells.length=b*3->f.length+1<=b->b<=maxLen->
    cU I2 (sg g2 (.cells cells.toArray 169 (0,0))) (.slice (some ⟨g2,0,none⟩) (f.length+1) b) (f.take i++[s]++f.drop i):=by
   intro cells g2 b I2 a5 h1 h2 h3 h4;obtain⟨k1,k2⟩:=z.split cI.len i;have ac:(f.take i++[s]++f.drop i).length=f.length+1:=by simp;omega
   refine⟨xs.take (i*3)++c++xs.drop (i*3),?_,((k1.app (.one hc)).app k2).mono fun _ _ h=>h.le a5⟩;rw[ac];refine dE.of_sg ?_ h3 h4 (by simpa using h2) (by simpa using h1);simp only[aE,lw,d,a,j];have:i*3<=f.length*3:=ch _ hi;rw[ju this,ig,pm];omega
  have am:i*3<=f.length*3:=ch _ hi;have bs:(i+1)*3=i*3+3:=by omega
  have ba:aX (U [I,sg g (.cells cur 169 (0,0))]) g 0 cur.toList:=cellsU hd (.tail _ (.head _)) (dt (by simp) (by rw[gV];exact yU (aR _)));have V:cur.toList.length=q*3:=by rw[n8];exact C
  have J:(cur.toList.drop (i*3)).take ((f.length-i)*3)=xs.drop (i*3):=by rw[<-P,List.drop_take,pm]
  rcases aI q (f.length+1)with x|x
  .have X:decide (((f.length+1:Nat):Int)>(q:Int))=true:=by simp;omega
   have s1:fV (some ⟨g,0,none⟩) 3 0 q=some ⟨g,0,none⟩:=E5 (by simp);have Z:=yh (g:=g) (l:=i) (cap:=q) (size:=3) O;apply RG;simp only[go_sem,E,F,aq,e2,G,X,s1,Z];refine⟨O,?_⟩;have Q:aX (U [I,sg g (.cells cur 169 (0,0))]) g 0 (xs.take (i*3)):=by
    have:=ba.sub 0 (i*3) (by simp;omega);rw[gV]at this;have e:cur.toList.take (i*3)=xs.take (i*3):=by rw[<-P,n9,ju am]
    rwa [e]at this
   refine L0 (by exact hd) (by exact jp) (by exact se) rfl rfl rfl rfl Q (by simp[j];omega) O O (by unfold maxLen;omega) O fun g2 b zs aS W bb B=>?_;have t1:=yh (g:=g2) (l:=i) (cap:=b) (size:=3) O;have t2:=yh (g:=g2) (l:=i+1) (cap:=b) (size:=3) O;have e5:i+(f.length+1-i)=f.length+1:=by omega
   rw[e5]at W;apply RG;simp only[go_sem,E,e5,t1,t2];refine⟨O,?_⟩;have aa:aX (U [I,sg g2 (.cells (xs.take (i*3)++zs).toArray 169 (0,0)),sg g (.cells cur 169 (0,0))]) nb 0 c:=cellsU B (.head _) k;have a1:(xs.take (i*3)).length=i*3:=by simp[j];omega
   have H:(xs.take (i*3)++zs).length=b*3:=by rw[aE,a1,aS,pm];have:i*3<=b*3:=ch _ O;omega
   have b0:(f.length+1)*3<=b*3:=ch _ W;refine F3 (by exact B) (by exact vP) (by exact o) rfl rfl rfl rfl aa (by rw[y,a,ju O]) (by rw[a];simp only[List.size_toArray];omega) hc.ones fun w=>?_;apply RG;simp only[go_sem,E];refine iA mixed [0,1,2,3,4,5,6,7,8] [] [] rfl rfl ?_;apply bd;simp only[go_sem,E,G,t2,Z];refine⟨O,?_⟩;have a0:f.length*3<=q*3:=ch _ a4;have t:aX (sg g (.cells cur 169 (0,0))) g (i*3) (xs.drop (i*3)):=dt (by rw[d,C,pm];omega) (by rw[d];exact J);refine F7 (by exact w) (by exact vP) (by exact o) rfl rfl rfl rfl rfl rfl (cellsU w (.tail _ (.tail _ (.head _))) t) (by rw[y,d,ju O]) (by rw[d];simp only[List.size_toArray,eC];omega) N fun S=>?_;apply aL;apply RG;simp only[go_sem,E];refine tW (c:=.st _) S [1,0] rfl fun an=>?_;simp only[gw,yO,yN]at an |-;refine aH (c:=.st _) an fun I6 a7 K _=>?_;refine az rfl a7 (r:=[_]) rfl K ⟨_,rfl,?_⟩;refine fin _ g2 b I6 K ?_ (by simp only[List.toList_toArray,eC];exact H) W bb;have hL:=Rp (l:=xs.take (i*3)++zs) (c:=c) (ys:=xs.drop (i*3)) (p:=i*3) (by rw[a,d,H,pm];omega);have hp:i*3+c.length=(i+1)*3:=by rw[a];omega
   have hq:i*3+c.length+(xs.drop (i*3)).length=(f.length+1)*3:=by rw[a,d,pm];omega
   rw[hq,hp]at hL;have hA:(xs.take (i*3)++zs).take (i*3)=xs.take (i*3):=by rw[Cd O,yU O]
   rw[hL,hA]
  .have X:decide (((f.length+1:Nat):Int)>(q:Int))=false:=by simp;omega
   have s1:fV (some ⟨g,0,none⟩) 3 0 q=some ⟨g,0,none⟩:=E5 (by simp);have Z:=yh (g:=g) (l:=i) (cap:=q) (size:=3) O;have s3:=yh (g:=g) (l:=i+1) (cap:=q) (size:=3) O;apply RG;simp only[go_sem,E,F,aq,e2,G,X,s1,Z,s3];refine⟨O,?_⟩;have a3:nb≠g:=fun e=>by have:=(uB hd (.head _)).symm.left (gT g (.cells cur 169 (0,0)));rw[<-e,R]at this;cases this
   have a0:(f.length+1)*3<=q*3:=ch _ x;refine L8 (by exact Kx) (by exact func288) (by exact Ua) (by exact Nm) (by exact Uj) (by exact Uo) rfl rfl rfl rfl (iH hd _ _ R) (jn hd _ _ (gT _ _)) a3 O ?_;apply RG;simp only[go_sem,E];refine iA mixed [0,1,2,3,4,5,6,7,8] [] [] rfl rfl ?_;apply bd;simp only[go_sem,E,G,Z,s3];refine⟨O,?_⟩;have t:aX (sg g (.cells cur 169 (0,0))) g (i*3) (xs.drop (i*3)):=dt (by rw[d,C,pm];omega) (by rw[d];exact J);refine F7 (by exact hd) (by exact vP) (by exact o) rfl rfl rfl rfl rfl rfl (cellsU hd (.tail _ (.head _)) t) (by rw[y,d,Nat.min_eq_right O,Nat.add_sub_add_right]) (by rw[d,C,pm];omega) N fun w=>?_;apply aL;apply RG;simp only[go_sem,E,Z];refine⟨O,?_⟩;refine F3 (by exact w) (by exact vP) (by exact o) rfl rfl rfl rfl (cellsU w (.head _) k) (by rw[y,a,ju O]) (by rw[a];simp only[List.size_toArray,eC,V];omega) hc.ones fun S=>?_;apply RG;simp only[go_sem,E];refine az rfl S (r:=[_]) rfl (aC _) ⟨_,rfl,?_⟩;refine fin _ g q I (aC _) ?_ (by simp only[List.toList_toArray,eC,V]) x a9;have hL:=Rq (l:=cur.toList) (c:=c) (ys:=xs.drop (i*3)) (p:=i*3) (by rw[a,d,V,pm];omega);have hp:i*3+c.length=(i+1)*3:=by rw[a];omega
   have hq:i*3+c.length+(xs.drop (i*3)).length=(f.length+1)*3:=by rw[a,d,pm];omega
   rw[hq,hp]at hL;have hA:cur.toList.take (i*3)=xs.take (i*3):=by rw[<-P,n9,ju am]
   rw[hL,hA]
 .have a6:i=f.length:=by omega
  subst a6;have F:((f.length:Int) == (f.length:Int))=true:=by simp
  apply RG;simp only[go_sem,E,F];refine⟨O,?_⟩;refine LZ (m:=1) hd (by exact jp) (by exact Xn) u rfl rfl rfl rfl (cellsU hd (.head _) k) (by rw[a]) hc.ones O (by unfold maxLen;omega) fun v' I2 A2 B L ap=>?_;obtain⟨a2,c2,rfl⟩:=ap.slice;apply RG;simp only[go_sem,E];refine az rfl B (r:=[_]) rfl L ⟨A2,rfl,xs++c,?_,?_⟩
  .simpa[dS]using ap
  .rw[dO,jk,Y];exact(z.app (.one hc)).mono fun _ _ h=>h.le L
def jl:ax prog 199:=⟨_,func199,rfl,rfl⟩
def Iq:∀{f:ad} {i a:Nat} {d e:T},(∀k s,k<i->f[k]?=some s->s.1<a)->f[i]?=some (a,e)->gu f a d=f.set i (a,e.or d)
 | [],i,a,d,e,_,h=>by simp at h
 |(b,g)::f,0,a,d,e,_,h=>by simp only[yQ,a8,ij]at h;obtain⟨rfl,rfl⟩:=h;simp[gu]
 |(b,g)::f,i+1,a,d,e,h1,h=>by have hb:=h1 0 _ O rfl;simp only at hb;simp only[gu,ag hb,List.set_cons_succ];rw[Iq (i:=i) (fun k s c hs=>h1 (k+1) s (Nat.succ_lt_succ c) (by simpa using hs)) (by simpa using h)]
def Ir:∀{f:ad} {i a:Nat} {d:T},i<=f.length->(∀k s,k<i->f[k]?=some s->s.1<a)->(∀s,f[i]?=some s->a<s.1)->gu f a d=f.take i++[(a,d)]++f.drop i
 | [],i,a,d,hi,_,_=>by simp[gu]
 |(b,e)::f,0,a,d,_,_,h=>by have:=h _ rfl;simp only at this;simp only[gu];rw[ab O,ab O];simp
 |(b,e)::f,i+1,a,d,hi,h1,h=>by have hb:=h1 0 _ O rfl;simp only at hb;simp only[gu,ag hb,lz,ls,aN];rw[Ir (i:=i) (by simpa using hi) (fun k s c hs=>h1 (k+1) s (Nat.succ_lt_succ c) (by simpa using hs)) (fun s hs=>h s (by simpa using hs))]
def cU.le'(h:cU I A v f)(b:I.le J):cU J A v f:=Ow.le (R:=cI) (fun{I J c a} h k=>cI.le h k) h b
def Ow.inU{α:Type}{R:PH->List Value->α->Prop}{ps:List PH}{l:List α}(h:Ow R e size I A v l)(hd:Dj ps)(f:A∈ps):In R I (U ps) v l:=by
 obtain⟨xs,h1,h2⟩:=h;obtain⟨a,c,e⟩:=h1.slice;rcases jt l.length with b|hp
 .exact⟨a,c,e,.inl (List.length_eq_zero_iff.1 b)⟩
 .obtain⟨g,cap,e2,d⟩:=h1.cellsU hd f hp;exact⟨_,cap,e2,.inr ⟨g,0,xs,rfl,d,h2⟩⟩
def jm{vd:Value}{d:T}(hf:cU I A vf f)(q:bU I vd d)(hs:f.Pairwise (fun s t=>s.1<t.1))(hp:∀s∈f,s.1<2^61)(ha:a<2^61)(hl:f.length<2^40):
  aT prog 199 #[vf,E a,vd] I [A] fun v I2 N=>∃L,N=[L]/\cU I2 L v (Syn.join f a d):=by
 intro hd;obtain⟨da,dc,rfl⟩:=q.shape;have V:=hf.inU hd (.tail _ (.head _));obtain⟨za,zc,rfl⟩:=hf.shape;refine eX func199 rfl (by simp[ntmps199]) fun w0=>?_;simp only[ntmps199,E];refine ai ?_;refine X4 rfl iG (iE q) ?_;rintro v H2⟨rfl,rfl⟩;cases o:decide (d=.lf false)
 .have R:d≠ff:=by simpa using o
  apply RG;simp only[go_sem,E,o];refine X4 rfl PX (NB V hs hp ha O) ?_;rintro v H2⟨rfl,i,hi,h1,h2,rfl⟩;have hj:Syn.join f a d=gu f a d:=by unfold Syn.join;rw[ab R]
  cases n:rK f i a
  .apply RG;simp only[go_sem,E,n];have W:∀s,f[i]?=some s->a<s.1:=fun s B=>by have:=h2 i s (aR _) B;simp only[rK,B,Ce]at n;omega
   refine cH hd (by exact Kx) rfl rfl rfl rfl rfl af fun nb I2 ac k S=>?_;apply RG;simp only[go_sem,E];have c1:=Rt (I:=I2) (A:=A) (i:=i) (nb:=nb) (c1:=1) (c:=[E a,.slice da (T.subs d).length dc,E (T.plc (T.subs d) d)]) (s:=(a,d)) (cU.le' hf k) hi (by rw[S];rfl) ⟨_,_,rfl,q.le k⟩ hl;refine F2 ac [0] rfl PY rfl (F:=[]) rfl c1 ?_;rintro v I3 N m b⟨L,rfl,ap⟩;simp only[Y]at m |-;apply RG;simp only[go_sem,E];refine az rfl m (r:=[_]) rfl (D k b) ⟨L,rfl,?_⟩;rw[hj,Ir hi h1 W];exact ap
  .obtain⟨⟨p,e⟩,j⟩:∃s,f[i]?=some s:=by
    cases hx:f[i]? with
    |some s=>exact⟨s,rfl⟩
    |none=>simp[rK,hx]at n
   have Q:p=a:=by simpa[rK,j]using n
   subst Q;have U:i<f.length:=by
    rcases aI i f.length with h|h
    .exact h
    .rw[fe h]at j;cases j
   obtain⟨xs,C,x⟩:=hf;obtain⟨g,cap,cur,e1,rfl,G,an,am,z⟩:=C.sg O;cases e1
   have J:=x.get cI.len j;have aa:=x.len cI.len;obtain⟨sl,rt,K,w⟩:=J;obtain⟨ea,ec,e2⟩:=w.shape;simp only[Value.agg.injEq,Array.mk.injEq,mZ,dV]at e2;obtain⟨rfl,rfl⟩:=e2;have aS:i*3+3<=f.length*3:=by omega
   have aq:f.length*3<=zc*3:=ch _ G;have y:aX (sg g (.cells cur 169 (0,0))) g (i*3+1) [.slice ea (T.subs e).length ec,E (T.plc (T.subs e) e)]:=by
    refine dt (by simp;omega) ?_;have h3:(cur.toList.drop (i*3)).take 3=(xs.drop (i*3)).take 3:=by rw[<-z,List.drop_take,n9,ju O]
    rw[K]at h3;have:(cur.toList.drop (i*3+1)).take 2=((cur.toList.drop (i*3)).take 3).drop 1:=by rw[List.drop_take,lr]
    simp only[bm,bo,ii,Nat.reduceAdd];rw[this,h3];rfl
   apply RG;simp only[go_sem,E,n];refine iA mixed [0,1,2,3,4,5,6,7,8,9,10,11] [6] [] rfl rfl ?_;apply bd;simp only[go_sem,E];refine⟨O,?_⟩;refine X6 (l:=[.slice ea (T.subs e).length ec,E (T.plc (T.subs e) e)]) (v:=.agg #[.slice ea (T.subs e).length ec,E (T.plc (T.subs e) e)]) rfl (by simpa using cellsU hd (.tail _ (.head _)) y) (.inl ⟨iB,rfl⟩) ?_;apply bd;simp only[go_sem,E];refine cE hd [0] [] [_] rfl oC rfl (oL w q) ?_;rintro v I3 N m b⟨rfl,hr⟩;obtain⟨ra,rc,rfl⟩:=hr.shape;simp only[aM]at m |-;apply bd;simp only[go_sem,E];refine⟨O,?_⟩;refine cT m rfl rfl rfl rfl rfl rfl (by exact qC) (by simp;omega) fun Z=>?_;apply aL;apply RG;simp only[go_sem,E];refine az rfl Z (r:=[_]) rfl b ⟨_,rfl,?_⟩;rw[hj,Iq h1 j];have H:LR (cI I3) xs f:=x.mono fun _ _ h=>h.le b;have u:=H.set cI.len U (c:=[E p,.slice ra (T.subs (e.or d)).length rc,E (T.plc (T.subs (e.or d)) (e.or d))]) (a:=(p,e.or d)) ⟨_,_,rfl,hr⟩;refine⟨_,?_,u⟩;rw[lu];refine dE.of_sg ?_ G an (by simp[eC];exact am) ?_
   .rw[u.len cI.len,lu]
   .show (bL cur.toList (i*3+1) [.slice ra (T.subs (e.or d)).length rc,E (T.plc (T.subs (e.or d)) (e.or d))]).take (f.length*3)=_;rw[Br _ _ _ _ (by simp;omega),z,nQ _ _ _ (by simp;omega)];have e1:xs.take (i*3+1)=xs.take (i*3)++[E p]:=by
     have:xs.take (i*3+1)=xs.take (i*3)++((xs.drop (i*3)).take 3).take 1:=by rw[n9,ju O,List.take_add]
     rw[this,K];rfl
    rw[e1];simp only[bm,bo,ii,Nat.reduceAdd];rw[show (i+1)*3=i*3+1+2 by omega];simp
 .have X:d=ff:=by simpa using o
  subst X;refine dq o ?_;exact az rfl hd (r:=[_]) rfl (aC _) ⟨A,rfl,by simpa[Syn.join,dS]using hf⟩
def jS:ax prog 200:=⟨_,func200,rfl,rfl⟩
def HM:ax prog 209:=⟨_,func209,rfl,rfl⟩
def Qu:ax prog 78:=⟨_,func78,rfl,rfl⟩
def Sl.load{α:Type}{R:PH->List Value->α->Prop}{n:Nat}(g:∀{I} c a,R I c a->c.length=n){a:Option Addr}{m c:Nat}{l:List α}(h:Sl R I (.slice a m c) l){x:α}(hi:l[i]?=some x):
  ∃b off cs,a=some ⟨b,off,none⟩/\R I cs x/\aX I b (off+i*n) cs:=by
 obtain⟨o,k,e,h⟩:=h;cases e
 have d:i<l.length:=by
  rcases aI i l.length with h|h
  .exact h
  .rw[fe h]at hi;cases hi
 rcases h with h0|⟨b,off,xs,rfl,j,hr⟩
 .rw[h0]at d;simp at d
 .have f:=hr.len (n:=n) (fun c a h=>g c a h);have h1:(i+1)*n<=l.length*n:=ch _ d;rw[ig]at h1;exact⟨b,off,_,rfl,hr.get (fun c a h=>g c a h) hi,j.sub (i*n) n O⟩
def cI.shape(h:cI I c s):∃a k,c=[E s.1,.slice a (T.subs s.2).length k,E (T.plc (T.subs s.2) s.2)]/\bU I (.agg #[.slice a (T.subs s.2).length k,E (T.plc (T.subs s.2) s.2)]) s.2:=by obtain⟨sl,d,e,hr⟩:=h;obtain⟨x,y,e2⟩:=hr.shape;have b:=e2;simp only[Value.agg.injEq,Array.mk.injEq,mZ,dV]at b;refine⟨x,y,by rw[e,b.1,b.2],by rw[<-e2];exact hr⟩
variable{g:ad}
def Sq(hs:g[i]?=some s):Syn.joinAll f (g.take (i+1))=Syn.join (Syn.joinAll f (g.take i)) s.1 s.2:=by
 have a:i<g.length:=by
  rcases aI i g.length with h|h
  .exact h
  .rw[fe h]at hs;cases hs
 rw[pj a];rw[aZ a]at hs;rw[cW hs];unfold Syn.joinAll;rw[pg];rfl
def uM(a:Value)(n:Nat)(x:Nat×Value):St:=⟨sp 0 21 [(0,.v x.2),(7,.v a),(8,.v (E n)),(9,.v (E x.1))],[]⟩
def So(f g:ad)(a:PH)(x:Nat×Value)(H:PH):Prop:=∃I A,H=U [I,A]/\Dj [I,A]/\a.le I/\x.1<=g.length/\cU I A x.2 (Syn.joinAll f (g.take x.1))
def jT{vg:Value}{N:Nat}(hN:N<=2^20)(hf:cU I A vf f)(fn:FN N f)(V:bK I vg g)(gn:FN N g):
  aT prog 200 #[vf,vg] I [A] fun v Q U=>∃B,U=[B]/\cU Q B v (Syn.joinAll f g):=by
 intro hd;obtain⟨X,W,rfl⟩:=hf.shape;obtain⟨ga,gc,rfl,_⟩:=id V;have gl:=gn.len;refine eX func200 rfl (by simp[ntmps200]) fun w0=>?_;simp only[ntmps200,E];refine ai ?_;refine bY (fun x=>g.length-x.1) (uM (.slice ga g.length gc) g.length) (So f g I) (0,.slice X f.length W) (by simp only[go_sem,Y,uM,E]) (by simp only[go_sem,Y,uM]) ?_ ?_
 .exact⟨I,A,rfl,hd,aC _,aF _,hf⟩
 rintro⟨i,v⟩ H ⟨I1,A1,rfl,m,d,hi,e⟩ j;simp only at hi e;simp only[uM];have G:bK I1 (.slice ga g.length gc) g:=Sl.le (R:=cI) (fun{I J c a} h k=>cI.le h k) V d;rcases aI i g.length with w|aa
 .have q:decide ((i:Int)<(g.length:Int))=true:=by simp;omega
  have e1:=wrap64 (n:=i+1) O;have P:IntKind.i64.wrap ((i:Int)+1)=((i+1:Nat):Int):=by rw[<-e1];congr 1
  obtain⟨s,hs⟩:∃s,g[i]?=some s:=⟨_,aZ w⟩;have C:=cY hs;obtain⟨b,off,cs,rfl,K,o⟩:=G.load cI.len hs;obtain⟨sa,S,rfl,u⟩:=K.shape;have L:FN N (Syn.joinAll f (g.take i)):=fn.joinAll ⟨⟨fun t ht=>gn.ok.1 t (ly ht),gn.ok.2.sublist (List.take_sublist i g)⟩,fun t ht=>gn.le t (ly ht)⟩;have fal:=L.len;have Z:=gn.le s C;apply RG;simp only[go_sem,q,E];refine⟨O,?_⟩;refine X5 (l:=[E s.1,.slice sa (T.subs s.2).length S,E (T.plc (T.subs s.2) s.2)]) (v:=.agg #[E s.1,.slice sa (T.subs s.2).length S,E (T.plc (T.subs s.2) s.2)]) rfl (cellsU m (.head _) o) (.inl ⟨rg,rfl⟩) ?_;apply RG;simp only[go_sem,E];refine F2 m [0] rfl jl rfl (F:=[]) rfl (jm e u L.ok.2 (fun t ht=>by have:=L.le t ht;omega) O O) ?_;rintro v Q U z y⟨B,rfl,p⟩;obtain⟨a2,c2,rfl⟩:=p.shape;simp only[Y]at z |-;apply RG;simp only[go_sem,E,P];rw[<-Sq hs]at p |-;exact j (i+1,.slice a2 (Syn.joinAll f (g.take (i+1))).length c2) _ _ bh (by simp only[go_sem,Y,uM,E]) (by simp only[go_sem,Y,uM]) ⟨Q,B,rfl,z,D d y,w,p⟩
 .have q:decide ((i:Int)<(g.length:Int))=false:=by simp;omega
  have:i=g.length:=by omega
  subst this;rw[dO]at e;apply RG;simp only[go_sem,q,E];exact az rfl m (r:=[_]) rfl d ⟨A1,rfl,e⟩
def sD(a:Option Addr)(c:Nat)(t:T):Value:=.slice a (T.subs t).length c
def rD(t:T):Value:=E (T.plc (T.subs t) t)
def bU.shape2{t:T}(h:bU I v t):∃a c,v=.agg #[sD a c t,rD t]:=h.shape
def ur(a:Value)(n:Nat)(x:Nat×Option Addr×Nat×T):St:=⟨sp 0 19 [(2,.p 2 0),(3,.p 3 0),(7,.v a),(8,.v (E n)),(9,.v (E x.1))],[⟨2,50,[.slice none 0 0,.int .i64 0]⟩,⟨3,50,[.slice x.2.1 (T.subs x.2.2.2).length x.2.2.1,.int .i64 (T.plc (T.subs x.2.2.2) x.2.2.2)]⟩]⟩
def MY(g:ad)(a:PH)(x:Nat×Option Addr×Nat×T)(H:PH):Prop:=∃I,H=U [I]/\Dj [I]/\a.le I/\x.1<=g.length/\x.2.2.2=gB (g.take x.1)/\bU I (.agg #[sD x.2.1 x.2.2.1 x.2.2.2,rD x.2.2.2]) x.2.2.2
def MZ(hs:g[i]?=some s):gB (g.take (i+1))=(gB (g.take i)).or s.2:=by
 have a:i<g.length:=by
  rcases aI i g.length with h|h
  .exact h
  .rw[fe h]at hs;cases hs
 rw[pj a];rw[aZ a]at hs;rw[cW hs];unfold gB;rw[pg];rfl
def Na{vg:Value}(K:bK I vg g)(S:g.length<2^40):aT prog 78 #[vg] I [] fun v B G=>G=[]/\bU B v (gB g):=by
 intro hd;obtain⟨ga,gc,rfl,_⟩:=id K;refine eX func78 rfl (by simp[ntmps78]) fun w0=>?_;simp only[ntmps78,E];refine ai ?_;refine X4 rfl sZ (sW _) ?_;rintro v H2⟨rfl,rfl⟩;apply RG;simp only[go_sem,E];refine bY (fun x=>g.length-x.1) (ur (.slice ga g.length gc) g.length) (MY g I) (0,none,0,.lf false) (by simp only[go_sem,Y,ur,E]) (by simp only[go_sem,Y,ur,T.subs,T.vis,T.plc,bo,dK,dD]) ?_ ?_
 .exact⟨I,rfl,hd,aC _,aF _,rfl,oV I false⟩
 rintro⟨i,a,k,t⟩ H ⟨Q,rfl,f,d,hi,ht,hr⟩ e;simp only at hi ht hr;simp only[ur];have y:bK Q (.slice ga g.length gc) g:=Sl.le (R:=cI) (fun{I J c a} h k=>cI.le h k) K d;rcases aI i g.length with q|P
 .have m:decide ((i:Int)<(g.length:Int))=true:=by simp;omega
  have e1:=wrap64 (n:=i+1) O;have A:IntKind.i64.wrap ((i:Int)+1)=((i+1:Nat):Int):=by rw[<-e1];congr 1
  obtain⟨s,hs⟩:∃s,g[i]?=some s:=⟨_,aZ q⟩;obtain⟨b,off,cs,rfl,z,j⟩:=y.load cI.len hs;obtain⟨sa,C,rfl,o⟩:=z.shape;apply RG;simp only[go_sem,m,E];refine⟨O,?_⟩;refine X5 (l:=[E s.1,.slice sa (T.subs s.2).length C,E (T.plc (T.subs s.2) s.2)]) (v:=.agg #[E s.1,.slice sa (T.subs s.2).length C,E (T.plc (T.subs s.2) s.2)]) rfl (cellsU f (.head _) j) (.inl ⟨rg,rfl⟩) ?_;apply RG;simp only[go_sem,E];refine F2 f [] rfl oC rfl (F:=[]) rfl (oL hr o) ?_;rintro v B G w u⟨rfl,p⟩;obtain⟨a2,L,rfl⟩:=p.shape;simp only[Y]at w |-;apply RG;simp only[go_sem,E,A];exact e (i+1,a2,L,t.or s.2) _ _ bh (by simp only[go_sem,Y,ur,E]) (by simp only[go_sem,Y,ur]) ⟨B,rfl,w,D d u,q,by simp only;rw[MZ hs,ht],p⟩
 .have m:decide ((i:Int)<(g.length:Int))=false:=by simp;omega
  have:i=g.length:=by omega
  subst this;rw[dO]at ht;subst ht;apply RG;simp only[go_sem,m,E];exact az rfl f (r:=[.agg #[sD a k (gB g),rD (gB g)]]) (by simp only[results78,go_sem,E,sD,rD]) d ⟨rfl,hr⟩
def cR(I:PH)(c:List Value)(t:Tok):Prop:=∃b d line a k,c=[.int .u8 t.kind,.string ⟨⟨t.text⟩⟩,b,.int .i64 d,.int .i64 line,sD a k t.cond,rD t.cond]/\one b=true/\bU I (.agg #[sD a k t.cond,rD t.cond]) t.cond
def cR.le{t:Tok}(h:cR I c t)(b:I.le J):cR J c t:=by obtain⟨p,f,l,a,k,e,h1,h2⟩:=h;exact⟨p,f,l,a,k,e,h1,bU.le h2 b⟩
def cR.len(c:List Value)(t:Tok)(h:cR I c t):c.length=7:=by obtain⟨p,f,l,a,k,e,_⟩:=h;rw[e];rfl
def lF(_:PH)(c:List Value)(t:Tok):Prop:=c=[.bool t.fits]
def lF.len(c:List Value)(t:Tok)(h:lF I c t):c.length=1:=by rw[show c=_ from h];rfl
structure iz(I:PH)(Z:List Tok)(lv fv:Value):Prop where
 tok:Sl cR I lv Z
 fit:Sl lF I fv Z
 len:Z.length<=16384
 ok:bw Z
variable{Z:List Tok}
def iz.le{lv fv:Value}(h:iz I Z lv fv)(b:I.le J):iz J Z lv fv:=
 ⟨Sl.le (R:=cR) (fun{I J c a} h k=>cR.le h k) h.tok b,Sl.le (R:=lF) (fun{I J c a} h k=>h) h.fit b,h.len,h.ok⟩
def bN(lv fv ov dv:Value)(o:Nat):Obj:=.cells #[lv,fv,ov,E o,dv] 161 (0,0)
def WR{n:Nat}(h:decide ((a:Int)<16384)=false)(b:n<=16384)(ha:a<=n):a=n:=by have:=Cg h;omega
def Lp{pb:Nat}{lv fv ov dv:Value}{o:Nat}(h:iz I Z lv fv)(ha:a<=Z.length):
  aT prog 209 #[pt pb,E a] I [sg pb (bN lv fv ov dv o)] fun v f d=>d=[sg pb (bN lv fv ov dv o)]/\f=I/\v=.agg #[.slice none 0 0,E 0]:=by
 intro hd;have e:=h.len;obtain⟨la,g,rfl,_⟩:=h.tok;refine eX func209 rfl (by simp[ntmps209]) fun w0=>?_;simp only[ntmps209,E,pt];cases h6:decide ((a:Int)<16384)
 .apply cD 10;simp only[go_sem,h6];have c:a=Z.length:=WR h6 e ha;have b:decide ((a:Int)>=(Z.length:Int))=true:=by simp;omega
  refine ai ?_;refine X5 (l:=[_]) rfl (cellsU hd (.tail _ (.head _)) (dt (by simp[bN]) rfl)) (.inr ⟨lL,rfl⟩) ?_;refine dq b ?_;refine X4 rfl sZ (sW _) ?_;rintro v H2⟨rfl,rfl⟩;apply RG;simp only[go_sem,E];exact az rfl hd (r:=[.agg #[.slice none 0 0,E 0]]) (by simp only[results209,go_sem,E]) (aC _) ⟨rfl,rfl,rfl⟩
 .apply cD 10;simp only[go_sem,h6];refine ai ?_;refine X4 rfl sZ (sW _) ?_;rintro v H2⟨rfl,rfl⟩;apply RG;simp only[go_sem,E];exact az rfl hd (r:=[.agg #[.slice none 0 0,E 0]]) (by simp only[results209,go_sem,E]) (aC _) ⟨rfl,rfl,rfl⟩
end Go.Proofs.YtfaclfkpnmcmlaaGreatDoor
namespace Go.Sx
open Go
def kl:List (Nat×SV)->Nat->SV
 | [],_=>.u
 |(k,v)::l,t=>if k=t then v else kl l t
def dn(n:Nat)(L:List (Nat×SV)):List SV:=(List.range n).map (kl L)
variable{L:List (Nat×SV)}
theorem Pg{n:Nat}{t:Nat}(h:t<n):jA (dn n L) t=kl L t:=by rw[rE];unfold dn;simp[h]
theorem Vy(n:Nat)(L:List (Nat×SV))(d:Nat)(y:SV):gS (dn n L) d y=dn n ((d,y)::L):=by
 apply List.ext_getElem?;intro i;rw[ts];unfold dn;simp only[eN,vZ,jG];by_cases e:d=i
 .subst e;by_cases h:d<n
  .simp[h,kl]
  .simp[h]
 .simp only[ab e];by_cases h:i<n
  .simp[h,kl,e]
  .simp[h]
def Jk (f : SV → SV) (hf : f .u = .u) (n : Nat) (L : List (Nat × SV)) : (dn n L).map f = dn n (L.map fun p => (p.1, f p.2)) := by
  unfold dn
  rw [pi]
  apply m0
  intro t _
  simp only [Function.comp]
  induction L with
  | nil => exact hf
  | cons p l ih => obtain ⟨k, v⟩ := p; simp only [kl, ib]; split
                   · rfl
                   · exact ih
theorem N8(d n:Nat)(L:List (Nat×SV)):(dn n L).map (dh d)=dn n (L.map fun p=>(p.1,dh d p.2)):=Jk _ rfl _ _
theorem U0(k b n:Nat)(L:List (Nat×SV)):(dn n L).map (iN k b)=dn n (L.map fun p=>(p.1,iN k b p.2)):=Jk _ rfl _ _
def py:List (Nat×SV)->List (Nat×SV)->Prop
 | [],_=>True
 |(k,v)::r,L=>kl L k=v/\py r L
def KY {l m : List SV} (hl : l.length = m.length) (h : ∀ (i : Nat) (x : SV), l[i]? = some x → x = .u ∨ m[i]? = some x) : iO l m := by
  induction l generalizing m with
  | nil => cases m with
    | nil => trivial
    | cons y m => simp at hl
  | cons x l ih => cases m with
    | nil => simp at hl
    | cons y m =>
      have ht := ih (m := m) (by simpa using hl) fun i z hz => by simpa using h (i + 1) z (by simpa using hz)
      have h0 := h 0 x rfl
      cases x with
      | u => exact ht
      | v z => exact ⟨by rcases h0 with h0 | h0
                         · cases h0
                         · simpa using h0.symm, ht⟩
      | p a b => exact ⟨by rcases h0 with h0 | h0
                           · cases h0
                           · simpa using h0.symm, ht⟩
def py.get{L':List (Nat×SV)}(h:py L' L)(t:Nat):kl L' t=.u\/kl L' t=kl L t:=by
 induction L' with
 |nil=>exact .inl rfl
 |cons p r a=>
  obtain⟨k,v⟩:=p;simp only[kl];split
  .rename_i e;subst e;exact .inr h.1.symm
  .exact a h.2
def ft{n:Nat}{L':List (Nat×SV)}(h:py L' L):iO (dn n L') (dn n L):=by
 refine KY (by simp[dn]) fun i x a=>?_;unfold dn at a |-;simp only[jG]at a |-;cases hr:(List.range n)[i]? with
 |none=>rw[hr]at a;cases a
 |some j=>
  rw[hr]at a;simp only[cZ,a8]at a |-;rcases h.get j with e|e
  .exact .inl (by rw[<-a];exact e)
  .exact .inr (by rw[<-e];exact a)
def pG:Nat->List Value->List (Nat×SV)
 |_,[]=>[]
 |i,v::l=>(i,.v v)::pG (i+1) l
def Hy:∀(a:List Value) (i t:Nat),kl (pG i a) t=if i<=t then (match a[t-i]? with|some v=>.v v|none=>.u)else .u
 | [],i,t=>by simp[pG,kl]
 |v::l,i,t=>by
  simp only[pG,kl,Hy l (i+1) t];by_cases e:i=t
  .subst e;simp
  .rw[ab e];by_cases h:i<=t
   .rw[ag h,ag O];have:t-i=(t-(i+1))+1:=by omega
    rw[this,vW]
   .rw[ab h,ab O]
def Wu(args:List Value)(n:Nat)(h:args.length<=n):iO (dn n (pG 0 args)) (rI args n):=by
 refine KY (by simp[dn,rI];omega) fun i x a=>?_;unfold dn at a;simp only[jG]at a;by_cases hi:i<n
 .rw[List.getElem?_range hi]at a;simp only[cZ,a8,Hy,aF,co,Nat.sub_zero]at a;cases hv:args[i]? with
  |none=>rw[hv]at a;exact .inl a.symm
  |some v=>
   rw[hv]at a
   right
   unfold rI;have b:i<args.length:=by
    rcases aI i args.length with h|h
    .exact h
    .rw[fe h]at hv;cases hv
   rw[vV (by simpa using b),jG,hv];simpa using a
 .rw[fe (by simpa using hi)]at a;cases a
variable{Φ:Value->PH->Prop}{args:Array Value}{fn:Func}{f:FuncId}{P:Program}
def Ch{c:Code}{H:PH}(hf:P.funcs[f]?=some fn)(hb:fn.body=some c)(a:args.toList.length<=fn.ntmps)
  (h:∀w0,RC ⟨P,f,fn,hf,H,w0,Φ⟩ (.st [.code c]) ⟨dn fn.ntmps (pG 0 args.toList),[]⟩ H):br P f args H Φ:=
 eX hf hb a fun w0=>zh (Wu _ _ a) (by simp[kC]) (h w0)
def X3{c:Code}{H:PH}(hf:P.funcs[f]?=some fn)(a:(fn.body,decide (args.toList.length<=fn.ntmps))=(some c,true))
  (h:∀w0,RC ⟨P,f,fn,hf,H,w0,Φ⟩ (.st [.code c]) ⟨dn fn.ntmps (pG 0 args.toList),[]⟩ H):br P f args H Φ:=by
 simp only[ij,dA]at a;exact Ch hf a.1 a.2 h
attribute [go_sem] kl py Pg Vy N8 U0 pG
end Go.Sx
