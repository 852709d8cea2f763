import Derived.Test.YtfaclfkpnmcmlaaGreatDoorG00
import Derived.Test.YtfaclfkpnmcmlaaGreatDoorG04
import Derived.Test.YtfaclfkpnmcmlaaGreatDoorG10
import Derived.Test.YtfaclfkpnmcmlaaGreatDoorG11
import Derived.Shelf.LaysM
import Derived.Shelf.Strconv.Itoa3
import Derived.Shelf.LaysC
import Derived.Shelf.Strconv.AtoiAll
import Derived.Test.YtfaclfkpnmcmlaaGreatDoorProg
set_option maxHeartbeats 8000000
set_option linter.all false
open Go.Proofs.Tryz
namespace Go.Proofs.YtfaclfkpnmcmlaaGreatDoor
open Go Go.Sx Dg
def jL{a b:Nat}(ha:a<2^32)(hb:b<2^32):j8 .u32 (a:Int) (b:Int)=((a&&&b:Nat):Int):=by
 have e:BitVec.ofInt 32 (a:Int)=BitVec.ofNat _ a:=by rw[BitVec.ofInt_natCast]
 have d:BitVec.ofInt 32 (b:Int)=BitVec.ofNat _ b:=by rw[BitVec.ofInt_natCast]
 have c:a&&&b<2^32:=jy Nat.and_le_left ha;have:j8 .u32 (a:Int) (b:Int)=IntKind.u32.wrap ((BitVec.ofInt 32 (a:Int)&&&BitVec.ofInt 32 (b:Int)).toNat:Int):=rfl;rw[this,e,d,BitVec.toNat_and,BitVec.toNat_ofNat,BitVec.toNat_ofNat,Nat.mod_eq_of_lt ha,Nat.mod_eq_of_lt hb];simp only[IntKind.wrap,show IntKind.bits .u32=32 from rfl,show IntKind.signed .u32=false from rfl];have:((a&&&b:Nat):Int) % (2^32:Int)=((a&&&b:Nat):Int):=rz O (by exact_mod_cast c);simpa using this
def zI{a i:Nat}(hi:i<=32):kw .u32 (a:Int) (i:Int)=((a >>> i:Nat):Int):=by have:kw .u32 (a:Int) (i:Int)=Int.fdiv (a:Int) (2^(min i 32)):=rfl;have e:min i 32=i:=O;rw[this,e,oh];have:(2^i:Int)=((2^i:Nat):Int):=ai;rw[this,Int.fdiv_eq_ediv_of_nonneg _ (fN _)];rfl
def zK{a i:Nat}(ha:a<2^32):a >>> i<2^32:=by rw[oh];exact jy (Nat.div_le_self _ _) ha
def Bu(a i:Nat):((((a >>> i)&&&1:Nat):Int) == 1)=a.testBit i:=by
 have:(a >>> i)&&&1=(a.testBit i).toNat:=by rw[Nat.and_one_is_mod,Nat.testBit_eq_decide_div_mod_eq,oh];have:=Nat.mod_two_eq_zero_or_one (a / 2^i);rcases this with h|h<;>simp[h]
 rw[this];cases a.testBit i<;>rfl
def eT(on off:Nat):Nat->T
 |0=>.lf true
 |k+1=>if on.testBit (23-k)then T.mk (23-k) (.lf false) (eT on off k)else if off.testBit (23-k)then T.mk (23-k) (eT on off k) (.lf false)else eT on off k
def xV(on off:Nat):∀k,k<=24->(eT on off k).ok (24-k)
 |0,_=>trivial
 |k+1,b=>by
  have a:=xV on off k O;have e:24-k=23-k+1:=O;have e2:24-(k+1)=23-k:=O;rw[e]at a;unfold eT;rw[e2];split
  .exact T.mk_ok (aW _) O trivial a
  .split
   .exact T.mk_ok (aW _) O a trivial
   .exact a.mono O
def FV(on off:Nat)(c:dp):∀k,k<=24->((eT on off k).at' c=true<->∀i,24-k<=i->i<24->(on.testBit i=true->c i=true)/\(on.testBit i=false->off.testBit i=true->c i=false))
 |0,_=>⟨fun _ i h1 h2=>by omega,fun _=>rfl⟩
 |k+1,f=>by
  have a:=FV on off c k O;have step:(∀i,24-(k+1)<=i->i<24->(on.testBit i=true->c i=true)/\(on.testBit i=false->off.testBit i=true->c i=false))<->
    ((on.testBit (23-k)=true->c (23-k)=true)/\(on.testBit (23-k)=false->off.testBit (23-k)=true->c (23-k)=false))/\(∀i,24-k<=i->i<24->(on.testBit i=true->c i=true)/\(on.testBit i=false->off.testBit i=true->c i=false)):=by
   constructor
   .exact fun h=>⟨h _ O O,fun i h1 h2=>h i O h2⟩
   .rintro⟨h1,h2⟩ i h3 d;by_cases e:i=23-k
    .subst e;exact h1
    .exact h2 i O d
  rw[step,<-a];have e:eT on off (k+1)=if on.testBit (23-k)then T.mk (23-k) (.lf false) (eT on off k)else if off.testBit (23-k)then T.mk (23-k) (eT on off k) (.lf false)else eT on off k:=rfl
  rw[e];generalize eT on off k=r;cases h1:on.testBit (23-k)<;>cases h2:off.testBit (23-k)<;>cases b:c (23-k)<;>simp[T.mk_at,T.at',b]
def gY(on off:Nat):T:=if (on&&&16777215)&&&(off&&&16777215)≠0 then .lf false else eT (on&&&16777215) (off&&&16777215) 24
def Nx(on off:Nat):(gY on off).ok 0:=by
 unfold gY;split
 .trivial
 .exact xV _ _ 24 (aW _)
def ml(on off mb:Nat)(a:Nat×Nat):St:=
 ⟨sp 0 45 [(0,.v (.int .u32 on)),(1,.v (.int .u32 off)),(4,.p 4 0),(5,.v (pt mb)),(6,.v (E a.2)),(7,.v (.int .i64 (23-(a.1:Int))))],[⟨4,50,[.slice none 0 0,.int .i64 0]⟩]⟩
def Nv(on off mb:Nat)(b:PH)(a:Nat×Nat)(H:PH):Prop:=
 ∃I mk ms,H=U (I::mk)/\Dj (I::mk)/\b.le I/\a.1<=24/\mY mb ms mk/\ms.length<=a.1/\T.isIn ms (eT on off a.1)/\a.2=T.plc ms (eT on off a.1)
def FY{I:PH}{on off:Nat}(K:on<2^32)(t:off<2^32):aI prog 69 #[.int .u32 on,.int .u32 off] I [] fun v I2 qs=>qs=[]/\bO I2 v (gY on off):=by
 intro hd;refine fq func69 rfl (by simp[ntmps69]) fun w0=>?_;simp only[ntmps69,E];have S:(16777215:Nat)<2^32:=by decide
 have s:on&&&16777215<2^32:=jy Nat.and_le_left K;have h:off&&&16777215<2^32:=jy Nat.and_le_left t;have e1:=jL K S;have e2:=jL t S;have e3:=jL s h;simp only[bG]at e1 e2;by_cases V:(on&&&16777215)&&&(off&&&16777215)=0
 .have D:((((on&&&16777215)&&&(off&&&16777215):Nat):Int) != 0)=false:=by rw[V];rfl
  apply RG;simp only[go_sem,e1,e2,e3,D];refine EK hd [] rfl Cn rfl (F:=[]) rfl (Dh I) ?_;rintro v I2 qs R P⟨mb,rfl,hM⟩;simp only[ab]at R |-;apply RG;simp only[go_sem,E,pt];refine bz (fun a=>24-a.1) (ml (on&&&16777215) (off&&&16777215) mb) (Nv (on&&&16777215) (off&&&16777215) mb I) (0,1) (by simp only[go_sem,ab,ml,E,pt,Int.sub_zero]) (by simp only[go_sem,ab,ml,E]) ?_ ?_
  .exact⟨I2,qs,[],rfl,R,P,bg _,hM,by simp,trivial,rfl⟩
  rintro⟨k,r⟩ H ⟨I3,mk,ms,rfl,o,f,hk,d,Z,l,hr⟩ e;simp only at hk d Z l hr;subst hr;simp only[ml];rcases aB k 24 with n|aa
  .have C:decide (23-(k:Int)>=0)=true:=by simp;omega
   have ei:(23-(k:Int))=((23-k:Nat):Int):=O;have J:IntKind.i64.wrap (((23-k:Nat):Int)-1)=23-((k+1:Nat):Int):=by
    have h1:(((23-k:Nat):Int)-1)=22-(k:Int):=O;rw[h1];have:∀k:Nat,k<24->IntKind.i64.wrap (22-(k:Int))=23-((k+1:Nat):Int):=by decide
    exact this k n
   have w:=zI (a:=on&&&16777215) (i:=23-k) O;have u:=zI (a:=off&&&16777215) (i:=23-k) O;have q:=jL (zK (i:=23-k) s) (show (1:Nat)<2^32 by decide);have p:=jL (zK (i:=23-k) h) (show (1:Nat)<2^32 by decide);simp only[bG]at q p;have A:=Bu (on&&&16777215) (23-k);have z:=Bu (off&&&16777215) (23-k);have m:decide (((23-k:Nat):Int)>=0)=true:=ai;have G:(0:Int)<=((23-k:Nat):Int):=O;have g:=xV (on&&&16777215) (off&&&16777215) k hk;rw[show 24-k=23-k+1 by omega]at g;rw[ei];cases b1:(on&&&16777215).testBit (23-k)
   .cases b2:(off&&&16777215).testBit (23-k)
    .apply RG;simp only[go_sem,m,G,w,u,q,p,A,z,b1,b2,E,pt,J];refine e (k+1,T.plc ms (eT (on&&&16777215) (off&&&16777215) k)) _ _ bC (by simp only[go_sem,ab,ml,E,pt]) (by simp only[go_sem,ab,ml,E]) ⟨I3,mk,ms,rfl,o,f,n,d,O,?_,?_⟩
     .simp only[eT,b1,b2,iN,gT];exact l
     .simp only[eT,b1,b2,iN,gT]
    .apply RG;simp only[go_sem,m,G,w,u,q,p,A,z,b1,b2,E,pt];have c1:=zf (mb:=mb) (I:=I3) (i:=23-k) (lo:=eT (on&&&16777215) (off&&&16777215) k) (hi:=.lf false) d O g trivial l trivial O;obtain⟨mA,mS,mR,mM,rfl,N,M,L⟩:=d;refine EK o [0,1,2] rfl yq rfl (F:=[]) rfl c1 ?_;rintro v1 U qs c b⟨us,B,X,j,rfl⟩;simp only[ab]at c |-;apply RG;simp only[go_sem,E,pt,J];refine e (k+1,T.plc (ms++us) (eT (on&&&16777215) (off&&&16777215) (k+1))) _ _ bC ?_ (by simp only[go_sem,ab,ml,E]) ⟨U,qs,ms++us,rfl,c,Y f b,n,B,by simp only[dG];omega,?_,rfl⟩
     .simp only[eT,b1,b2,cY,iN,gT];exact(by simp only[go_sem,ab,ml,E,pt])
     .simp only[eT,b1,b2,cY,iN,gT];exact j
   .apply RG;simp only[go_sem,m,G,w,u,q,p,A,z,b1,E,pt];have c1:=zf (mb:=mb) (I:=I3) (i:=23-k) (lo:=.lf false) (hi:=eT (on&&&16777215) (off&&&16777215) k) d O trivial g trivial l O;obtain⟨mA,mS,mR,mM,rfl,N,M,L⟩:=d;refine EK o [0,1,2] rfl yq rfl (F:=[]) rfl c1 ?_;rintro v1 U qs c b⟨us,B,X,j,rfl⟩;simp only[ab]at c |-;apply RG;simp only[go_sem,E,pt,J];refine e (k+1,T.plc (ms++us) (eT (on&&&16777215) (off&&&16777215) (k+1))) _ _ bC ?_ (by simp only[go_sem,ab,ml,E]) ⟨U,qs,ms++us,rfl,c,Y f b,n,B,by simp only[dG];omega,?_,rfl⟩
    .simp only[eT,b1,cY,iN,gT];exact(by simp only[go_sem,ab,ml,E,pt])
    .simp only[eT,b1,cY,iN,gT];exact j
  .have Q:k=24:=by omega
   subst Q;have C:decide (23-((24:Nat):Int)>=0)=false:=by decide
   have g:=xV (on&&&16777215) (off&&&16777215) 24 (aW _);have y:gY on off=eT (on&&&16777215) (off&&&16777215) 24:=by unfold gY;rw[ad (by simpa using V)]
   rw[show 23-((24:Nat):Int)=-1 by decide]at C |-;apply RG;simp only[go_sem,C,E,pt];obtain⟨mA,mS,mR,mM,rfl,N,M,L⟩:=id d;refine EK o [0,1,2] rfl Co rfl (F:=[]) rfl (BR (mb:=mb) d l g O) ?_;rintro v2 U qs c b⟨rfl,hr⟩;rw[<-y]at hr;obtain⟨xr,cr,rfl⟩:=hr.shape;simp only[ab]at c |-;apply RG;simp only[go_sem,E];exact ao rfl c (r:=[.agg #[.slice xr (T.subs (gY on off)).length cr,E (T.plc (T.subs (gY on off)) (gY on off))]]) (by simp only[results69,go_sem,E]) (Y f b) ⟨rfl,hr⟩
 .have D:((((on&&&16777215)&&&(off&&&16777215):Nat):Int) != 0)=true:=by simp only[bne_iff_ne,ne_eq];omega
  have y:gY on off=.lf false:=by unfold gY;rw[ak (by simpa using V)]
  apply RG;simp only[go_sem,e1,e2,e3,D];exact ao rfl hd (r:=[.agg #[.slice none 0 0,E 0]]) (by simp only[results69,go_sem,E]) (ax _) ⟨rfl,by rw[y];exact nV I false⟩
open Go Go.Sx Dg Syn
def LR{α:Type}(R:List Value->α->Prop):List Value->List α->Prop
 |xs,[]=>xs=[]
 |xs,a::l=>∃c ys,xs=c++ys/\R c a/\LR R ys l
section
variable {α:Type} {R:List Value->α->Prop} {n:Nat}
def LR.len(b:∀c a,R c a->c.length=n):∀{l:List α} {xs:List Value},LR R xs l->xs.length=l.length*n
 | [],xs,h=>by rw[show xs=[] from h];simp
 |a::l,xs,⟨c,ys,e,h1,h2⟩=>by rw[e,dG,b c a h1,LR.len b h2,bf,fm];omega
def LR.mono{R':List Value->α->Prop}(h:∀c a,R c a->R' c a):∀{l:List α} {xs:List Value},LR R xs l->LR R' xs l
 | [],xs,k=>k
 |a::l,xs,⟨c,ys,e,h1,h2⟩=>⟨c,ys,e,h c a h1,LR.mono h h2⟩
def LR.app:∀{l m:List α} {xs ys:List Value},LR R xs l->LR R ys m->LR R (xs++ys) (l++m)
 | [],m,xs,ys,h,k=>by rw[show xs=[] from h];exact k
 |a::l,m,xs,ys,⟨c,zs,e,h1,h2⟩,k=>⟨c,zs++ys,by rw[e,eD],h1,LR.app h2 k⟩
theorem LR.one{c:List Value}{a:α}(h:R c a):LR R c [a]:=⟨c,[],by simp,h,rfl⟩
def LR.get(d:∀c a,R c a->c.length=n):∀{l:List α} {xs:List Value} {i:Nat} {a:α},LR R xs l->l[i]?=some a->R ((xs.drop (i*n)).take n) a
 | [],xs,i,a,h,k=>by simp at k
 |b::l,xs,0,a,⟨c,ys,e,h1,h2⟩,k=>by simp only[mV,bv]at k;subst k;rw[e,Nat.zero_mul,jU,List.take_left' (d c b h1)];exact h1
 |b::l,xs,i+1,a,⟨c,ys,e,h1,h2⟩,k=>by simp only[pX]at k;rw[e,fm,lQ,Nat.add_comm,<-kB,List.drop_left' (d c b h1)];exact LR.get d h2 k
def LR.split(f:∀c a,R c a->c.length=n):∀{l:List α} {xs:List Value} (i:Nat),LR R xs l->LR R (xs.take (i*n)) (l.take i)/\LR R (xs.drop (i*n)) (l.drop i)
 |l,xs,0,h=>by simp only[Nat.zero_mul,od,jU];exact⟨rfl,h⟩
 | [],xs,i+1,h=>by rw[show xs=[] from h];simp only[List.take_nil,List.drop_nil];exact⟨rfl,rfl⟩
 |b::l,xs,i+1,⟨c,ys,e,h1,h2⟩=>by
  obtain⟨k1,k2⟩:=LR.split f i h2;have d:=f c b h1;rw[e,fm,lQ,Nat.add_comm (i*n)];constructor
  .have:(c++ys).take (n+i*n)=c++ys.take (i*n):=by rw[<-d];exact List.take_length_add_append _
   rw[this,rE];exact⟨c,_,rfl,h1,k1⟩
  .rw[<-kB,List.drop_left' d,wW];exact k2
def LR.set(b:∀c a,R c a->c.length=n){l:List α}{xs:List Value}{i:Nat}{a:α}{c:List Value}(h:LR R xs l)(hi:i<l.length)(d:R c a):LR R (xs.take (i*n)++c++xs.drop ((i+1)*n)) (l.set i a):=by
 obtain⟨h1,h2⟩:=LR.split b i h;obtain⟨_,f⟩:=LR.split b (i+1) h;have e:l.set i a=l.take i++[a]++l.drop (i+1):=by rw[List.set_eq_take_append_cons_drop,ak hi];simp
 rw[e];exact(h1.app (.one d)).app f
end
def Sl{α:Type}(R:PH->List Value->α->Prop)(I:PH)(v:Value)(l:List α):Prop:=∃a c,v=.slice a l.length c/\(l=[]\/∃b off xs,a=some ⟨b,off,none⟩/\aX I b off xs/\LR (R I) xs l)
variable{v:Value}{I:PH}
def Sl.le{α:Type}{R:PH->List Value->α->Prop}(f:∀{I J c a},R I c a->I.le J->R J c a){J:PH}{l:List α}(h:Sl R I v l)(d:I.le J):Sl R J v l:=by obtain⟨a,c,e,h⟩:=h;exact⟨a,c,e,h.imp id fun⟨b,off,xs,i,e2,g⟩=>⟨b,off,xs,i,e2.le d,g.mono fun c a h=>f h d⟩⟩
def Ow{α:Type}(R:PH->List Value->α->Prop)(e:TypeId)(size:Nat)(I A:PH)(v:Value)(l:List α):Prop:=∃xs,cZ A e size v l.length xs/\LR (R I) xs l
variable{size:Nat}{e:TypeId}
def Ow.le{α:Type}{R:PH->List Value->α->Prop}(d:∀{I J c a},R I c a->I.le J->R J c a){J A:PH}{l:List α}(h:Ow R e size I A v l)(b:I.le J):Ow R e size J A v l:=by obtain⟨xs,h1,h2⟩:=h;exact⟨xs,h1,h2.mono fun c a h=>d h b⟩
def Ow.nil{α:Type}(R:PH->List Value->α->Prop)(e:TypeId)(size:Nat)(I:PH):Ow R e size I PH.no (.slice none 0 0) ([]:List α):=⟨[],cZ.nil e size,rfl⟩
def Ow.sl{α:Type}{R:PH->List Value->α->Prop}(f:∀{I J c a},R I c a->I.le J->R J c a){e:TypeId}{size:Nat}{I J A:PH}{v:Value}{l:List α}(h:Ow R e size I A v l)(h1:I.le J)(h2:A.le J):Sl R J v l:=by
 obtain⟨xs,h3,i⟩:=h;obtain⟨a,c,e⟩:=h3.slice;rcases g9 l.length with b|hp
 .subst e;exact⟨a,c,rfl,.inl (List.length_eq_zero_iff.1 b)⟩
 .obtain⟨g,cap,e2,d⟩:=h3.1.cells hp;exact⟨_,cap,e2,.inr ⟨g,0,xs,rfl,d.le h2,i.mono fun c a h=>f h h1⟩⟩
abbrev fZ:=@Ow.sl
def Ow.shape{α:Type}{R:PH->List Value->α->Prop}{A:PH}{l:List α}(h:Ow R e size I A v l):∃a c,v=.slice a l.length c:=by obtain⟨xs,h3,_⟩:=h;exact h3.slice
open Go Go.Sx Dg Syn
def fa{a b:Nat}(ha:a<2^62)(hb:b<2^62):IntKind.i64.wrap ((a:Int)-(b:Int))=(a:Int)-(b:Int):=by
 simp only[IntKind.wrap,show IntKind.bits .i64=64 from rfl,show IntKind.signed .i64=true from rfl];rcases aB a b with h|h
 .have h1:((a:Int)-(b:Int)) % (2^64:Int)=(a:Int)-(b:Int)+2^64:=by rw[<-Int.add_emod_right];exact rz O O
  rw[h1,ak]
  .omega
  .simp;omega
 .have h1:((a:Int)-(b:Int)) % (2^64:Int)=(a:Int)-(b:Int):=rz O O;rw[h1,ad];simp;omega
def wS{n:Nat}(h:n<2^62):IntKind.u64.wrap (n:Int)=(n:Int):=by have h1:(n:Int) % (2^64:Int)=n:=rz O O;simp only[IntKind.wrap,show IntKind.bits .u64=64 from rfl,show IntKind.signed .u64=false from rfl,h1];simp
def zJ{a i:Nat}(hi:i<=64):kw .u64 (a:Int) (i:Int)=((a >>> i:Nat):Int):=by have:kw .u64 (a:Int) (i:Int)=Int.fdiv (a:Int) (2^(min i 64)):=rfl;have e:min i 64=i:=O;rw[this,e,oh];have:(2^i:Int)=((2^i:Nat):Int):=ai;rw[this,Int.fdiv_eq_ediv_of_nonneg _ (fN _)];rfl
def zP{g l cap:Nat}(h:l<cap):eZ (some ⟨g,0,none⟩) size l cap=some ⟨g,l*size,none⟩:=by unfold eZ;rw[ad O];simp[l5]
def LR.ones{α:Type}{R:List Value->α->Prop}(b:∀c a,R c a->c.all Sx.one=true):∀{l:List α} {xs:List Value},LR R xs l->xs.all Sx.one=true
 | [],xs,h=>by rw[show xs=[] from h];rfl
 |a::l,xs,⟨c,ys,e,h1,h2⟩=>by rw[e,List.all_append,b c a h1,LR.ones b h2];rfl
def Sl.load{α:Type}{R:PH->List Value->α->Prop}{n:Nat}(g:∀{I} c a,R I c a->c.length=n){a:Option Addr}{m c:Nat}{l:List α}(h:Sl R I (.slice a m c) l){i:Nat}{x:α}(hi:l[i]?=some x):
  ∃b off cs,a=some ⟨b,off,none⟩/\R I cs x/\aX I b (off+i*n) cs:=by
 obtain⟨o,c',e,h⟩:=h;cases e
 have d:i<l.length:=by
  rcases aB i l.length with h|h
  .exact h
  .rw[fW h]at hi;cases hi
 rcases h with k|⟨b,off,xs,rfl,j,hr⟩
 .rw[k]at d;simp at d
 .have f:=hr.len (n:=n) (fun c a h=>g c a h);have h1:(i+1)*n<=l.length*n:=bS _ d;rw[fm]at h1;exact⟨b,off,_,rfl,hr.get (fun c a h=>g c a h) hi,j.sub (i*n) n O⟩
def sD(a:Option Addr)(c:Nat)(t:T):Value:=.slice a (T.subs t).length c
def rD(t:T):Value:=E (T.plc (T.subs t) t)
def bO.shape2{t:T}(h:bO I v t):∃a c,v=.agg #[sD a c t,rD t]:=h.shape
def gW(I:PH)(c:List Value)(t:Tok):Prop:=∃b e d a k,c=[.int .u8 t.kind,.string ⟨⟨t.text⟩⟩,b,.int .i64 e,.int .i64 d,sD a k t.cond,rD t.cond]/\one b=true/\bO I (.agg #[sD a k t.cond,rD t.cond]) t.cond
def gW.le{J:PH}{c:List Value}{t:Tok}(h:gW I c t)(b:I.le J):gW J c t:=by obtain⟨p,f,l,a,k,e,h1,h2⟩:=h;exact⟨p,f,l,a,k,e,h1,bO.le h2 b⟩
def gW.len(c:List Value)(t:Tok)(h:gW I c t):c.length=7:=by obtain⟨p,f,l,a,k,e,_⟩:=h;rw[e];rfl
def av{C:Cx}{σ:St}{H:PH}{c:Cf}{Q:Prop}(h:Q)(e:ni C H (fe C.P 500 c σ [])=Q:=by simp only[go_sem,E];rfl):RC C c σ H:=jC 500 (e.mpr h)
def aC{C:Cx}{k:List Item}{σ:St}{H:PH}{ol:List Oper}{fr:bI}{str:bJ}{l:List (Nat×Oper)}{Q:Prop}(h:Q)(e:oG C ol fr str k H (gA C.P ol fr.k str.k fr.kp l σ [])=Q:=by simp only[go_sem,E];rfl):RD C ol fr str l k σ H:=bp (e.mpr h)
def hZ{C:Cx}{σ:St}{H:PH}{c:Cf}{Q:Prop}(h:Q)(e:ni C H (fe C.P 500 c σ [])=Q:=by simp only[go_sem,E,pt];rfl):RC C c σ H:=jC 500 (e.mpr h)
def jF{C:Cx}{k:List Item}{σ:St}{H:PH}{ol:List Oper}{fr:bI}{str:bJ}{l:List (Nat×Oper)}{Q:Prop}(h:Q)(e:oG C ol fr str k H (gA C.P ol fr.k str.k fr.kp l σ [])=Q:=by simp only[go_sem,E,pt];rfl):RD C ol fr str l k σ H:=bp (e.mpr h)
def cz{C:Cx}{σ:St}{H:PH}{c:Cf}{Q:Prop}(h:Q)(e:ni C H (fe C.P 500 c σ [])=Q:=by simp only[go_sem,E,sD,rD];rfl):RC C c σ H:=jC 500 (e.mpr h)
def bV{C:Cx}{k:List Item}{σ:St}{H:PH}{ol:List Oper}{fr:bI}{str:bJ}{l:List (Nat×Oper)}{Q:Prop}(h:Q)(e:oG C ol fr str k H (gA C.P ol fr.k str.k fr.kp l σ [])=Q:=by simp only[go_sem,E,sD,rD];rfl):RD C ol fr str l k σ H:=bp (e.mpr h)
def tY{C:Cx}{σ:St}{H:PH}{c:Cf}{Q:Prop}(h:Q)(e:ni C H (fe C.P 500 c σ [])=Q:=by simp only[go_sem,pt];rfl):RC C c σ H:=jC 500 (e.mpr h)
def ng{C:Cx}{k:List Item}{σ:St}{H:PH}{ol:List Oper}{fr:bI}{str:bJ}{l:List (Nat×Oper)}{Q:Prop}(h:Q)(e:oG C ol fr str k H (gA C.P ol fr.k str.k fr.kp l σ [])=Q:=by simp only[go_sem,pt];rfl):RD C ol fr str l k σ H:=bp (e.mpr h)
section
variable {C:Cx} {σ:St} {H:PH} {c:Cf} {k:List Item} {ol:List Oper} {fr:bI} {str:bJ} {l:List (Nat×Oper)} {Q p q r s t o:Prop}
def aj(x:p)(h:Q)(e:p->jA C c σ H Q:=by intro x;simp only[jA,go_sem,E,x];rfl):RC C c σ H:=jC 500 ((e x).mpr h)
def aM(x:p)(h:Q)(e:p->oo C ol fr str l k σ H Q:=by intro x;simp only[oo,go_sem,E,x];rfl):RD C ol fr str l k σ H:=bp ((e x).mpr h)
def bW(x:p)(y:q)(h:Q)(e:p->q->jA C c σ H Q:=by intro x y;simp only[jA,go_sem,E,x,y];rfl):RC C c σ H:=jC 500 ((e x y).mpr h)
def eS(x:p)(y:q)(h:Q)(e:p->q->oo C ol fr str l k σ H Q:=by intro x y;simp only[oo,go_sem,E,x,y];rfl):RD C ol fr str l k σ H:=bp ((e x y).mpr h)
def lr(x:p)(y:q)(z:r)(h:Q)(e:p->q->r->jA C c σ H Q:=by intro x y z;simp only[jA,go_sem,E,x,y,z];rfl):RC C c σ H:=jC 500 ((e x y z).mpr h)
def eM(x:p)(y:q)(z:r)(u:s)(h:Q)(e:p->q->r->s->oo C ol fr str l k σ H Q:=by intro x y z u;simp only[oo,go_sem,E,x,y,z,u];rfl):RD C ol fr str l k σ H:=bp ((e x y z u).mpr h)
def Lc(x:p)(h:Q)(e:p->jA C c σ H Q:=by intro x;simp only[jA,go_sem,E,pt,x];rfl):RC C c σ H:=jC 500 ((e x).mpr h)
def dr(x:p)(h:Q)(e:p->jA C c σ H Q:=by intro x;simp only[jA,go_sem,E,sD,rD,x];rfl):RC C c σ H:=jC 500 ((e x).mpr h)
def jG(x:p)(h:Q)(e:p->oo C ol fr str l k σ H Q:=by intro x;simp only[oo,go_sem,E,sD,rD,x];rfl):RD C ol fr str l k σ H:=bp ((e x).mpr h)
end
variable{K L:List (Nat×SV)}
def ae{n:Nat}(h:l4 K L:=by simp only[go_sem,ab,E]):fj (dn n K) (dn n L):=n4 h
def kv{n:Nat}(h:l4 K L:=by simp only[go_sem,ab,E,pt]):fj (dn n K) (dn n L):=n4 h
def wt{n:Nat}(h:l4 K L:=by simp only[go_sem,ab,E,sD,rD]):fj (dn n K) (dn n L):=n4 h
def Uy{n:Nat}(h:l4 K L:=by simp only[go_sem,ab,pt]):fj (dn n K) (dn n L):=n4 h
def aG(n:Nat){P:Program}{f:FuncId}{fn:Func}{c:Code}{args:Array Value}{H:PH}{Φ:Value->PH->Prop}(hf:P.funcs[f]?=some fn)
  (h:∀w0,RC ⟨P,f,fn,hf,H,w0,Φ,none⟩ (.st [.code c]) ⟨dn n (nt 0 args.toList),[]⟩ H) (a:(fn.body,fn.ntmps,decide (args.toList.length<=n))=(some c,n,true):=by exact rfl):aJ P f args H Φ:=by
 simp only[eL,cu]at a;obtain⟨h1,rfl,h3⟩:=a;exact EA hf h1 h3 h
def aV{C:Cx}{k:List Item}{σ:St}{H:PH}{id:Nat}{ops:Array Oper}(κ fr str:List Nat)
  (h:RD C ops.toList ⟨fr,[],PH.emp,[],[]⟩ ⟨str,[],[]⟩ (pick ops.toList κ) k σ H) (hm:C.P.follows .mixedOrders=true:=by exact mixed) (a:nN ops.toList κ ⟨fr,[],PH.emp,[],[]⟩ ⟨str,[],[]⟩=true:=by exact rfl) (b:mG σ.bx=true:=by exact rfl):RC C (.st (.code (.region id ops true)::k)) σ H:=jI hm κ fr str a b h
open Go Go.Sx Dg Syn
def aY(I:PH)(c:List Value)(e:aN):Prop:=∃a k,c=[.int .u8 e.code,.int .i64 e.tok,sD a k e.cond,rD e.cond]/\bO I (.agg #[sD a k e.cond,rD e.cond]) e.cond
variable{I:PH}
def aY.le{J:PH}{c:List Value}{e:aN}(h:aY I c e)(b:I.le J):aY J c e:=by obtain⟨a,k,e,h⟩:=h;exact⟨a,k,e,bO.le h b⟩
def aY.len(c:List Value)(e:aN)(h:aY I c e):c.length=4:=by obtain⟨a,k,e,_⟩:=h;rw[e];rfl
abbrev bL(I D:PH)(v:Value)(e:List aN):Prop:=Ow aY 80 4 I D v e
def bL.le{I J D:PH}{v:Value}{e:List aN}(h:bL I D v e)(b:I.le J):bL J D v e:=Ow.le (R:=aY) (fun{I J c a} h k=>aY.le h k) h b
abbrev hQ:=@bL.le
variable{v:Value}
def Sl.monoR{α:Type}{R R':PH->List Value->α->Prop}{l:List α}(h:Sl R I v l)(d:∀c a,R I c a->R' I c a):Sl R' I v l:=by obtain⟨a,c,e,h⟩:=h;exact⟨a,c,e,h.imp id fun⟨b,off,xs,g,e2,f⟩=>⟨b,off,xs,g,e2,f.mono d⟩⟩
def Kt:Value->Prop
 | .slice _ n c=>n<=c
 |_=>True
def jB:Value->Prop
 | .slice _ n c=>n<=c/\(0<n->c<=maxLen)
 |_=>True
def jd:Nat->PH->List Value->Nd->Prop
 |0,_,_,_=>False
 |d+1,I,c,n=>∃b a k,c=[.int .u8 n.kind,.string ⟨⟨n.text⟩⟩,.int .i64 n.tok,.int .i64 n.slot,b,sD a k n.cond,rD n.cond]/\bO I (.agg #[sD a k n.cond,rD n.cond]) n.cond/\Sl (jd d) I b n.kids/\jB b
def jd.le:∀{d:Nat} {I J:PH} {c:List Value} {n:Nd},jd d I c n->I.le J->jd d J c n
 |0,_,_,_,_,h,_=>h
 |d+1,I,J,c,n,⟨f,a,k,e,h,g,i⟩,b=>⟨f,a,k,e,bO.le h b,Sl.le (R:=jd d) (fun{I J c a} h k=>jd.le h k) g b,i⟩
def jd.up:∀{d:Nat} {I:PH} {c:List Value} {n:Nd},jd d I c n->jd (d+1) I c n
 |0,_,_,_,h=>h.elim
 |d+1,I,c,n,⟨b,a,k,e,h,f,g⟩=>⟨b,a,k,e,h,f.monoR fun _ _ h=>jd.up h,g⟩
def jd.ups{d d':Nat}{c:List Value}{n:Nd}(h:jd d I c n)(hd:d<=d'):jd d' I c n:=by
 induction hd with
 |refl=>exact h
 |step _ a=>exact a.up
def az(I:PH)(c:List Value)(n:Nd):Prop:=∃d,jd d I c n
def LR.depth{I:PH}:∀{l:List Nd} {xs:List Value},LR (az I) xs l->∃d,LR (jd d I) xs l
 | [],xs,h=>⟨0,h⟩
 |a::l,xs,⟨c,ys,e,⟨d,h1⟩,h2⟩=>by obtain⟨b,h3⟩:=LR.depth h2;exact⟨max d b,c,ys,e,h1.ups (Nat.le_max_left _ _),h3.mono fun _ _ h=>h.ups (Nat.le_max_right _ _)⟩
theorem az.mk{vk:Value}{a:Option Addr}{k:Nat}{n:Nd}(h:bO I (.agg #[sD a k n.cond,rD n.cond]) n.cond)(g:Sl az I vk n.kids)(f:jB vk):az I [.int .u8 n.kind,.string ⟨⟨n.text⟩⟩,.int .i64 n.tok,.int .i64 n.slot,vk,sD a k n.cond,rD n.cond] n:=by
 obtain⟨b,c,e,h2⟩:=g;rcases h2 with h2|⟨b',off,xs,l,e2,j⟩
 .exact⟨1,vk,a,k,rfl,h,⟨b,c,e,.inl h2⟩,f⟩
 .obtain⟨d,i⟩:=LR.depth j;exact⟨d+1,vk,a,k,rfl,h,⟨b,c,e,.inr ⟨b',off,xs,l,e2,i⟩⟩,f⟩
def az.shape{c:List Value}{n:Nd}(h:az I c n):∃b a k,c=[.int .u8 n.kind,.string ⟨⟨n.text⟩⟩,.int .i64 n.tok,.int .i64 n.slot,b,sD a k n.cond,rD n.cond]/\bO I (.agg #[sD a k n.cond,rD n.cond]) n.cond/\Sl az I b n.kids/\jB b:=by
 obtain⟨d,h⟩:=h;cases d with
 |zero=>exact h.elim
 |succ d=>obtain⟨b,a,k,e,h1,h2,h3⟩:=h;exact⟨b,a,k,e,h1,h2.monoR fun _ _ h=>⟨d,h⟩,h3⟩
def az.le{J:PH}{c:List Value}{n:Nd}(h:az I c n)(a:I.le J):az J c n:=by obtain⟨d,h⟩:=h;exact⟨d,h.le a⟩
def az.len(c:List Value)(n:Nd)(h:az I c n):c.length=7:=by obtain⟨b,a,k,e,_⟩:=h.shape;rw[e];rfl
abbrev aT(I A:PH)(v:Value)(l:List Nd):Prop:=Ow az 60 7 I A v l
abbrev de(I:PH)(v:Value)(l:List Nd):Prop:=Sl az I v l
def aT.le{I J A:PH}{v:Value}{l:List Nd}(h:aT I A v l)(b:I.le J):aT J A v l:=Ow.le (R:=az) (fun{I J c a} h k=>az.le h k) h b
abbrev cX:=@aT.le
def de.le{J:PH}{l:List Nd}(h:de I v l)(b:I.le J):de J v l:=Sl.le (R:=az) (fun{I J c a} h k=>az.le h k) h b
def Py:ay prog 259:=⟨_,func259,rfl,rfl⟩
def Q2{H:PH}{s:aE}:aJ prog 259 #[.string ⟨⟨s⟩⟩] H fun v H2=>v=.bool (fG s)/\H2=H:=by
 refine aG 18 func259 fun w0=>?_;cases a:(s == [118,97,114])
 rotate_left
 .apply RG;simp only[go_sem,a];exact au (r:=[.bool true]) rfl ⟨by rw[show fG s=true from by rw[eq_of_beq a];decide];rfl,rfl⟩
 cases h1:(s == [102,110])
 rotate_left
 .apply RG;simp only[go_sem,a,h1];exact au (r:=[.bool true]) rfl ⟨by rw[show fG s=true from by rw[eq_of_beq h1];decide];rfl,rfl⟩
 cases h2:(s == [105,110,116])
 rotate_left
 .apply RG;simp only[go_sem,a,h1,h2];exact au (r:=[.bool true]) rfl ⟨by rw[show fG s=true from by rw[eq_of_beq h2];decide];rfl,rfl⟩
 cases h3:(s == [98,111,111,108])
 rotate_left
 .apply RG;simp only[go_sem,a,h1,h2,h3];exact au (r:=[.bool true]) rfl ⟨by rw[show fG s=true from by rw[eq_of_beq h3];decide];rfl,rfl⟩
 cases c:(s == [105,102])
 rotate_left
 .apply RG;simp only[go_sem,a,h1,h2,h3,c];exact au (r:=[.bool true]) rfl ⟨by rw[show fG s=true from by rw[eq_of_beq c];decide];rfl,rfl⟩
 cases d:(s == [101,108,115,101])
 rotate_left
 .apply RG;simp only[go_sem,a,h1,h2,h3,c,d];exact au (r:=[.bool true]) rfl ⟨by rw[show fG s=true from by rw[eq_of_beq d];decide];rfl,rfl⟩
 cases f:(s == [119,104,105,108,101])
 rotate_left
 .apply RG;simp only[go_sem,a,h1,h2,h3,c,d,f];exact au (r:=[.bool true]) rfl ⟨by rw[show fG s=true from by rw[eq_of_beq f];decide];rfl,rfl⟩
 cases g:(s == [114,101,116,117,114,110])
 rotate_left
 .apply RG;simp only[go_sem,a,h1,h2,h3,c,d,f,g];exact au (r:=[.bool true]) rfl ⟨by rw[show fG s=true from by rw[eq_of_beq g];decide];rfl,rfl⟩
 cases i:(s == [112,114,105,110,116])
 rotate_left
 .apply RG;simp only[go_sem,a,h1,h2,h3,c,d,f,g,i];exact au (r:=[.bool true]) rfl ⟨by rw[show fG s=true from by rw[eq_of_beq i];decide];rfl,rfl⟩
 cases j:(s == [97,115,115,101,114,116])
 rotate_left
 .apply RG;simp only[go_sem,a,h1,h2,h3,c,d,f,g,i,j];exact au (r:=[.bool true]) rfl ⟨by rw[show fG s=true from by rw[eq_of_beq j];decide];rfl,rfl⟩
 cases b:(s == [116,114,117,101])
 rotate_left
 .apply RG;simp only[go_sem,a,h1,h2,h3,c,d,f,g,i,j,b];exact au (r:=[.bool true]) rfl ⟨by rw[show fG s=true from by rw[eq_of_beq b];decide];rfl,rfl⟩
 cases e:(s == [102,97,108,115,101])
 rotate_left
 .apply RG;simp only[go_sem,a,h1,h2,h3,c,d,f,g,i,j,b,e];exact au (r:=[.bool true]) rfl ⟨by rw[show fG s=true from by rw[eq_of_beq e];decide];rfl,rfl⟩
 cases h:(s == [114,101,97,100])
 rotate_left
 .apply RG;simp only[go_sem,a,h1,h2,h3,c,d,f,g,i,j,b,e,h];exact au (r:=[.bool true]) rfl ⟨by rw[show fG s=true from by rw[eq_of_beq h];decide];rfl,rfl⟩
 apply RG;simp only[go_sem,a,h1,h2,h3,c,d,f,g,i,j,b,e,h];exact au (r:=[.bool false]) rfl ⟨by rw[show fG s=false from by simp only[fG,List.contains_cons,Am,Ah,q6,qU,Ai,Ag,An,Al,Aj,Af,rk,qX,Ak,a,h1,h2,h3,c,d,f,g,i,j,b,e,h,Bool.or_self];rfl];rfl,rfl⟩
variable{xs:List Value}{e:TypeId}{cur:Array Value}{size:Nat}
def ti{g cap n p:Nat}{cs:List Value}(a:xs.length=n*size)(h1:n<=cap)(h2:cap<=maxLen)(h3:cur.size=cap*size)(b:cur.toList.take (n*size)=xs)(hp:p+cs.length<=n*size):
  cZ (sg g (.cells (bi cur.toList p cs).toArray e (0,0))) e size (.slice (some ⟨g,0,none⟩) n cap) n (bi xs p cs):=
 cZ.of_sg (by rw[eJ];exact a) h1 h2 (by simp[eJ];exact h3) (by show (bi cur.toList p cs).take (n*size)=_;rw[DR _ _ _ _ hp,b])
variable{i:Nat}
def qJ{α:Type}{R:List Value->α->Prop}{n:Nat}(j:∀c a,R c a->c.length=n){l:List α}{k:Nat}{a:α}{c cs:List Value}(h:LR R xs l)(hi:i<l.length)(f:(xs.drop (i*n)).take n=c)(q:k+cs.length<=n)(ha:R (bi c k cs) a):LR R (bi xs (i*n+k) cs) (l.set i a):=by
 have g:=h.len j;have d:(i+1)*n<=l.length*n:=bS _ hi;rw[fm,lQ]at d;have m:c.length=n:=by rw[<-f];simp;omega
 have b:=h.set j hi ha;have e:bi xs (i*n+k) cs=xs.take (i*n)++bi c k cs++xs.drop ((i+1)*n):=by
  rw[lg _ _ _ O,lg _ _ _ O];have p:xs.take (i*n+k)=xs.take (i*n)++c.take k:=by rw[<-f,rF,kF O,List.take_add]
  have e2:xs.drop (i*n+k+cs.length)=c.drop (k+cs.length)++xs.drop ((i+1)*n):=by
   have h3:(xs.drop (i*n)).drop n=xs.drop ((i+1)*n):=by rw[kB,fm,lQ]
   have o:xs.drop (i*n)=c++xs.drop ((i+1)*n):=by rw[<-f,<-h3,fl]
   rw[Nat.add_assoc,<-kB,o,List.drop_append_of_le_length O]
  rw[p,e2];simp
 rw[e];exact b
def Ow.open'{α:Type}{R:PH->List Value->α->Prop}{A:PH}{l:List α}(h:Ow R e size I A v l)(b:0<l.length)(d:∀c a,R I c a->c.length=size):
  ∃g cap cur xs,v=.slice (some ⟨g,0,none⟩) l.length cap/\A=sg g (.cells cur e (0,0))/\l.length<=cap/\cap<=maxLen/\cur.size=cap*size/\cur.toList.take (l.length*size)=xs/\xs.length=l.length*size/\LR (R I) xs l:=by
 obtain⟨xs,h1,h2⟩:=h;obtain⟨g,cap,cur,m,e2,k,j,i,f⟩:=h1.sg b;exact⟨g,cap,cur,xs,m,e2,k,j,i,f,h2.len d,h2⟩
def qu{α:Type}{R:List Value->α->Prop}{n:Nat}(q:∀c a,R c a->c.length=n){g:Nat}{l:List α}{c:List Value}{k m:Nat}(h:LR R xs l)(hi:i<l.length)(o:l.length*n<=cur.size)(d:cur.toList.take (l.length*n)=xs)(j:(xs.drop (i*n)).take n=c)(s:k+m<=n):
  aX (sg g (.cells cur e (0,0))) g (i*n+k) ((c.drop k).take m):=by
 have b:=h.len q;have f:(i+1)*n<=l.length*n:=bS _ hi;rw[fm,lQ]at f;have p:c.length=n:=by rw[<-j];simp;omega
 have r:aX (sg g (.cells cur e (0,0))) g 0 xs:=gX O (by rw[jU,b];exact d);have h1:=(r.sub (i*n) n O).sub k m (by rw[j];omega)
 rwa [j,eR]at h1
def J0:prog.underlying 33=some (.slice 60):=by obtain⟨i,z,h,_⟩:=lJ;exact h
def az.ones{c:List Value}{n:Nd}(h:az I c n):c.all Sx.one=true:=by obtain⟨d,a,k,e,_,b,_⟩:=h.shape;obtain⟨x,y,rfl,_⟩:=b;rw[e];rfl
def Ow.cap{α:Type}{R:PH->List Value->α->Prop}{A:PH}{l:List α}(h:Ow R e size I A v l)(d:∀c a,R I c a->c.length=size):Kt v:=by
 rcases g9 l.length with b|b
 .obtain⟨a,c,rfl⟩:=h.shape;show l.length<=c;omega
 .obtain⟨g,cap,cur,xs,rfl,_,h1,_⟩:=h.open' b d;exact h1
def Ow.capN{α:Type}{R:PH->List Value->α->Prop}{A:PH}{l:List α}(h:Ow R e size I A v l)(d:∀c a,R I c a->c.length=size):jB v:=by
 rcases g9 l.length with b|b
 .obtain⟨a,c,rfl⟩:=h.shape;exact⟨O,fun h=>by omega⟩
 .obtain⟨g,cap,cur,xs,rfl,_,h1,h2,_⟩:=h.open' b d;exact⟨h1,fun _=>h2⟩
def PA:ay prog 265:=⟨_,func265,rfl,rfl⟩
def CB:ay prog 266:=⟨_,func266,rfl,rfl⟩
def GX:ay prog 212:=⟨_,func212,rfl,rfl⟩
def Pn:ay prog 219:=⟨_,func219,rfl,rfl⟩
def PC:ay prog 269:=⟨_,func269,rfl,rfl⟩
def GY:ay prog 218:=⟨_,func218,rfl,rfl⟩
def Ph:ay prog 210:=⟨_,func210,rfl,rfl⟩
def Pj:ay prog 214:=⟨_,func214,rfl,rfl⟩
def GW:ay prog 211:=⟨_,func211,rfl,rfl⟩
def Pi:ay prog 213:=⟨_,func213,rfl,rfl⟩
def gO(n:Int):Bool:=(decide (97<=n) && decide (n<=122)) || (decide (65<=n) && decide (n<=90))
def fS(n:Int):Bool:=decide (48<=n) && decide (n<=57)
def eY(n:Int):Bool:=gO n || fS n || (n == 95)
def l9(n:Int):Bool:=(n == 32) || (n == 9)
def i6(n:Int):Bool:=!((n != 9) && (decide (n<32) || decide (n>126)))
def Sd(n:Int)(H:PH):aJ prog 265 #[.int .u8 n] H fun v H2=>v=.bool (gO n)/\H2=H:=by
 refine aG 17 func265 fun w0=>?_;cases h1:decide (97<=n)
 .cases h3:decide (65<=n)
  .refine je h1 h3 ?_;exact au (r:=[_]) rfl ⟨by simp only[gO,h1,h3];rfl,rfl⟩
  .cases a:decide (n<=90)
   .apply RG;simp only[go_sem,h1,h3,a];exact au (r:=[_]) rfl ⟨by simp only[gO,h1,h3,a];rfl,rfl⟩
   .apply RG;simp only[go_sem,h1,h3,a];exact au (r:=[_]) rfl ⟨by simp only[gO,h1,h3,a];rfl,rfl⟩
 .cases h2:decide (n<=122)
  .cases h3:decide (65<=n)
   .apply RG;simp only[go_sem,h1,h2,h3];exact au (r:=[_]) rfl ⟨by simp only[gO,h1,h2,h3];rfl,rfl⟩
   .cases a:decide (n<=90)
    .apply RG;simp only[go_sem,h1,h2,h3,a];exact au (r:=[_]) rfl ⟨by simp only[gO,h1,h2,h3,a];rfl,rfl⟩
    .apply RG;simp only[go_sem,h1,h2,h3,a];exact au (r:=[_]) rfl ⟨by simp only[gO,h1,h2,h3,a];rfl,rfl⟩
  .refine je h1 h2 ?_;exact au (r:=[_]) rfl ⟨by simp only[gO,h1,h2];rfl,rfl⟩
def BN(n:Int)(H:PH):aJ prog 266 #[.int .u8 n] H fun v H2=>v=.bool (fS n)/\H2=H:=by
 refine aG 9 func266 fun w0=>?_;cases h1:decide (48<=n)
 .refine db h1 ?_;exact au (r:=[_]) rfl ⟨by simp only[fS,h1];rfl,rfl⟩
 .cases h2:decide (n<=57)
  .refine je h1 h2 ?_;exact au (r:=[_]) rfl ⟨by simp only[fS,h1,h2];rfl,rfl⟩
  .refine je h1 h2 ?_;exact au (r:=[_]) rfl ⟨by simp only[fS,h1,h2];rfl,rfl⟩
def IE(n:Int)(H:PH):aJ prog 212 #[.int .u8 n] H fun v H2=>v=.bool (eY n)/\H2=H:=by
 refine aG 13 func212 fun w0=>?_;refine af ?_;refine Xa rfl PA (Sd n H) ?_;rintro v H2⟨rfl,rfl⟩;cases h1:gO n
 .refine af ?_;refine Xa rfl CB (BN n _) ?_;rintro v H2⟨rfl,rfl⟩;cases h2:fS n
  .cases h3:(n == 95)
   .refine db h3 ?_;exact au (r:=[_]) rfl ⟨by simp only[eY,h1,h2,h3];rfl,rfl⟩
   .refine db h3 ?_;exact au (r:=[_]) rfl ⟨by simp only[eY,h1,h2,h3];rfl,rfl⟩
  .refine af ?_;exact au (r:=[_]) rfl ⟨by simp only[eY,h1,h2];rfl,rfl⟩
 .refine af ?_;exact au (r:=[_]) rfl ⟨by simp only[eY,h1];rfl,rfl⟩
def Mp(n:Int)(H:PH):aJ prog 219 #[.int .u8 n] H fun v H2=>v=.bool (l9 n)/\H2=H:=by
 refine aG 9 func219 fun w0=>?_;cases h1:(n == 32)
 .cases h2:(n == 9)
  .refine je h1 h2 ?_;exact au (r:=[_]) rfl ⟨by simp only[l9,h1,h2];rfl,rfl⟩
  .refine je h1 h2 ?_;exact au (r:=[_]) rfl ⟨by simp only[l9,h1,h2];rfl,rfl⟩
 .refine db h1 ?_;exact au (r:=[_]) rfl ⟨by simp only[l9,h1];rfl,rfl⟩
theorem cN(s:aE):(⟨⟨s⟩⟩:ByteArray).size=s.length:=rfl
def wB(s:aE)(i k:Nat):(⟨⟨s⟩⟩:ByteArray).extract i k=⟨⟨(s.drop i).take (k-i)⟩⟩:=by apply ByteArray.ext;rw[ByteArray.data_extract];apply Array.ext';simp[List.extract_eq_take_drop]
def TP(s t:aE)(H:PH):aJ prog 269 #[.string ⟨⟨s⟩⟩,.string ⟨⟨t⟩⟩] H fun v H2=>v=.bool (t.isPrefixOf s)/\H2=H:=by
 refine aG 18 func269 fun w0=>?_;rcases aB s.length t.length with h|h
 .have h1:decide ((s.length:Int)>=(t.length:Int))=false:=aS O;have h2:t.isPrefixOf s=false:=by rw[Bool.eq_false_iff];intro e;have:=(List.isPrefixOf_iff_prefix.1 e).length_le;omega
  apply RG;simp only[go_sem,cN,h1];exact au (r:=[_]) rfl ⟨by rw[h2];rfl,rfl⟩
 .have h1:decide ((s.length:Int)>=(t.length:Int))=true:=ar O;have h2:(s.take t.length == t)=t.isPrefixOf s:=by rw[Bool.eq_iff_iff,beq_iff_eq,List.isPrefixOf_iff_prefix,List.prefix_iff_eq_take];exact eq_comm
  apply RG;simp only[go_sem,cN,h1,wB,Int.toNat_zero,Nat.sub_zero,h2];refine⟨O,?_⟩;exact au (r:=[_]) rfl ⟨rfl,rfl⟩
def IK(s t:aE)(H:PH):aJ prog 218 #[.string ⟨⟨s⟩⟩,.string ⟨⟨t⟩⟩] H fun v H2=>v=.bool (t.isPrefixOf s)/\H2=H:=by refine aG 8 func218 fun w0=>?_;refine af ?_;refine Xa rfl PC (TP s t H) ?_;rintro v H2⟨rfl,rfl⟩;refine af ?_;exact au (r:=[_]) rfl ⟨rfl,rfl⟩
def bZ(c:UInt8):Int:=(c.toNat:Int)
def mf{s:aE}{c:UInt8}(h:s[i]?=some c):((ss ⟨⟨s⟩⟩ i:Nat):Int)=bZ c:=by unfold ss bZ;rw[List.getD_eq_getElem?_getD,h];rfl
def ur(s:aE)(i:Nat):St:=⟨dn 26 [(0,.v (.string ⟨⟨s⟩⟩)),(5,.v (E s.length)),(6,.v (E i))],[]⟩
def LX(s:aE)(m:s.length<2^60)(H:PH):aJ prog 210 #[.string ⟨⟨s⟩⟩] H fun v H2=>v=.bool (s.all fun c=>i6 (bZ c))/\H2=H:=by
 refine aG 26 func210 fun w0=>?_;apply RG;simp only[go_sem,cN];refine bz (fun x=>s.length-x) (ur s) (fun i H2=>H2=H/\i<=s.length/\((s.drop i).all fun c=>i6 (bZ c))=(s.all fun c=>i6 (bZ c))) 0 ae (by simp only[go_sem,ab,ur]) ⟨rfl,bg _,rfl⟩ ?_;rintro i H2 ⟨rfl,hi,ha⟩ d;simp only[ur];rcases aB i s.length with e|l
 .have h:=Z5 i s.length;have k:=Z7 i;obtain⟨c,j⟩:∃c,s[i]?=some c:=⟨_,aL e⟩;have hb:=mf j;have hd:s.drop i=c::s.drop (i+1):=by rw[jv e];rw[aL e]at j;rw[df j]
  rw[hd,List.all_cons]at ha;cases f:(bZ c != 9)
  .have g:i6 (bZ c)=true:=by simp only[i6,f];rfl
   apply RG;simp only[go_sem,E,h,hb,f,k];refine⟨by (try simp only[cN]);omega,?_⟩;exact d (i+1) _ _ O ae (by simp only[go_sem,ab,ur]) ⟨rfl,e,by rw[<-ha,g,Bool.true_and]⟩
  .cases b:decide (bZ c<32)
   .cases a:decide (bZ c>126)
    .have g:i6 (bZ c)=true:=by simp only[i6,f,b,a];rfl
     apply RG;simp only[go_sem,E,h,hb,f,b,a,k];refine⟨by (try simp only[cN]);omega,?_⟩;exact d (i+1) _ _ O ae (by simp only[go_sem,ab,ur]) ⟨rfl,e,by rw[<-ha,g,Bool.true_and]⟩
    .have g:i6 (bZ c)=false:=by simp only[i6,f,b,a];rfl
     apply RG;simp only[go_sem,E,h,hb,f,b,a];refine⟨by (try simp only[cN]);omega,?_⟩;exact au (r:=[_]) rfl ⟨by rw[<-ha,g];rfl,rfl⟩
   .have g:i6 (bZ c)=false:=by simp only[i6,f,b];rfl
    apply RG;simp only[go_sem,E,h,hb,f,b];refine⟨by (try simp only[cN]);omega,?_⟩;exact au (r:=[_]) rfl ⟨by rw[<-ha,g];rfl,rfl⟩
 .have:i=s.length:=by omega
  subst this;have h:decide ((s.length:Int)<(s.length:Int))=false:=ai;rw[jw]at ha;refine aj h ?_;exact au (r:=[_]) rfl ⟨by rw[<-ha];rfl,rfl⟩
def fV(s:aE):Bool:=!(s.isEmpty || decide (s.length>32) || fS (bZ (s.getD 0 0))) && s.all fun c=>eY (bZ c)
def y9(s:aE)(i:Nat):St:=⟨dn 27 [(0,.v (.string ⟨⟨s⟩⟩)),(17,.v (E s.length)),(18,.v (E i))],[]⟩
def QX(s:aE)(H:PH):aJ prog 214 #[.string ⟨⟨s⟩⟩] H fun v H2=>v=.bool (fV s)/\H2=H:=by
 refine aG 27 func214 fun w0=>?_;cases s with
 |nil=>refine af ?_;exact au (r:=[_]) rfl ⟨rfl,rfl⟩
 |cons c0 q=>
  generalize f:c0::q=s;have g:(s == [])=false:=by rw[<-f];rfl
  have t:0<s.length:=by rw[<-f];simp
  have j:s.isEmpty=false:=by rw[<-f];rfl
  have l:s[0]?=some (s.getD 0 0):=by rw[<-f];rfl
  clear f c0 q;have o:=mf l;have w:(0:Int)<=0/\(0:Int)<((⟨⟨s⟩⟩:ByteArray).size:Int):=⟨O,by rw[cN];omega⟩;cases b:decide ((s.length:Int)>32)
  rotate_left
  .have e:fV s=false:=by have:decide (s.length>32)=true:=ar (by have:=eF b;omega);simp[fV,this]
   apply RG;simp only[go_sem,g,cN,b];exact au (r:=[_]) rfl ⟨by rw[e];rfl,rfl⟩
  have u:=rH b;have h:decide (s.length>32)=false:=aS O;apply RG;simp only[go_sem,g,cN,b,Int.toNat_zero,o];refine⟨O,?_⟩;refine Xa rfl CB (BN _ _) ?_;rintro v H2⟨rfl,rfl⟩;cases k:fS (bZ (s.getD 0 0))
  rotate_left
  .have e:fV s=false:=by simp only[fV,k,Bool.or_true,bX,Bool.false_and]
   refine af ?_;exact au (r:=[_]) rfl ⟨by rw[e];rfl,rfl⟩
  have e:fV s=s.all fun c=>eY (bZ c):=by simp only[fV,j,h,k];simp
  rw[e];apply RG;simp only[go_sem,cN];refine bz (fun x=>s.length-x) (y9 s) (fun i y=>y=H2/\i<=s.length/\((s.drop i).all fun c=>eY (bZ c))=(s.all fun c=>eY (bZ c))) 0 ae (by simp only[go_sem,ab,y9]) ⟨rfl,bg _,rfl⟩ ?_;rintro i y ⟨rfl,hi,ha⟩ d;simp only[y9];rcases aB i s.length with a|z
  .have p:=Z5 i s.length;have A:=Z7 i;obtain⟨c,m⟩:∃c,s[i]?=some c:=⟨_,aL a⟩;have hb:=mf m;have hd:s.drop i=c::s.drop (i+1):=by rw[jv a];rw[aL a]at m;rw[df m]
   rw[hd,List.all_cons]at ha;refine bW p hb ?_;refine⟨by (try simp only[cN]);omega,?_⟩;refine Xa rfl GX (IE _ _) ?_;rintro v H2⟨rfl,rfl⟩;cases hp:eY (bZ c)
   .apply RG;simp only[go_sem,cF];exact au (r:=[_]) rfl ⟨by rw[<-ha,hp];rfl,rfl⟩
   .apply RG;simp only[go_sem,bX,A];exact d (i+1) _ _ O ae (by simp only[go_sem,ab,y9]) ⟨rfl,a,by rw[<-ha,hp,Bool.true_and]⟩
  .have:i=s.length:=by omega
   subst this;have p:decide ((s.length:Int)<(s.length:Int))=false:=ai;rw[jw]at ha;refine aj p ?_;exact au (r:=[_]) rfl ⟨by rw[<-ha];rfl,rfl⟩
def eI:aE->Nat
 | []=>0
 |c::s=>if eY (bZ c)then eI s+1 else 0
def zA(i:Nat)(sb k:Nat):St:=⟨dn 22 [(0,.v (E i)),(1,.v (pt sb)),(4,.v (E k))],[]⟩
def IY{H:PH}{sb:Nat}{s:aE}(d:aX H sb 0 [.string ⟨⟨s⟩⟩])(hi:i<=s.length)(t:s.length<2^60):aJ prog 211 #[E i,pt sb] H fun v H2=>v=.string ⟨⟨(s.drop i).take (eI (s.drop i))⟩⟩/\H2=H:=by
 refine aG 22 func211 fun w0=>?_
 try simp only[E,pt]
 refine af ?_;refine bz (fun x=>s.length-x) (zA i sb) (fun k H2=>H2=H/\i<=k/\k<=s.length/\eI (s.drop i)=(k-i)+eI (s.drop k)) i kv (by simp only[go_sem,ab,zA]) ⟨rfl,aW _,hi,by simp⟩ ?_;rintro k H2 ⟨rfl,o,m,hr⟩ b;simp only[zA];have e:eI (s.drop k)=0->k-i=eI (s.drop i):=fun h=>by omega
 rcases aB k s.length with a|p
 .have g:=Z5 k s.length;have q:=Z7 k;obtain⟨c,f⟩:∃c,s[k]?=some c:=⟨_,aL a⟩;have hb:=mf f;have hd:s.drop k=c::s.drop (k+1):=by rw[jv a];rw[aL a]at f;rw[df f]
  refine hZ ?_;refine Xb (l:=[.string ⟨⟨s⟩⟩]) rfl d (.inr ⟨iT,rfl⟩) ?_;apply RG;simp only[go_sem,cN,g];refine Xb (l:=[.string ⟨⟨s⟩⟩]) rfl d (.inr ⟨iT,rfl⟩) ?_;refine db hb ?_;refine⟨by (try simp only[cN]);omega,?_⟩;refine Xa rfl GX (IE _ _) ?_;rintro v H2⟨rfl,rfl⟩;cases hp:eY (bZ c)
  .have j:eI (s.drop k)=0:=by rw[hd,eI,hp];rfl
   refine hZ ?_;refine Xb (l:=[.string ⟨⟨s⟩⟩]) rfl d (.inr ⟨iT,rfl⟩) ?_;apply RG;simp only[go_sem,wB,e j];refine⟨by (try simp only[cN]);omega,?_⟩;exact au (r:=[_]) rfl ⟨rfl,rfl⟩
  .refine db q ?_;exact b (k+1) _ _ O kv (by simp only[go_sem,ab,zA]) ⟨rfl,O,a,by rw[hr,hd,eI,hp];simp;omega⟩
 .have:k=s.length:=by omega
  subst this;have g:decide ((s.length:Int)<(s.length:Int))=false:=ai;have j:eI (s.drop s.length)=0:=by rw[jw];rfl
  refine hZ ?_;refine Xb (l:=[.string ⟨⟨s⟩⟩]) rfl d (.inr ⟨iT,rfl⟩) ?_;apply RG;simp only[go_sem,cN,g];refine Xb (l:=[.string ⟨⟨s⟩⟩]) rfl d (.inr ⟨iT,rfl⟩) ?_;apply RG;simp only[go_sem,wB,e j];refine⟨by (try simp only[cN]);omega,?_⟩;exact au (r:=[_]) rfl ⟨rfl,rfl⟩
def S5{H:PH}{sb fb:Nat}{s:aE}(a:aX H sb 0 [.string ⟨⟨s⟩⟩])(hf:aX H fb 0 [.func (.func 211) #[] #[pt sb]])(hi:i<=s.length)(b:s.length<2^60):
  aJ prog 213 #[E i,pt fb] H fun v H2=>v=(if fV ((s.drop i).take (eI (s.drop i)))then .tuple #[.int .u8 1,.string ⟨⟨(s.drop i).take (eI (s.drop i))⟩⟩]else .tuple #[.int .u8 0,.string ⟨⟨[]⟩⟩])/\H2=H:=by
 refine aG 12 func213 fun w0=>?_
 try simp only[E,pt]
 refine af ?_;refine Xb (l:=[.func (.func 211) #[] #[pt sb]]) rfl hf (.inr ⟨Bl,rfl⟩) ?_;refine hZ ?_;refine Xa rfl GW (IY a hi b) ?_;rintro v H2⟨rfl,rfl⟩;refine af ?_;refine Xa rfl Pj (QX _ _) ?_;rintro v H2⟨rfl,rfl⟩;cases h:fV ((s.drop i).take (eI (s.drop i)))
 .refine af ?_;exact au (r:=[_,_]) rfl ⟨rfl,rfl⟩
 .refine af ?_;exact au (r:=[_,_]) rfl ⟨rfl,rfl⟩
def Pm:ay prog 217:=⟨_,func217,rfl,rfl⟩
section
variable {C:Cx} {P:Program} {k:List Item} {σ:St} {H:PH}
variable{v:Value}{cs:Array Value}{kk:IntKind}{e:TypeId}
def U5{o:Oper}{T:TypeId}{len n:Nat}{x y:Operand}(aa:o.op=.index T x y)(f:P.underlying T=some (.array len e))(hi:∃i,P.info? e=some i/\i.size=1)(ha:a8 P e=some none)
  (d:ev σ x=.v (.agg cs)) (c:ev σ y=.v (.int kk n)) (h:n<len) (hv:cs.toList[n]?=some v):bt σ o.op=true/\dg P (execOp (aQ σ) o) H fun sv H2=>sv=.v v/\H2=H:=by
 constructor
 .simp[bt,aa,dU,Op.operands,d,c,eX]
 .intro w hw;obtain⟨i,hi,g⟩:=hi;have b:(sizeOf e).run P w=.ok 1 w:=by simp[sizeOf,typeInfo,program,Sem.run,hi,g]
  have hp:=nY (P:=P) (w:=w) (T:=e) (cs:=cs) (n:=n) (v:=v) (by unfold gp;rw[ha];exact hv);have j:(0:Int)<=(n:Int)/\(n:Int)<(len:Int):=⟨O,O⟩;have a:(execOp (aQ σ) o).run P w=.ok (.value v) w:=by simp[execOp,aa,aQ,d,c,Instr.index,asIntOf,dK f,run_underlying f,Result.andThen,b,j,hp,ak h]
  rw[a];exact⟨H,bN.refl hw,rfl,rfl⟩
def KG{ol rem:List Oper}{o:Oper}{T:TypeId}{len n:Nat}{x y:Operand}(hw:be ol σ o=some true)(aa:o.op=.index T x y)(f:C.P.underlying T=some (.array len e))(hi:∃i,C.P.info? e=some i/\i.size=1)(ha:a8 C.P e=some none)
  (d:ev σ x=.v (.agg cs)) (c:ev σ y=.v (.int kk n)) (g:n<len) (hv:cs.toList[n]?=some v) (h:RC C (.op ol rem k) (σ.put o.dst (.v v)) H):RC C (.op ol (o::rem) k) σ H:=by
 obtain⟨a,b⟩:=U5 (H:=H) aa f hi ha d c g hv;exact j1 hw a (b.mono fun sv H2 ⟨j,e2⟩=>by subst j;subst e2;exact h)
end
def jo:List aE:=[[60,61],[62,61],[61,61],[33,61],[38,38],[124,124],[43],[45],[42],[47],[37],[60],[62],[61],[33],[40],[41],[123],[125],[44],[59],[58]]
def mD:List Value:=jo.map fun x=>.string ⟨⟨x⟩⟩
def rQ(H:PH):Prop:=aX H 0 0 mD
def rQ.le{I J:PH}(h:rQ I)(k:I.le J):rQ J:=aX.le h k
def JZ:prog.underlying 317=some (.array 22 9):=ah
def QI:(prog.info? 9).map (·.size)=some 1:=ah
def QH:∃i,prog.info? 9=some i/\i.size=1:=by
 have h:=QI;cases e:prog.info? 9 with
 |none=>rw[e]at h;cases h
 |some i=>rw[e]at h;exact⟨i,rfl,df h⟩
def zH(i sb k:Nat):St:=⟨dn 18 [(0,.v (E i)),(1,.v (pt sb)),(7,.v (.agg mD.toArray)),(8,.v (E k))],[]⟩
def zL(s:aE)(i:Nat):Value:=match jo.find? fun x=>x.isPrefixOf (s.drop i)with
 |some x=>.tuple #[.int .u8 3,.string ⟨⟨x⟩⟩]
 |none=>.tuple #[.int .u8 0,.string ⟨⟨[]⟩⟩]
def UI{H:PH}{sb i:Nat}{s:aE}(j:rQ H)(g:aX H sb 0 [.string ⟨⟨s⟩⟩])(hi:i<=s.length)(o:s.length<2^60):
  aJ prog 217 #[E i,pt sb] H fun v H2=>v=zL s i/\H2=H:=by
 refine aG 18 func217 fun w0=>?_
 try simp only[E,pt]
 refine af ?_;refine Xb (l:=mD) (v:=.agg mD.toArray) rfl j (.inl ⟨Ff,rfl⟩) ?_;refine af ?_;refine bz (fun k=>22-k) (zH i sb) (fun k H2=>H2=H/\k<=22/\jo.find? (fun x=>x.isPrefixOf (s.drop i))=(jo.drop k).find? fun x=>x.isPrefixOf (s.drop i)) 0 kv (by simp only[go_sem,ab,zH]) ⟨rfl,bg _,rfl⟩ ?_;rintro k H2 ⟨rfl,p,hf⟩ b;simp only[zH];rcases aB k 22 with a|h
 .have e:decide ((k:Int)<22)=true:=ar O;have m:=Z7 k;obtain⟨x,d⟩:∃x,jo[k]?=some x:=⟨_,aL (by simpa[jo]using a)⟩;have hd:jo.drop k=x::jo.drop (k+1):=by
   have c:k<jo.length:=by simpa[jo]using a
   rw[jv c];rw[aL c]at d;rw[df d]
  have hv:mD.toArray.toList[k]?=some (.string ⟨⟨x⟩⟩):=by simp[mD,d]
  have f:(s.drop i).take (s.length-i)=s.drop i:=tM ai;rw[hd,List.find?_cons]at hf;refine Lc e ?_;refine KG (n:=k) rfl rfl (by exact JZ) QH (by exact iT) rfl rfl a hv ?_;refine hZ ?_;refine Xb (l:=[.string ⟨⟨s⟩⟩]) rfl g (.inr ⟨iT,rfl⟩) ?_;apply RG;simp only[go_sem,cN,wB,f];refine⟨O,?_⟩;refine Xa rfl GY (IK _ _ _) ?_;rintro v H2⟨rfl,rfl⟩;cases hp:x.isPrefixOf (s.drop i)
  .rw[hp]at hf;refine db m ?_;exact b (k+1) _ _ O kv (by simp only[go_sem,ab,zH]) ⟨rfl,a,hf⟩
  .rw[hp]at hf;refine af ?_;exact au (r:=[_,_]) rfl ⟨by unfold zL;rw[hf];rfl,rfl⟩
 .have:k=22:=by omega
  subst this;have e:decide ((22:Int)<22)=false:=by decide
  apply RG;simp only[go_sem,E,pt,bG,e];exact au (r:=[_,_]) rfl ⟨by unfold zL;rw[hf];rfl,rfl⟩
end Go.Proofs.YtfaclfkpnmcmlaaGreatDoor
namespace Go.Proofs
open Go.Shelf
def lays171_ren:Go.Shelf.Ren:=⟨fun|171=>268|243=>295|246=>308|283=>315|284=>316|285=>317|286=>318|129=>280|317=>321|318=>322|319=>323|320=>324|337=>325|338=>326|n=>n,fun|3=>3|9=>9|2=>2|4=>4|171=>398|0=>0|53=>366|37=>268|5=>5|173=>400|212=>406|51=>23|20=>20|213=>407|46=>325|232=>408|233=>409|n=>n,fun|17=>3|18=>4|19=>5|n=>n⟩
theorem lays171:Go.Proofs.Lays.n171 prog lays171_ren:={
 mixed:=ah
 f129:=func280.trans (congrArg some ah)
 f171:=func268.trans (congrArg some ah)
 f243:=func295.trans (congrArg some ah)
 f246:=func308.trans (congrArg some ah)
 f283:=func315.trans (congrArg some ah)
 f284:=func316.trans (congrArg some ah)
 f285:=func317.trans (congrArg some ah)
 f286:=func318.trans (congrArg some ah)
 f317:=func321.trans (congrArg some ah)
 f318:=func322.trans (congrArg some ah)
 f319:=func323.trans (congrArg some ah)
 f320:=func324.trans (congrArg some ah)
 f337:=func325.trans (congrArg some ah)
 f338:=func326.trans (congrArg some ah)
 t0:=underlying0
 a0:=isAgg0
 z0:=sizeOf0
 v0:=zeroValue0
 t2:=underlying2
 a2:=isAgg2
 z2:=sizeOf2
 v2:=zeroValue2
 t3:=underlying3
 a3:=isAgg3
 z3:=sizeOf3
 v3:=zeroValue3
 t4:=underlying4
 a4:=isAgg4
 z4:=sizeOf4
 v4:=zeroValue4
 t5:=underlying5
 a5:=isAgg5
 z5:=sizeOf5
 v5:=zeroValue5
 t9:=underlying9
 a9:=isAgg9
 z9:=sizeOf9
 v9:=zeroValue9
 t20:=underlying20
 a20:=isAgg20
 z20:=sizeOf20
 v20:=zeroValue20
 t37:=underlying268
 a37:=isAgg268
 z37:=sizeOf268
 v37:=zeroValue268
 t46:=underlying325
 a46:=isAgg325
 z46:=sizeOf325
 v46:=zeroValue325
 t51:=underlying23
 a51:=isAgg23
 z51:=sizeOf23
 v51:=zeroValue23
 t53:=underlying366
 a53:=isAgg366
 z53:=sizeOf366
 v53:=zeroValue366
 t171:=underlying398
 a171:=isAgg398
 z171:=sizeOf398
 v171:=zeroValue398
 t173:=underlying400
 a173:=isAgg400
 z173:=sizeOf400
 v173:=zeroValue400
 t212:=underlying406
 a212:=isAgg406
 z212:=sizeOf406
 v212:=zeroValue406
 t213:=underlying407
 a213:=isAgg407
 z213:=sizeOf407
 t232:=underlying408
 a232:=isAgg408
 z232:=sizeOf408
 v232:=zeroValue408
 t233:=underlying409
 a233:=isAgg409
 z233:=sizeOf409
 v233:=zeroValue409
 g17:=ah
 g18:=ah
 g19:=by kernel_rfl }
def laysC172_ren:Go.Shelf.Ren:=⟨fun|172=>267|244=>293|245=>294|247=>303|279=>304|280=>305|281=>306|282=>307|287=>312|316=>313|171=>268|205=>314|321=>319|322=>320|243=>295|246=>308|283=>315|284=>316|285=>317|286=>318|129=>280|317=>321|318=>322|319=>323|320=>324|337=>325|338=>326|n=>n,fun|9=>9|3=>3|75=>284|76=>285|4=>4|5=>5|167=>383|37=>268|0=>0|85=>384|2=>2|168=>386|53=>366|175=>393|46=>325|210=>396|127=>343|145=>405|143=>403|21=>21|171=>398|173=>400|212=>406|51=>23|20=>20|213=>407|232=>408|233=>409|80=>223|n=>n,fun|15=>1|16=>2|17=>3|18=>4|19=>5|n=>n⟩
theorem laysC172:Go.Proofs.LaysC.n172 prog laysC172_ren:={
 mixed:=ah
 f129:=func280.trans (congrArg some ah)
 f171:=func268.trans (congrArg some ah)
 f172:=func267.trans (congrArg some ah)
 f205:=func314.trans (congrArg some ah)
 f243:=func295.trans (congrArg some ah)
 f244:=func293.trans (congrArg some ah)
 f245:=func294.trans (congrArg some ah)
 f246:=func308.trans (congrArg some ah)
 f247:=func303.trans (congrArg some ah)
 f279:=func304.trans (congrArg some ah)
 f280:=func305.trans (congrArg some ah)
 f281:=func306.trans (congrArg some ah)
 f282:=func307.trans (congrArg some ah)
 f283:=func315.trans (congrArg some ah)
 f284:=func316.trans (congrArg some ah)
 f285:=func317.trans (congrArg some ah)
 f286:=func318.trans (congrArg some ah)
 f287:=func312.trans (congrArg some ah)
 f316:=func313.trans (congrArg some ah)
 f317:=func321.trans (congrArg some ah)
 f318:=func322.trans (congrArg some ah)
 f319:=func323.trans (congrArg some ah)
 f320:=func324.trans (congrArg some ah)
 f321:=func319.trans (congrArg some ah)
 f322:=func320.trans (congrArg some ah)
 f337:=func325.trans (congrArg some ah)
 f338:=func326.trans (congrArg some ah)
 t0:=underlying0
 a0:=isAgg0
 z0:=sizeOf0
 v0:=zeroValue0
 t2:=underlying2
 a2:=isAgg2
 z2:=sizeOf2
 v2:=zeroValue2
 t3:=underlying3
 a3:=isAgg3
 z3:=sizeOf3
 v3:=zeroValue3
 t4:=underlying4
 a4:=isAgg4
 z4:=sizeOf4
 v4:=zeroValue4
 t5:=underlying5
 a5:=isAgg5
 z5:=sizeOf5
 v5:=zeroValue5
 t9:=underlying9
 a9:=isAgg9
 z9:=sizeOf9
 v9:=zeroValue9
 t20:=underlying20
 a20:=isAgg20
 z20:=sizeOf20
 v20:=zeroValue20
 t21:=underlying21
 a21:=isAgg21
 z21:=sizeOf21
 v21:=zeroValue21
 t37:=underlying268
 a37:=isAgg268
 z37:=sizeOf268
 v37:=zeroValue268
 t46:=underlying325
 a46:=isAgg325
 z46:=sizeOf325
 v46:=zeroValue325
 t51:=underlying23
 a51:=isAgg23
 z51:=sizeOf23
 v51:=zeroValue23
 t53:=underlying366
 a53:=isAgg366
 z53:=sizeOf366
 v53:=zeroValue366
 t75:=underlying284
 a75:=isAgg284
 z75:=sizeOf284
 v75:=zeroValue284
 t76:=underlying285
 a76:=isAgg285
 z76:=sizeOf285
 v76:=zeroValue285
 t85:=underlying384
 a85:=isAgg384
 z85:=sizeOf384
 v85:=zeroValue384
 t127:=underlying343
 a127:=isAgg343
 z127:=sizeOf343
 v127:=zeroValue343
 t143:=underlying403
 a143:=isAgg403
 z143:=sizeOf403
 v143:=zeroValue403
 t145:=underlying405
 a145:=isAgg405
 z145:=sizeOf405
 v145:=zeroValue405
 t167:=underlying383
 a167:=isAgg383
 z167:=sizeOf383
 v167:=zeroValue383
 t168:=underlying386
 a168:=isAgg386
 z168:=sizeOf386
 v168:=zeroValue386
 t171:=underlying398
 a171:=isAgg398
 z171:=sizeOf398
 v171:=zeroValue398
 t173:=underlying400
 a173:=isAgg400
 z173:=sizeOf400
 v173:=zeroValue400
 t175:=underlying393
 a175:=isAgg393
 z175:=sizeOf393
 v175:=zeroValue393
 t210:=underlying396
 a210:=isAgg396
 z210:=sizeOf396
 v210:=zeroValue396
 t212:=underlying406
 a212:=isAgg406
 z212:=sizeOf406
 v212:=zeroValue406
 t213:=underlying407
 a213:=isAgg407
 z213:=sizeOf407
 t232:=underlying408
 a232:=isAgg408
 z232:=sizeOf408
 v232:=zeroValue408
 t233:=underlying409
 a233:=isAgg409
 z233:=sizeOf409
 v233:=zeroValue409
 g15:=ah
 g16:=ah
 g17:=ah
 g18:=ah
 g19:=ah
 t80:=underlying223
 a80:=isAgg223
 z80:=sizeOf223
 v80:=zeroValue223
 i0:=ah
 i2:=ah
 i3:=ah
 i4:=ah
 i5:=ah
 i9:=ah
 i20:=ah
 i21:=ah
 i37:=ah
 i46:=ah
 i51:=ah
 i53:=ah
 i75:=ah
 i76:=ah
 i80:=ah
 i85:=ah
 i127:=ah
 i143:=ah
 i145:=ah
 i167:=ah
 i168:=ah
 i171:=ah
 i173:=ah
 i175:=ah
 i210:=ah
 i212:=ah
 i232:=ah
 i233:=ah
 m15:=ah
 m16:=ah
 m17:=ah
 m18:=ah
 m19:=ah
 c0:=ah
 c2:=ah
 c3:=ah
 c4:=ah
 c5:=ah
 c9:=ah
 c20:=ah
 c21:=ah
 c37:=ah
 c46:=ah
 c51:=ah
 c53:=ah
 c75:=ah
 c76:=ah
 c80:=ah
 c85:=ah
 c127:=ah
 c143:=ah
 c145:=ah
 c167:=ah
 c168:=ah
 c171:=ah
 c173:=ah
 c175:=ah
 c210:=ah
 c212:=ah
 c213:=ah
 c232:=ah
 c233:=by kernel_rfl }
open Go.RowKit in
theorem strconv_Atoi_ok(s:ByteArray)(a:s.size<=9223372036854775806)(v:Int)(h:Lib.atoiAll s.data.toList=.ok v)(w:World):
  Calls prog 267 #[.string s] w fun e b=>e=.returned (.tuple #[.int .i64 v,.nilIface])/\(b=w\/∃t,b=Lib.bytesWorld w 5 t):=Any.strconv_Atoi_ok laysC172 s a v h w
open Go.RowKit in
theorem strconv_Atoi_syntax(s:ByteArray)(a:s.size<=281474976710656)(h:Lib.atoiAll s.data.toList=Lib.NumEnd.syntax)(ev:Value)(w:World)(hv:w.cell? ⟨1,0,none⟩=some ev)(b:ev=.nilIface\/∃d f,ev=.iface d f):
  Calls prog 267 #[.string s] w fun e c=>∃N,e=.returned (.tuple #[.int .i64 (0),.iface 386 (.pointer (some ⟨N,0,none⟩))])/\w.heap.size<=N/\c.heap[N]?=some (.cells #[.string ⟨#[65,116,111,105]⟩,.string s,ev] 396 (0,0))/\Below w.heap.size w c:=Any.strconv_Atoi_syntax laysC172 s a h ev w hv b
theorem laysM171:Go.Proofs.LaysM.n171 prog lays171_ren:={ lays171 with
 i0:=ah
 i2:=ah
 i3:=ah
 i4:=ah
 i5:=ah
 i9:=ah
 i20:=ah
 i37:=ah
 i46:=ah
 i51:=ah
 i53:=ah
 i171:=ah
 i173:=ah
 i212:=ah
 i232:=ah
 i233:=ah
 m17:=ah
 m18:=ah
 m19:=by kernel_rfl }
open Go.RowKit in
theorem strconv_Atoi_range(s:ByteArray)(a:s.size<=281474976710656)(h:Lib.atoiAll s.data.toList=.range)(ev:Value)(w:World)(hv:w.cell? ⟨2,0,none⟩=some ev)(b:ev=.nilIface\/∃d f,ev=.iface d f):
  Calls prog 267 #[.string s] w fun e c=>∃N,e=.returned (.tuple #[.int .i64 (Lib.atoiSat s.data.toList),.iface 386 (.pointer (some ⟨N,0,none⟩))])/\w.heap.size<=N/\c.heap[N]?=some (.cells #[.string ⟨#[65,116,111,105]⟩,.string s,ev] 396 (0,0))/\Below w.heap.size w c:=Any.strconv_Atoi_range laysC172 s a h ev w hv b
open Go.Sort in
theorem strconv_Itoa (n:Int) (c:-9223372036854775808<=n) (h1:n<=9223372036854775807) (w:World) (a:Lib.TabIs prog w "internal/strconv.uint64pow10" .u64 Lib.pow10Tab) :
  Calls prog 268 #[.int .i64 n] w fun e b=>e=.returned (.string ⟨(Lib.itoa n).toArray⟩)/\∃k os,b=grow (w.drewN k) os:=Any.strconv_Itoa laysM171 n c h1 w a
end Go.Proofs
