import Derived.Test.YtfaclfkpnmcmlaaGreatDoorH03
import Derived.Test.YtfaclfkpnmcmlaaGreatDoorH04
import Derived.Test.YtfaclfkpnmcmlaaGreatDoorH05
import Derived.Test.YtfaclfkpnmcmlaaGreatDoorH06
import Derived.Test.YtfaclfkpnmcmlaaGreatDoorH10
set_option maxHeartbeats 8000000
set_option linter.all false
namespace Go.Proofs.YtfaclfkpnmcmlaaGreatDoor
open Go Go.Sx Dg
def CN{a b:Nat}(ha:a<2^32)(hb:b<2^32):Uu .u32 (a:Int) (b:Int)=((a|||b:Nat):Int):=by
 have ea:BitVec.ofInt 32 (a:Int)=BitVec.ofNat _ a:=by rw[BitVec.ofInt_natCast]
 have eb:BitVec.ofInt 32 (b:Int)=BitVec.ofNat _ b:=by rw[BitVec.ofInt_natCast]
 have hc:a|||b<2^32:=Nat.or_lt_two_pow ha hb;have:Uu .u32 (a:Int) (b:Int)=IntKind.u32.wrap ((BitVec.ofInt 32 (a:Int)|||BitVec.ofInt 32 (b:Int)).toNat:Int):=rfl;rw[this,ea,eb,BitVec.toNat_or,BitVec.toNat_ofNat,BitVec.toNat_ofNat,Nat.mod_eq_of_lt ha,Nat.mod_eq_of_lt hb];simp only[IntKind.wrap,show IntKind.bits .u32=32 from rfl,show IntKind.signed .u32=false from rfl];have:((a|||b:Nat):Int) % (2^32:Int)=((a|||b:Nat):Int):=abm ab (by exact_mod_cast hc);simpa using this
def RA{i:Nat}(hi:i<32):yR .u32 1 (i:Int)=((2^i:Nat):Int):=by
 have:yR .u32 1 (i:Int)=IntKind.u32.wrap (1*2^(min i 32)):=rfl;have e:min i 32=i:=by omega
 have hc:(2:Nat)^i<2^32:=Nat.pow_lt_pow_right ab hi;rw[this,e,show (1*2^i:Int)=((2^i:Nat):Int) by simp];simp only[IntKind.wrap,show IntKind.bits .u32=32 from rfl,show IntKind.signed .u32=false from rfl];have:((2^i:Nat):Int) % (2^32:Int)=((2^i:Nat):Int):=abm (abt _) (by exact_mod_cast hc);simpa using this
def Do(l:List (Nat×Nat)):Nat:=l.foldl (fun u x=>(u|||x.1)|||x.2) 0
def xR(l:List (Nat×Nat)):Nat:=Do l&&&16777215
def F4(l:List (Nat×Nat))(x:Nat×Nat):Do (l++[x])=(Do l|||x.1)|||x.2:=by unfold Do;rw[abM];rfl
def qb(l:List (Nat×Nat))(u:Nat):Prop:=∀x∈l,∀i,i<24->x.1.testBit i=true\/x.2.testBit i=true->u.testBit i=true
variable{u:Nat}{l:List (Nat×Nat)}
def qb.left(h:qb l u)(v:Nat):qb l (u|||v):=fun x hx i hi hb=>by rw[Nat.testBit_or,h x hx i hi hb];rfl
def qb.right(h:qb l u)(v:Nat):qb l (v|||u):=fun x hx i hi hb=>by rw[Nat.testBit_or,h x hx i hi hb,Bool.or_true]
def QL(l:List (Nat×Nat)):∀(z i:Nat),z.testBit i=true->(l.foldl (fun u x=>(u|||x.1)|||x.2) z).testBit i=true:=by
 induction l with
 |nil=>intro z i h;exact h
 |cons y l ih=>intro z i h;exact ih _ i (by rw[Nat.testBit_or,Nat.testBit_or,h];rfl)
def KS(l:List (Nat×Nat)):∀(z:Nat),∀x∈l,∀i,x.1.testBit i=true\/x.2.testBit i=true->(l.foldl (fun u x=>(u|||x.1)|||x.2) z).testBit i=true:=by
 induction l with
 |nil=>intro z x hx;exact(aaB hx).elim
 |cons y l ih=>
  intro z x hx i hb;rcases List.mem_cons.1 hx with rfl|hx
  ·refine QL l _ i ?_;rw[Nat.testBit_or,Nat.testBit_or];rcases hb with hb|hb<;>rw[hb]<;>simp
  ·exact ih _ x hx i hb
def zC(l:List (Nat×Nat)):qb l (xR l):=fun x hx i hi hb=>by
 unfold xR;rw[abu,uJ];simp only[hi,decide_true,abv];exact KS l 0 x hx i hb
def CD(l:List (Nat×Nat)):xR l<2^24:=abr Nat.and_le_right bg
def Q9(h:qb l u)(c:Nat):Ek l (c&&&u)=Ek l c:=by
 unfold Ek;have:∀x∈l,Jk (c&&&u) x=Jk c x:=fun x hx=>by
  rw[Bool.eq_iff_iff,vV,vV];constructor
  ·intro k i hi;obtain⟨k1,k2⟩:=k i hi;rw[abu]at k1 k2;refine⟨fun hb=>?_,fun hb=>?_⟩
   ·have:=k1 hb;rw[aao]at this;exact this.1
   ·have:=k2 hb;rw[h x hx i hi (.inr hb),abv]at this;exact this
  ·intro k i hi;obtain⟨k1,k2⟩:=k i hi;rw[abu];exact⟨fun hb=>by rw[k1 hb,h x hx i hi (.inl hb)];rfl,fun hb=>by rw[k2 hb];rfl⟩
 clear h
 induction l with
 |nil=>rfl
 |cons y l ih=>
  rw[List.any_cons,List.any_cons,this y (.head _),ih fun x hx=>this x (.tail _ hx)]
def eY(u:Nat):Nat->List Nat
 |0=>[0]
 | i+1=>if u.testBit i=true then eY u i++(eY u i).map (fun x=>x|||2^i)else eY u i
def y9(u c:Nat):∀i:Nat,(c&&&u) % 2^i∈eY u i
 |0=>by unfold eY;rw[Nat.pow_zero,Nat.mod_one];exact .head _
 |i+1=>by
  have ih:=y9 u c i;have key:∀y:Nat,(∀j,y.testBit j=(decide (j<i+1) && (c&&&u).testBit j))->(c&&&u) % 2^(i+1)=y:=fun y hy=>by
   apply Nat.eq_of_testBit_eq;intro j;rw[hy j,Nat.testBit_mod_two_pow]
  unfold eY;by_cases hu:u.testBit i=true
  ·rw[aaq hu];by_cases hc:c.testBit i=true
   ·refine aav _ (List.mem_map.2 ⟨_,ih,(key _ fun j=>?_).symm⟩);rw[Nat.testBit_or,Nat.testBit_mod_two_pow,Nat.testBit_two_pow];by_cases hj:i=j
    ·subst hj;simp[abu,hu,hc]
    ·rw[show decide (j<i+1)=decide (j<i) by rw[decide_eq_decide];omega];simp[hj]
   ·refine aau _ ?_;rw[key _ fun j=>?_]
    ·exact ih
    ·rw[Nat.testBit_mod_two_pow];by_cases hj:i=j
     ·subst hj;simp[abu,hc]
     ·rw[show decide (j<i+1)=decide (j<i) by rw[decide_eq_decide];omega]
  ·rw[ZV hu,key _ fun j=>?_]
   ·exact ih
   ·rw[Nat.testBit_mod_two_pow];by_cases hj:i=j
    ·subst hj;simp[abu,hu]
    ·rw[show decide (j<i+1)=decide (j<i) by rw[decide_eq_decide];omega]
def jE(l:List (Nat×Nat))(u:Nat):List Nat:=(eY u 32).filter (Ek l)
open Go Go.Sx Dg Syn
def LR{α:Type}(R:List Value->α->Prop):List Value->List α->Prop
 |xs,[]=>xs=[]
 |xs,a::l=>∃c ys,xs=c++ys/\R c a/\LR R ys l
section
variable {α:Type} {R:List Value->α->Prop} {n:Nat}
def LR.len(hR:∀c a,R c a->c.length=n):∀{l:List α} {xs:List Value},LR R xs l->xs.length=l.length*n
 | [],xs,h=>by rw[show xs=[] from h];simp
 |a::l,xs,⟨c,ys,e,h1,h2⟩=>by
  rw[e,aa9,hR c a h1,LR.len hR h2,aaj,aaP];omega
def LR.mono{R':List Value->α->Prop}(h:∀c a,R c a->R' c a):∀{l:List α} {xs:List Value},LR R xs l->LR R' xs l
 | [],xs,k=>k
 |a::l,xs,⟨c,ys,e,h1,h2⟩=>⟨c,ys,e,h c a h1,LR.mono h h2⟩
def LR.app:∀{l m:List α} {xs ys:List Value},LR R xs l->LR R ys m->LR R (xs++ys) (l++m)
 | [],m,xs,ys,h,k=>by rw[show xs=[] from h];exact k
 |a::l,m,xs,ys,⟨c,zs,e,h1,h2⟩,k=>⟨c,zs++ys,by rw[e,aaT],h1,LR.app h2 k⟩
variable{c:List Value}
theorem LR.one{a:α}(h:R c a):LR R c [a]:=⟨c,[],by simp,h,rfl⟩
def LR.get(hR:∀c a,R c a->c.length=n):∀{l:List α} {xs:List Value} {i:Nat} {a:α},LR R xs l->l[i]?=some a->R ((xs.drop (i*n)).take n) a
 | [],xs,i,a,h,k=>by simp at k
 |b::l,xs,0,a,⟨c,ys,e,h1,h2⟩,k=>by
  simp only[abh,ZW]at k;subst k;rw[e,Nat.zero_mul,aa1,List.take_left' (hR c b h1)];exact h1
 |b::l,xs,i+1,a,⟨c,ys,e,h1,h2⟩,k=>by
  simp only[abi]at k;rw[e,aaP,abj,Nat.add_comm,<-aa3,List.drop_left' (hR c b h1)];exact LR.get hR h2 k
def LR.split(hR:∀c a,R c a->c.length=n):∀{l:List α} {xs:List Value} (i:Nat),LR R xs l->LR R (xs.take (i*n)) (l.take i)/\LR R (xs.drop (i*n)) (l.drop i)
 |l,xs,0,h=>by simp only[Nat.zero_mul,abz,aa1];exact⟨rfl,h⟩
 | [],xs,i+1,h=>by rw[show xs=[] from h];simp only[List.take_nil,List.drop_nil];exact⟨rfl,rfl⟩
 |b::l,xs,i+1,⟨c,ys,e,h1,h2⟩=>by
  obtain⟨k1,k2⟩:=LR.split hR i h2;have hc:=hR c b h1;rw[e,aaP,abj,Nat.add_comm (i*n)];constructor
  ·have:(c++ys).take (n+i*n)=c++ys.take (i*n):=by rw[<-hc];exact List.take_length_add_append _
   rw[this,abA];exact⟨c,_,rfl,h1,k1⟩
  ·rw[<-aa3,List.drop_left' hc,abx];exact k2
def LR.set(hR:∀c a,R c a->c.length=n){l:List α}{xs:List Value}{i:Nat}{a:α}(h:LR R xs l)(hi:i<l.length)(hc:R c a):LR R (xs.take (i*n)++c++xs.drop ((i+1)*n)) (l.set i a):=by
 obtain⟨h1,h2⟩:=LR.split hR i h;obtain⟨_,h4⟩:=LR.split hR (i+1) h;have e:l.set i a=l.take i++[a]++l.drop (i+1):=by
  rw[List.set_eq_take_append_cons_drop,aaq hi];simp
 rw[e];exact(h1.app (.one hc)).app h4
end
def Sl{α:Type}(R:PH->List Value->α->Prop)(I:PH)(v:Value)(l:List α):Prop:=∃a c,v=.slice a l.length c/\(l=[]\/∃b off xs,a=some ⟨b,off,none⟩/\aP I b off xs/\LR (R I) xs l)
variable{v:Value}{I J:PH}
def Sl.le{α:Type}{R:PH->List Value->α->Prop}(hR:∀{I J c a},R I c a->I.le J->R J c a){l:List α}(h:Sl R I v l)(aa:I.le J):Sl R J v l:=by
 obtain⟨a,c,e,h⟩:=h;exact⟨a,c,e,h.imp id fun⟨b,off,xs,e1,e2,e3⟩=>⟨b,off,xs,e1,e2.le aa,e3.mono fun c a h=>hR h aa⟩⟩
def Ow{α:Type}(R:PH->List Value->α->Prop)(e:TypeId)(size:Nat)(I A:PH)(v:Value)(l:List α):Prop:=∃xs,mh A e size v l.length xs/\LR (R I) xs l
variable{A:PH}{size:Nat}{e:TypeId}
def Ow.le{α:Type}{R:PH->List Value->α->Prop}(hR:∀{I J c a},R I c a->I.le J->R J c a){l:List α}(h:Ow R e size I A v l)(aa:I.le J):Ow R e size J A v l:=by
 obtain⟨xs,h1,h2⟩:=h;exact⟨xs,h1,h2.mono fun c a h=>hR h aa⟩
def Ow.nil{α:Type}(R:PH->List Value->α->Prop)(e:TypeId)(size:Nat)(I:PH):Ow R e size I PH.no (.slice none 0 0) ([]:List α):=⟨[],mh.nil e size,rfl⟩
def Ow.sl{α:Type}{R:PH->List Value->α->Prop}(hR:∀{I J c a},R I c a->I.le J->R J c a){l:List α}(h:Ow R e size I A v l)(h1:I.le J)(h2:A.le J):Sl R J v l:=by
 obtain⟨xs,h3,h4⟩:=h;obtain⟨a,c,e⟩:=h3.slice;rcases abn l.length with hz|hp
 ·subst e;exact⟨a,c,rfl,.inl (List.length_eq_zero_iff.1 hz)⟩
 ·obtain⟨g,cap,e2,hc⟩:=h3.1.cells hp;exact⟨_,cap,e2,.inr ⟨g,0,xs,rfl,hc.le h2,h4.mono fun c a h=>hR h h1⟩⟩
def Ow.shape{α:Type}{R:PH->List Value->α->Prop}{l:List α}(h:Ow R e size I A v l):∃a c,v=.slice a l.length c:=by
 obtain⟨xs,h3,_⟩:=h;exact h3.slice
def iD(I:PH)(c:List Value)(s:Nat×T):Prop:=∃sl rt,c=[iv s.1,sl,rt]/\cX I (.agg #[sl,rt]) s.2
variable{s:Nat×T}{c:List Value}
def iD.le(h:iD I c s)(aa:I.le J):iD J c s:=by
 obtain⟨sl,rt,e,h⟩:=h;exact⟨sl,rt,e,cX.le h aa⟩
def iD.len(c:List Value)(s:Nat×T)(h:iD I c s):c.length=3:=by obtain⟨sl,rt,e,_⟩:=h;rw[e];rfl
abbrev eR(I:PH)(v:Value)(f:ar):Prop:=Sl iD I v f
abbrev jy(I A:PH)(v:Value)(f:ar):Prop:=Ow iD 169 3 I A v f
open Go Go.Sx Dg Syn
def Qp:aO Tryz.prog 256:=⟨_,Tryz.func256,rfl,rfl⟩
def Gd:aO Tryz.prog 257:=⟨_,Tryz.func257,rfl,rfl⟩
variable{a:Nat}
def cH{b:Nat}(ha:a<2^62)(hb:b<2^62):IntKind.i64.wrap ((a:Int)-(b:Int))=(a:Int)-(b:Int):=by
 simp only[IntKind.wrap,show IntKind.bits .i64=64 from rfl,show IntKind.signed .i64=true from rfl];rcases aaf a b with h|h
 ·have h1:((a:Int)-(b:Int)) % (2^64:Int)=(a:Int)-(b:Int)+2^64:=by
   rw[<-Int.add_emod_right];exact abm ab ab
  rw[h1,aaq]
  ·omega
  ·simp;omega
 ·have h1:((a:Int)-(b:Int)) % (2^64:Int)=(a:Int)-(b:Int):=abm ab ab;rw[h1,ZV];simp;omega
variable{p:Nat}
def RO{H:PH}{rt0 sl1 sl2:Nat}{sl0:Option Addr}(hp:p<2^62)(ha:a<2^62):bO Tryz.prog 257 #[.agg #[iv p,.slice sl0 sl1 sl2,iv rt0],iv a] H fun v H2=>v=.int .i64 ((p:Int)-(a:Int))/\H2=H:=by
 refine cC Tryz.func257 rfl (by simp[Tryz.ntmps257]) fun w0=>?_;simp only[Tryz.ntmps257,iv];apply RG;simp only[go_sem,cH hp ha];exact aJ (r:=[_]) rfl ⟨rfl,rfl⟩
def qq{n:Nat}(h:n<2^62):IntKind.u64.wrap (n:Int)=(n:Int):=by
 have h1:(n:Int) % (2^64:Int)=n:=abm ab ab;simp only[IntKind.wrap,show IntKind.bits .u64=64 from rfl,show IntKind.signed .u64=false from rfl,h1];simp
variable{i:Nat}
def C0(hi:i<=64):ut .u64 (a:Int) (i:Int)=((a >>> i:Nat):Int):=by
 have:ut .u64 (a:Int) (i:Int)=Int.fdiv (a:Int) (2^(min i 64)):=rfl;have e:min i 64=i:=by omega
 rw[this,e,abs];have:(2^i:Int)=((2^i:Nat):Int):=by simp
 rw[this,Int.fdiv_eq_ediv_of_nonneg _ (abt _)];rfl
def In{α:Type}(R:PH->List Value->α->Prop)(I H:PH)(v:Value)(l:List α):Prop:=∃a c,v=.slice a l.length c/\(l=[]\/∃b off xs,a=some ⟨b,off,none⟩/\aP H b off xs/\LR (R I) xs l)
def Dm(f:ar)(i a:Nat):Bool:=match f[i]? with
 |some s=>decide (s.1=a)
 |none=>false
def Re(vf:Value)(n a:Nat)(x:Nat×Nat):St:=⟨sp 0 49 [(0,.v vf),(1,.v (iv a)),(2,.v (.func (.func 257) #[] #[])),(8,.v (iv n)),(9,.v (iv x.1)),(10,.v (iv x.2))],[]⟩
def Y9(f:ar)(a:Nat)(H0:PH)(x:Nat×Nat)(H:PH):Prop:=H=H0/\x.1<=x.2/\x.2<=f.length/\(∀k s,k<x.1->f[k]?=some s->s.1<a)/\(∀k s,x.2<=k->f[k]?=some s->a<=s.1)
variable{f:ar}{vf:Value}
def H6{H:PH}(hf:In iD I H vf f)(hs:f.Pairwise (fun s t=>s.1<t.1))(hp:∀s∈f,s.1<2^61)(ha:a<2^61)(hl:f.length<2^60):
  bO Tryz.prog 256 #[vf,iv a,.func (.func 257) #[] #[]] H fun v H2=>H2=H/\∃i,i<=f.length/\(∀k s,k<i->f[k]?=some s->s.1<a)/\(∀k s,i<=k->f[k]?=some s->a<=s.1)/\v=.tuple #[iv i,.bool (Dm f i a)]:=by
 obtain⟨za,zc,rfl,hz⟩:=hf;have load:∀i s,f[i]?=some s->∃b off c sl0 sl1 sl2 rt,za=some ⟨b,off,none⟩/\aP H b (off+i*3) c/\c=[iv s.1,.slice sl0 sl1 sl2,iv rt]:=by
  intro i s hi;rcases hz with h0|⟨b,off,xs,rfl,hc,hr⟩
  ·rw[h0]at hi;simp at hi
  ·have aS:i<f.length:=by
    rcases aaf i f.length with h|h
    ·exact h
    ·rw[aan h]at hi;cases hi
   have h1:=hr.get iD.len hi;have a0:=hr.len iD.len;have h2:=hc.sub (i*3) 3 ab;obtain⟨sl,rt,e,an⟩:=h1;obtain⟨x,y,e2⟩:=an.shape;simp only[Value.agg.injEq,Array.mk.injEq,abB,abC]at e2;exact⟨b,off,_,x,s.2.subs.length,y,T.plc s.2.subs s.2,rfl,h2,by rw[e,e2.1,e2.2]⟩
 refine cC Tryz.func256 rfl (by simp[Tryz.ntmps256]) fun w0=>?_;simp only[Tryz.ntmps256,iv];refine aT ?_;refine aA (fun x=>x.2-x.1) (Re (.slice za f.length zc) f.length a) (Y9 f a H) (0,f.length) (by simp only[go_sem,aa6,Re,iv]) (by simp only[go_sem,aa6,Re]) ?_ ?_
 ·exact⟨rfl,aaL _,ZR _,fun k s h=>by omega,fun k s h1 h2=>by rw[aan h1]at h2;cases h2⟩
 rintro⟨i,j⟩ H' ⟨rfl,h1,h2,h3,h4⟩ aj;simp only at h1 h2 h3 h4;simp only[Re];rcases aaf i j with aS|a3
 ·have am:decide ((i:Int)<(j:Int))=true:=by simp;omega
  have e1:=wrap64 (n:=i+j) ab;have e2:=qq (n:=i+j) ab;have e3:=C0 (a:=i+j) (i:=1) ab;have e4:=wrap64 (n:=(i+j) / 2) ab;have e5:(i+j) >>> 1=(i+j) / 2:=abs _ 1;have ecast:(i:Int)+(j:Int)=((i+j:Nat):Int):=by omega
  simp only[abo]at e3;rw[e5]at e3;obtain⟨m,hm⟩:∃m,m=(i+j) / 2:=⟨_,rfl⟩;rw[<-hm]at e3 e4;have aq:i<=m:=by omega
  have a2:m<j:=by omega
  obtain⟨s,aa⟩:∃s,f[m]?=some s:=⟨_,aak ab⟩;have ao:=hp s (aaV aa);obtain⟨b,off,c,sl0,sl1,sl2,rt,rfl,hc,rfl⟩:=load m s aa;apply RG;simp only[go_sem,am,iv,ecast,e1,e2,e3,e4];refine⟨⟨ab,ab⟩,?_⟩;refine XN (l:=[iv s.1,.slice sl0 sl1 sl2,iv rt]) (v:=.agg #[iv s.1,.slice sl0 sl1 sl2,iv rt]) rfl hc (.inl ⟨sM,rfl⟩) ?_;apply RG;simp only[go_sem,iv];refine WZ rfl Gd (RO ab ab) fun v H2 hv=>?_;obtain⟨rfl,rfl⟩:=hv;cases ac:decide ((s.1:Int)-(a:Int)<0)
  ·apply RG;simp only[go_sem,iv,ac];refine aj (i,m) _ _ dt (by simp only[go_sem,aa6,Re,iv]) (by simp only[go_sem,aa6,Re]) ⟨rfl,aq,by simp only;omega,h3,fun k t hk ht=>?_⟩;simp only[abp]at ac;rcases aaf m k with h|h
   ·have:s.1<t.1:=by
     obtain⟨l1,e1⟩:=List.getElem?_eq_some_iff.1 aa;obtain⟨l2,e2⟩:=List.getElem?_eq_some_iff.1 ht;have:=List.pairwise_iff_getElem.1 hs m k l1 l2 h;rw[e1,e2]at this;exact this
    omega
   ·have:k=m:=by simp only at hk;omega
    subst this;rw[aa]at ht;cases ht;omega
  ·have e6:=wrap64 (n:=m+1) ab;have e7:(m:Int)+1=((m+1:Nat):Int):=by omega
   apply RG;simp only[go_sem,iv,ac,e7,e6];refine aj (m+1,j) _ _ dt (by simp only[go_sem,aa6,Re,iv]) (by simp only[go_sem,aa6,Re]) ⟨rfl,by simp only;omega,h2,fun k t hk ht=>?_,h4⟩;simp only[aaC]at ac;rcases aaf k m with h|h
   ·have:t.1<s.1:=by
     obtain⟨l1,e1⟩:=List.getElem?_eq_some_iff.1 aa;obtain⟨l2,e2⟩:=List.getElem?_eq_some_iff.1 ht;have:=List.pairwise_iff_getElem.1 hs k m l2 l1 h;rw[e1,e2]at this;exact this
    omega
   ·have:k=m:=by simp only at hk;omega
    subst this;rw[aa]at ht;cases ht;omega
 ·have a1:i=j:=by omega
  subst a1;have am:=Z6 i;cases ak:decide ((i:Int)<(f.length:Int))
  ·have:f[i]?=none:=aan (by simp at ak;omega);apply RG;simp only[go_sem,am,iv,ak];refine aJ (r:=[iv i,.bool false]) (by simp only[Tryz.results256,go_sem,iv]) ⟨rfl,i,h2,h3,h4,by simp[gv,iv,Dm,this]⟩
  ·obtain⟨s,aa⟩:∃s,f[i]?=some s:=⟨_,aak (by simp at ak;omega)⟩;have ao:=hp s (aaV aa);obtain⟨b,off,c,sl0,sl1,sl2,rt,rfl,hc,rfl⟩:=load i s aa;apply RG;simp only[go_sem,am,iv,ak];refine⟨⟨ab,by simp at ak;omega⟩,?_⟩;refine XN (l:=[iv s.1,.slice sl0 sl1 sl2,iv rt]) (v:=.agg #[iv s.1,.slice sl0 sl1 sl2,iv rt]) rfl hc (.inl ⟨sM,rfl⟩) ?_;apply RG;simp only[go_sem,iv];refine WZ rfl Gd (RO ab ab) fun v H2 hv=>?_;obtain⟨rfl,rfl⟩:=hv;apply RG;simp only[go_sem,iv];have he:((s.1:Int)-(a:Int) == 0)=decide (s.1=a):=by
    rw[Bool.eq_iff_iff];simp;omega
   refine aJ (r:=[iv i,.bool (Dm f i a)]) ?_ ⟨rfl,i,h2,h3,h4,rfl⟩;simp only[Dm,aa,<-he];simp only[Tryz.results256,go_sem,iv]
def OF:aO Tryz.prog 258:=⟨_,Tryz.func258,rfl,rfl⟩
def xY{g l cap:Nat}(h:l<cap):sO (some ⟨g,0,none⟩) size l cap=some ⟨g,l*size,none⟩:=by
 unfold sO;rw[ZV ab];simp[gG]
def yB{a:Option Addr}{cap:Nat}(h:∀x,a=some x->x.spot=none):sO a size 0 cap=a:=by
 unfold sO;split
 ·rfl
 ·cases a with
  |none=>rfl
  |some x=>
   obtain⟨b,off,sp⟩:=x;have:=h _ rfl;simp only at this;subst this;simp[gG]
theorem UP:(Tryz.f288.name == "runtime.NumGoroutine")=false:=by kernel_rfl
theorem Vk:Tryz.f288.body.isNone=true:=by kernel_rfl
theorem Vl:Extern.findNext Tryz.f288=none:=by kernel_rfl
theorem Wp:Tryz.prog.underlying 154=some (.slice 169):=by kernel_rfl
theorem TO:Extern.find Tryz.f288=some (Extern.SlicesOverlaps.overlaps #[154,154] #[4]):=by kernel_rfl
theorem zG:Tryz.prog.underlying 155=some (.slice 169):=by kernel_rfl
def VZ:∃i,Tryz.prog.info? 169=some i/\i.size=3:=by
 have h:=Rt;unfold Sx.bY at h;cases hi:Tryz.prog.info? 169 with
 |none=>rw[hi]at h;cases h
 |some i=>rw[hi]at h;simp at h;exact⟨i,rfl,h⟩
def iD.ones(h:iD I c s):c.all Sx.one=true:=by
 obtain⟨sl,rt,e,hr⟩:=h;obtain⟨x,y,e2⟩:=hr.shape;simp only[Value.agg.injEq,Array.mk.injEq,abB,abC]at e2;rw[e,e2.1,e2.2];rfl
def LR.ones{α:Type}{R:List Value->α->Prop}(hR:∀c a,R c a->c.all Sx.one=true):∀{l:List α} {xs:List Value},LR R xs l->xs.all Sx.one=true
 | [],xs,h=>by rw[show xs=[] from h];rfl
 |a::l,xs,⟨c,ys,e,h1,h2⟩=>by rw[e,List.all_append,hR c a h1,LR.ones hR h2];rfl
def K1{l ys:List Value}(h:p+c.length+ys.length<=l.length):(br (br l p c) (p+c.length) ys).take (p+c.length+ys.length)=l.take p++c++ys:=by
 rw[fE _ _ _ (by rw[aX];exact h),fE _ _ _ ab];have h1:(l.take p++c).length=p+c.length:=by simp;omega
 have h2:(l.take p++c++l.drop (p+c.length)).take (p+c.length)=l.take p++c:=by rw[<-h1];exact List.take_left
 rw[h2];have h3:(l.take p++c++ys).length=p+c.length+ys.length:=by rw[aa9,h1]
 rw[<-h3];exact List.take_left
def IY{l ys:List Value}(h:p+c.length+ys.length<=l.length):(br (br l (p+c.length) ys) p c).take (p+c.length+ys.length)=l.take p++c++ys:=by
 rw[fE (br l (p+c.length) ys) c p (by rw[aX];omega),fE _ _ _ ab];have h1:(l.take (p+c.length)++ys).length=p+c.length+ys.length:=by simp;omega
 have h4:(l.take (p+c.length)++ys++l.drop (p+c.length+ys.length)).take p=l.take p:=by
  rw[aaT,aaR (by simp;omega),aa4,aaN ab]
 have h5:(l.take (p+c.length)++ys++l.drop (p+c.length+ys.length)).drop (p+c.length)=ys++l.drop (p+c.length+ys.length):=by
  rw[aaT];exact List.drop_left' (by simp;omega)
 rw[h4,h5];have h3:(l.take p++c++ys).length=p+c.length+ys.length:=by simp;omega
 rw[<-aaT,<-h3];exact List.take_left
def Kq{nb c1:Nat}{ty:TypeId}(hf:jy I A vf f)(hi:i<=f.length)(b0:I nb=some (.cells c.toArray ty (0,0)))(hc:iD I c s)(hl:f.length<2^40):
  aK Tryz.prog 258 #[vf,iv i,.slice (some ⟨nb,0,none⟩) 1 c1] I [A] fun v I2 qs=>∃A2,qs=[A2]/\jy I2 A2 v (f.take i++[s]++f.drop i):=by
 intro hd;obtain⟨xs,ao,a9⟩:=hf;have aa:=iD.len _ _ hc;have ac:aP I nb 0 c:=az b0 (by simp) (by simp);have aj:=a9.len iD.len;obtain⟨za,zc,rfl⟩:=ao.slice;refine cC Tryz.func258 rfl (by simp[Tryz.ntmps258]) fun w0=>?_;simp only[Tryz.ntmps258,iv];rcases aaf i f.length with cy|cB
 ·obtain⟨g,cap,cur,e1,rfl,cm,cs,bb,bs⟩:=ao.sg ab;cases e1
  have bc:((i:Int) == (f.length:Int))=false:=by simp;omega
  have e1:=wrap64 (n:=f.length+1) ab;have cc:IntKind.i64.wrap ((f.length:Int)+1)=((f.length+1:Nat):Int):=by rw[<-e1];congr 1
  have e2:IntKind.i64.wrap (((f.length+1:Nat):Int)-(i:Int))=((f.length+1-i:Nat):Int):=by rw[cH ab ab];omega
  have e3:=wrap64 (n:=i+1) ab;have bd:IntKind.i64.wrap ((i:Int)+1)=((i+1:Nat):Int):=by rw[<-e3];congr 1
  obtain⟨inf,am,a7⟩:=VZ;have ak:(xs.drop (i*3)).length=(f.length-i)*3:=by rw[abD,aj,<-abE]
  have a6:(xs.drop (i*3)).all one=true:=(a9.split iD.len i).2.ones (fun _ _ h=>h.ones);have fin:∀(cells:List Value) (g2 cap2:Nat) (I2:PH),I.le I2->cells.take ((f.length+1)*3)=xs.take (i*3)++c++xs.drop (i*3)->cells.length=cap2*3->f.length+1<=cap2->cap2<=maxLen->
    jy I2 (sg g2 (.cells cells.toArray 169 (0,0))) (.slice (some ⟨g2,0,none⟩) (f.length+1) cap2) (f.take i++[s]++f.drop i):=by
   intro cells g2 cap2 I2 cn h1 h2 h3 h4;obtain⟨k1,k2⟩:=a9.split iD.len i;have b1:(f.take i++[s]++f.drop i).length=f.length+1:=by simp;omega
   refine⟨xs.take (i*3)++c++xs.drop (i*3),?_,((k1.app (.one hc)).app k2).mono fun _ _ h=>h.le cn⟩;rw[b1];refine mh.of_sg ?_ h3 h4 (by simpa using h2) (by simpa using h1);simp only[aa9,abF,ak,aa,aj];have:i*3<=f.length*3:=aaQ _ hi;rw[aaN this,aaP,abE];omega
  have b6:i*3<=f.length*3:=aaQ _ hi;have cA:(i+1)*3=i*3+3:=by omega
  have ct:aP (U [I,sg g (.cells cur 169 (0,0))]) g 0 cur.toList:=cellsU hd (.tail _ (.head _)) (ay (by simp) (by rw[aa1];exact abG (ZR _)));have b3:cur.toList.length=zc*3:=by rw[hZ];exact bb
  have a0:(cur.toList.drop (i*3)).take ((f.length-i)*3)=xs.drop (i*3):=by
   rw[<-bs,List.drop_take,abE]
  rcases aaf zc (f.length+1)with aq|aq
  ·have b5:decide (((f.length+1:Nat):Int)>(zc:Int))=true:=by simp;omega
   have s1:sO (some ⟨g,0,none⟩) 3 0 zc=some ⟨g,0,none⟩:=yB (by simp);have s2:=xY (g:=g) (l:=i) (cap:=zc) (size:=3) ab;apply RG;simp only[go_sem,iv,bc,cc,e2,bd,b5,s1,s2];refine⟨ab,?_⟩;have a1:aP (U [I,sg g (.cells cur 169 (0,0))]) g 0 (xs.take (i*3)):=by
    have:=ct.sub 0 (i*3) (by simp;omega);rw[aa1]at this;have e:cur.toList.take (i*3)=xs.take (i*3):=by rw[<-bs,aa4,aaN b6]
    rwa [e]at this
   refine F3 (by exact hd) (by exact jH) (by exact S5) rfl rfl rfl rfl a1 (by simp[aj];omega) ab ab (by unfold maxLen;omega) ab fun g2 cap2 zs cf b4 cx ba=>?_;have t1:=xY (g:=g2) (l:=i) (cap:=cap2) (size:=3) ab;have t2:=xY (g:=g2) (l:=i+1) (cap:=cap2) (size:=3) ab;have e5:i+(f.length+1-i)=f.length+1:=by omega
   rw[e5]at b4;apply RG;simp only[go_sem,iv,e5,t1,t2];refine⟨ab,?_⟩;have bx:aP (U [I,sg g2 (.cells (xs.take (i*3)++zs).toArray 169 (0,0)),sg g (.cells cur 169 (0,0))]) nb 0 c:=cellsU ba (.head _) ac;have cj:(xs.take (i*3)).length=i*3:=by simp[aj];omega
   have aS:(xs.take (i*3)++zs).length=cap2*3:=by
    rw[aa9,cj,cf,abE];have:i*3<=cap2*3:=aaQ _ ab;omega
   have c0:(f.length+1)*3<=cap2*3:=aaQ _ b4;refine CY (by exact ba) (by exact zG) (by exact am) rfl rfl rfl rfl bx (by rw[a7,aa,aaN ab]) (by rw[aa];simp only[List.size_toArray];omega) hc.ones fun a5=>?_;apply RG;simp only[go_sem,iv];refine dN mixed [0,1,2,3,4,5,6,7,8] [] [] rfl rfl ?_;apply au;simp only[go_sem,iv,bd,t2,s2];refine⟨ab,?_⟩;have ci:f.length*3<=zc*3:=aaQ _ cm;have an:aP (sg g (.cells cur 169 (0,0))) g (i*3) (xs.drop (i*3)):=ay (by rw[ak,bb,abE];omega) (by rw[ak];exact a0);refine Dc (by exact a5) (by exact zG) (by exact am) rfl rfl rfl rfl rfl rfl (cellsU a5 (.tail _ (.tail _ (.head _))) an) (by rw[a7,ak,aaN ab]) (by rw[ak];simp only[List.size_toArray,aX];omega) a6 fun b2=>?_;refine aw ?_;apply RG;simp only[go_sem,iv];refine nr (c:=.st _) b2 [1,0] rfl fun ca=>?_;simp only[vG,aa7,aa8]at ca |-;refine ae (c:=.st _) ca fun I6 cr a3 _=>?_;refine af rfl cr (r:=[_]) rfl a3 ⟨_,rfl,?_⟩;refine fin _ g2 cap2 I6 a3 ?_ (by simp only[List.toList_toArray,aX];exact aS) b4 cx;have hL:=K1 (l:=xs.take (i*3)++zs) (c:=c) (ys:=xs.drop (i*3)) (p:=i*3) (by rw[aa,ak,aS,abE];omega);have hp:i*3+c.length=(i+1)*3:=by rw[aa];omega
   have hq:i*3+c.length+(xs.drop (i*3)).length=(f.length+1)*3:=by rw[aa,ak,abE];omega
   rw[hq,hp]at hL;have hA:(xs.take (i*3)++zs).take (i*3)=xs.take (i*3):=by rw[aaR ab,abG ab]
   rw[hL,hA]
  ·have b5:decide (((f.length+1:Nat):Int)>(zc:Int))=false:=by simp;omega
   have s1:sO (some ⟨g,0,none⟩) 3 0 zc=some ⟨g,0,none⟩:=yB (by simp);have s2:=xY (g:=g) (l:=i) (cap:=zc) (size:=3) ab;have s3:=xY (g:=g) (l:=i+1) (cap:=zc) (size:=3) ab;apply RG;simp only[go_sem,iv,bc,cc,e2,bd,b5,s1,s2,s3];refine⟨ab,?_⟩;have cl:nb≠g:=fun e=>by
    have:=(qF hd (.head _)).symm.left (dL g (.cells cur 169 (0,0)));rw[<-e,b0]at this;cases this
   have ci:(f.length+1)*3<=zc*3:=aaQ _ aq;refine Dt (by exact RV) (by exact Tryz.func288) (by exact UP) (by exact Vk) (by exact Vl) (by exact TO) rfl rfl rfl rfl (cP hd _ _ b0) (di hd _ _ (dL _ _)) cl ab ?_;apply RG;simp only[go_sem,iv];refine dN mixed [0,1,2,3,4,5,6,7,8] [] [] rfl rfl ?_;apply au;simp only[go_sem,iv,bd,s2,s3];refine⟨ab,?_⟩;have an:aP (sg g (.cells cur 169 (0,0))) g (i*3) (xs.drop (i*3)):=ay (by rw[ak,bb,abE];omega) (by rw[ak];exact a0);refine Dc (by exact hd) (by exact zG) (by exact am) rfl rfl rfl rfl rfl rfl (cellsU hd (.tail _ (.head _)) an) (by rw[a7,ak,Nat.min_eq_right ab,Nat.add_sub_add_right]) (by rw[ak,bb,abE];omega) a6 fun a5=>?_;refine aw ?_;apply RG;simp only[go_sem,iv,s2];refine⟨ab,?_⟩;refine CY (by exact a5) (by exact zG) (by exact am) rfl rfl rfl rfl (cellsU a5 (.head _) ac) (by rw[a7,aa,aaN ab]) (by rw[aa];simp only[List.size_toArray,aX,b3];omega) hc.ones fun b2=>?_;apply RG;simp only[go_sem,iv];refine af rfl b2 (r:=[_]) rfl (abW _) ⟨_,rfl,?_⟩;refine fin _ g zc I (abW _) ?_ (by simp only[List.toList_toArray,aX,b3]) aq cs;have hL:=IY (l:=cur.toList) (c:=c) (ys:=xs.drop (i*3)) (p:=i*3) (by rw[aa,ak,b3,abE];omega);have hp:i*3+c.length=(i+1)*3:=by rw[aa];omega
   have hq:i*3+c.length+(xs.drop (i*3)).length=(f.length+1)*3:=by rw[aa,ak,abE];omega
   rw[hq,hp]at hL;have hA:cur.toList.take (i*3)=xs.take (i*3):=by rw[<-bs,aa4,aaN b6]
   rw[hL,hA]
 ·have cp:i=f.length:=by omega
  subst cp;have bc:((f.length:Int) == (f.length:Int))=true:=by simp
  apply RG;simp only[go_sem,iv,bc];refine⟨ab,?_⟩;refine Dz (m:=1) hd (by exact jH) (by exact Wp) ao rfl rfl rfl rfl (cellsU hd (.head _) ac) (by rw[aa]) hc.ones ab (by unfold maxLen;omega) fun v' I2 A2 ba a4 cb=>?_;obtain⟨a2,c2,rfl⟩:=cb.slice;apply RG;simp only[go_sem,iv];refine af rfl ba (r:=[_]) rfl a4 ⟨A2,rfl,xs++c,?_,?_⟩
  ·simpa[gv]using cb
  ·rw[aaS,abH,aa6];exact(a9.app (.one hc)).mono fun _ _ h=>h.le a4
def ej:aO Tryz.prog 199:=⟨_,Tryz.func199,rfl,rfl⟩
def Ms:∀{f:ar} {i a:Nat} {d e:T},(∀k s,k<i->f[k]?=some s->s.1<a)->f[i]?=some (a,e)->vL f a d=f.set i (a,e.or d)
 | [],i,a,d,e,_,h=>by simp at h
 |(b,e')::f,0,a,d,e,_,h=>by
  simp only[abh,ZW,aaI]at h;obtain⟨rfl,rfl⟩:=h;simp[vL]
 |(b,e')::f,i+1,a,d,e,h1,h=>by
  have hb:=h1 0 _ ab rfl;simp only at hb;simp only[vL,aaq hb,List.set_cons_succ];rw[Ms (i:=i) (fun k s hk hs=>h1 (k+1) s (Nat.succ_lt_succ hk) (by simpa using hs)) (by simpa using h)]
def GO:∀{f:ar} {i a:Nat} {d:T},i<=f.length->(∀k s,k<i->f[k]?=some s->s.1<a)->(∀s,f[i]?=some s->a<s.1)->vL f a d=f.take i++[(a,d)]++f.drop i
 | [],i,a,d,hi,_,_=>by simp[vL]
 |(b,e')::f,0,a,d,_,_,h=>by
  have:=h _ rfl;simp only at this;simp only[vL];rw[ZV ab,ZV ab];simp
 |(b,e')::f,i+1,a,d,hi,h1,h=>by
  have hb:=h1 0 _ ab rfl;simp only at hb;simp only[vL,aaq hb,abA,abx,aaz];rw[GO (i:=i) (by simpa using hi) (fun k s hk hs=>h1 (k+1) s (Nat.succ_lt_succ hk) (by simpa using hs)) (fun s hs=>h s (by simpa using hs))]
def jy.le'(h:jy I A v f)(aa:I.le J):jy J A v f:=Ow.le (R:=iD) (fun{I J c a} h k=>iD.le h k) h aa
def Ow.inU{α:Type}{R:PH->List Value->α->Prop}{ps:List PH}{l:List α}(h:Ow R e size I A v l)(hd:Dj ps)(hA:A∈ps):In R I (U ps) v l:=by
 obtain⟨xs,h1,h2⟩:=h;obtain⟨a,c,e⟩:=h1.slice;rcases abn l.length with hz|hp
 ·exact⟨a,c,e,.inl (List.length_eq_zero_iff.1 hz)⟩
 ·obtain⟨g,cap,e2,hc⟩:=h1.cellsU hd hA hp;exact⟨_,cap,e2,.inr ⟨g,0,xs,rfl,hc,h2⟩⟩
def bK{vd:Value}{d:T}(hf:jy I A vf f)(a0:cX I vd d)(hs:f.Pairwise (fun s t=>s.1<t.1))(hp:∀s∈f,s.1<2^61)(ha:a<2^61)(hl:f.length<2^40):
  aK Tryz.prog 199 #[vf,iv a,vd] I [A] fun v I2 qs=>∃A2,qs=[A2]/\jy I2 A2 v (Syn.join f a d):=by
 intro hd;obtain⟨da,dc,rfl⟩:=a0.shape;have bx:=hf.inU hd (.tail _ (.head _));obtain⟨za,zc,rfl⟩:=hf.shape;refine cC Tryz.func199 rfl (by simp[Tryz.ntmps199]) fun w0=>?_;simp only[Tryz.ntmps199,iv];refine aT ?_;refine WZ rfl jt (gO a0) fun v H2 hv=>?_;obtain⟨rfl,rfl⟩:=hv;cases aS:decide (d=.lf false)
 ·have bb:d≠ff:=by simpa using aS
  apply RG;simp only[go_sem,iv,aS];refine WZ rfl Qp (H6 bx hs hp ha ab) fun v H2 hv=>?_;obtain⟨rfl,i,hi,h1,h2,rfl⟩:=hv;have hj:Syn.join f a d=vL f a d:=by unfold Syn.join;rw[ZV bb]
  cases aq:Dm f i a
  ·apply RG;simp only[go_sem,iv,aq];have b0:∀s,f[i]?=some s->a<s.1:=fun s a6=>by
    have:=h2 i s (ZR _) a6;simp only[Dm,a6,abp]at aq;omega
   refine ax hd (by exact RV) rfl rfl rfl rfl rfl bg fun nb I2 b3 ac bc=>?_;apply RG;simp only[go_sem,iv];have c1:=Kq (I:=I2) (A:=A) (i:=i) (nb:=nb) (c1:=1) (c:=[iv a,.slice da (T.subs d).length dc,iv (T.plc (T.subs d) d)]) (s:=(a,d)) (jy.le' hf ac) hi (by rw[bc];rfl) ⟨_,_,rfl,a0.le ac⟩ hl;refine DY b3 [0] rfl OF rfl (F:=[]) rfl c1 fun v I3 qs an aa hq=>?_;obtain⟨A2,rfl,b6⟩:=hq;simp only[aa6]at an |-;apply RG;simp only[go_sem,iv];refine af rfl an (r:=[_]) rfl (abV ac aa) ⟨A2,rfl,?_⟩;rw[hj,GO hi h1 b0];exact b6
  ·obtain⟨⟨p,e⟩,aj⟩:∃s,f[i]?=some s:=by
    cases hx:f[i]? with
    |some s=>exact⟨s,rfl⟩
    |none=>simp[Dm,hx]at aq
   have ba:p=a:=by simpa[Dm,aj]using aq
   subst ba;have bd:i<f.length:=by
    rcases aaf i f.length with h|h
    ·exact h
    ·rw[aan h]at aj;cases aj
   obtain⟨xs,a1,a3⟩:=hf;obtain⟨g,cap,cur,e1,rfl,a7,b5,b4,a5⟩:=a1.sg ab;cases e1
   have a4:=a3.get iD.len aj;have bs:=a3.len iD.len;obtain⟨sl,rt,a9,am⟩:=a4;obtain⟨ea,ec,e2⟩:=am.shape;simp only[Value.agg.injEq,Array.mk.injEq,abB,abC]at e2;obtain⟨rfl,rfl⟩:=e2;have cb:i*3+3<=f.length*3:=by omega
   have ca:f.length*3<=zc*3:=aaQ _ a7;have ao:aP (sg g (.cells cur 169 (0,0))) g (i*3+1) [.slice ea (T.subs e).length ec,iv (T.plc (T.subs e) e)]:=by
    refine ay (by simp;omega) ?_;have h3:(cur.toList.drop (i*3)).take 3=(xs.drop (i*3)).take 3:=by
     rw[<-a5,List.drop_take,aa4,aaN ab]
    rw[a9]at h3;have:(cur.toList.drop (i*3+1)).take 2=((cur.toList.drop (i*3)).take 3).drop 1:=by
     rw[List.drop_take,aa3]
    simp only[aaj,aaO,ZZ,Nat.reduceAdd];rw[this,h3];rfl
   apply RG;simp only[go_sem,iv,aq];refine dN mixed [0,1,2,3,4,5,6,7,8,9,10,11] [6] [] rfl rfl ?_;apply au;simp only[go_sem,iv];refine⟨ab,?_⟩;refine W7 (l:=[.slice ea (T.subs e).length ec,iv (T.plc (T.subs e) e)]) (v:=.agg #[.slice ea (T.subs e).length ec,iv (T.plc (T.subs e) e)]) rfl (by simpa using cellsU hd (.tail _ (.head _)) ao) (.inl ⟨r9,rfl⟩) ?_;apply au;simp only[go_sem,iv];refine aE hd [0] [] [_] rfl yj rfl (KP am a0) fun v I3 qs an aa hq=>?_;obtain⟨rfl,hr⟩:=hq;obtain⟨ra,rc,rfl⟩:=hr.shape;simp only[aaA]at an |-;apply au;simp only[go_sem,iv];refine⟨ab,?_⟩;refine aQ an rfl rfl rfl rfl rfl rfl (by exact Ds) (by simp;omega) fun b2=>?_;refine aw ?_;apply RG;simp only[go_sem,iv];refine af rfl b2 (r:=[_]) rfl aa ⟨_,rfl,?_⟩;rw[hj,Ms h1 aj];have a2:LR (iD I3) xs f:=a3.mono fun _ _ h=>h.le aa;have ak:=a2.set iD.len bd (c:=[iv p,.slice ra (T.subs (e.or d)).length rc,iv (T.plc (T.subs (e.or d)) (e.or d))]) (a:=(p,e.or d)) ⟨_,_,rfl,hr⟩;refine⟨_,?_,ak⟩;rw[aa0];refine mh.of_sg ?_ a7 b5 (by simp[aX];exact b4) ?_
   ·rw[ak.len iD.len,aa0]
   ·show (br cur.toList (i*3+1) [.slice ra (T.subs (e.or d)).length rc,iv (T.plc (T.subs (e.or d)) (e.or d))]).take (f.length*3)=_;rw[oC _ _ _ _ (by simp;omega),a5,fE _ _ _ (by simp;omega)];have e1:xs.take (i*3+1)=xs.take (i*3)++[iv p]:=by
     have:xs.take (i*3+1)=xs.take (i*3)++((xs.drop (i*3)).take 3).take 1:=by
      rw[aa4,aaN ab,List.take_add]
     rw[this,a9];rfl
    rw[e1];simp only[aaj,aaO,ZZ,Nat.reduceAdd];rw[show (i+1)*3=i*3+1+2 by omega];simp
 ·have b1:d=ff:=by simpa using aS
  subst b1;apply RG;simp only[go_sem,aS];exact af rfl hd (r:=[_]) rfl (abW _) ⟨A,rfl,by simpa[Syn.join,gv]using hf⟩
def eI:aO Tryz.prog 200:=⟨_,Tryz.func200,rfl,rfl⟩
def G7:aO Tryz.prog 209:=⟨_,Tryz.func209,rfl,rfl⟩
def Ta:aO Tryz.prog 78:=⟨_,Tryz.func78,rfl,rfl⟩
def Sl.load{α:Type}{R:PH->List Value->α->Prop}{n:Nat}(hR:∀{I} c a,R I c a->c.length=n){a:Option Addr}{m c:Nat}{l:List α}(h:Sl R I (.slice a m c) l){x:α}(hi:l[i]?=some x):
  ∃b off cs,a=some ⟨b,off,none⟩/\R I cs x/\aP I b (off+i*n) cs:=by
 obtain⟨a',c',e,h⟩:=h;cases e
 have aa:i<l.length:=by
  rcases aaf i l.length with h|h
  ·exact h
  ·rw[aan h]at hi;cases hi
 rcases h with h0|⟨b,off,xs,rfl,hc,hr⟩
 ·rw[h0]at aa;simp at aa
 ·have ac:=hr.len (n:=n) (fun c a h=>hR c a h);have h1:(i+1)*n<=l.length*n:=aaQ _ aa;rw[aaP]at h1;exact⟨b,off,_,rfl,hr.get (fun c a h=>hR c a h) hi,hc.sub (i*n) n ab⟩
def iD.shape(h:iD I c s):∃a k,c=[iv s.1,.slice a (T.subs s.2).length k,iv (T.plc (T.subs s.2) s.2)]/\cX I (.agg #[.slice a (T.subs s.2).length k,iv (T.plc (T.subs s.2) s.2)]) s.2:=by
 obtain⟨sl,rt,e,hr⟩:=h;obtain⟨x,y,e2⟩:=hr.shape;have e3:=e2;simp only[Value.agg.injEq,Array.mk.injEq,abB,abC]at e3;refine⟨x,y,by rw[e,e3.1,e3.2],by rw[<-e2];exact hr⟩
variable{g:ar}
def AG(hs:g[i]?=some s):Syn.joinAll f (g.take (i+1))=Syn.join (Syn.joinAll f (g.take i)) s.1 s.2:=by
 have aa:i<g.length:=by
  rcases aaf i g.length with h|h
  ·exact h
  ·rw[aan h]at hs;cases hs
 rw[aaM aa];rw[aak aa]at hs;rw[aaZ hs];unfold Syn.joinAll;rw[abM];rfl
def UB(vg:Value)(n:Nat)(x:Nat×Value):St:=⟨sp 0 21 [(0,.v x.2),(7,.v vg),(8,.v (iv n)),(9,.v (iv x.1))],[]⟩
def YV(f g:ar)(I0:PH)(x:Nat×Value)(H:PH):Prop:=∃I A,H=U [I,A]/\Dj [I,A]/\I0.le I/\x.1<=g.length/\jy I A x.2 (Syn.joinAll f (g.take x.1))
def cS{vg:Value}{N:Nat}(hN:N<=2^20)(hf:jy I A vf f)(fn:FN N f)(hg:eR I vg g)(gn:FN N g):
  aK Tryz.prog 200 #[vf,vg] I [A] fun v I2 qs=>∃A2,qs=[A2]/\jy I2 A2 v (Syn.joinAll f g):=by
 intro hd;obtain⟨za,zc,rfl⟩:=hf.shape;obtain⟨ga,gc,rfl,_⟩:=id hg;have gl:=gn.len;refine cC Tryz.func200 rfl (by simp[Tryz.ntmps200]) fun w0=>?_;simp only[Tryz.ntmps200,iv];refine aT ?_;refine aA (fun x=>g.length-x.1) (UB (.slice ga g.length gc) g.length) (YV f g I) (0,.slice za f.length zc) (by simp only[go_sem,aa6,UB,iv]) (by simp only[go_sem,aa6,UB]) ?_ ?_
 ·exact⟨I,A,rfl,hd,abW _,aaL _,hf⟩
 rintro⟨i,v⟩ H ⟨I1,A1,rfl,ao,aa,hi,ak⟩ ac;simp only at hi ak;simp only[UB];have a4:eR I1 (.slice ga g.length gc) g:=Sl.le (R:=iD) (fun{I J c a} h k=>iD.le h k) hg aa;rcases aaf i g.length with a0|a7
 ·have aS:decide ((i:Int)<(g.length:Int))=true:=by simp;omega
  have e1:=wrap64 (n:=i+1) ab;have a6:IntKind.i64.wrap ((i:Int)+1)=((i+1:Nat):Int):=by rw[<-e1];congr 1
  obtain⟨s,hs⟩:∃s,g[i]?=some s:=⟨_,aak a0⟩;have a3:=aaV hs;obtain⟨b,off,cs,rfl,a5,aj⟩:=a4.load iD.len hs;obtain⟨sa,sk,rfl,am⟩:=a5.shape;have fa:FN N (Syn.joinAll f (g.take i)):=fn.joinAll ⟨⟨fun t ht=>gn.ok.1 t (abf ht),gn.ok.2.sublist (List.take_sublist i g)⟩,fun t ht=>gn.le t (abf ht)⟩;have fal:=fa.len;have sle:=gn.le s a3;apply RG;simp only[go_sem,aS,iv];refine⟨ab,?_⟩;refine XN (l:=[iv s.1,.slice sa (T.subs s.2).length sk,iv (T.plc (T.subs s.2) s.2)]) (v:=.agg #[iv s.1,.slice sa (T.subs s.2).length sk,iv (T.plc (T.subs s.2) s.2)]) rfl (cellsU ao (.head _) aj) (.inl ⟨sM,rfl⟩) ?_;apply RG;simp only[go_sem,iv];refine DY ao [0] rfl ej rfl (F:=[]) rfl (bK ak am fa.ok.2 (fun t ht=>by have:=fa.le t ht;omega) ab ab) fun v I2 qs a1 an hq=>?_;obtain⟨A2,rfl,aq⟩:=hq;obtain⟨a2,c2,rfl⟩:=aq.shape;simp only[aa6]at a1 |-;apply RG;simp only[go_sem,iv,a6];rw[<-AG hs]at aq |-;exact ac (i+1,.slice a2 (Syn.joinAll f (g.take (i+1))).length c2) _ _ dt (by simp only[go_sem,aa6,UB,iv]) (by simp only[go_sem,aa6,UB]) ⟨I2,A2,rfl,a1,abV aa an,a0,aq⟩
 ·have aS:decide ((i:Int)<(g.length:Int))=false:=by simp;omega
  have:i=g.length:=by omega
  subst this;rw[aaS]at ak;apply RG;simp only[go_sem,aS,iv];exact af rfl ao (r:=[_]) rfl aa ⟨A1,rfl,ak⟩
def sD(a:Option Addr)(c:Nat)(t:T):Value:=.slice a (T.subs t).length c
def rD(t:T):Value:=iv (T.plc (T.subs t) t)
def cX.shape2{t:T}(h:cX I v t):∃a c,v=.agg #[sD a c t,rD t]:=h.shape
def Ur(vg:Value)(n:Nat)(x:Nat×Option Addr×Nat×T):St:=⟨sp 0 19 [(2,.p 2 0),(3,.p 3 0),(7,.v vg),(8,.v (iv n)),(9,.v (iv x.1))],[⟨2,50,[.slice none 0 0,.int .i64 0]⟩,⟨3,50,[.slice x.2.1 (T.subs x.2.2.2).length x.2.2.1,.int .i64 (T.plc (T.subs x.2.2.2) x.2.2.2)]⟩]⟩
def ZH(g:ar)(I0:PH)(x:Nat×Option Addr×Nat×T)(H:PH):Prop:=∃I,H=U [I]/\Dj [I]/\I0.le I/\x.1<=g.length/\x.2.2.2=ii (g.take x.1)/\cX I (.agg #[sD x.2.1 x.2.2.1 x.2.2.2,rD x.2.2.2]) x.2.2.2
def Fm(hs:g[i]?=some s):ii (g.take (i+1))=(ii (g.take i)).or s.2:=by
 have aa:i<g.length:=by
  rcases aaf i g.length with h|h
  ·exact h
  ·rw[aan h]at hs;cases hs
 rw[aaM aa];rw[aak aa]at hs;rw[aaZ hs];unfold ii;rw[abM];rfl
def U8{vg:Value}(hg:eR I vg g)(hl:g.length<2^40):aK Tryz.prog 78 #[vg] I [] fun v I2 qs=>qs=[]/\cX I2 v (ii g):=by
 intro hd;obtain⟨ga,gc,rfl,_⟩:=id hg;refine cC Tryz.func78 rfl (by simp[Tryz.ntmps78]) fun w0=>?_;simp only[Tryz.ntmps78,iv];refine aT ?_;refine WZ rfl yl (sU _) fun v H2 hv=>?_;obtain⟨rfl,rfl⟩:=hv;apply RG;simp only[go_sem,iv];refine aA (fun x=>g.length-x.1) (Ur (.slice ga g.length gc) g.length) (ZH g I) (0,none,0,.lf false) (by simp only[go_sem,aa6,Ur,iv]) (by simp only[go_sem,aa6,Ur,T.subs,T.vis,T.plc,aaO,aa5,Z2]) ?_ ?_
 ·exact⟨I,rfl,hd,abW _,aaL _,rfl,mN I false⟩
 rintro⟨i,a,k,t⟩ H ⟨I1,rfl,an,aa,hi,ht,hr⟩ ac;simp only at hi ht hr;simp only[Ur];have a1:eR I1 (.slice ga g.length gc) g:=Sl.le (R:=iD) (fun{I J c a} h k=>iD.le h k) hg aa;rcases aaf i g.length with aS|a5
 ·have ao:decide ((i:Int)<(g.length:Int))=true:=by simp;omega
  have e1:=wrap64 (n:=i+1) ab;have a4:IntKind.i64.wrap ((i:Int)+1)=((i+1:Nat):Int):=by rw[<-e1];congr 1
  obtain⟨s,hs⟩:∃s,g[i]?=some s:=⟨_,aak aS⟩;obtain⟨b,off,cs,rfl,a3,aj⟩:=a1.load iD.len hs;obtain⟨sa,sk,rfl,ak⟩:=a3.shape;apply RG;simp only[go_sem,ao,iv];refine⟨ab,?_⟩;refine XN (l:=[iv s.1,.slice sa (T.subs s.2).length sk,iv (T.plc (T.subs s.2) s.2)]) (v:=.agg #[iv s.1,.slice sa (T.subs s.2).length sk,iv (T.plc (T.subs s.2) s.2)]) rfl (cellsU an (.head _) aj) (.inl ⟨sM,rfl⟩) ?_;apply RG;simp only[go_sem,iv];refine DY an [] rfl yj rfl (F:=[]) rfl (KP hr ak) fun v I2 qs a0 am hq=>?_;obtain⟨rfl,aq⟩:=hq;obtain⟨a2,k2,rfl⟩:=aq.shape;simp only[aa6]at a0 |-;apply RG;simp only[go_sem,iv,a4];exact ac (i+1,a2,k2,t.or s.2) _ _ dt (by simp only[go_sem,aa6,Ur,iv]) (by simp only[go_sem,aa6,Ur]) ⟨I2,rfl,a0,abV aa am,aS,by simp only;rw[Fm hs,ht],aq⟩
 ·have ao:decide ((i:Int)<(g.length:Int))=false:=by simp;omega
  have:i=g.length:=by omega
  subst this;rw[aaS]at ht;subst ht;apply RG;simp only[go_sem,ao,iv];exact af rfl an (r:=[.agg #[sD a k (ii g),rD (ii g)]]) (by simp only[Tryz.results78,go_sem,iv,sD,rD]) aa ⟨rfl,hr⟩
def dz(I:PH)(c:List Value)(t:Tok):Prop:=∃path file line a k,c=[.int .u8 t.kind,.string ⟨⟨t.text⟩⟩,path,.int .i64 file,.int .i64 line,sD a k t.cond,rD t.cond]/\one path=true/\cX I (.agg #[sD a k t.cond,rD t.cond]) t.cond
def dz.le{t:Tok}(h:dz I c t)(aa:I.le J):dz J c t:=by
 obtain⟨p,f,l,a,k,e,h1,h2⟩:=h;exact⟨p,f,l,a,k,e,h1,cX.le h2 aa⟩
def dz.len(c:List Value)(t:Tok)(h:dz I c t):c.length=7:=by obtain⟨p,f,l,a,k,e,_⟩:=h;rw[e];rfl
def uh(_:PH)(c:List Value)(t:Tok):Prop:=c=[.bool t.fits]
def uh.len(c:List Value)(t:Tok)(h:uh I c t):c.length=1:=by rw[show c=_ from h];rfl
structure zr(I:PH)(ts:List Tok)(lv fv:Value):Prop where
 tok:Sl dz I lv ts
 fit:Sl uh I fv ts
 len:ts.length<=16384
 ok:bT ts
variable{ts:List Tok}
def zr.le{lv fv:Value}(h:zr I ts lv fv)(aa:I.le J):zr J ts lv fv:=
 ⟨Sl.le (R:=dz) (fun{I J c a} h k=>dz.le h k) h.tok aa,Sl.le (R:=uh) (fun{I J c a} h k=>h) h.fit aa,h.len,h.ok⟩
def cg(lv fv ov dv:Value)(o:Nat):Obj:=.cells #[lv,fv,ov,iv o,dv] 161 (0,0)
def Vw{n:Nat}(h:decide ((a:Int)<16384)=false)(hl:n<=16384)(ha:a<=n):a=n:=by
 have:=abN h;omega
def Am{pb:Nat}{lv fv ov dv:Value}{o:Nat}(h:zr I ts lv fv)(ha:a<=ts.length):
  aK Tryz.prog 209 #[pt pb,iv a] I [sg pb (cg lv fv ov dv o)] fun v I2 qs=>qs=[sg pb (cg lv fv ov dv o)]/\I2=I/\v=.agg #[.slice none 0 0,iv 0]:=by
 intro hd;have hl:=h.len;obtain⟨la,lc,rfl,_⟩:=h.tok;refine cC Tryz.func209 rfl (by simp[Tryz.ntmps209]) fun w0=>?_;simp only[Tryz.ntmps209,iv,pt];cases h6:decide ((a:Int)<16384)
 ·apply bL 10;simp only[go_sem,h6];have aa:a=ts.length:=Vw h6 hl ha;have ac:decide ((a:Int)>=(ts.length:Int))=true:=by simp;omega
  refine aT ?_;refine XN (l:=[_]) rfl (cellsU hd (.tail _ (.head _)) (ay (by simp[cg]) rfl)) (.inr ⟨uy,rfl⟩) ?_;apply RG;simp only[go_sem,ac];refine WZ rfl yl (sU _) fun v H2 hv=>?_;obtain⟨rfl,rfl⟩:=hv;apply RG;simp only[go_sem,iv];exact af rfl hd (r:=[.agg #[.slice none 0 0,iv 0]]) (by simp only[Tryz.results209,go_sem,iv]) (abW _) ⟨rfl,rfl,rfl⟩
 ·apply bL 10;simp only[go_sem,h6];refine aT ?_;refine WZ rfl yl (sU _) fun v H2 hv=>?_;obtain⟨rfl,rfl⟩:=hv;apply RG;simp only[go_sem,iv];exact af rfl hd (r:=[.agg #[.slice none 0 0,iv 0]]) (by simp only[Tryz.results209,go_sem,iv]) (abW _) ⟨rfl,rfl,rfl⟩
end Go.Proofs.YtfaclfkpnmcmlaaGreatDoor
namespace Go.Sx
open Go
def r8:List (Nat×SV)->Nat->SV
 | [],_=>.u
 |(k,v)::l,t=>if k=t then v else r8 l t
def dn(n:Nat)(L:List (Nat×SV)):List SV:=(List.range n).map (r8 L)
variable{L:List (Nat×SV)}
theorem Qa{n:Nat}{t:Nat}(h:t<n):oY (dn n L) t=r8 L t:=by
 rw[eX];unfold dn;simp[h]
theorem O8(n:Nat)(L:List (Nat×SV))(d:Nat)(y:SV):lN (dn n L) d y=dn n ((d,y)::L):=by
 apply List.ext_getElem?;intro i;rw[gh];unfold dn;simp only[aah,abO,aai];by_cases e:d=i
 ·subst e;by_cases h:d<n
  ·simp[h,r8]
  ·simp[h]
 ·simp only[ZV e];by_cases h:i<n
  ·simp[h,r8,e]
  ·simp[h]
def Mj (f : SV → SV) (hf : f .u = .u) (n : Nat) (L : List (Nat × SV)) : (dn n L).map f = dn n (L.map fun p => (p.1, f p.2)) := by
  unfold dn
  rw [aas]
  apply aat
  intro t _
  simp only [Function.comp]
  induction L with
  | nil => exact hf
  | cons p l ih => obtain ⟨k, v⟩ := p; simp only [r8, aaU]; split
                   · rfl
                   · exact ih
theorem TL(d n:Nat)(L:List (Nat×SV)):(dn n L).map (kQ d)=dn n (L.map fun p=>(p.1,kQ d p.2)):=Mj _ rfl _ _
theorem R2(k b n:Nat)(L:List (Nat×SV)):(dn n L).map (mF k b)=dn n (L.map fun p=>(p.1,mF k b p.2)):=Mj _ rfl _ _
def Bn:List (Nat×SV)->List (Nat×SV)->Prop
 | [],_=>True
 |(k,v)::r,L=>r8 L k=v/\Bn r L
def Hx {l m : List SV} (hl : l.length = m.length) (h : ∀ (i : Nat) (x : SV), l[i]? = some x → x = .u ∨ m[i]? = some x) : nm l m := by
  induction l generalizing m with
  | nil => cases m with
    | nil => trivial
    | cons y m => simp at hl
  | cons x l ih => cases m with
    | nil => simp at hl
    | cons y m =>
      have ht := ih (m := m) (by simpa using hl) fun i z hz => by simpa using h (i + 1) z (by simpa using hz)
      have h0 := h 0 x rfl
      cases x with
      | u => exact ht
      | v z => exact ⟨by rcases h0 with h0 | h0
                         · cases h0
                         · simpa using h0.symm, ht⟩
      | p a b => exact ⟨by rcases h0 with h0 | h0
                           · cases h0
                           · simpa using h0.symm, ht⟩
def Bn.get{L':List (Nat×SV)}(h:Bn L' L)(t:Nat):r8 L' t=.u\/r8 L' t=r8 L t:=by
 induction L' with
 |nil=>exact .inl rfl
 |cons p r ih=>
  obtain⟨k,v⟩:=p;simp only[r8];split
  ·rename_i e;subst e;exact .inr h.1.symm
  ·exact ih h.2
def bJ{n:Nat}{L':List (Nat×SV)}(h:Bn L' L):nm (dn n L') (dn n L):=by
 refine Hx (by simp[dn]) fun i x hx=>?_;unfold dn at hx |-;simp only[aai]at hx |-;cases hr:(List.range n)[i]? with
 |none=>rw[hr]at hx;cases hx
 |some j=>
  rw[hr]at hx;simp only[Z9,ZW]at hx |-;rcases h.get j with e|e
  ·exact .inl (by rw[<-hx];exact e)
  ·exact .inr (by rw[<-e];exact hx)
def Ao:Nat->List Value->List (Nat×SV)
 |_,[]=>[]
 |i,v::l=>(i,.v v)::Ao (i+1) l
def CO:∀(vs:List Value) (i t:Nat),r8 (Ao i vs) t=if i<=t then (match vs[t-i]? with|some v=>.v v|none=>.u)else .u
 | [],i,t=>by simp[Ao,r8]
 |v::l,i,t=>by
  simp only[Ao,r8,CO l (i+1) t];by_cases e:i=t
  ·subst e;simp
  ·rw[ZV e];by_cases h:i<=t
   ·rw[aaq h,aaq ab];have:t-i=(t-(i+1))+1:=by omega
    rw[this,abi]
   ·rw[ZV h,ZV ab]
def Mu(args:List Value)(n:Nat)(h:args.length<=n):nm (dn n (Ao 0 args)) (uC args n):=by
 refine Hx (by simp[dn,uC];omega) fun i x hx=>?_;unfold dn at hx;simp only[aai]at hx;by_cases hi:i<n
 ·rw[List.getElem?_range hi]at hx;simp only[Z9,ZW,CO,aaL,ZT,Nat.sub_zero]at hx;cases hv:args[i]? with
  |none=>rw[hv]at hx;exact .inl hx.symm
  |some v=>
   rw[hv]at hx
   right
   unfold uC;have hl:i<args.length:=by
    rcases aaf i args.length with h|h
    ·exact h
    ·rw[aan h]at hv;cases hv
   rw[aaG (by simpa using hl),aai,hv];simpa using hx
 ·rw[aan (by simpa using hi)]at hx;cases hx
variable{Φ:Value->PH->Prop}{args:Array Value}{fn:Func}{f:FuncId}{P:Program}
def iz{c:Code}{H:PH}(hf:P.funcs[f]?=some fn)(hb:fn.body=some c)(aa:args.toList.length<=fn.ntmps)
  (h:∀w0,RC ⟨P,f,fn,hf,H,w0,Φ⟩ (.st [.code c]) ⟨dn fn.ntmps (Ao 0 args.toList),[]⟩ H):bO P f args H Φ:=
 cC hf hb aa fun w0=>Gc (Mu _ _ aa) (by simp[rN]) (h w0)
def V5{c:Code}{H:PH}(hf:P.funcs[f]?=some fn)(hq:(fn.body,decide (args.toList.length<=fn.ntmps))=(some c,true))
  (h:∀w0,RC ⟨P,f,fn,hf,H,w0,Φ⟩ (.st [.code c]) ⟨dn fn.ntmps (Ao 0 args.toList),[]⟩ H):bO P f args H Φ:=by
 simp only[aaI,aaC]at hq;exact iz hf hq.1 hq.2 h
attribute [go_sem] r8 Bn Qa O8 TL R2 Ao
end Go.Sx
