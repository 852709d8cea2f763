import Derived.Test.YtfaclfkpnmcmlaaGreatDoorJ12
import Derived.Test.YtfaclfkpnmcmlaaGreatDoorJ15
set_option maxHeartbeats 8000000
set_option linter.all false
open Go.Proofs.Tryz hiding f8
namespace Go.Proofs.YtfaclfkpnmcmlaaGreatDoor
open Go Go.Sx Dg Syn
def Qs:ax prog 76:=⟨_,func76,rfl,rfl⟩
def VV{α:Type}{l:List α}{i:Nat}{n:α}(h:l[i]?=some n):l.take (i+1)=l.take i++[n]:=by rw[List.take_add_one,h];rfl
def nD(s:al):Option (List (Nat×al)):=match pZ s with
 |some l=>if l.length>256 then none else some l
 |none=>none
def y0(s:al)(v:Value)(c:PH)(b:List PH):Prop:=match nD s with
 |none=>(∃k:Nat,k≠0/\v=.tuple #[.slice none 0 0,E k])/\b=[]
 |some l=>∃A a,v=.tuple #[a,E 0]/\b=[A]/\iy c A a (l.map dy)
variable{I:PH}
def IW{s:al}(k:s.length<2^40)(m:ip I):aT prog 82 #[.string ⟨⟨s⟩⟩] I [] (y0 s):=by
 intro hd;refine aP 21 func82 fun w0=>?_;refine ai ?_;refine fF hd rfl Po (Vu k m) fun v w p b a e=>?_;unfold uf at e;unfold y0 nD;cases i:pZ s with
 |none=>rw[i]at e;obtain⟨rfl,rfl⟩:=e;refine ai ?_;exact az rfl b (r:=[_,_]) rfl a ⟨⟨4,by decide,rfl⟩,rfl⟩
 |some l=>
  rw[i]at e;obtain⟨A,o,vb,rfl,rfl,j⟩:=e;simp only[Z3]at b |-;obtain⟨t,q,rfl⟩:=j.shape;simp only[eN];rcases aI 256 l.length with h|h
  .have d:decide ((l.length:Int)>256)=true:=bl O;refine aj b [0] fun c=>?_;refine aH c fun u c g n=>?_;apply RG;simp only[go_sem,eN,d];exact az rfl c (r:=[_,_]) rfl (D a g) (by rw[ag h];exact⟨⟨5,by decide,rfl⟩,rfl⟩)
  .have d:decide ((l.length:Int)>256)=false:=cd O;apply RG;simp only[go_sem,eN,d];exact az rfl b (r:=[_,_]) rfl a (by rw[ab (Nat.not_lt.2 h)];exact⟨A,_,rfl,rfl,by rw[<-eN (f:=dy)];exact j⟩)
variable{x:al}{k:Nat}
def OZ(h:nD x=none):mE k x=false:=by unfold mE;apply cd;intro e;unfold nD at h;rw[e]at h;simp at h
def O0{l:List (Nat×al)}(h:nD x=some l):mE k x=decide (l=[(k,x)]):=by
 unfold mE nD at *;cases e:pZ x with
 |none=>rw[e]at h;cases h
 |some m=>
  rw[e]at h;simp only at h;split at h
  .cases h
  .cases h;simp
def Ed(L:x.length<2^40)(N:ip I):aT prog 133 #[.int .u8 k,.string ⟨⟨x⟩⟩] I [] fun r U F=>F=[]/\r=.bool (mE k x):=by
 intro hd;refine aP 35 func133 fun w0=>?_;refine ai ?_;refine fF hd rfl Ii (IW L N) fun v U F o g s=>?_;unfold y0 at s;cases u:nD x with
 |none=>
  rw[u]at s;obtain⟨⟨j,X,rfl⟩,rfl⟩:=s;have C:((j:Int) == 0)=false:=by simp;omega
  refine be C ?_;exact az rfl o (r:=[_]) rfl g ⟨rfl,by rw[OZ u];rfl⟩
 |some l=>
  rw[u]at s;obtain⟨A,V,rfl,rfl,H⟩:=s;simp only[Z3]at o |-;rw[O0 u];obtain⟨S,Q,rfl⟩:=H.shape;refine aj o [0] fun d=>?_;refine aH d fun T d f B=>?_;have P:Sl cR T (.slice S (l.map dy).length Q) (l.map dy):=Ow.sl (R:=cR) (fun{I J c a} h k=>cR.le h k) H f B;by_cases h1:l.length=1
  .obtain⟨⟨p,y⟩,rfl⟩:=List.length_eq_one_iff.1 h1;obtain⟨b,off,cs,rfl,z,m⟩:=Sl.load (fun{I} c a h=>cR.len c a h) P (i:=0) (x:=dy (p,y)) rfl;obtain⟨G,K,line,a,W,rfl,_,hr⟩:=z;have c0:=m.get (i:=0) rfl;have c1:=m.get (i:=1) rfl;have q:(((1:Nat):Int) == 1)=true:=rfl;apply RG;simp only[go_sem,E,List.map,bm,bo,q];refine X5 (l:=[.int .u8 p]) rfl (cellsU d (.head _) (by simpa[dy]using c0)) (.inr ⟨uq,rfl⟩) ?_;cases t:((p:Int) == (k:Int))
   .have n:((p,y)::([]:List (Nat×al)))≠[(k,x)]:=by intro e;simp only[mZ,ij,dV]at e;rw[e.1]at t;simp at t
    refine dq t ?_;exact az rfl d (r:=[_]) rfl (D g f) ⟨rfl,by rw[cd n];rfl⟩
   .have w:p=k:=by have:=eq_of_beq t;omega
    subst w;refine dq t ?_;refine X5 (l:=[.string ⟨⟨y⟩⟩]) rfl (cellsU d (.head _) (by simpa[dy]using c1)) (.inr ⟨gM,rfl⟩) ?_;refine ai ?_;exact az rfl d (r:=[.bool (y == x)]) rfl (D g f) ⟨rfl,by show Value.bool _=_;congr 1;rw[Np];simp⟩
  .have q:((((l.map dy).length:Nat):Int) == 1)=false:=by simp;omega
   have n:l≠[(k,x)]:=fun e=>h1 (by rw[e];rfl);refine be q ?_;exact az rfl d (r:=[_]) rfl (D g f) ⟨rfl,by rw[cd n];rfl⟩
abbrev wu(I A:PH)(v:Value)(l:List Tok):Prop:=Ow lF 4 1 I A v l
variable{v:Value}
def wu.le{J A:PH}{l:List Tok}(h:wu I A v l)(k:I.le J):wu J A v l:=Ow.le (R:=lF) (fun{I J c a} h k=>h) h k
def AQ(lv:Value)(n:Nat)(x:Nat×Value):St:=⟨dn 129 [(0,.v lv),(3,.p 20 0),(21,.v lv),(22,.v (E n)),(23,.v (E x.1))],[⟨20,161,[lv,x.2,.slice none 0 0,.int .i64 0,.slice none 0 0]⟩]⟩
def Ue(Z:List Tok)(a:PH)(x:Nat×Value)(H:PH):Prop:=∃I A,H=U [I,A]/\Dj [I,A]/\a.le I/\x.1<=Z.length/\wu I A x.2 ((Z.map refit).take x.1)
theorem LR.refit{I:PH}:∀{Z:List Tok} {xs:List Value},LR (cR I) xs Z->LR (cR I) xs (Z.map refit)
 | [],_,h=>h
 |_::_,_,⟨c,ys,e,h1,h2⟩=>⟨c,ys,e,h1,LR.refit h2⟩
theorem Sl.refit{Z:List Tok}(h:Sl cR I v Z):Sl cR I v (Z.map refit):=by obtain⟨a,c,rfl,h⟩:=h;exact⟨a,c,by rw[eN],h.imp (fun e=>by rw[e];rfl) fun⟨b,off,xs,e1,e2,d⟩=>⟨b,off,xs,e1,e2,LR.refit d⟩⟩
theorem T8{lv:Value}{Z:List Tok}(hV:ip I)(W:Sl cR I lv Z)(hl:Z.length<=16384)(hx:∀t∈Z,t.text.length<2^40):
  aT prog 76 #[lv] I [] fun r I2 U=>∃pb fv,r=pt pb/\U=[sg pb (bN lv fv (.slice none 0 0) (.slice none 0 0) 0)]/\Sl lF I2 fv (Z.map refit):=by
 obtain⟨la,lc,rfl,_⟩:=id W;intro hd;refine aP 129 func76 fun w0=>?_;refine ai ?_;refine dg hd fun L=>?_;refine bY (fun x=>Z.length-x.1) (AQ (.slice la Z.length lc) Z.length) (Ue Z I) (0,.slice none 0 0) ak (by simp only[go_sem,Y,AQ]) ?_ ?_
 .exact⟨I,PH.no,rfl,L,aC _,aF _,Ow.nil _ _ _ _⟩
 rintro⟨i,vo⟩ H ⟨I1,A1,rfl,s,e,hi,C⟩ p;simp only at hi C;simp only[AQ];obtain⟨oa,oc,rfl⟩:=C.shape;rcases aI i Z.length with A|aa
 .have w:=Z5 i Z.length;have e1:=Z7 i;obtain⟨t,ht⟩:∃t,Z[i]?=some t:=⟨_,aZ A⟩;have F:(Z.map refit)[i]?=some (refit t):=by rw[jG,ht];rfl
  have y:((Z.map refit).take i).length=i:=by simp;omega
  obtain⟨b,off,cs,rfl,N,u⟩:=Sl.load (fun{I} c a h=>cR.len c a h) (Sl.le (R:=cR) (fun{I J c a} h k=>cR.le h k) W e) ht;obtain⟨j,o,line,a,V,rfl,z,hr⟩:=N;refine be w ?_;refine⟨O,?_⟩;refine X5 (l:=[.int .u8 t.kind,.string ⟨⟨t.text⟩⟩,j,.int .i64 o,.int .i64 line,sD a V t.cond,rD t.cond]) (v:=.agg #[.int .u8 t.kind,.string ⟨⟨t.text⟩⟩,j,.int .i64 o,.int .i64 line,sD a V t.cond,rD t.cond]) rfl (cellsU s (.head _) u) (.inl ⟨Gr,rfl⟩) ?_;unfold one at z;refine dP z ?_;refine bE [0,1,2,3,4,5,6,7,8,9,10,11,12,13,14] [] [] ?_;refine bR ?_;refine cE s [0] [] [A1] rfl DH rfl (Ed (k:=t.kind) (hx t (cY ht)) (hV.le e)) ?_;rintro v X U g d⟨rfl,rfl⟩;simp only[Z3]at g |-;refine bR ?_;refine im g (by exact Ky) rfl rfl rfl rfl rfl af fun nb I4 q m G=>?_;have P:Sl lF I4 (.slice (some ⟨nb,0,none⟩) 1 1) [refit t]:=⟨_,_,rfl,.inr ⟨nb,0,_,rfl,bz G (by simp[av,Value.cells]) (by simp[av,Value.cells,refit]),.one rfl⟩⟩;refine bR ?_;refine tZ (R:=lF) (xs:=(Z.map refit).take i) (ys:=[refit t]) q (by exact Ky) (wu.le C (D d m)) P (fun{I J c a} h k=>h) (fun{I} c a h=>lF.len (I:=I) c a h) (fun{I} c a h=>by rw[show c=_ from h];rfl) rfl rfl rfl rfl rfl rfl (by rw[y];simp only[bm,bo];omega) (by rw[y];simp only[bm,bo];unfold maxLen;omega) fun ua uc I5 A5 K B Q=>?_;refine bR ?_;apply aL;refine be e1 ?_;exact p (i+1,.slice ua ((Z.map refit).take i++[refit t]).length uc) _ _ bh ak (by simp only[go_sem,Y,AQ]) ⟨I5,A5,rfl,K,D e (D d (D m B)),A,by simp only;rw[VV F];exact Q⟩
 .have:i=Z.length:=by omega
  subst this;have w:decide (((Z.length:Nat):Int)<(Z.length:Int))=false:=by simp
  have T:decide ((Z.length:Int)<=16384)=true:=bl O;have ef:(Z.map refit).take Z.length=Z.map refit:=by rw[<-eN (f:=refit),dO]
  rw[ef]at C |-;refine aj s [0] fun g=>?_;refine aH (c:=.st _) g fun X g d S=>?_;have hF:Sl lF X (.slice oa (Z.map refit).length oc) (Z.map refit):=Ow.sl (R:=lF) (fun{I J c a} h k=>h) C d S;apply cD 3;simp only[go_sem,E,w];refine jL 20 g rfl fun pb q=>?_;apply RG;simp only[go_sem,iN,List.map,T];exact az rfl q (r:=[pt pb]) rfl (D e d) ⟨pb,_,rfl,rfl,hF⟩
open Go Go.Sx Dg
def f8(c:Nat):aD:=fun i=>c.testBit i
def kS(l:List (Nat×Nat)):T:=l.foldl (fun d x=>d.or (iD x.1 x.2)) (.lf false)
def nC(c:Nat)(x:Nat×Nat):Bool:=decide ((c&&&x.1)&&&16777215=x.1&&&16777215) && decide ((c&&&x.2)&&&16777215=0)
def pW(l:List (Nat×Nat))(c:Nat):Bool:=l.any (nC c)
def rp(i:Nat):(16777215:Nat).testBit i=decide (i<24):=by rw[show (16777215:Nat)=2^24-1 from rfl,Nat.testBit_two_pow_sub_one]
def Io(c:Nat)(x:Nat×Nat):nC c x=true<->∀i,i<24->(x.1.testBit i=true->c.testBit i=true)/\(x.2.testBit i=true->c.testBit i=false):=by
 unfold nC;rw[cX,dA,dA];constructor
 .rintro⟨h1,h2⟩ i hi;have e1:=congrArg (fun n=>n.testBit i) h1;have e2:=congrArg (fun n=>n.testBit i) h2;simp only[tO,rp,hi,decide_true,qI,Nat.zero_testBit]at e1 e2;refine⟨fun h=>?_,fun h=>?_⟩
  .rw[h]at e1;simpa using e1
  .rw[h]at e2;simpa using e2
 .intro h;constructor
  .apply Nat.eq_of_testBit_eq;intro i;simp only[tO,rp];by_cases hi:i<24
   .have:=(h i hi).1;cases h1:x.1.testBit i
    .simp
    .simp[this h1]
   .simp[hi]
  .apply Nat.eq_of_testBit_eq;intro i;simp only[tO,rp,Nat.zero_testBit];by_cases hi:i<24
   .have:=(h i hi).2;cases h1:x.2.testBit i
    .simp
    .simp[this h1]
   .simp[hi]
def G5(c:Nat)(x:Nat×Nat):(iD x.1 x.2).at' (f8 c)=nC c x:=by
 rw[Bool.eq_iff_iff,Io];unfold iD;split
 .rename_i h;constructor
  .intro h;cases h
  .intro k;refine absurd ?_ h;apply Nat.eq_of_testBit_eq;intro i;simp only[tO,rp,Nat.zero_testBit];by_cases hi:i<24
   .have h1:=(k i hi).1;have h2:=(k i hi).2;cases e1:x.1.testBit i<;>cases e2:x.2.testBit i<;>simp_all
   .simp[hi]
 .rename_i h;have h0:∀i,i<24->x.1.testBit i=true->x.2.testBit i=true->False:=by intro i hi e1 e2;apply h;intro e;have:=congrArg (fun n=>n.testBit i) e;simp[tO,rp,hi,e1,e2]at this
  rw[G4 _ _ _ 24 (aR _)];constructor
  .intro k i hi;have:=k i O hi;simp only[tO,rp,hi,decide_true,qI]at this;refine⟨this.1,fun e=>?_⟩;cases e1:x.1.testBit i
   .exact this.2 e1 e
   .exact(h0 i hi e1 e).elim
  .intro k i _ hi;have:=k i hi;simp only[tO,rp,hi,decide_true,qI];exact⟨this.1,fun _ e=>this.2 e⟩
def G7(c:Nat):∀(l:List (Nat×Nat)) (z:T),z.ok 0->(l.foldl (fun d x=>d.or (iD x.1 x.2)) z).ok 0/\(l.foldl (fun d x=>d.or (iD x.1 x.2)) z).at' (f8 c)=(z.at' (f8 c) || pW l c)
 | [],z,a=>⟨a,by simp[pW]⟩
 |x::l,z,a=>by have b:=G6 x.1 x.2;obtain⟨h1,h2⟩:=G7 c l (z.or (iD x.1 x.2)) (T.or_ok a b);refine⟨h1,?_⟩;rw[gW,h2,T.or_at a b,G5];simp[pW,Bool.or_assoc]
def Om(l:List (Nat×Nat)):(kS l).ok 0:=(G7 0 l (.lf false) trivial).1
def Ol(c:Nat):(iD c (4294967295 ^^^ c)).at' (f8 c)=true:=by
 have:=G5 c (c,4294967295 ^^^ c);rw[this,Io];intro i hi;refine⟨fun h=>h,fun h=>?_⟩;simp only[Nat.testBit_xor]at h;rw[show (4294967295:Nat)=2^32-1 from rfl,Nat.testBit_two_pow_sub_one]at h;have a:i<32:=by omega
 simp[a]at h;exact h
def AV{a b:Nat}(ha:a<2^32)(hb:b<2^32):xI .u32 (a:Int) (b:Int)=((a|||b:Nat):Int):=by
 have e:BitVec.ofInt 32 (a:Int)=BitVec.ofNat _ a:=by rw[BitVec.ofInt_natCast]
 have d:BitVec.ofInt 32 (b:Int)=BitVec.ofNat _ b:=by rw[BitVec.ofInt_natCast]
 have c:a|||b<2^32:=Nat.or_lt_two_pow ha hb;have:xI .u32 (a:Int) (b:Int)=IntKind.u32.wrap ((BitVec.ofInt 32 (a:Int)|||BitVec.ofInt 32 (b:Int)).toNat:Int):=rfl;rw[this,e,d,BitVec.toNat_or,BitVec.toNat_ofNat,BitVec.toNat_ofNat,Nat.mod_eq_of_lt ha,Nat.mod_eq_of_lt hb];simp only[IntKind.wrap,show IntKind.bits .u32=32 from rfl,show IntKind.signed .u32=false from rfl];have:((a|||b:Nat):Int) % (2^32:Int)=((a|||b:Nat):Int):=tJ O (by exact_mod_cast c);simpa using this
def VB{i:Nat}(hi:i<32):qz .u32 1 (i:Int)=((2^i:Nat):Int):=by
 have:qz .u32 1 (i:Int)=IntKind.u32.wrap (1*2^(min i 32)):=rfl;have e:min i 32=i:=by omega
 have a:(2:Nat)^i<2^32:=Nat.pow_lt_pow_right O hi;rw[this,e,show (1*2^i:Int)=((2^i:Nat):Int) by simp];simp only[IntKind.wrap,show IntKind.bits .u32=32 from rfl,show IntKind.signed .u32=false from rfl];have:((2^i:Nat):Int) % (2^32:Int)=((2^i:Nat):Int):=tJ (gH _) (by exact_mod_cast a);simpa using this
def wM(l:List (Nat×Nat)):Nat:=l.foldl (fun u x=>(u|||x.1)|||x.2) 0
def sP(l:List (Nat×Nat)):Nat:=wM l&&&16777215
def Nt(l:List (Nat×Nat))(x:Nat×Nat):wM (l++[x])=(wM l|||x.1)|||x.2:=by unfold wM;rw[pg];rfl
def lJ(l:List (Nat×Nat))(u:Nat):Prop:=∀x∈l,∀i,i<24->x.1.testBit i=true\/x.2.testBit i=true->u.testBit i=true
variable{l:List (Nat×Nat)}
def lJ.left{u:Nat}(h:lJ l u)(v:Nat):lJ l (u|||v):=fun x a i hi hb=>by rw[Nat.testBit_or,h x a i hi hb];rfl
def lJ.right{u:Nat}(h:lJ l u)(v:Nat):lJ l (v|||u):=fun x a i hi hb=>by rw[Nat.testBit_or,h x a i hi hb,Bool.or_true]
def O9(l:List (Nat×Nat)):∀(z i:Nat),z.testBit i=true->(l.foldl (fun u x=>(u|||x.1)|||x.2) z).testBit i=true:=by
 induction l with
 |nil=>intro z i h;exact h
 |cons y l a=>intro z i h;exact a _ i (by rw[Nat.testBit_or,Nat.testBit_or,h];rfl)
def Pa(l:List (Nat×Nat)):∀(z:Nat),∀x∈l,∀i,x.1.testBit i=true\/x.2.testBit i=true->(l.foldl (fun u x=>(u|||x.1)|||x.2) z).testBit i=true:=by
 induction l with
 |nil=>intro z x a;exact(dH a).elim
 |cons y l b=>
  intro z x a i hb;rcases List.mem_cons.1 a with rfl|a
  .refine O9 l _ i ?_;rw[Nat.testBit_or,Nat.testBit_or];rcases hb with hb|hb<;>rw[hb]<;>simp
  .exact b _ x a i hb
def KX(l:List (Nat×Nat)):lJ l (sP l):=fun x a i hi hb=>by unfold sP;rw[tO,rp];simp only[hi,decide_true,qI];exact Pa l 0 x a i hb
def GJ(l:List (Nat×Nat)):sP l<2^24:=v7 Nat.and_le_right af
def lN(u:Nat):Nat->List Nat
 |0=>[0]
 | i+1=>if u.testBit i=true then lN u i++(lN u i).map (fun x=>x|||2^i)else lN u i
def yC(l:List (Nat×Nat))(u:Nat):List Nat:=(lN u 32).filter (pW l)
variable{a:Option Addr}
def To{H:PH}{b:Nat}(hb:aX H b 0 [E k])(d:k<=5){h:ah}{c:Nat}:br prog 222 #[g8 a c h,pt b] H fun v H2=>v=.bool (gP k h)/\H2=H:=by
 refine aP 14 func222 fun w0=>?_
 try simp only[g8,E,pt,sD,rD]
 refine ai ?_;refine bE [0,1,2,3,4,5,7,6,8,9,10] [7] [6] ?_;by_cases h3:h.kind=3
 .have h6:((h.kind:Int) == 3)=true:=by simp[h3]
  apply bd;simp only[go_sem,h6,E,pt];refine X6 (l:=[E k]) rfl hb (.inr ⟨fI,rfl⟩) ?_;apply bd;simp only[go_sem,h6,E,pt];refine wy rfl rfl rfl rfl HS Ja ?_;rintro v H2⟨rfl,rfl⟩;refine⟨kI.le (aC _),?_⟩;apply bd;simp only[go_sem,h6,E,pt];apply aL;refine ai ?_;refine aU (r:=[.bool ((if fQ h.text=9 then -1 else (fQ h.text:Int)) == (k:Int))]) rfl ⟨?_,rfl⟩;show Value.bool _=Value.bool (gP k h);congr 1;unfold gP;rw[h3];by_cases e:fQ h.text=k
  .subst e;rw[ab O];simp
  .simp only[e];split<;>simp<;>omega
 .have h6:((h.kind:Int) == 3)=false:=by simp;omega
  apply bd;simp only[go_sem,h6,E,pt];apply aL;refine ai ?_;exact aU (r:=[.bool false]) rfl ⟨by simp[dS,gP,h3],rfl⟩
def BY{hb kind:Nat}{h:ah}{c:Nat}(f:aX I hb 0 [E h.at',sD a c h.cond,rD h.cond,.int .u8 h.kind,.string ⟨⟨h.text⟩⟩])(hr:bU I (.agg #[sD a c h.cond,rD h.cond]) h.cond):
  aT prog 291 #[.int .u8 kind,pt hb] I [] fun v i g=>∃A,g=[A]/\ar i A v [gx kind h 0]:=by
 intro hd;have h1:=f.sub 0 1 (by simp);have h2:=f.sub 1 2 (by simp);simp only[ls,gV,lz,lB,ii]at h1 h2;refine aP 11 func291 fun w0=>?_
 try simp only[pt]
 refine ai ?_;refine X5 (l:=[_]) rfl (cellsU hd (.head _) h1) (.inr ⟨fI,rfl⟩) ?_;refine ai ?_;refine X5 (l:=[_,_]) (v:=.agg #[_,_]) rfl (cellsU hd (.head _) h2) (.inl ⟨iB,rfl⟩) ?_;refine cv ?_;refine sJ hd (by exact df) rfl rfl rfl rfl rfl af fun b A e d=>?_;refine ai ?_;refine az rfl e (r:=[_]) rfl (aC _) ⟨A,rfl,_,d,?_⟩;exact .one (ae.mk (n:=gx kind h 0) hr (Sl.nil _ _) oo)
def s0:ax prog 83:=⟨_,func83,rfl,rfl⟩
def DJ:ax prog 144:=⟨_,func144,rfl,rfl⟩
def HL:ax prog 204:=⟨_,func204,rfl,rfl⟩
section
variable {Z:List Tok} {f:ad}
end
def ub(Z:List Tok)(r:Syn.aw):Value->PH->List PH->Prop:=fun v b a=>RN r v b a/\FN Z.length r.f/\r.l.length<=ao
section
variable (pb:Nat) (Z:List Tok) (lv fv ov:Value)
def WF(a o:Nat)(args:Value->Array Value)(f:ad)(r:Syn.aw):Prop:=
 ∀{I X:PH} {dv vf:Value} {e:List aG},iz I Z lv fv->bK I vf f->FN Z.length f->bj I X dv e->e.length+r.e.length<=lV->
  aT prog a (args vf) I [sg pb (bN lv fv ov dv o),X] (PP pb lv fv ov o (e++r.e) (ub Z r))
def WH(b o:Nat)(args:Value->Array Value)(h:ah)(r:Syn.aw):Prop:=
 ∀{I X:PH} {dv:Value} {a:Option Addr} {k:Nat} {e:List aG},iz I Z lv fv->dp Z h->bU I (.agg #[sD a k h.cond,rD h.cond]) h.cond->bj I X dv e->e.length+r.e.length<=lV->
  aT prog b (args (g8 a k h)) I [sg pb (bN lv fv ov dv o),X] (PP pb lv fv ov o (e++r.e) (ub Z r))
def cV(a:Nat):Value:=.func (.func a) #[pt pb] #[]
def mp:Syn.Call->Syn.aw->Prop
 | .line k o f slot,r=>k<=5->o<=64->WF pb Z lv fv ov 144 o (fun vf=>#[pt pb,E k,vf,E slot]) f r
 | .unary o f slot,r=>o<=64->WF pb Z lv fv ov 220 o (fun vf=>#[pt pb,vf,E slot]) f r
 | .inside o f slot,r=>o<=64->WF pb Z lv fv ov 270 o (fun vf=>#[pt pb,vf,E slot]) f r
 | .listed par o f,r=>o<=64->WF pb Z lv fv ov 206 o (fun vf=>#[pt pb,vf,cV pb (if par then 207 else 83)]) f r
 | .behind typ o f sign slot,r=>o<=64->sign≠[]->WF pb Z lv fv ov 204 o (fun vf=>#[pt pb,vf,.string ⟨⟨sign⟩⟩,cV pb (if typ then 202 else 83),E slot]) f r
 | .vrb o f,r=>o<=64->WF pb Z lv fv ov 137 o (fun vf=>#[pt pb,vf]) f r
 | .function o f,r=>o<=64->WF pb Z lv fv ov 139 o (fun vf=>#[pt pb,vf]) f r
 | .block o f slot,r=>o<=64->WF pb Z lv fv ov 208 o (fun vf=>#[pt pb,vf,E slot]) f r
 | .stmt o h,r=>o<=64->WH pb Z lv fv ov 264 o (fun a=>#[pt pb,a]) h r
 | .branch o h slot,r=>o<=64->h.text≠[]->WH pb Z lv fv ov 292 o (fun a=>#[pt pb,a,E slot]) h r
 |_,_=>True
def jO(n:Nat):Prop:=∀m,m<n->∀x r,run Z m x=some r->mp pb Z lv fv ov x r
end
section
variable {pb:Nat} {Z:List Tok} {lv fv ov:Value}
variable{o:Nat}
def uZ(kind slot:Nat)(f:ad):WF pb Z lv fv ov 201 o (fun vf=>#[pt pb,vf,.int .u8 kind,E slot]) f (named Z f kind slot):=by intro I X dv vf e h hf fn d hm;refine(T4 h hf fn d hm).mono ?_;rintro v k j _⟨a,i,b,e1,e2,g⟩;have:=uY h.ok fn kind slot;exact⟨a,i,b,e1,e2,g,nE h.ok fn kind slot,by have:=h.len;unfold ao;omega⟩
def FF(slot:Nat)(f:ad):WF pb Z lv fv ov 202 o (fun vf=>#[pt pb,vf,E slot]) f (hU Z f slot):=by intro I X dv vf e h hf fn d hm;refine(Xj h hf fn d hm).mono ?_;rintro v k j _⟨a,i,b,e1,e2,g⟩;have:=Xk h.ok fn slot;exact⟨a,i,b,e1,e2,g,BL h.ok fn slot,by have:=h.len;unfold ao;omega⟩
def sV{slot:Nat}{f:ad}{r:Syn.aw}(g:mp pb Z lv fv ov (.line 0 o f slot) r)(j:o<=64):WF pb Z lv fv ov 83 o (fun vf=>#[pt pb,vf,E slot]) f r:=by
 intro I X dv vf e h hf fn k hm hd;refine aP 14 func83 fun w0=>?_
 try simp only[E,pt]
 refine ai ?_;refine au hd [0,1] [sg pb _,X] [] rfl DJ rfl (g (aF _) j h hf fn k hm) ?_;rintro v u t b a⟨c,q,s,rfl,m,⟨A,B,d,vb,rfl,rfl,p,n⟩,l⟩;simp only[aN,aM,Y]at b |-;refine ai ?_;exact az rfl b (r:=[d,vb]) rfl a ⟨c,q,[A,B],rfl,m,⟨A,B,d,vb,rfl,rfl,p,n⟩,l⟩
end
open Go Go.Sx Dg Syn
section
variable {pb:Nat} {Z:List Tok} {lv fv ov:Value}
variable{r:Syn.aw}{n:Nat}
def fq{x:Syn.Call}(h:Syn.run Z n x=some r):∃m,n=m+1/\Syn.step Z (Syn.run Z m) x=some r:=by
 cases n with
 |zero=>cases h
 |succ m=>exact⟨m,rfl,h⟩
def cN{α β:Type}{a:Option α}{f:α->Option β}{q:β}(h:(a >>= f)=some q):∃x,a=some x/\f x=some q:=by
 cases a with
 |none=>cases h
 |some x=>exact⟨x,rfl,h⟩
variable{typ:Bool}
def U9{m o slot:Nat}{g:ad}{a:Syn.aw}(b:jO pb Z lv fv ov n)(hm:m<n)(c:o<=64)(h:zA Z (Syn.run Z m) typ o g slot=some a):WF pb Z lv fv ov (if typ then 202 else 83) o (fun vf=>#[pt pb,vf,E slot]) g a/\ax prog (if typ then 202 else 83):=by
 cases typ
 .exact⟨sV (b m hm _ _ h) c,s0⟩
 .cases h
  exact⟨FF slot g,DN⟩
def zB(pb slot:Nat)(c a b:Value)(n:Nat)(x:Nat×Value):St:=⟨dn 52 [(0,.v (pt pb)),(3,.v c),(4,.v (E slot)),(13,.v a),(14,.v x.2),(27,.v b),(28,.v (E n)),(29,.v (E x.1))],[]⟩
def Iz(pb:Nat)(lv fv ov dv:Value)(o:Nat)(J:ad->ah->ad)(z:ad)(hs:List ah)(a:List PH)(b:PH)(x:Nat×Value)(H:PH):Prop:=
 ∃I A,H=U (I::sg pb (bN lv fv ov dv o)::A::a)/\Dj (I::sg pb (bN lv fv ov dv o)::A::a)/\b.le I/\x.1<=hs.length/\cU I A x.2 ((hs.take x.1).foldl J z)
theorem No(ih:jO pb Z lv fv ov n){o:Nat}{f:ad}{sign:al}{slot:Nat}(hr:Syn.run Z n (.behind typ o f sign slot)=some r):mp pb Z lv fv ov (.behind typ o f sign slot) r:=by
 obtain⟨m,rfl,hs⟩:=fq hr;have u:Syn.behind Z (Syn.run Z m) typ o f sign slot=some r:=hs;unfold Syn.behind at u;obtain⟨yes,out,a7⟩:∃yes out,bM Z f (bg sign)=(yes,out):=⟨_,_,rfl⟩;rw[a7]at u;simp only at u;obtain⟨a,ha,e⟩:=cN u;cases e
 clear u hs hr;intro ho a9 I X dv vf e h hf fn he hm hd;obtain⟨b4,b6⟩:=U9 ih (eO m) ho ha;have hl:=h.len;refine aP 52 func204 fun w0=>?_
 try simp only[E,pt,cV]
 refine ai ?_;refine au hd [0,1] [] [sg pb _,X] rfl nB rfl (n6 (s:=sign)) ?_;rintro v I2 qs bx y⟨rfl,b1⟩;simp only[aN,aM]at bx |-;obtain⟨fi,first,cap,rfl,gi,ci⟩:=id b1;refine ai ?_;refine au bx [0,1] [sg pb _] [X] rfl oA rfl (oZ (h.le y) (bK.le hf y) fn b1) ?_;rintro v I3 qs bs aq⟨A,B,va,vb,rfl,rfl,hA,hB⟩;simp only[aN,aM]at bs |-;have hY:=nW h.ok fn (is:=bg sign);have b0:=qA h.ok fn (bg sign);have S:=jq h.ok fn (bg sign);rw[a7]at hA hB hY b0 S;simp only at hA hB hY b0 S;obtain⟨ya,yc,rfl⟩:=hA.shape;obtain⟨ba,bc,rfl⟩:=hB.shape;refine ai ?_;refine aj bs [1,0,2,3] fun cb=>?_;refine aH cb fun I4 ca w cA=>?_;have cf:fH I4 (.slice ya yes.length yc) yes:=Ow.sl (R:=dJ) (fun{I J c a} h k=>dJ.le h k) hA w cA;refine dg ca fun b8=>?_;refine aj b8 [1,0,2,3] fun b7=>?_;refine bY (fun x=>yes.length-x.1) (zB pb slot (cV pb (if typ then 202 else 83)) (.slice ba out.length bc) (.slice ya yes.length yc) yes.length) (Iz pb lv fv ov dv o joinH1 [] yes [B,X] I4) (0,.slice none 0 0) (ft (by simp only[go_sem,Y,E,pt,cV])) (by simp only[go_sem,Y,zB]) ?_ ?_
 .exact⟨I4,PH.no,rfl,b7,aC _,aF _,Ow.nil _ _ _ _⟩
 rintro⟨i,vat⟩ H ⟨I5,A5,rfl,aS,q,hi,L⟩ ac;simp only at hi L;simp only[zB];have cl:fH I5 (.slice ya yes.length yc) yes:=cf.le q;have K:FN Z.length ((yes.take i).foldl joinH1 []):=Al (fun x W=>⟨(hY x (ly W)).1,xl a9 (hY x (ly W)).1 (hY x (ly W)).2⟩) (FN.nil _);have c2:=K.len;rcases aI i yes.length with bb|c1
 .have T:decide ((i:Int)<(yes.length:Int))=true:=by simp;omega
  have e1:=wrap64 (n:=i+1) O;have c0:IntKind.i64.wrap ((i:Int)+1)=((i+1:Nat):Int):=by rw[<-e1];congr 1
  obtain⟨x,W⟩:∃x,yes[i]?=some x:=⟨_,aZ bb⟩;have a6:=hY x (cY W);have b3:=xl a9 a6.1 a6.2;have e2:=wrap64 (n:=x.at'+1) O;have cB:IntKind.i64.wrap ((x.at':Int)+1)=((x.at'+1:Nat):Int):=by rw[<-e2];congr 1
  obtain⟨b,off,cs,rfl,cc,am⟩:=cl.load dJ.len W;obtain⟨xa,xk,rfl,an⟩:=cc;have aa:=rC (g:=joinH1) (z:=[]) W;obtain⟨ta,tc,rfl⟩:=L.shape;apply RG;simp only[go_sem,T,E,pt,cV];refine⟨O,?_⟩;refine X5 (l:=[E x.at',sD xa xk x.cond,rD x.cond,.int .u8 x.kind,.string ⟨⟨x.text⟩⟩]) (v:=.agg #[E x.at',sD xa xk x.cond,rD x.cond,.int .u8 x.kind,.string ⟨⟨x.text⟩⟩]) rfl (cellsU aS (.head _) am) (.inl ⟨gm,rfl⟩) ?_;apply RG;simp only[go_sem,T,E,pt,sD,rD,cB];refine au aS [1,0,2,3] [A5] [sg pb _,B,X] rfl jl rfl (jm (a:=x.at'+1) L an K.ok.2 (fun t ht=>by have:=K.le t ht;omega) O O) ?_;rintro v I6 qs Q ap⟨A6,rfl,a4⟩;obtain⟨ta2,tc2,rfl⟩:=a4.shape;simp only[aN,aM]at Q |-;refine dB c0 ?_;refine aj Q [1,0,2,3] fun F=>?_;rw[show Syn.join ((yes.take i).foldl joinH1 []) (x.at'+1) x.cond=(yes.take (i+1)).foldl joinH1 [] from aa.symm]at a4 |-;exact ac (i+1,.slice ta2 _ tc2) _ _ bh (ft (by simp only[go_sem,Y,E,pt,cV])) (by simp only[go_sem,Y,zB]) ⟨I6,A6,rfl,F,D q ap,bb,a4⟩
 .have b5:i=yes.length:=by omega
  subst b5;have T:=Z6 yes.length;rw[dO]at L K;apply RG;simp only[go_sem,T,E,pt,cV];refine aj aS [1,0,2,3] fun Q=>?_;refine aH Q fun I6 F p a5=>?_;have hG:bK I6 vat (yes.foldl joinH1 []):=Ow.sl (R:=cI) (fun{I J c a} h k=>cI.le h k) L p a5;have G:=D y (D aq (D w (D q p)));refine dI ?_;refine au F [0,2,1] [sg pb _,X] [B] rfl b6 rfl (b4 (h.le G) hG K (he.le G) hm) ?_;rintro v I7 qs V C⟨dv2,D2,rs,rfl,cn,⟨A7,B7,vl,vg,rfl,rfl,cy,cx⟩,b2,cj⟩;simp only[aN,aM]at V |-;refine dI ?_;refine aj V [3,0,1,2,4] fun a2=>?_;refine aH a2 fun I8 a1 d a3=>?_;have cm:bK I8 vg a.f:=Ow.sl (R:=cI) (fun{I J c a} h k=>cI.le h k) cx d a3;have cr:cU I8 B (.slice ba out.length bc) out:=(hB.le (D w (D q p))).le (D C d);refine au a1 [3,0,1,2] [B] [sg pb _,D2,A7] rfl jS rfl (jT (N:=Z.length) O cr S cm b2) ?_;rintro v I9 qs U j⟨B9,rfl,cp⟩;simp only[aN,aM]at U |-;refine dI ?_;refine aj U [1,2,3,0] fun a0=>?_;refine az rfl a0 (r:=[vl,v]) rfl (D G (D C (D d j))) ⟨dv2,D2,[A7,B9],rfl,cn.le (D d j),⟨A7,B9,vl,v,rfl,rfl,cy.le (D d j),cp⟩,S.joinAll b2,cj⟩
end
open Go Go.Sx Dg Syn
def PD:ax prog 207:=⟨_,func207,rfl,rfl⟩
def HF:ax prog 137:=⟨_,func137,rfl,rfl⟩
def Pn:ax prog 139:=⟨_,func139,rfl,rfl⟩
def DO:ax prog 206:=⟨_,func206,rfl,rfl⟩
def xg:ax prog 208:=⟨_,func208,rfl,rfl⟩
section
variable {pb:Nat} {Z:List Tok} {lv fv ov:Value}
def km{l ks r:List M}(h:iq l ks=some r):∀n∈l,n.kids.length+ks.length<=ao:=by
 unfold iq at h;split at h
 .rename_i h2;intro n a;simpa using List.all_eq_true.1 h2 n a
 .cases h
def eE(l ks:List M):(give l ks).length=l.length:=by simp[give]
variable{v:Value}
def ar.sl{I J A:PH}{l:List M}(h:ar I A v l)(h1:I.le J)(h2:A.le J):bu J v l:=Ow.sl (R:=ae) (fun{I J c a} h k=>ae.le h k) h h1 h2
def cU.sl{I J A:PH}{l:ad}(h:cU I A v l)(h1:I.le J)(h2:A.le J):bK J v l:=Ow.sl (R:=cI) (fun{I J c a} h k=>cI.le h k) h h1 h2
def sI.sl{I J A:PH}{l:List ah}(h:sI I A v l)(h1:I.le J)(h2:A.le J):fH J v l:=Ow.sl (R:=dJ) (fun{I J c a} h k=>dJ.le h k) h h1 h2
variable{r:Syn.aw}{o:Nat}
theorem Uw{f:ad}(rec:Syn.fG)(hr:Syn.item Z rec true o f=some r):WF pb Z lv fv ov 207 o (fun vf=>#[pt pb,vf,E 0]) f r:=by
 unfold Syn.item at hr;simp only[co]at hr;obtain⟨g,e1,ht⟩:∃g e1,Syn.take Z (named Z f 4 0).f du=(g,e1):=⟨_,_,rfl⟩;rw[ht]at hr;simp only at hr;obtain⟨l,K,e⟩:=cN hr;cases e
 have H:=fx K;have J:=km K;subst H;clear K hr;intro I X dv vf e h hf fn he hm hd;have hl:=h.len;have t:du≠[]:=by decide
 have nl:=uY h.ok fn 4 0;have nf:=nE h.ok fn 4 0;have tf:=iS h.ok nf t;rw[ht]at tf;simp only[aE]at hm;refine aP 30 func207 fun w0=>?_
 try simp only[E,pt]
 refine ai ?_;refine au hd [0,1] [sg pb _,X] [] rfl uG rfl (uZ (kind:=4) (slot:=0) (f:=f) h hf fn he O) ?_;rintro v I2 G z j⟨dv2,D2,rs,rfl,aa,⟨A2,B2,va2,C,rfl,rfl,a1,ap⟩,_,_⟩;simp only[aN,aM,Y]at z |-;refine ai ?_;refine aj z [3,0,1,2] fun R=>?_;refine aH R fun I3 Q c an=>?_;have U:bK I3 C _:=ap.sl c an;have k3:=D j c;refine ai ?_;refine au Q [0,1,2] [sg pb _,D2] [A2] rfl oz rfl (o7 (s:=du) (h.le k3) U nf t (aa.le c) (by rw[ht];simp only[aE];omega)) ?_;rintro v I4 G y i⟨dv4,D4,rs,rfl,n,B4,rfl,p⟩;rw[ht]at n p;simp only at n p;simp only[aN,aM,Y]at y |-;refine ai ?_;refine aj y [2,0,1,3] fun P=>?_;refine aH P fun I5 N b am=>?_;have T:bK I5 v g:=p.sl b am;have k5:=D k3 (D i b);refine ai ?_;refine au N [0,1,2] [sg pb _,D4] [A2] rfl DN rfl (FF (slot:=0) (f:=g) (h.le k5) T tf (n.le b) (by simp only[aE];omega)) ?_;rintro v I6 G x w⟨dv6,D6,rs,rfl,W,⟨A6,B6,F,q,rfl,rfl,a0,ac⟩,V,_⟩;simp only[aN,aM,Y]at x |-;refine ai ?_;refine aj x [2,0,1,3,4] fun L=>?_;refine aH L fun I7 B a aS=>?_;have S:bu I7 F _:=a0.sl a aS;have u:=D c (D i (D b (D w a)));refine ai ?_;refine au B [3,0,1,2] [A2] [sg pb _,D6,B6] rfl ku rfl (kr (a1.le u) S (by unfold ao;omega) J) ?_;rintro v I8 G k d⟨A8,rfl,aq⟩;simp only[aN,aM,Y]at k |-;refine ai ?_;refine aj k [1,2,0,3] fun A=>?_;refine az rfl A (r:=[v,q]) rfl (D j (D u d)) ⟨dv6,D6,[A8,B6],rfl,?_,⟨A8,B6,v,q,rfl,rfl,aq,ac.le (D a d)⟩,V,by simp only[eE];unfold ao;omega⟩
 have:=W.le (D a d);simpa[cq]using this
theorem Xz{n:Nat}(ih:jO pb Z lv fv ov n){f:ad}(hr:Syn.run Z n (.vrb o f)=some r):mp pb Z lv fv ov (.vrb o f) r:=by
 obtain⟨m,rfl,hs⟩:=fq hr;have k:Syn.tH Z (Syn.run Z m) o f=some r:=hs;unfold Syn.tH at k;simp only at k;obtain⟨g1,e1,ht⟩:∃g e1,Syn.take Z (named Z f 2 0).f du=(g,e1):=⟨_,_,rfl⟩;rw[ht]at k;simp only at k;obtain⟨c,hc,bc⟩:=cN k;obtain⟨l1,P,bb⟩:=cN bc;obtain⟨l2,N,K⟩:=cN bb;obtain⟨g2,e2,z⟩:∃g e1,Syn.take Z c.f bO=(g,e1):=⟨_,_,rfl⟩;rw[z]at K;simp only at K;cases K
 have am:=km P;have ac:=km N;obtain rfl:=fx P;obtain rfl:=fx N;clear k bc bb hs hr P N;intro ho I X dv vf e h hf fn he hm hd;have hl:=h.len;have U:du≠[]:=by decide
 have A:bO≠[]:=by decide
 have nl:=uY h.ok fn 2 0;have nf:=nE h.ok fn 2 0;have tf:=iS h.ok nf U;rw[ht]at tf;simp only[aE]at hm;refine aP 40 func137 fun w0=>?_
 try simp only[E,pt]
 refine ai ?_;refine au hd [0,1] [sg pb _,X] [] rfl uG rfl (uZ (kind:=2) (slot:=0) (f:=f) h hf fn he O) ?_;rintro v I2 T b0 aa⟨dv2,D2,rs,rfl,cl,⟨A2,B2,va2,vb2,rfl,rfl,c0,cx⟩,_,_⟩;simp only[aN,aM,Y]at b0 |-;refine ai ?_;refine aj b0 [3,0,1,2] fun b7=>?_;refine aH b7 fun I3 b6 j cs=>?_;have cc:bK I3 vb2 _:=cx.sl j cs;have k3:=D aa j;refine ai ?_;refine au b6 [0,1,2] [sg pb _,D2] [A2] rfl oz rfl (o7 (s:=du) (h.le k3) cc nf U (cl.le j) (by rw[ht];simp only[aE];omega)) ?_;rintro v I4 T bx C⟨dv4,D4,rs,rfl,Q,B4,rfl,R⟩;rw[ht]at Q R;simp only at Q R;simp only[aN,aM,Y]at bx |-;refine ai ?_;refine aj bx [2,0,1,3] fun b5=>?_;refine aH b5 fun I5 b4 i cr=>?_;have cb:bK I5 v g1:=R.sl i cr;have k5:=D k3 (D C i);refine ai ?_;refine au b4 [0,1,2] [sg pb _,D4] [A2] rfl DN rfl (FF (slot:=0) (f:=g1) (h.le k5) cb tf (Q.le i) (by simp only[aE];omega)) ?_;rintro v I6 T bs B⟨dv6,D6,rs,rfl,cj,⟨A6,B6,va6,vb6,rfl,rfl,cB,cp⟩,cf,_⟩;simp only[aN,aM,Y]at bs |-;refine ai ?_;refine aj bs [2,0,1,3,4] fun b3=>?_;refine aH b3 fun I7 a3 b cA=>?_;have b8:bu I7 va6 _:=cB.sl b cA;refine aj a3 [2,0,1,3] fun a2=>?_;refine aH a2 fun I8 a1 a cn=>?_;have ca:bK I8 vb6 _:=cp.sl (D b a) cn;have k8:=D k5 (D B (D b a));refine ai ?_;refine au a1 [0,1,2] [sg pb _,D6] [A2] rfl HL rfl (ih m (eO m) _ _ hc ho af (h.le k8) ca cf (cj.le (D b a)) (by simp only[aE];omega)) ?_;rintro v I9 T J q⟨dv9,D9,rs,rfl,ci,⟨A9,B9,va9,vb9,rfl,rfl,cy,cm⟩,b1,_⟩
 simp only[aN,aM,Y]at J |-;have b2:=D j (D C (D i (D B (D b (D a q)))));refine ai ?_;refine au J [4,0,1,2,3] [A2] [sg pb _,D9,A9,B9] rfl ku rfl (kr (c0.le b2) (bu.le b8 (D a q)) (by unfold ao;omega) am) ?_;rintro v c5 T H w⟨A10,rfl,ba⟩;simp only[aN,aM,Y]at H |-;refine ai ?_;refine aj H [3,0,1,2,4] fun a0=>?_;refine aH a0 fun c2 aS d a9=>?_;have a4:bu c2 va9 _:=cy.sl (D w d) a9;refine ai ?_;refine au aS [0,1,2,3] [A10] [sg pb _,D9,B9] rfl ku rfl (kr (ba.le d) a4 (by rw[eE];unfold ao;omega) ac) ?_;rintro v c4 T G L⟨S,rfl,a7⟩;simp only[aN,aM,Y]at G |-;refine ai ?_;refine aj G [3,0,1,2] fun aq=>?_;refine aH aq fun c1 ap u a6=>?_;have p:=D w (D d (D L u));have a5:bK c1 vb9 _:=cm.sl p a6;have W:=D k8 (D q p);refine ai ?_;refine au ap [1,2,0] [sg pb _,D9] [S] rfl oz rfl (o7 (s:=bO) (h.le W) a5 b1 A (ci.le p) (by rw[z];simp only[aE];omega)) ?_;rintro v2 c3 T F t⟨dv14,D14,rs,rfl,x,B14,rfl,y⟩;rw[z]at x y;simp only at x y;simp only[aN,aM,Y]at F |-;refine ai ?_;refine aj F [0,1,3,2] fun an=>?_;have V:=iS h.ok b1 A;rw[z]at V;refine az rfl an (r:=[v,v2]) rfl (D W t) ⟨dv14,D14,[S,B14],rfl,?_,⟨S,B14,v,v2,rfl,rfl,a7.le (D u t),y⟩,V,by simp only[eE];unfold ao;omega⟩;simpa[cq]using x
theorem Pd{n:Nat}(ih:jO pb Z lv fv ov n){f:ad}(hr:Syn.run Z n (.function o f)=some r):mp pb Z lv fv ov (.function o f) r:=by
 obtain⟨m,rfl,hs⟩:=fq hr;have y:Syn.function Z (Syn.run Z m) o f=some r:=hs;unfold Syn.function at y;simp only at y;obtain⟨b,hb,b1⟩:=cN y;obtain⟨c,hc,b0⟩:=cN b1;obtain⟨d,b5,bx⟩:=cN b0;obtain⟨l1,P,W⟩:=cN bx;obtain⟨l2,N,V⟩:=cN W;obtain⟨l3,L,b4⟩:=cN V;cases b4
 have an:=km P;have am:=km N;have ac:=km L;obtain rfl:=fx P;obtain rfl:=fx N;obtain rfl:=fx L;clear y b1 b0 bx W V hs hr P N L;intro ho I X dv vf e h hf fn he hm hd;have hl:=h.len;have nl:=uY h.ok fn 3 0;have nf:=nE h.ok fn 3 0;simp only[aE]at hm;refine aP 47 func139 fun w0=>?_
 try simp only[E,pt]
 refine ai ?_;refine au hd [0,1] [sg pb _,X] [] rfl uG rfl (uZ (kind:=3) (slot:=0) (f:=f) h hf fn he O) ?_;rintro v I2 Q b3 aa⟨dv2,D2,rs,rfl,cx,⟨A2,B2,va2,vb2,rfl,rfl,c7,c2⟩,_,_⟩;simp only[aN,aM,Y]at b3 |-;refine ai ?_;refine aj b3 [3,0,1,2] fun cc=>?_;refine aH cc fun I3 cb s c1=>?_;have cm:bK I3 vb2 _:=c2.sl s c1;have k3:=D aa s;refine ai ?_;refine au cb [0,1,2] [sg pb _,D2] [A2] rfl DO rfl (ih m (eO m) _ _ hb ho (h.le k3) cm nf (cx.le s) (by simp only[aE];omega)) ?_;rintro v I4 Q b2 B⟨dv4,D4,rs,rfl,cs,⟨A4,B4,va4,vb4,rfl,rfl,c6,c0⟩,cp,_⟩;simp only[aN,aM,Y]at b2 |-;refine ai ?_;refine aj b2 [2,0,1,3,4] fun ca=>?_;refine aH ca fun I5 b8 l c5=>?_;have ci:bu I5 va4 _:=c6.sl l c5;refine aj b8 [2,0,1,3] fun b7=>?_;refine aH b7 fun I6 b6 k cB=>?_;have cl:bK I6 vb4 _:=c0.sl (D l k) cB;have k6:=D k3 (D B (D l k));refine ai ?_;refine au b6 [0,1,2] [sg pb _,D4] [A2] rfl HL rfl (ih m (eO m) _ _ hc ho af (h.le k6) cl cp (cs.le (D l k)) (by simp only[aE];omega)) ?_;rintro v I7 Q J u⟨dv7,D7,rs,rfl,cr,⟨A7,B7,va7,vb7,rfl,rfl,c4,cA⟩,cn,_⟩;simp only[aN,aM,Y]at J |-;refine ai ?_;refine aj J [2,0,1,3,4] fun a3=>?_;refine aH a3 fun I8 a2 i c3=>?_;have cf:bu I8 va7 _:=c4.sl i c3;refine aj a2 [2,0,1,3] fun a1=>?_;refine aH a1 fun I9 a0 g cy=>?_;have cj:bK I9 vb7 _:=cA.sl (D i g) cy;have k9:=D k6 (D u (D i g));refine ai ?_
 refine au a0 [0,1,2] [sg pb _,D7] [A2] rfl xg rfl (ih m (eO m) _ _ b5 ho (h.le k9) cj cn (cr.le (D i g)) (by simp only[aE];omega)) ?_;rintro v dd Q H j⟨dv10,z,rs,rfl,a6,⟨A10,x,R,A,rfl,rfl,bs,a7⟩,a5,_⟩;simp only[aN,aM,Y]at H |-;refine ai ?_;refine aj H [2,0,1,3,4] fun aS=>?_;refine aH aS fun c8 aq a bc=>?_;have a4:bu c8 R _:=bs.sl a bc;have U:=D s (D B (D l (D k (D u (D i (D g (D j a)))))));have T:=D k (D u (D i (D g (D j a))));have S:=D g (D j a);refine ai ?_;refine au aq [3,0,1,2] [A2] [sg pb _,z,x] rfl ku rfl (kr (c7.le U) (bu.le ci T) (by unfold ao;omega) an) ?_;rintro v dc Q G q⟨A12,rfl,bb⟩;simp only[aN,aM,Y]at G |-;refine ai ?_;refine au G [0,1,2,3] [A12] [sg pb _,z,x] rfl ku rfl (kr bb (bu.le cf (D S q)) (by rw[eE];unfold ao;omega) am) ?_;rintro v da Q F w⟨A13,rfl,ba⟩;simp only[aN,aM,Y]at F |-;refine ai ?_;refine au F [0,1,2,3] [A13] [sg pb _,z,x] rfl ku rfl (kr ba (bu.le a4 (D q w)) (by rw[eE,eE];unfold ao;omega) ac) ?_;rintro v c9 Q C K⟨A14,rfl,a9⟩;simp only[aN,aM,Y]at C |-;refine ai ?_;refine aj C [1,2,0,3] fun ap=>?_;have p:=D a (D q (D w K));refine az rfl ap (r:=[v,A]) rfl (D k9 (D j p)) ⟨dv10,z,[A14,x],rfl,?_,⟨A14,x,v,A,rfl,rfl,a9,a7.le p⟩,a5,by simp only[eE];unfold ao;omega⟩
 simpa[cq]using a6.le p
end
open Go Go.Sx Dg Syn
def DU:ax prog 270:=⟨_,func270,rfl,rfl⟩
def xJ(g:ah->Option Syn.aw)(r:Syn.aw)(h:ah):Option Syn.aw:=match g h with
 |some x=>if (r.l++x.l).length<=ao then some ⟨r.l++x.l,Syn.joinAll r.f x.f,r.e++x.e⟩else none
 |none=>none
theorem Ba(Z:List Tok)(f:ad)(g:ah->Option Syn.aw):iL Z f g=kh (xJ g) ⟨[],[],[]⟩ (ce Z f):=rfl
def xL{g:ah->Option Syn.aw}{r r':Syn.aw}{h:ah}(e:xJ g r h=some r'):∃x,g h=some x/\(r.l++x.l).length<=ao/\r'=⟨r.l++x.l,Syn.joinAll r.f x.f,r.e++x.e⟩:=by
 unfold xJ at e;split at e
 .rename_i x a;split at e
  .rename_i b;cases e
   exact⟨x,a,b,rfl⟩
  .cases e
 .cases e
def Hs{α β:Type}{g:α->β->Option α}{z r:α}{x:β}{l:List β}(e:kh g z (x::l)=some r):∃a,g z x=some a/\kh g a l=some r:=by
 unfold kh at e;split at e
 .rename_i b hb;exact⟨b,hb,e⟩
 .cases e
def zY{α β:Type}{g:α->β->Option α}{z r:α}{l:List β}{i:Nat}{x:β}(b:l[i]?=some x)(e:kh g z (l.drop i)=some r):∃c,g z x=some c/\kh g c (l.drop (i+1))=some r:=by
 have a:i<l.length:=by
  rcases aI i l.length with h|h
  .exact h
  .rw[fe h]at b;cases b
 have hd:l.drop i=x::l.drop (i+1):=by rw[js a];rw[aZ a]at b;rw[cW b]
 rw[hd]at e;exact Hs e
def xK{g:ah->Option Syn.aw}:∀{l:List ah} {z r:Syn.aw},kh (xJ g) z l=some r->z.e.length<=r.e.length
 | [],z,r,e=>by cases e;exact aR _
 |x::l,z,r,e=>by obtain⟨a,h1,h2⟩:=Hs e;obtain⟨y,_,_,rfl⟩:=xL h1;have:=xK h2;simp only[aE]at this;omega
def yJ(o:Nat)(h:o<=64):IntKind.i64.wrap (((o+1:Nat):Int)-1)=(o:Int):=by have:=fu (a:=o+1) (b:=1) O O;rw[show ((1:Nat):Int)=1 from rfl]at this;rw[this];omega
section
variable {pb:Nat} {Z:List Tok} {lv fv ov:Value}
def AR(pb:Nat)(Z:List Tok)(lv fv ov:Value)(o:Nat)(hs:List ah)(g:ah->Option Syn.aw)(r:Syn.aw)(e:List aG)(b:PH)(x:Nat×Value×Value×Value)(H:PH):Prop:=
 ∃I X A B a,H=U [I,sg pb (bN lv fv ov x.2.2.2 o),X,A,B]/\Dj [I,sg pb (bN lv fv ov x.2.2.2 o),X,A,B]/\b.le I/\x.1<=hs.length/\kh (xJ g) a (hs.drop x.1)=some r/\bj I X x.2.2.2 (e++a.e)/\ar I A x.2.1 a.l/\cU I B x.2.2.1 a.f/\FN Z.length a.f/\a.l.length<=ao
def uL(pb slot:Nat)(a:Value)(n:Nat)(x:Nat×Value×Value×Value):St:=⟨dn 63 [(0,.v (pt pb)),(2,.v (E slot)),(8,.v x.2.1),(9,.v x.2.2.1),(16,.v a),(17,.v (E n)),(18,.v (E x.1))],[]⟩
theorem Rv{n:Nat}(ih:jO pb Z lv fv ov n){o:Nat}{f:ad}{slot:Nat}{r:Syn.aw}(hr:Syn.run Z n (.inside o f slot)=some r):mp pb Z lv fv ov (.inside o f slot) r:=by
 obtain⟨m,rfl,hs⟩:=fq hr;have cc:iL Z f (rJ Z (Syn.run Z m) o slot)=some r:=hs;rw[Ba]at cc;clear hs hr;intro ho I X dv vf e h hf fn he hm hd;have hl:=h.len;refine aP 63 func270 fun w0=>?_
 try simp only[E,pt]
 refine ai ?_;refine F2 hd [0,1] rfl pS rfl (ps:=[sg pb _]) (F:=[X]) rfl (pV h hf fn) ?_;rintro v I2 qs ci G⟨rfl,hH⟩;obtain⟨ha,hc,rfl,_⟩:=id hH;simp only[aN,aM]at ci |-;refine bF ?_;have hN:∀x∈ce Z f,dp Z x:=fun x hx=>gp h.ok fn hx;have dw:=mF h.ok fn;have c4:=hH;generalize ce Z f=j at *;refine dg ci fun cB=>?_;refine dg cB fun cA=>?_;refine aj cA [2,3,0,1] fun cy=>?_;refine bY (fun x=>j.length-x.1) (uL pb slot (.slice ha j.length hc) j.length) (AR pb Z lv fv ov o j (rJ Z (Syn.run Z m) o slot) r e I2) (0,.slice none 0 0,.slice none 0 0,dv) cJ (by simp only[go_sem,Y,uL]) ?_ ?_
 .exact⟨I2,X,PH.no,PH.no,⟨[],[],[]⟩,rfl,cy,aC _,aF _,cc,by simpa using bj.le he G,Ow.nil _ _ _ _,Ow.nil _ _ _ _,FN.nil _,aF _⟩
 rintro⟨i,va,vb,dv⟩ H ⟨I3,D3,A3,B3,ri,rfl,U,p,cr,a1,hE,hA,hB,W,a2⟩ A;simp only at cr a1 hE hA hB;simp only[uL];have c3:fH I3 (.slice ha j.length hc) j:=c4.le p;rcases aI i j.length with a0|dx
 .have aq:decide ((i:Int)<(j.length:Int))=true:=by simp;omega
  have e1:=wrap64 (n:=i+1) O;have a3:IntKind.i64.wrap ((i:Int)+1)=((i+1:Nat):Int):=by rw[<-e1];congr 1
  obtain⟨x,hx⟩:∃x,j[i]?=some x:=⟨_,aZ a0⟩;have cl:=cY hx;have aS:=hN x cl;obtain⟨b,off,cs,rfl,c0,an⟩:=c3.load dJ.len hx;obtain⟨xa,xk,rfl,R⟩:=c0;obtain⟨r',cm,L⟩:=zY hx a1;have K:=xK L;obtain⟨y,hy,a5,rfl⟩:=xL cm;have h3:=h.le (D G p);simp only[aE]at K a5;refine eb aq ?_;refine⟨O,?_⟩;refine X5 (l:=[E x.at',sD xa xk x.cond,rD x.cond,.int .u8 x.kind,.string ⟨⟨x.text⟩⟩]) (v:=.agg #[E x.at',sD xa xk x.cond,rD x.cond,.int .u8 x.kind,.string ⟨⟨x.text⟩⟩]) rfl (cellsU U (.head _) an) (.inl ⟨gm,rfl⟩) ?_;unfold rJ at hy;by_cases Q:x.text=cg
  .have cb:(x.text == [40])=true:=by rw[Q];decide
   rw[ab (by simp[Q])]at hy;apply RG;simp only[go_sem,aq,E,pt,sD,rD,cb,cP];by_cases S:o=64
   .rw[ag S]at hy;cases hy
    subst S;refine au U [0,1,2,3] [sg pb _,D3] [A3,B3] rfl oB rfl (wU h3 aS.le R hE (by simp[db]at K |-;omega)) ?_;rintro v I4 qs z d⟨dv2,D4,rs,rfl,b6,rfl,rfl⟩;simp only[aN,aM]at z |-;apply RG;simp only[go_sem,E,pt,sD,rD,a3,ds];exact A (i+1,va,vb,dv2) _ _ bh cJ (by simp only[go_sem,Y,uL]) ⟨I4,D4,A3,B3,_,rfl,z,D p d,a0,L,by simp only;rw[<-cq];exact b6,by simpa using hA.le d,hB.le d,W,by simpa using a2⟩
   .rw[ab S]at hy;obtain⟨a,c1,a6⟩:=cN hy;obtain⟨g,e2,ht⟩:∃g e1,Syn.take Z a.f dm=(g,e1):=⟨_,_,rfl⟩;rw[ht]at a6;simp only at a6;cases a6
    have a7:=aS.lt (.inl (by rw[Q];decide));have dc:=wrap64 (n:=x.at'+1) O;have e2'':IntKind.i64.wrap ((x.at':Int)+1)=((x.at'+1:Nat):Int):=by rw[<-dc];congr 1
    refine au U [0,1,2,3] [sg pb _] [D3,A3,B3] rfl oB rfl (wV (h:=x) (a:=xa) (k:=xk) O) ?_;rintro v I4 qs z d⟨rfl,rfl,rfl⟩;simp only[aN,aM]at z |-;apply RG;simp only[go_sem,E,pt,sD,rD,a3,e2'',cP];refine cH z (by exact jp) rfl rfl rfl rfl rfl af fun nb I5 cx C cn=>?_;have c8:bK I5 (.slice (some ⟨nb,0,none⟩) 1 1) (bT x):=⟨_,_,rfl,.inr ⟨nb,0,[E (x.at'+1),sD xa xk x.cond,rD x.cond],rfl,bz cn (by simp[av,Value.cells]) (by simp[av,Value.cells,E,sD,rD]),.one ⟨_,_,rfl,R.le C⟩⟩⟩;refine aW ?_;simp only[cq,aE]at K hm a5;refine au cx [0,1,2,3] [sg pb _,D3] [A3,B3] rfl s0 rfl (sV (ih m (eO m) _ _ c1) O (h3.le C) c8 (eu aS a7) (hE.le C) (by simp only[aE];omega)) ?_;rintro v I6 qs cf a9⟨dv6,D6,rs,rfl,c6,⟨A6,B6,va6,vb6,rfl,rfl,da,c7⟩,cj,dT⟩;simp only[aN,aM]at cf |-;refine aW ?_;refine aj cf [2,0,1,3,4,5] fun b4=>?_;refine aH b4 fun I7 b3 w ca=>?_;have c2:bu I7 va6 a.l:=da.sl w ca;refine aj b3 [3,0,1,2,4] fun b2=>?_;have a4:=D C (D a9 w);unfold ao at a5 a2;refine fT b2 (by exact df) (hA.le a4) c2 (fun{I J c a} h k=>ae.le h k) (fun{I} c a h=>ae.len c a h) (fun{I} c a h=>ae.ones h) rfl rfl rfl rfl O (by unfold maxLen;omega) fun na nc I8 A8 b1 u c9=>?_;refine aW ?_;refine aj b1 [3,0,1,2,4] fun b0=>?_;refine aH b0 fun I9 bx q b8=>?_;have c5:bK I9 vb6 a.f:=c7.sl (D w (D u q)) b8;have k9:=D G (D p (D a4 (D u q)))
    refine au bx [1,2,0,3] [sg pb _,D6] [A8,B3] rfl oz rfl (o7 (s:=dm) (h.le k9) c5 cj af (c6.le (D w (D u q))) (by rw[ht];simp only[aE];omega)) ?_;rintro v d0 qs am T⟨dv10,D10,rs,rfl,aa,B10,rfl,ac⟩;rw[ht]at aa ac;have tf:=iS h.ok cj (s:=dm) af;rw[ht]at tf;simp only at aa ac tf;simp only[aN,aM]at am |-;refine aW ?_;refine aj am [2,0,1,3,4] fun bs=>?_;refine aH bs fun dk bc t b7=>?_;have b5:bK dk v g:=ac.sl t b7;have k311:=D a4 (D u (D q (D T t)));refine au bc [3,0,1,2] [B3] [sg pb _,D10,A8] rfl jS rfl (jT (N:=Z.length) O (hB.le k311) W b5 tf) ?_;rintro v dd qs V B⟨B12,rfl,ap⟩;simp only[aN,aM]at V |-;refine aW ?_;refine X5 (l:=[.int .i64 ((o+1:Nat):Int)]) rfl (cellsU V (.tail _ (.tail _ (.head _))) (dt (by simp[bN]) rfl)) (.inr ⟨fI,rfl⟩) ?_;apply RG;simp only[go_sem,E,pt,sD,rD,yJ o ho];refine aj V [1,2,3,0] fun bb=>?_;refine kK bb rfl rfl rfl rfl rfl (by exact r9) (by simp) fun ba=>?_;refine dB a3 ?_;obtain⟨ta,tc,rfl⟩:=ap.shape;exact A (i+1,.slice na (ri.l++a.l).length nc,.slice ta (Syn.joinAll ri.f g).length tc,dv10) _ _ bh cJ (by simp only[go_sem,Y,uL]) ⟨dd,D10,A8,B12,_,rfl,ba,D p (D k311 B),a0,L,by simpa[cq]using aa.le (D t B),ar.le c9 (D q (D T (D t B))),ap,W.joinAll tf,by simp only[aE];unfold ao;omega⟩
  .have cb:(x.text == [40])=false:=by rw[iU];exact Q
   rw[ag Q]at hy;cases hy
   apply RG;simp only[go_sem,aq,E,pt,sD,rD,cb,ds];refine au U [0,1,2,3] [sg pb _,D3] [A3,B3] rfl pR rfl (pO h3 aS.le R hE (by simp[db]at K |-;omega)) ?_;rintro v I4 qs z d⟨dv2,D4,rs,rfl,b6,rfl⟩;simp only[aN,aM]at z |-;refine dB a3 ?_;exact A (i+1,va,vb,dv2) _ _ bh cJ (by simp only[go_sem,Y,uL]) ⟨I4,D4,A3,B3,_,rfl,z,D p d,a0,L,by simp only;rw[<-cq];exact b6,by simpa using hA.le d,hB.le d,W,by simpa using a2⟩
 .have cp:i=j.length:=by omega
  subst cp;have aq:=Z6 j.length;rw[jk]at a1;cases a1
  refine eb aq ?_;exact az rfl U (r:=[va,vb]) rfl (D G p) ⟨_,D3,[A3,B3],rfl,hE,⟨A3,B3,va,vb,rfl,rfl,hA,hB⟩,W,a2⟩
end
open Go Go.Sx Dg Syn
def DI:ax prog 135:=⟨_,func135,rfl,rfl⟩
section
variable {pb:Nat} {Z:List Tok} {lv fv ov:Value}
def Cy(pb:Nat)(Z:List Tok)(lv fv ov:Value)(n:Nat)(top:Bool)(o:Nat)(f:PH)(vr:Value):Prop:=
 ∃b first cap,vr=.func (.func b) first cap/\ax prog b/\∀m,m<n->∀(x:ah) a,vz (Syn.run Z m) top o x=some a->
  ∀{I X:PH} {dv:Value} {d:Option Addr} {c:Nat} {e:List aG},f.le I->iz I Z lv fv->dp Z x->bU I (.agg #[sD d c x.cond,rD x.cond]) x.cond->bj I X dv e->e.length+a.e.length<=lV->
   aT prog b (first++[g8 d c x].toArray++cap) I [sg pb (bN lv fv ov dv o),X] (PP pb lv fv ov o (e++a.e) (ub Z a))
def Cj(pb:Nat)(Z:List Tok)(lv fv ov:Value)(o:Nat)(I:PH)(v:Value)(is:ah->Bool):Prop:=∃f first cap,v=.func (.func f) first cap/\ax prog f/\∀J,I.le J->iz J Z lv fv->∀(dv:Value) (h:ah) (a:Option Addr) (k:Nat),bU J (.agg #[sD a k h.cond,rD h.cond]) h.cond->
 aT prog f (first++[g8 a k h].toArray++cap) J [sg pb (bN lv fv ov dv o)] fun v c b=>b=[sg pb (bN lv fv ov dv o)]/\v=.bool (is h)
variable{o:Nat}
def mn.toP{I:PH}{v:Value}{is:ah->Bool}(h:mn I v is):Cj pb Z lv fv ov o I v is:=by obtain⟨f,first,cap,rfl,g,c⟩:=h;refine⟨f,first,cap,rfl,g,fun J b _ dv x a k hr hd=>?_⟩;refine((c J b x a k hr).frame (F:=[sg pb (bN lv fv ov dv o)]) hd).mono fun v H2 ⟨j,l,e1,e2,i,e,d⟩=>?_;subst e;exact⟨j,_,e1,e2,i,rfl,d⟩
structure Gb where
 m:Nat
 fl:Nat
 vf:Value
 vl:Value
 vo:Value
 dv:Value
def ym(pb:Nat)(vi vr:Value)(x:Gb):St:=⟨dn 62 [(0,.v (pt pb)),(1,.v x.vf),(2,.v vi),(3,.v vr),(10,.v x.vl),(11,.v x.vo)],[]⟩
def Left(Z:List Tok)(top:Bool)(o:Nat)(r:Syn.aw)(m:Nat)(f:ad)(l:List M)(out:ad)(ee:List aG):Prop:=
 ∃b,Syn.run Z m (.seqL top o f l out)=some b/\b.l=r.l/\b.f=r.f/\ee++b.e=r.e
def We(pb:Nat)(Z:List Tok)(lv fv ov:Value)(top:Bool)(n o:Nat)(r:Syn.aw)(e:List aG)(a:PH)(x:Gb)(H:PH):Prop:=
 ∃I X A B f l out ee,H=U [I,sg pb (bN lv fv ov x.dv o),X,A,B]/\Dj [I,sg pb (bN lv fv ov x.dv o),X,A,B]/\a.le I/\x.m<=n/\x.fl=f.length/\Left Z top o r x.m f l out ee/\
  bK I x.vf f/\FN Z.length f/\bj I X x.dv (e++ee)/\ar I A x.vl l/\cU I B x.vo out/\FN Z.length out/\l.length<=ao
def vF(pb:Nat)(vi vr:Value)(a:Value)(n:Nat)(x:Nat×Value×Value×Value×Value):St:=⟨dn 62 [(0,.v (pt pb)),(1,.v x.2.1),(2,.v vi),(3,.v vr),(10,.v x.2.2.1),(11,.v x.2.2.2.1),(23,.v a),(24,.v (E n)),(25,.v (E x.1))],[]⟩
def VF(pb:Nat)(Z:List Tok)(lv fv ov:Value)(top:Bool)(m o:Nat)(r:Syn.aw)(e:List aG)(hs:List ah)(d:PH)(g:ad)(c:List M)(a:ad)(b:List aG)(x:Nat×Value×Value×Value×Value)(H:PH):Prop:=
 ∃I X A B C f l out ee,H=U [I,sg pb (bN lv fv ov x.2.2.2.2 o),X,A,B,C]/\Dj [I,sg pb (bN lv fv ov x.2.2.2.2 o),X,A,B,C]/\d.le I/\x.1<=hs.length/\
  cU I C x.2.1 f/\FN Z.length f/\bj I X x.2.2.2.2 (e++ee)/\ar I A x.2.2.1 l/\cU I B x.2.2.2.1 out/\FN Z.length out/\l.length<=ao/\
  ((x.1=0/\f=[]/\l=c/\out=a/\ee=b)\/(0<x.1/\Left Z top o r m ((hs.drop x.1).foldl joinH f) l out ee))
variable{ee:List aG}{l:List M}{out:ad}{r:Syn.aw}{top:Bool}
def Left.le{m:Nat}{f:ad}(h:Left Z top o r m f l out ee):ee.length<=r.e.length:=by obtain⟨b,_,_,_,h⟩:=h;rw[<-h];simp
def Oz{α:Type}{l:List α}{i:Nat}{x:α}(b:l[i]?=some x):l.drop i=x::l.drop (i+1):=by
 have a:i<l.length:=by
  rcases aI i l.length with h|h
  .exact h
  .rw[fe h]at b;cases b
 rw[js a];rw[aZ a]at b;rw[cW b]
def Tb{m:Nat}{f:ad}{x:ah}{hs:List ah}(h:Left Z top o r m f l out ee)(q:ce Z f=x::hs):∃m',m=m'+1/\
  (nP Z top x=true->Left Z top o r m' (hs.foldl joinH []) l (joinH out x) ee)/\
  (nP Z top x=false->∃a,vz (Syn.run Z m') top o x=some a/\(l++a.l).length<=ao/\Left Z top o r m' (hs.foldl joinH (Syn.joinAll [] a.f)) (l++a.l) out (ee++a.e)):=by
 obtain⟨b,hb,h1,h2,h3⟩:=h;obtain⟨m',rfl,k⟩:=fq hb;have c:Syn.seqL Z (Syn.run Z m') top o f l out=some b:=k;unfold Syn.seqL at c;rw[q]at c;simp only at c;refine⟨m',rfl,fun d=>?_,fun d=>?_⟩
 .rw[d]at c;exact⟨b,c,h1,h2,h3⟩
 .rw[ab (by rw[d];simp)]at c;obtain⟨a,ha,j⟩:=cN c;obtain⟨u,p,i⟩:=cN j;obtain⟨b',n,g⟩:=cN i;cases g
  exact⟨a,ha,uy p,b',n,h1,h2,by rw[cq];exact h3⟩
def IN{m:Nat}{f:ad}(h:Left Z top o r m f l out ee)(d:ce Z f=[]):l=r.l/\out=r.f/\ee=r.e/\∃m',m=m'+1:=by
 obtain⟨b,hb,h1,h2,h3⟩:=h;obtain⟨m',rfl,c⟩:=fq hb;have a:Syn.seqL Z (Syn.run Z m') top o f l out=some b:=c;unfold Syn.seqL at a;rw[d]at a;simp only at a;cases a
 exact⟨h1,h2,by simpa using h3,m',rfl⟩
theorem EX{n:Nat}{f:ad}(hr:Syn.run Z n (.seqL top o f [] [])=some r){I X:PH}{dv vf vi vr:Value}{e:List aG}(hi:Cj pb Z lv fv ov o I vi (nP Z top))(hv:Cy pb Z lv fv ov n top o I vr)(h:iz I Z lv fv)(hf:bK I vf f)(fn:FN Z.length f)(he:bj I X dv e)(hm:e.length+r.e.length<=lV):
  aT prog 135 #[pt pb,vf,vi,vr] I [sg pb (bN lv fv ov dv o),X] (PP pb lv fv ov o (e++r.e) (ub Z r)):=by
 intro hd;have hl:=h.len;obtain⟨fr,frst,fcap,rfl,gr,cr⟩:=id hv;obtain⟨fi,Q,icap,rfl,gi,ci⟩:=id hi;refine aP 62 func135 fun w0=>?_
 try simp only[E,pt]
 refine ai ?_;refine dg hd fun c9=>?_;refine dg c9 fun c8=>?_;refine aj c8 [2,3,0,1] fun c7=>?_;refine bY (fun x=>2*x.m+min x.fl 1) (ym pb (.func (.func fi) Q icap) (.func (.func fr) frst fcap)) (We pb Z lv fv ov top n o r e I) ⟨n,f.length,vf,.slice none 0 0,.slice none 0 0,dv⟩ cJ (by simp only[go_sem,Y,ym]) ?_ ?_
 .exact⟨I,X,PH.no,PH.no,f,[],[],[],rfl,c7,aC _,aR _,rfl,⟨r,hr,rfl,rfl,rfl⟩,hf,fn,by simpa using he,Ow.nil _ _ _ _,Ow.nil _ _ _ _,FN.nil _,aF _⟩
 rintro⟨m,fl,vf,vl,vo,dv⟩ H ⟨I3,D3,A3,B3,f,l,out,ee,rfl,cc,ac,b6,rfl,hL,a9,fn3,hE,hA,hB,cm,cj⟩ aa;simp only at b6 hL a9 hE hA hB;simp only[ym];obtain⟨fa,fc,rfl,_⟩:=id a9;have h3:=h.le ac;rcases jt f.length with h0|h0
 ·
  have c4:f=[]:=List.length_eq_zero_iff.1 h0;have b4:decide ((f.length:Int)>0)=false:=by simp;omega
  obtain⟨rfl,rfl,rfl,_⟩:=IN hL (by rw[c4];rfl);refine eb b4 ?_;exact az rfl cc (r:=[vl,vo]) rfl ac ⟨_,D3,[A3,B3],rfl,hE,⟨A3,B3,vl,vo,rfl,rfl,hA,hB⟩,cm,cj⟩
 .have b4:decide ((f.length:Int)>0)=true:=by simp;omega
  refine eb b4 ?_;refine au cc [0,1,2,3] [sg pb _] [D3,A3,B3] rfl pS rfl (pV h3 a9 fn3) ?_;rintro v I4 qs cb S⟨rfl,hH⟩;obtain⟨ha,hc,rfl,_⟩:=id hH;simp only[aN,aM]at cb |-;refine dI ?_;have hN:∀x∈ce Z f,dp Z x:=fun x hx=>gp h.ok fn3 hx;have d5:=mF h.ok fn3;refine dg cb fun c6=>?_;refine aj c6 [1,2,3,4,0] fun c5=>?_;refine bY (fun x=>(ce Z f).length-x.1) (vF pb (.func (.func fi) Q icap) (.func (.func fr) frst fcap) (.slice ha (ce Z f).length hc) (ce Z f).length) (VF pb Z lv fv ov top (m-1) o r e (ce Z f) I4 f l out ee) (0,.slice none 0 0,vl,vo,dv) cJ (by simp only[go_sem,Y,vF]) ?_ ?_
  .exact⟨I4,D3,A3,B3,PH.no,[],l,out,ee,rfl,c5,aC _,aF _,Ow.nil _ _ _ _,FN.nil _,hE.le S,hA.le S,hB.le S,cm,cj,.inl ⟨rfl,rfl,rfl,rfl,rfl⟩⟩
  rintro⟨i,v1,vl,vo,dv⟩ H ⟨I5,D5,A5,B5,C5,f5,l5,P,ee5,rfl,a4,z,c0,W,fn5,V,am,L,p,C,y⟩ s;simp only at c0 W V am L y;simp only[vF];have dd:fH I5 (.slice ha (ce Z f).length hc) (ce Z f):=hH.le z;have k5:=D ac (D S z);have h5:=h.le k5;have b7:∀q:Nat,q<=ao->(q+0)*96<=140737488355328:=fun q U=>by unfold ao at U;omega
  obtain⟨m',rfl⟩:∃m',m=m'+1:=by obtain⟨b,hb,_⟩:=hL;obtain⟨m',e,_⟩:=fq hb;exact⟨m',e⟩
  have cA:=fn5.len;have cy:=p.len;rcases aI i (ce Z f).length with a3|d7
  .have aS:decide ((i:Int)<((ce Z f).length:Int))=true:=by simp;omega
   have e1:=wrap64 (n:=i+1) O;have d0:IntKind.i64.wrap ((i:Int)+1)=((i+1:Nat):Int):=by rw[<-e1];congr 1
   obtain⟨x,hx⟩:∃x,(ce Z f)[i]?=some x:=⟨_,aZ a3⟩;have cx:=cY hx;have a1:=hN x cx;have an:=a1.le;obtain⟨b,off,cs,rfl,da,aq⟩:=dd.load dJ.len hx;obtain⟨xa,xk,rfl,R⟩:=da;have ca:=Oz hx;obtain⟨c1,c2,rfl⟩:=W.shape;refine eb aS ?_;refine⟨O,?_⟩;refine X5 (l:=[E x.at',sD xa xk x.cond,rD x.cond,.int .u8 x.kind,.string ⟨⟨x.text⟩⟩]) (v:=.agg #[E x.at',sD xa xk x.cond,rD x.cond,.int .u8 x.kind,.string ⟨⟨x.text⟩⟩]) rfl (cellsU a4 (.head _) aq) (.inl ⟨gm,rfl⟩) ?_;rcases jt i with b8|b8
   .subst b8;rcases y with ⟨_,rfl,rfl,rfl,rfl⟩|⟨a6,_⟩
    .obtain⟨m2,em,sy,sn⟩:=Tb hL ca;obtain rfl:m'=m2:=by omega
     have e01:IntKind.i64.wrap ((0:Int)+1)=((1:Nat):Int):=by decide
     apply RG;simp only[go_sem,aS,E,pt,sD,rD,dL,gt_iff_lt,Int.lt_irrefl,decide_false];refine au a4 [0,1,2,3,4] [sg pb _] [D5,A5,B5,C5] rfl gi rfl (ci I5 k5 h5 dv x xa xk R) ?_;rintro v I6 qs B g⟨rfl,rfl⟩;simp only[aN,aM]at B |-;cases a2:nP Z top x
     .obtain⟨a,ha,cf,F⟩:=sn a2;have a7:=F.le;simp only[aE]at cf a7;refine dB a2 ?_;refine au B [0,1,2,3,4] [sg pb _,D5] [A5,B5,C5] rfl gr rfl (cr m' O x a ha (D k5 g) (h5.le g) a1 (R.le g) (V.le g) (by simp only[aE];omega)) ?_;rintro v I7 qs j d⟨dv7,D7,rs,rfl,dk,⟨A7,B7,va7,vb7,rfl,rfl,dx,a5⟩,cn,d9⟩;simp only[aN,aM]at j |-;refine aW ?_;refine aj j [2,0,1,3,4,5,6] fun A=>?_;refine aH A fun I8 b0 w b3=>?_;have dc:bu I8 va7 a.l:=dx.sl w b3;refine aj b0 [3,0,1,2,4,5] fun bx=>?_;have b5:=D g (D d w);unfold ao at cf C;refine fT bx (by exact df) (am.le b5) dc (fun{I J c a} h k=>ae.le h k) (fun{I} c a h=>ae.len c a h) (fun{I} c a h=>ae.ones h) rfl rfl rfl rfl O (by unfold maxLen;omega) fun na nc I9 A9 bs K dw=>?_;refine aW ?_;refine aj bs [3,0,1,2,4,5] fun bc=>?_;refine aH bc fun d4 bb u b2=>?_;have b1:bK d4 vb7 a.f:=a5.sl (D w (D K u)) b2;have k510:=D b5 (D K u);refine au bb [4,0,1,2,3] [C5] [A9,sg pb _,D7,B5] rfl jS rfl (jT (N:=Z.length) O (W.le k510) (FN.nil _) b1 cn) ?_;rintro v d3 qs ap G⟨C11,rfl,T⟩;obtain⟨d1,d2,rfl⟩:=T.shape;simp only[aN,aM]at ap |-;refine dB e01 ?_;refine aj ap [2,3,1,4,0] fun ba=>?_;have k511:=D k510 G
      exact s (0+1,.slice d1 (Syn.joinAll [] a.f).length d2,.slice na (l5++a.l).length nc,vo,dv7) _ _ bh cJ (by simp only[go_sem,Y,vF]) ⟨d3,D7,A9,B5,C11,_,_,_,_,rfl,ba,D z k511,a3,T,(FN.nil _).joinAll cn,by rw[<-cq];exact dk.le (D w (D K (D u G))),ar.le dw (D u G),L.le k511,p,by simp only[aE];unfold ao;omega,.inr ⟨by simp only;omega,F⟩⟩
     .refine dB a2 ?_;obtain⟨o1,o2,rfl⟩:=L.shape;refine au B [3,0,1,2,4] [B5] [sg pb _,D5,A5,C5] rfl jl rfl (jm (a:=x.at') (L.le g) (R.le g) p.ok.2 (fun t ht=>by have:=p.le t ht;omega) O O) ?_;rintro v I7 qs j d⟨B7,rfl,a5⟩;obtain⟨p1,p2,rfl⟩:=a5.shape;simp only[aN,aM]at j |-;refine dB e01 ?_;refine aj j [1,2,3,0,4] fun A=>?_;have a0:=D g d;exact s (0+1,.slice c1 ([]:ad).length c2,vl,.slice p1 (Syn.join P x.at' x.cond).length p2,dv) _ _ bh (ft (by simp only[go_sem,Y,E,pt,bo])) (by simp only[go_sem,Y,vF]) ⟨I7,D5,A5,B7,C5,_,_,_,_,rfl,A,D z a0,a3,W.le a0,FN.nil _,V.le a0,am.le a0,a5,p.join an a1.ok,C,.inr ⟨by simp only;omega,sy a2⟩⟩
    .omega
   .rcases y with ⟨a6,_⟩|⟨_,F⟩
    .omega
    .have dT:decide ((i:Int)>0)=true:=by simp;omega
     apply RG;simp only[go_sem,aS,E,pt,sD,rD,dT];refine au a4 [4,0,1,2,3] [C5] [sg pb _,D5,A5,B5] rfl jl rfl (jm (a:=x.at') W R fn5.ok.2 (fun t ht=>by have:=fn5.le t ht;omega) O O) ?_;rintro v I7 qs j d⟨C7,rfl,cp⟩;obtain⟨p1,p2,rfl⟩:=cp.shape;simp only[aN,aM]at j |-;refine dB d0 ?_;refine aj j [1,2,3,4,0] fun A=>?_;rw[ca,gW]at F;exact s (i+1,.slice p1 (Syn.join f5 x.at' x.cond).length p2,vl,vo,dv) _ _ bh cJ (by simp only[go_sem,Y,vF]) ⟨I7,D5,A5,B5,C7,_,_,_,_,rfl,A,D z d,a3,cp,fn5.join an a1.ok,V.le d,am.le d,L.le d,p,C,.inr ⟨by simp only;omega,F⟩⟩
  .have cB:i=(ce Z f).length:=by omega
   subst cB;have aS:decide (((ce Z f).length:Int)<((ce Z f).length:Int))=false:=by simp
   refine eb aS ?_;refine aj a4 [4,0,1,2,3] fun B=>?_;refine aH (c:=.st _) B fun I6 j d T=>?_;have cl:bK I6 v1 f5:=W.sl d T;rcases y with ⟨a6,rfl,rfl,rfl,rfl⟩|⟨a6,F⟩
   .have c3:ce Z f=[]:=List.length_eq_zero_iff.1 a6;obtain⟨e2,e3,e4,_⟩:=IN hL c3;refine aa ⟨m'+1,0,v1,vl,vo,dv⟩ _ _ bh cJ (by simp only[go_sem,Y,ym]) ⟨I6,D5,A5,B5,[],l5,P,ee5,rfl,j,D k5 d,b6,rfl,⟨⟨l5,P,[]⟩,rfl,e2,e3,by simpa using e4⟩,cl,FN.nil _,V.le d,am.le d,L.le d,p,C⟩
   .rw[jk,List.foldl_nil]at F;refine aa ⟨m',f5.length,v1,vl,vo,dv⟩ _ _ bh cJ (by simp only[go_sem,Y,ym]) ⟨I6,D5,A5,B5,f5,l5,P,ee5,rfl,j,D k5 d,by simp only;omega,rfl,F,cl,fn5,V.le d,am.le d,L.le d,p,C⟩
end
end Go.Proofs.YtfaclfkpnmcmlaaGreatDoor
