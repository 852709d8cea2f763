import Derived.Test.YtfaclfkpnmcmlaaGreatDoorT11
import Derived.Test.YtfaclfkpnmcmlaaGreatDoorT16
import Derived.Test.YtfaclfkpnmcmlaaGreatDoorT17
import Derived.Sort.AssemblyPlain
set_option maxHeartbeats 8000000
set_option linter.all false
open Go.Proofs.Tryz
namespace Go.Proofs.YtfaclfkpnmcmlaaGreatDoor
open Go Go.Sx Dg Syn
def Av:aO prog 161:=⟨_,func161,rfl,rfl⟩
def OX:aO prog 226:=⟨_,func226,rfl,rfl⟩
def QU:aO prog 227:=⟨_,func227,rfl,rfl⟩
def Hz:aO prog 232:=⟨_,func232,rfl,rfl⟩
def GT:aO prog 281:=⟨_,func281,rfl,rfl⟩
def Gb:aO prog 282:=⟨_,func282,rfl,rfl⟩
def Hp:aO prog 160:=⟨_,func160,rfl,rfl⟩
def AR:aO prog 145:=⟨_,func145,rfl,rfl⟩
def OB:aO prog 149:=⟨_,func149,rfl,rfl⟩
def Pb:aO prog 148:=⟨_,func148,rfl,rfl⟩
def bO.keep{P:Program}{f:FuncId}{args:Array Value}{I:PH}{w:Value}(h:bO P f args I fun v H2=>v=w/\H2=I):aK P f args I [] fun v I2 qs=>qs=[]/\v=w:=
 bO.toI (h.mono fun v H2 ⟨e1,e2⟩=>⟨by rw[e2];exact abW _,e1⟩)
def kL(a b:Int):Int:=if a<b then -1 else if b<a then 1 else 0
def Es(a b:bq):Int:=if zp a b=true then -1 else if zp b a=true then 1 else 0
def oH:∀(a b:bq),Op.bytesLess a b=zp a b
 |_,[]=>by simp[Op.bytesLess,zp]
 | [],_::_=>rfl
 |x::a,y::b=>by
  have ih:=oH a b;simp only[Op.bytesLess,zp,ih];by_cases h1:x.toNat<y.toNat
  ·have:x<y:=h1;simp[h1,this]
  ·have n1:¬x<y:=h1;by_cases h2:y.toNat<x.toNat
   ·have:(x == y)=false:=by
     rw[abS];intro e;rw[e]at h2;exact Nat.lt_irrefl _ h2
    simp[h1,h2,n1,this]
   ·have e:x=y:=UInt8.toNat_inj.1 ab;subst e;simp[h1]
def C4(a:Int)(H:PH):bO prog 232 #[.int .i64 a] H fun v H2=>v=.bool false/\H2=H:=by
 refine cC func232 rfl (by simp[ntmps232]) fun w0=>?_;simp only[ntmps232];apply RG;simp only[go_sem,bne_self_eq_false];exact aJ (r:=[_]) rfl ⟨rfl,rfl⟩
def GD(a:Int)(H:PH):bO prog 281 #[.int .u8 a] H fun v H2=>v=.bool false/\H2=H:=by
 refine cC func281 rfl (by simp[ntmps281]) fun w0=>?_;simp only[ntmps281];apply RG;simp only[go_sem,bne_self_eq_false];exact aJ (r:=[_]) rfl ⟨rfl,rfl⟩
def DK(a:bq)(H:PH):bO prog 282 #[.string ⟨⟨a⟩⟩] H fun v H2=>v=.bool false/\H2=H:=by
 refine cC func282 rfl (by simp[ntmps282]) fun w0=>?_;simp only[ntmps282];apply RG;simp only[go_sem,bne_self_eq_false];exact aJ (r:=[_]) rfl ⟨rfl,rfl⟩
def yt(a b:Int)(H:PH):bO prog 161 #[.int .i64 a,.int .i64 b] H fun v H2=>v=.int .i64 (kL a b)/\H2=H:=by
 refine ah 20 func161 fun w0=>?_;refine aT ?_;refine WZ rfl Hz (C4 a H) fun v H2 hv=>?_;obtain⟨rfl,rfl⟩:=hv;refine aT ?_;refine WZ rfl Hz (C4 b H2) fun v H3 hv=>?_;obtain⟨rfl,rfl⟩:=hv;by_cases h1:a<b
 ·have q1:decide (a<b)=true:=abU h1;apply RG;simp only[go_sem,q1];exact aJ (r:=[_]) rfl ⟨by simp[kL,h1,gv],rfl⟩
 ·have q1:decide (a<b)=false:=abT h1;by_cases h2:b<a
  ·have q2:decide (a>b)=true:=abU h2;apply RG;simp only[go_sem,q1,q2,abw,abK];exact aJ (r:=[_]) rfl ⟨by simp[kL,h1,h2,gv],rfl⟩
  ·have q2:decide (a>b)=false:=abT h2;apply RG;simp only[go_sem,q1,q2,abw,abQ];exact aJ (r:=[_]) rfl ⟨by simp[kL,h1,h2,gv],rfl⟩
def QJ(a b:Int)(H:PH):bO prog 226 #[.int .u8 a,.int .u8 b] H fun v H2=>v=.int .i64 (kL a b)/\H2=H:=by
 refine ah 20 func226 fun w0=>?_;refine aT ?_;refine WZ rfl GT (GD a H) fun v H2 hv=>?_;obtain⟨rfl,rfl⟩:=hv;refine aT ?_;refine WZ rfl GT (GD b H2) fun v H3 hv=>?_;obtain⟨rfl,rfl⟩:=hv;by_cases h1:a<b
 ·have q1:decide (a<b)=true:=abU h1;apply RG;simp only[go_sem,q1];exact aJ (r:=[_]) rfl ⟨by simp[kL,h1,gv],rfl⟩
 ·have q1:decide (a<b)=false:=abT h1;by_cases h2:b<a
  ·have q2:decide (a>b)=true:=abU h2;apply RG;simp only[go_sem,q1,q2,abw,abK];exact aJ (r:=[_]) rfl ⟨by simp[kL,h1,h2,gv],rfl⟩
  ·have q2:decide (a>b)=false:=abT h2;apply RG;simp only[go_sem,q1,q2,abw,abQ];exact aJ (r:=[_]) rfl ⟨by simp[kL,h1,h2,gv],rfl⟩
def MX(a b:bq)(H:PH):bO prog 227 #[.string ⟨⟨a⟩⟩,.string ⟨⟨b⟩⟩] H fun v H2=>v=.int .i64 (Es a b)/\H2=H:=by
 refine ah 20 func227 fun w0=>?_;refine aT ?_;refine WZ rfl Gb (DK a H) fun v H2 hv=>?_;obtain⟨rfl,rfl⟩:=hv;refine aT ?_;refine WZ rfl Gb (DK b H2) fun v H3 hv=>?_;obtain⟨rfl,rfl⟩:=hv;by_cases h1:zp a b=true
 ·have q1:Op.bytesLess a b=true:=by rw[oH];exact h1
  apply RG;simp only[go_sem,q1];exact aJ (r:=[_]) rfl ⟨by simp[Es,h1,gv],rfl⟩
 ·have q1:Op.bytesLess a b=false:=by rw[oH];simpa using h1
  by_cases h2:zp b a=true
  ·have q2:(a == b)=false:=by rw[abS];intro e;rw[e,yw.irr]at h2;cases h2
   apply RG;simp only[go_sem,q1,q2,abw,abK];exact aJ (r:=[_]) rfl ⟨by simp[Es,h1,h2,gv],rfl⟩
  ·have q2:(a == b)=true:=by rw[beq_iff_eq];exact yw.tri a b (by simpa using h1) (by simpa using h2)
   apply RG;simp only[go_sem,q1,q2,abw,abQ];exact aJ (r:=[_]) rfl ⟨by simp[Es,h1,h2,gv],rfl⟩
def BB:List Int->Int
 | []=>0
 |a::l=>if a=0 then BB l else a
def Qx(sv:Value)(n:Nat)(i:Nat):St:=⟨dn 18 [(3,.v (.int .i64 0)),(6,.v sv),(7,.v (iv n)),(8,.v (iv i))],[]⟩
def UD{H:PH}{b c:Nat}{zs:List Int}(h:aP H b 0 (zs.map fun z=>.int .i64 z))(hl:zs.length<=100):bO prog 160 #[.slice (some ⟨b,0,none⟩) zs.length c] H fun v H2=>v=.int .i64 (BB zs)/\H2=H:=by
 refine ah 18 func160 fun w0=>?_;refine aT ?_;refine aA (fun x=>zs.length-x) (Qx (.slice (some ⟨b,0,none⟩) zs.length c) zs.length) (fun i H2=>H2=H/\i<=zs.length/\BB (zs.drop i)=BB zs) 0 bM (by simp only[go_sem,aa6,Qx]) ⟨rfl,aaL _,rfl⟩ ?_;rintro i H2 ⟨rfl,hi,hz⟩ ac;simp only[Qx];rcases aaf i zs.length with ag|al
 ·have h9:decide ((i:Int)<(zs.length:Int))=true:=by simp;omega
  have e1:=wrap64 (n:=i+1) ab;have ak:IntKind.i64.wrap ((i:Int)+1)=((i+1:Nat):Int):=by rw[<-e1];congr 1
  obtain⟨z,hg⟩:∃z,zs[i]?=some z:=⟨_,aak ag⟩;have hd:zs.drop i=z::zs.drop (i+1):=by
   rw[aaK ag];rw[aak ag]at hg;rw[aaZ hg]
  have aa:=h.sub i 1 (by simp;omega);have hm:((zs.map fun z=>Value.int .i64 z).drop i).take 1=[.int .i64 z]:=by
   rw[<-List.map_drop,hd];rfl
  rw[hm,ZZ]at aa;rw[hd]at hz;apply RG;simp only[go_sem,h9,iv];refine⟨ab,?_⟩;refine XN (l:=[.int .i64 z]) rfl (by simpa using aa) (.inr ⟨jq,rfl⟩) ?_;by_cases h0:z=0
  ·have q:(z != 0)=false:=by simp[h0]
   apply RG;simp only[go_sem,iv,q,ak];exact ac (i+1) _ _ ab bM (by simp only[go_sem,aa6,Qx]) ⟨rfl,ag,by rw[<-hz];simp[BB,h0]⟩
  ·have q:(z != 0)=true:=by simp[h0]
   apply RG;simp only[go_sem,iv,q];exact aJ (r:=[_]) rfl ⟨by rw[<-hz];simp[BB,h0,gv],rfl⟩
 ·have aj:i=zs.length:=by omega
  subst aj;have h9:=Z6 zs.length;rw[abH]at hz;apply RG;simp only[go_sem,h9,iv];exact aJ (r:=[_]) rfl ⟨by rw[<-hz];rfl,rfl⟩
def MF(k t o g:Int)(x:bq)(ea fa:Option Addr)(en ec fn fc:Nat)(H:PH):bO prog 145 #[.agg #[.int .u8 k,.string ⟨⟨x⟩⟩,.int .i64 t,.int .i64 o,.slice ea en ec,.slice fa fn fc,.int .i64 g]] H fun v H2=>v=.agg #[.int .i64 o,.int .i64 t,.int .u8 k,.string ⟨⟨x⟩⟩]/\H2=H:=by
 refine ah 12 func145 fun w0=>?_;refine aT ?_;exact aJ (r:=[.agg #[.int .i64 o,.int .i64 t,.int .u8 k,.string ⟨⟨x⟩⟩]]) (by simp only[results145,go_sem]) ⟨rfl,rfl⟩
def Se(x y:qT):Int:=BB [kL x.slot y.slot,kL x.tok y.tok,kL x.kind y.kind,Es x.text y.text]
def rK(k:qT):Value:=.agg #[.int .i64 k.slot,.int .i64 k.tok,.int .u8 k.kind,.string ⟨⟨k.text⟩⟩]
def OK(x y:qT):decide (Se x y<0)=CW x y:=by
 unfold Se CW kL Es BB BB BB BB BB;by_cases a1:x.slot<y.slot
 ·simp[a1]
 ·by_cases a2:y.slot<x.slot
  ·simp[a1,a2]
  ·by_cases b1:x.tok<y.tok
   ·simp[a1,a2,b1]
   ·by_cases b2:y.tok<x.tok
    ·simp[a1,a2,b1,b2]
    ·by_cases c1:x.kind<y.kind
     ·simp[a1,a2,b1,b2,c1]
     ·by_cases c2:y.kind<x.kind
      ·simp[a1,a2,b1,b2,c1,c2]
      ·cases d1:zp x.text y.text<;>cases d2:zp y.text x.text<;>simp[a1,a2,b1,b2,c1,c2]
def HY(x y:qT)(I:PH):aK prog 149 #[rK x,rK y] I [] fun v I2 qs=>qs=[]/\v=.int .i64 (Se x y):=by
 intro hd;refine ah 27 func149 fun w0=>?_
 try simp only[rK]
 refine aT ?_;refine eP [0,1,2,3,5,6,7,8,10,11,12,13,15,16,17,18,4,9,14,19,20,21,22] [] [] ?_;refine gw ?_;refine cv hd rfl Av (bO.keep (yt x.slot y.slot I)) fun v I2 qs a2 al hq=>?_;obtain⟨rfl,rfl⟩:=hq;refine gw ?_;refine cv a2 rfl Av (bO.keep (yt x.tok y.tok I2)) fun v I3 qs a1 ak hq=>?_;obtain⟨rfl,rfl⟩:=hq;refine gw ?_;refine cv a1 rfl OX (bO.keep (QJ x.kind y.kind I3)) fun v I4 qs aS aj hq=>?_;obtain⟨rfl,rfl⟩:=hq;refine gw ?_;refine cv aS rfl QU (bO.keep (MX x.text y.text I4)) fun v I5 qs aq ag hq=>?_;obtain⟨rfl,rfl⟩:=hq;refine gw ?_;refine bj aq (by exact tz) rfl rfl rfl rfl rfl bg fun nb I6 ao ac am=>?_;refine gw ?_;refine cv ao rfl Hp (bO.keep (UD (zs:=[kL x.slot y.slot,kL x.tok y.tok,kL x.kind y.kind,Es x.text y.text]) (az am (by simp[aD,Value.cells]) (by simp[aD,Value.cells])) (by simp))) fun v I7 qs an aa hq=>?_;obtain⟨rfl,rfl⟩:=hq;refine gw ?_;refine aw ?_;refine aT ?_;exact af rfl an (r:=[_]) rfl (abV al (abV ak (abV aj (abV ag (abV ac aa))))) ⟨rfl,rfl⟩
def mC{α:Type}(R:PH->List Value->α->Prop)(lt:α->α->Bool)(vc:Value):Prop:=
 ∃f first cap,vc=.func (.func f) first cap/\aO prog f/\∀(J:PH) (x y:α) (cx cy:List Value),R J cx x->R J cy y->
  aK prog f (first++[Value.agg cx.toArray,Value.agg cy.toArray].toArray++cap) J [] fun v I2 qs=>qs=[]/\∃z:Int,v=.int .i64 z/\decide (z<0)=lt x y
def dp(x y:Nd):Bool:=CW x.key y.key
def HS{J:PH}{x y:Nd}{cx cy:List Value}(hx:bm J cx x)(hy:bm J cy y):aK prog 148 #[.agg cx.toArray,.agg cy.toArray] J [] fun v I2 qs=>qs=[]/\∃z:Int,v=.int .i64 z/\decide (z<0)=dp x y:=by
 intro hd;obtain⟨kv,na,nk,rfl,an,ac,a1⟩:=hx.shape;obtain⟨kv2,na2,nk2,rfl,al,aa,am⟩:=hy.shape;obtain⟨ka,kc,rfl,_⟩:=ac;obtain⟨ka2,kc2,rfl,_⟩:=aa;refine ah 10 func148 fun w0=>?_
 try simp only[sD,rD,iv]
 refine aT ?_;refine eP [0,2,1,3,4,5] [] [] ?_;refine gw ?_;refine cv hd rfl AR (bO.keep (MF _ _ _ _ _ _ _ _ _ _ _ J)) fun v I2 qs aS ak hq=>?_;obtain⟨rfl,rfl⟩:=hq;refine gw ?_;refine cv aS rfl AR (bO.keep (MF _ _ _ _ _ _ _ _ _ _ _ I2)) fun v I3 qs aq aj hq=>?_;obtain⟨rfl,rfl⟩:=hq;refine gw ?_;refine cv aq rfl OB (HY x.key y.key I3) fun v I4 qs ao ag hq=>?_;obtain⟨rfl,rfl⟩:=hq;refine gw ?_;refine aw ?_;refine aT ?_;exact af rfl ao (r:=[_]) rfl (abV ak (abV aj ag)) ⟨rfl,_,rfl,OK _ _⟩
def VO:mC bm dp (.func (.func 148) #[] #[]):=⟨148,#[],#[],rfl,Pb,fun J x y cx cy hx hy=>HS hx hy⟩
end Go.Proofs.YtfaclfkpnmcmlaaGreatDoor
namespace Syn
open Dg
mutual
def Yt:Nd->Nat
 |⟨_,_,_,_,ks,_⟩=>du ks+1
def du:List Nd->Nat
 | []=>0
 |n::l=>Yt n+du l
end
def SZ(n:Nd):Yt n=du n.kids+1:=by cases n;rfl
theorem dJ:du []=0:=rfl
def bp(n:Nd)(l:List Nd):du (n::l)=du n.kids+1+du l:=by rw[du,SZ]
def io:∀(a b:List Nd),du (a++b)=du a+du b
 | [],b=>by simp[du]
 |n::a,b=>by rw[aaz,bp,bp,io a b];omega
def oG{n:Nd}:∀{l:List Nd},n∈l->du n.kids+1<=du l
 | [],h=>(aaB h).elim
 |m::l,h=>by
  rw[bp];rcases List.mem_cons.1 h with e|e
  ·subst e;omega
  ·have:=oG e;omega
def iI:∀(l:List Nd),l.length<=du l
 | []=>ZR _
 |n::l=>by rw[bp,aaj];have:=iI l;omega
def fB{l ks:List Nd}(h:l.length<=1):du (give l ks)<=du l+du ks:=by
 match l,h with
 | [],_=>simp[give,du]
 | [n],_=>show du [_]<=_;rw[bp,bp,dJ];show du (n.kids++ks)+1+0<=_;rw[io];omega
def cw(l ks:List Nd):(give l ks).length=l.length:=by simp[give]
def Ah:∀(l:List Nd),du (slot0 l)=du l
 | []=>rfl
 |n::l=>by
  show du (_::slot0 l)=_;rw[bp,bp,Ah l]
section
variable (N:Nat)
def lf:Option Nat->Nat
 |none=>0
 |some p=>N+1-p
theorem kg:lf N none=0:=rfl
theorem iP(p:Nat):lf N (some p)=N+1-p:=rfl
def Rs(x y:Option Nat):lf N (x.or y)<=lf N x+lf N y:=by cases x<;>simp[lf]
def GZ(x:Option Nat):lf N (x.map (·+1))<=lf N x:=by
 cases x with
 |none=>exact ZR _
 |some p=>simp only[Z9,lf];omega
end
section
variable {c:bP} {ts:List Tok}
def sR(p:Option Nat):lf ts.length (p.map (nx c ts))<=lf ts.length p:=by
 cases p with
 |none=>exact ZR _
 |some p=>have:=rh c ts p;simp only[Z9,lf];omega
def lr(p:Option Nat)(is:Nat->Bool):lf ts.length (qz c ts p is)+lf ts.length (qz c ts p fun i=>!is i)<=lf ts.length p:=by
 refine ZS ?_ (sR (c:=c) p);unfold qz;cases p.map (nx c ts)with
 |none=>exact ZR _
 |some i=>cases h:is i<;>simp[Option.filter,h,lf]
variable{i:Nat}{p:Option Nat}
def Dk{is:Nat->Bool}(h:qz c ts p is=some i):is i=true:=by
 unfold qz at h;exact(Option.filter_eq_some_iff.1 h).2
def gx(h:X ts i≠[]):i<ts.length:=by
 rcases aaf i ts.length with h2|h2
 ·exact h2
 ·exact absurd (by unfold X cQ;rw[aan h2]) h
def DO(h:K ts i≠0):i<ts.length:=by
 rcases aaf i ts.length with h2|h2
 ·exact h2
 ·exact absurd (by unfold K cQ;rw[aan h2]) h
def ko(p:Option Nat)(s:bq):lf ts.length (aW ts c p s).1<=lf ts.length p:=by
 refine ZS ?_ (sR (c:=c) p);unfold aW;cases p.map (nx c ts)with
 |none=>exact ZR _
 |some i=>
  simp only;split
  ·simp only[lf];omega
  ·exact aaL _
def qf(p:Option Nat)(kind slot:Nat):du (aI ts c p kind slot).l+lf ts.length (aI ts c p kind slot).p<=lf ts.length p/\(aI ts c p kind slot).l.length<=1:=by
 have h0:=sR (c:=c) (ts:=ts) p;unfold aI;cases e:p.map (nx c ts)with
 |none=>exact⟨aaL _,aaL _⟩
 |some i=>
  rw[e]at h0;simp only;split
  ·exact⟨aaL _,aaL _⟩
  ·rename_i h;have:i<ts.length:=DO fun h2=>h (.inl (by rw[h2];decide));refine⟨?_,ZR _⟩;simp only[bp,dJ,lf]at *;omega
def yi(p:Option Nat)(slot:Nat):du (bI ts c p slot).l+lf ts.length (bI ts c p slot).p<=lf ts.length p:=by
 have h0:=sR (c:=c) (ts:=ts) p;unfold bI;cases e:p.map (nx c ts)with
 |none=>exact aaL _
 |some i=>
  rw[e]at h0;simp only;split
  ·exact aaL _
  ·rename_i h;have:i<ts.length:=gx fun h2=>h (by rw[h2];exact⟨by decide,by decide⟩);simp only[bp,dJ,lf]at *;omega
def wo{kind:Nat}{i:Option Nat}{slot:Nat}(h:∀j,i=some j->j<ts.length):du (jP kind i slot)+lf ts.length (i.map (·+1))<=lf ts.length i/\(jP kind i slot).length<=1:=by
 cases i with
 |none=>exact⟨ZR _,aaL _⟩
 |some j=>
  have:=h j rfl;refine⟨?_,ZR _⟩;show du [_]+_<=_;simp only[bp,dJ,Z9,lf];omega
def wt(N:Nat):dB->Nat
 | .line _ _ p _=>lf N p
 | .lineL _ _ _ _ l g out=>du l+(lf N g+lf N out)
 | .lineO _ _ _ op l g=>du l+(lf N op+lf N g)
 | .unary _ p _=>lf N p
 | .unaryH _ i _=>lf N i
 | .calls _ _ _ x names g=>du names+(lf N x+lf N g)
 | .inside _ p _=>lf N p
 | .listed _ _ p=>lf N p
 | .listL _ _ l g fin=>du l+(lf N g+lf N fin)
 | .item _ _ p=>lf N p
 | .behind _ _ p _ _=>lf N p
 | .vrb _ p=>lf N p
 | .function _ p=>lf N p
 | .block _ p _=>lf N p
 | .seqL _ _ p l out=>du l+(lf N p+lf N out)
 | .stmt _ i=>lf N i
 | .sCalls _ _ x l g=>du l+(lf N x+lf N g)
 | .branch _ i _=>lf N i
 | .elses _ x l out=>du l+(lf N x+lf N out)
 | .ifs _ y l out=>du l+(lf N y+lf N out)
def Lt(N:Nat)(x:Option Nat):Prop:=∀j,x=some j->j<N
def V4(N:Nat):dB->Prop
 | .lineO _ _ _ op _ _=>Lt N op
 | .calls _ _ _ x _ _=>Lt N x
 | .sCalls _ _ x _ _=>Lt N x
 | .branch _ i _=>Lt N i
 | .elses _ _ l _=>l.length<=1
 | .ifs _ y l _=>l.length<=1/\Lt N y
 |_=>True
def S4(N:Nat):dB->PR->Prop
 | .listed _ _ p,q=>∀j,p=some j->j<N->du q.l+lf N q.p+1<=lf N p
 |_,_=>True
def XE(N:Nat)(x:dB)(q:PR):Prop:=du q.l+lf N q.p<=wt N x/\S4 N x q
def sG{s:bq}(hs:s≠[]):Lt ts.length (qz c ts p (pi ts s)):=fun j h=>by
 have:=Dk h;simp only[pi,aaC]at this;exact gx (by rw[this];exact hs)
def BG{k:Nat}:Lt ts.length (qz c ts p (gK ts k)):=fun j h=>by
 have:=Dk h;simp only[gK,aao,aaC]at this;exact DO (by rw[this.1];decide)
def Lt.of(h:i<ts.length):Lt ts.length (some i):=fun j e=>by cases e;exact h
def dh{α β:Type}{a:Option α}{f:α->Option β}{q:β}(e:(a >>= f)=some q):∃x,a=some x/\f x=some q:=Option.bind_eq_some_iff.1 e
def H1{rec:oS}(R:∀x q,rec x=some q->V4 ts.length x->XE ts.length x q):∀x q,aC c ts rec x=some q->V4 ts.length x->XE ts.length x q:=by
 have R1:∀{x q},rec x=some q->V4 ts.length x->du q.l+lf ts.length q.p<=wt ts.length x:=fun h k=>(R _ _ h k).1;intro x q e hi;cases x with
 |line k o p slot=>
  refine⟨?_,trivial⟩;simp only[aC,ni]at e;split at e
  ·have:=R1 e trivial;exact this
  ·obtain⟨a,ea,e⟩:=dh e;obtain⟨b,eb,e⟩:=dh e;cases e
   have h1:=R1 ea trivial;have h2:=R1 eb trivial;simp only[wt,kg]at *;omega
 |lineL k o slot first l g out=>
  refine⟨?_,trivial⟩;simp only[aC,lP]at e;cases g with
  |none=>cases e;simp only[wt,kg];omega
  |some p=>
   simp only at e;split at e
   ·cases e;simp only[wt];omega
   ·obtain⟨a,ea,e⟩:=dh e;obtain⟨b,eb,e⟩:=dh e;cases e
    have h1:=R1 ea BG;have h2:=R1 eb trivial;have h3:=lr (c:=c) (ts:=ts) (some p) (gK ts k);simp only[wt,kg]at *;omega
 |lineO k o slot op l g=>
  refine⟨?_,trivial⟩;simp only[aC,pY]at e;cases op with
  |none=>cases e;simp only[wt,kg];omega
  |some i=>
   obtain⟨a,ea,e⟩:=dh e;cases e
   have h1:=R1 ea trivial;have h2:=hi i rfl;simp only[wt,iP,bp,dJ,io,Ah]at *;omega
 |unary o p slot=>
  refine⟨?_,trivial⟩;have h1:=R1 (x:=.unaryH o (p.map (nx c ts)) slot) e trivial;have h2:=sR (c:=c) (ts:=ts) p;simp only[wt]at *;omega
 |unaryH o i slot=>
  refine⟨?_,trivial⟩;simp only[aC,fZ]at e;cases i with
  |none=>cases e;exact ZR _
  |some i=>
   simp only at e;split at e
   ·rename_i hx;have aa:i<ts.length:=gx (by rcases hx with h|h<;>rw[h]<;>decide);split at e
    ·cases e;exact aaL _
    ·obtain⟨a,ea,e⟩:=dh e;cases e
     have h1:=R1 ea trivial;simp only[wt,iP,bp,dJ]at *;omega
   ·split at e
    ·have:=R1 e trivial;exact this
    ·split at e
     ·rename_i hx;have aa:i<ts.length:=DO (by rw[hx];decide);cases e
      simp only[wt,iP,bp,dJ]at *;omega
     ·split at e
      ·rename_i hx;have aa:i<ts.length:=gx (by rcases hx with h|h<;>rw[h]<;>decide);cases e
       simp only[wt,iP,bp,dJ]at *;omega
      ·split at e
       ·rename_i hx;have aa:i<ts.length:=gx (by rw[hx];decide);cases e
        simp only[wt,iP,bp,dJ]at *;omega
       ·obtain⟨b,eb,e⟩:=dh e;cases e
        have h1:=R1 eb (sG bg);have h2:=(qf (c:=c) (ts:=ts) (some i) 18 slot).1;have h3:=lr (c:=c) (ts:=ts) (aI ts c (some i) 18 slot).p (pi ts eM);simp only[wt]at *;omega
 |calls o i slot x names g=>
  refine⟨?_,trivial⟩;simp only[aC,nY]at e;split at e
  ·rename_i i x;obtain⟨a,ea,e⟩:=dh e;cases e
   have h1:=(R _ _ ea trivial).2 x rfl (hi x rfl);simp only[wt,bp,dJ]at *;omega
  ·cases e;simp only[wt];omega
 |inside o p slot=>
  refine⟨?_,trivial⟩;simp only[aC,il]at e;have h0:=sR (c:=c) (ts:=ts) p;cases hp:p.map (nx c ts)with
  |none=>rw[hp]at e;cases e;exact aaL _
  |some i=>
   rw[hp]at e h0;simp only at e;split at e
   ·cases e;exact aaL _
   ·split at e
    ·cases e;exact aaL _
    ·obtain⟨a,ea,e⟩:=dh e;cases e
     have h1:=R1 ea trivial;have h2:=ko (c:=c) (ts:=ts) a.p fK;simp only[wt,iP]at *;omega
 |listed par o p=>
  simp only[aC,ij]at e;have h0:=sR (c:=c) (ts:=ts) p;cases hp:p.map (nx c ts)with
  |none=>
   rw[hp]at e;cases e;refine⟨aaL _,fun j hj _=>?_⟩;rw[hj]at hp;cases hp
  |some i=>
   rw[hp]at e h0;have hz:∀j,p=some j->j<ts.length->1<=lf ts.length p:=fun j h1 h2=>by rw[h1,iP];omega
   simp only at e;split at e
   ·cases e;exact⟨aaL _,fun j h1 h2=>by simpa[ap,du,lf]using hz j h1 h2⟩
   ·rename_i hx;split at e
    ·cases e;exact⟨aaL _,fun j h1 h2=>by simpa[ap,du,lf]using hz j h1 h2⟩
    ·obtain⟨a,ea,e⟩:=dh e;cases e
     have aa:i<ts.length:=gx (by rw[Classical.not_not.1 hx];decide);have h1:=R1 ea trivial;have h2:=ko (c:=c) (ts:=ts) a.p fK;have h3:=lr (c:=c) (ts:=ts) (some (i+1)) (pi ts fK);have key:du a.l+lf ts.length (aW ts c a.p fK).1+1<=lf ts.length p:=by
      simp only[wt,iP,dJ]at *;omega
     exact⟨by simp only[wt];omega,fun _ _ _=>key⟩
 |listL par o l g fin=>
  refine⟨?_,trivial⟩;simp only[aC,oU]at e;cases g with
  |none=>cases e;simp only[wt,kg];omega
  |some p=>
   obtain⟨a,ea,e⟩:=dh e;obtain⟨b,eb,e⟩:=dh e;cases e
   have h1:=R1 ea trivial;have h2:=R1 eb trivial;have h3:=lr (c:=c) (ts:=ts) a.p (pi ts bB);have h4:=GZ ts.length (qz c ts a.p (pi ts bB));simp only[wt,io]at *;omega
 |item par o p=>
  refine⟨?_,trivial⟩;simp only[aC,ro]at e;split at e
  ·cases e
   have h1:=qf (c:=c) (ts:=ts) p 4 0;have h2:=ko (c:=c) (ts:=ts) (aI ts c p 4 0).p bA;have h3:=yi (c:=c) (ts:=ts) (aW ts c (aI ts c p 4 0).p bA).1 0;have h4:=fB (ks:=(bI ts c (aW ts c (aI ts c p 4 0).p bA).1 0).l) h1.2;have h5:=h1.1;simp only[wt]at *;omega
  ·have:=R1 e trivial;exact this
 |behind typ o p sign slot=>
  refine⟨?_,trivial⟩;simp only[aC,kh]at e;obtain⟨a,ea,e⟩:=dh e;cases e
  have h1:du a.l+lf ts.length a.p<=lf ts.length ((qz c ts p (pi ts sign)).map (·+1)):=by
   unfold fy at ea;split at ea
   ·cases ea;exact yi _ _
   ·exact R1 ea trivial
  have h3:=lr (c:=c) (ts:=ts) p (pi ts sign);have h4:=GZ ts.length (qz c ts p (pi ts sign));have h5:=Rs ts.length (qz c ts p fun i=>!pi ts sign i) a.p;simp only[wt]at *;omega
 |vrb o p=>
  refine⟨?_,trivial⟩;simp only[aC,gZ]at e;obtain⟨d,ed,e⟩:=dh e;cases e
  have h1:=qf (c:=c) (ts:=ts) p 2 0;have h2:=ko (c:=c) (ts:=ts) (aI ts c p 2 0).p bA;have h3:=yi (c:=c) (ts:=ts) (aW ts c (aI ts c p 2 0).p bA).1 0;have h4:=fB (ks:=(bI ts c (aW ts c (aI ts c p 2 0).p bA).1 0).l) h1.2;have h5:=h1.1;have h6:=R1 ed trivial;have h7:=fB (l:=give (aI ts c p 2 0).l (bI ts c (aW ts c (aI ts c p 2 0).p bA).1 0).l) (ks:=d.l) (by rw[cw];exact h1.2);have h8:=ko (c:=c) (ts:=ts) d.p a8;simp only[wt]at *;omega
 |function o p=>
  refine⟨?_,trivial⟩;simp only[aC,gY]at e;obtain⟨b,eb,e⟩:=dh e;obtain⟨d,ed,e⟩:=dh e;obtain⟨f,ef,e⟩:=dh e;cases e
  have h1:=qf (c:=c) (ts:=ts) p 3 0;have h2:=R1 eb trivial;have h3:=R1 ed trivial;have h4:=R1 ef trivial;have h5:=fB (ks:=b.l) h1.2;have h6:=fB (l:=give (aI ts c p 3 0).l b.l) (ks:=d.l) (by rw[cw];exact h1.2);have h7:=fB (l:=give (give (aI ts c p 3 0).l b.l) d.l) (ks:=f.l) (by rw[cw,cw];exact h1.2);have h8:=h1.1;simp only[wt]at *;omega
 |block o p slot=>
  refine⟨?_,trivial⟩;simp only[aC,jI]at e;have h0:=sR (c:=c) (ts:=ts) p;cases hp:p.map (nx c ts)with
  |none=>rw[hp]at e;cases e;exact aaL _
  |some i=>
   rw[hp]at e h0;simp only at e;split at e
   ·cases e;exact aaL _
   ·rename_i hx;have aa:i<ts.length:=gx (by rw[Classical.not_not.1 hx];decide);split at e
    ·cases e;exact aaL _
    ·obtain⟨a,ea,e⟩:=dh e;cases e
     have h1:=R1 ea trivial;have h2:=ko (c:=c) (ts:=ts) a.p qD;simp only[wt,iP,kg,bp,dJ]at *;omega
 |seqL top o p l out=>
  refine⟨?_,trivial⟩;simp only[aC,nE]at e;have h0:=sR (c:=c) (ts:=ts) p;cases hp:p.map (nx c ts)with
  |none=>rw[hp]at e;cases e;simp only[wt];omega
  |some i=>
   rw[hp]at e h0;simp only at e;split at e
   ·cases e;simp only[wt];omega
   ·obtain⟨a,ea,e⟩:=dh e;obtain⟨b,eb,e⟩:=dh e;cases e
    have h1:du a.l+lf ts.length a.p<=lf ts.length (some i):=by
     unfold md at ea;split at ea
     ·unfold vF at ea;split at ea
      ·have:=R1 ea trivial;simp only[wt,iP]at *;omega
      ·split at ea
       ·have:=R1 ea trivial;simp only[wt,iP]at *;omega
       ·cases ea;exact aaL _
     ·exact R1 ea trivial
    have h2:=R1 eb trivial;simp only[wt,kg,io]at *;omega
 |stmt o i=>
  refine⟨?_,trivial⟩;simp only[aC,gM]at e;cases i with
  |none=>cases e;exact ZR _
  |some i=>
   simp only at e;split at e
   ·have:=R1 e trivial;simp only[wt,iP]at *;omega
   ·split at e
    ·rename_i hx;have:=R1 e (show V4 ts.length (.branch o (some i) 0) from Lt.of (gx (by rw[hx];decide)));exact this
    ·split at e
     ·rename_i hx;have aa:i<ts.length:=gx (by rw[hx];decide);obtain⟨a,ea,e⟩:=dh e;obtain⟨b,eb,e⟩:=dh e;cases e
      have h0:=wo (kind:=9) (slot:=0) (Lt.of aa);have h1:=R1 ea trivial;have h2:=R1 eb trivial;have h3:=fB (ks:=a.l) h0.2;have h4:=fB (l:=give (jP 9 (some i) 0) a.l) (ks:=b.l) (by rw[cw];exact h0.2);have h5:=h0.1;simp only[wt,Z9]at *;omega
     ·split at e
      ·have:=R1 e trivial;exact this
      ·split at e
       ·rename_i hx;have aa:i<ts.length:=gx (by rw[hx];decide);obtain⟨a,ea,e⟩:=dh e;cases e
        have h0:=wo (kind:=10) (slot:=0) (Lt.of aa);have h1:=R1 ea trivial;have h3:=fB (ks:=a.l) h0.2;have h5:=h0.1;have h6:=lr (c:=c) (ts:=ts) (some (i+1)) (pi ts a8);have h7:=Rs ts.length a.p (qz c ts (some (i+1)) (pi ts a8));have h8:=ko (c:=c) (ts:=ts) (a.p.or (qz c ts (some (i+1)) (pi ts a8))) a8;simp only[wt,Z9]at *;omega
       ·split at e
        ·rename_i hx;have aa:i<ts.length:=gx (by rcases hx with h|h<;>rw[h]<;>decide);obtain⟨a,ea,e⟩:=dh e;cases e
         have h0:=wo (kind:=if X ts i=ew then 12 else 11) (slot:=0) (Lt.of aa);have h1:=R1 ea trivial;have h3:=fB (ks:=a.l) h0.2;have h5:=h0.1;have h8:=ko (c:=c) (ts:=ts) a.p a8;simp only[wt,Z9]at *;omega
        ·obtain⟨b,eb,e⟩:=dh e;obtain⟨d,ed,e⟩:=dh e;cases e
         have h0:=qf (c:=c) (ts:=ts) (some i) 7 0;have h1:=R1 eb trivial;have h2:=R1 ed (sG bg);have h3:=fB (ks:=b.l) h0.2;have h4:=lr (c:=c) (ts:=ts) (aI ts c (some i) 7 0).p (pi ts eM);have h5:=ko (c:=c) (ts:=ts) (qz c ts (aI ts c (some i) 7 0).p fun i=>!pi ts eM i) su;have h6:=ko (c:=c) (ts:=ts) d.p a8;have h7:=h0.1;simp only[wt]at *;omega
 |sCalls o i x l g=>
  refine⟨?_,trivial⟩;simp only[aC,lu]at e;split at e
  ·rename_i i x;obtain⟨a,ea,e⟩:=dh e;cases e
   have h1:=(R _ _ ea trivial).2 x rfl (hi x rfl);simp only[wt,bp,dJ]at *;omega
  ·cases e;simp only[wt];omega
 |branch o i slot=>
  refine⟨?_,trivial⟩;simp only[aC,ku]at e;obtain⟨a,ea,e⟩:=dh e;obtain⟨b,eb,e⟩:=dh e;obtain⟨d,ed,e⟩:=dh e;cases e
  have h0:=wo (kind:=8) (slot:=slot) hi;have h1:=R1 ea trivial;have h2:=R1 eb trivial;have h3:=R1 ed (show (give (give (jP 8 i slot) a.l) b.l).length<=1 by rw[cw,cw];exact h0.2);have h4:=fB (ks:=a.l) h0.2;have h5:=fB (l:=give (jP 8 i slot) a.l) (ks:=b.l) (by rw[cw];exact h0.2);have h6:=lr (c:=c) (ts:=ts) b.p (pi ts dr);have h7:=h0.1;simp only[wt]at *;omega
 |elses o x l out=>
  refine⟨?_,trivial⟩;simp only[aC,nP]at e;cases x with
  |none=>cases e;simp only[wt,kg];omega
  |some j=>
   obtain⟨a,ea,e⟩:=dh e;obtain⟨b,eb,e⟩:=dh e;cases e
   have h1:=R1 ea trivial;have h2:=R1 eb ⟨by rw[cw];exact hi,sG bg⟩;have h3:=fB (ks:=a.l) hi;have h4:=lr (c:=c) (ts:=ts) (some (j+1)) (pi ts kT);simp only[wt,iP]at *;omega
 |ifs o y l out=>
  refine⟨?_,trivial⟩;simp only[aC,BV]at e;cases y with
  |none=>cases e;simp only[wt,kg];omega
  |some j=>
   simp only at e;split at e
   ·cases e;simp only[wt];omega
   ·obtain⟨a,ea,e⟩:=dh e;cases e
    have h1:=R1 ea hi.2;have h3:=fB (ks:=a.l) hi.1;simp only[wt]at *;omega
def CZ:∀n x q,bS c ts n x=some q->V4 ts.length x->XE ts.length x q
 |0,x,q,e,_=>by cases e
 |n+1,x,q,e,h=>H1 (fun x q e h=>CZ n x q e h) x q e h
end
def vR(f:bP->Nat):Nat->bP->Nat
 |0,c=>f c
 |n+1,c=>vR f n (AT c n false)+vR f n (AT c n true)
def wG{f g h:bP->Nat}(e:∀c,h c=f c+g c):∀(n:Nat) (c:bP),vR h n c=vR f n c+vR g n c
 |0,c=>e c
 |n+1,c=>by simp only[vR,wG e n];omega
def Ca{f:bP->Nat}{M:Nat}(h:∀c,f c<=M):∀(n:Nat) (c:bP),vR f n c<=2^n*M
 |0,c=>by simpa[vR]using h c
 |n+1,c=>by simp only[vR];have:=Ca h n (AT c n false);have:=Ca h n (AT c n true);rw[abd,Nat.mul_assoc,Nat.mul_comm (2^n),Nat.mul_assoc,Nat.mul_comm M];omega
def CK(S:bP->Bool):∀(n:Nat) (c:bP),vR (fun c=>(S c).toNat) n c=AZ S n c
 |0,c=>rfl
 |n+1,c=>by simp only[vR,AZ,CK S n]
mutual
def Zd:Nd->Prop
 |⟨_,_,_,_,ks,d⟩=>d≠ff/\Uf ks
def Uf:List Nd->Prop
 | []=>True
 |n::l=>Zd n/\Uf l
end
def GH{c:bP}{d:T}{l:List Nd}(h:wL d l)(hc:d.at' c=false):pL c l=[]:=Bi fun n hn=>by
 cases e:n.cond.at' c with
 |false=>rfl
 |true=>have:=(Fy.1 h n hn).1 c e;rw[hc]at this;cases this
def yr:∀(l:List Nd) (d:T),iE l->wL d l->Uf l->du l<=vR (fun c=>du (pL c l)) 24 (fun _=>false)
 | [],_,_,_,_=>aaL _
 |⟨k,t,o,s,ks,e⟩::l,d,ho,hw,hn=>by
  have h1:=yr ks e ho.1.2 hw.1.2 hn.1.2;have h2:=yr l d ho.2 hw.2 hn.2;have h3:=T.card_pos ho.1.1 hn.1.1;have e1:∀c,du (pL c (⟨k,t,o,s,ks,e⟩::l))=((e.at' c).toNat+du (pL c ks))+du (pL c l):=fun c=>by
   rw[cM];cases hc:e.at' c with
   |true=>
    rw[aaq rfl,bp];show du (pL c ks)+1+_=1+du (pL c ks)+_;omega
   |false=>
    rw[ZV bg,GH hw.1.2 hc];show _=0+0+_;omega
  rw[wG e1,wG (fun c=>rfl),CK,bp];unfold T.card at h3;show du ks+1+du l<=_;omega
def xQ:∀(l:List Nd) (d:T),Uf (nX d l)
 | [],d=>trivial
 |⟨k,t,o,s,ks,e⟩::l,d=>by
  rw[qe];split
  ·exact xQ l d
  ·rename_i h;exact⟨⟨h,xQ ks (e.and d)⟩,xQ l d⟩
def Tk:Nat:=2^24*16386
def Lh{ts:List Tok}(ac:bT ts)(hl:ts.length<=16384){w:T}(hw:w.ok 0)(ag:w≠ff){n:Nat}{r:bW}(e:run ts n (.seqL true 0 [(0,w)] [] [])=some r):du (pI r)<=Tk:=by
 have hr:=jR ac hw ag e (fun _=>false);obtain⟨_,_,RR0⟩:=hr;obtain⟨o1,o2⟩:=E7 RR0.fok RR0.lok;by_cases hg:ii r.f=ff
 ·have hc:=(sS (c:=fun _=>false) RR0.fok).1;have e1:nX (ii r.f) r.l=[]:=by
   cases h:nX (ii r.f) r.l with
   |nil=>rfl
   |cons n l=>
    exfalso;obtain⟨a1,a2,a3,_⟩:=mY r.l (ii r.f) hc RR0.lok;rw[h]at a1 a2 a3;have hn:n.cond.ok 0:=(fW.1 a1.1).1;obtain⟨x,hx⟩:=T.some_of_ne hn (a3 n (.head _));have:=a2.1.1 x hx;rw[hg]at this;cases this
  unfold pI;rw[e1];simp only[bp,dJ];unfold Tk;omega
 have aa:Uf (pI r):=⟨⟨hg,xQ _ _⟩,trivial⟩;refine ZS (yr (pI r) tt o1 ⟨⟨fun _ _=>rfl,o2 _ (.head _)⟩,trivial⟩ aa) (Ca (fun c=>?_) 24 _);obtain⟨q,hq,R⟩:=jR ac hw ag e c;rw[Nm R.fok R.lok R.f];obtain⟨m,hm⟩:=hq;have h1:=(CZ m _ _ hm trivial).1;have h2:lf ts.length (if w.at' c then some 0 else none)<=ts.length+1:=by split<;>simp[lf]
 simp only[wt,kg,dJ]at h1;rw[R.l];split
 ·rw[bp,dJ];show du q.l+1+0<=_;omega
 ·exact aaL _
open Dg
def gB(l:List Nd)(k:qT):Nd:=⟨k.kind,k.text,k.tok,k.slot,cZ l k,ib l k⟩
def tP:List Nd->Nd->List Nd
 | [],n=>[n]
 |m::out,n=>if m.key=n.key then { m with kids:=m.kids++n.kids,cond:=m.cond.or n.cond }::out else m::tP out n
def vK(out:List Nd)(n:Nd):List Nd:=if n.cond=ff then out else tP out n
def sE:∀{out:List Nd} {n:Nd},(∀m∈out,m.key≠n.key)->tP out n=out++[n]
 | [],n,_=>rfl
 |m::out,n,h=>by
  rw[tP,ZV (h m (.head _)),sE fun x hx=>h x (.tail _ hx)];rfl
def wr:∀{out:List Nd} {n m:Nd} {i:Nat},out.Pairwise (fun a b=>a.key≠b.key)->out[i]?=some m->m.key=n.key->tP out n=out.set i { m with kids:=m.kids++n.kids,cond:=m.cond.or n.cond }
 | [],n,m,i,_,h,_=>by simp at h
 |x::out,n,m,0,hp,h,hk=>by
  simp only[abh,ZW]at h;subst h;rw[tP,aaq hk];rfl
 |x::out,n,m,i+1,hp,h,hk=>by
  simp only[abi]at h;have h1:=(List.pairwise_cons.1 hp).1 m (aaV h);rw[tP,ZV (by rw[<-hk];exact h1),wr (List.pairwise_cons.1 hp).2 h hk];rfl
def oW(p:List Nd)(n:Nd)(k:qT):cZ (p++[n]) k=cZ p k++if fY k n then n.kids else []:=by
 unfold cZ;rw[List.filter_append,abk];congr 1;cases h:fY k n<;>simp[aby,h]
def pz(p:List Nd)(n:Nd)(k:qT):ib (p++[n]) k=if fY k n then (ib p k).or n.cond else ib p k:=by
 unfold ib;rw[List.filter_append,abM];cases h:fY k n<;>simp[aby,h]
variable{p:List Nd}
def DW{k:qT}(h:∀n∈p,n.cond≠ff->n.key≠k):ib p k=ff/\cZ p k=[]:=by
 have:p.filter (fY k)=[]:=List.filter_eq_nil_iff.2 fun n hn hm=>by
  simp only[fY,aao,aaC]at hm;exact h n hn hm.2 hm.1
 unfold ib cZ;rw[this];exact⟨rfl,rfl⟩
def VL{a:T}(h:a.ok 0):T.or ff a=a:=T.ext (T.or_ok (show (ff:T).ok 0 from trivial) h) h fun c=>by
 rw[T.or_at (show (ff:T).ok 0 from trivial) h,BL,abw]
structure HX(p out:List Nd):Prop where
 dist:out.Pairwise (fun a b=>a.key≠b.key)
 node:∀m∈out,m=gB p m.key
 has:∀n∈p,n.cond≠ff->∃m∈out,m.key=n.key
 from':∀m∈out,∃n∈p,n.cond≠ff/\n.key=m.key
def HX.nil:HX [] []:=⟨List.Pairwise.nil,fun _ h=>(aaB h).elim,fun _ h=>(aaB h).elim,fun _ h=>(aaB h).elim⟩
def od{n:Nd}{k:qT}(h:n.cond=ff\/n.key≠k):gB (p++[n]) k=gB p k:=by
 have:fY k n=false:=by
  rcases h with h|h<;>simp[fY,h]
 unfold gB;rw[oW,pz,this];simp
theorem HX.step{out:List Nd}{n:Nd}(h:HX p out)(hn:n.cond.ok 0):HX (p++[n]) (vK out n):=by
 unfold vK;split
 ·rename_i aq;refine⟨h.dist,fun m hm=>by rw[od (.inl aq)];exact h.node m hm,fun x hx aj=>?_,fun m hm=>?_⟩
  ·rcases List.mem_append.1 hx with e|e
   ·exact h.has x e aj
   ·rw[List.mem_singleton.1 e]at aj;exact absurd aq aj
  ·obtain⟨x,hx,k⟩:=h.from' m hm;exact⟨x,aau _ hx,k⟩
 ·rename_i aj;by_cases aS:∃m∈out,m.key=n.key
  ·obtain⟨m,hm,hk⟩:=aS;obtain⟨i,hi⟩:=List.mem_iff_getElem?.1 hm;rw[wr h.dist hi hk];have am:=(List.getElem?_eq_some_iff.1 hi).1;have emine:fY n.key n=true:=by simp[fY,aj]
   have em:({ m with kids:=m.kids++n.kids,cond:=m.cond.or n.cond }:Nd)=gB (p++[n]) n.key:=by
    have e1:=h.node m hm;rw[hk]at e1;have e2:m.kids=cZ p n.key:=by rw[e1];rfl
    have e3:m.cond=ib p n.key:=by rw[e1];rfl
    have e4:gB (p++[n]) n.key=⟨n.key.kind,n.key.text,n.key.tok,n.key.slot,cZ p n.key++n.kids,(ib p n.key).or n.cond⟩:=by
     unfold gB;rw[oW,pz,aaq emine,aaq emine]
    rw[e4,<-e2,<-e3,<-hk];rfl
   have ag:∀{x:Nd} {j:Nat},(out.set i { m with kids:=m.kids++n.kids,cond:=m.cond.or n.cond })[j]?=some x->j=i/\x={ m with kids:=m.kids++n.kids,cond:=m.cond.or n.cond }\/j≠i/\out[j]?=some x:=fun{x j} e=>by
    rw[aaY]at e;split at e
    ·rename_i an
     first
      |exact .inl ⟨an.symm,(aaZ e).symm⟩
      |(rw[aaq am]at e;exact .inl ⟨an.symm,(aaZ e).symm⟩)
    ·rename_i an;exact .inr ⟨fun e2=>an e2.symm,e⟩
   have ac:∀{x y:Nd} {j l:Nat},out[j]?=some x->out[l]?=some y->j≠l->x.key≠y.key:=fun{x y j l} h1 h2 h3=>by
    obtain⟨a1,rfl⟩:=List.getElem?_eq_some_iff.1 h1;obtain⟨a2,rfl⟩:=List.getElem?_eq_some_iff.1 h2;rcases Nat.lt_or_gt_of_ne h3 with am|a5
    ·exact List.pairwise_iff_getElem.1 h.dist j l a1 a2 am
    ·exact fun e=>List.pairwise_iff_getElem.1 h.dist l j a2 a1 a5 e.symm
   refine⟨?_,fun x hx=>?_,fun x hx aa=>?_,fun x hx=>?_⟩
   ·refine List.pairwise_iff_getElem.2 fun j l hj hl a6=>?_;have g1:=ag (aak hj);have g2:=ag (aak hl);rcases g1 with ⟨a,b⟩|⟨a,b⟩<;>rcases g2 with ⟨c,d⟩|⟨c,d⟩
    ·omega
    ·rw[b];exact(ac (x:=m) hi d ab:m.key≠_)
    ·rw[d];exact(ac (y:=m) b hi ab:_≠m.key)
    ·exact ac b d ab
   ·obtain⟨j,hj⟩:=List.mem_iff_getElem?.1 hx;rcases ag hj with ⟨a,b⟩|⟨a,b⟩
    ·have:x.key=n.key:=by rw[b];exact hk
     rw[this,b,em]
    ·rw[od (.inr fun e=>ac hi b ab (by rw[hk,e]))];exact h.node x (aaV b)
   ·have put:∀y∈out,∃z∈out.set i { m with kids:=m.kids++n.kids,cond:=m.cond.or n.cond },z.key=y.key:=fun y hy=>by
     obtain⟨j,hj⟩:=List.mem_iff_getElem?.1 hy;by_cases e:j=i
     ·subst e;rw[hi]at hj;cases hj
      exact⟨{ m with kids:=m.kids++n.kids,cond:=m.cond.or n.cond },List.mem_iff_getElem?.2 ⟨j,List.getElem?_set_self am⟩,rfl⟩
     ·exact⟨y,List.mem_iff_getElem?.2 ⟨j,by rw[List.getElem?_set_ne (fun e2=>e e2.symm)];exact hj⟩,rfl⟩
    rcases List.mem_append.1 hx with e|e
    ·obtain⟨y,hy,a3⟩:=h.has x e aa;obtain⟨z,hz,ao⟩:=put y hy;exact⟨z,hz,ao.trans a3⟩
    ·rw[List.mem_singleton.1 e];obtain⟨z,hz,ao⟩:=put m hm;exact⟨z,hz,ao.trans hk⟩
   ·obtain⟨j,hj⟩:=List.mem_iff_getElem?.1 hx;rcases ag hj with ⟨a,b⟩|⟨a,b⟩
    ·exact⟨n,aav _ (.head _),aj,by rw[b];exact hk.symm⟩
    ·obtain⟨y,hy,k⟩:=h.from' x (aaV b);exact⟨y,aau _ hy,k⟩
  ·have al:∀m∈out,m.key≠n.key:=fun m hm e=>aS ⟨m,hm,e⟩;rw[sE al];have emine:fY n.key n=true:=by simp[fY,aj]
   have ak:∀x∈p,x.cond≠ff->x.key≠n.key:=fun x hx aa e=>by
    obtain⟨m,hm,a4⟩:=h.has x hx aa;exact al m hm (a4.trans e)
   obtain⟨c1,c2⟩:=DW ak;refine⟨List.pairwise_append.2 ⟨h.dist,aaW _ _,fun a ha b hb=>by rw[List.mem_singleton.1 hb];exact al a ha⟩,fun m hm=>?_,fun x hx aa=>?_,fun m hm=>?_⟩
   ·rcases List.mem_append.1 hm with e|e
    ·rw[od (.inr fun e2=>al m e e2.symm)];exact h.node m e
    ·rw[List.mem_singleton.1 e];unfold gB;rw[oW,pz,aaq emine,aaq emine,c1,c2,VL hn,aaA];cases n;rfl
   ·rcases List.mem_append.1 hx with e|e
    ·obtain⟨m,hm,k⟩:=h.has x e aa;exact⟨m,aau _ hm,k⟩
    ·exact⟨n,aav _ (.head _),by rw[List.mem_singleton.1 e]⟩
   ·rcases List.mem_append.1 hm with e|e
    ·obtain⟨x,hx,k⟩:=h.from' m e;exact⟨x,aau _ hx,k⟩
    ·exact⟨n,aav _ (.head _),aj,by rw[List.mem_singleton.1 e]⟩
def HX.of{l:List Nd}(h:∀n∈l,n.cond.ok 0):∀i,i<=l.length->HX (l.take i) ((l.take i).foldl vK [])
 |0,_=>HX.nil
 |i+1,hi=>by
  have aa:i<l.length:=by omega
  rw[aaM aa,abM];exact(HX.of h i ab).step (h _ (List.getElem_mem aa))
def yx(d:Nat)(l:List Nd):mL (d+1) l=((ks l).map (gB l)).map fun m=>{ m with kids:=mL d m.kids }:=by
 rw[mL,aas];rfl
def Ni:∀(K:List qT) (l:List Nd),K.Pairwise (fun a b=>a≠b)->(∀k∈K,∃n∈l,n.key=k/\n.cond≠ff)->du (K.map (gB l))<=du l
 | [],l,_,_=>aaL _
 |k::K,l,h,ac=>by
  have h2:=List.pairwise_cons.1 h;obtain⟨n0,ag,aj,ak⟩:=ac k (.head _);have e1:∀(l:List Nd),du l=du (l.filter fun n=>decide (n.key=k))+du (l.filter fun n=>!decide (n.key=k)):=fun l=>by
   induction l with
   |nil=>rfl
   |cons n l ih=>cases hn:decide (n.key=k)<;>simp[aby,hn,bp]<;>omega
  have e2:∀(l:List Nd),du (cZ l k)+((l.filter (fY k)).length)<=du (l.filter fun n=>decide (n.key=k)):=fun l=>by
   induction l with
   |nil=>exact ZR _
   |cons n l ih=>
    unfold cZ at ih |-;by_cases hn:n.key=k
    ·by_cases hc:n.cond=ff
     ·have m1:fY k n=false:=by simp[fY,hc]
      simp only[aby,m1,hn,decide_true,ZT,aa5,Z2,bp];omega
     ·have m1:fY k n=true:=by simp[fY,hn,hc]
      simp only[aby,m1,hn,decide_true,ZT,abg,io,aaj,bp];omega
    ·have m1:fY k n=false:=by simp[fY,hn]
     simp only[aby,m1,hn,decide_false,aa5,Z2];exact ih
  have e3:1<=(l.filter (fY k)).length:=by
   have:n0∈l.filter (fY k):=List.mem_filter.2 ⟨ag,by simp[fY,aj,ak]⟩;exact List.length_pos_of_mem this
  have e4:∀k'∈K,cZ (l.filter fun n=>!decide (n.key=k)) k'=cZ l k':=fun k' aa=>by
   unfold cZ;rw[List.filter_filter];congr 1;refine List.filter_congr fun n _=>?_;have:=h2.1 k' aa;by_cases e:n.key=k'
   ·have h3:n.key≠k:=fun e2=>this (e2.symm.trans e);simp[fY,e,show k'≠k from fun e2=>this e2.symm]
   ·simp[fY,e]
  have h5:=Ni K (l.filter fun n=>!decide (n.key=k)) h2.2 fun k' aa=>by
   obtain⟨n,hn,hk,hc⟩:=ac k' (.tail _ aa);refine⟨n,List.mem_filter.2 ⟨hn,?_⟩,hk,hc⟩;have:=h2.1 k' aa;rw[hk];simp only[aay,abp];exact fun e=>this e.symm
  have e5:du (K.map (gB l))=du (K.map (gB (l.filter fun n=>!decide (n.key=k)))):=by
   clear h5 h h2 ac
   induction K with
   |nil=>rfl
   |cons x K ih=>
    rw[aaU,aaU,bp,bp,ih fun k' aa=>e4 k' (.tail _ aa)];show du (cZ l x)+1+_=du (cZ _ x)+1+_;rw[e4 x (.head _)]
  have e6:=e1 l;have e7:=e2 l;rw[aaU,bp,e5];show du (cZ l k)+1+_<=_;omega
def GK{f:List Nd->List Nd}:∀{L:List Nd},(∀n∈L,du (f n.kids)<=du n.kids)->du (L.map fun m=>{ m with kids:=f m.kids })<=du L
 | [],_=>ZR _
 |n::L,h=>by
  rw[aaU,bp,bp];have h1:=h n (.head _);have h2:=GK (f:=f) (L:=L) fun m hm=>h m (.tail _ hm);show du (f n.kids)+1+_<=_;omega
def Hu(l:List Nd):(ks l).Pairwise (fun a b=>a≠b):=(eV jZ _).imp fun{a b} h e=>by rw[e,jZ.irr]at h;cases h
def Af(l:List Nd):du ((ks l).map (gB l))<=du l:=Ni _ l (Hu l) fun k hk=>by
 obtain⟨n,h1,h2,h3⟩:=um.1 hk;exact⟨n,h1,h2,h3⟩
def HA:∀(d:Nat) (l:List Nd),du (mL d l)<=du l
 |0,l=>aaL _
 |d+1,l=>by
  rw[yx];exact ZS (GK fun n _=>HA d n.kids) (Af l)
def BH(c:bP):∀(l:List Nd),du (pL c l)<=du l
 | []=>ZR _
 |⟨k,t,o,s,ks,e⟩::l=>by
  have h1:=BH c ks;have h2:=BH c l;rw[cM];split
  ·rw[bp,bp];show du (pL c ks)+1+_<=du ks+1+_;omega
  ·rw[bp];omega
end Syn
namespace Go.Proofs.YtfaclfkpnmcmlaaGreatDoor
open Go Go.Sx Dg Syn
def K8:aO prog 79:=⟨_,func79,rfl,rfl⟩
def Pm{n:Nat}(h:n<=maxLen):IntKind.i64.wrap (n:Int)=(n:Int):=by
 unfold maxLen at h;simp only[IntKind.wrap,show IntKind.bits .i64=64 from rfl,show IntKind.signed .i64=true from rfl];simp;omega
variable{i:Nat}
def we{n c:Nat}{a:Option Addr}(hC:sB (.slice a n c))(hi:i<n):IntKind.i64.wrap ((i:Int)+1)=((i+1:Nat):Int):=by
 have h:n<=c/\(0<n->c<=maxLen):=hC;have h2:=h.2 ab;have:=Pm (n:=i+1) ab;rw[<-this];congr 1
def sZ(w:T):∀a b:List Nd,nX w (a++b)=nX w a++nX w b
 | [],b=>rfl
 |n::a,b=>by
  rw[aaz,qe,qe,sZ w a b];split<;>rfl
def Bz(w:T)(n:Nd):nX w [n]=if n.cond.and w=ff then []else [{ n with kids:=nX (n.cond.and w) n.kids,cond:=n.cond.and w }]:=by
 rw[qe];rfl
def db{α:Type}{l:List α}{n:α}(h:l[i]?=some n):l.take (i+1)=l.take i++[n]:=by
 rw[List.take_add_one,h];rfl
def CM(w:T)(i:Nat)(l:List Nd):du (nX w (l.take i))<=du (nX w l):=by
 conv=>rhs;rw[<-abq i l]
 rw[sZ,io];omega
def Ve(vl:Value)(n:Nat)(wa:Option Addr)(wk:Nat)(w:T)(x:Nat×Value):St:=⟨dn 35 [(3,.p 3 0),(5,.v x.2),(8,.v vl),(9,.v (iv n)),(10,.v (iv x.1))],[⟨3,50,[sD wa wk w,rD w]⟩]⟩
def Zk(l:List Nd)(w:T)(I0:PH)(x:Nat×Value)(H:PH):Prop:=∃I A,H=U [I,A]/\Dj [I,A]/\I0.le I/\x.1<=l.length/\bQ I A x.2 (nX w (l.take x.1))
theorem Jb:∀(m:Nat) {I:PH} {v vw:Value} {l:List Nd} {w:T},du l<m->eE I v l->sB v->cX I vw w->du (nX w l)<=aN->
  aK prog 79 #[v,vw] I [] fun r I2 qs=>∃A,qs=[A]/\bQ I2 A r (nX w l):=by
 intro m
 induction m with
 |zero=>intro I v vw l w hm;omega
 |succ m ih=>
 intro I v vw l w hm hS hC hW hz hd;obtain⟨va,vc,rfl,_⟩:=id hS;obtain⟨wa,wk,rfl⟩:=hW.shape2;unfold aN at hz;refine ah 35 func79 fun w0=>?_
 try simp only[iv,sD,rD]
 refine aT ?_;refine aR hd fun b1=>?_;refine aA (fun x=>l.length-x.1) (Ve (.slice va l.length vc) l.length wa wk w) (Zk l w I) (0,.slice none 0 0) Tp (by simp only[go_sem,aa6,Ve,iv,sD,rD]) ?_ ?_
 ·exact⟨I,PH.no,rfl,b1,abW _,aaL _,Ow.nil _ _ _ _⟩
 rintro⟨i,vo⟩ H ⟨I1,A1,rfl,a7,ac,hi,hA⟩ ag;simp only at hi hA;simp only[Ve];obtain⟨oa,oc,rfl⟩:=hA.shape;rcases aaf i l.length with ao|cb
 ·have ba:decide ((i:Int)<(l.length:Int))=true:=by simp;omega
  have bd:=we hC ao;obtain⟨n,hn⟩:∃n,l[i]?=some n:=⟨_,aak ao⟩;obtain⟨b,off,cs,rfl,b2,am⟩:=Sl.load bm.len (eE.le hS ac) hn;obtain⟨vk,na,nk,rfl,a2,aj,a9⟩:=b2.shape;obtain⟨ka,kc,rfl,_⟩:=id aj;have b8:=oG (aaV hn);have a1:=CM w (i+1) l;rw[db hn,sZ,io]at a1;have ca:=iI (nX w (l.take i));apply RG;simp only[go_sem,ba,iv,sD,rD];refine⟨ab,?_⟩;refine XN (l:=[.int .u8 n.kind,.string ⟨⟨n.text⟩⟩,.int .i64 n.tok,.int .i64 n.slot,.slice ka n.kids.length kc,sD na nk n.cond,rD n.cond]) (v:=.agg #[.int .u8 n.kind,.string ⟨⟨n.text⟩⟩,.int .i64 n.tok,.int .i64 n.slot,.slice ka n.kids.length kc,sD na nk n.cond,rD n.cond]) rfl (cellsU a7 (.head _) am) (.inl ⟨cL,rfl⟩) ?_;refine lY ?_;refine ad a7 [0] [] [A1] rfl kK rfl (oQ a2 (hW.le ac)) fun v I3 qs a6 aa hq=>?_;obtain⟨rfl,an⟩:=hq;obtain⟨za,zk,rfl⟩:=an.shape2;simp only[Z3]at a6 |-;refine lY ?_;refine WZ rfl jt (gO an) fun v H2 hv=>?_;obtain⟨rfl,rfl⟩:=hv;cases aq:decide (n.cond.and w=.lf false)
  ·have bb:n.cond.and w≠ff:=by simpa using aq
   rw[Bz,ZV bb,bp,dJ]at a1;simp only at a1;apply RG;simp only[go_sem,iv,sD,rD,aq,abK];refine ad a6 [0] [] [A1] rfl K8 rfl (ih (w:=n.cond.and w) ab (eE.le aj aa) a9 an (by unfold aN;omega)) fun v I4 qs bc a4 hq=>?_;obtain⟨K,rfl,hK⟩:=hq;simp only[Z3]at bc |-;obtain⟨qa,qc,rfl⟩:=hK.shape;have b5:=hK.capN bm.len;refine bf bc [0,1] fun a5=>?_;refine ae a5 fun I5 a5 al b6=>?_;have b4:eE I5 (.slice qa (nX (n.cond.and w) n.kids).length qc) (nX (n.cond.and w) n.kids):=bQ.sl hK al b6;refine lY ?_;refine ax a5 (by exact dQ) rfl rfl rfl rfl rfl bg fun nb I6 b0 ak bx=>?_;have aS:=abV a4 (abV al ak);have b3:eE I6 (.slice (some ⟨nb,0,none⟩) 1 1) [{ n with kids:=nX (n.cond.and w) n.kids,cond:=n.cond.and w }]:=iJ (az bx (by simp[aD,Value.cells]) (by simp[aD,Value.cells,iv,sD,rD])) (bm.mk (n:={ n with kids:=nX (n.cond.and w) n.kids,cond:=n.cond.and w }) (an.le aS) (eE.le b4 ak) b5);refine lY ?_;refine bl b0 (by exact dQ) (bQ.le hA (abV aa aS)) (b3) (fun{I J c a} h k=>bm.le h k) (fun{I} c a h=>bm.len c a h) (fun{I} c a h=>bm.ones h) rfl rfl rfl rfl (by first|omega|(simp only[aaj,aaO];omega)) (by unfold maxLen;first|omega|(simp only[aaj,aaO];omega)) fun ua uc I7 A7 bF a3 b7=>?_;apply RG;simp only[go_sem,iv,sD,rD,bd];have bs:=abV ac (abV aa (abV aS a3));exact ag (i+1,.slice ua (nX w (l.take i)++[{ n with kids:=nX (n.cond.and w) n.kids,cond:=n.cond.and w }]).length uc) _ _ dt Tp (by simp only[go_sem,aa6,Ve,iv,sD,rD]) ⟨I7,A7,rfl,bF,bs,ao,by simp only;rw[db hn,sZ,Bz,ZV bb];exact b7⟩
  ·have bC:n.cond.and w=ff:=by simpa using aq
   apply RG;simp only[go_sem,iv,sD,rD,aq,abQ,bd];exact ag (i+1,.slice oa (nX w (l.take i)).length oc) _ _ dt Tp (by simp only[go_sem,aa6,Ve,iv,sD,rD]) ⟨I3,A1,rfl,a6,abV ac aa,ao,by simp only;rw[db hn,sZ,Bz,aaq bC,aa6];exact bQ.le hA aa⟩
 ·have:i=l.length:=by omega
  subst this;have ba:=Z6 l.length;apply RG;simp only[go_sem,ba,iv,sD,rD];exact af rfl a7 (r:=[_]) rfl ac ⟨A1,rfl,by rw[aaS]at hA |-;exact hA⟩
def Lk:aO prog 23:=⟨_,func23,rfl,rfl⟩
def Ts:aO prog 34:=⟨_,func34,rfl,rfl⟩
def LY:aO prog 63:=⟨_,func63,rfl,rfl⟩
def SI:aO prog 64:=⟨_,func64,rfl,rfl⟩
def EO:aO prog 21:=⟨_,func21,rfl,rfl⟩
def MP:aO prog 25:=⟨_,func25,rfl,rfl⟩
def HB:aO prog 69:=⟨_,func69,rfl,rfl⟩
def xC(_:PH)(c:List Value)(x:Nat×Nat):Prop:=c=[.int .u32 x.1,.int .u32 x.2]/\x.1<2^32/\x.2<2^32
abbrev Ch(I:PH)(v:Value)(l:List (Nat×Nat)):Prop:=Sl xC I v l
variable{I:PH}
def xC.len(c:List Value)(x:Nat×Nat)(h:xC I c x):c.length=2:=by rw[h.1];rfl
variable{l:List (Nat×Nat)}{v:Value}
def Ch.le{J:PH}(h:Ch I v l)(k:I.le J):Ch J v l:=Sl.le (R:=xC) (fun{I J c a} h k=>h) h k
def Pp(v:Value)(x:Nat×Option Addr×Nat×T):St:=⟨dn 26 [(0,.v v),(2,.p 2 0),(3,.p 3 0),(4,.v (iv x.1))],[⟨2,50,[.slice none 0 0,.int .i64 0]⟩,⟨3,50,[sD x.2.1 x.2.2.1 x.2.2.2,rD x.2.2.2]⟩]⟩
def X1(l:List (Nat×Nat))(I0:PH)(x:Nat×Option Addr×Nat×T)(H:PH):Prop:=∃I,H=U [I]/\Dj [I]/\I0.le I/\x.1<=l.length/\x.2.2.2=mE (l.take x.1)/\cX I (.agg #[sD x.2.1 x.2.2.1 x.2.2.2,rD x.2.2.2]) x.2.2.2
def df{α:Type}{l:List α}{n:α}(h:l[i]?=some n):l.take (i+1)=l.take i++[n]:=by
 rw[List.take_add_one,h];rfl
theorem Rl(hS:Ch I v l)(hl:l.length<2^60):aK prog 23 #[v] I [] fun r I2 qs=>qs=[]/\cX I2 r (mE l):=by
 obtain⟨va,vc,rfl,_⟩:=id hS;intro hd;refine ah 26 func23 fun w0=>?_;refine aT ?_;refine WZ rfl yl (sU _) fun v H2 hv=>?_;obtain⟨rfl,rfl⟩:=hv;refine dP ?_;refine aA (fun x=>l.length-x.1) (Pp (.slice va l.length vc)) (X1 l I) (0,none,0,.lf false) bM (by simp only[go_sem,aa6,Pp,sD,rD,iv,T.subs,T.vis,T.plc,aaO,aa5,Z2]) ?_ ?_
 ·exact⟨I,rfl,hd,abW _,aaL _,rfl,mN I false⟩
 rintro⟨i,da,dk,d⟩ H ⟨I1,rfl,al,ac,hi,ak,hr⟩ ag;simp only at hi ak hr;simp only[Pp];rcases aaf i l.length with ao|a2
 ·have h9:decide ((i:Int)<(l.length:Int))=true:=abU ab;have e1:IntKind.i64.wrap ((i:Int)+1)=((i+1:Nat):Int):=by rw[<-wrap64 (n:=i+1) ab];congr 1
  obtain⟨x,hx⟩:∃x,l[i]?=some x:=⟨_,aak ao⟩;obtain⟨b,off,cs,rfl,⟨rfl,x1,x2⟩,aa⟩:=Sl.load (fun{I} c a h=>xC.len (I:=I) c a h) (Ch.le hS ac) hx;have c0:=aa.get (i:=0) rfl;have c1:=aa.get (i:=1) rfl;apply RG;simp only[go_sem,iv,h9];refine eP [0,1,2,3,4,5,6,7,8,9,10,11,12,13] [5,10] [] ?_;refine lE ?_
  try refine⟨ab,?_⟩
  refine W7 (l:=[.int .u32 x.1]) rfl (cellsU al (.head _) (by simpa using c0)) (.inr ⟨oR,rfl⟩) ?_;refine lE ?_
  try refine⟨ab,?_⟩
  refine W7 (l:=[.int .u32 x.2]) rfl (cellsU al (.head _) (by simpa using c1)) (.inr ⟨oR,rfl⟩) ?_;refine lE ?_;refine cv al rfl HB (FD x1 x2) fun v1 I2 qs a1 aj hq=>?_;obtain⟨rfl,aq⟩:=hq;obtain⟨za,zk,rfl⟩:=aq.shape2;refine lE ?_;refine cv a1 rfl yj (KP (hr.le aj) aq) fun v2 I3 qs aS am hq=>?_;obtain⟨rfl,an⟩:=hq;obtain⟨ya,yk,rfl⟩:=an.shape2;refine lE ?_;refine aw ?_;apply RG;simp only[go_sem,iv,e1];refine ag (i+1,ya,yk,d.or (jx x.1 x.2)) _ _ dt bM (by simp only[go_sem,aa6,Pp,sD,rD,iv]) ⟨I3,rfl,aS,abV ac (abV aj am),ao,?_,an⟩;simp only;rw[df hx,ak];unfold mE;rw[abM];rfl
 ·have:i=l.length:=by omega
  subst this;rw[aaS]at ak;have h9:=Z6 l.length;apply RG;simp only[go_sem,iv,h9,sD,rD];exact af rfl al (r:=[.agg #[sD da dk d,rD d]]) (by simp only[results23,go_sem,iv,sD,rD]) ac ⟨rfl,by rw[<-ak];exact hr⟩
def Lu(v:Value)(c:Nat)(i:Nat):St:=⟨dn 38 [(0,.v v),(1,.v (.int .u32 c)),(5,.v (iv i))],[]⟩
variable{H:PH}
theorem XZ{c:Nat}(hS:Ch H v l)(hl:l.length<2^60)(hc:c<2^32):bO prog 34 #[v,.int .u32 c] H fun r H2=>r=.bool (Ek l c)/\H2=H:=by
 obtain⟨va,vc,rfl,_⟩:=id hS;refine ah 38 func34 fun w0=>?_;refine aT ?_;refine aA (fun x=>l.length-x) (Lu (.slice va l.length vc) c) (fun i H2=>H2=H/\i<=l.length/\Ek l c=(l.drop i).any (Jk c)) 0 bM (by simp only[go_sem,aa6,Lu]) ⟨rfl,aaL _,rfl⟩ ?_;rintro i H2 ⟨rfl,hi,ha⟩ aa;simp only[Lu];rcases aaf i l.length with ag|al
 ·have h9:decide ((i:Int)<(l.length:Int))=true:=abU ab;have e1:IntKind.i64.wrap ((i:Int)+1)=((i+1:Nat):Int):=by rw[<-wrap64 (n:=i+1) ab];congr 1
  obtain⟨x,hx⟩:∃x,l[i]?=some x:=⟨_,aak ag⟩;obtain⟨b,off,cs,rfl,⟨rfl,x1,x2⟩,ac⟩:=Sl.load (fun{I} c a h=>xC.len (I:=I) c a h) hS hx;have c0:=ac.get (i:=0) rfl;have c1:=ac.get (i:=1) rfl;have ak:l.drop i=x::l.drop (i+1):=by
   rw[aaK ag];rw[aak ag]at hx;rw[aaZ hx]
  rw[ak,List.any_cons]at ha;have b1:c&&&x.1<2^32:=abr Nat.and_le_left hc;have b2:c&&&x.2<2^32:=abr Nat.and_le_left hc;have a1:=mf hc x1;have a2:tN .u32 ((c&&&x.1:Nat):Int) 16777215=(((c&&&x.1)&&&16777215:Nat):Int):=mf b1 bg;have a3:tN .u32 ((x.1:Nat):Int) 16777215=((x.1&&&16777215:Nat):Int):=mf x1 bg;have a4:=mf hc x2;have a5:tN .u32 ((c&&&x.2:Nat):Int) 16777215=(((c&&&x.2)&&&16777215:Nat):Int):=mf b2 bg;have q1:=NP ((c&&&x.1)&&&16777215) (x.1&&&16777215);have q2:((((c&&&x.2)&&&16777215:Nat):Int) == 0)=decide ((c&&&x.2)&&&16777215=0):=tZ _;apply RG;simp only[go_sem,iv,h9];refine eP [0,1,2,3,4,5,6,7,8,9,10,11,12,13,14,15,16,17,18,19,20,21,22,23,24,25] [5,12,21] [] ?_;refine dS ?_
  try refine⟨ab,?_⟩
  refine W7 (l:=[.int .u32 x.1]) rfl (by simpa using c0) (.inr ⟨oR,rfl⟩) ?_;refine dS ?_
  try refine⟨ab,?_⟩
  refine W7 (l:=[.int .u32 x.1]) rfl (by simpa using c0) (.inr ⟨oR,rfl⟩) ?_;cases h1:decide ((c&&&x.1)&&&16777215=x.1&&&16777215)
  ·rw[h1]at q1;have aj:Jk c x=false:=by unfold Jk;rw[h1];rfl
   apply au;simp only[go_sem,iv,a1,a2,a3,q1];refine aw ?_;apply RG;simp only[go_sem,iv,e1];exact aa (i+1) _ _ ab bM (by simp only[go_sem,aa6,Lu]) ⟨rfl,ag,by rw[ha,aj,abw]⟩
  ·rw[h1]at q1;apply au;simp only[go_sem,iv,a1,a2,a3,q1]
   try refine⟨ab,?_⟩
   refine W7 (l:=[.int .u32 x.2]) rfl (by simpa using c1) (.inr ⟨oR,rfl⟩) ?_;cases h2:decide ((c&&&x.2)&&&16777215=0)
   ·rw[h2]at q2;have aj:Jk c x=false:=by unfold Jk;rw[h2,Bool.and_false]
    apply au;simp only[go_sem,iv,a4,a5,q2];refine aw ?_;apply RG;simp only[go_sem,iv,e1];exact aa (i+1) _ _ ab bM (by simp only[go_sem,aa6,Lu]) ⟨rfl,ag,by rw[ha,aj,abw]⟩
   ·rw[h2]at q2;have aj:Jk c x=true:=by unfold Jk;rw[h1,h2];rfl
    apply au;simp only[go_sem,iv,a4,a5,q2];refine aw ?_;refine dP ?_;exact aJ (r:=[_]) rfl ⟨by rw[ha,aj];rfl,rfl⟩
 ·have:i=l.length:=by omega
  subst this;rw[abH]at ha;have h9:=Z6 l.length;apply RG;simp only[go_sem,iv,h9];exact aJ (r:=[_]) rfl ⟨by rw[ha];rfl,rfl⟩
def W0(v:Value)(x:Nat×Nat):St:=⟨dn 26 [(0,.v v),(3,.v (.int .u32 x.2)),(4,.v (iv x.1))],[]⟩
def JZ(hS:Ch H v l)(hl:l.length<2^60):bO prog 63 #[v] H fun r H2=>r=.int .u32 (xR l:Nat)/\H2=H:=by
 obtain⟨va,vc,rfl,_⟩:=id hS;refine ah 26 func63 fun w0=>?_;refine aT ?_;refine aA (fun x=>l.length-x.1) (W0 (.slice va l.length vc)) (fun x H2=>H2=H/\x.1<=l.length/\x.2<2^32/\x.2=Do (l.take x.1)) (0,0) bM (by simp only[go_sem,aa6,W0]) ⟨rfl,aaL _,by decide,rfl⟩ ?_;rintro⟨i,u⟩ H2 ⟨rfl,hi,hu,ag⟩ ac;simp only at hi hu ag;simp only[W0];rcases aaf i l.length with ak|al
 ·have h9:decide ((i:Int)<(l.length:Int))=true:=abU ab;have e1:IntKind.i64.wrap ((i:Int)+1)=((i+1:Nat):Int):=by rw[<-wrap64 (n:=i+1) ab];congr 1
  obtain⟨x,hx⟩:∃x,l[i]?=some x:=⟨_,aak ak⟩;obtain⟨b,off,cs,rfl,⟨rfl,x1,x2⟩,aa⟩:=Sl.load (fun{I} c a h=>xC.len (I:=I) c a h) hS hx;have c0:=aa.get (i:=0) rfl;have c1:=aa.get (i:=1) rfl;have aj:=Nat.or_lt_two_pow hu x1;have q1:=CN hu x1;have q2:=CN aj x2;apply RG;simp only[go_sem,iv,h9];refine eP [0,1,2,3,4,5,6,7,8,9,10,11,12,13] [5,11] [] ?_;refine dS ?_
  try refine⟨ab,?_⟩
  refine W7 (l:=[.int .u32 x.1]) rfl (by simpa using c0) (.inr ⟨oR,rfl⟩) ?_;apply au;simp only[go_sem,iv,q1]
  try refine⟨ab,?_⟩
  refine W7 (l:=[.int .u32 x.2]) rfl (by simpa using c1) (.inr ⟨oR,rfl⟩) ?_;apply au;simp only[go_sem,iv,q2];refine aw ?_;apply RG;simp only[go_sem,iv,e1];exact ac (i+1,(u|||x.1)|||x.2) _ _ dt bM (by simp only[go_sem,aa6,W0]) ⟨rfl,ak,Nat.or_lt_two_pow aj x2,by simp only;rw[df hx,F4,<-ag]⟩
 ·have:i=l.length:=by omega
  subst this;have h9:=Z6 l.length;have a1:tN .u32 (u:Int) 16777215=((u&&&16777215:Nat):Int):=mf hu bg;apply RG;simp only[go_sem,iv,h9,a1];rw[aaS]at ag;exact aJ (r:=[_]) rfl ⟨by rw[ag];rfl,rfl⟩
def pR(u:Nat):Nat->Nat
 |0=>0
 |i+1=>pR u i+(u.testBit i).toNat
def Fk(u:Nat):∀i,pR u i<=i
 |0=>ZR _
 |i+1=>by
  have:=Fk u i;show pR u i+(u.testBit i).toNat<=i+1;cases u.testBit i<;>simp<;>omega
def NA(u:Nat){j:Nat}(h:i<=j):pR u i<=pR u j:=by
 induction h with
 |refl=>exact ZR _
 |step _ ih=>exact ZS ih (Nat.le_add_right _ _)
def Xi(u i:Nat):(u >>> i)&&&1=(u.testBit i).toNat:=by
 rw[Nat.and_one_is_mod,Nat.testBit_eq_decide_div_mod_eq,abs];have:=Nat.mod_two_eq_zero_or_one (u / 2^i);rcases this with h|h<;>simp[h]
def UC{u:Nat}(hu:u<2^32)(hi:i<=32):tN .u32 (ut .u32 (u:Int) (i:Int)) 1=(((u.testBit i).toNat:Nat):Int):=by
 rw[Gj hi,<-Xi];exact mf (b:=1) (AL hu) bg
def W2(u most:Nat)(i:Nat):St:=⟨dn 21 [(0,.v (.int .u32 u)),(1,.v (iv most)),(5,.v (iv (pR u i))),(6,.v (iv i))],[]⟩
def U2{u most:Nat}(hu:u<2^32):bO prog 64 #[.int .u32 u,iv most] H fun r H2=>r=.bool (decide (pR u 32<=most))/\H2=H:=by
 refine ah 21 func64 fun w0=>?_
 try simp only[iv]
 refine aT ?_;refine aA (fun x=>32-x) (W2 u most) (fun i H2=>H2=H/\i<=32) 0 (bJ (by simp only[go_sem,aa6,iv,pR])) (by simp only[go_sem,aa6,W2]) ⟨rfl,aaL _⟩ ?_;rintro i H2 ⟨rfl,hi⟩ aa;simp only[W2];have hp:=Fk u i;rcases aaf i 32 with ac|aj
 ·have h8:decide ((i:Int)<32)=true:=abU ab;have e1:IntKind.i64.wrap ((i:Int)+1)=((i+1:Nat):Int):=by rw[<-wrap64 (n:=i+1) ab];congr 1
  have a1:=UC hu (i:=i) ab;have b2:(u.testBit i).toNat<=1:=by cases u.testBit i<;>simp
  have w1:IntKind.i64.wrap (((u.testBit i).toNat:Nat):Int)=(((u.testBit i).toNat:Nat):Int):=wrap64 ab;have w2:IntKind.i64.wrap ((pR u i:Int)+(((u.testBit i).toNat:Nat):Int))=((pR u (i+1):Nat):Int):=by
   have e:(pR u i:Int)+(((u.testBit i).toNat:Nat):Int)=((pR u (i+1):Nat):Int):=by
    show _=(((pR u i+(u.testBit i).toNat:Nat)):Int);omega
   rw[e];exact wrap64 (by have:=Fk u (i+1);omega)
  apply RG;simp only[go_sem,iv,h8,abt,a1,w1,w2,e1];exact aa (i+1) _ _ ab bM (by simp only[go_sem,aa6,W2]) ⟨rfl,ac⟩
 ·have:i=32:=by omega
  subst this;have ag:decide ((pR u 32:Int)<=(most:Int))=decide (pR u 32<=most):=by
   rw[Bool.eq_iff_iff,aaC,aaC];omega
  apply RG;simp only[go_sem,iv,abo,ag];exact aJ (r:=[_]) rfl ⟨rfl,rfl⟩
end Go.Proofs.YtfaclfkpnmcmlaaGreatDoor
