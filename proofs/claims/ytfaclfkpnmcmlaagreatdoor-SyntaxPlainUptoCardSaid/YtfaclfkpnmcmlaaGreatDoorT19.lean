import Derived.Test.YtfaclfkpnmcmlaaGreatDoorT10
import Derived.Test.YtfaclfkpnmcmlaaGreatDoorT11
import Derived.Test.YtfaclfkpnmcmlaaGreatDoorT18
set_option maxHeartbeats 8000000
set_option linter.all false
open Go.Proofs.Tryz hiding d6 d7 d8 f4
namespace Go.Proofs.YtfaclfkpnmcmlaaGreatDoor
open Go Go.Sx Dg Syn
def Q0:aO prog 154:=⟨_,func154,rfl,rfl⟩
def On:aO prog 150:=⟨_,func150,rfl,rfl⟩
def Oa:aO prog 254:=⟨_,func254,rfl,rfl⟩
def P2:aO prog 190:=⟨_,func190,rfl,rfl⟩
def QB:aO prog 239:=⟨_,func239,rfl,rfl⟩
def Oq:aO prog 157:=⟨_,func157,rfl,rfl⟩
def WN(s:bq)(x:Nat×Nat):St:=⟨dn 44 [(0,.v (.string ⟨⟨s⟩⟩)),(3,.v (iv x.2)),(4,.v (iv x.1))],[]⟩
variable{i:Nat}
def Kw{s:bq}{c:UInt8}(h:s[i]?=some c):En 0 (s.take (i+1))=10*En 0 (s.take i)+(c.toNat-48):=by rw[df h,Cc]
def Nn:∀(s:bq) (n:Nat),mJ s=true->En n s<(n+1)*10^s.length
 | [],n,_=>by show n<(n+1)*1;omega
 |c::s,n,h=>by
  simp only[mJ,List.all_cons,aao]at h;have hc:=lZ.1 h.1;have:=Nn s (10*n+(c.toNat-48)) h.2;rw[aaj,abd];refine Nat.lt_of_lt_of_le this ?_;have e:(n+1)*(10^s.length*10)=((n+1)*10)*10^s.length:=by rw[Nat.mul_comm (10^s.length) 10,Nat.mul_assoc]
  rw[e];exact aaQ _ ab
variable{n:Nat}
def Wf(h:n<256):IntKind.u8.wrap (n:Int)=(n:Int):=by
 simp only[IntKind.wrap,show IntKind.bits .u8=8 from rfl,show IntKind.signed .u8=false from rfl];have:(n:Int) % (2^8:Int)=(n:Int):=abm ab ab;simpa using this
def EW(s:bq)(hl:s.length<2^60)(H:PH):bO prog 154 #[.string ⟨⟨s⟩⟩] H fun v H2=>v=.bool (vH s)/\H2=H:=by
 refine ah 44 func154 fun w0=>?_;cases h1:decide ((s.length:Int)<1)
 rotate_left
 ·have hz:vH s=false:=by
   have:decide (1<=s.length)=false:=abT (by have:=abl h1;omega);simp only[vH,this,Bool.false_and]
  apply RG;simp only[go_sem,bi,h1];exact aJ (r:=[_]) rfl ⟨by rw[hz];rfl,rfl⟩
 have ao:=abN h1;have k1:decide (1<=s.length)=true:=abU ab;cases h2:decide ((s.length:Int)>10)
 rotate_left
 ·have hz:vH s=false:=by
   have:decide (s.length<=10)=false:=abT (by have:=abl h2;omega);simp only[vH,this,Bool.and_false,Bool.false_and]
  apply RG;simp only[go_sem,bi,h1,h2];exact aJ (r:=[_]) rfl ⟨by rw[hz];rfl,rfl⟩
 have a2:=abN h2;have k2:decide (s.length<=10)=true:=abU ab;have an:s[0]?=some (s.getD 0 0):=by
  cases s with
  |nil=>simp at ao
  |cons c t=>rfl
 have ak:=jn an;have fin:∀(b:Bool),(decide (1<s.length) && (bZ (s.getD 0 0) == 48))=b->vH s=(!b && (mJ s && decide (En 0 s<=2147483647))):=fun b hb=>by
  simp only[vH,k1,k2,hb,Bool.true_and,Bool.and_assoc]
 have a1:(0:Int)<=0/\(0:Int)<(s.length:Int):=⟨ab,ab⟩;cases h3:decide ((s.length:Int)>1)
 rotate_left
 cases h4:(bZ (s.getD 0 0) == 48)
 rotate_left
 ·have hz:vH s=false:=by
   rw[fin true (by rw[h4,abU (by have:=abl h3;omega)];rfl)];rfl
  apply RG;simp only[go_sem,bi,h1,h2,h3,Int.toNat_zero,ak,h4];refine⟨ab,?_⟩;exact aJ (r:=[_]) rfl ⟨by rw[hz];rfl,rfl⟩
 rotate_left
 have hz:=fin false (by rw[h4,Bool.and_false]);apply RG;simp only[go_sem,bi,h1,h2,h3,Int.toNat_zero,ak,h4];refine⟨ab,?_⟩
 rotate_left
 have hz:=fin false (by rw[abT (by have:=abN h3;omega),Bool.false_and]);apply RG;simp only[go_sem,bi,h1,h2,h3]
 all_goals
  rw[abK,Bool.true_and]at hz;rw[hz];refine aA (fun x=>s.length-x.1) (WN s) (fun x H3=>H3=H/\x.1<=s.length/\x.2=En 0 (s.take x.1)/\mJ (s.take x.1)=true) (0,0) bM (by simp only[go_sem,aa6,WN]) ⟨rfl,aaL _,rfl,rfl⟩ ?_;rintro⟨i,n⟩ H3 ⟨rfl,hi,hn,ha⟩ aa;simp only at hi hn ha;simp only[WN];have am:=Nn (s.take i) 0 ha;have hp:(0+1)*10^(s.take i).length<=10^10:=by
   rw[ZZ,abj];exact abe bg (by rw[abF];omega)
  have e10:(10:Nat)^10=10000000000:=by decide
  rw[<-hn]at am;rcases aaf i s.length with ac|aq
  ·have h7:decide ((i:Int)<(s.length:Int))=true:=abU ab;obtain⟨c,hc⟩:∃c,s[i]?=some c:=⟨_,aak ac⟩;have hb:=jn hc;have al:mJ (s.take (i+1))=(lw (bZ c) && mJ (s.take i)):=by
    rw[df hc];unfold mJ;rw[List.all_append,Bool.and_comm];simp
   apply RG;simp only[go_sem,iv,bi,h7,hb];refine⟨by (try simp only[bi]);omega,?_⟩;refine WZ rfl AY (AV _ _) fun v H2 hv=>?_;obtain⟨rfl,rfl⟩:=hv;cases ag:lw (bZ c)
   ·have aj:mJ s=false:=by
     unfold mJ;rw[List.all_eq_false];exact⟨c,aaV hc,by rw[ag];decide⟩
    apply RG;simp only[go_sem,abK];exact aJ (r:=[_]) rfl ⟨by rw[aj];rfl,rfl⟩
   ·have aS:=lZ.1 ag;have e1:IntKind.i64.wrap ((i:Int)+1)=((i+1:Nat):Int):=by rw[<-wrap64 (n:=i+1) ab];congr 1
    have e2:IntKind.i64.wrap (10*(n:Int))=((10*n:Nat):Int):=by rw[<-wrap64 (n:=10*n) ab];congr 1
    have e3:IntKind.u8.wrap (bZ c-48)=((c.toNat-48:Nat):Int):=by
     unfold bZ;have:(c.toNat:Int)-48=((c.toNat-48:Nat):Int):=by omega
     rw[this];exact Wf ab
    have e4:IntKind.i64.wrap (((c.toNat-48:Nat):Int))=((c.toNat-48:Nat):Int):=wrap64 ab;have e5:IntKind.i64.wrap (((10*n:Nat):Int)+((c.toNat-48:Nat):Int))=((10*n+(c.toNat-48):Nat):Int):=by rw[<-wrap64 (n:=10*n+(c.toNat-48)) ab];congr 1
    apply RG;simp only[go_sem,iv,bi,abQ,hb,e1,e2,e3,e4,e5]
    try refine⟨by (try simp only[bi]);omega,?_⟩
    exact aa (i+1,10*n+(c.toNat-48)) _ _ dt bM (by simp only[go_sem,aa6,WN]) ⟨rfl,ac,by simp only;rw[Kw hc,hn],by rw[al,ag,ha];rfl⟩
  ·have:i=s.length:=by omega
   subst this;have h7:=Z6 s.length;rw[aaS]at ha hn;have h8:decide ((n:Int)<=2147483647)=decide (n<=2147483647):=by congr 1;exact propext ⟨fun h=>by omega,fun h=>by omega⟩
   apply RG;simp only[go_sem,iv,bi,h7,h8];exact aJ (r:=[_]) rfl ⟨by rw[ha,<-hn];rfl,rfl⟩
def vN:List bq:=[[60,61],[62,61],[61,61],[33,61],[38,38],[124,124]]
def Fv:bq:=[43,45,42,47,37,60,62,61,33,40,41,123,125,44,59,58]
def pd(s:bq):bq:=match vN.find? fun t=>decide (2<=s.length) && (s.take 2 == t)with
 |some t=>t
 |none=>match Fv.find? fun c=>decide (1<=s.length) && (s.getD 0 0 == c)with
  |some _=>s.take 1
  |none=>[]
def SR:∀t∈vN,t∈f4:=by decide
def TE:∀c∈Fv,[c]∈f4:=by decide
def OS:∀s∈f4,pd s=s:=by decide
def Ql(s:bq):(!(s == []) && (pd s == s))=f4.contains s:=by
 rw[Bool.eq_iff_iff];constructor
 ·intro h;simp only[aao,aay,abS,beq_iff_eq]at h;obtain⟨h0,h⟩:=h;rw[List.contains_iff_mem];unfold pd at h;split at h
  ·rename_i t ht;rw[<-h];exact SR t (List.mem_of_find?_eq_some ht)
  ·split at h
   ·rename_i c hc;have h1:=List.find?_some hc;have h2:=List.mem_of_find?_eq_some hc;simp only[aao,aaC,beq_iff_eq]at h1;cases s with
    |nil=>exact absurd rfl h0
    |cons d t=>
     have e:d=c:=h1.2;subst e;rw[<-h];exact TE d h2
   ·exact absurd h.symm h0
 ·intro h;have h:=List.contains_iff_mem.1 h;rw[OS s h];have:=Ci s h;simp[this]
def KU(s:bq)(nb i:Nat):St:=⟨dn 45 [(0,.v (.string ⟨⟨s⟩⟩)),(2,.v (.string ⟨⟨[]⟩⟩)),(3,.v (.slice (some ⟨nb,0,none⟩) 6 6)),(4,.v (iv i))],[]⟩
def KW(s:bq)(i:Nat):St:=⟨dn 45 [(0,.v (.string ⟨⟨s⟩⟩)),(2,.v (.string ⟨⟨[]⟩⟩)),(5,.v (iv i))],[]⟩
def pq{I:PH}:∀l:List bq,LR (vC I) (l.map fun x=>Value.string ⟨⟨x⟩⟩) l
 | []=>rfl
 |x::l=>⟨[_],_,rfl,rfl,pq l⟩
variable{α:Type}
def zg{l:List α}{P:α->Bool}{x:α}(hx:l[i]?=some x):(l.drop i).find? P=if P x then some x else (l.drop (i+1)).find? P:=by
 obtain⟨h,e⟩:=List.getElem?_eq_some_iff.1 hx;rw[aaK h,e,List.find?_cons];cases P x<;>rfl
theorem Sd(s:bq)(hl:s.length<2^60)(I:PH):aK prog 150 #[.string ⟨⟨s⟩⟩] I [] fun v I2 qs=>qs=[]/\v=.string ⟨⟨pd s⟩⟩:=by
 intro hd;refine ah 45 func150 fun w0=>?_;refine aT ?_;refine ax hd (by exact xi) rfl rfl rfl rfl rfl bg fun nb I1 al aj a1=>?_;have hS:MI I1 (.slice (some ⟨nb,0,none⟩) 6 6) vN:=⟨_,_,rfl,.inr ⟨nb,0,_,rfl,(az a1 (by simp[aD,Value.cells,vN]) (by simp[aD,Value.cells,vN]):aP I1 nb 0 (vN.map fun x=>.string ⟨⟨x⟩⟩)),pq vN⟩⟩;generalize hP:(fun t:bq=>decide (2<=s.length) && (s.take 2 == t))=P;generalize ao:(fun c:UInt8=>decide (1<=s.length) && (s.getD 0 0 == c))=P1;refine aT ?_;refine aA (fun x=>6-x) (KU s nb) (fun i H3=>H3=U [I1]/\i<=6/\(vN.drop i).find? P=vN.find? P) 0 bM (by simp only[go_sem,aa6,KU]) ⟨rfl,aaL _,rfl⟩ ?_;rintro i H3 ⟨rfl,hi,ha⟩ aa;simp only[KU];rcases aaf i 6 with ag|a4
 ·have h7:decide ((i:Int)<6)=true:=abU ab;have e1:IntKind.i64.wrap ((i:Int)+1)=((i+1:Nat):Int):=by rw[<-wrap64 (n:=i+1) ab];congr 1
  obtain⟨x,hx⟩:∃x,vN[i]?=some x:=⟨_,aak (show i<vN.length from ag)⟩;obtain⟨b,off,cs,e0,a5,ac⟩:=Sl.load (R:=vC) (fun{I} c a h=>vC.len (I:=I) c a h) hS hx;cases e0
  obtain rfl:cs=[.string ⟨⟨x⟩⟩]:=a5;rw[zg hx]at ha;have ak:P x=(decide (2<=s.length) && (s.take 2 == x)):=by rw[<-hP]
  apply RG;simp only[go_sem,iv,bi,h7];cases h2:decide ((s.length:Int)>=2)
  ·have:P x=false:=by rw[ak,abT (by have:=abN h2;omega),Bool.false_and]
   rw[this]at ha;refine eP [0,1,2,3,4,5,6,7,8,9,10,11] [9] [] ?_;apply au;simp only[go_sem,iv,bi,h2];refine aw ?_;apply RG;simp only[go_sem,iv,e1];exact aa (i+1) _ _ ab bM (by simp only[go_sem,aa6,KU]) ⟨rfl,ag,by simpa using ha⟩
  ·have aS:=abl h2;have k2:decide (2<=s.length)=true:=abU ab;refine eP [0,1,2,3,4,5,6,7,8,9,10,11] [9] [] ?_;apply au;simp only[go_sem,iv,bi,h2,oJ,Int.toNat_zero,Nat.sub_zero]
   try refine⟨ab,?_⟩
   refine W7 (l:=[.string ⟨⟨x⟩⟩]) rfl (cellsU al (.head _) (by simpa using ac)) (.inr ⟨tL,rfl⟩) ?_;cases h3:(s.take 2 == x)
   ·have:P x=false:=by rw[ak,h3,Bool.and_false]
    rw[this]at ha;apply au;simp only[go_sem,iv,h3];refine aw ?_;apply RG;simp only[go_sem,iv,e1];exact aa (i+1) _ _ ab bM (by simp only[go_sem,aa6,KU]) ⟨rfl,ag,by simpa using ha⟩
   ·have:P x=true:=by rw[ak,h3,k2];rfl
    rw[this]at ha;apply au;simp only[go_sem,iv,h3];refine aw ?_;refine dP ?_
    try refine⟨ab,?_⟩
    refine XN (l:=[.string ⟨⟨x⟩⟩]) rfl (cellsU al (.head _) (by simpa using ac)) (.inr ⟨tL,rfl⟩) ?_;refine dP ?_;have hr:pd s=x:=by
     unfold pd;rw[hP,<-ha];rfl
    exact af rfl al (r:=[_]) rfl aj ⟨rfl,by rw[hr];rfl⟩
 ·have:i=6:=by omega
  subst this;have hn:vN.find? P=none:=by rw[<-ha];rfl
  refine dP ?_;refine aA (fun x=>16-x) (KW s) (fun i H3=>H3=U [I1]/\i<=16/\(Fv.drop i).find? P1=Fv.find? P1) 0 bM (by simp only[go_sem,aa6,KW]) ⟨rfl,aaL _,rfl⟩ ?_;rintro i H3 ⟨rfl,hi,hb⟩ aa;simp only[KW];rcases aaf i 16 with ag|a4
  ·have h7:decide ((i:Int)<16)=true:=abU ab;have e1:IntKind.i64.wrap ((i:Int)+1)=((i+1:Nat):Int):=by rw[<-wrap64 (n:=i+1) ab];congr 1
   obtain⟨x,hx⟩:∃x,Fv[i]?=some x:=⟨_,aak (show i<Fv.length from ag)⟩;have a7:=jn hx;rw[zg hx]at hb;have ak:P1 x=(decide (1<=s.length) && (s.getD 0 0 == x)):=by rw[<-ao]
   apply RG;simp only[go_sem,iv,bi,h7];have am:((xW ⟨#[43,45,42,47,37,60,62,61,33,40,41,123,125,44,59,58]⟩ i:Nat):Int)=bZ x:=a7;have a3:(0:Int)<=(i:Int)/\(i:Int)<16:=⟨ab,ab⟩;cases h2:decide ((s.length:Int)>=1)
   ·have:P1 x=false:=by rw[ak,abT (by have:=abN h2;omega),Bool.false_and]
    rw[this]at hb;refine eP [0,1,2,3,4,5,6,7,8,9] [] [] ?_;apply au;simp only[go_sem,iv,bi,h2];refine aw ?_;apply RG;simp only[go_sem,iv,e1];exact aa (i+1) _ _ ab bM (by simp only[go_sem,aa6,KW]) ⟨rfl,ag,by simpa using hb⟩
   ·have aS:=abl h2;have k2:decide (1<=s.length)=true:=abU ab;have a6:s[0]?=some (s.getD 0 0):=by
     cases s with
     |nil=>simp at aS
     |cons c t=>rfl
    have aq:=jn a6;refine eP [0,1,2,3,4,5,6,7,8,9] [] [] ?_;have an:(bZ (s.getD 0 0) == bZ x)=(s.getD 0 0 == x):=by
     unfold bZ;rw[Bool.eq_iff_iff,beq_iff_eq,beq_iff_eq];constructor
     ·intro h;exact UInt8.toNat_inj.1 ab
     ·intro h;rw[h]
    cases h3:(s.getD 0 0 == x)
    ·rw[h3]at an;have:P1 x=false:=by rw[ak,h3,Bool.and_false]
     rw[this]at hb;apply au;simp only[go_sem,iv,bi,h2,Int.toNat_zero,aq,am,an]
     try refine⟨⟨ab,ab⟩,?_⟩
     refine aw ?_;apply RG;simp only[go_sem,iv,e1];exact aa (i+1) _ _ ab bM (by simp only[go_sem,aa6,KW]) ⟨rfl,ag,by simpa using hb⟩
    ·rw[h3]at an;have:P1 x=true:=by rw[ak,h3,k2];rfl
     rw[this]at hb;apply au;simp only[go_sem,iv,bi,h2,Int.toNat_zero,aq,am,an]
     try refine⟨⟨ab,ab⟩,?_⟩
     refine aw ?_;have hr:pd s=s.take 1:=by
      unfold pd;rw[hP,hn];simp only;rw[ao,<-hb];rfl
     apply RG;simp only[go_sem,iv,bi,oJ,Int.toNat_zero,Nat.sub_zero,aa1]
     try refine⟨ab,?_⟩
     exact af rfl al (r:=[_]) rfl aj ⟨rfl,by rw[hr];rfl⟩
  ·have:i=16:=by omega
   subst this;have a2:Fv.find? P1=none:=by rw[<-hb];rfl
   have hr:pd s=[]:=by
    unfold pd;rw[hP,hn];simp only;rw[ao,a2]
   refine dP ?_;exact af rfl al (r:=[_]) rfl aj ⟨rfl,by rw[hr];rfl⟩
def Ln(s:bq)(hl:s.length<2^60)(I:PH):aK prog 254 #[.string ⟨⟨s⟩⟩] I [] fun v I2 qs=>qs=[]/\v=.bool (lI 3 s):=by
 intro hd;refine ah 11 func254 fun w0=>?_;rw[Xb,<-Ql];cases h0:(s == [])
 rotate_left
 ·apply RG;simp only[go_sem,h0,abQ];exact af rfl hd (r:=[_]) rfl (abW _) ⟨rfl,rfl⟩
 apply RG;simp only[go_sem,h0,abK];refine bV hd rfl On (Sd s hl I) fun v I2 qs ac aa hq=>?_;obtain⟨rfl,rfl⟩:=hq;cases h2:(pd s == s)
 ·apply RG;simp only[go_sem,h2];exact af rfl ac (r:=[_]) rfl aa ⟨rfl,rfl⟩
 ·apply RG;simp only[go_sem,h2];exact af rfl ac (r:=[_]) rfl aa ⟨rfl,rfl⟩
variable{k:Nat}
def Ng:((k:Int) == ((n:Nat):Int))=decide (k=n):=by
 by_cases h:k=n
 ·subst h;simp
 ·rw[abT h];simp;omega
def Mx(k:Nat)(s:bq)(v1 v2 v3 v4:Value)(hl:s.length<2^60)(I:PH):aK prog 190 #[.agg #[.int .u8 k,.string ⟨⟨s⟩⟩,v1,v2,v3,v4]] I [] fun v I2 qs=>qs=[]/\v=.bool (lI k s):=by
 intro hd;refine ah 20 func190 fun w0=>?_;have q1:((k:Int) == 1)=decide (k=1):=Ng (n:=1);have q2:((k:Int) == 2)=decide (k=2):=Ng (n:=2);have q3:((k:Int) == 3)=decide (k=3):=Ng (n:=3);by_cases h1:k=1
 ·subst h1;refine aT ?_;refine WZ rfl Pk (Lr s hl _) fun v H2 hv=>?_;obtain⟨rfl,rfl⟩:=hv;rw[Xp];refine aT ?_;exact af rfl hd (r:=[_]) rfl (abW _) ⟨rfl,rfl⟩
 by_cases h2:k=2
 ·subst h2;refine aT ?_;refine WZ rfl Q0 (EW s hl _) fun v H2 hv=>?_;obtain⟨rfl,rfl⟩:=hv;rw[XB,<-KA];refine aT ?_;exact af rfl hd (r:=[_]) rfl (abW _) ⟨rfl,rfl⟩
 by_cases h3:k=3
 ·subst h3;refine aT ?_;refine bV hd rfl Oa (Ln s hl I) fun v I2 qs ac aa hq=>?_;obtain⟨rfl,rfl⟩:=hq;refine aT ?_;exact af rfl ac (r:=[_]) rfl aa ⟨rfl,rfl⟩
 rw[abT h1]at q1;rw[abT h2]at q2;rw[abT h3]at q3;apply RG;simp only[go_sem,q1,q2,q3];exact af rfl hd (r:=[_]) rfl (abW _) ⟨rfl,by rw[L6 h1 h2 h3];rfl⟩
def Ak(s:bq):∀(l:List bq) (i:Nat),decide (ss s i l>=0)=l.contains s:=by
 have key:∀(l:List bq) (i:Nat),ss s i l>=0<->s∈l:=by
  intro l
  induction l with
  |nil=>intro i;exact⟨fun h=>absurd h (by show ¬(-1:Int)>=0;omega),fun h=>(aaB h).elim⟩
  |cons x l ih=>
   intro i;show (if x=s then (i:Int)else ss s (i+1) l)>=0<->_;by_cases h:x=s
   ·rw[aaq h];exact⟨fun _=>by rw[h];exact .head _,fun _=>by omega⟩
   ·rw[ZV h,ih,aad];exact⟨.inr,fun k=>k.resolve_left fun e=>h e.symm⟩
 intro l i;rw[Bool.eq_iff_iff,aaC,key,List.contains_iff_mem]
def rP:List bq:=[lT,Gg,vM,oO,kT,dr,jG,iH,jU,ew,pH,mK,qX]
theorem S2(s:bq)(I:PH):aK prog 239 #[.string ⟨⟨s⟩⟩] I [] fun v I2 qs=>qs=[]/\v=.bool (dG s):=by
 intro hd;refine ah 7 func239 fun w0=>?_;refine aT ?_;refine ax hd (by exact xi) rfl rfl rfl rfl rfl bg fun nb I1 ac aa ag=>?_;have hS:MI I1 (.slice (some ⟨nb,0,none⟩) 13 13) rP:=⟨_,_,rfl,.inr ⟨nb,0,_,rfl,(az ag (by simp[aD,Value.cells,rP]) (by simp[aD,Value.cells,rP,lT,Gg,vM,oO,kT,dr,jG,iH,jU,ew,pH,mK,qX]):aP I1 nb 0 (rP.map fun x=>.string ⟨⟨x⟩⟩)),pq rP⟩⟩;refine aT ?_;refine WZ rfl GE (JM (Sl.le (R:=vC) (fun{I J c a} h k=>h) hS (cP ac)) s bg) fun v H2 hv=>?_;obtain⟨rfl,rfl⟩:=hv;have h1:decide (ss s 0 rP>=0)=dG s:=Ak s rP 0;apply RG;simp only[go_sem,h1];exact af rfl ac (r:=[_]) rfl aa ⟨rfl,rfl⟩
def j4:List (List bq):=[[xU],[nK],[wT,Si,Uc,TZ,S1,Ss],[ym,jS],[Fi,EG,FM]]
def Rg(I:PH)(c:List Value)(l:List bq):Prop:=∃v,c=[v]/\MI I v l
variable{I:PH}
def Rg.len(c:List Value)(x:List bq)(h:Rg I c x):c.length=1:=by obtain⟨v,e,_⟩:=h;rw[e];rfl
variable{c:List Value}{J:PH}
def Rg.le{x:List bq}(h:Rg I c x)(k:I.le J):Rg J c x:=by
 obtain⟨v,e,h⟩:=h;exact⟨v,e,Sl.le (R:=vC) (fun{I J c a} h k=>h) h k⟩
def DD(s:bq):Nat->List (List bq)->Int
 |_,[]=>-1
 |i,l::ls=>if l.contains s then i else DD s (i+1) ls
def N9(s:bq)(v:Value)(i:Nat):St:=⟨dn 25 [(0,.v (.string ⟨⟨s⟩⟩)),(3,.v v),(4,.v (iv i))],[]⟩
theorem QQ(s:bq)(I:PH):aK prog 157 #[.string ⟨⟨s⟩⟩] I [] fun v I2 qs=>qs=[]/\v=.int .i64 (DD s 0 j4):=by
 intro hd;refine ah 25 func157 fun w0=>?_;refine aT ?_;refine ax hd (by exact xi) rfl rfl rfl rfl rfl bg fun n1 I1 bc ag a6=>?_;have h1:MI I1 (.slice (some ⟨n1,0,none⟩) 1 1) [xU]:=⟨_,_,rfl,.inr ⟨n1,0,_,rfl,(az a6 (by simp[aD,Value.cells]) (by simp[aD,Value.cells,xU]):aP I1 n1 0 ([xU].map fun x=>.string ⟨⟨x⟩⟩)),pq _⟩⟩;refine aT ?_;refine ax bc (by exact xi) rfl rfl rfl rfl rfl bg fun n2 I2 bb aS a5=>?_;have h2:MI I2 (.slice (some ⟨n2,0,none⟩) 1 1) [nK]:=⟨_,_,rfl,.inr ⟨n2,0,_,rfl,(az a5 (by simp[aD,Value.cells]) (by simp[aD,Value.cells,nK]):aP I2 n2 0 ([nK].map fun x=>.string ⟨⟨x⟩⟩)),pq _⟩⟩;refine aT ?_;refine ax bb (by exact xi) rfl rfl rfl rfl rfl bg fun n3 I3 ba aq a4=>?_;have h3:MI I3 (.slice (some ⟨n3,0,none⟩) 6 6) [wT,Si,Uc,TZ,S1,Ss]:=⟨_,_,rfl,.inr ⟨n3,0,_,rfl,(az a4 (by simp[aD,Value.cells]) (by simp[aD,Value.cells,wT,Si,Uc,TZ,S1,Ss]):aP I3 n3 0 ([wT,Si,Uc,TZ,S1,Ss].map fun x=>.string ⟨⟨x⟩⟩)),pq _⟩⟩;refine aT ?_;refine ax ba (by exact xi) rfl rfl rfl rfl rfl bg fun n4 I4 a9 ao a3=>?_;have h4:MI I4 (.slice (some ⟨n4,0,none⟩) 2 2) [ym,jS]:=⟨_,_,rfl,.inr ⟨n4,0,_,rfl,(az a3 (by simp[aD,Value.cells]) (by simp[aD,Value.cells,ym,jS]):aP I4 n4 0 ([ym,jS].map fun x=>.string ⟨⟨x⟩⟩)),pq _⟩⟩;refine aT ?_;refine ax a9 (by exact xi) rfl rfl rfl rfl rfl bg fun n5 I5 a7 an a2=>?_;have h5:MI I5 (.slice (some ⟨n5,0,none⟩) 3 3) [Fi,EG,FM]:=⟨_,_,rfl,.inr ⟨n5,0,_,rfl,(az a2 (by simp[aD,Value.cells]) (by simp[aD,Value.cells,Fi,EG,FM]):aP I5 n5 0 ([Fi,EG,FM].map fun x=>.string ⟨⟨x⟩⟩)),pq _⟩⟩;refine aT ?_;refine ax a7 (by exact Wk) rfl rfl rfl rfl rfl bg fun n6 I6 ak am a1=>?_;have up:∀{I:PH} {v:Value} {l:List bq},MI I v l->I.le I6->MI I6 v l:=fun h k=>Sl.le (R:=vC) (fun{I J c a} h k=>h) h k;have k5:=am;have k4:=abV an k5
 have k3:=abV ao k4;have k2:=abV aq k3;have k1:=abV aS k2;have hS:Sl Rg I6 (.slice (some ⟨n6,0,none⟩) 5 5) j4:=⟨_,_,rfl,.inr ⟨n6,0,_,rfl,(az a1 (by simp[aD,Value.cells]) (by simp[aD,Value.cells]):aP I6 n6 0 [.slice (some ⟨n1,0,none⟩) 1 1,.slice (some ⟨n2,0,none⟩) 1 1,.slice (some ⟨n3,0,none⟩) 6 6,.slice (some ⟨n4,0,none⟩) 2 2,.slice (some ⟨n5,0,none⟩) 3 3]),⟨[_],_,rfl,⟨_,rfl,up h1 k1⟩,[_],_,rfl,⟨_,rfl,up h2 k2⟩,[_],_,rfl,⟨_,rfl,up h3 k3⟩,[_],_,rfl,⟨_,rfl,up h4 k4⟩,[_],_,rfl,⟨_,rfl,up h5 k5⟩,rfl⟩⟩⟩;clear h1 h2 h3 h4 h5 a6 a5 a4 a3 a2 a1;refine aT ?_;refine aA (fun x=>5-x) (N9 s (.slice (some ⟨n6,0,none⟩) 5 5)) (fun i H3=>H3=U [I6]/\i<=5/\DD s i (j4.drop i)=DD s 0 j4) 0 bM (by simp only[go_sem,aa6,N9]) ⟨rfl,aaL _,rfl⟩ ?_;rintro i H3 ⟨rfl,hi,ha⟩ aa;simp only[N9];rcases aaf i 5 with al|bx
 ·have h7:decide ((i:Int)<5)=true:=abU ab;have e1:IntKind.i64.wrap ((i:Int)+1)=((i+1:Nat):Int):=by rw[<-wrap64 (n:=i+1) ab];congr 1
  obtain⟨x,hx⟩:∃x,j4[i]?=some x:=⟨_,aak (show i<j4.length from al)⟩;obtain⟨b,off,cs,e0,⟨v,rfl,hv⟩,aj⟩:=Sl.load (R:=Rg) (fun{I} c a h=>Rg.len (I:=I) c a h) hS hx;cases e0
  obtain⟨xa,xc,rfl,_⟩:=id hv;have bs:x.length<=6:=by
   have:∀y∈j4,y.length<=6:=by decide
   exact this x (aaV hx)
  have bd:j4.drop i=x::j4.drop (i+1):=by
   have ac:i<j4.length:=al;rw[aaK ac];rw[aak ac]at hx;rw[aaZ hx]
  rw[bd]at ha;simp only[DD]at ha;apply RG;simp only[go_sem,iv,h7]
  try refine⟨ab,?_⟩
  refine XN (l:=[.slice xa x.length xc]) rfl (cellsU ak (.head _) (by simpa using aj)) (.inr ⟨Rr,rfl⟩) ?_;refine dP ?_;refine WZ rfl GE (JM (Sl.le (R:=vC) (fun{I J c a} h k=>h) hv (cP ak)) s ab) fun v H2 hv=>?_;obtain⟨rfl,rfl⟩:=hv;have hf:=Ak s x 0;cases hc:x.contains s
  ·rw[hc]at hf ha;rw[ZV bg]at ha;apply RG;simp only[go_sem,iv,hf,e1];exact aa (i+1) _ _ ab bM (by simp only[go_sem,aa6,N9]) ⟨rfl,al,ha⟩
  ·rw[hc]at hf ha;rw[aaq rfl]at ha;apply RG;simp only[go_sem,iv,hf];exact af rfl ak (r:=[_]) rfl (abV ag k1) ⟨rfl,by rw[<-ha];rfl⟩
 ·have:i=5:=by omega
  subst this;refine dP ?_;exact af rfl ak (r:=[_]) rfl (abV ag k1) ⟨rfl,by rw[<-ha];rfl⟩
variable{v:Value}{A:PH}{size:Nat}{e:TypeId}
def Ow.elem{R:PH->List Value->α->Prop}{l:List α}(h:Ow R e size I A v l)(hR:∀{I} c a,R I c a->c.length=size)(aj:∀{I J c a},R I c a->I.le J->R J c a){x:α}(hi:l[i]?=some x):
  ∃g cap cur c,v=.slice (some ⟨g,0,none⟩) l.length cap/\A=sg g (.cells cur e (0,0))/\l.length*size<=cur.size/\l.length<=cap/\R I c x/\c.length=size/\aP A g (i*size) c/\
   ∀J c' y,I.le J->R J c' y->Ow R e size J (sg g (.cells (br cur.toList (i*size) c').toArray e (0,0))) v (l.set i y):=by
 have ac:=(List.getElem?_eq_some_iff.1 hi).1;obtain⟨g,cap,cur,xs,ev,rfl,c1,c2,c3,c4,c5,ag⟩:=h.open' ab fun c a k=>hR c a k;have am:l.length*size<=cap*size:=aaQ _ c1;have al:(i+1)*size<=l.length*size:=aaQ _ ac;rw[aaP,abj]at al;have hg:=ag.get (fun c a k=>hR c a k) hi;have aa:=hR _ _ hg;have hc:=gQ (k:=0) (m:=size) (e:=e) (g:=g) (cur:=cur) (fun c a k=>hR c a k) ag ac ab c4 rfl ab;refine⟨g,cap,cur,_,ev,rfl,ab,c1,hg,aa,?_,?_⟩
 ·simpa[aa,aa4]using hc
 ·intro J c' y hJ hy;have ak:=hR _ _ hy;refine⟨br xs (i*size+0) c',?_,?_⟩
  ·rw[ev,aa0];exact oI c5 c1 c2 c3 c4 ab
  ·refine om (fun c a k=>hR c a k) (ag.mono fun _ _ h=>aj h hJ) ac rfl ab ?_;have:br ((xs.drop (i*size)).take size) 0 c'=c':=by
    rw[fE _ _ _ ab];simp[aa,ak]
   rw[this];exact hy
def Ow.part{R:PH->List Value->α->Prop}{l:List α}(h:Ow R e size I A v l)(hR:∀{I} c a,R I c a->c.length=size)(aj:∀{I J c a},R I c a->I.le J->R J c a){x:α}(hi:l[i]?=some x)(k m:Nat)(hk:k+m<=size):
  ∃g cap cur c,v=.slice (some ⟨g,0,none⟩) l.length cap/\A=sg g (.cells cur e (0,0))/\l.length*size<=cur.size/\R I c x/\c.length=size/\aP A g (i*size+k) ((c.drop k).take m)/\
   ∀J cs y,I.le J->k+cs.length<=size->R J (br c k cs) y->Ow R e size J (sg g (.cells (br cur.toList (i*size+k) cs).toArray e (0,0))) v (l.set i y):=by
 have aa:=(List.getElem?_eq_some_iff.1 hi).1;obtain⟨g,cap,cur,xs,ev,rfl,c1,c2,c3,c4,c5,ac⟩:=h.open' ab fun c a k=>hR c a k;have am:l.length*size<=cap*size:=aaQ _ c1;have ak:(i+1)*size<=l.length*size:=aaQ _ aa;rw[aaP,abj]at ak;have hg:=ac.get (fun c a k=>hR c a k) hi;have ag:=hR _ _ hg;have hc:=gQ (k:=k) (m:=m) (e:=e) (g:=g) (cur:=cur) (fun c a k=>hR c a k) ac aa ab c4 rfl hk;refine⟨g,cap,cur,_,ev,rfl,ab,hg,ag,hc,?_⟩;intro J cs y hJ al hy;refine⟨br xs (i*size+k) cs,?_,?_⟩
 ·rw[ev,aa0];exact oI c5 c1 c2 c3 c4 ab
 ·exact om (fun c a k=>hR c a k) (ac.mono fun _ _ h=>aj h hJ) aa rfl al hy
def eG.ones{n:cO}(h:eG I c n):c.all Sx.one=true:=by
 obtain⟨a,k,e,_⟩:=h;rw[e];rfl
def mG{j:Nat}(h:j+1<2^62):IntKind.i64.wrap (((j+1:Nat):Int)-1)=(j:Int):=by
 have:=cH (a:=j+1) (b:=1) ab ab;rw[show ((1:Nat):Int)=1 from rfl]at this;rw[this];omega
def iX(h:k<2^61):IntKind.i64.wrap ((k:Int)-1)=(k:Int)-1:=by
 have:=cH (a:=k) (b:=1) ab ab
 rwa [show ((1:Nat):Int)=1 from rfl]at this
def Of:aO prog 271:=⟨_,func271,rfl,rfl⟩
def Bw:aO prog 309:=⟨_,func309,rfl,rfl⟩
def Ap:aO prog 300:=⟨_,func300,rfl,rfl⟩
def BD:aO prog 299:=⟨_,func299,rfl,rfl⟩
def QA:aO prog 274:=⟨_,func274,rfl,rfl⟩
def Pz:aO prog 276:=⟨_,func276,rfl,rfl⟩
def AU:aO prog 224:=⟨_,func224,rfl,rfl⟩
def P4:aO prog 147:=⟨_,func147,rfl,rfl⟩
def PC:aO prog 280:=⟨_,func280,rfl,rfl⟩
def GC:aO prog 225:=⟨_,func225,rfl,rfl⟩
def oM:∀(f x k:Nat),x<2^f->(Lib.bitLenAux f x<=k<->x<2^k)
 |0,x,k,h=>by
  have:x=0:=by simpa using h
  subst this;simp[Lib.bitLenAux,Nat.two_pow_pos]
 |f+1,x,k,h=>by
  rw[Lib.bitLenAux];by_cases hx:x=0
  ·subst hx;simp[Nat.two_pow_pos]
  ·rw[ZV hx];cases k with
   |zero=>simp;omega
   |succ k=>
    have:=oM f (x / 2) k (by rw[abd]at h;omega);rw[abd];omega
def Ib(h:n<2^64):Lib.bitLen n=Sort.bitsLen n:=by
 apply Nat.le_antisymm
 ·exact(oM 64 n _ h).2 (Sort.lt_two_pow_bitsLen n)
 ·exact(Sort.bitsLen_le_iff n _).2 ((oM 64 n _ h).1 (ZR _))
def Qw(hn:n<2^63)(H:PH):bO prog 280 #[.int .u64 n] H fun v H2=>v=iv (Sort.bitsLen n)/\H2=H:=by
 intro w hw;refine(Any.bits_Len64 { lays171 with } (n:Int) w ab ab).mono ?_;rintro e w2 ⟨rfl,rfl⟩;exact⟨H,dM.refl hw,by rw[Int.toNat_natCast,Ib ab];rfl,rfl⟩
def RZ(hn:n<2^63)(H:PH):bO prog 225 #[.int .u64 n] H fun v H2=>v=iv (Sort.bitsLen n)/\H2=H:=by
 refine ah 8 func225 fun w0=>?_;refine aT ?_;refine WZ rfl PC (Qw hn H) fun v H2 hv=>?_;obtain⟨rfl,rfl⟩:=hv;refine aT ?_;exact aJ (r:=[_]) rfl ⟨rfl,rfl⟩
def w4(l:List Nd):Prop:=∀(i j:Nat) (x y:Nd),i<j->l[i]?=some x->l[j]?=some y->dp y x=false
variable{l:List Nd}
def bQ.two{j:Nat}(h:bQ I A v l)(hs:w4 l)(aa:i<j)(hj:j<l.length):
  ∃g cap ci cj x y,v=.slice (some ⟨g,0,none⟩) l.length cap/\bm I ci x/\bm I cj y/\ci.length=7/\cj.length=7/\aP A g (i*7) ci/\aP A g (j*7) cj/\dp y x=false:=by
 obtain⟨x,hx⟩:∃x,l[i]?=some x:=⟨_,aak ab⟩;obtain⟨y,hy⟩:∃x,l[j]?=some x:=⟨_,aak hj⟩;obtain⟨g,cap,cur,ci,ev,rfl,_,_,a1,a2,a3,_⟩:=h.elem (fun{I} c a h=>bm.len c a h) (fun{I J c a} h k=>bm.le h k) hx;obtain⟨g2,cap2,cur2,cj,ev2,eA,_,_,b1,b2,b3,_⟩:=h.elem (fun{I} c a h=>bm.len c a h) (fun{I J c a} h k=>bm.le h k) hy;rw[ev]at ev2;cases ev2
 exact⟨g,cap,ci,cj,x,y,ev,a1,b1,a2,b2,a3,b3,hs i j x y aa hx hy⟩
def Cj(v va vb vc:Value)(i:Nat):St:=⟨dn 53 [(0,.v v),(1,.v va),(2,.v vb),(3,.v vc),(8,.v (iv i))],[]⟩
def GY(v va vb vc:Value)(i:Nat)(j:Nat):St:=⟨dn 53 [(0,.v v),(1,.v va),(2,.v vb),(3,.v vc),(8,.v (iv i)),(9,.v (iv j))],[]⟩
variable{b:Nat}{vc:Value}
theorem K7{a:Nat}(hA:bQ I A v l)(hc:mC bm dp vc)(hs:w4 l)(hb:b<=l.length)(hn:l.length<=aN)(ha:a<=l.length):
  aK prog 271 #[v,iv a,iv b,vc] I [A] fun _ _ qs=>qs=[A]:=by
 intro hd;unfold aN at hn;obtain⟨f,first,cap,rfl,gf,cf⟩:=id hc;obtain⟨va,vk,rfl⟩:=hA.shape;have w1':IntKind.i64.wrap ((a:Int)+1)=((a+1:Nat):Int):=by rw[<-wrap64 (n:=a+1) ab];congr 1
 refine ah 53 func271 fun w0=>?_
 try simp only[iv]
 apply RG;simp only[go_sem,w1'];refine aA (fun i=>b-i) (Cj (.slice va l.length vk) (iv a) (iv b) (.func (.func f) first cap)) (fun i H=>∃I2,H=U [I2,A]/\Dj [I2,A]/\I.le I2/\a+1<=i) (a+1) bM (by simp only[go_sem,aa6,Cj]) ⟨I,rfl,hd,abW _,ZR _⟩ ?_;rintro i H ⟨I2,rfl,ag,aa,a2⟩ ac;simp only[Cj];rcases aaf i b with aS|a1
 ·have al:decide ((i:Int)<(b:Int))=true:=by simp;omega
  have aq:IntKind.i64.wrap ((i:Int)+1)=((i+1:Nat):Int):=by rw[<-wrap64 (n:=i+1) ab];congr 1
  apply RG;simp only[go_sem,al,iv];refine aA (fun j=>j) (GY (.slice va l.length vk) (iv a) (iv b) (.func (.func f) first cap) i) (fun j H=>j=i/\H=U [I2,A]) i bM (by simp only[go_sem,aa6,GY]) ⟨rfl,rfl⟩ ?_;rintro j H ⟨rfl,rfl⟩ aj;simp only[GY];obtain⟨j,rfl⟩:∃j',j=j'+1:=⟨j-1,ab⟩;have ao:decide (((j+1:Nat):Int)>(a:Int))=true:=abU ab;have p1:=mG (j:=j) ab;obtain⟨g,cp,cj,cj1,x,y,ev,rj,rj1,lj,lj1,kj,kj1,an⟩:=bQ.two (bQ.le hA aa) hs (aba j) ab;cases ev
  refine dP ?_;refine eP [0,1,2,3,4,5,6,7,8,9,10,11,12,13,14,15,16] [8,13] [] ?_;apply au;simp only[go_sem,iv,ao,p1];refine⟨ab,?_⟩;refine W7 (l:=cj1) (v:=.agg cj1.toArray) rfl (cellsU ag (.tail _ (.head _)) (by simpa using kj1)) (.inl ⟨by rw[lj1];exact cL,rfl⟩) ?_;apply au;simp only[go_sem,iv,p1];refine⟨ab,?_⟩;refine W7 (l:=cj) (v:=.agg cj.toArray) rfl (cellsU ag (.tail _ (.head _)) (by simpa using kj)) (.inl ⟨by rw[lj];exact cL,rfl⟩) ?_;apply au;simp only[go_sem,iv,p1];refine aE ag [0] [] [_] rfl gf rfl (cf I2 _ _ _ _ rj1 rj) fun v I4 qs am ak hq=>?_;obtain⟨rfl,z,rfl,hz⟩:=hq;simp only[Z3]at am |-;rw[an]at hz;refine dS ?_;refine aw ?_;apply RG;simp only[go_sem,iv,hz,aq];exact ac (j+1+1) _ _ ab bM (by simp only[go_sem,aa6,Cj]) ⟨I4,rfl,am,abV aa ak,ab⟩
 ·have al:decide ((i:Int)<(b:Int))=false:=by simp;omega
  apply RG;simp only[go_sem,al,iv];exact d8 rfl ag (r:=[]) rfl aa (by exact rfl)
abbrev Cu(b n:Nat):PH:=sg b (.cells #[iv n] 3 (0,0))
theorem eh{a sb:Nat}(hA:bQ I A v l)(hc:mC bm dp vc)(hs:w4 l)(ha:a<b)(hb:b<l.length)(hn:l.length<=aN):
  aK prog 309 #[v,iv a,iv b,pt sb,vc] I [A,Cu sb n] fun r _ qs=>qs=[A,Cu sb n]/\r=.tuple #[iv a,iv b]:=by
 intro hd;unfold aN at hn;obtain⟨f,fst,cap,rfl,gf,cf⟩:=id hc;obtain⟨g,cp,cj,ci,x,y,rfl,rj,ri,lj,li,kj,ki,ag⟩:=bQ.two hA hs ha hb;refine ah 32 func309 fun w0=>?_
 try simp only[iv,pt]
 refine aT ?_;refine eP [0,1,2,3,4,5,6,7,8,9,10] [4,8] [] ?_;refine dS ?_;refine⟨ab,?_⟩;refine W7 (l:=ci) (v:=.agg ci.toArray) rfl (cellsU hd (.tail _ (.head _)) (by simpa using ki)) (.inl ⟨by rw[li];exact cL,rfl⟩) ?_;refine dS ?_;refine⟨ab,?_⟩;refine W7 (l:=cj) (v:=.agg cj.toArray) rfl (cellsU hd (.tail _ (.head _)) (by simpa using kj)) (.inl ⟨by rw[lj];exact cL,rfl⟩) ?_;refine dS ?_;refine aE hd [0,1] [] [_,_] rfl gf rfl (cf I _ _ _ _ ri rj) fun v I2 qs ac aa hq=>?_;obtain⟨rfl,z,rfl,hz⟩:=hq;simp only[Z3]at ac |-;rw[ag]at hz;refine dS ?_;refine aw ?_;apply RG;simp only[go_sem,iv,hz];exact af rfl ac (r:=[iv a,iv b]) rfl aa ⟨rfl,rfl⟩
def d7{a c sb:Nat}(hA:bQ I A v l)(hc:mC bm dp vc)(hs:w4 l)(am:a<b)(ao:b<c)(an:c<l.length)(hn:l.length<=aN):
  aK prog 300 #[v,iv a,iv b,iv c,pt sb,vc] I [A,Cu sb n] fun r _ qs=>qs=[A,Cu sb n]/\r=iv b:=by
 intro hd;obtain⟨f,fst,cap,rfl,gf,cf⟩:=id hc;obtain⟨va,vk,rfl⟩:=hA.shape;refine ah 41 func300 fun w0=>?_
 try simp only[iv,pt]
 refine aT ?_;refine ad hd [0,1] [A,Cu sb n] [] rfl Bw rfl (eh (a:=a) (b:=b) hA hc hs am ab hn) fun v I2 qs al aa hq=>?_;obtain⟨rfl,rfl⟩:=hq;simp only[Z3]at al |-;refine ll ?_;refine ad al [0,1] [A,Cu sb n] [] rfl Bw rfl (eh (a:=b) (b:=c) (bQ.le hA aa) hc hs ao an hn) fun v I3 qs ak ac hq=>?_;obtain⟨rfl,rfl⟩:=hq;simp only[Z3]at ak |-;refine ll ?_;refine ad ak [0,1] [A,Cu sb n] [] rfl Bw rfl (eh (a:=a) (b:=b) (bQ.le hA (abV aa ac)) hc hs am ab hn) fun v I4 qs aj ag hq=>?_;obtain⟨rfl,rfl⟩:=hq;simp only[Z3]at aj |-;refine ll ?_;exact af rfl aj (r:=[iv b]) rfl (abV aa (abV ac ag)) ⟨rfl,rfl⟩
def d6{a sb:Nat}(hA:bQ I A v l)(hc:mC bm dp vc)(hs:w4 l)(h1:1<=a)(ha:a+1<l.length)(hn:l.length<=aN):
  aK prog 299 #[v,iv a,pt sb,vc] I [A,Cu sb n] fun r _ qs=>qs=[A,Cu sb n]/\r=iv a:=by
 intro hd;have ag:=hn;unfold aN at ag;obtain⟨f,fst,cap,rfl,gf,cf⟩:=id hc;obtain⟨va,vk,rfl⟩:=hA.shape;refine ah 18 func299 fun w0=>?_
 try simp only[iv,pt]
 have w2:IntKind.i64.wrap ((a:Int)-1)=((a-1:Nat):Int):=by rw[iX ab];omega
 have w1:IntKind.i64.wrap ((a:Int)+1)=((a+1:Nat):Int):=by
  have e0:(a:Int)+1=((a+1:Nat):Int):=by omega
  rw[e0];exact wrap64 ab
 apply RG;simp only[go_sem,w1,w2];refine ad hd [0,1] [A,Cu sb n] [] rfl Ap rfl (d7 (a:=a-1) (b:=a) (c:=a+1) hA hc hs ab ab ha hn) fun v I2 qs ac aa hq=>?_;obtain⟨rfl,rfl⟩:=hq;simp only[Z3]at ac |-;refine ll ?_;exact af rfl ac (r:=[iv a]) rfl aa ⟨rfl,rfl⟩
theorem w5(hA:bQ I A v l)(hc:mC bm dp vc)(hs:w4 l)(bb:12<b)(hb:b<=l.length)(hn:l.length<=aN):
  aK prog 274 #[v,.int .i64 0,iv b,vc] I [A] fun r _ qs=>qs=[A]/\∃m:Nat,r=.tuple #[iv m,.int .i64 1]:=by
 intro hd;have a5:=hn;unfold aN at a5;obtain⟨f,fst,cap,rfl,gf,cf⟩:=id hc;obtain⟨va,vk,rfl⟩:=hA.shape;refine ah 63 func274 fun w0=>?_
 try simp only[iv,pt]
 have w1:IntKind.i64.wrap ((b:Int)-0)=((b:Nat):Int):=by rw[Int.sub_zero];exact wrap64 ab
 obtain⟨q,hq⟩:∃q,q=b / 4:=⟨_,rfl⟩;have ba:4*q<=b:=by omega
 have a9:3<=q:=by omega
 have wq:IntKind.i64.wrap (((b:Nat):Int).tdiv 4)=(q:Int):=by
  rw[show ((b:Nat):Int).tdiv 4=((b / 4:Nat):Int) from rfl,<-hq,wrap64 ab]
 have m1:IntKind.i64.wrap ((q:Int)*1)=((q:Nat):Int):=by
  have e0:(q:Int)*1=((q:Nat):Int):=by omega
  rw[e0];exact wrap64 ab
 have m2:IntKind.i64.wrap ((q:Int)*2)=((2*q:Nat):Int):=by
  have e0:(q:Int)*2=((2*q:Nat):Int):=by omega
  rw[e0];exact wrap64 ab
 have m3:IntKind.i64.wrap ((q:Int)*3)=((3*q:Nat):Int):=by
  have e0:(q:Int)*3=((3*q:Nat):Int):=by omega
  rw[e0];exact wrap64 ab
 have s0:∀k:Nat,k<2^60->IntKind.i64.wrap ((0:Int)+(k:Int))=((k:Nat):Int):=fun k hk=>by rw[Int.zero_add];exact wrap64 ab
 have s1:=s0 q ab;have s2:=s0 (2*q) ab;have s3:=s0 (3*q) ab;have a4:decide ((b:Int)>=8)=true:=abU ab;apply bL 15;simp only[go_sem,w1];refine fV 11 hd rfl fun sb a3=>?_;have a6:Dj [I,Cu sb 0,A]:=a3
 change RC _ _ _ (U [I,Cu sb 0,A])
 clear a3;refine bf a6 [1,0] fun a2=>?_;rcases aaf b 50 with h5|h5
 ·have aq:decide ((b:Int)>=50)=false:=abT ab;apply RG;simp only[go_sem,mF,List.map,iv,pt,wq,m1,m2,m3,s1,s2,s3,a4,aq];refine ad a2 [0,1] [A,Cu sb 0] [] rfl Ap rfl (d7 (a:=q) (b:=2*q) (c:=3*q) hA hc hs ab ab ab hn) fun v I2 qs ak aa hq=>?_;obtain⟨rfl,rfl⟩:=hq;simp only[Z3]at ak |-;refine ll ?_;refine XN (l:=[iv 0]) rfl (cellsU ak (.tail _ (.tail _ (.head _))) (ay (by simp) rfl)) (.inr ⟨jq,rfl⟩) ?_;refine dP ?_;refine bf ak [1,0] fun aj=>?_;refine ae aj fun I9 aj ac a7=>?_;exact af rfl aj (r:=[iv (2*q),.int .i64 1]) rfl (abV aa ac) ⟨rfl,_,rfl⟩
 ·have aq:decide ((b:Int)>=50)=true:=abU ab;apply RG;simp only[go_sem,mF,List.map,iv,pt,wq,m1,m2,m3,s1,s2,s3,a4,aq];refine ad a2 [0,1] [A,Cu sb 0] [] rfl BD rfl (d6 (a:=q) hA hc hs ab ab hn) fun v I2 qs ak aa hq=>?_;obtain⟨rfl,rfl⟩:=hq;simp only[Z3]at ak |-;refine ll ?_;refine ad ak [0,1] [A,Cu sb 0] [] rfl BD rfl (d6 (a:=2*q) (bQ.le hA aa) hc hs ab ab hn) fun v I3 qs a1 ag hq=>?_;obtain⟨rfl,rfl⟩:=hq;simp only[Z3]at a1 |-;refine ll ?_;refine ad a1 [0,1] [A,Cu sb 0] [] rfl BD rfl (d6 (a:=3*q) (bQ.le hA (abV aa ag)) hc hs ab ab hn) fun v I4 qs aS al hq=>?_;obtain⟨rfl,rfl⟩:=hq;simp only[Z3]at aS |-;refine ll ?_;refine ad aS [0,1] [A,Cu sb 0] [] rfl Ap rfl (d7 (a:=q) (b:=2*q) (c:=3*q) (bQ.le hA (abV aa (abV ag al))) hc hs ab ab ab hn) fun v I5 qs ao an hq=>?_;obtain⟨rfl,rfl⟩:=hq;simp only[Z3]at ao |-;refine ll ?_;have am:=abV aa (abV ag (abV al an));refine XN (l:=[iv 0]) rfl (cellsU ao (.tail _ (.tail _ (.head _))) (ay (by simp) rfl)) (.inr ⟨jq,rfl⟩) ?_;refine dP ?_;refine bf ao [1,0] fun aj=>?_;refine ae aj fun I9 aj ac a7=>?_;exact af rfl aj (r:=[iv (2*q),.int .i64 1]) rfl (abV am ac) ⟨rfl,_,rfl⟩
def nQ(v vb vc:Value)(i:Nat):St:=⟨dn 141 [(0,.v v),(1,.v (.int .i64 0)),(2,.v vb),(3,.v vc),(9,.v (iv i)),(10,.v (.int .i64 0))],[]⟩
theorem Jz(hA:bQ I A v l)(hc:mC bm dp vc)(hs:w4 l)(aq:0<b)(hb:b<=l.length)(hn:l.length<=aN):
  aK prog 276 #[v,.int .i64 0,iv b,vc] I [A] fun r _ qs=>qs=[A]/\r=.bool true:=by
 intro hd;unfold aN at hn;obtain⟨f,fst,cap,rfl,gf,cf⟩:=id hc;obtain⟨va,vk,rfl⟩:=hA.shape;refine ah 141 func276 fun w0=>?_
 try simp only[iv]
 have w1:IntKind.i64.wrap ((0:Int)+1)=((1:Nat):Int):=by decide
 apply RG;simp only[go_sem,w1];refine aA (fun _=>0) (fun(_:Unit)=>nQ (.slice va l.length vk) (iv b) (.func (.func f) fst cap) 1) (fun _ H=>H=U [I,A]) () bM (by simp only[go_sem,aa6,nQ]) rfl ?_;rintro _ H rfl al;simp only[nQ];refine dP ?_;refine aA (fun x=>b-x) (nQ (.slice va l.length vk) (iv b) (.func (.func f) fst cap)) (fun x H=>∃I3,H=U [I3,A]/\Dj [I3,A]/\I.le I3/\1<=x/\x<=b) 1 bM (by simp only[go_sem,aa6,nQ]) ⟨I,rfl,hd,abW _,ZR _,aq⟩ ?_;rintro x H ⟨I3,rfl,aj,ac,a2,a1⟩ aa;simp only[nQ];rcases aaf x b with ao|ao
 ·have ag:decide ((x:Int)<(b:Int))=true:=abU ab;obtain⟨x,rfl⟩:∃x',x=x'+1:=⟨x-1,ab⟩;have p1:=mG (j:=x) ab;have p2:IntKind.i64.wrap (((x+1:Nat):Int)+1)=((x+1+1:Nat):Int):=by
   have e0:((x+1:Nat):Int)+1=((x+1+1:Nat):Int):=by omega
   rw[e0];exact wrap64 ab
  obtain⟨g,cp,cj,ci,a,c,ev,rj,ri,lj,li,kj,ki,an⟩:=bQ.two (bQ.le hA ac) hs (aba x) ab;cases ev
  refine dP ?_;refine eP [0,1,2,3,4,5,6,7,8,9,10,11,12,13,14,15,16,17] [8,13] [] ?_;apply au;simp only[go_sem,iv,ag,p1];refine⟨ab,?_⟩;refine W7 (l:=ci) (v:=.agg ci.toArray) rfl (cellsU aj (.tail _ (.head _)) (by simpa using ki)) (.inl ⟨by rw[li];exact cL,rfl⟩) ?_;apply au;simp only[go_sem,iv,ag,p1];refine⟨ab,?_⟩;refine W7 (l:=cj) (v:=.agg cj.toArray) rfl (cellsU aj (.tail _ (.head _)) (by simpa using kj)) (.inl ⟨by rw[lj];exact cL,rfl⟩) ?_;apply au;simp only[go_sem,iv,ag,p1];refine aE aj [0] [] [_] rfl gf rfl (cf I3 _ _ _ _ ri rj) fun v I4 qs am ak hq=>?_;obtain⟨rfl,z,rfl,hz⟩:=hq;simp only[Z3]at am |-;rw[an]at hz;refine dS ?_;refine aw ?_;apply RG;simp only[go_sem,iv,hz,abK,p2];exact aa (x+1+1) _ _ ab bM (by simp only[go_sem,aa6,nQ]) ⟨I4,rfl,am,abV ac ak,ab,ab⟩
 ·have:x=b:=by omega
  subst this;have ag:decide ((x:Int)<(x:Int))=false:=abT ab;have aS:((x:Int) == (x:Int))=true:=by simp
  refine dP ?_;refine eP [0,1,2,3,4,5,6,7,8,9,10,11,12,13,14,15,16,17] [8,13] [] ?_;apply au;simp only[go_sem,iv,ag];refine aw ?_;apply RG;simp only[go_sem,iv,aS];exact af rfl aj (r:=[.bool true]) rfl ac ⟨rfl,rfl⟩
def IS(v vc:Value)(n k:Nat):St:=⟨dn 148 [(0,.v v),(1,.v (.int .i64 0)),(2,.v (iv n)),(3,.v (iv k)),(4,.v vc),(10,.v (.bool true)),(11,.v (.bool true))],[]⟩
theorem PX(hA:bQ I A v l)(hc:mC bm dp vc)(hs:w4 l)(hn:l.length<=aN)(hk:12<l.length->k≠0):
  aK prog 224 #[v,.int .i64 0,iv l.length,iv k,vc] I [A] fun _ _ qs=>qs=[A]:=by
 intro hd;have ao:=hn;unfold aN at ao;obtain⟨f,fst,cap,rfl,gf,cf⟩:=id hc;obtain⟨va,vk,rfl⟩:=hA.shape;refine ah 148 func224 fun w0=>?_
 try simp only[iv]
 refine aT ?_;refine aA (fun _=>0) (fun(_:Unit)=>IS (.slice va l.length vk) (.func (.func f) fst cap) l.length k) (fun _ H=>H=U [I,A]) () bM (by simp only[go_sem,aa6,IS]) rfl ?_;rintro _ H rfl am;simp only[IS];have w1:IntKind.i64.wrap ((l.length:Int)-0)=((l.length:Nat):Int):=by rw[Int.sub_zero];exact wrap64 ab
 rcases aaf 12 l.length with ag|aj
 rotate_left
 ·have al:decide ((l.length:Int)<=12)=true:=abU ab;apply RG;simp only[go_sem,iv,w1,al];refine ad hd [0] [A] [] rfl Of rfl (K7 (a:=0) (b:=l.length) hA hc hs (ZR _) hn (aaL _)) fun v I3 qs ac aa hq=>?_;obtain rfl:=hq;simp only[Z3]at ac |-;refine dP ?_;exact af rfl ac (r:=[]) rfl aa (by exact rfl)
 have al:decide ((l.length:Int)<=12)=false:=abT ab;have aq:((k:Int) == 0)=false:=by rw[abS];have:=hk ag;omega
 apply RG;simp only[go_sem,iv,w1,al,aq,abQ];refine ad hd [0] [A] [] rfl QA rfl (w5 (b:=l.length) hA hc hs ag (ZR _) hn) fun v I3 qs ac aa hq=>?_;obtain⟨rfl,m,rfl⟩:=hq;simp only[Z3]at ac |-;refine dP ?_;refine ad ac [0] [A] [] rfl Pz rfl (Jz (b:=l.length) (bQ.le hA aa) hc hs ab (ZR _) hn) fun v I4 qs an ak hq=>?_;obtain⟨rfl,rfl⟩:=hq;simp only[Z3]at an |-;refine dP ?_;exact af rfl an (r:=[]) rfl (abV aa ak) (by exact rfl)
def Ki(hA:bQ I A v l)(hc:mC bm dp vc)(hs:w4 l)(hn:l.length<=aN):
  aK prog 147 #[v,vc] I [A] fun _ _ qs=>qs=[A]:=by
 intro hd;have ag:=hn;unfold aN at ag;obtain⟨f,fst,cap,rfl,gf,cf⟩:=id hc;obtain⟨va,vk,rfl⟩:=hA.shape;have u1:=qq (n:=l.length) ab;refine ah 14 func147 fun w0=>?_;apply RG;simp only[go_sem,u1];refine WZ rfl GC (RZ ab _) fun v H2 hv=>?_;obtain⟨rfl,rfl⟩:=hv;refine dP ?_;refine ad hd [0] [A] [] rfl AU rfl (PX (k:=Sort.bitsLen l.length) hA hc hs hn (fun h e=>by have:=(Sort.bitsLen_le_iff l.length 0).1 ab;omega)) fun v I2 qs ac aa hq=>?_;obtain rfl:=hq;simp only[Z3]at ac |-;refine dP ?_;exact d8 rfl ac (r:=[]) rfl aa (by exact rfl)
def G0:aO prog 283:=⟨_,func283,rfl,rfl⟩
def PO:aO prog 235:=⟨_,func235,rfl,rfl⟩
def Q6:aO prog 167:=⟨_,func167,rfl,rfl⟩
def Kj(v vb vc:Value):St:=⟨dn 53 [(0,.v v),(1,.v (.int .i64 0)),(2,.v vb),(3,.v vc),(8,.v (.int .i64 1))],[]⟩
def w9{l:List cO}(hA:eF I A v l)(hl:l.length<=1):aK prog 283 #[v,.int .i64 0,iv l.length,vc] I [A] fun _ _ qs=>qs=[A]:=by
 intro hd;obtain⟨va,vk,rfl⟩:=hA.shape;refine ah 53 func283 fun w0=>?_
 try simp only[iv]
 have w1:IntKind.i64.wrap ((0:Int)+1)=1:=by decide
 have ac:decide ((1:Int)<(l.length:Int))=false:=abT ab;apply RG;simp only[go_sem,w1];refine aA (fun _=>0) (fun(_:Unit)=>Kj (.slice va l.length vk) (iv l.length) vc) (fun _ H=>H=U [I,A]) () bM (by simp only[go_sem,aa6,Kj]) rfl ?_;rintro _ H rfl aa;simp only[Kj];apply RG;simp only[go_sem,iv,ac];exact d8 rfl hd (r:=[]) rfl (abW _) (by exact rfl)
def Jl(v vn vc:Value):St:=⟨dn 63 [(0,.v v),(1,.v vn),(2,.v vc),(6,.v (.int .i64 20)),(7,.v (.int .i64 0)),(8,.v (.int .i64 20))],[]⟩
def MA(v vn vc:Value):St:=⟨dn 63 [(0,.v v),(1,.v vn),(2,.v vc),(6,.v (.int .i64 20))],[]⟩
def ue{l:List cO}(hA:eF I A v l)(hl:l.length<=1):aK prog 167 #[v,vc] I [A] fun _ _ qs=>qs=[A]:=by
 intro hd;obtain⟨va,vk,rfl⟩:=hA.shape;have main:aK prog 235 #[.slice va l.length vk,iv l.length,vc] I [A] fun _ _ qs=>qs=[A]:=by
  intro hd;refine ah 63 func235 fun w0=>?_
  try simp only[iv]
  have al:decide ((20:Int)<=(l.length:Int))=false:=abT ab;have ak:decide ((20:Int)<(l.length:Int))=false:=abT ab;refine aT ?_;refine aA (fun _=>0) (fun(_:Unit)=>Jl (.slice va l.length vk) (iv l.length) vc) (fun _ H=>H=U [I,A]) () bM (by simp only[go_sem,aa6,Jl]) rfl ?_;rintro _ H rfl aj;simp only[Jl];apply RG;simp only[go_sem,iv,al];refine ad hd [0] [A] [] rfl G0 rfl (w9 hA hl) fun v I3 qs ac aa hq=>?_;obtain rfl:=hq;simp only[Z3]at ac |-;refine dP ?_;refine aA (fun _=>0) (fun(_:Unit)=>MA (.slice va l.length vk) (iv l.length) vc) (fun _ H=>H=U [I3,A]) () bM (by simp only[go_sem,aa6,MA]) rfl ?_;rintro _ H rfl ag;simp only[MA];apply RG;simp only[go_sem,iv,ak];exact d8 rfl ac (r:=[]) rfl aa (by exact rfl)
 refine ah 9 func167 fun w0=>?_;refine dP ?_;refine ad hd [0] [A] [] rfl PO rfl (main) fun v I3 qs ac aa hq=>?_;obtain rfl:=hq;simp only[Z3]at ac |-;refine aT ?_;exact d8 rfl ac (r:=[]) rfl aa (by exact rfl)
def BI:aO prog 36:=⟨_,func36,rfl,rfl⟩
def To:aO prog 88:=⟨_,func88,rfl,rfl⟩
def Gt:aO prog 159:=⟨_,func159,rfl,rfl⟩
def TT:aO prog 87:=⟨_,func87,rfl,rfl⟩
def SK:aO prog 33:=⟨_,func33,rfl,rfl⟩
def VQ(a:Option Addr)(k:Nat)(t:T)(c:Nat)(u:T):St:=⟨dn 29 [(1,.v (.int .u32 c)),(2,.p 2 0),(5,.v (iv (T.plc (T.subs t) u)))],[⟨2,50,[sD a k t,rD t]⟩]⟩
theorem Gh{H:PH}{t:T}{c:Nat}(h:cX H v t)(hc:c<2^32):bO prog 36 #[v,.int .u32 c] H fun r H2=>r=.bool (t.at' (ch c))/\H2=H:=by
 obtain⟨aj,sl,rfl,hL⟩:=h;obtain⟨a,k,rfl,ak⟩:=hL;have sq:T.Seq (T.subs t):=(T.vis_spec t aj ab [] T.Seq.nil).1;have am:(T.subs t).length+1<=2^24:=by
  obtain⟨us,e1,e2,_⟩:=(T.vis_spec t aj ab [] T.Seq.nil).2.2;rw[aaA]at e1;show (t.vis []).length+1<=_;rw[e1];exact e2
 have an:T.isIn (T.subs t) t:=T.subs_in aj;refine ah 29 func36 fun w0=>?_
 try simp only[iv]
 refine aT ?_;refine aA (fun u=>u.sz) (VQ a k t c) (fun u H2=>H2=H/\T.isIn (T.subs t) u/\u.at' (ch c)=t.at' (ch c)) t bM (by simp only[go_sem,aa6,VQ,iv,sD,rD]) ⟨rfl,an,rfl⟩ ?_;rintro u H2 ⟨rfl,hu,he⟩ ac;simp only[VQ];cases u with
 |lf b=>
  have al:decide (((T.plc (T.subs t) (.lf b):Nat):Int)>1)=false:=by cases b<;>simp[T.plc]
  have aS:(((T.plc (T.subs t) (.lf b):Nat):Int) == 1)=b:=by cases b<;>simp[T.plc]
  apply RG;simp only[go_sem,iv,al,aS];exact aJ (r:=[_]) rfl ⟨by rw[<-he];rfl,rfl⟩
 |nd i l r=>
  have hm:T.nd i l r∈T.subs t:=hu;have a3:=abb hm;have hp:T.plc (T.subs t) (.nd i l r)=(T.subs t).idxOf (.nd i l r)+2:=rfl;have al:decide (((T.plc (T.subs t) (.nd i l r):Nat):Int)>1)=true:=by rw[hp];simp;omega
  have a1:IntKind.i64.wrap (((T.plc (T.subs t) (.nd i l r):Nat):Int)-2)=(((T.subs t).idxOf (.nd i l r):Nat):Int):=by
   rw[<-wrap64 (n:=(T.subs t).idxOf (.nd i l r)) ab,hp];congr 1;omega
  obtain⟨kl,kr⟩:=sq.kids hm;have ao:i<24:=(sq.okk hu).2.1;have aq:T.dec (T.subs t) (.nd i l r)=(i,T.plc (T.subs t) l,T.plc (T.subs t) r):=rfl;rcases ak with h0|⟨b,rfl,ak⟩
  ·rw[h0]at hm;simp at hm
  apply RG;simp only[go_sem,iv,sD,rD,al,a1];refine⟨ab,?_⟩;have hg:=T.plc_get hm;rw[hp,Nat.add_sub_cancel]at hg;have a2:(EN (T.subs t)).length=(T.subs t).length*3:=qp _;have ag:=ak.sub ((T.subs t).idxOf (.nd i l r)*3) 3 ab;rw[qw hg,ZZ,aq]at ag;refine XN (l:=nt (i,T.plc (T.subs t) l,T.plc (T.subs t) r)) (v:=gV (i,T.plc (T.subs t) l,T.plc (T.subs t) r)) rfl ag (.inl ⟨uK,rfl⟩) ?_;have hs:tN .u32 (ut .u32 (c:Int) (i:Int)) 1=((((c >>> i)&&&1:Nat)):Int):=by
   rw[Gj ab];exact mf (b:=1) (AL hc) ab
  have aa:=Me c i;cases hb:c.testBit i
  ·rw[hb]at aa;apply RG;simp only[go_sem,iv,sD,rD,gV,abt,hs,aa];refine ac l _ _ ?_ bM (by simp only[go_sem,aa6,VQ,iv,sD,rD]) ⟨rfl,kl,?_⟩
   ·simp only[T.sz];omega
   ·rw[<-he];simp[T.at',ch,hb]
  ·rw[hb]at aa;apply RG;simp only[go_sem,iv,sD,rD,gV,abt,hs,aa];refine ac r _ _ ?_ bM (by simp only[go_sem,aa6,VQ,iv,sD,rD]) ⟨rfl,kr,?_⟩
   ·simp only[T.sz];omega
   ·rw[<-he];simp[T.at',ch,hb]
def yE(I0:PH)(vf:Value)(g:T->T):Prop:=∃fid first cap,vf=.func (.func fid) first cap/\aO prog fid/\∀{I:PH} {v:Value} {d:T},I0.le I->cX I v d->aK prog fid (first++#[v]++cap) I [] fun r I2 qs=>qs=[]/\cX I2 r (g d)
variable{g:T->T}
def yE.le{vf:Value}(h:yE I vf g)(k:I.le J):yE J vf g:=by
 obtain⟨fid,first,cap,e,hg,hd⟩:=h;exact⟨fid,first,cap,e,hg,fun k2 hr=>hd (abV k k2) hr⟩
def ND(c:Nat)(d:T):T:=.lf (d.at' (ch c))
def K9(I:PH):cX I (.agg #[.slice none 0 0,iv 1]) (.lf true):=mN I true
def Sn(I:PH):cX I (.agg #[.slice none 0 0,iv 0]) (.lf false):=mN I false
def PB{I0:PH}{cb c:Nat}(hb:aP I0 cb 0 [.int .u32 c])(hc:c<2^32):yE I0 (.func (.func 88) #[] #[pt cb]) (ND c):=by
 refine⟨88,#[],#[pt cb],rfl,To,fun{I v d} ac hr hd=>?_⟩;obtain⟨a,k,rfl⟩:=hr.shape2;show bO prog 88 #[.agg #[sD a k d,rD d],pt cb] _ _;refine ah 9 func88 fun w0=>?_
 try simp only[iv,pt,sD,rD]
 refine aT ?_;refine XN (l:=[.int .u32 c]) rfl (cellsU hd (.head _) (hb.le ac)) (.inr ⟨oR,rfl⟩) ?_;refine aT ?_;refine WZ rfl BI (Gh (hr.le (cP hd)) hc) fun v H2 hv=>?_;obtain⟨rfl,rfl⟩:=hv;cases aa:d.at' (ch c)
 ·refine aT ?_;refine WZ rfl yl (sU _) fun v H2 hv=>?_;obtain⟨rfl,rfl⟩:=hv;refine dP ?_;exact af rfl hd (r:=[.agg #[.slice none 0 0,.int .i64 0]]) (by simp only[results88,go_sem,iv]) (abW _) ⟨rfl,by unfold ND;rw[aa];exact Sn I⟩
 ·refine aT ?_;refine WZ rfl FR (Fp _) fun v H2 hv=>?_;obtain⟨rfl,rfl⟩:=hv;refine dP ?_;exact af rfl hd (r:=[.agg #[.slice none 0 0,.int .i64 1]]) (by simp only[results88,go_sem,iv]) (abW _) ⟨rfl,by unfold ND;rw[aa];exact K9 I⟩
structure UT(g:T->T)(F:List Nd->List Nd):Prop where
 nil:F []=[]
 app:∀a b,F (a++b)=F a++F b
 one:∀n:Nd,F [n]=if g n.cond=ff then []else [{ n with kids:=F n.kids,cond:=g n.cond }]
variable{F:List Nd->List Nd}
def UT.take_le(h:UT g F)(i:Nat)(l:List Nd):du (F (l.take i))<=du (F l):=by
 conv=>rhs;rw[<-abq i l]
 rw[h.app,io];omega
def Yo(c:Nat):UT (ND c) (pL (ch c)):=by
 refine⟨rfl,fq _,fun n=>?_⟩;rw[gm];unfold ND;cases n.cond.at' (ch c)<;>simp
def U9(vf vl:Value)(n:Nat)(x:Nat×Value):St:=⟨dn 34 [(1,.v vf),(5,.v x.2),(8,.v vl),(9,.v (iv n)),(10,.v (iv x.1))],[]⟩
def ZK(F:List Nd->List Nd)(l:List Nd)(I0:PH)(x:Nat×Value)(H:PH):Prop:=∃I A,H=U [I,A]/\Dj [I,A]/\I0.le I/\x.1<=l.length/\bQ I A x.2 (F (l.take x.1))
theorem HK(hF:UT g F):∀(m:Nat) {I:PH} {v vf:Value} {l:List Nd},du l<m->eE I v l->sB v->yE I vf g->du (F l)<=aN->
  aK prog 159 #[v,vf] I [] fun r I2 qs=>∃A,qs=[A]/\bQ I2 A r (F l):=by
 intro m
 induction m with
 |zero=>intro I v vf l hm;omega
 |succ m ih=>
 intro I v vf l hm hS hC hG hz hd;obtain⟨va,vc,rfl,_⟩:=id hS;obtain⟨fid,first,cap,rfl,bC,b0⟩:=id hG;unfold aN at hz;refine ah 34 func159 fun w0=>?_
 try simp only[iv]
 refine aT ?_;refine aR hd fun b3=>?_;refine aA (fun x=>l.length-x.1) (U9 (.func (.func fid) first cap) (.slice va l.length vc) l.length) (ZK F l I) (0,.slice none 0 0) bM (by simp only[go_sem,aa6,U9]) ?_ ?_
 ·exact⟨I,PH.no,rfl,b3,abW _,aaL _,by rw[abz,hF.nil];exact Ow.nil _ _ _ _⟩
 rintro⟨i,vo⟩ H ⟨I1,A1,rfl,a7,ac,hi,hA⟩ ag;simp only at hi hA;simp only[U9];obtain⟨oa,oc,rfl⟩:=hA.shape;rcases aaf i l.length with an|cd
 ·have ba:decide ((i:Int)<(l.length:Int))=true:=by simp;omega
  have bd:=we hC an;obtain⟨n,hn⟩:∃n,l[i]?=some n:=⟨_,aak an⟩;obtain⟨b,off,cs,rfl,b4,am⟩:=Sl.load bm.len (eE.le hS ac) hn;obtain⟨vk,na,nk,rfl,a1,aj,a9⟩:=b4.shape;obtain⟨ka,kc,rfl,_⟩:=id aj;have cb:=oG (aaV hn);have aS:=hF.take_le (i+1) l;rw[db hn,hF.app,io]at aS;have cc:=iI (F (l.take i));apply RG;simp only[go_sem,ba,iv,sD,rD];refine⟨ab,?_⟩;refine XN (l:=[.int .u8 n.kind,.string ⟨⟨n.text⟩⟩,.int .i64 n.tok,.int .i64 n.slot,.slice ka n.kids.length kc,sD na nk n.cond,rD n.cond]) (v:=.agg #[.int .u8 n.kind,.string ⟨⟨n.text⟩⟩,.int .i64 n.tok,.int .i64 n.slot,.slice ka n.kids.length kc,sD na nk n.cond,rD n.cond]) rfl (cellsU a7 (.head _) am) (.inl ⟨cL,rfl⟩) ?_;refine lY ?_;refine ad a7 [0] [] [A1] rfl bC rfl (b0 ac a1) fun v I3 qs a6 aa hq=>?_;obtain⟨rfl,a2⟩:=hq;obtain⟨za,zk,rfl⟩:=a2.shape2;simp only[Z3]at a6 |-;refine lY ?_;refine WZ rfl jt (gO a2) fun v H2 hv=>?_;obtain⟨rfl,rfl⟩:=hv;cases ao:decide (g n.cond=.lf false)
  ·have bb:g n.cond≠ff:=by simpa using ao
   rw[hF.one,ZV bb,bp,dJ]at aS;simp only at aS;apply RG;simp only[go_sem,iv,sD,rD,ao,abK];refine ad a6 [0] [] [A1] rfl Gt rfl (ih (l:=n.kids) ab (eE.le aj aa) a9 (yE.le hG (abV ac aa)) (by unfold aN;omega)) fun v I4 qs bc a4 hq=>?_;obtain⟨K,rfl,hK⟩:=hq;simp only[Z3]at bc |-;obtain⟨qa,qc,rfl⟩:=hK.shape;have b7:=hK.capN bm.len;refine bf bc [0,1] fun a5=>?_;refine ae a5 fun I5 a5 al b8=>?_;have b6:eE I5 (.slice qa (F n.kids).length qc) (F n.kids):=bQ.sl hK al b8;refine lY ?_;refine ax a5 (by exact dQ) rfl rfl rfl rfl rfl bg fun nb I6 b2 ak bx=>?_;have aq:=abV a4 (abV al ak);have b5:eE I6 (.slice (some ⟨nb,0,none⟩) 1 1) [{ n with kids:=F n.kids,cond:=g n.cond }]:=iJ (az bx (by simp[aD,Value.cells]) (by simp[aD,Value.cells,iv,sD,rD])) (bm.mk (n:={ n with kids:=F n.kids,cond:=g n.cond }) (a2.le aq) (eE.le b6 ak) b7);refine lY ?_;refine bl b2 (by exact dQ) (bQ.le hA (abV aa aq)) (b5) (fun{I J c a} h k=>bm.le h k) (fun{I} c a h=>bm.len c a h) (fun{I} c a h=>bm.ones h) rfl rfl rfl rfl (by first|omega|(simp only[aaj,aaO];omega)) (by unfold maxLen;first|omega|(simp only[aaj,aaO];omega)) fun ua uc I7 A7 b1 a3 ca=>?_;apply RG;simp only[go_sem,iv,sD,rD,bd];have bs:=abV ac (abV aa (abV aq a3));exact ag (i+1,.slice ua (F (l.take i)++[{ n with kids:=F n.kids,cond:=g n.cond }]).length uc) _ _ dt Tp (by simp only[go_sem,aa6,U9,iv,sD,rD]) ⟨I7,A7,rfl,b1,bs,an,by simp only;rw[db hn,hF.app,hF.one,ZV bb];exact ca⟩
  ·have bF:g n.cond=ff:=by simpa using ao
   apply RG;simp only[go_sem,iv,sD,rD,ao,abQ,bd];exact ag (i+1,.slice oa (F (l.take i)).length oc) _ _ dt Tp (by simp only[go_sem,aa6,U9,iv,sD,rD]) ⟨I3,A1,rfl,a6,abV ac aa,an,by simp only;rw[db hn,hF.app,hF.one,aaq bF,aa6];exact bQ.le hA aa⟩
 ·have:i=l.length:=by omega
  subst this;have ba:=Z6 l.length;apply RG;simp only[go_sem,ba,iv,sD,rD];exact af rfl a7 (r:=[_]) rfl ac ⟨A1,rfl,by rw[aaS]at hA |-;exact hA⟩
def He(I:PH)(v:Value)(t:Tr):Prop:=∃vk vd,v=.agg #[vk,vd]/\eE I vk t.kids/\sB vk/\Sl eG I vd t.diags/\sB vd
def SlE.le{l:List cO}(h:Sl eG I v l)(k:I.le J):Sl eG J v l:=Sl.le (R:=eG) (fun{I J c a} h k=>eG.le h k) h k
variable{t:Tr}
def He.le(h:He I v t)(k:I.le J):He J v t:=by
 obtain⟨vk,vd,e,h1,h2,h3,h4⟩:=h;exact⟨vk,vd,e,eE.le h1 k,h2,SlE.le h3 k,h4⟩
def Bu(g:T->T)(e:List cO):List cO:=e.flatMap fun d=>if g d.cond=ff then []else [{ d with cond:=g d.cond }]
def N8(g:T->T)(a b:List cO):Bu g (a++b)=Bu g a++Bu g b:=by simp[Bu]
def GX(g:T->T):∀e,(Bu g e).length<=e.length
 | []=>ZR _
 |d::e=>by
  have:=GX g e;have h:Bu g (d::e)=(if g d.cond=ff then []else [{ d with cond:=g d.cond }])++Bu g e:=rfl;rw[h];split<;>simp<;>omega
def Sz(c:Nat)(e:List cO):Bu (ND c) e=NX (ch c) e:=by
 induction e with
 |nil=>rfl
 |cons d e ih=>
  have h:Bu (ND c) (d::e)=(if ND c d.cond=ff then []else [{ d with cond:=ND c d.cond }])++Bu (ND c) e:=rfl;rw[h,ih];unfold NX ND;cases hd:d.cond.at' (ch c)<;>simp[aby,hd]
def eF.sl{l:List cO}(h:eF I A v l)(h1:I.le J)(h2:A.le J):Sl eG J v l:=abX (R:=eG) (fun{I J c a} h k=>eG.le h k) h h1 h2
def VR(vf vk vd vk2 vl:Value)(n:Nat)(x:Nat×Value):St:=⟨dn 37 [(1,.v vf),(4,.p 4 0),(5,.p 5 0),(14,.v vl),(15,.v (iv n)),(16,.v (iv x.1))],[⟨4,36,[.slice none 0 0,.slice none 0 0]⟩,⟨5,36,[vk2,x.2]⟩]⟩
def ZO(g:T->T)(l:List cO)(I0:PH)(x:Nat×Value)(H:PH):Prop:=∃I A,H=U [I,A]/\Dj [I,A]/\I0.le I/\x.1<=l.length/\eF I A x.2 (Bu g (l.take x.1))
theorem VC(hF:UT g F){vf:Value}(hT:He I v t)(hG:yE I vf g)(hz:du (F t.kids)<=aN)(bx:t.diags.length<=aN):
  aK prog 87 #[v,vf] I [] fun r I2 qs=>qs=[]/\He I2 r ⟨F t.kids,Bu g t.diags⟩:=by
 obtain⟨vk,vd,rfl,hK,cc,hD,cf⟩:=hT;obtain⟨fid,first,cap,rfl,b1,b3⟩:=id hG;obtain⟨ka,kc,rfl,_⟩:=id hK;obtain⟨da,dc,rfl,_⟩:=id hD;have a2:=bx;unfold aN at a2;intro hd;refine ah 37 func87 fun w0=>?_
 try simp only[iv]
 refine aT ?_;refine bV hd rfl Gt (HK hF (du t.kids+1) (aba _) hK cc hG hz) fun v1 I1 qs b7 a6 hq=>?_;obtain⟨K,rfl,ba⟩:=hq;obtain⟨qa,qc,rfl⟩:=ba.shape;have hK1c:=ba.capN bm.len;refine bf b7 [0] fun a9=>?_;refine ae a9 fun I2 a9 an cb=>?_;have cd:eE I2 (.slice qa (F t.kids).length qc) (F t.kids):=bQ.sl ba an cb;have a1:=abV a6 an;refine aT ?_;refine aR a9 fun b6=>?_;refine aA (fun x=>t.diags.length-x.1) (VR (.func (.func fid) first cap) (.slice ka t.kids.length kc) (.slice da t.diags.length dc) (.slice qa (F t.kids).length qc) (.slice da t.diags.length dc) t.diags.length) (ZO g t.diags I2) (0,.slice none 0 0) bM (by simp only[go_sem,aa6,VR]) ?_ ?_
 ·exact⟨I2,PH.no,rfl,b6,abW _,aaL _,Ow.nil _ _ _ _⟩
 rintro⟨i,vo⟩ H ⟨I3,A3,rfl,a7,aa,hi,hA⟩ aj;simp only at hi hA;simp only[VR];obtain⟨oa,oc,rfl⟩:=hA.shape;rcases aaf i t.diags.length with aq|cm
 ·have bb:decide ((i:Int)<(t.diags.length:Int))=true:=by simp;omega
  have bd:=we cf aq;obtain⟨d,bc⟩:∃d,t.diags[i]?=some d:=⟨_,aak aq⟩;obtain⟨b,off,cs,rfl,b8,ao⟩:=Sl.load eG.len (SlE.le hD (abV a1 aa)) bc;obtain⟨na,nk,rfl,a3⟩:=id b8;have bC:=GX g (t.diags.take i);rw[abF]at bC;have ac:Bu g (t.diags.take (i+1))=Bu g (t.diags.take i)++(if g d.cond=ff then []else [{ d with cond:=g d.cond }]):=by
   rw[db bc,N8];simp[Bu]
  apply RG;simp only[go_sem,bb,iv,sD,rD];refine⟨ab,?_⟩;refine XN (l:=[.int .u8 d.code,.int .i64 d.tok,sD na nk d.cond,rD d.cond]) (v:=.agg #[.int .u8 d.code,.int .i64 d.tok,sD na nk d.cond,rD d.cond]) rfl (cellsU a7 (.head _) ao) (.inl ⟨lW,rfl⟩) ?_;refine lY ?_;refine ad a7 [0] [] [A3] rfl b1 rfl (b3 (abV a1 aa) a3) fun v I4 qs am ag hq=>?_;obtain⟨rfl,a4⟩:=hq;obtain⟨za,zk,rfl⟩:=a4.shape2;simp only[Z3]at am |-;refine lY ?_;refine WZ rfl jt (gO a4) fun v H2 hv=>?_;obtain⟨rfl,rfl⟩:=hv;cases aS:decide (g d.cond=.lf false)
  ·have bF:g d.cond≠ff:=by simpa using aS
   rw[ZV bF]at ac;apply RG;simp only[go_sem,iv,sD,rD,aS,abK];refine ax am (by exact vP) rfl rfl rfl rfl rfl bg fun nb I6 b5 ak b0=>?_;have ca:Sl eG I6 (.slice (some ⟨nb,0,none⟩) 1 1) [{ d with cond:=g d.cond }]:=⟨_,_,rfl,.inr ⟨nb,0,_,rfl,az b0 (by simp[aD,Value.cells]) (by simp[aD,Value.cells,iv,sD,rD]),.one ⟨za,zk,rfl,a4.le ak⟩⟩⟩;refine lY ?_;refine bl (R:=eG) (xs:=Bu g (t.diags.take i)) (ys:=[{ d with cond:=g d.cond }]) b5 (by exact vP) (eF.le hA (abV ag ak)) ca (fun{I J c a} h k=>eG.le h k) (fun{I} c a h=>eG.len c a h) (fun{I} c a h=>eG.ones h) rfl rfl rfl rfl (by simp only[aaj,aaO];omega) (by simp only[aaj,aaO];unfold maxLen;omega) fun ua uc I7 A7 b4 a5 cl=>?_;apply RG;simp only[go_sem,iv,sD,rD,bd];have bs:=abV ag (abV ak a5);exact aj (i+1,.slice ua (Bu g (t.diags.take i)++[{ d with cond:=g d.cond }]).length uc) _ _ dt Tp (by simp only[go_sem,aa6,VR,iv,sD,rD]) ⟨I7,A7,rfl,b4,abV aa bs,aq,by simp only;rw[ac];exact cl⟩
  ·have b2:g d.cond=ff:=by simpa using aS
   rw[aaq b2,aa6]at ac;apply RG;simp only[go_sem,iv,sD,rD,aS,abQ,bd];exact aj (i+1,.slice oa (Bu g (t.diags.take i)).length oc) _ _ dt Tp (by simp only[go_sem,aa6,VR,iv,sD,rD]) ⟨I4,A3,rfl,am,abV aa ag,aq,by simp only;rw[ac];exact eF.le hA ag⟩
 ·have:i=t.diags.length:=by omega
  subst this;have bb:=Z6 t.diags.length;rw[aaS]at hA |-;have cj:=Ow.capN (R:=eG) hA (fun c a h=>eG.len c a h);refine bf a7 [0] fun am=>?_;refine ae (c:=.st _) am fun I5 am al ci=>?_;apply RG;simp only[go_sem,bb,iv,sD,rD];exact af rfl am (r:=[.agg #[.slice qa (F t.kids).length qc,.slice oa (Bu g t.diags).length oc]]) (by simp only[results87,go_sem,iv]) (abV a1 (abV aa al)) ⟨rfl,_,_,rfl,eE.le cd (abV aa al),hK1c,eF.sl hA al ci,cj⟩
def HU{c:Nat}(hT:He I v t)(hc:c<2^32)(hz:du t.kids<=aN)(ag:t.diags.length<=aN):aK prog 33 #[v,.int .u32 c] I [] fun r I2 qs=>qs=[]/\He I2 r (prj (ch c) t):=by
 obtain⟨vk,vd,rfl,hK,an,hD,ao⟩:=id hT;intro hd;refine ah 8 func33 fun w0=>?_
 try simp only[iv]
 apply bL 6;simp only[go_sem];refine fV 3 hd rfl fun cb al=>?_;refine ae (c:=.st _) al fun I2 ak aa am=>?_;have hb:aP I2 cb 0 [.int .u32 c]:=(ay (by simp) rfl:aP (sg cb (.cells [.int .u32 c].toArray 23 (0,0))) cb 0 [.int .u32 c]).le am;apply RG;simp only[go_sem,mF,List.map,pt];refine bV ak rfl TT (VC (Yo c) (hT.le aa) (PB hb hc) (ZS (BH _ _) hz) ag) fun v1 I4 qs aj ac hq=>?_;obtain⟨rfl,hr⟩:=hq;obtain⟨wk,wd,rfl,h1,h2,h3,h4⟩:=hr;rw[Sz]at h3;obtain⟨xa,xc,rfl,_⟩:=id h1;obtain⟨ya,yc,rfl,_⟩:=id h3;refine aT ?_;exact af rfl aj (r:=[.agg #[.slice xa (pL (ch c) t.kids).length xc,.slice ya (NX (ch c) t.diags).length yc]]) (by simp only[results33,go_sem]) (abV aa ac) ⟨rfl,_,_,rfl,h1,h2,h3,h4⟩
end Go.Proofs.YtfaclfkpnmcmlaaGreatDoor
