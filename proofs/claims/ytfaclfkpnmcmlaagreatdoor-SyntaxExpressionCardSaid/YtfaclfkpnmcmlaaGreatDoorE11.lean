import Derived.Test.YtfaclfkpnmcmlaaGreatDoorE05
import Derived.Test.YtfaclfkpnmcmlaaGreatDoorE09
import Derived.Test.YtfaclfkpnmcmlaaGreatDoorE10
import Derived.Lib.AtoiTie
set_option maxHeartbeats 8000000
set_option linter.all false
namespace Go.Proofs.YtfaclfkpnmcmlaaGreatDoor
open Go Go.Sx Dg Syn
def OE:aO Tryz.prog 143:=⟨_,Tryz.func143,rfl,rfl⟩
def Nq:aO Tryz.prog 82:=⟨_,Tryz.func82,rfl,rfl⟩
def Oc:aO Tryz.prog 133:=⟨_,Tryz.func133,rfl,rfl⟩
def lU(d:bq):Nat->Nat×bq
 |0=>if xJ (d.take (dE d))then (1,d.take (dE d))else (0,[])
 |1=>if pw (d.take (dE d))then (2,d.take (dE d))else (0,[])
 |_=>match f4.find? fun x=>x.isPrefixOf d with
  |some x=>(3,x)
  |none=>(0,[])
def CG(d:bq):Nat->Nat×bq
 |0=>fS d
 |1=>if pw (d.take (dE d))then (2,d.take (dE d))else lU d 2
 |2=>lU d 2
 |_=>(0,[])
variable{k:Nat}{d:bq}
def Hl(h:(lU d k).1=0):lU d k=(0,[]):=by
 match k with
 |0=>
  simp only[lU]at h |-;split at h
  ·cases h
  ·rename_i h1;rw[ZV h1]
 |1=>
  simp only[lU]at h |-;split at h
  ·cases h
  ·rename_i h1;rw[ZV h1]
 |k+2=>
  simp only[lU]at h |-;split at h
  ·cases h
  ·rfl
def QV(hk:k<3)(h:(lU d k).1=0):CG d k=CG d (k+1):=by
 match k,hk with
 |0,_=>
  simp only[lU]at h;split at h
  ·cases h
  ·rename_i h1;simp only[CG,fS,lU,ZV h1]<;>rfl
 |1,_=>
  simp only[lU]at h;split at h
  ·cases h
  ·rename_i h1;simp only[CG,ZV h1]
 |2,_=>exact Hl h
def MC(hk:k<3)(h:(lU d k).1≠0):CG d k=lU d k:=by
 match k,hk with
 |0,_=>
  simp only[lU]at h |-;split at h
  ·rename_i h1;simp only[CG,fS,aaq h1]
  ·exact absurd rfl h
 |1,_=>
  simp only[lU]at h |-;split at h
  ·rename_i h1;simp only[CG,aaq h1]
  ·exact absurd rfl h
 |2,_=>rfl
def H4(x:Nat×bq):Value:=.tuple #[.int .u8 x.1,.string ⟨⟨x.2⟩⟩]
def Wt(sb fb:Nat):List Value:=[.func (.func 213) #[] #[pt fb],.func (.func 215) #[] #[pt fb],.func (.func 217) #[] #[pt sb]]
variable{s:bq}{i:Nat}
def Wa{H:PH}{sb fb:Nat}(hV:ir H)(hs:aP H sb 0 [.string ⟨⟨s⟩⟩])(hf:aP H fb 0 [.func (.func 211) #[] #[pt sb]])(hi:i<=s.length)(hl:s.length<2^40)(hk:k<3):
  ∃fid cp,(Wt sb fb)[k]?=some (.func (.func fid) #[] #[cp])/\aO Tryz.prog fid/\bO Tryz.prog fid #[iv i,cp] H fun v H2=>v=H4 (lU (s.drop i) k)/\H2=H:=by
 match k,hk with
 |0,_=>
  refine⟨213,pt fb,rfl,OR,(Tu hs hf hi ab).mono fun v H2 h=>⟨?_,h.2⟩⟩;rw[h.1];simp only[lU,H4];split<;>rfl
 |1,_=>
  refine⟨215,pt fb,rfl,Qk,(M9 hV hs hf hi hl).mono fun v H2 h=>⟨?_,h.2⟩⟩;rw[h.1];simp only[lU,H4];split<;>rfl
 |2,_=>
  refine⟨217,pt sb,rfl,Pq,(SW hV.1 hs hi ab).mono fun v H2 h=>⟨?_,h.2⟩⟩;rw[h.1];unfold BU lU H4;cases f4.find? (fun x=>x.isPrefixOf (s.drop i))<;>rfl
abbrev yJ(I A:PH)(v:Value)(l:List Tok):Prop:=Ow dz 83 7 I A v l
def NQ(_:PH)(c:List Value)(x:Nat):Prop:=c=[iv x]
abbrev Ue(I A:PH)(v:Value)(l:List Nat):Prop:=Ow NQ 3 1 I A v l
variable{v:Value}{I:PH}
def yJ.le{J A:PH}{l:List Tok}(h:yJ I A v l)(k:I.le J):yJ J A v l:=Ow.le (R:=dz) (fun{I J c a} h k=>dz.le h k) h k
def Ue.le{J A:PH}{l:List Nat}(h:Ue I A v l)(k:I.le J):Ue J A v l:=Ow.le (R:=NQ) (fun{I J c a} h k=>h) h k
def dz.ones{c:List Value}{t:Tok}(h:dz I c t):c.all one=true:=by
 obtain⟨p,f,l,a,k,rfl,h1,_⟩:=h;simp only[List.all_cons,List.all_nil,h1];rfl
def UU(sb fb:Nat)(x:Nat×Value×Value):St:=⟨dn 75 [(1,.v (pt sb)),(2,.v x.2.1),(3,.v x.2.2),(6,.v (.func (.func 213) #[] #[pt fb])),(7,.v (.func (.func 215) #[] #[pt fb])),(8,.v (.func (.func 217) #[] #[pt sb])),(9,.v (iv x.1))],[]⟩
def Zm(s:bq)(I0:PH)(x:Nat×Value×Value)(H:PH):Prop:=∃I A B l ats,H=U [I,A,B]/\Dj [I,A,B]/\I0.le I/\x.1<=s.length/\yJ I A x.2.1 (l.map cY)/\Ue I B x.2.2 ats/\ats.length=l.length/\l.length<=x.1/\xZ s=(xZ (s.drop x.1)).map (l++·)
def Tv(sb fb:Nat)(va vb:Value)(i nb:Nat)(x:Nat×Nat×bq):St:=⟨dn 75 [(1,.v (pt sb)),(2,.v va),(3,.v vb),(6,.v (.func (.func 213) #[] #[pt fb])),(7,.v (.func (.func 215) #[] #[pt fb])),(8,.v (.func (.func 217) #[] #[pt sb])),(9,.v (iv i)),(10,.v (.int .u8 x.2.1)),(11,.v (.string ⟨⟨x.2.2⟩⟩)),(38,.v (.slice (some ⟨nb,0,none⟩) 3 3)),(39,.v (iv 3)),(40,.v (iv x.1))],[]⟩
def zU(s:bq)(v:Value)(I2:PH)(qs:List PH):Prop:=match rI s with
 |none=>v=.tuple #[.slice none 0 0,.slice none 0 0,.bool false]/\qs=[]
 |some l=>∃A va vb,v=.tuple #[va,vb,.bool true]/\qs=[A]/\yJ I2 A va (l.map cY)
theorem TK(hl:s.length<2^40)(hV:ir I):aK Tryz.prog 143 #[.string ⟨⟨s⟩⟩] I [] (zU s):=by
 intro hd;refine ah 75 Tryz.func143 fun w0=>?_;refine aT ?_;refine WZ rfl OA (IH s ab _) fun v H2 hv=>?_;obtain⟨rfl,rfl⟩:=hv;cases b6:s.all fun c=>Er (bZ c)
 ·have hx:rI s=none:=by unfold rI;rw[b6];rfl
  apply RG;simp only[go_sem,abK];exact af rfl hd (r:=[_,_,_]) rfl (abW _) (by unfold zU;rw[hx];exact⟨rfl,rfl⟩)
 have bs:rI s=xZ s:=by unfold rI;rw[b6];rfl
 apply bL 5;simp only[go_sem,abQ];refine fV 1 hd rfl fun sb c5=>?_;refine ae (c:=.st _) c5 fun I2 c4 bx c7=>?_;have hs:aP I2 sb 0 [.string ⟨⟨s⟩⟩]:=(ay (by simp) rfl:aP (sg sb (.cells [.string ⟨⟨s⟩⟩].toArray 9 (0,0))) sb 0 [.string ⟨⟨s⟩⟩]).le c7;apply bL 5;simp only[go_sem,mF,List.map,pt];refine fV 5 c4 rfl fun fb c3=>?_;refine ae (c:=.st _) c3 fun I4 c2 a9 c6=>?_;have hf:aP I4 fb 0 [.func (.func 211) #[] #[pt sb]]:=(ay (by simp) rfl:aP (sg fb (.cells [.func (.func 211) #[] #[pt sb]].toArray 315 (0,0))) fb 0 [.func (.func 211) #[] #[pt sb]]).le c6;have hs:=hs.le a9;have bb:=abV bx a9;have c8:=hV.le bb;apply RG;simp only[go_sem,mF,List.map,pt];refine aR c2 fun c1=>?_;refine aR c1 fun c0=>?_;refine aA (fun x=>s.length-x.1) (UU sb fb) (Zm s I4) (0,.slice none 0 0,.slice none 0 0) gP (by simp only[go_sem,aa6,UU]) ?_ ?_
 ·exact⟨I4,_,_,[],[],rfl,c0,abW _,aaL _,Ow.nil _ _ _ _,Ow.nil _ _ _ _,rfl,aaL _,by simp⟩
 rintro⟨i,va,vb⟩ H ⟨I1,A1,B1,l,ats,rfl,a7,ak,hi,hA,hB,cd,cr,al⟩ a2;simp only at hi hA hB cr al;simp only[UU];have hs1:=hs.le ak;obtain⟨aa,ac,rfl⟩:=hA.shape;obtain⟨ba,bc,rfl⟩:=hB.shape;refine ll ?_;refine XN (l:=[.string ⟨⟨s⟩⟩]) rfl (cellsU a7 (.head _) hs1) (.inr ⟨tL,rfl⟩) ?_;rcases aaf i s.length with bd|dw
 ·have b4:decide ((i:Int)<(s.length:Int))=true:=abU ab;have e1:IntKind.i64.wrap ((i:Int)+1)=((i+1:Nat):Int):=by rw[<-wrap64 (n:=i+1) ab];congr 1
  obtain⟨c,hc⟩:∃c,s[i]?=some c:=⟨_,aak bd⟩;have hb:=jn hc;have ca:s.drop i=c::s.drop (i+1):=by
   rw[aaK bd];rw[aak bd]at hc;rw[aaZ hc]
  have tk:(s.drop i).take (s.length-i)=s.drop i:=abG (by simp);have cm:=al;rw[ca,mV,<-ca]at al;apply RG;simp only[go_sem,bi,b4];refine XN (l:=[.string ⟨⟨s⟩⟩]) rfl (cellsU a7 (.head _) hs1) (.inr ⟨tL,rfl⟩) ?_;apply RG;simp only[go_sem,hb];refine⟨by first|omega|(simp only[bi];omega),?_⟩;refine WZ rfl PY (Oe _ _) fun v H2 hv=>?_;obtain⟨rfl,rfl⟩:=hv;cases cc:yO (bZ c)
  rotate_left
  ·rw[cc,aaq rfl]at al;apply RG;simp only[go_sem,iv,e1];exact a2 (i+1,.slice aa (l.map cY).length ac,.slice ba ats.length bc) _ _ dt gP (by simp only[go_sem,aa6,UU]) ⟨I1,A1,B1,l,ats,rfl,a7,ak,bd,hA,hB,cd,by simp only;omega,al⟩
  rw[cc,ZV (by simp)]at al;refine aT ?_;refine XN (l:=[.string ⟨⟨s⟩⟩]) rfl (cellsU a7 (.head _) hs1) (.inr ⟨tL,rfl⟩) ?_;apply RG;simp only[go_sem,bi,oJ,tk];refine⟨ab,?_⟩;refine WZ rfl Hb (CF _ TV _) fun v H2 hv=>?_;obtain⟨rfl,rfl⟩:=hv;cases cb:TV.isPrefixOf (s.drop i)
  rotate_left
  ·rw[cb,aaq rfl]at al;apply bL 4;simp only[go_sem];refine bf a7 [1,0] fun a1=>?_;refine bf a1 [0,1] fun aj=>?_;refine ae (c:=.st _) aj fun I9 aj ag b2=>?_;refine dP ?_;refine af rfl aj (r:=[_,_,_]) rfl (abV bb (abV ak ag)) ?_;unfold zU;rw[bs,al];exact⟨A1,_,_,rfl,rfl,by simpa using yJ.le hA ag⟩
  rw[cb,ZV (by simp)]at al;refine ll ?_;refine ax a7 (by exact VE) rfl rfl rfl rfl rfl bg fun nb I3 a1 an cl=>?_;have cx:aP I3 nb 0 (Wt sb fb):=az cl (by simp[aD,Value.cells,Wt]) (by simp[aD,Value.cells,Wt,pt]);have cj:=hs1.le an;have cA:=(hf.le ak).le an;have c9:=(c8.le ak).le an;refine ll ?_;apply dF (fun(x:Nat×Nat×bq)=>3-x.1) (Tv sb fb (.slice aa (l.map cY).length ac) (.slice ba ats.length bc) i nb) (fun x H=>H=U [I3,A1,B1]/\x.2=(0,[])/\x.1<=3/\fS (s.drop i)=CG (s.drop i) x.1) (fun x H=>H=U [I3,A1,B1]/\x.2=fS (s.drop i)) (0,0,[])
  ·exact gP
  ·exact(by simp only[go_sem,aa6,Tv])
  ·exact⟨rfl,rfl,aaL _,rfl⟩
  ·rintro⟨k,kd,tx⟩ H ⟨rfl,e0,cs,hr⟩ a6 a5;simp only[aaI]at e0 cs hr;obtain⟨rfl,rfl⟩:=e0;simp only[Tv];rcases aaf k 3 with hk|hk
   ·have b3:decide ((k:Int)<3)=true:=abU ab;have e40:IntKind.i64.wrap ((k:Int)+1)=((k+1:Nat):Int):=by rw[<-wrap64 (n:=k+1) ab];congr 1
    obtain⟨fid,cp,cy,ct,cB⟩:=Wa (c9.le (cP a1)) (cellsU a1 (.head _) cj) (cellsU a1 (.head _) cA) hi hl hk;apply RG;simp only[go_sem,iv,pt,abo,b3];refine⟨ab,?_⟩;refine XN (l:=[.func (.func fid) #[] #[cp]]) rfl (cellsU a1 (.head _) (by simpa using cx.get cy)) (.inr ⟨RL,rfl⟩) ?_;refine dP ?_;refine WZ rfl ct cB fun v H2 hv=>?_;obtain⟨rfl,rfl⟩:=hv;by_cases h0:(lU (s.drop i) k).1=0
    ·rw[Hl h0];apply RG;simp only[go_sem,H4,iv,e40];exact a6 (k+1,0,[]) _ _ dt gP (by simp only[go_sem,aa6,Tv]) ⟨rfl,rfl,hk,by rw[hr,QV hk h0]⟩
    ·have ds:((((lU (s.drop i) k).1:Nat):Int) != 0)=true:=by simp;omega
     apply bL 13;simp only[go_sem,H4,iv,ds];exact a5 (k,lU (s.drop i) k) _ _ gP (by simp only[go_sem,aa6,Tv]) ⟨rfl,by simp only;rw[hr,MC hk h0]⟩
   ·have:k=3:=by omega
    subst this;have b3:decide ((3:Int)<3)=false:=by decide
    apply bL 7;simp only[go_sem,iv,pt,abo,b3];exact a5 (3,0,[]) _ _ gP (by simp only[go_sem,aa6,Tv]) ⟨rfl,by simp only;rw[hr];rfl⟩
  ·rintro⟨k,kd,tx⟩ H ⟨rfl,e⟩;simp only at e;simp only[Tv];by_cases h0:kd=0
   ·subst h0;rw[<-e,aaq rfl]at al;refine bf a1 [1,0] fun aj=>?_;refine bf aj [0,1] fun aS=>?_;refine ae (c:=.st _) aS fun I9 aS am dc=>?_;refine bf aS [0] fun aq=>?_;refine ae (c:=.st _) aq fun dx aq ao dj=>?_;apply RG;simp only[go_sem,iv,abo];refine af rfl aq (r:=[_,_,_]) rfl (abV bb (abV ak (abV an (abV am ao)))) ?_;unfold zU;rw[bs,al];exact⟨rfl,rfl⟩
   ·have dk:((kd:Int) == 0)=false:=by simp;omega
    have b7:(fS (s.drop i)).1≠0:=by rw[<-e];exact h0
    obtain⟨s1,s2,_,_⟩:=og b7;rw[ZV b7,<-e]at al;rw[<-e]at s1 s2;simp only[abD]at s1 s2;have b8:(l.map cY).length=l.length:=aah _;have e72:IntKind.i64.wrap ((i:Int)+(tx.length:Int))=((i+tx.length:Nat):Int):=by rw[<-wrap64 (n:=i+tx.length) ab];congr 1
    apply RG;simp only[go_sem,iv,dk];refine ax a1 (by exact tz) rfl rfl rfl rfl rfl bg fun mb I5 aj ag dv=>?_;refine dP ?_;refine WZ rfl FR (Fp _) fun v H2 hv=>?_;obtain⟨rfl,rfl⟩:=hv;refine dP ?_;refine ax aj (by exact IP) rfl rfl rfl rfl rfl bg fun tb I6 aS am ci=>?_;have hT:Sl dz I6 (.slice (some ⟨tb,0,none⟩) 1 1) [cY (kd,tx)]:=⟨_,_,rfl,.inr ⟨tb,0,[.int .u8 kd,.string ⟨⟨tx⟩⟩,.slice (some ⟨mb,0,none⟩) 1 1,.int .i64 0,.int .i64 0,.slice none 0 0,iv 1],rfl,az ci (by simp[aD,Value.cells]) (by simp[aD,Value.cells,iv]),.one ⟨.slice (some ⟨mb,0,none⟩) 1 1,0,0,none,0,rfl,rfl,mN I6 true⟩⟩⟩;refine dP ?_;refine bl (R:=dz) (xs:=l.map cY) (ys:=[cY (kd,tx)]) aS (by exact IP) (yJ.le hA (abV an (abV ag am))) hT (fun{I J c a} h k=>dz.le h k) (fun{I} c a h=>dz.len c a h) (fun{I} c a h=>dz.ones h) rfl rfl rfl rfl (by rw[b8];simp only[aaj,aaO];omega) (by rw[b8];simp only[aaj,aaO];unfold maxLen;omega) fun ua uc I7 A7 aq ao dd=>?_;refine dP ?_;refine ax aq (by exact tz) rfl rfl rfl rfl rfl bg fun xb I8 b1 a4 cf=>?_;have hX:Sl NQ I8 (.slice (some ⟨xb,0,none⟩) 1 1) [i]:=⟨_,_,rfl,.inr ⟨xb,0,[iv i],rfl,az cf (by simp[aD,Value.cells]) (by simp[aD,Value.cells,iv]),.one rfl⟩⟩;refine dP ?_;refine bf b1 [1,0] fun b0=>?_;have b5:=abV an (abV ag (abV am (abV ao a4)))
    refine bl (R:=NQ) (xs:=ats) (ys:=[i]) b0 (by exact tz) (Ue.le hB b5) hX (fun{I J c a} h k=>h) (fun{I} c a h=>by rw[show c=_ from h];rfl) (fun{I} c a h=>by rw[show c=_ from h];rfl) rfl rfl rfl rfl (by simp only[aaj,aaO];omega) (by simp only[aaj,aaO];unfold maxLen;omega) fun wa wc I9 B9 bF a3 da=>?_;apply RG;simp only[go_sem,iv,bi,e72];refine bf bF [1,0] fun bC=>?_;refine a2 (i+tx.length,.slice ua (l.map cY++[cY (kd,tx)]).length uc,.slice wa (ats++[i]).length wc) _ _ dt gP (by simp only[go_sem,aa6,UU]) ⟨I9,A7,B9,l++[(kd,tx)],ats++[i],rfl,bC,abV ak (abV b5 a3),by simp only;omega,?_,da,by simp[cd],by simp only[aa9,aaj,aaO];omega,?_⟩
    ·simp only;rw[abP];exact yJ.le dd (abV a4 a3)
    ·simp only;rw[al,Option.map_map,aa3];congr 1;funext z;simp
 ·have:i=s.length:=by omega
  subst this;have b4:=Z6 s.length;rw[abH,mP]at al;refine bf a7 [1,0] fun a1=>?_;refine bf a1 [0,1] fun aj=>?_;refine ae aj fun I9 aj ag b2=>?_;apply RG;simp only[go_sem,bi,b4];refine af rfl aj (r:=[_,_,_]) rfl (abV bb (abV ak ag)) ?_;unfold zU;rw[bs,al];exact⟨A1,_,_,rfl,rfl,by simpa using yJ.le hA ag⟩
def TC:aO Tryz.prog 76:=⟨_,Tryz.func76,rfl,rfl⟩
def Wi{α:Type}{l:List α}{n:α}(h:l[i]?=some n):l.take (i+1)=l.take i++[n]:=by
 rw[List.take_add_one,h];rfl
def wX(s:bq):Option (List (Nat×bq)):=match rI s with
 |some l=>if l.length>256 then none else some l
 |none=>none
def Q4(s:bq)(v:Value)(I2:PH)(qs:List PH):Prop:=match wX s with
 |none=>(∃k:Nat,k≠0/\v=.tuple #[.slice none 0 0,iv k])/\qs=[]
 |some l=>∃A va,v=.tuple #[va,iv 0]/\qs=[A]/\yJ I2 A va (l.map cY)
def Rk(hl:s.length<2^40)(hV:ir I):aK Tryz.prog 82 #[.string ⟨⟨s⟩⟩] I [] (Q4 s):=by
 intro hd;refine ah 21 Tryz.func82 fun w0=>?_;refine aT ?_;refine bV hd rfl OE (TK hl hV) fun v I2 qs aj ag hq=>?_;unfold zU at hq;unfold Q4 wX;cases hx:rI s with
 |none=>
  rw[hx]at hq;obtain⟨rfl,rfl⟩:=hq;refine aT ?_;exact af rfl aj (r:=[_,_]) rfl ag ⟨⟨4,by decide,rfl⟩,rfl⟩
 |some l=>
  rw[hx]at hq;obtain⟨A,va,vb,rfl,rfl,hA⟩:=hq;simp only[Z3]at aj |-;obtain⟨aa,ac,rfl⟩:=hA.shape;simp only[aah];rcases aaf 256 l.length with h|h
  ·have am:decide ((l.length:Int)>256)=true:=abU ab;refine bf aj [0] fun al=>?_;refine ae al fun I3 al ak an=>?_;apply RG;simp only[go_sem,aah,am];exact af rfl al (r:=[_,_]) rfl (abV ag ak) (by rw[aaq h];exact⟨⟨5,by decide,rfl⟩,rfl⟩)
  ·have am:decide ((l.length:Int)>256)=false:=abT ab;apply RG;simp only[go_sem,aah,am];exact af rfl aj (r:=[_,_]) rfl ag (by rw[ZV (Nat.not_lt.2 h)];exact⟨A,_,rfl,rfl,by rw[<-aah (f:=cY)];exact hA⟩)
variable{x:bq}
def JB(h:wX x=none):lI k x=false:=by
 unfold lI;apply abT;intro e;unfold wX at h;rw[e]at h;simp at h
def Jg{l:List (Nat×bq)}(h:wX x=some l):lI k x=decide (l=[(k,x)]):=by
 unfold lI wX at *;cases e:rI x with
 |none=>rw[e]at h;cases h
 |some m=>
  rw[e]at h;simp only at h;split at h
  ·cases h
  ·cases h;simp
def Iv(hl:x.length<2^40)(hV:ir I):aK Tryz.prog 133 #[.int .u8 k,.string ⟨⟨x⟩⟩] I [] fun r I2 qs=>qs=[]/\r=.bool (lI k x):=by
 intro hd;refine ah 35 Tryz.func133 fun w0=>?_;refine aT ?_;refine bV hd rfl Nq (Rk hl hV) fun v I2 qs an aj hq=>?_;unfold Q4 at hq;cases hx:wX x with
 |none=>
  rw[hx]at hq;obtain⟨⟨j,hj,rfl⟩,rfl⟩:=hq;have a2:((j:Int) == 0)=false:=by simp;omega
  apply RG;simp only[go_sem,iv,a2];exact af rfl an (r:=[_]) rfl aj ⟨rfl,by rw[JB hx];rfl⟩
 |some l=>
  rw[hx]at hq;obtain⟨A,va,rfl,rfl,hA⟩:=hq;simp only[Z3]at an |-;rw[Jg hx];obtain⟨aa,ac,rfl⟩:=hA.shape;refine bf an [0] fun al=>?_;refine ae al fun I3 al ag a1=>?_;have hS:Sl dz I3 (.slice aa (l.map cY).length ac) (l.map cY):=abX (R:=dz) (fun{I J c a} h k=>dz.le h k) hA ag a1;by_cases h1:l.length=1
  ·obtain⟨⟨p,y⟩,rfl⟩:=List.length_eq_one_iff.1 h1;obtain⟨b,off,cs,rfl,aS,ak⟩:=Sl.load (fun{I} c a h=>dz.len c a h) hS (i:=0) (x:=cY (p,y)) rfl;obtain⟨path,file,line,a,kk,rfl,_,hr⟩:=aS;have c0:=ak.get (i:=0) rfl;have c1:=ak.get (i:=1) rfl;have ao:(((1:Nat):Int) == 1)=true:=rfl;apply RG;simp only[go_sem,iv,List.map,aaj,aaO,ao];refine XN (l:=[.int .u8 p]) rfl (cellsU al (.head _) (by simpa[cY]using c0)) (.inr ⟨Uv,rfl⟩) ?_;cases hk:((p:Int) == (k:Int))
   ·have am:((p,y)::([]:List (Nat×bq)))≠[(k,x)]:=by
     intro e;simp only[abB,aaI,abC]at e;rw[e.1]at hk;simp at hk
    apply RG;simp only[go_sem,hk];exact af rfl al (r:=[_]) rfl (abV aj ag) ⟨rfl,by rw[abT am];rfl⟩
   ·have aq:p=k:=by have:=eq_of_beq hk;omega
    subst aq;apply RG;simp only[go_sem,hk];refine XN (l:=[.string ⟨⟨y⟩⟩]) rfl (cellsU al (.head _) (by simpa[cY]using c1)) (.inr ⟨tL,rfl⟩) ?_;refine aT ?_;exact af rfl al (r:=[.bool (y == x)]) rfl (abV aj ag) ⟨rfl,by show Value.bool _=_;congr 1;rw[N5];simp⟩
  ·have ao:((((l.map cY).length:Nat):Int) == 1)=false:=by simp;omega
   have am:l≠[(k,x)]:=fun e=>h1 (by rw[e];rfl);apply RG;simp only[go_sem,iv,ao];exact af rfl al (r:=[_]) rfl (abV aj ag) ⟨rfl,by rw[abT am];rfl⟩
abbrev Vv(I A:PH)(v:Value)(l:List Tok):Prop:=Ow uh 4 1 I A v l
def Vv.le{J A:PH}{l:List Tok}(h:Vv I A v l)(k:I.le J):Vv J A v l:=Ow.le (R:=uh) (fun{I J c a} h k=>h) h k
def WX(lv:Value)(n:Nat)(x:Nat×Value):St:=⟨dn 129 [(0,.v lv),(3,.p 20 0),(21,.v lv),(22,.v (iv n)),(23,.v (iv x.1))],[⟨20,161,[lv,x.2,.slice none 0 0,.int .i64 0,.slice none 0 0]⟩]⟩
def Zv(ts:List Tok)(I0:PH)(x:Nat×Value)(H:PH):Prop:=∃I A,H=U [I,A]/\Dj [I,A]/\I0.le I/\x.1<=ts.length/\Vv I A x.2 ((ts.map refit).take x.1)
theorem LR.refit{I:PH}:∀{ts:List Tok} {xs:List Value},LR (dz I) xs ts->LR (dz I) xs (ts.map refit)
 | [],_,h=>h
 |_::_,_,⟨c,ys,e,h1,h2⟩=>⟨c,ys,e,h1,LR.refit h2⟩
theorem Sl.refit{ts:List Tok}(h:Sl dz I v ts):Sl dz I v (ts.map refit):=by
 obtain⟨a,c,rfl,h⟩:=h;exact⟨a,c,by rw[aah],h.imp (fun e=>by rw[e];rfl) fun⟨b,off,xs,e1,e2,e3⟩=>⟨b,off,xs,e1,e2,LR.refit e3⟩⟩
theorem CA{lv:Value}{ts:List Tok}(hV:ir I)(hT:Sl dz I lv ts)(hl:ts.length<=16384)(hx:∀t∈ts,t.text.length<2^40):
  aK Tryz.prog 76 #[lv] I [] fun r I2 qs=>∃pb fv,r=pt pb/\qs=[sg pb (cg lv fv (.slice none 0 0) (.slice none 0 0) 0)]/\Sl uh I2 fv (ts.map refit):=by
 obtain⟨la,lc,rfl,_⟩:=id hT;intro hd;refine ah 129 Tryz.func76 fun w0=>?_;refine aT ?_;refine aR hd fun a6=>?_;refine aA (fun x=>ts.length-x.1) (WX (.slice la ts.length lc) ts.length) (Zv ts I) (0,.slice none 0 0) bM (by simp only[go_sem,aa6,WX]) ?_ ?_
 ·exact⟨I,PH.no,rfl,a6,abW _,aaL _,Ow.nil _ _ _ _⟩
 rintro⟨i,vo⟩ H ⟨I1,A1,rfl,ao,ac,hi,hA⟩ aj;simp only at hi hA;simp only[WX];obtain⟨oa,oc,rfl⟩:=hA.shape;rcases aaf i ts.length with a2|bd
 ·have aq:decide ((i:Int)<(ts.length:Int))=true:=abU ab;have e1:IntKind.i64.wrap ((i:Int)+1)=((i+1:Nat):Int):=by rw[<-wrap64 (n:=i+1) ab];congr 1
  obtain⟨t,ht⟩:∃t,ts[i]?=some t:=⟨_,aak a2⟩;have a3:(ts.map refit)[i]?=some (refit t):=by rw[aai,ht];rfl
  have aS:((ts.map refit).take i).length=i:=by simp;omega
  obtain⟨b,off,cs,rfl,a7,al⟩:=Sl.load (fun{I} c a h=>dz.len c a h) (Sl.le (R:=dz) (fun{I J c a} h k=>dz.le h k) hT ac) ht;obtain⟨path,file,line,a,kk,rfl,a1,hr⟩:=a7;apply RG;simp only[go_sem,iv,aq];refine⟨ab,?_⟩;refine XN (l:=[.int .u8 t.kind,.string ⟨⟨t.text⟩⟩,path,.int .i64 file,.int .i64 line,sD a kk t.cond,rD t.cond]) (v:=.agg #[.int .u8 t.kind,.string ⟨⟨t.text⟩⟩,path,.int .i64 file,.int .i64 line,sD a kk t.cond,rD t.cond]) rfl (cellsU ao (.head _) al) (.inl ⟨U1,rfl⟩) ?_;unfold one at a1;apply RG;simp only[go_sem,iv,sD,rD,a1];refine eP [0,1,2,3,4,5,6,7,8,9,10,11,12,13,14] [] [] ?_;refine dS ?_;refine aE ao [0] [] [A1] rfl Oc rfl (Iv (k:=t.kind) (hx t (aaV ht)) (hV.le ac)) fun v I3 qs ag aa hq=>?_;obtain⟨rfl,rfl⟩:=hq;simp only[Z3]at ag |-;refine dS ?_;refine bj ag (by exact Rp) rfl rfl rfl rfl rfl bg fun nb I4 an ak a4=>?_;have a9:Sl uh I4 (.slice (some ⟨nb,0,none⟩) 1 1) [refit t]:=⟨_,_,rfl,.inr ⟨nb,0,_,rfl,az a4 (by simp[aD,Value.cells]) (by simp[aD,Value.cells,refit]),.one rfl⟩⟩;refine dS ?_;refine fP (R:=uh) (xs:=(ts.map refit).take i) (ys:=[refit t]) an (by exact Rp) (Vv.le hA (abV aa ak)) a9 (fun{I J c a} h k=>h) (fun{I} c a h=>uh.len (I:=I) c a h) (fun{I} c a h=>by rw[show c=_ from h];rfl) rfl rfl rfl rfl rfl rfl (by rw[aS];simp only[aaj,aaO];omega) (by rw[aS];simp only[aaj,aaO];unfold maxLen;omega) fun ua uc I5 A5 a5 am ba=>?_;refine dS ?_;refine aw ?_;apply RG;simp only[go_sem,iv,e1]
  exact aj (i+1,.slice ua ((ts.map refit).take i++[refit t]).length uc) _ _ dt bM (by simp only[go_sem,aa6,WX]) ⟨I5,A5,rfl,a5,abV ac (abV aa (abV ak am)),a2,by simp only;rw[Wi a3];exact ba⟩
 ·have:i=ts.length:=by omega
  subst this;have aq:=Z6 ts.length;have bc:decide ((ts.length:Int)<=16384)=true:=abU ab;have ef:(ts.map refit).take ts.length=ts.map refit:=by rw[<-aah (f:=refit),aaS]
  rw[ef]at hA |-;refine bf ao [0] fun ag=>?_;refine ae (c:=.st _) ag fun I3 ag aa bb=>?_;have hF:Sl uh I3 (.slice oa (ts.map refit).length oc) (ts.map refit):=abX (R:=uh) (fun{I J c a} h k=>h) hA aa bb;apply bL 3;simp only[go_sem,iv,aq];refine fV 20 ag rfl fun pb an=>?_;apply RG;simp only[go_sem,mF,List.map,bc];exact af rfl an (r:=[pt pb]) rfl (abV ac aa) ⟨pb,_,rfl,rfl,hF⟩
def En:Nat->bq->Nat
 |n,[]=>n
 |n,c::s=>En (10*n+(c.toNat-48)) s
def mJ(s:bq):Bool:=s.all fun c=>lw (bZ c)
def vH(s:bq):Bool:=decide (1<=s.length) && decide (s.length<=10) && !(decide (1<s.length) && (bZ (s.getD 0 0) == 48)) && mJ s && decide (En 0 s<=2147483647)
variable{c:UInt8}
def lZ:lw (bZ c)=true<->48<=c.toNat/\c.toNat<=57:=by
 unfold lw bZ;simp only[aao,aaC];omega
def Cc(s:bq)(c:UInt8):∀n,En n (s++[c])=10*En n s+(c.toNat-48):=by
 induction s with
 |nil=>intro n;rfl
 |cons d s ih=>intro n;exact ih _
def u0:∀(s:bq) (n:Nat),mJ s=true->Lib.decFrom n s=some (En n s)
 | [],n,_=>rfl
 |c::s,n,h=>by
  simp only[mJ,List.all_cons,aao]at h;have hc:=lZ.1 h.1;simp only[Lib.decFrom,Lib.digitVal,aaq hc];rw[show n*10+(c.toNat-48)=10*n+(c.toNat-48) by omega];exact u0 s _ h.2
variable{u:Nat}
def NC{d:Nat}(h:1<=u)(hd:d<10):Lib.decDigits (10*u+d)=Lib.decDigits u++[UInt8.ofNat (48+d)]:=by
 rw[Lib.decDigits,dif_neg ab,show (10*u+d) / 10=u by omega,show (10*u+d) % 10=d by omega]
def uP(h:48<=c.toNat/\c.toNat<=57):UInt8.ofNat (48+(c.toNat-48))=c:=by
 rw[show 48+(c.toNat-48)=c.toNat by omega];simp
def T1(hc:49<=c.toNat):∀n,1<=En n (c::s):=by
 have:∀(s:bq) (n:Nat),n<=En n s:=by
  intro s
  induction s with
  |nil=>intro n;exact ZR _
  |cons d s ih=>intro n;exact ZS ab (ih _)
 intro n;exact ZS ab (this s (10*n+(c.toNat-48)))
def JO:∀(m:Nat) (s:bq),s.length=m+1->mJ s=true->(1<s.length->49<=(s.getD 0 0).toNat)->Lib.decDigits (En 0 s)=s
 |0,s,hl,h,_=>by
  match s,hl with
  | [c],_=>
   simp only[mJ,List.all_cons,List.all_nil,abv]at h;have hc:=lZ.1 h;show Lib.decDigits (10*0+(c.toNat-48))=[c];rw[Lib.decDigits_one ab,show 10*0+(c.toNat-48)=c.toNat-48 by omega,uP hc]
 |m+1,s,hl,h,h0=>by
  obtain⟨t,c,rfl⟩:∃t c,s=t++[c]:=⟨s.dropLast,s.getLast (by intro e;rw[e]at hl;cases hl),(List.dropLast_concat_getLast _).symm⟩;have aa:t.length=m+1:=by simpa using hl
  simp only[mJ,List.all_append,List.all_cons,List.all_nil,abv,aao]at h;have hc:=lZ.1 h.2;have hg:(t++[c]).getD 0 0=t.getD 0 0:=by
   cases t with
   |nil=>simp at aa
   |cons d t=>rfl
  have hd:=h0 (by rw[hl];omega);rw[hg]at hd;have hp:1<=En 0 t:=by
   cases t with
   |nil=>simp at aa
   |cons d t=>exact T1 hd 0
  rw[Cc,NC hp ab,JO m t aa h.1 (fun _=>hd),uP hc]
def Kk:∀(u:Nat),mJ (Lib.decDigits u)=true/\En 0 (Lib.decDigits u)=u/\(1<(Lib.decDigits u).length->49<=((Lib.decDigits u).getD 0 0).toNat)/\(1<=u->49<=((Lib.decDigits u).getD 0 0).toNat):=by
 intro u
 induction u using Nat.strongRecOn with
 |_ u ih=>
  have tn:∀d,d<10->(UInt8.ofNat (48+d)).toNat=48+d:=fun d hd=>by simp;omega
  by_cases h:u<10
  ·rw[Lib.decDigits_one h];have:=tn u h;refine⟨?_,?_,fun h=>by simp at h,fun hu=>?_⟩
   ·simp only[mJ,List.all_cons,List.all_nil,abv];exact lZ.2 ab
   ·show 10*0+((UInt8.ofNat (48+u)).toNat-48)=u;omega
   ·show 49<=(UInt8.ofNat (48+u)).toNat;omega
  ·obtain⟨a,b,_,d⟩:=ih (u / 10) ab;have d:=d ab;have e:Lib.decDigits u=Lib.decDigits (u / 10)++[UInt8.ofNat (48+u % 10)]:=by rw[Lib.decDigits,dif_neg h]
   have:=tn (u % 10) ab;have hg:(Lib.decDigits (u / 10)++[UInt8.ofNat (48+u % 10)]).getD 0 0=(Lib.decDigits (u / 10)).getD 0 0:=by
    cases hd:Lib.decDigits (u / 10)with
    |nil=>exact absurd hd (Mn _)
    |cons x l=>rfl
   rw[e,hg];refine⟨?_,?_,fun _=>d,fun _=>d⟩
   ·simp only[mJ,List.all_append,List.all_cons,List.all_nil,abv,aao];exact⟨a,lZ.2 ab⟩
   ·rw[Cc,b];omega
def KA(s:bq):vH s=pw s:=by
 rw[Bool.eq_iff_iff];constructor
 ·intro h;simp only[vH,aao,aaC,aay,Bool.and_eq_false_iff,abp]at h;obtain⟨⟨⟨⟨h1,h2⟩,h3⟩,h4⟩,h5⟩:=h;cases s with
  |nil=>simp at h1
  |cons c s=>
   have aa:=h4;simp only[mJ,List.all_cons,aao]at h4;have hc:=lZ.1 h4.1;have h0:1<(c::s).length->49<=((c::s).getD 0 0).toNat:=fun hl=>by
    rcases h3 with h3|h3
    ·exact absurd hl h3
    ·have:bZ c≠48:=by
      have h3:(bZ c == 48)=false:=h3;simpa using h3
     unfold bZ at this;show 49<=c.toNat;omega
   have aj:Lib.atoiAll (c::s)=.ok ((En 0 (c::s):Nat):Int):=by
    rw[Lib.atoiAll_short _ ab];have e1:(c == 45)=false:=by
     rw[abS];intro e;rw[e]at hc;revert hc;decide
    have e2:(c == 43)=false:=by
     rw[abS];intro e;rw[e]at hc;revert hc;decide
    simp only[Lib.atoi,e1,e2,aa5,Z2,Lib.decNat,List.isEmpty_cons];rw[u0 _ 0 aa];rfl
   unfold pw;rw[aj];simp only[aao,aaC];refine⟨⟨ab,?_⟩,h4.1⟩;rw[Lib.itoa,ZV ab,Int.toNat_natCast];exact JO s.length _ rfl aa h0
 ·intro h;unfold pw at h;split at h
  ·rename_i v hv;simp only[aao,aaC]at h;obtain⟨⟨h1,h2⟩,h3⟩:=h;have ag:¬v<0:=fun hn=>by
    rw[Lib.itoa,aaq hn]at h2;rw[<-h2]at h3;have:lw (bZ 45)=false:=by decide
    have h3:lw (bZ 45)=true:=h3;rw[this]at h3;cases h3
   rw[Lib.itoa,ZV ag]at h2;obtain⟨a,b,d,_⟩:=Kk v.toNat;rw[h2]at a b d;have ac:s.length=Lib.nDigits v.toNat:=by rw[<-h2,Lib.decDigits_length]
   have hp:=Lib.nDigits_pos v.toNat;have hn:s.length<=10:=by
    rw[ac];rcases aaf 10 (Lib.nDigits v.toNat)with hc|hc
    ·exfalso;have key:∀(k u:Nat),k+1<Lib.nDigits u->10^(k+1)<=u:=by
      intro k
      induction k with
      |zero=>
       intro u hu;rcases aaf u 10 with h|h
       ·rw[Lib.nDigits_small h]at hu;omega
       ·simpa using h
      |succ k ih=>
       intro u hu;rcases aaf u 10 with h|h
       ·rw[Lib.nDigits_small h]at hu;omega
       ·rw[Lib.nDigits_big ab]at hu;have:=ih (u / 10) ab;rw[abd];omega
     have:=key 9 v.toNat ab;have e10:(10:Nat)^(9+1)=10000000000:=by decide
     omega
    ·exact hc
   simp only[vH,aao,aaC,aay,Bool.and_eq_false_iff,abp];refine⟨⟨⟨⟨ab,hn⟩,?_⟩,a⟩,ab⟩;rcases aaf 1 s.length with hl|hl
   ·right
    have:=d hl;unfold bZ;rw[abS];omega
   ·left;omega
  ·cases h
def th:∀(n:Nat) (d:bq) (l:List (Nat×bq)),d.length<n->xZ d=some l->∀x∈l,x.2.length<=d.length
 |0,_,_,h,_=>by omega
 |n+1,[],l,_,e=>by rw[mP]at e;cases e;exact fun _ h=>(aaB h).elim
 |n+1,c::s,l,h,e=>by
  simp only[aaj]at h;rw[mV]at e;intro x hx;split at e
  ·have:=th n s l ab e x hx;simp only[aaj];omega
  ·split at e
   ·cases e;exact(aaB hx).elim
   ·split at e
    ·cases e
    ·rename_i h3;obtain⟨a,b,_⟩:=og h3;rw[Z8]at e;obtain⟨l',e1,e2⟩:=e;subst e2;rcases List.mem_cons.1 hx with hx|hx
     ·rw[hx];exact b
     ·have:=th n _ l' (by simp only[abD,aaj]at b |-;omega) e1 x hx;simp only[abD,aaj]at this b |-;omega
def tD(h:xZ s=some [(k,s)]):fS s=(k,s):=by
 cases s with
 |nil=>rw[mP]at h;cases h
 |cons c t=>
  rw[mV]at h;split at h
  ·have:=th _ t _ (aba _) h _ (.head _);simp only[aaj]at this;omega
  ·split at h
   ·cases h
   ·split at h
    ·cases h
    ·rw[Z8]at h;obtain⟨l,_,e⟩:=h;exact(List.cons.inj e).1
def OO{t:bq}(hk:k≠0)(ha:fS (c::t)=(k,c::t))(hb:yO (bZ c)=false)(hm:TV.isPrefixOf (c::t)=false)(ho:((c::t).all fun c=>Er (bZ c))=true):lI k (c::t)=true:=by
 unfold lI rI;rw[aaq ho,mV,hb,hm,ha];simp only[aa5,Z2,ZV hk,abH];simp[mP]
def Hr(h:gu (bZ c)=true):Er (bZ c)=true/\yO (bZ c)=false/\c≠47:=by
 have hb:bZ c=(c.toNat:Int):=rfl;simp only[gu,nD,lw,aax,aao,aaC,beq_iff_eq]at h;refine⟨?_,?_,fun e=>?_⟩
 ·simp only[Er,aay,Bool.and_eq_false_iff,Bool.or_eq_false_iff,abp,bne_eq_false_iff_eq]
  right;constructor<;>omega
 ·simp only[yO,Bool.or_eq_false_iff,abS];constructor<;>omega
 ·subst e;have:bZ 47=47:=by decide
  omega
def AK:∀{s:bq},(s.all fun c=>gu (bZ c))=true->dE s=s.length
 | [],_=>rfl
 |c::s,h=>by
  simp only[List.all_cons,aao]at h;rw[dE,aaq h.1,AK h.2];rfl
def TH{t:bq}(h:c≠47):TV.isPrefixOf (c::t)=false:=by
 rw[Bool.eq_false_iff];intro e;have:=List.isPrefixOf_iff_prefix.1 e;obtain⟨r,hr⟩:=this;unfold TV at hr;injection hr with h1 _
 exact h h1.symm
def Ai(hk:k≠0)(hp:(s.all fun c=>gu (bZ c))=true)(ha:fS s=(k,s))(aa:s≠[]):lI k s=true:=by
 cases s with
 |nil=>exact absurd rfl aa
 |cons c t=>
  have h0:=hp;simp only[List.all_cons,aao]at h0;obtain⟨_,h2,h3⟩:=Hr h0.1;refine OO hk ha h2 (TH h3) ?_;rw[aap]at hp |-;exact fun x hx=>(Hr (hp x hx)).1
def Xp(s:bq):lI 1 s=xJ s:=by
 rw[Bool.eq_iff_iff];constructor
 ·intro h;have h:=abl h;unfold rI at h;split at h
  ·have:=tD h;unfold fS at this;split at this
   ·rename_i h1;have e:=(Prod.mk.inj this).2;rw[e]at h1;exact h1
   ·split at this
    ·cases (Prod.mk.inj this).1
    ·split at this<;>cases (Prod.mk.inj this).1
  ·cases h
 ·intro h;have hp:(s.all fun c=>gu (bZ c))=true:=by unfold xJ at h;exact(Bool.and_eq_true_iff.1 h).2
  refine Ai bg hp ?_ (JP h);unfold fS;rw[AK hp,aaS,aaq h]
def XB(s:bq):lI 2 s=pw s:=by
 rw[Bool.eq_iff_iff];constructor
 ·intro h;have h:=abl h;unfold rI at h;split at h
  ·have:=tD h;unfold fS at this;split at this
   ·cases (Prod.mk.inj this).1
   ·split at this
    ·rename_i h1;have e:=(Prod.mk.inj this).2;rw[e]at h1;exact h1
    ·split at this<;>cases (Prod.mk.inj this).1
  ·cases h
 ·intro h;have hr:=h;rw[<-KA]at hr;simp only[vH,aao,aaC]at hr;have hd:=hr.1.2;have hp:(s.all fun c=>gu (bZ c))=true:=by
   unfold mJ at hd;rw[aap]at hd |-;intro x hx;simp only[gu,hd x hx,Bool.or_true,Bool.true_or]
  refine Ai bg hp ?_ (Gr h);have hn:xJ s=false:=by
   cases s with
   |nil=>rfl
   |cons c t=>
    unfold mJ at hd;rw[List.all_cons,aao]at hd;have:lw (bZ ((c::t).getD 0 0))=true:=hd.1;simp only[xJ,this,Bool.or_true,abQ,Bool.false_and]
  unfold fS;rw[AK hp,aaS,ZV (by rw[hn];decide),aaq h]
def Jw:∀s∈f4,lI 3 s=true:=by decide +kernel
def Xb(s:bq):lI 3 s=f4.contains s:=by
 rw[Bool.eq_iff_iff];constructor
 ·intro h;have h:=abl h;unfold rI at h;split at h
  ·have:=tD h;unfold fS at this;split at this
   ·cases (Prod.mk.inj this).1
   ·split at this
    ·cases (Prod.mk.inj this).1
    ·split at this
     ·rename_i x hx;have e:=(Prod.mk.inj this).2;subst e;exact List.contains_iff_mem.2 (List.mem_of_find?_eq_some hx)
     ·cases (Prod.mk.inj this).1
  ·cases h
 ·intro h;exact Jw s (List.contains_iff_mem.1 h)
def L6(h1:k≠1)(h2:k≠2)(h3:k≠3)(s:bq):lI k s=false:=by
 rw[Bool.eq_false_iff];intro h;have h:=abl h;unfold rI at h;split at h
 ·have hl:=tD h;have h0:k≠0:=by
   intro e;subst e;cases s with
   |nil=>rw[mP]at h;cases h
   |cons c t=>
    rw[mV]at h;split at h
    ·have:=th _ t _ (aba _) h _ (.head _);simp only[aaj]at this;omega
    ·split at h
     ·cases h
     ·rw[aaq (by rw[hl])]at h;cases h
  unfold fS at hl;split at hl
  ·exact h1 (Prod.mk.inj hl).1.symm
  ·split at hl
   ·exact h2 (Prod.mk.inj hl).1.symm
   ·split at hl
    ·exact h3 (Prod.mk.inj hl).1.symm
    ·exact h0 (Prod.mk.inj hl).1.symm
 ·cases h
open Go Go.Sx Dg
def ch(c:Nat):bP:=fun i=>c.testBit i
def Jk(c:Nat)(x:Nat×Nat):Bool:=decide ((c&&&x.1)&&&16777215=x.1&&&16777215) && decide ((c&&&x.2)&&&16777215=0)
def Ek(l:List (Nat×Nat))(c:Nat):Bool:=l.any (Jk c)
def uJ(i:Nat):(16777215:Nat).testBit i=decide (i<24):=by
 rw[show (16777215:Nat)=2^24-1 from rfl,Nat.testBit_two_pow_sub_one]
def vV(c:Nat)(x:Nat×Nat):Jk c x=true<->∀i,i<24->(x.1.testBit i=true->c.testBit i=true)/\(x.2.testBit i=true->c.testBit i=false):=by
 unfold Jk;rw[aao,aaC,aaC];constructor
 ·rintro⟨h1,h2⟩ i hi;have e1:=congrArg (fun n=>n.testBit i) h1;have e2:=congrArg (fun n=>n.testBit i) h2;simp only[abu,uJ,hi,decide_true,abv,Nat.zero_testBit]at e1 e2;refine⟨fun h=>?_,fun h=>?_⟩
  ·rw[h]at e1;simpa using e1
  ·rw[h]at e2;simpa using e2
 ·intro h;constructor
  ·apply Nat.eq_of_testBit_eq;intro i;simp only[abu,uJ];by_cases hi:i<24
   ·have:=(h i hi).1;cases h1:x.1.testBit i
    ·simp
    ·simp[this h1]
   ·simp[hi]
  ·apply Nat.eq_of_testBit_eq;intro i;simp only[abu,uJ,Nat.zero_testBit];by_cases hi:i<24
   ·have:=(h i hi).2;cases h1:x.2.testBit i
    ·simp
    ·simp[this h1]
   ·simp[hi]
def Cp(c:Nat)(x:Nat×Nat):(jx x.1 x.2).at' (ch c)=Jk c x:=by
 rw[Bool.eq_iff_iff,vV];unfold jx;split
 ·rename_i h;constructor
  ·intro h;cases h
  ·intro k;refine absurd ?_ h;apply Nat.eq_of_testBit_eq;intro i;simp only[abu,uJ,Nat.zero_testBit];by_cases hi:i<24
   ·have h1:=(k i hi).1;have h2:=(k i hi).2;cases e1:x.1.testBit i<;>cases e2:x.2.testBit i<;>simp_all
   ·simp[hi]
 ·rename_i h;have h0:∀i,i<24->x.1.testBit i=true->x.2.testBit i=true->False:=by
   intro i hi e1 e2;apply h;intro e;have:=congrArg (fun n=>n.testBit i) e;simp[abu,uJ,hi,e1,e2]at this
  rw[DV _ _ _ 24 (ZR _)];constructor
  ·intro k i hi;have:=k i ab hi;simp only[abu,uJ,hi,decide_true,abv]at this;refine⟨this.1,fun e=>?_⟩;cases e1:x.1.testBit i
   ·exact this.2 e1 e
   ·exact(h0 i hi e1 e).elim
  ·intro k i _ hi;have:=k i hi;simp only[abu,uJ,hi,decide_true,abv];exact⟨this.1,fun _ e=>this.2 e⟩
def zu(c:Nat):(jx c (4294967295 ^^^ c)).at' (ch c)=true:=by
 have:=Cp c (c,4294967295 ^^^ c);rw[this,vV];intro i hi;refine⟨fun h=>h,fun h=>?_⟩;simp only[Nat.testBit_xor]at h;rw[show (4294967295:Nat)=2^32-1 from rfl,Nat.testBit_two_pow_sub_one]at h;have aa:i<32:=by omega
 simp[aa]at h;exact h
def CN{a b:Nat}(ha:a<2^32)(hb:b<2^32):Uu .u32 (a:Int) (b:Int)=((a|||b:Nat):Int):=by
 have ea:BitVec.ofInt 32 (a:Int)=BitVec.ofNat _ a:=by rw[BitVec.ofInt_natCast]
 have eb:BitVec.ofInt 32 (b:Int)=BitVec.ofNat _ b:=by rw[BitVec.ofInt_natCast]
 have hc:a|||b<2^32:=Nat.or_lt_two_pow ha hb;have:Uu .u32 (a:Int) (b:Int)=IntKind.u32.wrap ((BitVec.ofInt 32 (a:Int)|||BitVec.ofInt 32 (b:Int)).toNat:Int):=rfl;rw[this,ea,eb,BitVec.toNat_or,BitVec.toNat_ofNat,BitVec.toNat_ofNat,Nat.mod_eq_of_lt ha,Nat.mod_eq_of_lt hb];simp only[IntKind.wrap,show IntKind.bits .u32=32 from rfl,show IntKind.signed .u32=false from rfl];have:((a|||b:Nat):Int) % (2^32:Int)=((a|||b:Nat):Int):=abm ab (by exact_mod_cast hc);simpa using this
def RA(hi:i<32):yR .u32 1 (i:Int)=((2^i:Nat):Int):=by
 have:yR .u32 1 (i:Int)=IntKind.u32.wrap (1*2^(min i 32)):=rfl;have e:min i 32=i:=by omega
 have hc:(2:Nat)^i<2^32:=Nat.pow_lt_pow_right ab hi;rw[this,e,show (1*2^i:Int)=((2^i:Nat):Int) by simp];simp only[IntKind.wrap,show IntKind.bits .u32=32 from rfl,show IntKind.signed .u32=false from rfl];have:((2^i:Nat):Int) % (2^32:Int)=((2^i:Nat):Int):=abm (abt _) (by exact_mod_cast hc);simpa using this
def qb(l:List (Nat×Nat))(u:Nat):Prop:=∀x∈l,∀i,i<24->x.1.testBit i=true\/x.2.testBit i=true->u.testBit i=true
variable{l:List (Nat×Nat)}
def qb.left(h:qb l u)(v:Nat):qb l (u|||v):=fun x hx i hi hb=>by rw[Nat.testBit_or,h x hx i hi hb];rfl
def qb.right(h:qb l u)(v:Nat):qb l (v|||u):=fun x hx i hi hb=>by rw[Nat.testBit_or,h x hx i hi hb,Bool.or_true]
def eY(u:Nat):Nat->List Nat
 |0=>[0]
 | i+1=>if u.testBit i=true then eY u i++(eY u i).map (fun x=>x|||2^i)else eY u i
def sN(u:Nat):∀(i:Nat),∀x∈eY u i,x<2^i
 |0,x,h=>by
  unfold eY at h;rw[List.mem_singleton]at h;subst h;decide
 |i+1,x,h=>by
  have hm:∀y∈eY u i,y<2^(i+1):=fun y hy=>Nat.lt_of_lt_of_le (sN u i y hy) (abe ab ab);unfold eY at h;split at h
  ·rcases List.mem_append.1 h with h|h
   ·exact hm x h
   ·obtain⟨y,hy,rfl⟩:=List.mem_map.1 h;exact Nat.or_lt_two_pow (hm y hy) (Nat.pow_lt_pow_right ab ab)
  ·exact hm x h
def jE(l:List (Nat×Nat))(u:Nat):List Nat:=(eY u 32).filter (Ek l)
variable{a:Option Addr}
def LK{H:PH}{b:Nat}(hb:aP H b 0 [iv k])(hk:k<=5){h:aB}{c:Nat}:bO Tryz.prog 222 #[yL a c h,pt b] H fun v H2=>v=.bool (ti k h)/\H2=H:=by
 refine ah 14 Tryz.func222 fun w0=>?_
 try simp only[yL,iv,pt,sD,rD]
 refine aT ?_;refine eP [0,1,2,3,4,5,7,6,8,9,10] [7] [6] ?_;by_cases h3:h.kind=3
 ·have h6:((h.kind:Int) == 3)=true:=by simp[h3]
  apply au;simp only[go_sem,h6,iv,pt];refine W7 (l:=[iv k]) rfl hb (.inr ⟨jq,rfl⟩) ?_;apply au;simp only[go_sem,h6,iv,pt];refine tH rfl rfl rfl rfl N6 Lm fun v H2 hv=>?_;obtain⟨rfl,rfl⟩:=hv;refine⟨l9.le (abW _),?_⟩;apply au;simp only[go_sem,h6,iv,pt];refine aw ?_;refine aT ?_;refine aJ (r:=[.bool ((if dX h.text=9 then -1 else (dX h.text:Int)) == (k:Int))]) rfl ⟨?_,rfl⟩;show Value.bool _=Value.bool (ti k h);congr 1;unfold ti;rw[h3];by_cases e:dX h.text=k
  ·subst e;rw[ZV ab];simp
  ·simp only[e];split<;>simp<;>omega
 ·have h6:((h.kind:Int) == 3)=false:=by simp;omega
  apply au;simp only[go_sem,h6,iv,pt];refine aw ?_;refine aT ?_;exact aJ (r:=[.bool false]) rfl ⟨by simp[gv,ti,h3],rfl⟩
def BT{hb kind:Nat}{h:aB}{c:Nat}(hc:aP I hb 0 [iv h.at',sD a c h.cond,rD h.cond,.int .u8 h.kind,.string ⟨⟨h.text⟩⟩])(hr:cX I (.agg #[sD a c h.cond,rD h.cond]) h.cond):
  aK Tryz.prog 291 #[.int .u8 kind,pt hb] I [] fun v I2 qs=>∃A,qs=[A]/\bQ I2 A v [gz kind h 0]:=by
 intro hd;have h1:=hc.sub 0 1 (by simp);have h2:=hc.sub 1 2 (by simp);simp only[abx,aa1,abA,abz,ZZ]at h1 h2;refine ah 11 Tryz.func291 fun w0=>?_
 try simp only[pt]
 refine aT ?_;refine XN (l:=[_]) rfl (cellsU hd (.head _) h1) (.inr ⟨jq,rfl⟩) ?_;refine aT ?_;refine XN (l:=[_,_]) (v:=.agg #[_,_]) rfl (cellsU hd (.head _) h2) (.inl ⟨r9,rfl⟩) ?_;refine lY ?_;refine fx hd (by exact dQ) rfl rfl rfl rfl rfl bg fun b A ac aa=>?_;refine aT ?_;refine af rfl ac (r:=[_]) rfl (abW _) ⟨A,rfl,_,aa,?_⟩;exact .one (bm.mk (n:=gz kind h 0) hr (Sl.nil _ _) lM)
def rU:aO Tryz.prog 83:=⟨_,Tryz.func83,rfl,rfl⟩
def Bl:aO Tryz.prog 144:=⟨_,Tryz.func144,rfl,rfl⟩
def Gf:aO Tryz.prog 204:=⟨_,Tryz.func204,rfl,rfl⟩
section
variable {ts:List Tok} {f:ar}
end
def Uq(ts:List Tok)(r:Syn.bW):Value->PH->List PH->Prop:=fun v I2 rs=>RN r v I2 rs/\FN ts.length r.f/\r.l.length<=aN
section
variable (pb:Nat) (ts:List Tok) (lv fv ov:Value)
def WF(fid o:Nat)(args:Value->Array Value)(f:ar)(r:Syn.bW):Prop:=
 ∀{I D:PH} {dv vf:Value} {e:List cO},zr I ts lv fv->eR I vf f->FN ts.length f->eF I D dv e->e.length+r.e.length<=ux->
  aK Tryz.prog fid (args vf) I [sg pb (cg lv fv ov dv o),D] (PP pb lv fv ov o (e++r.e) (Uq ts r))
def WH(fid o:Nat)(args:Value->Array Value)(h:aB)(r:Syn.bW):Prop:=
 ∀{I D:PH} {dv:Value} {a:Option Addr} {k:Nat} {e:List cO},zr I ts lv fv->kS ts h->cX I (.agg #[sD a k h.cond,rD h.cond]) h.cond->eF I D dv e->e.length+r.e.length<=ux->
  aK Tryz.prog fid (args (yL a k h)) I [sg pb (cg lv fv ov dv o),D] (PP pb lv fv ov o (e++r.e) (Uq ts r))
def fH(fid:Nat):Value:=.func (.func fid) #[pt pb] #[]
def vQ:Syn.Call->Syn.bW->Prop
 | .line k o f slot,r=>k<=5->o<=64->WF pb ts lv fv ov 144 o (fun vf=>#[pt pb,iv k,vf,iv slot]) f r
 | .unary o f slot,r=>o<=64->WF pb ts lv fv ov 220 o (fun vf=>#[pt pb,vf,iv slot]) f r
 | .inside o f slot,r=>o<=64->WF pb ts lv fv ov 270 o (fun vf=>#[pt pb,vf,iv slot]) f r
 | .listed par o f,r=>o<=64->WF pb ts lv fv ov 206 o (fun vf=>#[pt pb,vf,fH pb (if par then 207 else 83)]) f r
 | .behind typ o f sign slot,r=>o<=64->sign≠[]->WF pb ts lv fv ov 204 o (fun vf=>#[pt pb,vf,.string ⟨⟨sign⟩⟩,fH pb (if typ then 202 else 83),iv slot]) f r
 | .vrb o f,r=>o<=64->WF pb ts lv fv ov 137 o (fun vf=>#[pt pb,vf]) f r
 | .function o f,r=>o<=64->WF pb ts lv fv ov 139 o (fun vf=>#[pt pb,vf]) f r
 | .block o f slot,r=>o<=64->WF pb ts lv fv ov 208 o (fun vf=>#[pt pb,vf,iv slot]) f r
 | .stmt o h,r=>o<=64->WH pb ts lv fv ov 264 o (fun vh=>#[pt pb,vh]) h r
 | .branch o h slot,r=>o<=64->h.text≠[]->WH pb ts lv fv ov 292 o (fun vh=>#[pt pb,vh,iv slot]) h r
 |_,_=>True
def kP(n:Nat):Prop:=∀m,m<n->∀x r,run ts m x=some r->vQ pb ts lv fv ov x r
end
section
variable {pb:Nat} {ts:List Tok} {lv fv ov:Value}
variable{o:Nat}
def qA(kind slot:Nat)(f:ar):WF pb ts lv fv ov 201 o (fun vf=>#[pt pb,vf,.int .u8 kind,iv slot]) f (named ts f kind slot):=by
 intro I D dv vf e h hf fn he hm;refine(P0 h hf fn he hm).mono fun v I2 qs _ hq=>?_;obtain⟨dv2,D2,rs,e1,e2,e3⟩:=hq;have:=lC h.ok fn kind slot;exact⟨dv2,D2,rs,e1,e2,e3,iy h.ok fn kind slot,by have:=h.len;unfold aN;omega⟩
def BM(slot:Nat)(f:ar):WF pb ts lv fv ov 202 o (fun vf=>#[pt pb,vf,iv slot]) f (sW ts f slot):=by
 intro I D dv vf e h hf fn he hm;refine(P5 h hf fn he hm).mono fun v I2 qs _ hq=>?_;obtain⟨dv2,D2,rs,e1,e2,e3⟩:=hq;have:=Ij h.ok fn slot;exact⟨dv2,D2,rs,e1,e2,e3,sP h.ok fn slot,by have:=h.len;unfold aN;omega⟩
def rT{slot:Nat}{f:ar}{r:Syn.bW}(hw:vQ pb ts lv fv ov (.line 0 o f slot) r)(ho:o<=64):WF pb ts lv fv ov 83 o (fun vf=>#[pt pb,vf,iv slot]) f r:=by
 intro I D dv vf e h hf fn he hm hd;refine ah 14 Tryz.func83 fun w0=>?_
 try simp only[iv,pt]
 refine aT ?_;refine ad hd [0,1] [sg pb _,D] [] rfl Bl rfl (hw (aaL _) ho h hf fn he hm) fun v I2 qs ac aa hq=>?_;obtain⟨dv2,D2,rs,rfl,hE,⟨A,B,va,vb,rfl,rfl,hA,hB⟩,hF⟩:=hq;simp only[aaz,aaA,aa6]at ac |-;refine aT ?_;exact af rfl ac (r:=[va,vb]) rfl aa ⟨dv2,D2,[A,B],rfl,hE,⟨A,B,va,vb,rfl,rfl,hA,hB⟩,hF⟩
end
open Go Go.Sx Dg Syn
section
variable {pb:Nat} {ts:List Tok} {lv fv ov:Value}
variable{r:Syn.bW}{n:Nat}
def bR{x:Syn.Call}(h:Syn.run ts n x=some r):∃m,n=m+1/\Syn.step ts (Syn.run ts m) x=some r:=by
 cases n with
 |zero=>cases h
 |succ m=>exact⟨m,rfl,h⟩
def bU{α β:Type}{a:Option α}{f:α->Option β}{q:β}(h:(a >>= f)=some q):∃x,a=some x/\f x=some q:=by
 cases a with
 |none=>cases h
 |some x=>exact⟨x,rfl,h⟩
variable{typ:Bool}
def Sb{m o slot:Nat}{g:ar}{a:Syn.bW}(ih:kP pb ts lv fv ov n)(hm:m<n)(ho:o<=64)(h:wu ts (Syn.run ts m) typ o g slot=some a):WF pb ts lv fv ov (if typ then 202 else 83) o (fun vf=>#[pt pb,vf,iv slot]) g a/\aO Tryz.prog (if typ then 202 else 83):=by
 cases typ
 ·exact⟨rT (ih m hm _ _ h) ho,rU⟩
 ·cases h
  exact⟨BM slot g,BN⟩
def WR(pb slot:Nat)(rv vout vh:Value)(n:Nat)(x:Nat×Value):St:=⟨dn 52 [(0,.v (pt pb)),(3,.v rv),(4,.v (iv slot)),(13,.v vout),(14,.v x.2),(27,.v vh),(28,.v (iv n)),(29,.v (iv x.1))],[]⟩
def Xf(pb:Nat)(lv fv ov dv:Value)(o:Nat)(J:ar->aB->ar)(z:ar)(hs:List aB)(Fr:List PH)(I0:PH)(x:Nat×Value)(H:PH):Prop:=
 ∃I A,H=U (I::sg pb (cg lv fv ov dv o)::A::Fr)/\Dj (I::sg pb (cg lv fv ov dv o)::A::Fr)/\I0.le I/\x.1<=hs.length/\jy I A x.2 ((hs.take x.1).foldl J z)
theorem LA(ih:kP pb ts lv fv ov n){o:Nat}{f:ar}{sign:bq}{slot:Nat}(hr:Syn.run ts n (.behind typ o f sign slot)=some r):vQ pb ts lv fv ov (.behind typ o f sign slot) r:=by
 obtain⟨m,rfl,hs⟩:=bR hr;have aS:Syn.behind ts (Syn.run ts m) typ o f sign slot=some r:=hs;unfold Syn.behind at aS;obtain⟨yes,out,b6⟩:∃yes out,aM ts f (bD sign)=(yes,out):=⟨_,_,rfl⟩;rw[b6]at aS;simp only at aS;obtain⟨a,ha,e⟩:=bU aS;cases e
 clear aS hs hr;intro ho b7 I D dv vf e h hf fn he hm hd;obtain⟨cl,cp⟩:=Sb ih (aba m) ho ha;have hl:=h.len;refine ah 52 Tryz.func204 fun w0=>?_
 try simp only[iv,pt,fH]
 refine aT ?_;refine ad hd [0,1] [] [sg pb _,D] rfl jl rfl (kM (s:=sign)) fun v I2 qs cb am hq=>?_;obtain⟨rfl,cd⟩:=hq;simp only[aaz,aaA]at cb |-;obtain⟨fi,first,cap,rfl,gi,ci⟩:=id cd;refine aT ?_;refine ad cb [0,1] [sg pb _] [D] rfl jD rfl (jC (h.le am) (eR.le hf am) fn cd) fun v I3 qs ca bx hq=>?_;obtain⟨A,B,va,vb,rfl,rfl,hA,hB⟩:=hq;simp only[aaz,aaA]at ca |-;have hY:=fm h.ok fn (is:=bD sign);have cc:=gE h.ok fn (bD sign);have a9:=dC h.ok fn (bD sign);rw[b6]at hA hB hY cc a9;simp only at hA hB hY cc a9;obtain⟨ya,yc,rfl⟩:=hA.shape;obtain⟨ba,bc,rfl⟩:=hB.shape;refine aT ?_;refine bf ca [1,0,2,3] fun cy=>?_;refine ae cy fun I4 cx al c8=>?_;have cB:qO I4 (.slice ya yes.length yc) yes:=abX (R:=l7) (fun{I J c a} h k=>l7.le h k) hA al c8;refine aR cx fun ct=>?_;refine bf ct [1,0,2,3] fun cr=>?_;refine aA (fun x=>yes.length-x.1) (WR pb slot (fH pb (if typ then 202 else 83)) (.slice ba out.length bc) (.slice ya yes.length yc) yes.length) (Xf pb lv fv ov dv o joinH1 [] yes [B,D] I4) (0,.slice none 0 0) (bJ (by simp only[go_sem,aa6,iv,pt,fH])) (by simp only[go_sem,aa6,WR]) ?_ ?_
 ·exact⟨I4,PH.no,rfl,cr,abW _,aaL _,Ow.nil _ _ _ _⟩
 rintro⟨i,vat⟩ H ⟨I5,A5,rfl,bC,aj,hi,a6⟩ a1;simp only at hi a6;simp only[WR];have c1:qO I5 (.slice ya yes.length yc) yes:=cB.le aj;have a5:FN ts.length ((yes.take i).foldl joinH1 []):=m8 (fun x hx=>⟨(hY x (abf hx)).1,qo b7 (hY x (abf hx)).1 (hY x (abf hx)).2⟩) (FN.nil _);have dd:=a5.len;rcases aaf i yes.length with b8|dc
 ·have bb:decide ((i:Int)<(yes.length:Int))=true:=by simp;omega
  have e1:=wrap64 (n:=i+1) ab;have da:IntKind.i64.wrap ((i:Int)+1)=((i+1:Nat):Int):=by rw[<-e1];congr 1
  obtain⟨x,hx⟩:∃x,yes[i]?=some x:=⟨_,aak b8⟩;have b5:=hY x (aaV hx);have cj:=qo b7 b5.1 b5.2;have e2:=wrap64 (n:=x.at'+1) ab;have c9:IntKind.i64.wrap ((x.at':Int)+1)=((x.at'+1:Nat):Int):=by rw[<-e2];congr 1
  obtain⟨b,off,cs,rfl,cA,a4⟩:=c1.load l7.len hx;obtain⟨xa,xk,rfl,bd⟩:=cA;have aq:=dm (g:=joinH1) (z:=[]) hx;obtain⟨ta,tc,rfl⟩:=a6.shape;apply RG;simp only[go_sem,bb,iv,pt,fH];refine⟨ab,?_⟩;refine XN (l:=[iv x.at',sD xa xk x.cond,rD x.cond,.int .u8 x.kind,.string ⟨⟨x.text⟩⟩]) (v:=.agg #[iv x.at',sD xa xk x.cond,rD x.cond,.int .u8 x.kind,.string ⟨⟨x.text⟩⟩]) rfl (cellsU bC (.head _) a4) (.inl ⟨gI,rfl⟩) ?_;apply RG;simp only[go_sem,bb,iv,pt,sD,rD,c9];refine ad bC [1,0,2,3] [A5] [sg pb _,B,D] rfl ej rfl (bK (a:=x.at'+1) a6 bd a5.ok.2 (fun t ht=>by have:=a5.le t ht;omega) ab ab) fun v I6 qs a7 bs hq=>?_;obtain⟨A6,rfl,b3⟩:=hq;obtain⟨ta2,tc2,rfl⟩:=b3.shape;simp only[aaz,aaA]at a7 |-;apply RG;simp only[go_sem,iv,pt,sD,rD,da];refine bf a7 [1,0,2,3] fun an=>?_;rw[show Syn.join ((yes.take i).foldl joinH1 []) (x.at'+1) x.cond=(yes.take (i+1)).foldl joinH1 [] from aq.symm]at b3 |-;exact a1 (i+1,.slice ta2 _ tc2) _ _ dt (bJ (by simp only[go_sem,aa6,iv,pt,fH])) (by simp only[go_sem,aa6,WR]) ⟨I6,A6,rfl,an,abV aj bs,b8,b3⟩
 ·have cm:i=yes.length:=by omega
  subst cm;have bb:=Z6 yes.length;rw[aaS]at a6 a5;apply RG;simp only[go_sem,bb,iv,pt,fH];refine bf bC [1,0,2,3] fun a7=>?_;refine ae a7 fun I6 an ag b4=>?_;have hG:eR I6 vat (yes.foldl joinH1 []):=abX (R:=iD) (fun{I J c a} h k=>iD.le h k) a6 ag b4;have ao:=abV am (abV bx (abV al (abV aj ag)));refine ll ?_;refine ad an [0,2,1] [sg pb _,D] [B] rfl cp rfl (cl (h.le ao) hG a5 (he.le ao) hm) fun v I7 qs a3 ak hq=>?_;obtain⟨dv2,D2,rs,rfl,c3,⟨A7,B7,vl,vg,rfl,rfl,c7,c6⟩,cf,c0⟩:=hq;simp only[aaz,aaA]at a3 |-;refine ll ?_;refine bf a3 [3,0,1,2,4] fun b1=>?_;refine ae b1 fun I8 b0 aa b2=>?_;have c2:eR I8 vg a.f:=abX (R:=iD) (fun{I J c a} h k=>iD.le h k) c6 aa b2;have c5:jy I8 B (.slice ba out.length bc) out:=(hB.le (abV al (abV aj ag))).le (abV ak aa);refine ad b0 [3,0,1,2] [B] [sg pb _,D2,A7] rfl eI rfl (cS (N:=ts.length) ab c5 a9 c2 cf) fun v I9 qs a2 ac hq=>?_;obtain⟨B9,rfl,c4⟩:=hq;simp only[aaz,aaA]at a2 |-;refine ll ?_;refine bf a2 [1,2,3,0] fun bF=>?_;refine af rfl bF (r:=[vl,v]) rfl (abV ao (abV ak (abV aa ac))) ⟨dv2,D2,[A7,B9],rfl,c3.le (abV aa ac),⟨A7,B9,vl,v,rfl,rfl,c7.le (abV aa ac),c4⟩,a9.joinAll cf,c0⟩
end
open Go Go.Sx Dg Syn
def Qs:aO Tryz.prog 207:=⟨_,Tryz.func207,rfl,rfl⟩
def Hc:aO Tryz.prog 137:=⟨_,Tryz.func137,rfl,rfl⟩
def O2:aO Tryz.prog 139:=⟨_,Tryz.func139,rfl,rfl⟩
def Bd:aO Tryz.prog 206:=⟨_,Tryz.func206,rfl,rfl⟩
def sK:aO Tryz.prog 208:=⟨_,Tryz.func208,rfl,rfl⟩
section
variable {pb:Nat} {ts:List Tok} {lv fv ov:Value}
def cW{l ks r:List Nd}(h:jb l ks=some r):∀n∈l,n.kids.length+ks.length<=aN:=by
 unfold jb at h;split at h
 ·rename_i h2;intro n hn;simpa using List.all_eq_true.1 h2 n hn
 ·cases h
def cw(l ks:List Nd):(give l ks).length=l.length:=by simp[give]
variable{v:Value}
def bQ.sl{I J A:PH}{l:List Nd}(h:bQ I A v l)(h1:I.le J)(h2:A.le J):eE J v l:=abX (R:=bm) (fun{I J c a} h k=>bm.le h k) h h1 h2
def jy.sl{I J A:PH}{l:ar}(h:jy I A v l)(h1:I.le J)(h2:A.le J):eR J v l:=abX (R:=iD) (fun{I J c a} h k=>iD.le h k) h h1 h2
def TP.sl{I J A:PH}{l:List aB}(h:TP I A v l)(h1:I.le J)(h2:A.le J):qO J v l:=abX (R:=l7) (fun{I J c a} h k=>l7.le h k) h h1 h2
variable{r:Syn.bW}{o:Nat}
theorem Og{f:ar}(rec:Syn.sY)(hr:Syn.item ts rec true o f=some r):WF pb ts lv fv ov 207 o (fun vf=>#[pt pb,vf,iv 0]) f r:=by
 unfold Syn.item at hr;simp only[ZT]at hr;obtain⟨g,e1,ht⟩:∃g e1,Syn.take ts (named ts f 4 0).f bA=(g,e1):=⟨_,_,rfl⟩;rw[ht]at hr;simp only at hr;obtain⟨l,hg,e⟩:=bU hr;cases e
 have a6:=bu hg;have a7:=cW hg;subst a6;clear hg hr;intro I D dv vf e h hf fn he hm hd;have hl:=h.len;have tne:bA≠[]:=by decide
 have nl:=lC h.ok fn 4 0;have nf:=iy h.ok fn 4 0;have tf:=dK h.ok nf tne;rw[ht]at tf;simp only[aa9]at hm;refine ah 30 Tryz.func207 fun w0=>?_
 try simp only[iv,pt]
 refine aT ?_;refine ad hd [0,1] [sg pb _,D] [] rfl qI rfl (qA (kind:=4) (slot:=0) (f:=f) h hf fn he ab) fun v I2 qs a5 al hq=>?_;obtain⟨dv2,D2,rs,rfl,b1,⟨A2,B2,va2,vb2,rfl,rfl,ca,b5⟩,_,_⟩:=hq;simp only[aaz,aaA,aa6]at a5 |-;refine aT ?_;refine bf a5 [3,0,1,2] fun bd=>?_;refine ae bd fun I3 bc ag b4=>?_;have bC:eR I3 vb2 _:=b5.sl ag b4;have k3:=abV al ag;refine aT ?_;refine ad bc [0,1,2] [sg pb _,D2] [A2] rfl iG rfl (kf (s:=bA) (h.le k3) bC nf tne (b1.le ag) (by rw[ht];simp only[aa9];omega)) fun v I4 qs a4 ak hq=>?_;obtain⟨dv4,D4,rs,rfl,aS,B4,rfl,a1⟩:=hq;rw[ht]at aS a1;simp only at aS a1;simp only[aaz,aaA,aa6]at a4 |-;refine aT ?_;refine bf a4 [2,0,1,3] fun bb=>?_;refine ae bb fun I5 ba ac b3=>?_;have bx:eR I5 v g:=a1.sl ac b3;have k5:=abV k3 (abV ak ac);refine aT ?_;refine ad ba [0,1,2] [sg pb _,D4] [A2] rfl BN rfl (BM (slot:=0) (f:=g) (h.le k5) bx tf (aS.le ac) (by simp only[aa9];omega)) fun v I6 qs a3 an hq=>?_;obtain⟨dv6,D6,rs,rfl,b0,⟨A6,B6,va6,vb6,rfl,rfl,b8,b2⟩,bF,_⟩:=hq;simp only[aaz,aaA,aa6]at a3 |-;refine aT ?_;refine bf a3 [2,0,1,3,4] fun a9=>?_;refine ae a9 fun I7 aq aa b7=>?_;have bs:eE I7 va6 _:=b8.sl aa b7;have a2:=abV ag (abV ak (abV ac (abV an aa)));refine aT ?_;refine ad aq [3,0,1,2] [A2] [sg pb _,D6,B6] rfl gy rfl (iV (ca.le a2) bs (by unfold aN;omega) a7) fun v I8 qs am aj hq=>?_;obtain⟨A8,rfl,b6⟩:=hq;simp only[aaz,aaA,aa6]at am |-;refine aT ?_;refine bf am [1,2,0,3] fun ao=>?_
 refine af rfl ao (r:=[v,vb6]) rfl (abV al (abV a2 aj)) ⟨dv6,D6,[A8,B6],rfl,?_,⟨A8,B6,v,vb6,rfl,rfl,b6,b2.le (abV aa aj)⟩,bF,by simp only[cw];unfold aN;omega⟩;have:=b0.le (abV aa aj);simpa[aaT]using this
theorem Fc{n:Nat}(ih:kP pb ts lv fv ov n){f:ar}(hr:Syn.run ts n (.vrb o f)=some r):vQ pb ts lv fv ov (.vrb o f) r:=by
 obtain⟨m,rfl,hs⟩:=bR hr;have a1:Syn.jQ ts (Syn.run ts m) o f=some r:=hs;unfold Syn.jQ at a1;simp only at a1;obtain⟨g1,e1,ht⟩:∃g e1,Syn.take ts (named ts f 2 0).f bA=(g,e1):=⟨_,_,rfl⟩;rw[ht]at a1;simp only at a1;obtain⟨c,hc,cm⟩:=bU a1;obtain⟨l1,bC,cl⟩:=bU cm;obtain⟨l2,bx,bb⟩:=bU cl;obtain⟨g2,e2,ba⟩:∃g e1,Syn.take ts c.f a8=(g,e1):=⟨_,_,rfl⟩;rw[ba]at bb;simp only at bb;cases bb
 have bs:=cW bC;have bd:=cW bx;obtain rfl:=bu bC;obtain rfl:=bu bx;clear a1 cm cl hs hr bC bx;intro ho I D dv vf e h hf fn he hm hd;have hl:=h.len;have tne:bA≠[]:=by decide
 have tne2:a8≠[]:=by decide
 have nl:=lC h.ok fn 2 0;have nf:=iy h.ok fn 2 0;have tf:=dK h.ok nf tne;rw[ht]at tf;simp only[aa9]at hm;refine ah 40 Tryz.func137 fun w0=>?_
 try simp only[iv,pt]
 refine aT ?_;refine ad hd [0,1] [sg pb _,D] [] rfl qI rfl (qA (kind:=2) (slot:=0) (f:=f) h hf fn he ab) fun v I2 qs cs bc hq=>?_;obtain⟨dv2,D2,rs,rfl,c9,⟨A2,B2,va2,vb2,rfl,rfl,dA,ds⟩,_,_⟩:=hq;simp only[aaz,aaA,aa6]at cs |-;refine aT ?_;refine bf cs [3,0,1,2] fun c1=>?_;refine ae c1 fun I3 c0 ak dk=>?_;have c5:eR I3 vb2 _:=ds.sl ak dk;have k3:=abV bc ak;refine aT ?_;refine ad c0 [0,1,2] [sg pb _,D2] [A2] rfl iG rfl (kf (s:=bA) (h.le k3) c5 nf tne (c9.le ak) (by rw[ht];simp only[aa9];omega)) fun v I4 qs cr a3 hq=>?_;obtain⟨dv4,D4,rs,rfl,ca,B4,rfl,cb⟩:=hq;rw[ht]at ca cb;simp only at ca cb;simp only[aaz,aaA,aa6]at cr |-;refine aT ?_;refine bf cr [2,0,1,3] fun cB=>?_;refine ae cB fun I5 cA aj dj=>?_;have c4:eR I5 v g1:=cb.sl aj dj;have k5:=abV k3 (abV a3 aj);refine aT ?_;refine ad cA [0,1,2] [sg pb _,D4] [A2] rfl BN rfl (BM (slot:=0) (f:=g1) (h.le k5) c4 tf (ca.le aj) (by simp only[aa9];omega)) fun v I6 qs cp a2 hq=>?_;obtain⟨dv6,D6,rs,rfl,c8,⟨A6,B6,va6,vb6,rfl,rfl,dy,dd⟩,c6,_⟩:=hq;simp only[aaz,aaA,aa6]at cp |-;refine aT ?_;refine bf cp [2,0,1,3,4] fun cy=>?_;refine ae cy fun I7 b6 ac dx=>?_;have c2:eE I7 va6 _:=dy.sl ac dx;refine bf b6 [2,0,1,3] fun b5=>?_;refine ae b5 fun I8 b4 aa dc=>?_;have c3:eR I8 vb6 _:=dd.sl (abV ac aa) dc;have k8:=abV k5 (abV a2 (abV ac aa));refine aT ?_
 refine ad b4 [0,1,2] [sg pb _,D6] [A2] rfl Gf rfl (ih m (aba m) _ _ hc ho bg (h.le k8) c3 c6 (c8.le (abV ac aa)) (by simp only[aa9];omega)) fun v I9 qs a9 ao hq=>?_;obtain⟨dv9,D9,rs,rfl,c7,⟨A9,B9,va9,vb9,rfl,rfl,dw,da⟩,ct,_⟩:=hq;simp only[aaz,aaA,aa6]at a9 |-;have cx:=abV ak (abV a3 (abV aj (abV a2 (abV ac (abV aa ao)))));refine aT ?_;refine ad a9 [4,0,1,2,3] [A2] [sg pb _,D9,A9,B9] rfl gy rfl (iV (dA.le cx) (eE.le c2 (abV aa ao)) (by unfold aN;omega) bs) fun v d2 qs a7 an hq=>?_;obtain⟨A10,rfl,ci⟩:=hq;simp only[aaz,aaA,aa6]at a7 |-;refine aT ?_;refine bf a7 [3,0,1,2,4] fun b3=>?_;refine ae b3 fun dT b2 ag cf=>?_;have b7:eE dT va9 _:=dw.sl (abV an ag) cf;refine aT ?_;refine ad b2 [0,1,2,3] [A10] [sg pb _,D9,B9] rfl gy rfl (iV (ci.le ag) b7 (by rw[cw];unfold aN;omega) bd) fun v d1 qs a6 a4 hq=>?_;obtain⟨A12,rfl,cd⟩:=hq;simp only[aaz,aaA,aa6]at a6 |-;refine aT ?_;refine bf a6 [3,0,1,2] fun b1=>?_;refine ae b1 fun dI b0 am cc=>?_;have k913:=abV an (abV ag (abV a4 am));have b8:eR dI vb9 _:=da.sl k913 cc;have cj:=abV k8 (abV ao k913);refine aT ?_;refine ad b0 [1,2,0] [sg pb _,D9] [A12] rfl iG rfl (kf (s:=a8) (h.le cj) b8 ct tne2 (c7.le k913) (by rw[ba];simp only[aa9];omega)) fun v2 d0 qs a5 al hq=>?_;obtain⟨dv14,D14,rs,rfl,aq,B14,rfl,aS⟩:=hq;rw[ba]at aq aS;simp only at aq aS
 simp only[aaz,aaA,aa6]at a5 |-;refine aT ?_;refine bf a5 [0,1,3,2] fun bF=>?_;have tf2:=dK h.ok ct tne2;rw[ba]at tf2;refine af rfl bF (r:=[v,v2]) rfl (abV cj al) ⟨dv14,D14,[A12,B14],rfl,?_,⟨A12,B14,v,v2,rfl,rfl,cd.le (abV am al),aS⟩,tf2,by simp only[cw];unfold aN;omega⟩;simpa[aaT]using aq
theorem Fa{n:Nat}(ih:kP pb ts lv fv ov n){f:ar}(hr:Syn.run ts n (.function o f)=some r):vQ pb ts lv fv ov (.function o f) r:=by
 obtain⟨m,rfl,hs⟩:=bR hr;have a7:Syn.function ts (Syn.run ts m) o f=some r:=hs;unfold Syn.function at a7;simp only at a7;obtain⟨b,hb,cp⟩:=bU a7;obtain⟨c,hc,cm⟩:=bU cp;obtain⟨d,cx,cl⟩:=bU cm;obtain⟨l1,bx,cj⟩:=bU cl;obtain⟨l2,bs,ci⟩:=bU cj;obtain⟨l3,bd,ct⟩:=bU ci;cases ct
 have bc:=cW bx;have bb:=cW bs;have ba:=cW bd;obtain rfl:=bu bx;obtain rfl:=bu bs;obtain rfl:=bu bd;clear a7 cp cm cl cj ci hs hr bx bs bd;intro ho I D dv vf e h hf fn he hm hd;have hl:=h.len;have nl:=lC h.ok fn 3 0;have nf:=iy h.ok fn 3 0;simp only[aa9]at hm;refine ah 47 Tryz.func139 fun w0=>?_
 try simp only[iv,pt]
 refine aT ?_;refine ad hd [0,1] [sg pb _,D] [] rfl qI rfl (qA (kind:=3) (slot:=0) (f:=f) h hf fn he ab) fun v I2 qs cs a9 hq=>?_;obtain⟨dv2,D2,rs,rfl,dd,⟨A2,B2,va2,vb2,rfl,rfl,d1,dy⟩,_,_⟩:=hq;simp only[aaz,aaA,aa6]at cs |-;refine aT ?_;refine bf cs [3,0,1,2] fun c2=>?_;refine ae c2 fun I3 c1 an dx=>?_;have c7:eR I3 vb2 _:=dy.sl an dx;have k3:=abV a9 an;refine aT ?_;refine ad c1 [0,1,2] [sg pb _,D2] [A2] rfl Bd rfl (ih m (aba m) _ _ hb ho (h.le k3) c7 nf (dd.le an) (by simp only[aa9];omega)) fun v I4 qs cr aS hq=>?_;obtain⟨dv4,D4,rs,rfl,dc,⟨A4,B4,va4,vb4,rfl,rfl,d0,dw⟩,c9,_⟩:=hq;simp only[aaz,aaA,aa6]at cr |-;refine aT ?_;refine bf cr [2,0,1,3,4] fun c0=>?_;refine ae c0 fun I5 cB al dT=>?_;have c4:eE I5 va4 _:=d0.sl al dT;refine bf cB [2,0,1,3] fun cA=>?_;refine ae cA fun I6 cy ak ds=>?_;have c6:eR I6 vb4 _:=dw.sl (abV al ak) ds;have k6:=abV k3 (abV aS (abV al ak));refine aT ?_;refine ad cy [0,1,2] [sg pb _,D4] [A2] rfl Gf rfl (ih m (aba m) _ _ hc ho bg (h.le k6) c6 c9 (dc.le (abV al ak)) (by simp only[aa9];omega)) fun v I7 qs a6 aq hq=>?_;obtain⟨dv7,D7,rs,rfl,da,⟨A7,B7,va7,vb7,rfl,rfl,dI,dk⟩,c8,_⟩:=hq;simp only[aaz,aaA,aa6]at a6 |-;refine aT ?_;refine bf a6 [2,0,1,3,4] fun b4=>?_;refine ae b4 fun I8 b3 aj dA=>?_;have c3:eE I8 va7 _:=dI.sl aj dA;refine bf b3 [2,0,1,3] fun b2=>?_;refine ae b2 fun I9 b1 ag dj=>?_;have c5:eR I9 vb7 _:=dk.sl (abV aj ag) dj;have k9:=abV k6 (abV aq (abV aj ag))
 refine aT ?_;refine ad b1 [0,1,2] [sg pb _,D7] [A2] rfl sK rfl (ih m (aba m) _ _ cx ho (h.le k9) c5 c8 (da.le (abV aj ag)) (by simp only[aa9];omega)) fun v ec qs a5 ac hq=>?_;obtain⟨dv10,D10,rs,rfl,b7,⟨A10,B10,va10,vb10,rfl,rfl,cf,b8⟩,b6,_⟩:=hq;simp only[aaz,aaA,aa6]at a5 |-;refine aT ?_;refine bf a5 [2,0,1,3,4] fun b0=>?_;refine ae b0 fun d2 bF aa cd=>?_;have b5:eE d2 va10 _:=cf.sl aa cd;have k210:=abV an (abV aS (abV al (abV ak (abV aq (abV aj (abV ag (abV ac aa)))))));have k611:=abV ak (abV aq (abV aj (abV ag (abV ac aa))));have k911:=abV ag (abV ac aa);refine aT ?_;refine ad bF [3,0,1,2] [A2] [sg pb _,D10,B10] rfl gy rfl (iV (d1.le k210) (eE.le c4 k611) (by unfold aN;omega) bc) fun v eb qs a4 am hq=>?_;obtain⟨A12,rfl,cc⟩:=hq;simp only[aaz,aaA,aa6]at a4 |-;refine aT ?_;refine ad a4 [0,1,2,3] [A12] [sg pb _,D10,B10] rfl gy rfl (iV cc (eE.le c3 (abV k911 am)) (by rw[cw];unfold aN;omega) bb) fun v ea qs a3 ao hq=>?_;obtain⟨A13,rfl,cb⟩:=hq;simp only[aaz,aaA,aa6]at a3 |-;refine aT ?_;refine ad a3 [0,1,2,3] [A13] [sg pb _,D10,B10] rfl gy rfl (iV cb (eE.le b5 (abV am ao)) (by rw[cw,cw];unfold aN;omega) ba) fun v d3 qs a2 a1 hq=>?_;obtain⟨A14,rfl,ca⟩:=hq;simp only[aaz,aaA,aa6]at a2 |-;refine aT ?_;refine bf a2 [1,2,0,3] fun bC=>?_
 have k1114:=abV aa (abV am (abV ao a1));refine af rfl bC (r:=[v,vb10]) rfl (abV k9 (abV ac k1114)) ⟨dv10,D10,[A14,B10],rfl,?_,⟨A14,B10,v,vb10,rfl,rfl,ca,b8.le k1114⟩,b6,by simp only[cw];unfold aN;omega⟩;simpa[aaT]using b7.le k1114
end
end Go.Proofs.YtfaclfkpnmcmlaaGreatDoor
