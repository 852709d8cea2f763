import Derived.Test.YtfaclfkpnmcmlaaGreatDoorE08
set_option maxHeartbeats 8000000
set_option linter.all false
namespace Go.Proofs.YtfaclfkpnmcmlaaGreatDoor
open Go Go.Sx Dg Syn
def jD:aO Tryz.prog 221:=⟨_,Tryz.func221,rfl,rfl⟩
def Q8:aO Tryz.prog 259:=⟨_,Tryz.func259,rfl,rfl⟩
def jl:aO Tryz.prog 260:=⟨_,Tryz.func260,rfl,rfl⟩
def jh:aO Tryz.prog 262:=⟨_,Tryz.func262,rfl,rfl⟩
def O0:aO Tryz.prog 290:=⟨_,Tryz.func290,rfl,rfl⟩
variable{s:bq}{H:PH}
def My:bO Tryz.prog 259 #[.string ⟨⟨s⟩⟩] H fun v H2=>v=.bool (dG s)/\H2=H:=by
 refine ah 18 Tryz.func259 fun w0=>?_;cases h0:(s == [118,97,114])
 rotate_left
 ·apply RG;simp only[go_sem,h0];exact aJ (r:=[.bool true]) rfl ⟨by rw[show dG s=true from by rw[eq_of_beq h0];decide];rfl,rfl⟩
 cases h1:(s == [102,110])
 rotate_left
 ·apply RG;simp only[go_sem,h0,h1];exact aJ (r:=[.bool true]) rfl ⟨by rw[show dG s=true from by rw[eq_of_beq h1];decide];rfl,rfl⟩
 cases h2:(s == [105,110,116])
 rotate_left
 ·apply RG;simp only[go_sem,h0,h1,h2];exact aJ (r:=[.bool true]) rfl ⟨by rw[show dG s=true from by rw[eq_of_beq h2];decide];rfl,rfl⟩
 cases h3:(s == [98,111,111,108])
 rotate_left
 ·apply RG;simp only[go_sem,h0,h1,h2,h3];exact aJ (r:=[.bool true]) rfl ⟨by rw[show dG s=true from by rw[eq_of_beq h3];decide];rfl,rfl⟩
 cases h4:(s == [105,102])
 rotate_left
 ·apply RG;simp only[go_sem,h0,h1,h2,h3,h4];exact aJ (r:=[.bool true]) rfl ⟨by rw[show dG s=true from by rw[eq_of_beq h4];decide];rfl,rfl⟩
 cases h5:(s == [101,108,115,101])
 rotate_left
 ·apply RG;simp only[go_sem,h0,h1,h2,h3,h4,h5];exact aJ (r:=[.bool true]) rfl ⟨by rw[show dG s=true from by rw[eq_of_beq h5];decide];rfl,rfl⟩
 cases h6:(s == [119,104,105,108,101])
 rotate_left
 ·apply RG;simp only[go_sem,h0,h1,h2,h3,h4,h5,h6];exact aJ (r:=[.bool true]) rfl ⟨by rw[show dG s=true from by rw[eq_of_beq h6];decide];rfl,rfl⟩
 cases h7:(s == [114,101,116,117,114,110])
 rotate_left
 ·apply RG;simp only[go_sem,h0,h1,h2,h3,h4,h5,h6,h7];exact aJ (r:=[.bool true]) rfl ⟨by rw[show dG s=true from by rw[eq_of_beq h7];decide];rfl,rfl⟩
 cases h8:(s == [112,114,105,110,116])
 rotate_left
 ·apply RG;simp only[go_sem,h0,h1,h2,h3,h4,h5,h6,h7,h8];exact aJ (r:=[.bool true]) rfl ⟨by rw[show dG s=true from by rw[eq_of_beq h8];decide];rfl,rfl⟩
 cases h9:(s == [97,115,115,101,114,116])
 rotate_left
 ·apply RG;simp only[go_sem,h0,h1,h2,h3,h4,h5,h6,h7,h8,h9];exact aJ (r:=[.bool true]) rfl ⟨by rw[show dG s=true from by rw[eq_of_beq h9];decide];rfl,rfl⟩
 cases aa:(s == [116,114,117,101])
 rotate_left
 ·apply RG;simp only[go_sem,h0,h1,h2,h3,h4,h5,h6,h7,h8,h9,aa];exact aJ (r:=[.bool true]) rfl ⟨by rw[show dG s=true from by rw[eq_of_beq aa];decide];rfl,rfl⟩
 cases ac:(s == [102,97,108,115,101])
 rotate_left
 ·apply RG;simp only[go_sem,h0,h1,h2,h3,h4,h5,h6,h7,h8,h9,aa,ac];exact aJ (r:=[.bool true]) rfl ⟨by rw[show dG s=true from by rw[eq_of_beq ac];decide];rfl,rfl⟩
 cases ag:(s == [114,101,97,100])
 rotate_left
 ·apply RG;simp only[go_sem,h0,h1,h2,h3,h4,h5,h6,h7,h8,h9,aa,ac,ag];exact aJ (r:=[.bool true]) rfl ⟨by rw[show dG s=true from by rw[eq_of_beq ag];decide];rfl,rfl⟩
 apply RG;simp only[go_sem,h0,h1,h2,h3,h4,h5,h6,h7,h8,h9,aa,ac,ag];exact aJ (r:=[.bool false]) rfl ⟨by rw[show dG s=false from by simp only[dG,List.contains_cons,lT,Gg,vM,oO,kT,dr,jG,iH,jU,ew,pH,mK,qX,h0,h1,h2,h3,h4,h5,h6,h7,h8,h9,aa,ac,ag,Bool.or_self];rfl];rfl,rfl⟩
variable{k pb:Nat}{a:Option Addr}{h:aB}{lv fv ov dv:Value}{ts:List Tok}{I:PH}
def nq{D:PH}{e:List cO}(hp:zr I ts lv fv)(ag:h.at'<=ts.length)(hr:cX I (.agg #[sD a k h.cond,rD h.cond]) h.cond)(he:eF I D dv e)(hl:e.length+2<=ux):
  aK Tryz.prog 262 #[pt pb,yL a k h] I [sg pb (cg lv fv ov dv 64),D] (PP pb lv fv ov 64 (e++cJ h 11) fun v I2 rs=>rs=[]/\v=.bool false):=by
 intro hd;refine ah 20 Tryz.func262 fun w0=>?_
 try simp only[iv,pt,yL]
 refine aT ?_;refine XN (l:=[.int .i64 64]) rfl (cellsU hd (.tail _ (.head _)) (ay (by simp[cg]) rfl)) (.inr ⟨jq,rfl⟩) ?_;apply RG;simp only[go_sem,iv,pt,BEq.rfl];refine ad hd [0,1] [sg pb _,D] [] rfl kX rfl (ow hp ag hr he hl) fun v I4 qs ac aa hq=>?_;obtain⟨dv2,D4,rs,rfl,aj,rfl⟩:=hq;simp only[aaz,aaA,aa6]at ac |-;refine ll ?_;exact af rfl ac (r:=[_]) rfl aa ⟨_,D4,[],rfl,aj,rfl,rfl⟩
variable{o:Nat}
def lz(ho:o<64):
  aK Tryz.prog 262 #[pt pb,yL a k h] I [sg pb (cg lv fv ov dv o)] fun v I2 qs=>qs=[sg pb (cg lv fv ov dv (o+1))]/\I2=I/\v=.bool true:=by
 intro hd;have h9:((o:Int) == 64)=false:=by simp;omega
 have e1:=wrap64 (n:=o+1) ab;have ac:IntKind.i64.wrap ((o:Int)+1)=((o+1:Nat):Int):=by rw[<-e1];congr 1
 refine ah 20 Tryz.func262 fun w0=>?_
 try simp only[iv,pt,yL]
 refine aT ?_;refine XN (l:=[.int .i64 o]) rfl (cellsU hd (.tail _ (.head _)) (ay (by simp[cg]) rfl)) (.inr ⟨jq,rfl⟩) ?_;apply RG;simp only[go_sem,iv,pt,h9];refine XN (l:=[.int .i64 o]) rfl (cellsU hd (.tail _ (.head _)) (ay (by simp[cg]) rfl)) (.inr ⟨jq,rfl⟩) ?_;apply RG;simp only[go_sem,iv,pt,ac];refine bw hd rfl rfl rfl rfl rfl (by exact uZ) (by simp) fun aa=>?_;refine ll ?_;exact af rfl aa (r:=[_]) rfl (abW _) ⟨rfl,rfl,rfl⟩
def JE(I:PH)(v:Value)(is:aB->Bool):Prop:=∃f first cap,v=.func (.func f) first cap/\aO Tryz.prog f/\∀J,I.le J->∀(h:aB) (a:Option Addr) (k:Nat),cX J (.agg #[sD a k h.cond,rD h.cond]) h.cond->aK Tryz.prog f (first++[yL a k h].toArray++cap) J [] fun v I2 qs=>qs=[]/\v=.bool (is h)
variable{v:Value}
def JE.le{J:PH}{is:aB->Bool}(h:JE I v is)(aa:I.le J):JE J v is:=by
 obtain⟨f,a,b,e,g,k⟩:=h;exact⟨f,a,b,e,g,fun K hk=>k K (abV aa hk)⟩
def LH{b:Nat}(hb:aP H b 0 [.string ⟨⟨s⟩⟩]):bO Tryz.prog 290 #[yL a k h,pt b] H fun v H2=>v=.bool (bD s h)/\H2=H:=by
 refine ah 8 Tryz.func290 fun w0=>?_
 try simp only[yL,iv,pt]
 refine aT ?_;refine XN (l:=[.string ⟨⟨s⟩⟩]) rfl hb (.inr ⟨tL,rfl⟩) ?_;refine ll ?_;refine aJ (r:=[.bool (h.text == s)]) rfl ⟨?_,rfl⟩;show Value.bool (h.text == s)=Value.bool (bD s h);unfold bD;congr 1;by_cases e:h.text=s
 ·subst e;simp
 ·simp[e]
def kM:aK Tryz.prog 260 #[.string ⟨⟨s⟩⟩] I [] fun v I2 qs=>qs=[]/\JE I2 v (bD s):=by
 intro hd;refine ah 4 Tryz.func260 fun w0=>?_;apply bL 4;simp only[go_sem];refine fV 1 hd rfl fun b ag=>?_;refine ae (c:=.st _) ag fun I2 ac aa aj=>?_;apply RG;simp only[go_sem,mF,List.map];refine af rfl ac (r:=[.func (.func 290) #[] #[pt b]]) rfl aa ⟨rfl,290,#[],#[pt b],rfl,O0,fun J hJ h a k hr=>bO.toI ((LH (H:=J) (b:=b) (s:=s) ?_).mono fun v H2 ⟨e1,e2⟩=>⟨by rw[e2];exact abW _,e1⟩)⟩;exact((ay (by simp) rfl:aP (sg b (.cells [Value.string ⟨⟨s⟩⟩].toArray 9 (0,0))) b 0 [.string ⟨⟨s⟩⟩]).le aj).le hJ
def Wl(pb:Nat)(vi:Value)(vh:Value)(n:Nat)(x:Nat×Value×Value):St:=⟨dn 34 [(0,.v (pt pb)),(2,.v vi),(6,.v x.2.1),(7,.v x.2.2),(12,.v vh),(13,.v (iv n)),(14,.v (iv x.1))],[]⟩
abbrev TP(I A:PH)(v:Value)(l:List aB):Prop:=Ow l7 227 5 I A v l
def ZD(pb:Nat)(rc:Obj)(hs:List aB)(is:aB->Bool)(I0:PH)(x:Nat×Value×Value)(H:PH):Prop:=
 ∃I A B,H=U [I,sg pb rc,A,B]/\Dj [I,sg pb rc,A,B]/\I0.le I/\x.1<=hs.length/\TP I A x.2.1 ((hs.take x.1).foldl (fJ is) ([],[])).1/\jy I B x.2.2 ((hs.take x.1).foldl (fJ is) ([],[])).2
variable{A:PH}
def jy.le{J:PH}{l:ar}(h:jy I A v l)(aa:I.le J):jy J A v l:=Ow.le (R:=iD) (fun{I J c a} h k=>iD.le h k) h aa
def TP.le{J:PH}{l:List aB}(h:TP I A v l)(aa:I.le J):TP J A v l:=Ow.le (R:=l7) (fun{I J c a} h k=>l7.le h k) h aa
variable{f:ar}
theorem jC{vf vi:Value}{is:aB->Bool}(h:zr I ts lv fv)(hf:eR I vf f)(fn:FN ts.length f)(hi:JE I vi is):
  aK Tryz.prog 221 #[pt pb,vf,vi] I [sg pb (cg lv fv ov dv o)] fun v I2 qs=>∃A B va vb,qs=[sg pb (cg lv fv ov dv o),A,B]/\v=.tuple #[va,vb]/\TP I2 A va (aM ts f is).1/\jy I2 B vb (aM ts f is).2:=by
 intro hd;have hl:=h.len;refine ah 34 Tryz.func221 fun w0=>?_
 try simp only[iv,pt]
 refine aT ?_;refine DY hd [0] rfl kU rfl (ps:=[sg pb _]) (F:=[]) rfl (kW h hf fn) fun v I2 qs bF aq hq=>?_;obtain⟨rfl,hH⟩:=hq;obtain⟨ha,hc,rfl,_⟩:=id hH;simp only[aaz,aaA]at bF |-;refine dP ?_;rw[xL];have hN:∀x∈heads ts f,kS ts x:=fun x hx=>b9 h.ok fn hx;have cl:=fM h.ok fn;have cf:=hH;generalize heads ts f=ac at *;refine aR bF fun cb=>?_;refine aR cb fun ca=>?_;refine bf ca [2,0,1] fun b8=>?_;refine aA (fun x=>ac.length-x.1) (Wl pb vi (.slice ha ac.length hc) ac.length) (ZD pb (cg lv fv ov dv o) ac is I2) (0,.slice none 0 0,.slice none 0 0) gP (by simp only[go_sem,aa6,Wl]) ?_ ?_
 ·exact⟨I2,PH.no,PH.no,rfl,b8,abW _,aaL _,Ow.nil _ _ _ _,Ow.nil _ _ _ _⟩
 rintro⟨i,va,vb⟩ H ⟨I3,A3,B3,rfl,ba,aj,b7,hA,hB⟩ an;simp only at b7 hA hB;simp only[Wl];have cd:qO I3 (.slice ha ac.length hc) ac:=cf.le aj;have bx:FN ts.length ((ac.take i).foldl (fJ is) ([],[])).2:=zw fun x hx=>hN x (abf hx);have cp:=bx.len;rcases aaf i ac.length with a7|cm
 ·have a6:decide ((i:Int)<(ac.length:Int))=true:=by simp;omega
  have e1:=wrap64 (n:=i+1) ab;have b1:IntKind.i64.wrap ((i:Int)+1)=((i+1:Nat):Int):=by rw[<-e1];congr 1
  obtain⟨x,hx⟩:∃x,ac[i]?=some x:=⟨_,aak a7⟩;have b2:=aaV hx;have b4:=hN x b2;obtain⟨b,off,cs,rfl,cc,a1⟩:=cd.load l7.len hx;obtain⟨xa,xk,rfl,ao⟩:=cc;have am:=dm (g:=fJ is) (z:=([],[])) hx;obtain⟨fi,first,cap,rfl,gi,ci⟩:=id hi;have cj:=xt (is:=is) (ac.take i) ([],[]);simp only[aaO,abF]at cj;apply RG;simp only[go_sem,a6,iv,pt];refine⟨ab,?_⟩;refine XN (l:=[iv x.at',sD xa xk x.cond,rD x.cond,.int .u8 x.kind,.string ⟨⟨x.text⟩⟩]) (v:=.agg #[iv x.at',sD xa xk x.cond,rD x.cond,.int .u8 x.kind,.string ⟨⟨x.text⟩⟩]) rfl (cellsU ba (.head _) a1) (.inl ⟨gI,rfl⟩) ?_;apply RG;simp only[go_sem,a6,iv,pt,sD,rD];refine ad ba [0,1,2] [] [sg pb _,A3,B3] rfl gi rfl (ci I3 (abV aq aj) x xa xk ao) fun v I4 qs a9 ag hq=>?_;obtain⟨rfl,rfl⟩:=hq;simp only[aaz,aaA]at a9 |-;cases a3:is x
  ·have aa:(ac.take (i+1)).foldl (fJ is) ([],[])=(((ac.take i).foldl (fJ is) ([],[])).1,Syn.join ((ac.take i).foldl (fJ is) ([],[])).2 x.at' x.cond):=by rw[am];simp[fJ,a3]
   obtain⟨ta,tc,rfl⟩:=hB.shape;have b3:=b4.le;apply RG;simp only[go_sem,iv,pt,a3,sD,rD];refine ad a9 [2,0,1] [B3] [sg pb _,A3] rfl ej rfl (bK (a:=x.at') (hB.le ag) (ao.le ag) bx.ok.2 (fun t ht=>by have:=bx.le t ht;omega) ab ab) fun v I5 qs a5 ak hq=>?_;obtain⟨B4,rfl,bC⟩:=hq;obtain⟨ta2,tc2,rfl⟩:=bC.shape;simp only[aaz,aaA]at a5 |-;apply RG;simp only[go_sem,iv,pt,sD,rD,b1];refine bf a5 [1,2,0] fun a4=>?_;rw[show Syn.join ((ac.take i).foldl (fJ is) ([],[])).2 x.at' x.cond=((ac.take (i+1)).foldl (fJ is) ([],[])).2 from by rw[aa]]at bC |-;exact an (i+1,va,.slice ta2 _ tc2) _ _ dt gP (by simp only[go_sem,aa6,Wl]) ⟨I5,A3,B4,rfl,a4,abV aj (abV ag ak),a7,by simp only;rw[aa];exact hA.le (abV ag ak),bC⟩
  ·have aa:(ac.take (i+1)).foldl (fJ is) ([],[])=(((ac.take i).foldl (fJ is) ([],[])).1++[x],((ac.take i).foldl (fJ is) ([],[])).2):=by rw[am];simp[fJ,a3]
   obtain⟨ta,tc,rfl⟩:=hA.shape;apply RG;simp only[go_sem,iv,pt,a3,sD,rD];refine ax a9 (by exact uV) rfl rfl rfl rfl rfl bg fun nb I8 a5 ak b5=>?_;refine dg ?_;refine bf a5 [1,0,2] fun a4=>?_;obtain⟨bs,a2,bd⟩:=hA;refine dZ (m:=1) a4 (by exact uV) a2 rfl rfl rfl rfl (cellsU a4 (.head _) (az (l:=[iv x.at',.slice xa (T.subs x.cond).length xk,iv (T.plc (T.subs x.cond) x.cond),.int .u8 x.kind,.string ⟨⟨x.text⟩⟩]) b5 (by simp[aD,Value.cells]) (by simp[aD,Value.cells,iv]))) rfl rfl ab (by unfold maxLen;omega) fun v' I9 A2 bc aS b0=>?_;obtain⟨na,nc,rfl⟩:=b0.slice;apply RG;simp only[go_sem,iv,pt,b1];refine bf bc [1,0,2] fun bb=>?_;have al:=abV ag (abV ak aS);refine an (i+1,.slice na (((ac.take i).foldl (fJ is) ([],[])).1.length+1) nc,vb) _ _ dt gP (by simp only[go_sem,aa6,Wl]) ⟨I9,A2,B3,rfl,bb,abV aj al,a7,⟨bs++[iv x.at',.slice xa (T.subs x.cond).length xk,iv (T.plc (T.subs x.cond) x.cond),.int .u8 x.kind,.string ⟨⟨x.text⟩⟩],?_,?_⟩,by simp only;rw[aa];exact hB.le al⟩
   ·simp only;rw[aa];simp only[aa9,aaJ];exact b0
   ·simp only;rw[aa];exact LR.app (bd.mono fun _ _ h=>l7.le h al) (.one ⟨xa,xk,rfl,ao.le al⟩)
 ·have b6:i=ac.length:=by omega
  subst b6;have a6:=Z6 ac.length;rw[aaS]at hA hB;apply RG;simp only[go_sem,a6,iv,pt];exact af rfl ba (r:=[va,vb]) rfl (abV aq aj) ⟨A3,B3,va,vb,rfl,rfl,hA,hB⟩
def qI:aO Tryz.prog 201:=⟨_,Tryz.func201,rfl,rfl⟩
def BN:aO Tryz.prog 202:=⟨_,Tryz.func202,rfl,rfl⟩
variable{α:Type}
def Sl.nil(R:PH->List Value->α->Prop)(I:PH):Sl R I (.slice none 0 0) ([]:List α):=⟨none,0,rfl,.inl rfl⟩
def YK(pb:Nat)(lv fv ov:Value)(o:Nat)(hs:List aB)(F:Syn.bW->aB->Syn.bW)(e:List cO)(I0:PH)(x:Nat×Value×Value×Value)(H:PH):Prop:=
 ∃I D A B,H=U [I,sg pb (cg lv fv ov x.2.2.2 o),D,A,B]/\Dj [I,sg pb (cg lv fv ov x.2.2.2 o),D,A,B]/\I0.le I/\x.1<=hs.length/\eF I D x.2.2.2 (e++((hs.take x.1).foldl F ⟨[],[],[]⟩).e)/\bQ I A x.2.1 ((hs.take x.1).foldl F ⟨[],[],[]⟩).l/\jy I B x.2.2.1 ((hs.take x.1).foldl F ⟨[],[],[]⟩).f
def RN(r:Syn.bW):Value->PH->List PH->Prop:=fun v I2 rs=>∃A B va vb,rs=[A,B]/\v=.tuple #[va,vb]/\bQ I2 A va r.l/\jy I2 B vb r.f
def Um(pb kind slot:Nat)(vh:Value)(n:Nat)(x:Nat×Value×Value×Value):St:=⟨dn 55 [(0,.v (pt pb)),(2,.v (.int .u8 kind)),(3,.v (iv slot)),(10,.v x.2.1),(11,.v x.2.2.1),(16,.v vh),(17,.v (iv n)),(18,.v (iv x.1))],[]⟩
theorem P0{D:PH}{vf:Value}{kind slot:Nat}{e:List cO}(h:zr I ts lv fv)(hf:eR I vf f)(fn:FN ts.length f)(he:eF I D dv e)(hm:e.length+(named ts f kind slot).e.length<=ux):
  aK Tryz.prog 201 #[pt pb,vf,.int .u8 kind,iv slot] I [sg pb (cg lv fv ov dv o),D] (PP pb lv fv ov o (e++(named ts f kind slot).e) (RN (named ts f kind slot))):=by
 intro hd;have hl:=h.len;refine ah 55 Tryz.func201 fun w0=>?_
 try simp only[iv,pt]
 refine aT ?_;refine DY hd [0,1] rfl kU rfl (ps:=[sg pb _]) (F:=[D]) rfl (kW h hf fn) fun v I2 qs b1 ao hq=>?_;obtain⟨rfl,hH⟩:=hq;obtain⟨ha,hc,rfl,_⟩:=id hH;simp only[aaz,aaA]at b1 |-;refine dP ?_;rw[lR]at hm |-;have hN:∀x∈heads ts f,kS ts x:=fun x hx=>b9 h.ok fn hx;have cp:=fM h.ok fn;have cj:=hH;generalize heads ts f=ac at *;refine aR b1 fun cd=>?_;refine aR cd fun cc=>?_;refine bf cc [2,3,0,1] fun cb=>?_;refine aA (fun x=>ac.length-x.1) (Um pb kind slot (.slice ha ac.length hc) ac.length) (YK pb lv fv ov o ac (cE kind slot) e I2) (0,.slice none 0 0,.slice none 0 0,dv) gP (by simp only[go_sem,aa6,Um]) ?_ ?_
 ·exact⟨I2,D,PH.no,PH.no,rfl,cb,abW _,aaL _,by simpa using eF.le he ao,Ow.nil _ _ _ _,Ow.nil _ _ _ _⟩
 rintro⟨i,va,vb,dv⟩ H ⟨I3,D3,A3,B3,rfl,a4,ak,b8,hE,hA,hB⟩ al;simp only at b8 hE hA hB;simp only[Um];have ci:qO I3 (.slice ha ac.length hc) ac:=cj.le ak;have bd:FN ts.length ((ac.take i).foldl (cE kind slot) ⟨[],[],[]⟩).f:=zm fun x hx=>hN x (abf hx);have ct:=bd.len;rcases aaf i ac.length with a9|cr
 ·have a7:decide ((i:Int)<(ac.length:Int))=true:=by simp;omega
  have e1:=wrap64 (n:=i+1) ab;have bF:IntKind.i64.wrap ((i:Int)+1)=((i+1:Nat):Int):=by rw[<-e1];congr 1
  obtain⟨x,hx⟩:∃x,ac[i]?=some x:=⟨_,aak a9⟩;have b4:=aaV hx;have ba:=hN x b4;obtain⟨b,off,cs,rfl,cf,a6⟩:=ci.load l7.len hx;obtain⟨xa,xk,rfl,an⟩:=cf;have aj:=dm (g:=cE kind slot) (z:=⟨[],[],[]⟩) hx;have am:=oE (g:=cE kind slot) (fun r=>r.e.length) (fun z y=>by unfold cE;split<;>simp) ac (i+1) ⟨[],[],[]⟩;rw[aj]at am;have cl:=rF (kind:=kind) (slot:=slot) (ac.take i) ⟨[],[],[]⟩;simp only[aaO,abF]at cl;apply RG;simp only[go_sem,a7,iv,pt];refine⟨ab,?_⟩;refine XN (l:=[iv x.at',sD xa xk x.cond,rD x.cond,.int .u8 x.kind,.string ⟨⟨x.text⟩⟩]) (v:=.agg #[iv x.at',sD xa xk x.cond,rD x.cond,.int .u8 x.kind,.string ⟨⟨x.text⟩⟩]) rfl (cellsU a4 (.head _) a6) (.inl ⟨gI,rfl⟩) ?_;by_cases hk:x.kind=1
  ·have bC:((x.kind:Int) != 1)=false:=by simp[hk]
   apply RG;simp only[go_sem,a7,iv,pt,sD,rD,bC,abQ,abK];refine WZ rfl Q8 My fun v H2 hv=>?_;obtain⟨rfl,rfl⟩:=hv;cases hw:dG x.text
   ·refine dg ?_;have aa:(ac.take (i+1)).foldl (cE kind slot) ⟨[],[],[]⟩=⟨((ac.take i).foldl (cE kind slot) ⟨[],[],[]⟩).l++[⟨kind,x.text,x.at',slot,[],x.cond⟩],Syn.join ((ac.take i).foldl (cE kind slot) ⟨[],[],[]⟩).f (x.at'+1) x.cond,((ac.take i).foldl (cE kind slot) ⟨[],[],[]⟩).e⟩:=by rw[aj];unfold cE;rw[ZV (by simp[hk,hw])]
    have b5:=ba.lt (.inr ab);have e2:=wrap64 (n:=x.at'+1) ab;have cm:IntKind.i64.wrap ((x.at':Int)+1)=((x.at'+1:Nat):Int):=by rw[<-e2];congr 1
    refine ax a4 (by exact dQ) rfl rfl rfl rfl rfl bg fun nb I4 a2 ag b6=>?_;refine dg ?_;refine bf a2 [2,0,1,3] fun b0=>?_;obtain⟨bs,aS,bc⟩:=hA;obtain⟨xsa,xsc,rfl⟩:=aS.slice;refine dZ (m:=1) b0 (by exact dQ) aS rfl rfl rfl rfl (cellsU b0 (.head _) (az (l:=[.int .u8 kind,.string ⟨⟨x.text⟩⟩,.int .i64 x.at',.int .i64 slot,.slice none 0 0,.slice xa (T.subs x.cond).length xk,iv (T.plc (T.subs x.cond) x.cond)]) b6 (by simp[aD,Value.cells]) (by simp[aD,Value.cells,iv]))) rfl rfl ab (by unfold maxLen;omega) fun v' I5 A4 ca a1 b3=>?_;obtain⟨na,nc,rfl⟩:=b3.slice;obtain⟨ta,tc,rfl⟩:=hB.shape;apply RG;simp only[go_sem,iv,pt,sD,rD,cm];refine ad ca [3,1,2,0] [B3] [sg pb _,D3,A4] rfl ej rfl (bK (a:=x.at'+1) (hB.le (abV ag a1)) (an.le (abV ag a1)) bd.ok.2 (fun t ht=>by have:=bd.le t ht;omega) ab ab) fun v I6 qs a5 a3 hq=>?_;obtain⟨B4,rfl,b2⟩:=hq;obtain⟨ta2,tc2,rfl⟩:=b2.shape;simp only[aaz,aaA]at a5 |-;apply RG;simp only[go_sem,iv,pt,sD,rD,bF];refine bf a5 [1,2,3,0] fun bb=>?_;have aq:=abV ag (abV a1 a3);refine al (i+1,.slice na (((ac.take i).foldl (cE kind slot) ⟨[],[],[]⟩).l.length+1) nc,.slice ta2 (Syn.join ((ac.take i).foldl (cE kind slot) ⟨[],[],[]⟩).f (x.at'+1) x.cond).length tc2,dv) _ _ dt gP (by simp only[go_sem,aa6,Um]) ⟨I6,D3,A4,B4,rfl,bb,abV ak aq,a9,by simp only;rw[aa];exact hE.le aq,⟨bs++[.int .u8 kind,.string ⟨⟨x.text⟩⟩,.int .i64 x.at',.int .i64 slot,.slice none 0 0,.slice xa (T.subs x.cond).length xk,iv (T.plc (T.subs x.cond) x.cond)],?_,?_⟩,by simp only;rw[aa];exact b2⟩
    ·simp only;rw[aa];simp only[aa9,aaJ];exact b3
    ·simp only;rw[aa];exact LR.app (bc.mono fun _ _ h=>bm.le h aq) (.one (bm.mk (n:=⟨kind,x.text,x.at',slot,[],x.cond⟩) (an.le aq) (Sl.nil _ _) lM))
   ·refine dg ?_;have aa:(ac.take (i+1)).foldl (cE kind slot) ⟨[],[],[]⟩={ ((ac.take i).foldl (cE kind slot) ⟨[],[],[]⟩)with e:=((ac.take i).foldl (cE kind slot) ⟨[],[],[]⟩).e++cJ x 10 }:=by rw[aj];unfold cE;rw[aaq (.inr hw)]
    refine ad a4 [0,1,2,3] [sg pb _,D3] [A3,B3] rfl kX rfl (ow (h.le (abV ao ak)) ba.le an hE (by rw[<-aj,aa]at am;simp[cJ]at am |-;omega)) fun v I4 qs a2 ag hq=>?_;obtain⟨dv2,D4,rs,rfl,bx,rfl⟩:=hq;simp only[aaz,aaA]at a2 |-;apply RG;simp only[go_sem,iv,pt,sD,rD,bF];exact al (i+1,va,vb,dv2) _ _ dt gP (by simp only[go_sem,aa6,Um]) ⟨I4,D4,A3,B3,rfl,a2,abV ak ag,a9,by simp only;rw[aa,<-aaT];exact bx,by simp only;rw[aa];exact hA.le ag,by simp only;rw[aa];exact hB.le ag⟩
  ·have bC:((x.kind:Int) != 1)=true:=by simp;omega
   apply RG;simp only[go_sem,a7,iv,pt,sD,rD,bC,abQ,abK];have aa:(ac.take (i+1)).foldl (cE kind slot) ⟨[],[],[]⟩={ ((ac.take i).foldl (cE kind slot) ⟨[],[],[]⟩)with e:=((ac.take i).foldl (cE kind slot) ⟨[],[],[]⟩).e++cJ x 10 }:=by rw[aj];unfold cE;rw[aaq (.inl hk)]
   refine ad a4 [0,1,2,3] [sg pb _,D3] [A3,B3] rfl kX rfl (ow (h.le (abV ao ak)) ba.le an hE (by rw[<-aj,aa]at am;simp[cJ]at am |-;omega)) fun v I4 qs a2 ag hq=>?_;obtain⟨dv2,D4,rs,rfl,bx,rfl⟩:=hq;simp only[aaz,aaA]at a2 |-;apply RG;simp only[go_sem,iv,pt,sD,rD,bF];exact al (i+1,va,vb,dv2) _ _ dt gP (by simp only[go_sem,aa6,Um]) ⟨I4,D4,A3,B3,rfl,a2,abV ak ag,a9,by simp only;rw[aa,<-aaT];exact bx,by simp only;rw[aa];exact hA.le ag,by simp only;rw[aa];exact hB.le ag⟩
 ·have b7:i=ac.length:=by omega
  subst b7;have a7:=Z6 ac.length;rw[aaS]at hE hA hB;apply RG;simp only[go_sem,a7,iv,pt];exact af rfl a4 (r:=[va,vb]) rfl (abV ao ak) ⟨_,D3,[A3,B3],rfl,hE,A3,B3,va,vb,rfl,rfl,hA,hB⟩
def Ui(pb slot:Nat)(vh:Value)(n:Nat)(x:Nat×Value×Value×Value):St:=⟨dn 52 [(0,.v (pt pb)),(2,.v (iv slot)),(8,.v x.2.1),(9,.v x.2.2.1),(14,.v vh),(15,.v (iv n)),(16,.v (iv x.1))],[]⟩
theorem P5{D:PH}{vf:Value}{slot:Nat}{e:List cO}(h:zr I ts lv fv)(hf:eR I vf f)(fn:FN ts.length f)(he:eF I D dv e)(hm:e.length+(sW ts f slot).e.length<=ux):
  aK Tryz.prog 202 #[pt pb,vf,iv slot] I [sg pb (cg lv fv ov dv o),D] (PP pb lv fv ov o (e++(sW ts f slot).e) (RN (sW ts f slot))):=by
 intro hd;have hl:=h.len;refine ah 52 Tryz.func202 fun w0=>?_
 try simp only[iv,pt]
 refine aT ?_;refine DY hd [0,1] rfl kU rfl (ps:=[sg pb _]) (F:=[D]) rfl (kW h hf fn) fun v I2 qs b5 a2 hq=>?_;obtain⟨rfl,hH⟩:=hq;obtain⟨ha,hc,rfl,_⟩:=id hH;simp only[aaz,aaA]at b5 |-;refine dP ?_;rw[oj]at hm |-;have hN:∀x∈heads ts f,kS ts x:=fun x hx=>b9 h.ok fn hx;have cm:=fM h.ok fn;have ci:=hH;generalize heads ts f=ac at *;refine aR b5 fun cc=>?_;refine aR cc fun cb=>?_;refine bf cb [2,3,0,1] fun ca=>?_;refine aA (fun x=>ac.length-x.1) (Ui pb slot (.slice ha ac.length hc) ac.length) (YK pb lv fv ov o ac (cD slot) e I2) (0,.slice none 0 0,.slice none 0 0,dv) gP (by simp only[go_sem,aa6,Ui]) ?_ ?_
 ·exact⟨I2,D,PH.no,PH.no,rfl,ca,abW _,aaL _,by simpa using eF.le he a2,Ow.nil _ _ _ _,Ow.nil _ _ _ _⟩
 rintro⟨i,va,vb,dv⟩ H ⟨I3,D3,A3,B3,rfl,ba,an,b8,hE,hA,hB⟩ aq;simp only at b8 hE hA hB;simp only[Ui];have cf:qO I3 (.slice ha ac.length hc) ac:=ci.le an;have bc:FN ts.length ((ac.take i).foldl (cD slot) ⟨[],[],[]⟩).f:=zq fun x hx=>hN x (abf hx);have cr:=bc.len;rcases aaf i ac.length with bC|cp
 ·have a7:decide ((i:Int)<(ac.length:Int))=true:=by simp;omega
  have e1:=wrap64 (n:=i+1) ab;have b4:IntKind.i64.wrap ((i:Int)+1)=((i+1:Nat):Int):=by rw[<-e1];congr 1
  obtain⟨x,hx⟩:∃x,ac[i]?=some x:=⟨_,aak bC⟩;have b6:=aaV hx;have b0:=hN x b6;obtain⟨b,off,cs,rfl,cd,bb⟩:=cf.load l7.len hx;obtain⟨xa,xk,rfl,ao⟩:=cd;have ak:=dm (g:=cD slot) (z:=⟨[],[],[]⟩) hx;have a3:=oE (g:=cD slot) (fun r=>r.e.length) (fun z y=>by unfold cD;split<;>simp) ac (i+1) ⟨[],[],[]⟩;rw[ak]at a3;have cl:=rV (slot:=slot) (ac.take i) ⟨[],[],[]⟩;simp only[aaO,abF]at cl;apply RG;simp only[go_sem,a7,iv,pt];refine⟨ab,?_⟩;refine XN (l:=[iv x.at',sD xa xk x.cond,rD x.cond,.int .u8 x.kind,.string ⟨⟨x.text⟩⟩]) (v:=.agg #[iv x.at',sD xa xk x.cond,rD x.cond,.int .u8 x.kind,.string ⟨⟨x.text⟩⟩]) rfl (cellsU ba (.head _) bb) (.inl ⟨gI,rfl⟩) ?_;cases hi:(x.text == [105,110,116])
  ·cases hb:(x.text == [98,111,111,108])
   ·apply RG;simp only[go_sem,a7,iv,pt,sD,rD,hi,hb,abQ,abK];have aa:(ac.take (i+1)).foldl (cD slot) ⟨[],[],[]⟩={ ((ac.take i).foldl (cD slot) ⟨[],[],[]⟩)with e:=((ac.take i).foldl (cD slot) ⟨[],[],[]⟩).e++cJ x 10 }:=by rw[ak];unfold cD;rw[aaq ⟨fun k=>by rw[k]at hi;exact absurd hi bg,fun k=>by rw[k]at hb;exact absurd hb bg⟩]
    refine ad ba [0,1,2,3] [sg pb _,D3] [A3,B3] rfl kX rfl (ow (h.le (abV a2 an)) b0.le ao hE (by rw[<-ak,aa]at a3;simp[cJ]at a3 |-;omega)) fun v I4 qs a6 ag hq=>?_;obtain⟨dv2,D4,rs,rfl,cj,rfl⟩:=hq;simp only[aaz,aaA]at a6 |-;apply RG;simp only[go_sem,iv,pt,sD,rD,b4];exact aq (i+1,va,vb,dv2) _ _ dt gP (by simp only[go_sem,aa6,Ui]) ⟨I4,D4,A3,B3,rfl,a6,abV an ag,bC,by simp only;rw[aa,<-aaT];exact cj,by simp only;rw[aa];exact hA.le ag,by simp only;rw[aa];exact hB.le ag⟩
   ·apply RG;simp only[go_sem,a7,iv,pt,sD,rD,hi,hb,abQ,abK];have aa:(ac.take (i+1)).foldl (cD slot) ⟨[],[],[]⟩=⟨((ac.take i).foldl (cD slot) ⟨[],[],[]⟩).l++[⟨5,x.text,x.at',slot,[],x.cond⟩],Syn.join ((ac.take i).foldl (cD slot) ⟨[],[],[]⟩).f (x.at'+1) x.cond,((ac.take i).foldl (cD slot) ⟨[],[],[]⟩).e⟩:=by rw[ak];unfold cD;rw[ZV (fun k=>k.2 (eq_of_beq hb))]
    have bF:=b0.lt (.inl (by rw[eq_of_beq hb];decide));have e2:=wrap64 (n:=x.at'+1) ab;have b3:IntKind.i64.wrap ((x.at':Int)+1)=((x.at'+1:Nat):Int):=by rw[<-e2];congr 1
    refine ax ba (by exact dQ) rfl rfl rfl rfl rfl bg fun nb I4 a6 ag b1=>?_;refine dg ?_;refine bf a6 [2,0,1,3] fun a9=>?_;obtain⟨bs,al,a5⟩:=hA;obtain⟨xsa,xsc,rfl⟩:=al.slice;refine dZ (m:=1) a9 (by exact dQ) al rfl rfl rfl rfl (cellsU a9 (.head _) (az (l:=[.int .u8 5,.string ⟨⟨x.text⟩⟩,.int .i64 x.at',.int .i64 slot,.slice none 0 0,.slice xa (T.subs x.cond).length xk,iv (T.plc (T.subs x.cond) x.cond)]) b1 (by simp[aD,Value.cells]) (by simp[aD,Value.cells,iv]))) rfl rfl ab (by unfold maxLen;omega) fun v' I5 A4 b2 am bx=>?_;obtain⟨na,nc,rfl⟩:=bx.slice;obtain⟨ta,tc,rfl⟩:=hB.shape;apply RG;simp only[go_sem,iv,pt,sD,rD,b3];refine ad b2 [3,1,2,0] [B3] [sg pb _,D3,A4] rfl ej rfl (bK (a:=x.at'+1) (hB.le (abV ag am)) (ao.le (abV ag am)) bc.ok.2 (fun t ht=>by have:=bc.le t ht;omega) ab ab) fun v I6 qs a1 aS hq=>?_;obtain⟨B4,rfl,bd⟩:=hq;obtain⟨ta2,tc2,rfl⟩:=bd.shape;simp only[aaz,aaA]at a1 |-;apply RG;simp only[go_sem,iv,pt,sD,rD,b4];refine bf a1 [1,2,3,0] fun a4=>?_;have aj:=abV ag (abV am aS);refine aq (i+1,.slice na (((ac.take i).foldl (cD slot) ⟨[],[],[]⟩).l.length+1) nc,.slice ta2 (Syn.join ((ac.take i).foldl (cD slot) ⟨[],[],[]⟩).f (x.at'+1) x.cond).length tc2,dv) _ _ dt gP (by simp only[go_sem,aa6,Ui]) ⟨I6,D3,A4,B4,rfl,a4,abV an aj,bC,by simp only;rw[aa];exact hE.le aj,⟨bs++[.int .u8 5,.string ⟨⟨x.text⟩⟩,.int .i64 x.at',.int .i64 slot,.slice none 0 0,.slice xa (T.subs x.cond).length xk,iv (T.plc (T.subs x.cond) x.cond)],?_,?_⟩,by simp only;rw[aa];exact bd⟩
    ·simp only;rw[aa];simp only[aa9,aaJ];exact bx
    ·simp only;rw[aa];exact LR.app (a5.mono fun _ _ h=>bm.le h aj) (.one (bm.mk (n:=⟨5,x.text,x.at',slot,[],x.cond⟩) (ao.le aj) (Sl.nil _ _) lM))
  ·apply RG;simp only[go_sem,a7,iv,pt,sD,rD,hi,abQ,abK];have aa:(ac.take (i+1)).foldl (cD slot) ⟨[],[],[]⟩=⟨((ac.take i).foldl (cD slot) ⟨[],[],[]⟩).l++[⟨5,x.text,x.at',slot,[],x.cond⟩],Syn.join ((ac.take i).foldl (cD slot) ⟨[],[],[]⟩).f (x.at'+1) x.cond,((ac.take i).foldl (cD slot) ⟨[],[],[]⟩).e⟩:=by rw[ak];unfold cD;rw[ZV (fun k=>k.1 (eq_of_beq hi))]
   have bF:=b0.lt (.inl (by rw[eq_of_beq hi];decide));have e2:=wrap64 (n:=x.at'+1) ab;have b3:IntKind.i64.wrap ((x.at':Int)+1)=((x.at'+1:Nat):Int):=by rw[<-e2];congr 1
   refine ax ba (by exact dQ) rfl rfl rfl rfl rfl bg fun nb I4 a6 ag b1=>?_;refine dg ?_;refine bf a6 [2,0,1,3] fun a9=>?_;obtain⟨bs,al,a5⟩:=hA;obtain⟨xsa,xsc,rfl⟩:=al.slice;refine dZ (m:=1) a9 (by exact dQ) al rfl rfl rfl rfl (cellsU a9 (.head _) (az (l:=[.int .u8 5,.string ⟨⟨x.text⟩⟩,.int .i64 x.at',.int .i64 slot,.slice none 0 0,.slice xa (T.subs x.cond).length xk,iv (T.plc (T.subs x.cond) x.cond)]) b1 (by simp[aD,Value.cells]) (by simp[aD,Value.cells,iv]))) rfl rfl ab (by unfold maxLen;omega) fun v' I5 A4 b2 am bx=>?_;obtain⟨na,nc,rfl⟩:=bx.slice;obtain⟨ta,tc,rfl⟩:=hB.shape;apply RG;simp only[go_sem,iv,pt,sD,rD,b3];refine ad b2 [3,1,2,0] [B3] [sg pb _,D3,A4] rfl ej rfl (bK (a:=x.at'+1) (hB.le (abV ag am)) (ao.le (abV ag am)) bc.ok.2 (fun t ht=>by have:=bc.le t ht;omega) ab ab) fun v I6 qs a1 aS hq=>?_;obtain⟨B4,rfl,bd⟩:=hq;obtain⟨ta2,tc2,rfl⟩:=bd.shape;simp only[aaz,aaA]at a1 |-;apply RG;simp only[go_sem,iv,pt,sD,rD,b4];refine bf a1 [1,2,3,0] fun a4=>?_;have aj:=abV ag (abV am aS);refine aq (i+1,.slice na (((ac.take i).foldl (cD slot) ⟨[],[],[]⟩).l.length+1) nc,.slice ta2 (Syn.join ((ac.take i).foldl (cD slot) ⟨[],[],[]⟩).f (x.at'+1) x.cond).length tc2,dv) _ _ dt gP (by simp only[go_sem,aa6,Ui]) ⟨I6,D3,A4,B4,rfl,a4,abV an aj,bC,by simp only;rw[aa];exact hE.le aj,⟨bs++[.int .u8 5,.string ⟨⟨x.text⟩⟩,.int .i64 x.at',.int .i64 slot,.slice none 0 0,.slice xa (T.subs x.cond).length xk,iv (T.plc (T.subs x.cond) x.cond)],?_,?_⟩,by simp only;rw[aa];exact bd⟩
   ·simp only;rw[aa];simp only[aa9,aaJ];exact bx
   ·simp only;rw[aa];exact LR.app (a5.mono fun _ _ h=>bm.le h aj) (.one (bm.mk (n:=⟨5,x.text,x.at',slot,[],x.cond⟩) (ao.le aj) (Sl.nil _ _) lM))
 ·have b7:i=ac.length:=by omega
  subst b7;have a7:=Z6 ac.length;rw[aaS]at hE hA hB;apply RG;simp only[go_sem,a7,iv,pt];exact af rfl ba (r:=[va,vb]) rfl (abV a2 an) ⟨_,D3,[A3,B3],rfl,hE,A3,B3,va,vb,rfl,rfl,hA,hB⟩
def gy:aO Tryz.prog 205:=⟨_,Tryz.func205,rfl,rfl⟩
def Pr:aO Tryz.prog 261:=⟨_,Tryz.func261,rfl,rfl⟩
variable{xs:List Value}{e:TypeId}{cur:Array Value}{n size:Nat}
def oI{g cap p:Nat}{cs:List Value}(hl:xs.length=n*size)(h1:n<=cap)(h2:cap<=maxLen)(h3:cur.size=cap*size)(h4:cur.toList.take (n*size)=xs)(hp:p+cs.length<=n*size):
  mh (sg g (.cells (br cur.toList p cs).toArray e (0,0))) e size (.slice (some ⟨g,0,none⟩) n cap) n (br xs p cs):=
 mh.of_sg (by rw[aX];exact hl) h1 h2 (by simp[aX];exact h3) (by
  show (br cur.toList p cs).take (n*size)=_;rw[oC _ _ _ _ hp,h4])
variable{c:List Value}{i:Nat}
def om{R:List Value->α->Prop}(hR:∀c a,R c a->c.length=n){l:List α}{a:α}{cs:List Value}(h:LR R xs l)(hi:i<l.length)(hc:(xs.drop (i*n)).take n=c)(hk:k+cs.length<=n)(ha:R (br c k cs) a):LR R (br xs (i*n+k) cs) (l.set i a):=by
 have ac:=h.len hR;have ag:(i+1)*n<=l.length*n:=aaQ _ hi;rw[aaP,abj]at ag;have aj:c.length=n:=by rw[<-hc];simp;omega
 have aa:=h.set hR hi ha;have e:br xs (i*n+k) cs=xs.take (i*n)++br c k cs++xs.drop ((i+1)*n):=by
  rw[fE _ _ _ ab,fE _ _ _ ab];have e1:xs.take (i*n+k)=xs.take (i*n)++c.take k:=by
   rw[<-hc,aa4,aaN ab,List.take_add]
  have e2:xs.drop (i*n+k+cs.length)=c.drop (k+cs.length)++xs.drop ((i+1)*n):=by
   have h3:(xs.drop (i*n)).drop n=xs.drop ((i+1)*n):=by rw[aa3,aaP,abj]
   have h4:xs.drop (i*n)=c++xs.drop ((i+1)*n):=by rw[<-hc,<-h3,abq]
   rw[Nat.add_assoc,<-aa3,h4,List.drop_append_of_le_length ab]
  rw[e1,e2];simp
 rw[e];exact aa
def Ow.open'{R:PH->List Value->α->Prop}{l:List α}(h:Ow R e size I A v l)(hn:0<l.length)(hR:∀c a,R I c a->c.length=size):
  ∃g cap cur xs,v=.slice (some ⟨g,0,none⟩) l.length cap/\A=sg g (.cells cur e (0,0))/\l.length<=cap/\cap<=maxLen/\cur.size=cap*size/\cur.toList.take (l.length*size)=xs/\xs.length=l.length*size/\LR (R I) xs l:=by
 obtain⟨xs,h1,h2⟩:=h;obtain⟨g,cap,cur,e1,e2,e3,e4,e5,e6⟩:=h1.sg hn;exact⟨g,cap,cur,xs,e1,e2,e3,e4,e5,e6,h2.len hR,h2⟩
def gQ{R:List Value->α->Prop}(hR:∀c a,R c a->c.length=n){g:Nat}{l:List α}{m:Nat}(h:LR R xs l)(hi:i<l.length)(aj:l.length*n<=cur.size)(ac:cur.toList.take (l.length*n)=xs)(hc:(xs.drop (i*n)).take n=c)(hk:k+m<=n):
  aP (sg g (.cells cur e (0,0))) g (i*n+k) ((c.drop k).take m):=by
 have aa:=h.len hR;have ag:(i+1)*n<=l.length*n:=aaQ _ hi;rw[aaP,abj]at ag;have ak:c.length=n:=by rw[<-hc];simp;omega
 have h0:aP (sg g (.cells cur e (0,0))) g 0 xs:=ay ab (by rw[aa1,aa];exact ac);have h1:=(h0.sub (i*n) n ab).sub k m (by rw[hc];omega)
 rwa [hc,ZZ]at h1
def NE:Tryz.prog.underlying 33=some (.slice 60):=by obtain⟨i,z,h,_⟩:=dQ;exact h
def V7:∃i,Tryz.prog.info? 60=some i/\i.size=7:=by obtain⟨i,z,_,h,_,h2,_⟩:=dQ;exact⟨i,h,h2⟩
def Ty{c:Nat}(hc:n<=c)(hs:n=0\/∀x,a=some x->x.spot=none):bO Tryz.prog 261 #[.slice a n c] H fun v H2=>v=.slice a n n/\H2=H:=by
 refine ah 9 Tryz.func261 fun w0=>?_;refine aT ?_;refine II (e:=60) (size:=7) (h:=n) (m:=n) rfl rfl (by exact NE) (by exact V7) rfl rfl rfl (ZR _) hc ?_;have:sO a 7 0 n=a:=by
  rcases hs with rfl|hs
  ·simp[sO]
  ·exact yB hs
 apply RG;simp only[go_sem,this];exact aJ (r:=[_]) rfl ⟨rfl,rfl⟩
def bm.ones{n:Nd}(h:bm I c n):c.all Sx.one=true:=by
 obtain⟨vk,a,k,e,_,hk,_⟩:=h.shape;obtain⟨x,y,rfl,_⟩:=hk;rw[e];rfl
def Ow.cap{R:PH->List Value->α->Prop}{l:List α}(h:Ow R e size I A v l)(hR:∀c a,R I c a->c.length=size):DZ v:=by
 rcases abn l.length with h0|h0
 ·obtain⟨a,c,rfl⟩:=h.shape;show l.length<=c;omega
 ·obtain⟨g,cap,cur,xs,rfl,_,h1,_⟩:=h.open' h0 hR;exact h1
def Ow.capN{R:PH->List Value->α->Prop}{l:List α}(h:Ow R e size I A v l)(hR:∀c a,R I c a->c.length=size):sB v:=by
 rcases abn l.length with h0|h0
 ·obtain⟨a,c,rfl⟩:=h.shape;exact⟨ab,fun h=>by omega⟩
 ·obtain⟨g,cap,cur,xs,rfl,_,h1,h2,_⟩:=h.open' h0 hR;exact⟨h1,fun _=>h2⟩
variable{l:List Nd}
def Oi{ks:List Nd}{n:Nd}(hn:l[i]?=some n):(give (l.take i) ks++l.drop i)[i]?=some n/\(give (l.take i) ks++l.drop i).set i { n with kids:=n.kids++ks }=give (l.take (i+1)) ks++l.drop (i+1)/\i<l.length:=by
 have aa:i<l.length:=by
  rcases aaf i l.length with h|h
  ·exact h
  ·rw[aan h]at hn;cases hn
 have hl:(give (l.take i) ks).length=i:=by simp[give];omega
 have hd:l.drop i=n::l.drop (i+1):=by
  rw[aaK aa];rw[aak aa]at hn;rw[aaZ hn]
 refine⟨?_,?_,aa⟩
 ·rw[aaH ab,hl,Nat.sub_self,hd];rfl
 ·rw[List.set_append_right _ _ ab,hl,Nat.sub_self,hd,abR];have:give (l.take (i+1)) ks=give (l.take i) ks++[{ n with kids:=n.kids++ks }]:=by
   unfold give;rw[aaM aa,abP];rw[aak aa]at hn;rw[aaZ hn];rfl
  rw[this,aaT];rfl
def Vo(v vk:Value)(n:Nat)(i:Nat):St:=⟨dn 25 [(0,.v v),(1,.v vk),(7,.v (iv n)),(8,.v (iv i))],[]⟩
def Zl(v:Value)(l ks:List Nd)(I0:PH)(i:Nat)(H:PH):Prop:=∃I A,H=U [I,A]/\Dj [I,A]/\I0.le I/\i<=l.length/\bQ I A v (give (l.take i) ks++l.drop i)
theorem iV{vk:Value}{ks:List Nd}(hA:bQ I A v l)(hk:eE I vk ks)(hl:l.length<=aN)(hm:∀n∈l,n.kids.length+ks.length<=aN):
  aK Tryz.prog 205 #[v,vk] I [A] fun v2 I2 qs=>∃A2,qs=[A2]/\bQ I2 A2 v2 (give l ks):=by
 intro hd;obtain⟨va,vc,rfl⟩:=hA.shape;unfold aN at hl hm;refine ah 25 Tryz.func205 fun w0=>?_;refine aT ?_;refine aA (fun x=>l.length-x) (Vo (.slice va l.length vc) vk l.length) (Zl (.slice va l.length vc) l ks I) 0 bM (by simp only[go_sem,aa6,Vo]) ?_ ?_
 ·exact⟨I,A,rfl,hd,abW _,aaL _,by simpa[give]using hA⟩
 rintro i H ⟨I1,A1,rfl,aq,aa,hi,ba⟩ ac;simp only[Vo];rcases aaf i l.length with ao|b7
 ·have h9:decide ((i:Int)<(l.length:Int))=true:=by simp;omega
  have e1:=wrap64 (n:=i+1) ab;have bd:IntKind.i64.wrap ((i:Int)+1)=((i+1:Nat):Int):=by rw[<-e1];congr 1
  obtain⟨n,hn⟩:∃n,l[i]?=some n:=⟨_,aak ao⟩;obtain⟨g1,g2,_⟩:=Oi (ks:=ks) hn;have hL:(give (l.take i) ks++l.drop i).length=l.length:=by simp[give];omega
  obtain⟨g,cap,cur,xs,ev,rfl,c1,c2,c3,c4,c5,a3⟩:=ba.open' ab bm.len;rw[hL]at ev c1 c4 c5;cases ev
  have a7:=a3.get bm.len g1;obtain⟨kv,na,nk,bc,a2,aS,am⟩:=a7.shape;obtain⟨ka,kc,rfl,a6⟩:=id aS;have b4:l.length*7<=vc*7:=aaQ _ c1;have ag:=gQ (k:=4) (m:=1) (e:=60) (g:=g) (cur:=cur) bm.len a3 (i:=i) (by rw[hL];exact ao) (by rw[hL];omega) (by rw[hL];exact c4) bc ab;simp only[abx,aa1,abA,abz]at ag;have b5:=hm n (aaV hn);have b6:(i+1)*7<=l.length*7:=aaQ _ ao;have a4:eE I1 vk ks:=hk.le aa;obtain⟨sa,sc,rfl,bx⟩:=id a4;have fin:∀(I2:PH) (vn:Value) (an:Option Addr) (cn:Nat),vn=.slice an (n.kids++ks).length cn->I1.le I2->eE I2 vn (n.kids++ks)->sB vn->bQ I2 (sg g (.cells (br cur.toList (i*7+4) [vn]).toArray 60 (0,0))) (.slice (some ⟨g,0,none⟩) l.length vc) (give (l.take (i+1)) ks++l.drop (i+1)):=by
   intro I2 vn an cn e bb h1 h2;rw[<-g2];refine⟨_,?_,om bm.len (a3.mono fun _ _ h=>bm.le h bb) (by rw[hL];exact ao) bc (k:=4) (cs:=[vn]) (by simp) ?_⟩
   ·rw[aa0,hL];exact oI c5 c1 c2 c3 c4 (by simp;omega)
   ·exact bm.mk (n:={ n with kids:=n.kids++ks }) (a2.le bb) h1 h2
  apply RG;simp only[go_sem,h9,iv];refine⟨ab,?_⟩;refine XN (l:=[.slice ka n.kids.length kc]) rfl (by simpa using cellsU aq (.tail _ (.head _)) ag) (.inr ⟨PL,rfl⟩) ?_;apply RG;simp only[go_sem,h9,iv];refine WZ rfl Pr (Ty am.1 (by
   rcases a6 with h0|⟨b,off,ys,rfl,_⟩
   ·exact .inl (by rw[h0];rfl)
   ·exact .inr fun x hx=>by cases hx;rfl)) fun v H2 hv=>?_
  obtain⟨rfl,rfl⟩:=hv;refine dP ?_;rcases abn ks.length with a1|a1
  ·have a5:ks=[]:=List.length_eq_zero_iff.1 a1;subst a5;refine yq (by exact dQ) rfl rfl rfl (ZR _) rfl ?_;refine dP ?_;refine⟨ab,?_⟩;refine bw aq rfl rfl rfl rfl rfl (by exact Ke) (by simp;omega) fun a9=>?_;apply RG;simp only[go_sem,iv,bd];refine ac (i+1) _ _ (by show l.length-(i+1)<l.length-i;omega) (bJ (by simp only[go_sem,aa6,iv,aaO])) (by simp only[go_sem,aa6,Vo]) ⟨I1,_,rfl,a9,aa,ao,?_⟩;have:=fin I1 (.slice ka n.kids.length n.kids.length) ka n.kids.length (by simp) (abW _) ⟨ka,n.kids.length,by simp,by simpa using a6⟩ ⟨ZR _,fun h=>ZS am.1 (am.2 h)⟩;exact this
  ·obtain⟨ya,yo,ys,rfl,bs,ak⟩:∃b off xs,sa=some ⟨b,off,none⟩/\aP I1 b off xs/\LR (bm I1) xs ks:=by
    rcases bx with h0|h0
    ·rw[h0]at a1;simp at a1
    ·exact h0
   obtain⟨olds,b0,bF,bC⟩:∃olds,(n.kids.length=0\/∃b off,ka=some ⟨b,off,none⟩/\aP I1 b off olds)/\olds.length=n.kids.length*7/\LR (bm I1) olds n.kids:=by
    rcases a6 with h0|⟨b,off,zs,e1,e2,e3⟩
    ·exact⟨[],.inl (by rw[h0];rfl),by rw[h0];rfl,by rw[h0];rfl⟩
    ·exact⟨zs,.inr ⟨b,off,e1,e2⟩,e3.len bm.len,e3⟩
   refine FT aq (by exact dQ) rfl rfl rfl ab rfl (b0.imp id fun⟨b,off,e,h⟩=>⟨b,off,e,cellsU aq (.head _) h⟩) bF (cellsU aq (.head _) bs) (ak.len bm.len) (ak.ones fun _ _ h=>bm.ones h) (by unfold maxLen;omega) ab fun ng ncap I2 a9 al aj b1=>?_;refine dP ?_;refine⟨ab,?_⟩;refine bw a9 rfl rfl rfl rfl rfl (by exact Ke) (by simp;omega) fun b3=>?_;apply RG;simp only[go_sem,iv,bd];refine ac (i+1) _ _ (by show l.length-(i+1)<l.length-i;omega) bM (by simp only[go_sem,aa6,Vo]) ⟨I2,_,rfl,b3,abV aa al,ao,?_⟩;exact fin I2 (.slice (some ⟨ng,0,none⟩) (n.kids.length+ks.length) ncap) (some ⟨ng,0,none⟩) ncap (by simp) al ⟨_,ncap,by rw[aa9],.inr ⟨ng,0,_,rfl,b1,(bC.app ak).mono fun _ _ h=>bm.le h al⟩⟩ ⟨aj.1,fun _=>aj.2⟩
 ·have b2:i=l.length:=by omega
  subst b2;have h9:=Z6 l.length;rw[aaS,abH,aa6]at ba;apply RG;simp only[go_sem,h9,iv];exact af rfl aq (r:=[_]) rfl aa ⟨A1,rfl,ba⟩
def Qq:aO Tryz.prog 265:=⟨_,Tryz.func265,rfl,rfl⟩
def BS:aO Tryz.prog 266:=⟨_,Tryz.func266,rfl,rfl⟩
def GJ:aO Tryz.prog 212:=⟨_,Tryz.func212,rfl,rfl⟩
def PY:aO Tryz.prog 219:=⟨_,Tryz.func219,rfl,rfl⟩
def Ok:aO Tryz.prog 269:=⟨_,Tryz.func269,rfl,rfl⟩
def Hb:aO Tryz.prog 218:=⟨_,Tryz.func218,rfl,rfl⟩
def OA:aO Tryz.prog 210:=⟨_,Tryz.func210,rfl,rfl⟩
def Q3:aO Tryz.prog 214:=⟨_,Tryz.func214,rfl,rfl⟩
def Hs:aO Tryz.prog 211:=⟨_,Tryz.func211,rfl,rfl⟩
def OR:aO Tryz.prog 213:=⟨_,Tryz.func213,rfl,rfl⟩
def nD(n:Int):Bool:=(decide (97<=n) && decide (n<=122)) || (decide (65<=n) && decide (n<=90))
def lw(n:Int):Bool:=decide (48<=n) && decide (n<=57)
def gu(n:Int):Bool:=nD n || lw n || (n == 95)
def yO(n:Int):Bool:=(n == 32) || (n == 9)
def Er(n:Int):Bool:=!((n != 9) && (decide (n<32) || decide (n>126)))
def KY(n:Int)(H:PH):bO Tryz.prog 265 #[.int .u8 n] H fun v H2=>v=.bool (nD n)/\H2=H:=by
 refine ah 17 Tryz.func265 fun w0=>?_;cases h1:decide (97<=n)
 ·cases h3:decide (65<=n)
  ·apply RG;simp only[go_sem,h1,h3];exact aJ (r:=[_]) rfl ⟨by simp only[nD,h1,h3];rfl,rfl⟩
  ·cases h4:decide (n<=90)
   ·apply RG;simp only[go_sem,h1,h3,h4];exact aJ (r:=[_]) rfl ⟨by simp only[nD,h1,h3,h4];rfl,rfl⟩
   ·apply RG;simp only[go_sem,h1,h3,h4];exact aJ (r:=[_]) rfl ⟨by simp only[nD,h1,h3,h4];rfl,rfl⟩
 ·cases h2:decide (n<=122)
  ·cases h3:decide (65<=n)
   ·apply RG;simp only[go_sem,h1,h2,h3];exact aJ (r:=[_]) rfl ⟨by simp only[nD,h1,h2,h3];rfl,rfl⟩
   ·cases h4:decide (n<=90)
    ·apply RG;simp only[go_sem,h1,h2,h3,h4];exact aJ (r:=[_]) rfl ⟨by simp only[nD,h1,h2,h3,h4];rfl,rfl⟩
    ·apply RG;simp only[go_sem,h1,h2,h3,h4];exact aJ (r:=[_]) rfl ⟨by simp only[nD,h1,h2,h3,h4];rfl,rfl⟩
  ·apply RG;simp only[go_sem,h1,h2];exact aJ (r:=[_]) rfl ⟨by simp only[nD,h1,h2];rfl,rfl⟩
def Bc(n:Int)(H:PH):bO Tryz.prog 266 #[.int .u8 n] H fun v H2=>v=.bool (lw n)/\H2=H:=by
 refine ah 9 Tryz.func266 fun w0=>?_;cases h1:decide (48<=n)
 ·apply RG;simp only[go_sem,h1];exact aJ (r:=[_]) rfl ⟨by simp only[lw,h1];rfl,rfl⟩
 ·cases h2:decide (n<=57)
  ·apply RG;simp only[go_sem,h1,h2];exact aJ (r:=[_]) rfl ⟨by simp only[lw,h1,h2];rfl,rfl⟩
  ·apply RG;simp only[go_sem,h1,h2];exact aJ (r:=[_]) rfl ⟨by simp only[lw,h1,h2];rfl,rfl⟩
def LU(n:Int)(H:PH):bO Tryz.prog 212 #[.int .u8 n] H fun v H2=>v=.bool (gu n)/\H2=H:=by
 refine ah 13 Tryz.func212 fun w0=>?_;refine aT ?_;refine WZ rfl Qq (KY n H) fun v H2 hv=>?_;obtain⟨rfl,rfl⟩:=hv;cases h1:nD n
 ·refine aT ?_;refine WZ rfl BS (Bc n _) fun v H2 hv=>?_;obtain⟨rfl,rfl⟩:=hv;cases h2:lw n
  ·cases h3:(n == 95)
   ·apply RG;simp only[go_sem,h3];exact aJ (r:=[_]) rfl ⟨by simp only[gu,h1,h2,h3];rfl,rfl⟩
   ·apply RG;simp only[go_sem,h3];exact aJ (r:=[_]) rfl ⟨by simp only[gu,h1,h2,h3];rfl,rfl⟩
  ·refine aT ?_;exact aJ (r:=[_]) rfl ⟨by simp only[gu,h1,h2];rfl,rfl⟩
 ·refine aT ?_;exact aJ (r:=[_]) rfl ⟨by simp only[gu,h1];rfl,rfl⟩
def Oe(n:Int)(H:PH):bO Tryz.prog 219 #[.int .u8 n] H fun v H2=>v=.bool (yO n)/\H2=H:=by
 refine ah 9 Tryz.func219 fun w0=>?_;cases h1:(n == 32)
 ·cases h2:(n == 9)
  ·apply RG;simp only[go_sem,h1,h2];exact aJ (r:=[_]) rfl ⟨by simp only[yO,h1,h2];rfl,rfl⟩
  ·apply RG;simp only[go_sem,h1,h2];exact aJ (r:=[_]) rfl ⟨by simp only[yO,h1,h2];rfl,rfl⟩
 ·apply RG;simp only[go_sem,h1];exact aJ (r:=[_]) rfl ⟨by simp only[yO,h1];rfl,rfl⟩
theorem bi(s:bq):(⟨⟨s⟩⟩:ByteArray).size=s.length:=rfl
def oJ(s:bq)(i k:Nat):(⟨⟨s⟩⟩:ByteArray).extract i k=⟨⟨(s.drop i).take (k-i)⟩⟩:=by
 apply ByteArray.ext;rw[ByteArray.data_extract];apply Array.ext';simp[List.extract_eq_take_drop]
def HF(s t:bq)(H:PH):bO Tryz.prog 269 #[.string ⟨⟨s⟩⟩,.string ⟨⟨t⟩⟩] H fun v H2=>v=.bool (t.isPrefixOf s)/\H2=H:=by
 refine ah 18 Tryz.func269 fun w0=>?_;rcases aaf s.length t.length with h|h
 ·have h1:decide ((s.length:Int)>=(t.length:Int))=false:=abT ab;have h2:t.isPrefixOf s=false:=by
   rw[Bool.eq_false_iff];intro e;have:=(List.isPrefixOf_iff_prefix.1 e).length_le;omega
  apply RG;simp only[go_sem,bi,h1];exact aJ (r:=[_]) rfl ⟨by rw[h2];rfl,rfl⟩
 ·have h1:decide ((s.length:Int)>=(t.length:Int))=true:=abU ab;have h2:(s.take t.length == t)=t.isPrefixOf s:=by
   rw[Bool.eq_iff_iff,beq_iff_eq,List.isPrefixOf_iff_prefix,List.prefix_iff_eq_take];exact eq_comm
  apply RG;simp only[go_sem,bi,h1,oJ,Int.toNat_zero,Nat.sub_zero,h2];refine⟨ab,?_⟩;exact aJ (r:=[_]) rfl ⟨rfl,rfl⟩
def CF(s t:bq)(H:PH):bO Tryz.prog 218 #[.string ⟨⟨s⟩⟩,.string ⟨⟨t⟩⟩] H fun v H2=>v=.bool (t.isPrefixOf s)/\H2=H:=by
 refine ah 8 Tryz.func218 fun w0=>?_;refine aT ?_;refine WZ rfl Ok (HF s t H) fun v H2 hv=>?_;obtain⟨rfl,rfl⟩:=hv;refine aT ?_;exact aJ (r:=[_]) rfl ⟨rfl,rfl⟩
def bZ(c:UInt8):Int:=(c.toNat:Int)
def jn{c:UInt8}(h:s[i]?=some c):((xW ⟨⟨s⟩⟩ i:Nat):Int)=bZ c:=by
 unfold xW bZ;rw[List.getD_eq_getElem?_getD,h];rfl
def Lf(s:bq)(i:Nat):St:=⟨dn 26 [(0,.v (.string ⟨⟨s⟩⟩)),(5,.v (iv s.length)),(6,.v (iv i))],[]⟩
def IH(s:bq)(hl:s.length<2^60)(H:PH):bO Tryz.prog 210 #[.string ⟨⟨s⟩⟩] H fun v H2=>v=.bool (s.all fun c=>Er (bZ c))/\H2=H:=by
 refine ah 26 Tryz.func210 fun w0=>?_;apply RG;simp only[go_sem,bi];refine aA (fun x=>s.length-x) (Lf s) (fun i H2=>H2=H/\i<=s.length/\((s.drop i).all fun c=>Er (bZ c))=(s.all fun c=>Er (bZ c))) 0 bM (by simp only[go_sem,aa6,Lf]) ⟨rfl,aaL _,rfl⟩ ?_;rintro i H2 ⟨rfl,hi,ha⟩ ac;simp only[Lf];rcases aaf i s.length with aj|ak
 ·have h7:decide ((i:Int)<(s.length:Int))=true:=abU ab;have e1:IntKind.i64.wrap ((i:Int)+1)=((i+1:Nat):Int):=by rw[<-wrap64 (n:=i+1) ab];congr 1
  obtain⟨c,hc⟩:∃c,s[i]?=some c:=⟨_,aak aj⟩;have hb:=jn hc;have hd:s.drop i=c::s.drop (i+1):=by
   rw[aaK aj];rw[aak aj]at hc;rw[aaZ hc]
  rw[hd,List.all_cons]at ha;cases h9:(bZ c != 9)
  ·have hz:Er (bZ c)=true:=by simp only[Er,h9];rfl
   apply RG;simp only[go_sem,iv,h7,hb,h9,e1];refine⟨by (try simp only[bi]);omega,?_⟩;exact ac (i+1) _ _ ab bM (by simp only[go_sem,aa6,Lf]) ⟨rfl,aj,by rw[<-ha,hz,Bool.true_and]⟩
  ·cases ag:decide (bZ c<32)
   ·cases aa:decide (bZ c>126)
    ·have hz:Er (bZ c)=true:=by simp only[Er,h9,ag,aa];rfl
     apply RG;simp only[go_sem,iv,h7,hb,h9,ag,aa,e1];refine⟨by (try simp only[bi]);omega,?_⟩;exact ac (i+1) _ _ ab bM (by simp only[go_sem,aa6,Lf]) ⟨rfl,aj,by rw[<-ha,hz,Bool.true_and]⟩
    ·have hz:Er (bZ c)=false:=by simp only[Er,h9,ag,aa];rfl
     apply RG;simp only[go_sem,iv,h7,hb,h9,ag,aa];refine⟨by (try simp only[bi]);omega,?_⟩;exact aJ (r:=[_]) rfl ⟨by rw[<-ha,hz];rfl,rfl⟩
   ·have hz:Er (bZ c)=false:=by simp only[Er,h9,ag];rfl
    apply RG;simp only[go_sem,iv,h7,hb,h9,ag];refine⟨by (try simp only[bi]);omega,?_⟩;exact aJ (r:=[_]) rfl ⟨by rw[<-ha,hz];rfl,rfl⟩
 ·have:i=s.length:=by omega
  subst this;have h7:=Z6 s.length;rw[abH]at ha;apply RG;simp only[go_sem,iv,h7];exact aJ (r:=[_]) rfl ⟨by rw[<-ha];rfl,rfl⟩
def xJ(s:bq):Bool:=!(s.isEmpty || decide (s.length>32) || lw (bZ (s.getD 0 0))) && s.all fun c=>gu (bZ c)
def WA(s:bq)(i:Nat):St:=⟨dn 27 [(0,.v (.string ⟨⟨s⟩⟩)),(17,.v (iv s.length)),(18,.v (iv i))],[]⟩
def LJ(s:bq)(H:PH):bO Tryz.prog 214 #[.string ⟨⟨s⟩⟩] H fun v H2=>v=.bool (xJ s)/\H2=H:=by
 refine ah 27 Tryz.func214 fun w0=>?_;cases s with
 |nil=>
  refine aT ?_;exact aJ (r:=[_]) rfl ⟨rfl,rfl⟩
 |cons c0 s0=>
  generalize hs:c0::s0=s;have al:(s == [])=false:=by rw[<-hs];rfl
  have an:0<s.length:=by rw[<-hs];simp
  have ak:s.isEmpty=false:=by rw[<-hs];rfl
  have aq:s[0]?=some (s.getD 0 0):=by rw[<-hs];rfl
  clear hs c0 s0;have a1:=jn aq;have aS:(0:Int)<=0/\(0:Int)<((⟨⟨s⟩⟩:ByteArray).size:Int):=⟨ab,by rw[bi];omega⟩;cases ag:decide ((s.length:Int)>32)
  rotate_left
  ·have hz:xJ s=false:=by
    have:decide (s.length>32)=true:=abU (by have:=abl ag;omega);simp[xJ,this]
   apply RG;simp only[go_sem,al,bi,ag];exact aJ (r:=[_]) rfl ⟨by rw[hz];rfl,rfl⟩
  have ao:=abN ag;have aj:decide (s.length>32)=false:=abT ab;apply RG;simp only[go_sem,al,bi,ag,Int.toNat_zero,a1];refine⟨ab,?_⟩;refine WZ rfl BS (Bc _ _) fun v H2 hv=>?_;obtain⟨rfl,rfl⟩:=hv;cases am:lw (bZ (s.getD 0 0))
  rotate_left
  ·have hz:xJ s=false:=by simp only[xJ,am,Bool.or_true,abQ,Bool.false_and]
   refine aT ?_;exact aJ (r:=[_]) rfl ⟨by rw[hz];rfl,rfl⟩
  have hz:xJ s=s.all fun c=>gu (bZ c):=by simp only[xJ,ak,aj,am];simp
  rw[hz];apply RG;simp only[go_sem,bi];refine aA (fun x=>s.length-x) (WA s) (fun i H3=>H3=H2/\i<=s.length/\((s.drop i).all fun c=>gu (bZ c))=(s.all fun c=>gu (bZ c))) 0 bM (by simp only[go_sem,aa6,WA]) ⟨rfl,aaL _,rfl⟩ ?_;rintro i H3 ⟨rfl,hi,ha⟩ aa;simp only[WA];rcases aaf i s.length with ac|a2
  ·have h7:decide ((i:Int)<(s.length:Int))=true:=abU ab;have e1:IntKind.i64.wrap ((i:Int)+1)=((i+1:Nat):Int):=by rw[<-wrap64 (n:=i+1) ab];congr 1
   obtain⟨c,hc⟩:∃c,s[i]?=some c:=⟨_,aak ac⟩;have hb:=jn hc;have hd:s.drop i=c::s.drop (i+1):=by
    rw[aaK ac];rw[aak ac]at hc;rw[aaZ hc]
   rw[hd,List.all_cons]at ha;apply RG;simp only[go_sem,iv,h7,hb];refine⟨by (try simp only[bi]);omega,?_⟩;refine WZ rfl GJ (LU _ _) fun v H2 hv=>?_;obtain⟨rfl,rfl⟩:=hv;cases hp:gu (bZ c)
   ·apply RG;simp only[go_sem,abK];exact aJ (r:=[_]) rfl ⟨by rw[<-ha,hp];rfl,rfl⟩
   ·apply RG;simp only[go_sem,abQ,e1];exact aa (i+1) _ _ ab bM (by simp only[go_sem,aa6,WA]) ⟨rfl,ac,by rw[<-ha,hp,Bool.true_and]⟩
  ·have:i=s.length:=by omega
   subst this;have h7:=Z6 s.length;rw[abH]at ha;apply RG;simp only[go_sem,iv,h7];exact aJ (r:=[_]) rfl ⟨by rw[<-ha];rfl,rfl⟩
def dE:bq->Nat
 | []=>0
 |c::s=>if gu (bZ c)then dE s+1 else 0
def wO:∀s:bq,dE s<=s.length
 | []=>ZR _
 |c::s=>by
  have:=wO s;unfold dE;split<;>simp<;>omega
def WI(i:Nat)(sb k:Nat):St:=⟨dn 22 [(0,.v (iv i)),(1,.v (pt sb)),(4,.v (iv k))],[]⟩
def Rd{sb:Nat}(hs:aP H sb 0 [.string ⟨⟨s⟩⟩])(hi:i<=s.length)(hl:s.length<2^60):bO Tryz.prog 211 #[iv i,pt sb] H fun v H2=>v=.string ⟨⟨(s.drop i).take (dE (s.drop i))⟩⟩/\H2=H:=by
 refine ah 22 Tryz.func211 fun w0=>?_
 try simp only[iv,pt]
 refine aT ?_;refine aA (fun x=>s.length-x) (WI i sb) (fun k H2=>H2=H/\i<=k/\k<=s.length/\dE (s.drop i)=(k-i)+dE (s.drop k)) i gP (by simp only[go_sem,aa6,WI]) ⟨rfl,ZR _,hi,by simp⟩ ?_;rintro k H2 ⟨rfl,aj,ag,hr⟩ aa;simp only[WI];have fin:dE (s.drop k)=0->k-i=dE (s.drop i):=fun h=>by omega
 rcases aaf k s.length with ac|ak
 ·have h9:decide ((k:Int)<(s.length:Int))=true:=abU ab;have e1:IntKind.i64.wrap ((k:Int)+1)=((k+1:Nat):Int):=by rw[<-wrap64 (n:=k+1) ab];congr 1
  obtain⟨c,hc⟩:∃c,s[k]?=some c:=⟨_,aak ac⟩;have hb:=jn hc;have hd:s.drop k=c::s.drop (k+1):=by
   rw[aaK ac];rw[aak ac]at hc;rw[aaZ hc]
  refine ll ?_;refine XN (l:=[.string ⟨⟨s⟩⟩]) rfl hs (.inr ⟨tL,rfl⟩) ?_;apply RG;simp only[go_sem,bi,h9];refine XN (l:=[.string ⟨⟨s⟩⟩]) rfl hs (.inr ⟨tL,rfl⟩) ?_;apply RG;simp only[go_sem,hb];refine⟨by (try simp only[bi]);omega,?_⟩;refine WZ rfl GJ (LU _ _) fun v H2 hv=>?_;obtain⟨rfl,rfl⟩:=hv;cases hp:gu (bZ c)
  ·have h0:dE (s.drop k)=0:=by rw[hd,dE,hp];rfl
   refine ll ?_;refine XN (l:=[.string ⟨⟨s⟩⟩]) rfl hs (.inr ⟨tL,rfl⟩) ?_;apply RG;simp only[go_sem,oJ,fin h0];refine⟨by (try simp only[bi]);omega,?_⟩;exact aJ (r:=[_]) rfl ⟨rfl,rfl⟩
  ·apply RG;simp only[go_sem,e1];exact aa (k+1) _ _ ab gP (by simp only[go_sem,aa6,WI]) ⟨rfl,ab,ac,by rw[hr,hd,dE,hp];simp;omega⟩
 ·have:k=s.length:=by omega
  subst this;have h9:=Z6 s.length;have h0:dE (s.drop s.length)=0:=by rw[abH];rfl
  refine ll ?_;refine XN (l:=[.string ⟨⟨s⟩⟩]) rfl hs (.inr ⟨tL,rfl⟩) ?_;apply RG;simp only[go_sem,bi,h9];refine XN (l:=[.string ⟨⟨s⟩⟩]) rfl hs (.inr ⟨tL,rfl⟩) ?_;apply RG;simp only[go_sem,oJ,fin h0];refine⟨by (try simp only[bi]);omega,?_⟩;exact aJ (r:=[_]) rfl ⟨rfl,rfl⟩
def Tu{sb fb:Nat}(hs:aP H sb 0 [.string ⟨⟨s⟩⟩])(hf:aP H fb 0 [.func (.func 211) #[] #[pt sb]])(hi:i<=s.length)(hl:s.length<2^60):
  bO Tryz.prog 213 #[iv i,pt fb] H fun v H2=>v=(if xJ ((s.drop i).take (dE (s.drop i)))then .tuple #[.int .u8 1,.string ⟨⟨(s.drop i).take (dE (s.drop i))⟩⟩]else .tuple #[.int .u8 0,.string ⟨⟨[]⟩⟩])/\H2=H:=by
 refine ah 12 Tryz.func213 fun w0=>?_
 try simp only[iv,pt]
 refine aT ?_;refine XN (l:=[.func (.func 211) #[] #[pt sb]]) rfl hf (.inr ⟨Mm,rfl⟩) ?_;refine ll ?_;refine WZ rfl Hs (Rd hs hi hl) fun v H2 hv=>?_;obtain⟨rfl,rfl⟩:=hv;refine aT ?_;refine WZ rfl Q3 (LJ _ _) fun v H2 hv=>?_;obtain⟨rfl,rfl⟩:=hv;cases h:xJ ((s.drop i).take (dE (s.drop i)))
 ·refine aT ?_;exact aJ (r:=[_,_]) rfl ⟨rfl,rfl⟩
 ·refine aT ?_;exact aJ (r:=[_,_]) rfl ⟨rfl,rfl⟩
def P3:aO Tryz.prog 228:=⟨_,Tryz.func228,rfl,rfl⟩
def AY:aO Tryz.prog 152:=⟨_,Tryz.func152,rfl,rfl⟩
def QS:aO Tryz.prog 151:=⟨_,Tryz.func151,rfl,rfl⟩
def Pk:aO Tryz.prog 153:=⟨_,Tryz.func153,rfl,rfl⟩
def GE:aO Tryz.prog 231:=⟨_,Tryz.func231,rfl,rfl⟩
def MR(n:Int)(H:PH):bO Tryz.prog 228 #[.int .u8 n] H fun v H2=>v=.bool (nD n)/\H2=H:=by
 refine ah 17 Tryz.func228 fun w0=>?_;have e1:decide (n>=97)=decide (97<=n):=rfl;have e2:decide (n>=65)=decide (65<=n):=rfl;cases h1:decide (97<=n)
 ·cases h3:decide (65<=n)
  ·apply RG;simp only[go_sem,e1,e2,h1,h3];exact aJ (r:=[_]) rfl ⟨by simp only[nD,h1,h3];rfl,rfl⟩
  ·cases h4:decide (n<=90)
   ·apply RG;simp only[go_sem,e1,e2,h1,h3,h4];exact aJ (r:=[_]) rfl ⟨by simp only[nD,h1,h3,h4];rfl,rfl⟩
   ·apply RG;simp only[go_sem,e1,e2,h1,h3,h4];exact aJ (r:=[_]) rfl ⟨by simp only[nD,h1,h3,h4];rfl,rfl⟩
 ·cases h2:decide (n<=122)
  ·cases h3:decide (65<=n)
   ·apply RG;simp only[go_sem,e1,e2,h1,h2,h3];exact aJ (r:=[_]) rfl ⟨by simp only[nD,h1,h2,h3];rfl,rfl⟩
   ·cases h4:decide (n<=90)
    ·apply RG;simp only[go_sem,e1,e2,h1,h2,h3,h4];exact aJ (r:=[_]) rfl ⟨by simp only[nD,h1,h2,h3,h4];rfl,rfl⟩
    ·apply RG;simp only[go_sem,e1,e2,h1,h2,h3,h4];exact aJ (r:=[_]) rfl ⟨by simp only[nD,h1,h2,h3,h4];rfl,rfl⟩
  ·apply RG;simp only[go_sem,e1,e2,h1,h2];exact aJ (r:=[_]) rfl ⟨by simp only[nD,h1,h2];rfl,rfl⟩
def AV(n:Int)(H:PH):bO Tryz.prog 152 #[.int .u8 n] H fun v H2=>v=.bool (lw n)/\H2=H:=by
 refine ah 9 Tryz.func152 fun w0=>?_;have e1:decide (n>=48)=decide (48<=n):=rfl;cases h1:decide (48<=n)
 ·apply RG;simp only[go_sem,e1,h1];exact aJ (r:=[_]) rfl ⟨by simp only[lw,h1];rfl,rfl⟩
 ·cases h2:decide (n<=57)
  ·apply RG;simp only[go_sem,e1,h1,h2];exact aJ (r:=[_]) rfl ⟨by simp only[lw,h1,h2];rfl,rfl⟩
  ·apply RG;simp only[go_sem,e1,h1,h2];exact aJ (r:=[_]) rfl ⟨by simp only[lw,h1,h2];rfl,rfl⟩
def Tz(n:Int)(H:PH):bO Tryz.prog 151 #[.int .u8 n] H fun v H2=>v=.bool (gu n)/\H2=H:=by
 refine ah 13 Tryz.func151 fun w0=>?_;refine aT ?_;refine WZ rfl P3 (MR n H) fun v H2 hv=>?_;obtain⟨rfl,rfl⟩:=hv;cases h1:nD n
 ·refine aT ?_;refine WZ rfl AY (AV n _) fun v H2 hv=>?_;obtain⟨rfl,rfl⟩:=hv;cases h2:lw n
  ·cases h3:(n == 95)
   ·apply RG;simp only[go_sem,h3];exact aJ (r:=[_]) rfl ⟨by simp only[gu,h1,h2,h3];rfl,rfl⟩
   ·apply RG;simp only[go_sem,h3];exact aJ (r:=[_]) rfl ⟨by simp only[gu,h1,h2,h3];rfl,rfl⟩
  ·refine aT ?_;exact aJ (r:=[_]) rfl ⟨by simp only[gu,h1,h2];rfl,rfl⟩
 ·refine aT ?_;exact aJ (r:=[_]) rfl ⟨by simp only[gu,h1];rfl,rfl⟩
def WT(s:bq)(i:Nat):St:=⟨dn 28 [(0,.v (.string ⟨⟨s⟩⟩)),(3,.v (iv i))],[]⟩
def Lr(s:bq)(hl:s.length<2^60)(H:PH):bO Tryz.prog 153 #[.string ⟨⟨s⟩⟩] H fun v H2=>v=.bool (xJ s)/\H2=H:=by
 refine ah 28 Tryz.func153 fun w0=>?_;cases s with
 |nil=>
  apply RG;simp only[go_sem,bi];exact aJ (r:=[_]) rfl ⟨rfl,rfl⟩
 |cons c0 s0=>
  generalize hs:c0::s0=s at hl |-;have an:0<s.length:=by rw[<-hs];simp
  have al:decide ((s.length:Int)<1)=false:=abT ab;have ak:s.isEmpty=false:=by rw[<-hs];rfl
  have aq:s[0]?=some (s.getD 0 0):=by rw[<-hs];rfl
  clear hs c0 s0;have aS:=jn aq;cases ag:decide ((s.length:Int)>32)
  rotate_left
  ·have hz:xJ s=false:=by
    have:decide (s.length>32)=true:=abU (by have:=abl ag;omega);simp[xJ,this]
   apply RG;simp only[go_sem,al,bi,ag];exact aJ (r:=[_]) rfl ⟨by rw[hz];rfl,rfl⟩
  have ao:=abN ag;have aj:decide (s.length>32)=false:=abT ab;apply RG;simp only[go_sem,al,bi,ag,Int.toNat_zero,aS];refine⟨ab,?_⟩;refine WZ rfl AY (AV _ _) fun v H2 hv=>?_;obtain⟨rfl,rfl⟩:=hv;cases am:lw (bZ (s.getD 0 0))
  rotate_left
  ·have hz:xJ s=false:=by simp only[xJ,am,Bool.or_true,abQ,Bool.false_and]
   refine aT ?_;exact aJ (r:=[_]) rfl ⟨by rw[hz];rfl,rfl⟩
  have hz:xJ s=s.all fun c=>gu (bZ c):=by simp only[xJ,ak,aj,am];simp
  rw[hz];apply RG;simp only[go_sem,bi];refine aA (fun x=>s.length-x) (WT s) (fun i H3=>H3=H2/\i<=s.length/\((s.drop i).all fun c=>gu (bZ c))=(s.all fun c=>gu (bZ c))) 0 bM (by simp only[go_sem,aa6,WT]) ⟨rfl,aaL _,rfl⟩ ?_;rintro i H3 ⟨rfl,hi,ha⟩ aa;simp only[WT];rcases aaf i s.length with ac|a1
  ·have h7:decide ((i:Int)<(s.length:Int))=true:=abU ab;have e1:IntKind.i64.wrap ((i:Int)+1)=((i+1:Nat):Int):=by rw[<-wrap64 (n:=i+1) ab];congr 1
   obtain⟨c,hc⟩:∃c,s[i]?=some c:=⟨_,aak ac⟩;have hb:=jn hc;have hd:s.drop i=c::s.drop (i+1):=by
    rw[aaK ac];rw[aak ac]at hc;rw[aaZ hc]
   rw[hd,List.all_cons]at ha;apply RG;simp only[go_sem,iv,bi,h7,hb];refine⟨by (try simp only[bi]);omega,?_⟩;refine WZ rfl QS (Tz _ _) fun v H2 hv=>?_;obtain⟨rfl,rfl⟩:=hv;cases hp:gu (bZ c)
   ·apply RG;simp only[go_sem,abK];exact aJ (r:=[_]) rfl ⟨by rw[<-ha,hp];rfl,rfl⟩
   ·apply RG;simp only[go_sem,abQ,e1];exact aa (i+1) _ _ ab bM (by simp only[go_sem,aa6,WT]) ⟨rfl,ac,by rw[<-ha,hp,Bool.true_and]⟩
  ·have:i=s.length:=by omega
   subst this;have h7:=Z6 s.length;rw[abH]at ha;apply RG;simp only[go_sem,iv,bi,h7];exact aJ (r:=[_]) rfl ⟨by rw[<-ha];rfl,rfl⟩
def vC(_:PH)(c:List Value)(x:bq):Prop:=c=[.string ⟨⟨x⟩⟩]
def vC.len(c:List Value)(x:bq)(h:vC I c x):c.length=1:=by rw[show c=_ from h];rfl
abbrev MI(I:PH)(v:Value)(l:List bq):Prop:=Sl vC I v l
def ss(s:bq):Nat->List bq->Int
 |_,[]=>-1
 |i,x::l=>if x=s then i else ss s (i+1) l
def Wy(v:Value)(s:bq)(i:Nat):St:=⟨dn 19 [(0,.v v),(1,.v (.string ⟨⟨s⟩⟩)),(5,.v (iv i))],[]⟩
def JM{l:List bq}(hS:MI H v l)(s:bq)(hl:l.length<2^60):bO Tryz.prog 231 #[v,.string ⟨⟨s⟩⟩] H fun r H2=>r=.int .i64 (ss s 0 l)/\H2=H:=by
 obtain⟨la,lc,rfl,_⟩:=id hS;refine ah 19 Tryz.func231 fun w0=>?_;refine aT ?_;refine aA (fun x=>l.length-x) (Wy (.slice la l.length lc) s) (fun i H3=>H3=H/\i<=l.length/\ss s i (l.drop i)=ss s 0 l) 0 bM (by simp only[go_sem,aa6,Wy]) ⟨rfl,aaL _,rfl⟩ ?_;rintro i H3 ⟨rfl,hi,ha⟩ aa;simp only[Wy];rcases aaf i l.length with ag|al
 ·have h7:decide ((i:Int)<(l.length:Int))=true:=abU ab;have e1:IntKind.i64.wrap ((i:Int)+1)=((i+1:Nat):Int):=by rw[<-wrap64 (n:=i+1) ab];congr 1
  obtain⟨x,hx⟩:∃x,l[i]?=some x:=⟨_,aak ag⟩;obtain⟨b,off,cs,rfl,ak,ac⟩:=Sl.load (R:=vC) (fun{I} c a h=>vC.len (I:=I) c a h) hS hx;obtain rfl:cs=[.string ⟨⟨x⟩⟩]:=ak;have hd:l.drop i=x::l.drop (i+1):=by
   rw[aaK ag];rw[aak ag]at hx;rw[aaZ hx]
  rw[hd]at ha;simp only[ss]at ha;apply RG;simp only[go_sem,iv,h7];refine⟨ab,?_⟩;refine XN (l:=[.string ⟨⟨x⟩⟩]) rfl (by simpa using ac) (.inr ⟨tL,rfl⟩) ?_;by_cases aj:x=s
  ·subst aj;rw[aaq rfl]at ha;refine dP ?_;exact aJ (r:=[_]) rfl ⟨by rw[<-ha];rfl,rfl⟩
  ·rw[ZV aj]at ha;have hb:(x == s)=false:=by simpa using aj
   apply RG;simp only[go_sem,iv,hb,e1];exact aa (i+1) _ _ ab bM (by simp only[go_sem,aa6,Wy]) ⟨rfl,ag,ha⟩
 ·have:i=l.length:=by omega
  subst this;have h7:=Z6 l.length;rw[abH]at ha;apply RG;simp only[go_sem,iv,h7];exact aJ (r:=[_]) rfl ⟨by rw[<-ha];rfl,rfl⟩
end Go.Proofs.YtfaclfkpnmcmlaaGreatDoor
