import Derived.Test.YtfaclfkpnmcmlaaGreatDoorE11
import Derived.Test.YtfaclfkpnmcmlaaGreatDoorE17
import Derived.Test.YtfaclfkpnmcmlaaGreatDoorE18
import Derived.Test.YtfaclfkpnmcmlaaGreatDoorE19
set_option maxHeartbeats 8000000
set_option linter.all false
namespace Go.Proofs.YtfaclfkpnmcmlaaGreatDoor
open Go Go.Sx Dg Syn
def FX:aO Tryz.prog 85:=⟨_,Tryz.func85,rfl,rfl⟩
def x8:aO Tryz.prog 29:=⟨_,Tryz.func29,rfl,rfl⟩
def zz{A:Prop}{C:Cx}{k:List Item}{σ0:St}{H:PH}{P:Prop}(h1:(A->RC C (.st k) σ0 H)->P)(h:A->RC C (.st k) σ0 H):P:=h1 h
variable{I:PH}
def DT.onesK{c:List Value}{t:Syn.Tok}(h:DT I c t):c.all one=true:=by
 obtain⟨v1,v2,v3,v4,rfl,h1,h2,h3,h4⟩:=h;simp only[List.all_cons,List.all_nil,h1,h2,h3,h4];rfl
def rd(d:bq):Nat×bq:=if gu (bZ (d.getD 0 0))then (if lw (bZ (d.getD 0 0))then 2 else 1,d.take (dE d))else (3,pd d)
abbrev G6(I A:PH)(v:Value)(l:List Syn.Tok):Prop:=Ow DT 136 6 I A v l
def CQ(s:bq)(i:Nat):St:=⟨dn 136 [(0,.v (.string ⟨⟨s⟩⟩)),(2,.v (.slice none 0 0)),(3,.v (.slice none 0 0)),(4,.v (.bool false)),(5,.v (iv i))],[]⟩
def ur(s:bq)(x:Nat×Value×Value):St:=⟨dn 136 [(0,.v (.string ⟨⟨s⟩⟩)),(2,.v (.slice none 0 0)),(3,.v (.slice none 0 0)),(4,.v (.bool false)),(6,.v x.2.1),(7,.v x.2.2),(8,.v (iv x.1))],[]⟩
def Hw(s:bq)(I0:PH)(x:Nat×Value×Value)(H:PH):Prop:=∃I A B l ats,H=U [I,A,B]/\Dj [I,A,B]/\I0.le I/\x.1<=s.length/\G6 I A x.2.1 (l.map cY)/\Ue I B x.2.2 ats/\ats.length=l.length/\l.length<=x.1/\xZ s=(xZ (s.drop x.1)).map (l++·)
def xM(s:bq)(va vb:Value)(i mb:Nat)(x:Nat×bq):St:=⟨dn 136 [(0,.v (.string ⟨⟨s⟩⟩)),(2,.v (.slice none 0 0)),(3,.v (.slice none 0 0)),(4,.v (.bool false)),(6,.v va),(7,.v vb),(8,.v (iv i)),(9,.p 9 0)],[⟨9,136,[.int .u8 x.1,.string ⟨⟨x.2⟩⟩,.slice (some ⟨mb,0,none⟩) 1 1,.int .i64 0,.int .i64 0,.slice none 0 0]⟩]⟩
def y0(s:bq)(va vb:Value)(i mb:Nat)(x:Nat×bq)(k:Nat):St:=⟨dn 136 [(0,.v (.string ⟨⟨s⟩⟩)),(2,.v (.slice none 0 0)),(3,.v (.slice none 0 0)),(4,.v (.bool false)),(6,.v va),(7,.v vb),(8,.v (iv i)),(9,.p 9 0),(10,.v (iv k))],[⟨9,136,[.int .u8 x.1,.string ⟨⟨x.2⟩⟩,.slice (some ⟨mb,0,none⟩) 1 1,.int .i64 0,.int .i64 0,.slice none 0 0]⟩]⟩
def gd(s:bq)(v:Value)(I2:PH)(qs:List PH):Prop:=match rI s with
 |none=>v=.tuple #[.slice none 0 0,.slice none 0 0,.bool false]/\qs=[]
 |some l=>∃A va vb,v=.tuple #[va,vb,.bool true]/\qs=[A]/\G6 I2 A va (l.map cY)
theorem ED{s:bq}(hl:s.length<2^40):aK Tryz.prog 85 #[.string ⟨⟨s⟩⟩] I [] (gd s):=by
 intro hd;refine ah 136 Tryz.func85 fun w0=>?_;refine aT ?_;refine aA (fun x=>s.length-x) (CQ s) (fun i H2=>H2=U [I]/\i<=s.length/\((s.drop i).all fun c=>Er (bZ c))=(s.all fun c=>Er (bZ c))) 0 bM (by simp only[go_sem,aa6,CQ]) ⟨rfl,aaL _,rfl⟩ ?_;rintro i H2 ⟨rfl,hi,ha⟩ ao;simp only[CQ];rcases aaf i s.length with a6|c0
 ·have h7:decide ((i:Int)<(s.length:Int))=true:=abU ab;have e1:IntKind.i64.wrap ((i:Int)+1)=((i+1:Nat):Int):=by rw[<-wrap64 (n:=i+1) ab];congr 1
  obtain⟨c,hc⟩:∃c,s[i]?=some c:=⟨_,aak a6⟩;have hb:=jn hc;have bs:s.drop i=c::s.drop (i+1):=by
   rw[aaK a6];rw[aak a6]at hc;rw[aaZ hc]
  rw[bs,List.all_cons]at ha;cases h9:(bZ c != 9)
  ·have hz:Er (bZ c)=true:=by simp only[Er,h9];rfl
   apply RG;simp only[go_sem,iv,bi,h7,hb,h9,e1];refine⟨ab,?_⟩;exact ao (i+1) _ _ ab bM (by simp only[go_sem,aa6,CQ]) ⟨rfl,a6,by rw[<-ha,hz,Bool.true_and]⟩
  ·cases bb:decide (bZ c<32)
   ·cases bC:decide (bZ c>126)
    ·have hz:Er (bZ c)=true:=by simp only[Er,h9,bb,bC];rfl
     apply RG;simp only[go_sem,iv,bi,h7,hb,h9,bb,bC,e1];refine⟨ab,?_⟩;exact ao (i+1) _ _ ab bM (by simp only[go_sem,aa6,CQ]) ⟨rfl,a6,by rw[<-ha,hz,Bool.true_and]⟩
    ·have hz:Er (bZ c)=false:=by simp only[Er,h9,bb,bC];rfl
     have hx:rI s=none:=by unfold rI;rw[<-ha,hz];rfl
     apply RG;simp only[go_sem,iv,bi,h7,hb,h9,bb,bC,e1];refine⟨ab,?_⟩;exact af rfl hd (r:=[_,_,_]) rfl (abW _) (by unfold gd;rw[hx];exact⟨rfl,rfl⟩)
   ·have hz:Er (bZ c)=false:=by simp only[Er,h9,bb];rfl
    have hx:rI s=none:=by unfold rI;rw[<-ha,hz];rfl
    apply RG;simp only[go_sem,iv,bi,h7,hb,h9,bb,e1];refine⟨ab,?_⟩;exact af rfl hd (r:=[_,_,_]) rfl (abW _) (by unfold gd;rw[hx];exact⟨rfl,rfl⟩)
 have:i=s.length:=by omega
 subst this;rw[abH]at ha;have b5:rI s=xZ s:=by unfold rI;rw[<-ha];rfl
 have a5:=Z6 s.length;clear ao c0 hi ha;apply bL 7;simp only[go_sem,iv,bi,a5];refine aR hd fun da=>?_;refine aR da fun c9=>?_;refine dP ?_;refine aA (fun x=>s.length-x.1) (ur s) (Hw s I) (0,.slice none 0 0,.slice none 0 0) bM (by simp only[go_sem,aa6,ur]) ?_ ?_
 ·exact⟨I,_,_,[],[],rfl,c9,abW _,aaL _,Ow.nil _ _ _ _,Ow.nil _ _ _ _,rfl,aaL _,by simp⟩
 rintro⟨i,va,vb⟩ H ⟨I1,A1,B1,l,ats,rfl,ca,a3,hi,hA,hB,cs,c6,a1⟩ ao;simp only at hi hA hB c6 a1;simp only[ur];obtain⟨aa,ac,rfl⟩:=hA.shape;obtain⟨ba,bc,rfl⟩:=hB.shape;rcases aaf i s.length with a6|c0
 ·have a5:decide ((i:Int)<(s.length:Int))=true:=abU ab;have e1:IntKind.i64.wrap ((i:Int)+1)=((i+1:Nat):Int):=by rw[<-wrap64 (n:=i+1) ab];congr 1
  obtain⟨c,hc⟩:∃c,s[i]?=some c:=⟨_,aak a6⟩;have hb:=jn hc;have bs:s.drop i=c::s.drop (i+1):=by
   rw[aaK a6];rw[aak a6]at hc;rw[aaZ hc]
  have tk:(s.drop i).take (s.length-i)=s.drop i:=abG (by simp);rw[bs,mV,<-bs]at a1;cases cf:yO (bZ c)
  rotate_left
  ·rw[cf,aaq rfl]at a1;cases bb:(bZ c == 32)
   ·have h9:(bZ c == 9)=true:=by simpa[yO,bb]using cf
    apply RG;simp only[go_sem,iv,bi,a5,hb,bb,h9,e1];refine⟨ab,?_⟩;exact ao (i+1,.slice aa (l.map cY).length ac,.slice ba ats.length bc) _ _ dt bM (by simp only[go_sem,aa6,ur]) ⟨I1,A1,B1,l,ats,rfl,ca,a3,a6,hA,hB,cs,by simp only;omega,a1⟩
   ·apply RG;simp only[go_sem,iv,bi,a5,hb,bb,e1];refine⟨ab,?_⟩;exact ao (i+1,.slice aa (l.map cY).length ac,.slice ba ats.length bc) _ _ dt bM (by simp only[go_sem,aa6,ur]) ⟨I1,A1,B1,l,ats,rfl,ca,a3,a6,hA,hB,cs,by simp only;omega,a1⟩
  rw[cf,ZV (by simp)]at a1;have al:=cf;simp only[yO,Bool.or_eq_false_iff]at al;have e2:IntKind.i64.wrap ((i:Int)+2)=((i+2:Nat):Int):=by rw[<-wrap64 (n:=i+2) ab];congr 1
  have a9:TV.isPrefixOf (s.drop i)=(decide (i+2<=s.length) && ((s.drop i).take 2 == TV)):=by
   rw[Bool.eq_iff_iff,List.isPrefixOf_iff_prefix,List.prefix_iff_eq_take,show TV.length=2 from rfl];simp only[aao,aaC,beq_iff_eq];constructor
   ·intro h;have:=congrArg List.length h;rw[abF,abD,show TV.length=2 from rfl]at this;exact⟨ab,h.symm⟩
   ·exact fun h=>h.2.symm
  apply zz (A:=TV.isPrefixOf (s.drop i)=false) (σ0:=ur s (i,.slice aa (l.map cY).length ac,.slice ba ats.length bc))
  ·intro a2;cases h2:decide ((s.length:Int)>=((i+2:Nat):Int))
   ·have bx:TV.isPrefixOf (s.drop i)=false:=by rw[a9,abT (by have:=abN h2;omega),Bool.false_and]
    rw[bx,ZV (by simp)]at a1;apply bL 32;simp only[go_sem,iv,bi,a5,hb,al.1,al.2,e2,h2];refine⟨ab,?_⟩
    try refine⟨ab,?_⟩
    apply bL 14;simp only[go_sem,iv,bi,a5,hb,al.1,al.2,e2,h2];refine fD (σ':=ur s (i,.slice aa (l.map cY).length ac,.slice ba ats.length bc)) ?_ ?_ ?_
    ·exact bM
    ·exact(by simp only[go_sem,aa6,ur])
    ·exact a2 bx
   ·have dx:=abl h2;have k2:decide (i+2<=s.length)=true:=abU ab;have e3:(i+2)-i=2:=by omega
    cases bx:TV.isPrefixOf (s.drop i)
    ·have h3:((s.drop i).take 2 == [47,47])=false:=by rw[bx,k2,Bool.true_and]at a9;exact a9.symm
     apply bL 32;simp only[go_sem,iv,bi,a5,hb,al.1,al.2,e2,h2];refine⟨ab,?_⟩
     try refine⟨ab,?_⟩
     apply bL 14;simp only[go_sem,iv,bi,a5,hb,al.1,al.2,e2,h2,oJ,e3,h3];refine⟨ab,?_⟩;refine fD (σ':=ur s (i,.slice aa (l.map cY).length ac,.slice ba ats.length bc)) ?_ ?_ ?_
     ·exact bM
     ·exact(by simp only[go_sem,aa6,ur])
     ·exact a2 bx
    ·have h3:((s.drop i).take 2 == [47,47])=true:=by rw[bx,k2,Bool.true_and]at a9;exact a9.symm
     rw[bx,aaq rfl]at a1;apply bL 32;simp only[go_sem,iv,bi,a5,hb,al.1,al.2,e2,h2];refine⟨ab,?_⟩
     try refine⟨ab,?_⟩
     apply bL 15;simp only[go_sem,iv,bi,a5,hb,al.1,al.2,e2,h2,oJ,e3,h3];refine⟨ab,?_⟩;refine bf ca [1,0] fun b8=>?_;refine bf b8 [0,1] fun an=>?_;refine ae (c:=.st _) an fun I9 an ag ct=>?_;refine dP ?_;refine af rfl an (r:=[_,_,_]) rfl (abV a3 ag) ?_;unfold gd;rw[b5,a1];exact⟨A1,_,_,rfl,rfl,by simpa using Ow.le (R:=DT) (fun{I J c a} h k=>h) hA ag⟩
  ·intro bx;rw[bx,ZV (by simp)]at a1;simp only[ur];apply RG;simp only[go_sem,iv,bi,oJ,tk];refine⟨ab,?_⟩;refine ad ca [0,1] [] [A1,B1] rfl On rfl (Sd (s.drop i) (by simp only[abD];omega) I1) fun v I2 qs b8 a7 hq=>?_;obtain⟨rfl,rfl⟩:=hq;refine dP ?_;refine ax b8 (by exact tz) rfl rfl rfl rfl rfl bg fun mb I3 an ag ds=>?_;apply RG;simp only[go_sem,iv,hb];refine⟨ab,?_⟩;refine WZ rfl QS (Tz _ _) fun v H2 hv=>?_;obtain⟨rfl,rfl⟩:=hv;have cr:(s.drop i).getD 0 0=c:=by rw[bs];rfl
   apply zz (A:=fS (s.drop i)=if (rd (s.drop i)).2=[]then (0,[])else rd (s.drop i)) (σ0:=xM s (.slice aa (l.map cY).length ac) (.slice ba ats.length bc) i mb (rd (s.drop i)))
   ·intro a2;cases b2:gu (bZ c)
    ·have b4:rd (s.drop i)=(3,pd (s.drop i)):=by unfold rd;rw[cr,b2];rfl
     have aS:fS (s.drop i)=if (rd (s.drop i)).2=[]then (0,[])else rd (s.drop i):=by rw[b4,bs];exact Cr b2
     apply bL 3;simp only[go_sem,iv];refine fD (σ':=xM s (.slice aa (l.map cY).length ac) (.slice ba ats.length bc) i mb (3,pd (s.drop i))) ?_ ?_ ?_
     ·exact bM
     ·exact(by simp only[go_sem,aa6,xM,iv])
     ·rw[b4]at a2 aS;exact a2 aS
    ·refine dP ?_;apply dF (fun(k:Nat)=>s.length-k) (y0 s (.slice aa (l.map cY).length ac) (.slice ba ats.length bc) i mb (3,pd (s.drop i))) (fun k H=>H=U [I3,A1,B1]/\i<=k/\k<=s.length/\dE (s.drop i)=(k-i)+dE (s.drop k)) (fun k H=>H=U [I3,A1,B1]/\k=i+dE (s.drop i)) i
     ·exact bM
     ·exact(by simp only[go_sem,aa6,y0,iv])
     ·exact⟨rfl,ZR _,hi,by simp⟩
     ·rintro k H ⟨rfl,dw,dv,hr⟩ b3 b1;simp only[y0];rcases aaf k s.length with bd|c8
      ·have h9:decide ((k:Int)<(s.length:Int))=true:=abU ab;have e1:IntKind.i64.wrap ((k:Int)+1)=((k+1:Nat):Int):=by rw[<-wrap64 (n:=k+1) ab];congr 1
       obtain⟨c2,cp⟩:∃c,s[k]?=some c:=⟨_,aak bd⟩;have dc:=jn cp;have c1:s.drop k=c2::s.drop (k+1):=by
        rw[aaK bd];rw[aak bd]at cp;rw[aaZ cp]
       apply RG;simp only[go_sem,iv,bi,h9,dc];refine⟨ab,?_⟩;refine WZ rfl QS (Tz _ _) fun v H2 hv=>?_;obtain⟨rfl,rfl⟩:=hv;cases hp:gu (bZ c2)
       ·have h0:dE (s.drop k)=0:=by rw[c1,dE,hp];rfl
        apply bL 4;simp only[go_sem,iv];exact b1 k _ _ bM (by simp only[go_sem,aa6,y0]) ⟨rfl,ab⟩
       ·apply RG;simp only[go_sem,iv,e1];exact b3 (k+1) _ _ ab bM (by simp only[go_sem,aa6,y0]) ⟨rfl,ab,bd,by rw[hr,c1,dE,hp];simp;omega⟩
      ·have:k=s.length:=by omega
       subst this;have h9:=Z6 s.length;have h0:dE (s.drop s.length)=0:=by rw[abH];rfl
       apply bL 16;simp only[go_sem,iv,bi,h9];exact b1 s.length _ _ bM (by simp only[go_sem,aa6,y0]) ⟨rfl,ab⟩
     ·rintro k H ⟨rfl,rfl⟩;simp only[y0];have eR:(i+dE (s.drop i))-i=dE (s.drop i):=by omega
      have dd:=wO (s.drop i);rw[abD]at dd;apply RG;simp only[go_sem,iv,bi,oJ,eR,hb];refine⟨ab,?_⟩;refine WZ rfl AY (AV _ _) fun v H2 hv=>?_;obtain⟨rfl,rfl⟩:=hv;have cy:((s.drop i).take (dE (s.drop i))).length<2^60:=by rw[abF,abD];omega
      have b6:(s.drop i).take (dE (s.drop i))≠[]:=by rw[bs,wy b2];simp
      cases cd:lw (bZ c)
      ·have b4:rd (s.drop i)=(1,(s.drop i).take (dE (s.drop i))):=by unfold rd;rw[cr,b2,cd];rfl
       refine dP ?_;refine WZ rfl Pk (Lr _ cy _) fun v H2 hv=>?_;obtain⟨rfl,rfl⟩:=hv;have aS:=Ef (s:=s.drop (i+1)) b2 cd;rw[<-bs]at aS;cases b7:xJ ((s.drop i).take (dE (s.drop i)))
       ·rw[b7,ZV bg]at aS;rw[aS,aaq rfl]at a1;refine dP ?_;refine bf an [1,0] fun a4=>?_;refine bf a4 [0,1] fun ak=>?_;refine ae (c:=.st _) ak fun I9 ak aq cb=>?_;refine bf ak [0] fun aj=>?_;refine ae (c:=.st _) aj fun c3 aj am cc=>?_;refine aT ?_;refine af rfl aj (r:=[_,_,_]) rfl (abV a3 (abV a7 (abV ag (abV aq am)))) ?_;unfold gd;rw[b5,a1];exact⟨rfl,rfl⟩
       ·rw[b7,aaq rfl]at aS;apply bL 16;simp only[go_sem,iv];refine fD (σ':=xM s (.slice aa (l.map cY).length ac) (.slice ba ats.length bc) i mb (1,(s.drop i).take (dE (s.drop i)))) ?_ ?_ ?_
        ·exact bM
        ·exact(by simp only[go_sem,aa6,xM,iv])
        ·rw[b4]at a2;exact a2 (by rw[aS,ZV b6])
      ·have b4:rd (s.drop i)=(2,(s.drop i).take (dE (s.drop i))):=by unfold rd;rw[cr,b2,cd];rfl
       refine dP ?_;refine WZ rfl Q0 (EW _ cy _) fun v H2 hv=>?_;obtain⟨rfl,rfl⟩:=hv;have aS:=Bo (s:=s.drop (i+1)) b2 cd;rw[<-bs]at aS;cases b7:vH ((s.drop i).take (dE (s.drop i)))
       ·rw[b7,ZV bg]at aS;rw[aS,aaq rfl]at a1;refine dP ?_;refine bf an [1,0] fun a4=>?_;refine bf a4 [0,1] fun ak=>?_;refine ae (c:=.st _) ak fun I9 ak aq cb=>?_;refine bf ak [0] fun aj=>?_;refine ae (c:=.st _) aj fun c3 aj am cc=>?_;refine aT ?_;refine af rfl aj (r:=[_,_,_]) rfl (abV a3 (abV a7 (abV ag (abV aq am)))) ?_;unfold gd;rw[b5,a1];exact⟨rfl,rfl⟩
       ·rw[b7,aaq rfl]at aS;apply bL 6;simp only[go_sem,iv];refine fD (σ':=xM s (.slice aa (l.map cY).length ac) (.slice ba ats.length bc) i mb (2,(s.drop i).take (dE (s.drop i)))) ?_ ?_ ?_
        ·exact bM
        ·exact(by simp only[go_sem,aa6,xM,iv])
        ·rw[b4]at a2;exact a2 (by rw[aS,ZV b6])
   ·intro aS;simp only[xM];generalize c7:rd (s.drop i)=kt at aS;obtain⟨kd,tx⟩:=kt;simp only at aS;by_cases ci:tx=[]
    ·subst ci;rw[aaq rfl]at aS;rw[aS,aaq rfl]at a1;refine dP ?_;refine bf an [1,0] fun a4=>?_;refine bf a4 [0,1] fun ak=>?_;refine ae (c:=.st _) ak fun I9 ak aq cb=>?_;refine bf ak [0] fun aj=>?_;refine ae (c:=.st _) aj fun c3 aj am cc=>?_;refine aT ?_;refine af rfl aj (r:=[_,_,_]) rfl (abV a3 (abV a7 (abV ag (abV aq am)))) ?_;unfold gd;rw[b5,a1];exact⟨rfl,rfl⟩
    ·rw[ZV ci]at aS;have hq:(tx == ([]:bq))=false:=by simpa using ci
     have cA:(fS (s.drop i)).1≠0:=by
      rw[aS];intro h0;have h0:kd=0:=h0;have:(rd (s.drop i)).1≠0:=by unfold rd;split<;>(try split)<;>simp
      rw[c7]at this;exact this h0
     obtain⟨s1,s2,_,_⟩:=og cA;rw[ZV cA,aS]at a1;rw[aS]at s1 s2;simp only[abD]at s1 s2 a1;have cB:(l.map cY).length=l.length:=aah _;have e72:IntKind.i64.wrap ((i:Int)+(tx.length:Int))=((i+tx.length:Nat):Int):=by rw[<-wrap64 (n:=i+tx.length) ab];congr 1
     apply RG;simp only[go_sem,iv,hq];refine ax an (by exact Iw) rfl rfl rfl rfl rfl bg fun tb I6 a4 b0 c5=>?_;have hT:Sl DT I6 (.slice (some ⟨tb,0,none⟩) 1 1) [cY (kd,tx)]:=⟨_,_,rfl,.inr ⟨tb,0,[.int .u8 kd,.string ⟨⟨tx⟩⟩,.slice (some ⟨mb,0,none⟩) 1 1,.int .i64 0,.int .i64 0,.slice none 0 0],rfl,az c5 (by simp[aD,Value.cells]) (by simp[aD,Value.cells]),.one ⟨_,_,_,_,rfl,rfl,rfl,rfl,rfl⟩⟩⟩;refine dP ?_;refine bl (R:=DT) (xs:=l.map cY) (ys:=[cY (kd,tx)]) a4 (by exact Iw) (Ow.le (R:=DT) (fun{I J c a} h k=>h) hA (abV a7 (abV ag b0))) hT (fun{I J c a} h k=>h) (fun{I} c a h=>DT.len (I:=I) c a h) (fun{I} c a h=>DT.onesK (I:=I) h) rfl rfl rfl rfl (by rw[cB];simp only[aaj,aaO];omega) (by rw[cB];simp only[aaj,aaO];unfold maxLen;omega) fun ua uc I7 A7 ak aq dk=>?_;refine dP ?_;refine ax ak (by exact tz) rfl rfl rfl rfl rfl bg fun xb I8 aj am c4=>?_;have hX:Sl NQ I8 (.slice (some ⟨xb,0,none⟩) 1 1) [i]:=⟨_,_,rfl,.inr ⟨xb,0,[iv i],rfl,az c4 (by simp[aD,Value.cells]) (by simp[aD,Value.cells,iv]),.one rfl⟩⟩;refine dP ?_;refine bf aj [1,0] fun cm=>?_;have cx:=abV a7 (abV ag (abV b0 (abV aq am)));refine bl (R:=NQ) (xs:=ats) (ys:=[i]) cm (by exact tz) (Ue.le hB cx) hX (fun{I J c a} h k=>h) (fun{I} c a h=>by rw[show c=_ from h];rfl) (fun{I} c a h=>by rw[show c=_ from h];rfl) rfl rfl rfl rfl (by simp only[aaj,aaO];omega) (by simp only[aaj,aaO];unfold maxLen;omega) fun wa wc I9 B9 cl bF dj=>?_;apply RG;simp only[go_sem,iv,bi,e72];refine bf cl [1,0] fun cj=>?_
     refine ao (i+tx.length,.slice ua (l.map cY++[cY (kd,tx)]).length uc,.slice wa (ats++[i]).length wc) _ _ dt gP (by simp only[go_sem,aa6,ur]) ⟨I9,A7,B9,l++[(kd,tx)],ats++[i],rfl,cj,abV a3 (abV cx bF),by simp only;omega,?_,dj,by simp[cs],by simp only[aa9,aaj,aaO];omega,?_⟩
     ·simp only;rw[abP];exact Ow.le (R:=DT) (fun{I J c a} h k=>h) dk (abV am bF)
     ·simp only;rw[a1,Option.map_map,aa3];congr 1;funext z;simp
 ·have:i=s.length:=by omega
  subst this;have a5:=Z6 s.length;rw[abH,mP]at a1;refine bf ca [1,0] fun b8=>?_;refine bf b8 [0,1] fun an=>?_;refine ae an fun I9 an ag ct=>?_;apply RG;simp only[go_sem,iv,bi,a5];refine af rfl an (r:=[_,_,_]) rfl (abV a3 ag) ?_;unfold gd;rw[b5,a1];exact⟨A1,_,_,rfl,rfl,by simpa using Ow.le (R:=DT) (fun{I J c a} h k=>h) hA ag⟩
def qV(s:bq):Nat:=match rI s with
 |none=>4
 |some l=>if l.length>256 then 5 else 0
def Ge(s:bq)(v:Value)(I2:PH)(qs:List PH):Prop:=match wX s with
 |none=>v=.tuple #[.slice none 0 0,iv (qV s)]/\qs=[]/\qV s≠0
 |some l=>∃A va,v=.tuple #[va,iv 0]/\qs=[A]/\yJ I2 A va (l.map cY)/\qV s=0
def x0(s:bq)(v:Value)(I2:PH)(qs:List PH):Prop:=match wX s with
 |none=>v=.tuple #[.slice none 0 0,iv (qV s)]/\qs=[]
 |some l=>∃A va,v=.tuple #[va,iv 0]/\qs=[A]/\G6 I2 A va (l.map cY)
def Gu{s:bq}(hl:s.length<2^40)(hV:ir I):aK Tryz.prog 82 #[.string ⟨⟨s⟩⟩] I [] (Ge s):=by
 intro hd;refine ah 21 Tryz.func82 fun w0=>?_;refine aT ?_;refine bV hd rfl OE (TK hl hV) fun v I2 qs aj ag hq=>?_;unfold zU at hq;unfold Ge wX qV;cases hx:rI s with
 |none=>
  rw[hx]at hq;obtain⟨rfl,rfl⟩:=hq;refine aT ?_;exact af rfl aj (r:=[_,_]) rfl ag ⟨rfl,rfl,by decide⟩
 |some l=>
  rw[hx]at hq;obtain⟨A,va,vb,rfl,rfl,hA⟩:=hq;simp only[Z3]at aj |-;obtain⟨aa,ac,rfl⟩:=hA.shape;simp only[aah];rcases aaf 256 l.length with h|h
  ·have am:decide ((l.length:Int)>256)=true:=abU ab;refine bf aj [0] fun al=>?_;refine ae al fun I3 al ak an=>?_;apply RG;simp only[go_sem,aah,am];exact af rfl al (r:=[_,_]) rfl (abV ag ak) (by rw[aaq h,aaq h];exact⟨rfl,rfl,by decide⟩)
  ·have am:decide ((l.length:Int)>256)=false:=abT ab;apply RG;simp only[go_sem,aah,am];exact af rfl aj (r:=[_,_]) rfl ag (by rw[ZV (Nat.not_lt.2 h),ZV (Nat.not_lt.2 h)];exact⟨A,_,rfl,rfl,by rw[<-aah (f:=cY)];exact hA,rfl⟩)
def yY{s:bq}(hl:s.length<2^40):aK Tryz.prog 29 #[.string ⟨⟨s⟩⟩] I [] (x0 s):=by
 intro hd;refine ah 19 Tryz.func29 fun w0=>?_;refine aT ?_;refine bV hd rfl FX (ED hl) fun v I2 qs aj ag hq=>?_;unfold gd at hq;unfold x0 wX qV;cases hx:rI s with
 |none=>
  rw[hx]at hq;obtain⟨rfl,rfl⟩:=hq;refine aT ?_;exact af rfl aj (r:=[_,_]) rfl ag ⟨rfl,rfl⟩
 |some l=>
  rw[hx]at hq;obtain⟨A,va,vb,rfl,rfl,hA⟩:=hq;simp only[Z3]at aj |-;obtain⟨aa,ac,rfl⟩:=hA.shape;simp only[aah];rcases aaf 256 l.length with h|h
  ·have am:decide ((l.length:Int)>256)=true:=abU ab;refine bf aj [0] fun al=>?_;refine ae al fun I3 al ak an=>?_;apply RG;simp only[go_sem,aah,am];exact af rfl al (r:=[_,_]) rfl (abV ag ak) (by rw[aaq h,aaq h];exact⟨rfl,rfl⟩)
  ·have am:decide ((l.length:Int)>256)=false:=abT ab;apply RG;simp only[go_sem,aah,am];exact af rfl aj (r:=[_,_]) rfl ag (by rw[ZV (Nat.not_lt.2 h)];exact⟨A,_,rfl,rfl,by rw[<-aah (f:=cY)];exact hA⟩)
def l8(ix:List Nat)(en:Nat)(s:PS)(code:Nat):PS:=if s.bad then s else ⟨s.pos,s.opn,true,code,vW ix en s.pos⟩
variable{s:PS}{lv xv:Value}{ix:List Nat}{F:List Syn.Tok}{pb en:Nat}
theorem o6{code:Nat}(hI:gL I F ix lv xv)(ha:s.pos<=F.length):
  aK Tryz.prog 132 #[pt pb,.int .u8 code] I [sg pb (bG lv xv en s)] fun v I2 qs=>qs=[sg pb (bG lv xv en (l8 ix en s code))]/\I2=I:=by
 intro hd;have ag:=hI.len;obtain⟨la,lc,rfl,_⟩:=id hI.tok;obtain⟨xa,xc,rfl,_⟩:=id hI.idx;refine ah 40 Tryz.func132 fun w0=>?_
 try simp only[pt]
 refine aT ?_;refine XN (l:=[.bool s.bad]) rfl (qQ hd) (.inr ⟨Ep,rfl⟩) ?_;cases hb:s.bad
 rotate_left
 ·have hf:l8 ix en s code=s:=by unfold l8;rw[aaq hb]
  refine aT ?_;exact af rfl hd (r:=[]) rfl (abW _) ⟨by rw[hf],rfl⟩
 have hf:l8 ix en s code=⟨s.pos,s.opn,true,code,vW ix en s.pos⟩:=by unfold l8;rw[ZV (by rw[hb];decide)]
 refine aT ?_;refine bw hd rfl rfl rfl rfl rfl (by exact Yp) (by simp) fun an=>?_;refine aT ?_;refine bw an rfl rfl rfl rfl rfl (by exact Wb) (by simp) fun am=>?_;refine aT ?_;have al:Dj [I,sg pb (bG (.slice la F.length lc) (.slice xa ix.length xc) en ⟨s.pos,s.opn,true,code,s.tok⟩)]:=am;show RC _ _ _ (U [I,sg pb (bG (.slice la F.length lc) (.slice xa ix.length xc) en ⟨s.pos,s.opn,true,code,s.tok⟩)]);refine ad al [0] [sg pb _] [] rfl km rfl (qU (s:=⟨s.pos,s.opn,true,code,s.tok⟩) hI ha) fun v I2 qs ac aj hq=>?_;obtain⟨rfl,rfl,rfl⟩:=hq;simp only[Z3]at ac |-;refine dP ?_;refine bw ac rfl rfl rfl rfl rfl (by exact uZ) (by simp) fun ak=>?_;have aa:Dj [I2,sg pb (bG (.slice la F.length lc) (.slice xa ix.length xc) en ⟨s.pos,s.opn,true,code,vW ix en s.pos⟩)]:=ak;show RC _ _ _ (U [I2,sg pb (bG (.slice la F.length lc) (.slice xa ix.length xc) en ⟨s.pos,s.opn,true,code,vW ix en s.pos⟩)]);have m0:aP (U [I2,sg pb (bG (.slice la F.length lc) (.slice xa ix.length xc) en ⟨s.pos,s.opn,true,code,vW ix en s.pos⟩)]) pb 0 [.slice la F.length lc]:=qQ aa;have m3:aP (U [I2,sg pb (bG (.slice la F.length lc) (.slice xa ix.length xc) en ⟨s.pos,s.opn,true,code,vW ix en s.pos⟩)]) pb 3 [iv s.pos]:=qQ aa;refine aT ?_;refine eP [0,1,2,3,4,5,6,7,8,9,10,11,12,13,14,15,16] [3,7,14] [] ?_;refine gw ?_;refine W7 (l:=[iv s.pos]) rfl m3 (.inr ⟨jq,rfl⟩) ?_;refine dS ?_;refine W7 (l:=[.slice la F.length lc]) rfl m0 (.inr ⟨Db,rfl⟩) ?_;cases h1:decide ((s.pos:Int)<(F.length:Int))
 ·apply au;simp only[go_sem,iv,h1];refine aw ?_;refine aT ?_;exact d8 rfl aa (r:=[]) rfl (abW _) ⟨by rw[hf],rfl⟩
 ·have ao:=abl h1;have h2:decide ((s.pos:Int)>=16384)=false:=abT ab;apply au;simp only[go_sem,iv,h1];refine W7 (l:=[iv s.pos]) rfl m3 (.inr ⟨jq,rfl⟩) ?_;apply au;simp only[go_sem,iv,h2];refine aw ?_;refine aT ?_;exact d8 rfl aa (r:=[]) rfl (abW _) ⟨by rw[hf],rfl⟩
def i8(F:List Syn.Tok)(ix:List Nat)(en:Nat)(s:PS)(x:bq):PS:=if mB F s.pos=x then { s with pos:=s.pos+1 } else l8 ix en s 10
variable{x:bq}
theorem f8(hI:gL I F ix lv xv)(ha:s.pos<=F.length):
  aK Tryz.prog 191 #[pt pb,.string ⟨⟨x⟩⟩] I [sg pb (bG lv xv en s)] fun v I2 qs=>qs=[sg pb (bG lv xv en (i8 F ix en s x))]:=by
 intro hd;have aj:=hI.len;refine ah 17 Tryz.func191 fun w0=>?_
 try simp only[pt]
 refine aT ?_;refine ad hd [0] [sg pb _] [] rfl dq rfl (eN hI ha) fun v I2 qs ag aa hq=>?_;obtain⟨rfl,rfl⟩:=hq;simp only[Z3]at ag |-;cases h:(mB F s.pos == x)
 ·have hs:i8 F ix en s x=l8 ix en s 10:=by unfold i8;rw[ZV (by simpa using h)]
  apply RG;simp only[go_sem,h,abK];refine ad ag [0] [sg pb _] [] rfl l4 rfl (o6 (code:=10) (hI.le aa) ha) fun v I3 qs ac ak hq=>?_;obtain⟨rfl,rfl⟩:=hq;simp only[Z3]at ac |-;refine aT ?_;exact af rfl ac (r:=[]) rfl aa (by rw[hs])
 ·have hs:i8 F ix en s x={ s with pos:=s.pos+1 }:=by unfold i8;rw[aaq (by simpa using h)]
  have e1:IntKind.i64.wrap ((s.pos:Int)+1)=((s.pos+1:Nat):Int):=by rw[<-wrap64 (n:=s.pos+1) ab];congr 1
  apply RG;simp only[go_sem,h,abQ];refine XN (l:=[iv s.pos]) rfl (qQ ag) (.inr ⟨jq,rfl⟩) ?_;apply RG;simp only[go_sem,iv,e1];refine bw ag rfl rfl rfl rfl rfl (by exact uZ) (by simp) fun ac=>?_;refine aT ?_;exact d8 rfl ac (r:=[]) rfl aa (by rw[hs];rfl)
def jL(F:List Syn.Tok)(ix:List Nat)(en:Nat)(s:PS)(x:bq):PS:=if mB F s.pos=x then (if s.opn>=64 then l8 ix en s 11 else ⟨s.pos+1,IntKind.i64.wrap (s.opn+1),s.bad,s.code,s.tok⟩)else l8 ix en s 10
theorem si(hI:gL I F ix lv xv)(ha:s.pos<=F.length):
  aK Tryz.prog 194 #[pt pb,.string ⟨⟨x⟩⟩] I [sg pb (bG lv xv en s)] fun v I2 qs=>qs=[sg pb (bG lv xv en (jL F ix en s x))]:=by
 intro hd;have ak:=hI.len;refine ah 31 Tryz.func194 fun w0=>?_
 try simp only[pt]
 refine aT ?_;refine ad hd [0] [sg pb _] [] rfl dq rfl (eN hI ha) fun v I2 qs ag aa hq=>?_;obtain⟨rfl,rfl⟩:=hq;simp only[Z3]at ag |-;cases h:(mB F s.pos == x)
 ·have hs:jL F ix en s x=l8 ix en s 10:=by unfold jL;rw[ZV (by simpa using h)]
  apply RG;simp only[go_sem,h,abK];refine ad ag [0] [sg pb _] [] rfl l4 rfl (o6 (code:=10) (hI.le aa) ha) fun v I3 qs ac aj hq=>?_;obtain⟨rfl,rfl⟩:=hq;simp only[Z3]at ac |-;refine aT ?_;exact af rfl ac (r:=[]) rfl aa (by rw[hs])
 ·apply RG;simp only[go_sem,h,abQ];refine XN (l:=[.int .i64 s.opn]) rfl (qQ ag) (.inr ⟨jq,rfl⟩) ?_;cases h2:decide (s.opn>=64)
  rotate_left
  ·have hs:jL F ix en s x=l8 ix en s 11:=by unfold jL;rw[aaq (by simpa using h),aaq (abl h2)]
   apply RG;simp only[go_sem,h2];refine ad ag [0] [sg pb _] [] rfl l4 rfl (o6 (code:=11) (hI.le aa) ha) fun v I3 qs ac aj hq=>?_;obtain⟨rfl,rfl⟩:=hq;simp only[Z3]at ac |-;refine aT ?_;exact af rfl ac (r:=[]) rfl aa (by rw[hs])
  ·have hs:jL F ix en s x=⟨s.pos+1,IntKind.i64.wrap (s.opn+1),s.bad,s.code,s.tok⟩:=by unfold jL;rw[aaq (by simpa using h),ZV (abN h2)]
   have e1:IntKind.i64.wrap ((s.pos:Int)+1)=((s.pos+1:Nat):Int):=by rw[<-wrap64 (n:=s.pos+1) ab];congr 1
   apply RG;simp only[go_sem,h2];refine XN (l:=[.int .i64 s.opn]) rfl (qQ ag) (.inr ⟨jq,rfl⟩) ?_;refine aT ?_;refine bw ag rfl rfl rfl rfl rfl (by exact uZ) (by simp) fun ac=>?_;refine aT ?_;refine XN (l:=[iv s.pos]) rfl (cellsU ac (.tail _ (.head _)) (ay (by simp[br]) rfl)) (.inr ⟨jq,rfl⟩) ?_;apply RG;simp only[go_sem,iv,e1];refine bw ac rfl rfl rfl rfl rfl (by exact uZ) (by simp[br]) fun al=>?_;refine aT ?_;exact d8 rfl al (r:=[]) rfl aa (by rw[hs];rfl)
def Fu(F:List Syn.Tok)(ix:List Nat)(en:Nat)(s:PS)(x:bq):PS:={ i8 F ix en s x with opn:=IntKind.i64.wrap ((i8 F ix en s x).opn-1) }
def n9(hI:gL I F ix lv xv)(ha:s.pos<=F.length):
  aK Tryz.prog 196 #[pt pb,.string ⟨⟨x⟩⟩] I [sg pb (bG lv xv en s)] fun v I2 qs=>qs=[sg pb (bG lv xv en (Fu F ix en s x))]:=by
 intro hd;refine ah 14 Tryz.func196 fun w0=>?_
 try simp only[pt]
 refine aT ?_;refine ad hd [0] [sg pb _] [] rfl eB rfl (f8 hI ha) fun v I2 qs ac aa hq=>?_;obtain rfl:=hq;simp only[Z3]at ac |-;refine aT ?_;refine XN (l:=[.int .i64 (i8 F ix en s x).opn]) rfl (qQ ac) (.inr ⟨jq,rfl⟩) ?_;refine aT ?_;refine bw ac rfl rfl rfl rfl rfl (by exact uZ) (by simp) fun ag=>?_;refine aT ?_;exact d8 rfl ag (r:=[]) rfl aa rfl
end Go.Proofs.YtfaclfkpnmcmlaaGreatDoor
namespace Syn
open Dg
section
variable {c:bP} {ts:List Tok}
def Rz(p:Nat):nx c ts p<=nx c ts (p+1):=by
 unfold nx;cases h:ts.drop p with
 |nil=>
  have e:ts.drop (p+1)=[]:=by rw[<-aa3,h];rfl
  rw[e];simp[lm]
 |cons t l=>
  have e:ts.drop (p+1)=l:=by rw[<-aa3,h];rfl
  rw[e];simp only[lm];split
  ·have:=(kz c l (p+1)).1;omega
  ·exact ZR _
def x9:∀(l:List Tok) (i:Nat),lm c l i<=i+l.length
 | [],i=>ZR _
 |t::l,i=>by
  have:=x9 l (i+1);simp only[lm,aaj];split<;>omega
def yI{p:Nat}(h:p<=ts.length):nx c ts p<=ts.length:=by
 have:=x9 (c:=c) (ts.drop p) p;rw[abD]at this;unfold nx;omega
def F2(c:bP)(ts:List Tok)(p:Option Nat)(e:List (Nat×Int))(t:Nat):Prop:=
 (e=[]/\∃j,p=some j/\nx c ts j=t)\/(p=none/\∃k,e=[(k,(t:Int))]/\nx c ts t=t/\(k=10\/k=11/\t<ts.length))
def be(c:bP)(ts:List Tok)(s p:Option Nat)(e:List (Nat×Int)):Prop:=
 match s with
 |none=>p=none/\e=[]
 |some s=>∃t,F2 c ts p e t/\nx c ts s<=t/\(s<=ts.length->t<=ts.length/\∀j,p=some j->j<=ts.length)
def be.self(p:Option Nat):be c ts p p []:=by
 cases p with
 |none=>exact⟨rfl,rfl⟩
 |some j=>exact⟨_,.inl ⟨rfl,j,rfl,rfl⟩,ZR _,fun h=>⟨yI h,fun _ e=>by cases e;exact h⟩⟩
def be.err{i k:Nat}(h:nx c ts i=i)(hk:k=10\/k=11/\i<ts.length):be c ts (some i) none [(k,(i:Int))]:=⟨i,.inr ⟨rfl,k,rfl,h,hk⟩,Nat.le_of_eq h,fun h=>⟨h,fun j e=>by cases e⟩⟩
variable{e:List (Nat×Int)}{p:Option Nat}
def be.ofN{s:Option Nat}(h:be c ts (s.map (nx c ts)) p e):be c ts s p e:=by
 cases s with
 |none=>exact h
 |some s=>obtain⟨t,h1,h2,h3⟩:=h;rw[ce]at h2;exact⟨t,h1,h2,fun h=>h3 (yI h)⟩
def be.up{s:Option Nat}(hs:Lt ts.length s)(h:be c ts (s.map (·+1)) p e):be c ts s p e:=by
 cases s with
 |none=>exact h
 |some s=>obtain⟨t,h1,h2,h3⟩:=h;exact⟨t,h1,ZS (Rz s) h2,fun _=>h3 (hs s rfl)⟩
def be.next{i:Nat}(hi:i<ts.length):be c ts (some i) (some (i+1)) []:=be.up (s:=some i) (Lt.of hi) (be.self (some (i+1)))
def be.seq{s q:Option Nat}{f:List (Nat×Int)}(h:be c ts s p e)(k:be c ts p q f):be c ts s q (e++f):=by
 cases s with
 |none=>
  obtain⟨rfl,rfl⟩:=h;exact k
 |some s=>
  obtain⟨t,h1,h2,h4⟩:=h;rcases h1 with ⟨rfl,j,rfl,h3⟩|⟨rfl,x,rfl,h3⟩
  ·obtain⟨u,k1,k2,k3⟩:=k;exact⟨u,k1,ab,fun h=>k3 ((h4 h).2 j rfl)⟩
  ·obtain⟨rfl,rfl⟩:=k;exact⟨t,.inr ⟨rfl,x,rfl,h3⟩,h2,fun h=>⟨(h4 h).1,fun j e=>by cases e⟩⟩
def be.side{x g:Option Nat}(hx:x=none\/g=none)(h:be c ts x p e):be c ts (x.or g) (p.or g) e/\(p=none\/g=none):=by
 rcases hx with rfl|rfl
 ·obtain⟨rfl,rfl⟩:=h;exact⟨be.self g,.inl rfl⟩
 ·rw[Option.or_none,Option.or_none];exact⟨h,.inr rfl⟩
def tj{x y:Option Nat}(h:x=none\/y=none):x.or y=y.or x:=by
 rcases h with rfl|rfl<;>simp
def jz(p:Option Nat)(is:Nat->Bool):qz c ts p is=none\/(qz c ts p fun i=>!is i)=none:=by
 unfold qz;cases p.map (nx c ts)with
 |none=>exact .inl rfl
 |some i=>cases h:is i<;>simp[Option.filter,h]
def rE(p:Option Nat)(is:Nat->Bool):(qz c ts p is).or (qz c ts p fun i=>!is i)=p.map (nx c ts):=by
 unfold qz;cases p.map (nx c ts)with
 |none=>rfl
 |some i=>cases h:is i<;>simp[Option.filter,h]
def sr(p:Option Nat)(is:Nat->Bool):(qz c ts p fun i=>!is i).or (qz c ts p is)=p.map (nx c ts):=by
 rw[tj ((jz p is).symm),rE]
def be.fork1{q:Option Nat}{s:bq}(hs:s≠[])(h:be c ts (((qz c ts p (pi ts s)).map (·+1)).or (qz c ts p fun i=>!pi ts s i)) q e):be c ts p q e:=by
 refine be.ofN ?_;rw[<-rE p (pi ts s)];have hl:=sG (c:=c) (ts:=ts) (p:=p) hs;rcases jz (c:=c) (ts:=ts) p (pi ts s)with x|x
 ·rw[x]at h |-;exact h
 ·rw[x]at h |-;rw[Option.or_none]at h |-;exact be.up hl h
def DN{i k kd s:Nat}{is:Nat->Bool}(h:qz c ts (aI ts c (some i) kd s).p is=some k):i<=k:=by
 have h0:=rh c ts i;unfold aI at h;simp only[Z9]at h;split at h
 ·cases h
 ·unfold qz at h;have h:=(Option.filter_eq_some_iff.1 h).1;simp only[Z9,ZW]at h;have:=rh c ts (nx c ts i+1);omega
def PU(c:bP)(ts:List Tok)(p:Option Nat):Prop:=∀j,p=some j->nx c ts j=j
def pJ(p:Option Nat)(is:Nat->Bool):PU c ts (qz c ts p is):=by
 intro j h;unfold qz at h;have h:=(Option.filter_eq_some_iff.1 h).1;cases p with
 |none=>cases h
 |some i=>cases h;exact ce c ts i
def By(p:Option Nat):PU c ts (p.map (nx c ts)):=by
 intro j h;cases p with
 |none=>cases h
 |some i=>cases h;exact ce c ts i
def kw(p:Option Nat){s:bq}(hs:s≠[]):be c ts p (aW ts c p s).1 (aW ts c p s).2:=by
 refine be.ofN ?_;unfold aW;have hn:=By (c:=c) (ts:=ts) p;generalize p.map (nx c ts)=w at hn |-;cases w with
 |none=>exact⟨rfl,rfl⟩
 |some i=>
  simp only;split
  ·rename_i h;exact be.next (gx (by rw[h];exact hs))
  ·exact be.err (hn i rfl) (.inl rfl)
def oX(p:Option Nat)(k s:Nat):be c ts p (aI ts c p k s).p (aI ts c p k s).e:=by
 refine be.ofN ?_;unfold aI;have hn:=By (c:=c) (ts:=ts) p;generalize p.map (nx c ts)=w at hn |-;cases w with
 |none=>exact⟨rfl,rfl⟩
 |some i=>
  simp only;split
  ·exact be.err (hn i rfl) (.inl rfl)
  ·rename_i h;exact be.next (DO fun h2=>h (.inl (by rw[h2];decide)))
def yp(p:Option Nat)(s:Nat):be c ts p (bI ts c p s).p (bI ts c p s).e:=by
 refine be.ofN ?_;unfold bI;have hn:=By (c:=c) (ts:=ts) p;generalize p.map (nx c ts)=w at hn |-;cases w with
 |none=>exact⟨rfl,rfl⟩
 |some i=>
  simp only;split
  ·exact be.err (hn i rfl) (.inl rfl)
  ·rename_i h;exact be.next (gx fun h2=>h (by rw[h2];exact⟨by decide,by decide⟩))
end
section
variable {c:bP} {ts:List Tok}
def HH:dB->Option Nat
 | .line _ _ p _=>p
 | .lineL _ _ _ _ _ g out=>g.or out
 | .lineO _ _ _ op _ g=>op.or g
 | .unary _ p _=>p
 | .unaryH _ i _=>i
 | .calls _ _ _ x _ g=>x.or g
 | .inside _ p _=>p
 | .listed _ _ p=>p
 | .listL _ _ _ g fin=>g.or fin
 | .item _ _ p=>p
 | .behind _ _ p _ _=>p
 | .vrb _ p=>p
 | .function _ p=>p
 | .block _ p _=>p
 | .seqL _ _ p _ out=>p.or out
 | .stmt _ i=>i
 | .sCalls _ _ x _ g=>x.or g
 | .branch _ i _=>i
 | .elses _ x _ out=>x.or out
 | .ifs _ y _ out=>y.or out
def LL(c:bP)(ts:List Tok):dB->Prop
 | .lineL _ _ _ _ _ g out=>g=none\/out=none
 | .lineO _ _ _ op _ g=>(op=none\/g=none)/\PU c ts op/\Lt ts.length op
 | .unaryH _ i _=>PU c ts i
 | .calls _ i _ x _ g=>(x=none\/g=none)/\PU c ts x/\∀k,x=some k->∃j,i=some j/\j<=k
 | .listL _ _ _ g fin=>g=none\/fin=none
 | .behind _ _ _ s _=>s≠[]
 | .seqL _ _ p _ out=>p=none\/out=none
 | .stmt _ i=>PU c ts i
 | .sCalls _ i x _ g=>(x=none\/g=none)/\PU c ts x/\∀k,x=some k->∃j,i=some j/\j<=k
 | .branch _ i _=>Lt ts.length i
 | .elses _ x _ out=>(x=none\/out=none)/\Lt ts.length x
 | .ifs _ y _ out=>(y=none\/out=none)/\PU c ts y/\Lt ts.length y
 |_=>True
theorem opn{p k:Nat}{s:bq}{a:Option PR}{q:PR}(hs:s≠[])(hk:Lt ts.length (some (nx c ts p))->a=some q->be c ts (some (nx c ts p)) q.p q.e)
  (e:(if X ts (nx c ts p)≠s then some ⟨[],none,[(10,((nx c ts p:Nat):Int))]⟩else if k=64 then some ⟨[],none,[(11,((nx c ts p:Nat):Int))]⟩else a)=some q):be c ts (some (nx c ts p)) q.p q.e:=by
 have hn:=ce c ts p;split at e
 ·cases e
  exact be.err hn (.inl rfl)
 ·rename_i h1;have hl:nx c ts p<ts.length:=gx (by rw[Classical.not_not.1 h1];exact hs);split at e
  ·cases e
   exact be.err hn (.inr ⟨rfl,hl⟩)
  ·exact hk (Lt.of hl) e
def tK{r:oS}(H:∀x q,r x=some q->LL c ts x->be c ts (HH x) q.p q.e):∀x q,aC c ts r x=some q->LL c ts x->be c ts (HH x) q.p q.e:=by
 intro x q e w;cases x with
 |line k o p slot=>
  simp only[aC,ni]at e |-;split at e
  ·exact(H _ _ e trivial :)
  ·obtain⟨a,ha,e⟩:=dh e;obtain⟨b,hb,e⟩:=dh e;cases e
   have b1:be c ts (a.p.or none) b.p b.e:=H _ _ hb (.inr rfl);rw[Option.or_none]at b1;exact be.seq (H _ _ ha trivial :) b1
 |lineL k o slot first l g out=>
  simp only[aC,lP]at e |-;cases g with
  |none=>cases e;exact be.self out
  |some p=>
   obtain rfl:out=none:=w.resolve_left (by simp);simp only at e |-;split at e
   ·cases e;exact be.self (some p)
   ·obtain⟨a,ha,e⟩:=dh e;obtain⟨b,hb,e⟩:=dh e;cases e
    have a1:be c ts ((qz c ts (some p) (gK ts k)).or none) a.p a.e:=H _ _ ha ⟨.inr rfl,pJ _ _,BG⟩;rw[Option.or_none]at a1;obtain⟨s1,s2⟩:=be.side (jz (c:=c) (ts:=ts) (some p) (gK ts k)) a1;rw[rE]at s1;exact s1.ofN.seq (H _ _ hb s2)
 |lineO k o slot op l g=>
  simp only[aC,pY]at e |-;cases op with
  |none=>cases e;exact be.self g
  |some i=>
   obtain rfl:g=none:=w.1.resolve_left (by simp);obtain⟨a,ha,e⟩:=dh e;cases e
   exact be.up (s:=some i) w.2.2 (H _ _ ha trivial :)
 |unary o p slot=>exact be.ofN (H _ _ (show r (.unaryH o (p.map (nx c ts)) slot)=some q from e) (By p))
 |unaryH o i slot=>
  simp only[aC,fZ]at e |-;cases i with
  |none=>cases e;exact⟨rfl,rfl⟩
  |some i=>
   have hn:=w i rfl;simp only at e |-;split at e
   ·rename_i h1;have hl:i<ts.length:=gx (by rcases h1 with h|h<;>rw[h]<;>decide);split at e
    ·cases e
     exact be.err hn (.inr ⟨rfl,hl⟩)
    ·obtain⟨a,ha,e⟩:=dh e;cases e
     exact be.up (s:=some i) (Lt.of hl) (H _ _ ha trivial :)
   split at e
   ·exact(H _ _ e trivial :)
   split at e
   ·rename_i h3;cases e
    exact be.next (DO (by rw[h3];decide))
   split at e
   ·rename_i h4;cases e
    exact be.next (gx (by rcases h4 with h|h<;>rw[h]<;>decide))
   split at e
   ·rename_i h5;cases e
    exact be.next (gx (by rw[h5];decide))
   obtain⟨b,hb,e⟩:=dh e;cases e
   have b1:be c ts ((qz c ts (aI ts c (some i) 18 slot).p (pi ts eM)).or (qz c ts (aI ts c (some i) 18 slot).p fun i=>!pi ts eM i)) b.p b.e:=H _ _ hb ⟨jz _ _,pJ _ _,fun k hk=>⟨i,rfl,DN hk⟩⟩;rw[rE]at b1;exact(oX (some i) 18 slot).seq b1.ofN
 |calls o i slot x names g=>
  simp only[aC,nY]at e |-;obtain⟨w1,w2,w3⟩:=w;cases x with
  |none=>
   have hq:q=⟨names,g,[]⟩:=by cases i<;>(cases e;rfl)
   subst hq;exact be.self g
  |some k=>
   obtain⟨j,rfl,hj⟩:=w3 k rfl;obtain rfl:g=none:=w1.resolve_left (by simp);obtain⟨a,ha,e⟩:=dh e;cases e
   exact(H _ _ ha trivial :)
 |inside o p slot=>
  simp only[aC,il]at e |-;cases p with
  |none=>cases e;exact⟨rfl,rfl⟩
  |some p=>
   refine be.ofN (s:=some p) (opn (s:=eM) bg ?_ e);intro h e;obtain⟨a,ha,e⟩:=dh e;cases e
   exact(be.up (s:=some (nx c ts p)) h (H _ _ ha trivial :)).seq (kw a.p bg)
 |listed par o p=>
  simp only[aC,ij]at e |-;cases p with
  |none=>cases e;exact⟨rfl,rfl⟩
  |some p=>
   refine be.ofN (s:=some p) (opn (s:=eM) bg ?_ e);intro h e;obtain⟨a,ha,e⟩:=dh e;cases e
   have a1:be c ts ((qz c ts (some (nx c ts p+1)) fun i=>!pi ts fK i).or (qz c ts (some (nx c ts p+1)) (pi ts fK))) a.p a.e:=H _ _ ha (jz _ _).symm;rw[sr]at a1;exact(be.up (s:=some (nx c ts p)) h a1.ofN).seq (kw a.p bg)
 |listL par o l g fin=>
  simp only[aC,oU]at e |-;cases g with
  |none=>cases e;exact be.self fin
  |some p=>
   obtain rfl:fin=none:=w.resolve_left (by simp);obtain⟨a,ha,e⟩:=dh e;obtain⟨b,hb,e⟩:=dh e;cases e
   exact be.seq (H _ _ ha trivial :) (be.fork1 (s:=bB) bg (H _ _ hb ((jz (c:=c) (ts:=ts) a.p (pi ts bB)).imp (fun h=>by rw[h];rfl) id)))
 |item par o p=>
  simp only[aC,ro]at e |-;cases par with
  |true=>
   simp only[ZT]at e |-;cases e
   exact((oX p 4 0).seq (kw _ bg)).seq (yp _ 0)
  |false=>exact(H _ _ (show r (.line 0 o p 0)=some q from e) trivial :)
 |behind typ o p sign slot=>
  simp only[aC,kh]at e |-;obtain⟨a,ha,e⟩:=dh e;cases e
  have x:(qz c ts p (pi ts sign)).map (·+1)=none\/(qz c ts p fun i=>!pi ts sign i)=none:=(jz p (pi ts sign)).imp (fun h=>by rw[h];rfl) id;have ka:be c ts ((qz c ts p (pi ts sign)).map (·+1)) a.p a.e:=by
   unfold fy at ha;cases typ with
   |true=>
    simp only[ZT]at ha;cases ha
    exact yp _ slot
   |false=>exact H _ _ (show r (.line 0 o _ slot)=some a from ha) trivial
  obtain⟨s1,s2⟩:=be.side x ka;rw[tj s2.symm];exact be.fork1 w s1
 |vrb o p=>
  simp only[aC,gZ]at e |-;obtain⟨d,hd,e⟩:=dh e;cases e
  exact((((oX p 2 0).seq (kw _ bg)).seq (yp _ 0)).seq (H _ _ hd (by show su≠[];decide))).seq (kw d.p bg)
 |function o p=>
  simp only[aC,gY]at e |-;obtain⟨b,hb,e⟩:=dh e;obtain⟨d,hd,e⟩:=dh e;obtain⟨f,hf,e⟩:=dh e;cases e
  exact(((oX p 3 0).seq (H _ _ hb trivial :)).seq (H _ _ hd (by show bA≠[];decide))).seq (H _ _ hf trivial)
 |block o p slot=>
  simp only[aC,jI]at e |-;cases p with
  |none=>cases e;exact⟨rfl,rfl⟩
  |some p=>
   refine be.ofN (s:=some p) (opn (s:=Im) bg ?_ e);intro h e;obtain⟨a,ha,e⟩:=dh e;cases e
   exact(be.up (s:=some (nx c ts p)) h (H _ _ ha (.inr rfl))).seq (kw a.p bg)
 |seqL top o p l out=>
  simp only[aC,nE]at e |-;cases p with
  |none=>cases e;exact be.self out
  |some p=>
   obtain rfl:out=none:=w.resolve_left (by simp);simp only[Z9]at e |-;have hn:=ce c ts p;refine be.ofN (s:=some p) ?_;split at e
   ·cases e
    exact be.self _
   ·obtain⟨a,ha,e⟩:=dh e;obtain⟨b,hb,e⟩:=dh e;cases e
    have ka:be c ts (some (nx c ts p)) a.p a.e:=by
     unfold md at ha;cases top with
     |true=>
      simp only[ZT]at ha;unfold vF at ha;split at ha
      ·rename_i h2;exact be.up (s:=some (nx c ts p)) (Lt.of (gx (by rw[h2];decide))) (H _ _ ha trivial :)
      split at ha
      ·rename_i h5;exact be.up (s:=some (nx c ts p)) (Lt.of (gx (by rw[h5];decide))) (H _ _ ha trivial :)
      cases ha
      exact be.err hn (.inl rfl)
     |false=>exact(H _ _ ha (fun j hj=>by cases hj;exact hn) :)
    have b1:be c ts (a.p.or none) b.p b.e:=H _ _ hb (.inr rfl);rw[Option.or_none]at b1;exact ka.seq b1
 |stmt o i=>
  simp only[aC,gM]at e |-;cases i with
  |none=>cases e;exact⟨rfl,rfl⟩
  |some i=>
   have hn:=w i rfl;simp only at e |-;split at e
   ·rename_i h1;exact be.up (s:=some i) (Lt.of (gx (by rw[h1];decide))) (H _ _ e trivial :)
   split at e
   ·rename_i h2;exact(H _ _ e (Lt.of (gx (by rw[h2];decide))) :)
   split at e
   ·rename_i h3;obtain⟨a,ha,e⟩:=dh e;obtain⟨b,hb,e⟩:=dh e;cases e
    exact(be.up (s:=some i) (Lt.of (gx (by rw[h3];decide))) (H _ _ ha trivial :)).seq (H _ _ hb trivial :)
   split at e
   ·exact(H _ _ e trivial :)
   split at e
   ·rename_i h5;obtain⟨a,ha,e⟩:=dh e;cases e
    obtain⟨s1,s2⟩:=be.side (jz (c:=c) (ts:=ts) (some (i+1)) (pi ts a8)).symm (H _ _ ha trivial :);rw[sr]at s1;exact(be.up (s:=some i) (Lt.of (gx (by rw[h5];decide))) s1.ofN).seq (kw _ bg)
   split at e
   ·rename_i h6;obtain⟨a,ha,e⟩:=dh e;cases e
    exact(be.up (s:=some i) (Lt.of (gx (by rcases h6 with h|h<;>rw[h]<;>decide))) (H _ _ ha trivial :)).seq (kw a.p bg)
   obtain⟨b,hb,e⟩:=dh e;obtain⟨d,hd,e⟩:=dh e;cases e
   have n1:=oX (c:=c) (ts:=ts) (some i) 7 0;have aa:=fun k=>DN (c:=c) (ts:=ts) (i:=i) (k:=k) (kd:=7) (s:=0) (is:=pi ts eM);generalize aI ts c (some i) 7 0=a at n1 aa hb hd |-;obtain⟨s1,s2⟩:=be.side (jz (c:=c) (ts:=ts) a.p (pi ts eM)).symm ((kw (qz c ts a.p fun i=>!pi ts eM i) (s:=su) bg).seq (H _ _ hb trivial :));rw[sr]at s1;have d1:be c ts ((qz c ts a.p (pi ts eM)).or b.p) d.p d.e:=H _ _ hd ⟨s2.symm,pJ _ _,fun k hk=>⟨i,rfl,aa k hk⟩⟩;rw[tj s2.symm]at d1;have E:=((n1.seq s1.ofN).seq d1).seq (kw d.p (s:=a8) bg);simp only[<-aaT]at E;exact E
 |sCalls o i x l g=>
  simp only[aC,lu]at e |-;obtain⟨w1,w2,w3⟩:=w;cases x with
  |none=>
   have hq:q=⟨l,g,[]⟩:=by cases i<;>(cases e;rfl)
   subst hq;exact be.self g
  |some k=>
   obtain⟨j,rfl,hj⟩:=w3 k rfl;obtain rfl:g=none:=w1.resolve_left (by simp);obtain⟨a,ha,e⟩:=dh e;cases e
   exact(H _ _ ha trivial :)
 |branch o i slot=>
  simp only[aC,ku]at e |-;obtain⟨a,ha,e⟩:=dh e;obtain⟨b,hb,e⟩:=dh e;obtain⟨d,hd,e⟩:=dh e;cases e
  have d1:be c ts ((qz c ts b.p (pi ts dr)).or (qz c ts b.p fun i=>!pi ts dr i)) d.p d.e:=H _ _ hd ⟨jz _ _,sG bg⟩;rw[rE]at d1;exact((be.up w (H _ _ ha trivial :)).seq (H _ _ hb trivial :)).seq d1.ofN
 |elses o x l out=>
  simp only[aC,nP]at e |-;cases x with
  |none=>cases e;exact be.self out
  |some j=>
   obtain rfl:out=none:=w.1.resolve_left (by simp);obtain⟨a,ha,e⟩:=dh e;obtain⟨b,hb,e⟩:=dh e;cases e
   obtain⟨s1,s2⟩:=be.side (jz (c:=c) (ts:=ts) (some (j+1)) (pi ts kT)).symm (H _ _ ha trivial :);rw[sr]at s1;have b1:be c ts ((qz c ts (some (j+1)) (pi ts kT)).or a.p) b.p b.e:=H _ _ hb ⟨s2.symm,pJ _ _,sG bg⟩;rw[tj s2.symm]at b1;exact be.up (s:=some j) w.2 (s1.ofN.seq b1)
 |ifs o y l out=>
  simp only[aC,BV]at e |-;obtain⟨w1,w2,w3⟩:=w;cases y with
  |none=>cases e;exact be.self out
  |some j=>
   obtain rfl:out=none:=w1.resolve_left (by simp);simp only at e |-;split at e
   ·cases e
    exact be.err (w2 j rfl) (.inr ⟨rfl,w3 j rfl⟩)
   ·obtain⟨a,ha,e⟩:=dh e;cases e
    exact(H _ _ ha w3 :)
def tw:∀n x q,bS c ts n x=some q->LL c ts x->be c ts (HH x) q.p q.e
 |0=>fun x q e=>by cases e
 |n+1=>tK (tw n)
end
end Syn
