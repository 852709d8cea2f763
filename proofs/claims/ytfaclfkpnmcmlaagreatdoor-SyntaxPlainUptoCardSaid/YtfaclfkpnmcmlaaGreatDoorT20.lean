import Derived.Test.YtfaclfkpnmcmlaaGreatDoorT18
import Derived.Test.YtfaclfkpnmcmlaaGreatDoorT19
set_option maxHeartbeats 8000000
set_option linter.all false
open Go.Proofs.Tryz hiding d8 f8
namespace Go.Proofs.YtfaclfkpnmcmlaaGreatDoor
open Go Go.Sx Dg Syn
def dq:aO prog 129:=⟨_,func129,rfl,rfl⟩
def AB:aO prog 156:=⟨_,func156,rfl,rfl⟩
def km:aO prog 158:=⟨_,func158,rfl,rfl⟩
def l4:aO prog 132:=⟨_,func132,rfl,rfl⟩
def eB:aO prog 191:=⟨_,func191,rfl,rfl⟩
def sf:aO prog 194:=⟨_,func194,rfl,rfl⟩
def oD:aO prog 196:=⟨_,func196,rfl,rfl⟩
structure PS where
 pos:Nat
 opn:Int
 bad:Bool
 code:Nat
 tok:Int
def bG(lv xv:Value)(en:Nat)(s:PS):Obj:=.cells #[lv,xv,iv en,iv s.pos,.int .i64 s.opn,.bool s.bad,.int .u8 s.code,.int .i64 s.tok] 150 (0,0)
variable{s:PS}{lv xv:Value}{pb en:Nat}{I:PH}
def qQ{off:Nat}{l:List PH}{vs:List Value}(hd:Dj (I::sg pb (bG lv xv en s)::l))(h:aP (sg pb (bG lv xv en s)) pb off vs:=by exact ay (by simp[bG]) rfl):aP (U (I::sg pb (bG lv xv en s)::l)) pb off vs:=cellsU hd (.tail _ (.head _)) h
def DT(_:PH)(c:List Value)(t:Syn.Tok):Prop:=∃v1 v2 v3 v4,c=[.int .u8 t.kind,.string ⟨⟨t.text⟩⟩,v1,v2,v3,v4]/\one v1=true/\one v2=true/\one v3=true/\one v4=true
def DT.len(c:List Value)(t:Syn.Tok)(h:DT I c t):c.length=6:=by obtain⟨_,_,_,_,e,_⟩:=h;rw[e];rfl
structure gL(I:PH)(F:List Syn.Tok)(ix:List Nat)(lv xv:Value):Prop where
 tok:Sl DT I lv F
 idx:Sl NQ I xv ix
 same:ix.length=F.length
 len:F.length<=16384
 fit:∀t∈F,t.fits=lI t.kind t.text/\t.text.length<2^40
variable{ix:List Nat}{F:List Syn.Tok}
def gL.le{J:PH}(h:gL I F ix lv xv)(k:I.le J):gL J F ix lv xv:=
 ⟨Sl.le (R:=DT) (fun{I J c a} h k=>h) h.tok k,Sl.le (R:=NQ) (fun{I J c a} h k=>h) h.idx k,h.same,h.len,h.fit⟩
def mB(F:List Syn.Tok)(a:Nat):bq:=match F[a]? with
 |some t=>if t.fits then t.text else []
 |none=>[]
def FU(F:List Syn.Tok)(a:Nat):Nat:=match F[a]? with
 |some t=>if t.fits then t.kind else 0
 |none=>0
def vW(ix:List Nat)(en a:Nat):Nat:=ix.getD a en
variable{x:bq}
def Lj{k:Nat}(h:lI k x=true):x≠[]:=by
 intro e;subst e;have h:=abl h;simp[rI,mP]at h
theorem eN(hI:gL I F ix lv xv)(ha:s.pos<=F.length):
  aK prog 129 #[pt pb] I [sg pb (bG lv xv en s)] fun v I2 qs=>qs=[sg pb (bG lv xv en s)]/\v=.string ⟨⟨mB F s.pos⟩⟩:=by
 intro hd;have al:=hI.len;obtain⟨la,lc,rfl,_⟩:=id hI.tok;obtain⟨xa,xc,rfl,_⟩:=id hI.idx;refine ah 45 func129 fun w0=>?_
 try simp only[iv,pt]
 have m0:aP (U [I,sg pb (bG (.slice la F.length lc) (.slice xa ix.length xc) en s)]) pb 0 [.slice la F.length lc]:=qQ hd;have m3:aP (U [I,sg pb (bG (.slice la F.length lc) (.slice xa ix.length xc) en s)]) pb 3 [iv s.pos]:=qQ hd;refine aT ?_;refine eP [0,1,2,3,4,5,6,7,8,9,10,11,12,13,14,15,16,17,18,19,20,21,22,23,24,25,26,27,28,29,30] [3,7,14,21,25,27] [] ?_;refine gw ?_;refine W7 (l:=[iv s.pos]) rfl m3 (.inr ⟨jq,rfl⟩) ?_;refine dS ?_;refine W7 (l:=[.slice la F.length lc]) rfl m0 (.inr ⟨Db,rfl⟩) ?_;rcases aaf s.pos F.length with ak|an
 rotate_left
 ·have e:s.pos=F.length:=by omega
  have h1:decide ((s.pos:Int)>=(F.length:Int))=true:=abU ab;apply au;simp only[go_sem,iv,h1];refine aw ?_;refine aT ?_;refine af rfl hd (r:=[_]) rfl (abW _) ⟨rfl,?_⟩;unfold mB;rw[aan ab];rfl
 have h1:decide ((s.pos:Int)>=(F.length:Int))=false:=abT ab;have h2:decide ((s.pos:Int)>=16384)=false:=abT ab;obtain⟨t,ht⟩:∃x,F[s.pos]?=some x:=⟨_,aak ak⟩;obtain⟨b,off,cs,rfl,⟨v1,v2,v3,v4,rfl,_⟩,aa⟩:=Sl.load (R:=DT) (fun{I} c a h=>DT.len (I:=I) c a h) hI.tok ht;have am:=aa.get (i:=1) rfl;obtain⟨hf,hx⟩:=hI.fit t (aaV ht);apply au;simp only[go_sem,iv,h1];refine W7 (l:=[iv s.pos]) rfl m3 (.inr ⟨jq,rfl⟩) ?_;apply au;simp only[go_sem,iv,h2];refine W7 (l:=[.slice (some ⟨b,off,none⟩) F.length lc]) rfl m0 (.inr ⟨Db,rfl⟩) ?_;refine dS ?_;refine W7 (l:=[iv s.pos]) rfl m3 (.inr ⟨jq,rfl⟩) ?_;refine dS ?_;refine⟨ab,?_⟩;refine W7 (l:=[.int .u8 t.kind,.string ⟨⟨t.text⟩⟩,v1,v2,v3,v4]) (v:=.agg #[.int .u8 t.kind,.string ⟨⟨t.text⟩⟩,v1,v2,v3,v4]) rfl (cellsU hd (.head _) (by simpa using aa)) (.inl ⟨MS,rfl⟩) ?_;refine dS ?_;refine aE hd [0] [] [sg pb _] rfl P2 rfl (Mx t.kind t.text v1 v2 v3 v4 ab I) fun v I2 qs ag ac hq=>?_;obtain⟨rfl,rfl⟩:=hq;simp only[Z3]at ag |-;have hr:mB F s.pos=if lI t.kind t.text then t.text else []:=by unfold mB;rw[ht,<-hf]
 cases aj:lI t.kind t.text
 ·rw[aj]at hr;apply au;simp only[go_sem,iv,abK];refine aw ?_;refine aT ?_;exact af rfl ag (r:=[_]) rfl ac ⟨rfl,by rw[hr];rfl⟩
 ·rw[aj]at hr;have n0:aP (U [I2,sg pb (bG (.slice (some ⟨b,off,none⟩) F.length lc) (.slice xa ix.length xc) en s)]) pb 0 [.slice (some ⟨b,off,none⟩) F.length lc]:=qQ ag;have n3:aP (U [I2,sg pb (bG (.slice (some ⟨b,off,none⟩) F.length lc) (.slice xa ix.length xc) en s)]) pb 3 [iv s.pos]:=qQ ag;apply au;simp only[go_sem,iv,abQ];refine aw ?_;refine aT ?_;refine eP [0,1,2,3,4,5,6,7,8,9,10,11] [3,7,10] [] ?_;refine gw ?_;refine W7 (l:=[.slice (some ⟨b,off,none⟩) F.length lc]) rfl n0 (.inr ⟨Db,rfl⟩) ?_;refine dS ?_;refine W7 (l:=[iv s.pos]) rfl n3 (.inr ⟨jq,rfl⟩) ?_;refine dS ?_;refine⟨ab,?_⟩;refine W7 (l:=[.string ⟨⟨t.text⟩⟩]) rfl (cellsU ag (.head _) (by simpa using am.le ac)) (.inr ⟨tL,rfl⟩) ?_;refine dS ?_;refine aw ?_;refine aT ?_;exact af rfl ag (r:=[_]) rfl ac ⟨rfl,by rw[hr];rfl⟩
theorem EV(hI:gL I F ix lv xv)(ha:s.pos<=F.length):
  aK prog 156 #[pt pb] I [sg pb (bG lv xv en s)] fun v I2 qs=>qs=[sg pb (bG lv xv en s)]/\v=.int .u8 (FU F s.pos):=by
 intro hd;obtain⟨la,lc,rfl,_⟩:=id hI.tok;obtain⟨xa,xc,rfl,_⟩:=id hI.idx;refine ah 17 func156 fun w0=>?_
 try simp only[pt]
 refine aT ?_;refine ad hd [0] [sg pb _] [] rfl dq rfl (eN hI ha) fun v I2 qs ac aa hq=>?_;obtain⟨rfl,rfl⟩:=hq;simp only[Z3]at ac |-;cases h0:(mB F s.pos == [])
 rotate_left
 ·have hk:FU F s.pos=0:=by
   have h0:mB F s.pos=[]:=by simpa using h0
   unfold mB at h0;unfold FU;split at h0
   ·rename_i t ht;split at h0
    ·rename_i hf;rw[(hI.fit t (aaV ht)).1]at hf;exact absurd h0 (Lj hf)
    ·rename_i hf;rw[ZV hf]
   ·rfl
  apply RG;simp only[go_sem,h0];exact af rfl ac (r:=[_]) rfl aa ⟨rfl,by rw[hk];rfl⟩
 have aj:mB F s.pos≠[]:=by simpa using h0
 obtain⟨t,ht,hf⟩:∃t,F[s.pos]?=some t/\t.fits=true:=by
  unfold mB at aj;split at aj
  ·rename_i t ht;split at aj
   ·rename_i hf;exact⟨t,ht,hf⟩
   ·exact absurd rfl aj
  ·exact absurd rfl aj
 have al:=(List.getElem?_eq_some_iff.1 ht).1;have hk:FU F s.pos=t.kind:=by unfold FU;rw[ht];exact aaq hf
 obtain⟨b,off,cs,rfl,⟨v1,v2,v3,v4,rfl,_⟩,ag⟩:=Sl.load (R:=DT) (fun{I} c a h=>DT.len (I:=I) c a h) hI.tok ht;have ak:=ag.get (i:=0) rfl;have n0:aP (U [I2,sg pb (bG (.slice (some ⟨b,off,none⟩) F.length lc) (.slice xa ix.length xc) en s)]) pb 0 [.slice (some ⟨b,off,none⟩) F.length lc]:=qQ ac;have n3:aP (U [I2,sg pb (bG (.slice (some ⟨b,off,none⟩) F.length lc) (.slice xa ix.length xc) en s)]) pb 3 [iv s.pos]:=qQ ac;apply RG;simp only[go_sem,h0];refine eP [0,1,2,3,4,5,6,7,8,9,10,11] [3,7,10] [] ?_;refine gw ?_;refine W7 (l:=[.slice (some ⟨b,off,none⟩) F.length lc]) rfl n0 (.inr ⟨Db,rfl⟩) ?_;refine dS ?_;refine W7 (l:=[iv s.pos]) rfl n3 (.inr ⟨jq,rfl⟩) ?_;refine dS ?_;refine⟨ab,?_⟩;refine W7 (l:=[.int .u8 t.kind]) rfl (cellsU ac (.head _) (by simpa using ak.le aa)) (.inr ⟨Uv,rfl⟩) ?_;refine dS ?_;refine aw ?_;refine aT ?_;exact af rfl ac (r:=[_]) rfl aa ⟨rfl,by rw[hk];rfl⟩
theorem qU(hI:gL I F ix lv xv)(ha:s.pos<=F.length):
  aK prog 158 #[pt pb] I [sg pb (bG lv xv en s)] fun v I2 qs=>qs=[sg pb (bG lv xv en s)]/\I2=I/\v=iv (vW ix en s.pos):=by
 intro hd;obtain⟨la,lc,rfl,_⟩:=id hI.tok;obtain⟨xa,xc,rfl,_⟩:=id hI.idx;have ac:=hI.same;refine ah 27 func158 fun w0=>?_
 try simp only[pt]
 have m0:aP (U [I,sg pb (bG (.slice la F.length lc) (.slice xa ix.length xc) en s)]) pb 0 [.slice la F.length lc]:=qQ hd;have m1:aP (U [I,sg pb (bG (.slice la F.length lc) (.slice xa ix.length xc) en s)]) pb 1 [.slice xa ix.length xc]:=qQ hd;have m2:aP (U [I,sg pb (bG (.slice la F.length lc) (.slice xa ix.length xc) en s)]) pb 2 [iv en]:=qQ hd;have m3:aP (U [I,sg pb (bG (.slice la F.length lc) (.slice xa ix.length xc) en s)]) pb 3 [iv s.pos]:=qQ hd;refine aT ?_;refine eP [0,1,2,3,4,5,6,7,8,9] [3,7] [] ?_;refine gw ?_;refine W7 (l:=[iv s.pos]) rfl m3 (.inr ⟨jq,rfl⟩) ?_;refine dS ?_;refine W7 (l:=[.slice la F.length lc]) rfl m0 (.inr ⟨Db,rfl⟩) ?_;rcases aaf s.pos F.length with aj|ak
 rotate_left
 ·have e:s.pos=F.length:=by omega
  have h1:decide ((s.pos:Int)>=(F.length:Int))=true:=abU ab;apply au;simp only[go_sem,iv,h1];refine aw ?_;refine aT ?_;refine XN (l:=[iv en]) rfl m2 (.inr ⟨jq,rfl⟩) ?_;refine dP ?_;refine af rfl hd (r:=[_]) rfl (abW _) ⟨rfl,rfl,?_⟩;have:vW ix en s.pos=en:=by unfold vW;rw[List.getD_eq_getElem?_getD,aan ab];rfl
  rw[this];rfl
 have h1:decide ((s.pos:Int)>=(F.length:Int))=false:=abT ab;obtain⟨x,hx⟩:∃x,ix[s.pos]?=some x:=⟨_,aak ab⟩;obtain⟨b,off,cs,rfl,ag,aa⟩:=Sl.load (R:=NQ) (fun{I} c a h=>by rw[show c=_ from h];rfl) hI.idx hx;obtain rfl:cs=[iv x]:=ag;have hr:vW ix en s.pos=x:=by unfold vW;rw[List.getD_eq_getElem?_getD,hx];rfl
 apply au;simp only[go_sem,iv,h1];refine aw ?_;refine aT ?_;refine eP [0,1,2,3,4,5,6,7,8,9,10] [3,7,9] [] ?_;refine gw ?_;refine W7 (l:=[.slice (some ⟨b,off,none⟩) ix.length xc]) rfl m1 (.inr ⟨UL,rfl⟩) ?_;refine dS ?_;refine W7 (l:=[iv s.pos]) rfl m3 (.inr ⟨jq,rfl⟩) ?_;refine dS ?_;refine⟨ab,?_⟩;refine W7 (l:=[iv x]) rfl (cellsU hd (.head _) (by simpa using aa)) (.inr ⟨jq,rfl⟩) ?_;refine dS ?_;refine aw ?_;refine aT ?_;exact af rfl hd (r:=[_]) rfl (abW _) ⟨rfl,rfl,by rw[hr];rfl⟩
def l8(ix:List Nat)(en:Nat)(s:PS)(code:Nat):PS:=if s.bad then s else ⟨s.pos,s.opn,true,code,vW ix en s.pos⟩
theorem o6{code:Nat}(hI:gL I F ix lv xv)(ha:s.pos<=F.length):
  aK prog 132 #[pt pb,.int .u8 code] I [sg pb (bG lv xv en s)] fun v I2 qs=>qs=[sg pb (bG lv xv en (l8 ix en s code))]/\I2=I:=by
 intro hd;have ag:=hI.len;obtain⟨la,lc,rfl,_⟩:=id hI.tok;obtain⟨xa,xc,rfl,_⟩:=id hI.idx;refine ah 40 func132 fun w0=>?_
 try simp only[pt]
 refine aT ?_;refine XN (l:=[.bool s.bad]) rfl (qQ hd) (.inr ⟨Ep,rfl⟩) ?_;cases hb:s.bad
 rotate_left
 ·have hf:l8 ix en s code=s:=by unfold l8;rw[aaq hb]
  refine aT ?_;exact af rfl hd (r:=[]) rfl (abW _) ⟨by rw[hf],rfl⟩
 have hf:l8 ix en s code=⟨s.pos,s.opn,true,code,vW ix en s.pos⟩:=by unfold l8;rw[ZV (by rw[hb];decide)]
 refine aT ?_;refine bw hd rfl rfl rfl rfl rfl (by exact Yp) (by simp) fun an=>?_;refine aT ?_;refine bw an rfl rfl rfl rfl rfl (by exact Wb) (by simp) fun am=>?_;refine aT ?_;have al:Dj [I,sg pb (bG (.slice la F.length lc) (.slice xa ix.length xc) en ⟨s.pos,s.opn,true,code,s.tok⟩)]:=am;show RC _ _ _ (U [I,sg pb (bG (.slice la F.length lc) (.slice xa ix.length xc) en ⟨s.pos,s.opn,true,code,s.tok⟩)]);refine ad al [0] [sg pb _] [] rfl km rfl (qU (s:=⟨s.pos,s.opn,true,code,s.tok⟩) hI ha) fun v I2 qs ac aj hq=>?_;obtain⟨rfl,rfl,rfl⟩:=hq;simp only[Z3]at ac |-;refine dP ?_;refine bw ac rfl rfl rfl rfl rfl (by exact uZ) (by simp) fun ak=>?_;have aa:Dj [I2,sg pb (bG (.slice la F.length lc) (.slice xa ix.length xc) en ⟨s.pos,s.opn,true,code,vW ix en s.pos⟩)]:=ak;show RC _ _ _ (U [I2,sg pb (bG (.slice la F.length lc) (.slice xa ix.length xc) en ⟨s.pos,s.opn,true,code,vW ix en s.pos⟩)]);have m0:aP (U [I2,sg pb (bG (.slice la F.length lc) (.slice xa ix.length xc) en ⟨s.pos,s.opn,true,code,vW ix en s.pos⟩)]) pb 0 [.slice la F.length lc]:=qQ aa;have m3:aP (U [I2,sg pb (bG (.slice la F.length lc) (.slice xa ix.length xc) en ⟨s.pos,s.opn,true,code,vW ix en s.pos⟩)]) pb 3 [iv s.pos]:=qQ aa;refine aT ?_;refine eP [0,1,2,3,4,5,6,7,8,9,10,11,12,13,14,15,16] [3,7,14] [] ?_;refine gw ?_;refine W7 (l:=[iv s.pos]) rfl m3 (.inr ⟨jq,rfl⟩) ?_;refine dS ?_;refine W7 (l:=[.slice la F.length lc]) rfl m0 (.inr ⟨Db,rfl⟩) ?_;cases h1:decide ((s.pos:Int)<(F.length:Int))
 ·apply au;simp only[go_sem,iv,h1];refine aw ?_;refine aT ?_;exact d8 rfl aa (r:=[]) rfl (abW _) ⟨by rw[hf],rfl⟩
 ·have ao:=abl h1;have h2:decide ((s.pos:Int)>=16384)=false:=abT ab;apply au;simp only[go_sem,iv,h1];refine W7 (l:=[iv s.pos]) rfl m3 (.inr ⟨jq,rfl⟩) ?_;apply au;simp only[go_sem,iv,h2];refine aw ?_;refine aT ?_;exact d8 rfl aa (r:=[]) rfl (abW _) ⟨by rw[hf],rfl⟩
def i8(F:List Syn.Tok)(ix:List Nat)(en:Nat)(s:PS)(x:bq):PS:=if mB F s.pos=x then { s with pos:=s.pos+1 } else l8 ix en s 10
theorem f8(hI:gL I F ix lv xv)(ha:s.pos<=F.length):
  aK prog 191 #[pt pb,.string ⟨⟨x⟩⟩] I [sg pb (bG lv xv en s)] fun v I2 qs=>qs=[sg pb (bG lv xv en (i8 F ix en s x))]:=by
 intro hd;have aj:=hI.len;refine ah 17 func191 fun w0=>?_
 try simp only[pt]
 refine aT ?_;refine ad hd [0] [sg pb _] [] rfl dq rfl (eN hI ha) fun v I2 qs ag aa hq=>?_;obtain⟨rfl,rfl⟩:=hq;simp only[Z3]at ag |-;cases h:(mB F s.pos == x)
 ·have hs:i8 F ix en s x=l8 ix en s 10:=by unfold i8;rw[ZV (by simpa using h)]
  apply RG;simp only[go_sem,h,abK];refine ad ag [0] [sg pb _] [] rfl l4 rfl (o6 (code:=10) (hI.le aa) ha) fun v I3 qs ac ak hq=>?_;obtain⟨rfl,rfl⟩:=hq;simp only[Z3]at ac |-;refine aT ?_;exact af rfl ac (r:=[]) rfl aa (by rw[hs])
 ·have hs:i8 F ix en s x={ s with pos:=s.pos+1 }:=by unfold i8;rw[aaq (by simpa using h)]
  have e1:=Z7 (i:=s.pos) ab;apply RG;simp only[go_sem,h,abQ];refine XN (l:=[iv s.pos]) rfl (qQ ag) (.inr ⟨jq,rfl⟩) ?_;apply RG;simp only[go_sem,iv,e1];refine bw ag rfl rfl rfl rfl rfl (by exact uZ) (by simp) fun ac=>?_;refine aT ?_;exact d8 rfl ac (r:=[]) rfl aa (by rw[hs];rfl)
def jL(F:List Syn.Tok)(ix:List Nat)(en:Nat)(s:PS)(x:bq):PS:=if mB F s.pos=x then (if s.opn>=64 then l8 ix en s 11 else ⟨s.pos+1,IntKind.i64.wrap (s.opn+1),s.bad,s.code,s.tok⟩)else l8 ix en s 10
theorem si(hI:gL I F ix lv xv)(ha:s.pos<=F.length):
  aK prog 194 #[pt pb,.string ⟨⟨x⟩⟩] I [sg pb (bG lv xv en s)] fun v I2 qs=>qs=[sg pb (bG lv xv en (jL F ix en s x))]:=by
 intro hd;have ak:=hI.len;refine ah 31 func194 fun w0=>?_
 try simp only[pt]
 refine aT ?_;refine ad hd [0] [sg pb _] [] rfl dq rfl (eN hI ha) fun v I2 qs ag aa hq=>?_;obtain⟨rfl,rfl⟩:=hq;simp only[Z3]at ag |-;cases h:(mB F s.pos == x)
 ·have hs:jL F ix en s x=l8 ix en s 10:=by unfold jL;rw[ZV (by simpa using h)]
  apply RG;simp only[go_sem,h,abK];refine ad ag [0] [sg pb _] [] rfl l4 rfl (o6 (code:=10) (hI.le aa) ha) fun v I3 qs ac aj hq=>?_;obtain⟨rfl,rfl⟩:=hq;simp only[Z3]at ac |-;refine aT ?_;exact af rfl ac (r:=[]) rfl aa (by rw[hs])
 ·apply RG;simp only[go_sem,h,abQ];refine XN (l:=[.int .i64 s.opn]) rfl (qQ ag) (.inr ⟨jq,rfl⟩) ?_;cases h2:decide (s.opn>=64)
  rotate_left
  ·have hs:jL F ix en s x=l8 ix en s 11:=by unfold jL;rw[aaq (by simpa using h),aaq (abl h2)]
   apply RG;simp only[go_sem,h2];refine ad ag [0] [sg pb _] [] rfl l4 rfl (o6 (code:=11) (hI.le aa) ha) fun v I3 qs ac aj hq=>?_;obtain⟨rfl,rfl⟩:=hq;simp only[Z3]at ac |-;refine aT ?_;exact af rfl ac (r:=[]) rfl aa (by rw[hs])
  ·have hs:jL F ix en s x=⟨s.pos+1,IntKind.i64.wrap (s.opn+1),s.bad,s.code,s.tok⟩:=by unfold jL;rw[aaq (by simpa using h),ZV (abN h2)]
   have e1:=Z7 (i:=s.pos) ab;apply RG;simp only[go_sem,h2];refine XN (l:=[.int .i64 s.opn]) rfl (qQ ag) (.inr ⟨jq,rfl⟩) ?_;refine aT ?_;refine bw ag rfl rfl rfl rfl rfl (by exact uZ) (by simp) fun ac=>?_;refine aT ?_;refine XN (l:=[iv s.pos]) rfl (cellsU ac (.tail _ (.head _)) (ay (by simp[br]) rfl)) (.inr ⟨jq,rfl⟩) ?_;apply RG;simp only[go_sem,iv,e1];refine bw ac rfl rfl rfl rfl rfl (by exact uZ) (by simp[br]) fun al=>?_;refine aT ?_;exact d8 rfl al (r:=[]) rfl aa (by rw[hs];rfl)
def Fu(F:List Syn.Tok)(ix:List Nat)(en:Nat)(s:PS)(x:bq):PS:={ i8 F ix en s x with opn:=IntKind.i64.wrap ((i8 F ix en s x).opn-1) }
def n9(hI:gL I F ix lv xv)(ha:s.pos<=F.length):
  aK prog 196 #[pt pb,.string ⟨⟨x⟩⟩] I [sg pb (bG lv xv en s)] fun v I2 qs=>qs=[sg pb (bG lv xv en (Fu F ix en s x))]:=by
 intro hd;refine ah 14 func196 fun w0=>?_
 try simp only[pt]
 refine aT ?_;refine ad hd [0] [sg pb _] [] rfl eB rfl (f8 hI ha) fun v I2 qs ac aa hq=>?_;obtain rfl:=hq;simp only[Z3]at ac |-;refine aT ?_;refine XN (l:=[.int .i64 (i8 F ix en s x).opn]) rfl (qQ ac) (.inr ⟨jq,rfl⟩) ?_;refine aT ?_;refine bw ac rfl rfl rfl rfl rfl (by exact uZ) (by simp) fun ag=>?_;refine aT ?_;exact d8 rfl ag (r:=[]) rfl aa rfl
end Go.Proofs.YtfaclfkpnmcmlaaGreatDoor
namespace Syn
open Dg
section
variable {c:bP} {ts:List Tok}
def Rz(p:Nat):nx c ts p<=nx c ts (p+1):=by
 unfold nx;cases h:ts.drop p with
 |nil=>
  have e:ts.drop (p+1)=[]:=by rw[<-aa3,h];rfl
  rw[e];simp[lm]
 |cons t l=>
  have e:ts.drop (p+1)=l:=by rw[<-aa3,h];rfl
  rw[e];simp only[lm];split
  ·have:=(kz c l (p+1)).1;omega
  ·exact ZR _
def x9:∀(l:List Tok) (i:Nat),lm c l i<=i+l.length
 | [],i=>ZR _
 |t::l,i=>by
  have:=x9 l (i+1);simp only[lm,aaj];split<;>omega
def yI{p:Nat}(h:p<=ts.length):nx c ts p<=ts.length:=by
 have:=x9 (c:=c) (ts.drop p) p;rw[abD]at this;unfold nx;omega
def F2(c:bP)(ts:List Tok)(p:Option Nat)(e:List (Nat×Int))(t:Nat):Prop:=
 (e=[]/\∃j,p=some j/\nx c ts j=t)\/(p=none/\∃k,e=[(k,(t:Int))]/\nx c ts t=t/\(k=10\/k=11/\t<ts.length))
def be(c:bP)(ts:List Tok)(s p:Option Nat)(e:List (Nat×Int)):Prop:=
 match s with
 |none=>p=none/\e=[]
 |some s=>∃t,F2 c ts p e t/\nx c ts s<=t/\(s<=ts.length->t<=ts.length/\∀j,p=some j->j<=ts.length)
def be.self(p:Option Nat):be c ts p p []:=by
 cases p with
 |none=>exact⟨rfl,rfl⟩
 |some j=>exact⟨_,.inl ⟨rfl,j,rfl,rfl⟩,ZR _,fun h=>⟨yI h,fun _ e=>by cases e;exact h⟩⟩
def be.err{i k:Nat}(h:nx c ts i=i)(hk:k=10\/k=11/\i<ts.length):be c ts (some i) none [(k,(i:Int))]:=⟨i,.inr ⟨rfl,k,rfl,h,hk⟩,Nat.le_of_eq h,fun h=>⟨h,fun j e=>by cases e⟩⟩
variable{e:List (Nat×Int)}{p:Option Nat}
def be.ofN{s:Option Nat}(h:be c ts (s.map (nx c ts)) p e):be c ts s p e:=by
 cases s with
 |none=>exact h
 |some s=>obtain⟨t,h1,h2,h3⟩:=h;rw[ce]at h2;exact⟨t,h1,h2,fun h=>h3 (yI h)⟩
def be.up{s:Option Nat}(hs:Lt ts.length s)(h:be c ts (s.map (·+1)) p e):be c ts s p e:=by
 cases s with
 |none=>exact h
 |some s=>obtain⟨t,h1,h2,h3⟩:=h;exact⟨t,h1,ZS (Rz s) h2,fun _=>h3 (hs s rfl)⟩
def be.next{i:Nat}(hi:i<ts.length):be c ts (some i) (some (i+1)) []:=be.up (s:=some i) (Lt.of hi) (be.self (some (i+1)))
def be.seq{s q:Option Nat}{f:List (Nat×Int)}(h:be c ts s p e)(k:be c ts p q f):be c ts s q (e++f):=by
 cases s with
 |none=>
  obtain⟨rfl,rfl⟩:=h;exact k
 |some s=>
  obtain⟨t,h1,h2,h4⟩:=h;rcases h1 with ⟨rfl,j,rfl,h3⟩|⟨rfl,x,rfl,h3⟩
  ·obtain⟨u,k1,k2,k3⟩:=k;exact⟨u,k1,ab,fun h=>k3 ((h4 h).2 j rfl)⟩
  ·obtain⟨rfl,rfl⟩:=k;exact⟨t,.inr ⟨rfl,x,rfl,h3⟩,h2,fun h=>⟨(h4 h).1,fun j e=>by cases e⟩⟩
def be.side{x g:Option Nat}(hx:x=none\/g=none)(h:be c ts x p e):be c ts (x.or g) (p.or g) e/\(p=none\/g=none):=by
 rcases hx with rfl|rfl
 ·obtain⟨rfl,rfl⟩:=h;exact⟨be.self g,.inl rfl⟩
 ·rw[Option.or_none,Option.or_none];exact⟨h,.inr rfl⟩
def tj{x y:Option Nat}(h:x=none\/y=none):x.or y=y.or x:=by
 rcases h with rfl|rfl<;>simp
def jz(p:Option Nat)(is:Nat->Bool):qz c ts p is=none\/(qz c ts p fun i=>!is i)=none:=by
 unfold qz;cases p.map (nx c ts)with
 |none=>exact .inl rfl
 |some i=>cases h:is i<;>simp[Option.filter,h]
def rE(p:Option Nat)(is:Nat->Bool):(qz c ts p is).or (qz c ts p fun i=>!is i)=p.map (nx c ts):=by
 unfold qz;cases p.map (nx c ts)with
 |none=>rfl
 |some i=>cases h:is i<;>simp[Option.filter,h]
def sr(p:Option Nat)(is:Nat->Bool):(qz c ts p fun i=>!is i).or (qz c ts p is)=p.map (nx c ts):=by
 rw[tj ((jz p is).symm),rE]
def be.fork1{q:Option Nat}{s:bq}(hs:s≠[])(h:be c ts (((qz c ts p (pi ts s)).map (·+1)).or (qz c ts p fun i=>!pi ts s i)) q e):be c ts p q e:=by
 refine be.ofN ?_;rw[<-rE p (pi ts s)];have hl:=sG (c:=c) (ts:=ts) (p:=p) hs;rcases jz (c:=c) (ts:=ts) p (pi ts s)with x|x
 ·rw[x]at h |-;exact h
 ·rw[x]at h |-;rw[Option.or_none]at h |-;exact be.up hl h
def DN{i k kd s:Nat}{is:Nat->Bool}(h:qz c ts (aI ts c (some i) kd s).p is=some k):i<=k:=by
 have h0:=rh c ts i;unfold aI at h;simp only[Z9]at h;split at h
 ·cases h
 ·unfold qz at h;have h:=(Option.filter_eq_some_iff.1 h).1;simp only[Z9,ZW]at h;have:=rh c ts (nx c ts i+1);omega
def PU(c:bP)(ts:List Tok)(p:Option Nat):Prop:=∀j,p=some j->nx c ts j=j
def pJ(p:Option Nat)(is:Nat->Bool):PU c ts (qz c ts p is):=by
 intro j h;unfold qz at h;have h:=(Option.filter_eq_some_iff.1 h).1;cases p with
 |none=>cases h
 |some i=>cases h;exact ce c ts i
def By(p:Option Nat):PU c ts (p.map (nx c ts)):=by
 intro j h;cases p with
 |none=>cases h
 |some i=>cases h;exact ce c ts i
def kw(p:Option Nat){s:bq}(hs:s≠[]):be c ts p (aW ts c p s).1 (aW ts c p s).2:=by
 refine be.ofN ?_;unfold aW;have hn:=By (c:=c) (ts:=ts) p;generalize p.map (nx c ts)=w at hn |-;cases w with
 |none=>exact⟨rfl,rfl⟩
 |some i=>
  simp only;split
  ·rename_i h;exact be.next (gx (by rw[h];exact hs))
  ·exact be.err (hn i rfl) (.inl rfl)
def oX(p:Option Nat)(k s:Nat):be c ts p (aI ts c p k s).p (aI ts c p k s).e:=by
 refine be.ofN ?_;unfold aI;have hn:=By (c:=c) (ts:=ts) p;generalize p.map (nx c ts)=w at hn |-;cases w with
 |none=>exact⟨rfl,rfl⟩
 |some i=>
  simp only;split
  ·exact be.err (hn i rfl) (.inl rfl)
  ·rename_i h;exact be.next (DO fun h2=>h (.inl (by rw[h2];decide)))
def yp(p:Option Nat)(s:Nat):be c ts p (bI ts c p s).p (bI ts c p s).e:=by
 refine be.ofN ?_;unfold bI;have hn:=By (c:=c) (ts:=ts) p;generalize p.map (nx c ts)=w at hn |-;cases w with
 |none=>exact⟨rfl,rfl⟩
 |some i=>
  simp only;split
  ·exact be.err (hn i rfl) (.inl rfl)
  ·rename_i h;exact be.next (gx fun h2=>h (by rw[h2];exact⟨by decide,by decide⟩))
end
section
variable {c:bP} {ts:List Tok}
def HH:dB->Option Nat
 | .line _ _ p _=>p
 | .lineL _ _ _ _ _ g out=>g.or out
 | .lineO _ _ _ op _ g=>op.or g
 | .unary _ p _=>p
 | .unaryH _ i _=>i
 | .calls _ _ _ x _ g=>x.or g
 | .inside _ p _=>p
 | .listed _ _ p=>p
 | .listL _ _ _ g fin=>g.or fin
 | .item _ _ p=>p
 | .behind _ _ p _ _=>p
 | .vrb _ p=>p
 | .function _ p=>p
 | .block _ p _=>p
 | .seqL _ _ p _ out=>p.or out
 | .stmt _ i=>i
 | .sCalls _ _ x _ g=>x.or g
 | .branch _ i _=>i
 | .elses _ x _ out=>x.or out
 | .ifs _ y _ out=>y.or out
def LL(c:bP)(ts:List Tok):dB->Prop
 | .lineL _ _ _ _ _ g out=>g=none\/out=none
 | .lineO _ _ _ op _ g=>(op=none\/g=none)/\PU c ts op/\Lt ts.length op
 | .unaryH _ i _=>PU c ts i
 | .calls _ i _ x _ g=>(x=none\/g=none)/\PU c ts x/\∀k,x=some k->∃j,i=some j/\j<=k
 | .listL _ _ _ g fin=>g=none\/fin=none
 | .behind _ _ _ s _=>s≠[]
 | .seqL _ _ p _ out=>p=none\/out=none
 | .stmt _ i=>PU c ts i
 | .sCalls _ i x _ g=>(x=none\/g=none)/\PU c ts x/\∀k,x=some k->∃j,i=some j/\j<=k
 | .branch _ i _=>Lt ts.length i
 | .elses _ x _ out=>(x=none\/out=none)/\Lt ts.length x
 | .ifs _ y _ out=>(y=none\/out=none)/\PU c ts y/\Lt ts.length y
 |_=>True
theorem opn{p k:Nat}{s:bq}{a:Option PR}{q:PR}(hs:s≠[])(hk:Lt ts.length (some (nx c ts p))->a=some q->be c ts (some (nx c ts p)) q.p q.e)
  (e:(if X ts (nx c ts p)≠s then some ⟨[],none,[(10,((nx c ts p:Nat):Int))]⟩else if k=64 then some ⟨[],none,[(11,((nx c ts p:Nat):Int))]⟩else a)=some q):be c ts (some (nx c ts p)) q.p q.e:=by
 have hn:=ce c ts p;split at e
 ·cases e
  exact be.err hn (.inl rfl)
 ·rename_i h1;have hl:nx c ts p<ts.length:=gx (by rw[Classical.not_not.1 h1];exact hs);split at e
  ·cases e
   exact be.err hn (.inr ⟨rfl,hl⟩)
  ·exact hk (Lt.of hl) e
def tK{r:oS}(H:∀x q,r x=some q->LL c ts x->be c ts (HH x) q.p q.e):∀x q,aC c ts r x=some q->LL c ts x->be c ts (HH x) q.p q.e:=by
 intro x q e w;cases x with
 |line k o p slot=>
  simp only[aC,ni]at e |-;split at e
  ·exact(H _ _ e trivial :)
  ·obtain⟨a,ha,e⟩:=dh e;obtain⟨b,hb,e⟩:=dh e;cases e
   have b1:be c ts (a.p.or none) b.p b.e:=H _ _ hb (.inr rfl);rw[Option.or_none]at b1;exact be.seq (H _ _ ha trivial :) b1
 |lineL k o slot first l g out=>
  simp only[aC,lP]at e |-;cases g with
  |none=>cases e;exact be.self out
  |some p=>
   obtain rfl:out=none:=w.resolve_left (by simp);simp only at e |-;split at e
   ·cases e;exact be.self (some p)
   ·obtain⟨a,ha,e⟩:=dh e;obtain⟨b,hb,e⟩:=dh e;cases e
    have a1:be c ts ((qz c ts (some p) (gK ts k)).or none) a.p a.e:=H _ _ ha ⟨.inr rfl,pJ _ _,BG⟩;rw[Option.or_none]at a1;obtain⟨s1,s2⟩:=be.side (jz (c:=c) (ts:=ts) (some p) (gK ts k)) a1;rw[rE]at s1;exact s1.ofN.seq (H _ _ hb s2)
 |lineO k o slot op l g=>
  simp only[aC,pY]at e |-;cases op with
  |none=>cases e;exact be.self g
  |some i=>
   obtain rfl:g=none:=w.1.resolve_left (by simp);obtain⟨a,ha,e⟩:=dh e;cases e
   exact be.up (s:=some i) w.2.2 (H _ _ ha trivial :)
 |unary o p slot=>exact be.ofN (H _ _ (show r (.unaryH o (p.map (nx c ts)) slot)=some q from e) (By p))
 |unaryH o i slot=>
  simp only[aC,fZ]at e |-;cases i with
  |none=>cases e;exact⟨rfl,rfl⟩
  |some i=>
   have hn:=w i rfl;simp only at e |-;split at e
   ·rename_i h1;have hl:i<ts.length:=gx (by rcases h1 with h|h<;>rw[h]<;>decide);split at e
    ·cases e
     exact be.err hn (.inr ⟨rfl,hl⟩)
    ·obtain⟨a,ha,e⟩:=dh e;cases e
     exact be.up (s:=some i) (Lt.of hl) (H _ _ ha trivial :)
   split at e
   ·exact(H _ _ e trivial :)
   split at e
   ·rename_i h3;cases e
    exact be.next (DO (by rw[h3];decide))
   split at e
   ·rename_i h4;cases e
    exact be.next (gx (by rcases h4 with h|h<;>rw[h]<;>decide))
   split at e
   ·rename_i h5;cases e
    exact be.next (gx (by rw[h5];decide))
   obtain⟨b,hb,e⟩:=dh e;cases e
   have b1:be c ts ((qz c ts (aI ts c (some i) 18 slot).p (pi ts eM)).or (qz c ts (aI ts c (some i) 18 slot).p fun i=>!pi ts eM i)) b.p b.e:=H _ _ hb ⟨jz _ _,pJ _ _,fun k hk=>⟨i,rfl,DN hk⟩⟩;rw[rE]at b1;exact(oX (some i) 18 slot).seq b1.ofN
 |calls o i slot x names g=>
  simp only[aC,nY]at e |-;obtain⟨w1,w2,w3⟩:=w;cases x with
  |none=>
   have hq:q=⟨names,g,[]⟩:=by cases i<;>(cases e;rfl)
   subst hq;exact be.self g
  |some k=>
   obtain⟨j,rfl,hj⟩:=w3 k rfl;obtain rfl:g=none:=w1.resolve_left (by simp);obtain⟨a,ha,e⟩:=dh e;cases e
   exact(H _ _ ha trivial :)
 |inside o p slot=>
  simp only[aC,il]at e |-;cases p with
  |none=>cases e;exact⟨rfl,rfl⟩
  |some p=>
   refine be.ofN (s:=some p) (opn (s:=eM) bg ?_ e);intro h e;obtain⟨a,ha,e⟩:=dh e;cases e
   exact(be.up (s:=some (nx c ts p)) h (H _ _ ha trivial :)).seq (kw a.p bg)
 |listed par o p=>
  simp only[aC,ij]at e |-;cases p with
  |none=>cases e;exact⟨rfl,rfl⟩
  |some p=>
   refine be.ofN (s:=some p) (opn (s:=eM) bg ?_ e);intro h e;obtain⟨a,ha,e⟩:=dh e;cases e
   have a1:be c ts ((qz c ts (some (nx c ts p+1)) fun i=>!pi ts fK i).or (qz c ts (some (nx c ts p+1)) (pi ts fK))) a.p a.e:=H _ _ ha (jz _ _).symm;rw[sr]at a1;exact(be.up (s:=some (nx c ts p)) h a1.ofN).seq (kw a.p bg)
 |listL par o l g fin=>
  simp only[aC,oU]at e |-;cases g with
  |none=>cases e;exact be.self fin
  |some p=>
   obtain rfl:fin=none:=w.resolve_left (by simp);obtain⟨a,ha,e⟩:=dh e;obtain⟨b,hb,e⟩:=dh e;cases e
   exact be.seq (H _ _ ha trivial :) (be.fork1 (s:=bB) bg (H _ _ hb ((jz (c:=c) (ts:=ts) a.p (pi ts bB)).imp (fun h=>by rw[h];rfl) id)))
 |item par o p=>
  simp only[aC,ro]at e |-;cases par with
  |true=>
   simp only[ZT]at e |-;cases e
   exact((oX p 4 0).seq (kw _ bg)).seq (yp _ 0)
  |false=>exact(H _ _ (show r (.line 0 o p 0)=some q from e) trivial :)
 |behind typ o p sign slot=>
  simp only[aC,kh]at e |-;obtain⟨a,ha,e⟩:=dh e;cases e
  have x:(qz c ts p (pi ts sign)).map (·+1)=none\/(qz c ts p fun i=>!pi ts sign i)=none:=(jz p (pi ts sign)).imp (fun h=>by rw[h];rfl) id;have ka:be c ts ((qz c ts p (pi ts sign)).map (·+1)) a.p a.e:=by
   unfold fy at ha;cases typ with
   |true=>
    simp only[ZT]at ha;cases ha
    exact yp _ slot
   |false=>exact H _ _ (show r (.line 0 o _ slot)=some a from ha) trivial
  obtain⟨s1,s2⟩:=be.side x ka;rw[tj s2.symm];exact be.fork1 w s1
 |vrb o p=>
  simp only[aC,gZ]at e |-;obtain⟨d,hd,e⟩:=dh e;cases e
  exact((((oX p 2 0).seq (kw _ bg)).seq (yp _ 0)).seq (H _ _ hd (by show su≠[];decide))).seq (kw d.p bg)
 |function o p=>
  simp only[aC,gY]at e |-;obtain⟨b,hb,e⟩:=dh e;obtain⟨d,hd,e⟩:=dh e;obtain⟨f,hf,e⟩:=dh e;cases e
  exact(((oX p 3 0).seq (H _ _ hb trivial :)).seq (H _ _ hd (by show bA≠[];decide))).seq (H _ _ hf trivial)
 |block o p slot=>
  simp only[aC,jI]at e |-;cases p with
  |none=>cases e;exact⟨rfl,rfl⟩
  |some p=>
   refine be.ofN (s:=some p) (opn (s:=Im) bg ?_ e);intro h e;obtain⟨a,ha,e⟩:=dh e;cases e
   exact(be.up (s:=some (nx c ts p)) h (H _ _ ha (.inr rfl))).seq (kw a.p bg)
 |seqL top o p l out=>
  simp only[aC,nE]at e |-;cases p with
  |none=>cases e;exact be.self out
  |some p=>
   obtain rfl:out=none:=w.resolve_left (by simp);simp only[Z9]at e |-;have hn:=ce c ts p;refine be.ofN (s:=some p) ?_;split at e
   ·cases e
    exact be.self _
   ·obtain⟨a,ha,e⟩:=dh e;obtain⟨b,hb,e⟩:=dh e;cases e
    have ka:be c ts (some (nx c ts p)) a.p a.e:=by
     unfold md at ha;cases top with
     |true=>
      simp only[ZT]at ha;unfold vF at ha;split at ha
      ·rename_i h2;exact be.up (s:=some (nx c ts p)) (Lt.of (gx (by rw[h2];decide))) (H _ _ ha trivial :)
      split at ha
      ·rename_i h5;exact be.up (s:=some (nx c ts p)) (Lt.of (gx (by rw[h5];decide))) (H _ _ ha trivial :)
      cases ha
      exact be.err hn (.inl rfl)
     |false=>exact(H _ _ ha (fun j hj=>by cases hj;exact hn) :)
    have b1:be c ts (a.p.or none) b.p b.e:=H _ _ hb (.inr rfl);rw[Option.or_none]at b1;exact ka.seq b1
 |stmt o i=>
  simp only[aC,gM]at e |-;cases i with
  |none=>cases e;exact⟨rfl,rfl⟩
  |some i=>
   have hn:=w i rfl;simp only at e |-;split at e
   ·rename_i h1;exact be.up (s:=some i) (Lt.of (gx (by rw[h1];decide))) (H _ _ e trivial :)
   split at e
   ·rename_i h2;exact(H _ _ e (Lt.of (gx (by rw[h2];decide))) :)
   split at e
   ·rename_i h3;obtain⟨a,ha,e⟩:=dh e;obtain⟨b,hb,e⟩:=dh e;cases e
    exact(be.up (s:=some i) (Lt.of (gx (by rw[h3];decide))) (H _ _ ha trivial :)).seq (H _ _ hb trivial :)
   split at e
   ·exact(H _ _ e trivial :)
   split at e
   ·rename_i h5;obtain⟨a,ha,e⟩:=dh e;cases e
    obtain⟨s1,s2⟩:=be.side (jz (c:=c) (ts:=ts) (some (i+1)) (pi ts a8)).symm (H _ _ ha trivial :);rw[sr]at s1;exact(be.up (s:=some i) (Lt.of (gx (by rw[h5];decide))) s1.ofN).seq (kw _ bg)
   split at e
   ·rename_i h6;obtain⟨a,ha,e⟩:=dh e;cases e
    exact(be.up (s:=some i) (Lt.of (gx (by rcases h6 with h|h<;>rw[h]<;>decide))) (H _ _ ha trivial :)).seq (kw a.p bg)
   obtain⟨b,hb,e⟩:=dh e;obtain⟨d,hd,e⟩:=dh e;cases e
   have n1:=oX (c:=c) (ts:=ts) (some i) 7 0;have aa:=fun k=>DN (c:=c) (ts:=ts) (i:=i) (k:=k) (kd:=7) (s:=0) (is:=pi ts eM);generalize aI ts c (some i) 7 0=a at n1 aa hb hd |-;obtain⟨s1,s2⟩:=be.side (jz (c:=c) (ts:=ts) a.p (pi ts eM)).symm ((kw (qz c ts a.p fun i=>!pi ts eM i) (s:=su) bg).seq (H _ _ hb trivial :));rw[sr]at s1;have d1:be c ts ((qz c ts a.p (pi ts eM)).or b.p) d.p d.e:=H _ _ hd ⟨s2.symm,pJ _ _,fun k hk=>⟨i,rfl,aa k hk⟩⟩;rw[tj s2.symm]at d1;have E:=((n1.seq s1.ofN).seq d1).seq (kw d.p (s:=a8) bg);simp only[<-aaT]at E;exact E
 |sCalls o i x l g=>
  simp only[aC,lu]at e |-;obtain⟨w1,w2,w3⟩:=w;cases x with
  |none=>
   have hq:q=⟨l,g,[]⟩:=by cases i<;>(cases e;rfl)
   subst hq;exact be.self g
  |some k=>
   obtain⟨j,rfl,hj⟩:=w3 k rfl;obtain rfl:g=none:=w1.resolve_left (by simp);obtain⟨a,ha,e⟩:=dh e;cases e
   exact(H _ _ ha trivial :)
 |branch o i slot=>
  simp only[aC,ku]at e |-;obtain⟨a,ha,e⟩:=dh e;obtain⟨b,hb,e⟩:=dh e;obtain⟨d,hd,e⟩:=dh e;cases e
  have d1:be c ts ((qz c ts b.p (pi ts dr)).or (qz c ts b.p fun i=>!pi ts dr i)) d.p d.e:=H _ _ hd ⟨jz _ _,sG bg⟩;rw[rE]at d1;exact((be.up w (H _ _ ha trivial :)).seq (H _ _ hb trivial :)).seq d1.ofN
 |elses o x l out=>
  simp only[aC,nP]at e |-;cases x with
  |none=>cases e;exact be.self out
  |some j=>
   obtain rfl:out=none:=w.1.resolve_left (by simp);obtain⟨a,ha,e⟩:=dh e;obtain⟨b,hb,e⟩:=dh e;cases e
   obtain⟨s1,s2⟩:=be.side (jz (c:=c) (ts:=ts) (some (j+1)) (pi ts kT)).symm (H _ _ ha trivial :);rw[sr]at s1;have b1:be c ts ((qz c ts (some (j+1)) (pi ts kT)).or a.p) b.p b.e:=H _ _ hb ⟨s2.symm,pJ _ _,sG bg⟩;rw[tj s2.symm]at b1;exact be.up (s:=some j) w.2 (s1.ofN.seq b1)
 |ifs o y l out=>
  simp only[aC,BV]at e |-;obtain⟨w1,w2,w3⟩:=w;cases y with
  |none=>cases e;exact be.self out
  |some j=>
   obtain rfl:out=none:=w1.resolve_left (by simp);simp only at e |-;split at e
   ·cases e
    exact be.err (w2 j rfl) (.inr ⟨rfl,w3 j rfl⟩)
   ·obtain⟨a,ha,e⟩:=dh e;cases e
    exact(H _ _ ha w3 :)
def tw:∀n x q,bS c ts n x=some q->LL c ts x->be c ts (HH x) q.p q.e
 |0=>fun x q e=>by cases e
 |n+1=>tK (tw n)
end
end Syn
