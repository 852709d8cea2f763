import Derived.Test.YtfaclfkpnmcmlaaGreatDoorS06
import Derived.Test.YtfaclfkpnmcmlaaGreatDoorS08
import Derived.Test.YtfaclfkpnmcmlaaGreatDoorS11
import Derived.Test.YtfaclfkpnmcmlaaGreatDoorS12
set_option maxHeartbeats 8000000
set_option linter.all false
namespace Go.Proofs.YtfaclfkpnmcmlaaGreatDoor
open Go Go.Sx Dg Syn
theorem xC:aP Tryz.prog 267:=⟨_,Tryz.func267,rfl,rfl⟩
theorem HA:aP Tryz.prog 268:=⟨_,Tryz.func268,rfl,rfl⟩
theorem HG:aP Tryz.prog 216:=⟨_,Tryz.func216,rfl,rfl⟩
theorem JU:aP Tryz.prog 215:=⟨_,Tryz.func215,rfl,rfl⟩
section
variable {C:Cx} {P:Program} {k:List Item} {σ:St} {H:PH}
theorem Dp{o:Oper}{T T2:TypeId}{ms:Array (String×TypeId)}{x y:Operand}{v:Value}{b:Bool}(ac:o.op=.binOp .eql T x y T2)(hu:P.underlying T=some (.interface ms))
  (hx:ev σ x=.v v) (hc:y=.const .nilIface) (hv:v=.nilIface/\b=true\/(∃t p,v=.iface t p)/\b=false) :
  aR σ o.op=true/\co P (execOp (bp σ) o) H fun sv H2=>sv=.v (.bool b)/\H2=H:=by
 subst hc;have hy:ev σ (.const .nilIface)=.v .nilIface:=rfl;constructor
 ·simp[aR,ac,eL,Op.operands,hx,hy,qy]
 ·intro w hw;have aa:(execOp (bp σ) o).run P w=.ok (.value (.bool b)) w:=by
   have:∀k,Op.maxDepth=k+1->(Op.equal T v .nilIface).run P w=.ok b w:=by
    intro k hk;unfold Op.equal;rw[hk];rcases hv with ⟨rfl,rfl⟩|⟨⟨t,p,rfl⟩,rfl⟩<;>simp[Op.equalIn,run_underlying hu,Se,Result.andThen]
   have hh:=this 9999 rfl;rcases hv with ⟨rfl,rfl⟩|⟨⟨t,p,rfl⟩,rfl⟩<;>simp[execOp,ac,bp,hx,hy,eqGuard,binOp,Se,hh,Result.andThen]
  rw[aa];exact⟨H,cS.refl hw,rfl,rfl⟩
theorem rP{ol rem:List Oper}{o:Oper}{T T2:TypeId}{ms:Array (String×TypeId)}{x y:Operand}{v:Value}(b:Bool)(hw:aG ol σ o=some true)(aa:o.op=.binOp .eql T x y T2)(hu:C.P.underlying T=some (.interface ms))
  (hx:ev σ x=.v v) (hc:y=.const .nilIface) (hv:v=.nilIface/\b=true\/(∃t p,v=.iface t p)/\b=false) (hk:RC C (.op ol rem k) (σ.put o.dst (.v (.bool b))) H):RC C (.op ol (o::rem) k) σ H:=by
 obtain⟨p,q⟩:=Dp (H:=H) aa hu hx hc hv;exact f9 hw p (q.mono fun sv H2 ⟨e1,e2⟩=>by subst e1;subst e2;exact hk)
end
theorem vt:∃ms,Tryz.prog.underlying 284=some (.interface ms):=⟨_,Tryz.underlying284⟩
theorem cS.below{H:PH}{w w2:World}(hw:Sx.Sub H w)(h:RowKit.Below w.heap.size w w2):cS H w H w2 where
 sub b o hb:=by
  have h1:=hw b o hb;have:b<w.heap.size:=by
   rcases Sw b w.heap.size with h|h
   ·exact h
   ·rw[Sy h]at h1;cases h1
  rw[h.block b this];exact h1
 size:=h.size
 priv b hb _:=h.block b hb
 dom _ _ h:=h
 os:=h.os
 tape:=h.tape
 out:=h.output
theorem JR{H:PH}{s:bM}{v:Int}(hl:s.length<2^40)(h:Lib.atoiAll s=.ok v):bv Tryz.prog 267 #[.string ⟨⟨s⟩⟩] H fun r H2=>r=.tuple #[.int .i64 v,.nilIface]/\H2=H:=by
 intro w hw;refine(Tryz.strconv_Atoi_ok ⟨⟨s⟩⟩ (by (try simp only[bJ]);omega) v h w).mono ?_;rintro e w2 ⟨rfl,hW⟩;refine⟨H,cS.below hw ?_,rfl,rfl⟩;rcases hW with rfl|⟨t,rfl⟩
 ·exact RowKit.Below.refl _ _
 ·exact Lib.bytesWorld_below _ _ _
def xY(H:PH):Prop:=∃te pe,aQ H 1 0 [.iface te pe]
theorem xY.le{I J:PH}(h:xY I)(k:I.le J):xY J:=let ⟨a,b,c⟩:=h;⟨a,b,aQ.le c k⟩
theorem JJ{H:PH}{s:bM}(hl:s.length<2^40)(h:Lib.atoiAll s=Lib.NumEnd.syntax)(hE:xY H):bv Tryz.prog 267 #[.string ⟨⟨s⟩⟩] H fun r H2=>(∃p,r=.tuple #[.int .i64 0,.iface 386 p])/\H2=H:=by
 intro w hw;obtain⟨te,pe,cs,ty,fz,h1,h2,h3⟩:=hE;have hb:=hw 1 _ h1;have hv:w.cell? ⟨1,0,none⟩=some (.iface te pe):=by
  have hc:cs[0]?=some (.iface te pe):=by
   have:=congrArg (fun l:List Value=>l[0]?) h3;simpa using this
  simp[World.cell?,hb,hc]
 refine(Tryz.strconv_Atoi_syntax ⟨⟨s⟩⟩ (by (try simp only[bJ]);omega) h _ w hv (.inr ⟨te,pe,rfl⟩)).mono ?_;rintro e w2 ⟨N,rfl,_,_,hW⟩;exact⟨H,cS.below hw hW,⟨_,rfl⟩,rfl⟩
def sU(H:PH):Prop:=∃te pe,aQ H 2 0 [.iface te pe]
theorem sU.le{I J:PH}(h:sU I)(k:I.le J):sU J:=let ⟨a,b,c⟩:=h;⟨a,b,aQ.le c k⟩
theorem Fh{H:PH}{s:bM}(hl:s.length<2^40)(h:Lib.atoiAll s=.range)(hE:sU H):bv Tryz.prog 267 #[.string ⟨⟨s⟩⟩] H fun r H2=>(∃p,r=.tuple #[.int .i64 (Lib.atoiSat s),.iface 386 p])/\H2=H:=by
 intro w hw;obtain⟨te,pe,cs,ty,fz,h1,h2,h3⟩:=hE;have hb:=hw 2 _ h1;have hv:w.cell? ⟨2,0,none⟩=some (.iface te pe):=by
  have hc:cs[0]?=some (.iface te pe):=by
   have:=congrArg (fun l:List Value=>l[0]?) h3;simpa using this
  simp[World.cell?,hb,hc]
 refine(Tryz.strconv_Atoi_range ⟨⟨s⟩⟩ (by (try simp only[bJ]);omega) h _ w hv (.inr ⟨te,pe,rfl⟩)).mono ?_;rintro e w2 ⟨N,rfl,_,_,hW⟩;exact⟨H,cS.below hw hW,⟨_,rfl⟩,rfl⟩
def yP(H:PH):Prop:=∃ty fz,H 3=some (.cells (Lib.pow10Tab.map fun z=>Value.int .u64 z).toArray ty fz)
theorem yP.le{I J:PH}(h:yP I)(k:I.le J):yP J:=let ⟨a,b,c⟩:=h;⟨a,b,k 3 _ c⟩
theorem Ew:Tryz.prog.globalNamed "internal/strconv.uint64pow10"=some 3:=by kernel_rfl
theorem Lv{H:PH}{v:Int}(h0:-9223372036854775808<=v)(h1:v<=9223372036854775807)(hT:yP H):bv Tryz.prog 268 #[.int .i64 v] H fun r H2=>r=.string ⟨⟨Lib.itoa v⟩⟩/\H2=H:=by
 intro w hw;obtain⟨ty,fz,hb⟩:=hT;have hb:=hw 3 _ hb;have aa:Lib.TabIs Tryz.prog w "internal/strconv.uint64pow10" .u64 Lib.pow10Tab:=by
  unfold Lib.TabIs World.var?;rw[Ew];simp[hb]
 refine(Tryz.strconv_Itoa v h0 h1 w aa).mono ?_;rintro e w2 ⟨rfl,k,os,rfl⟩;refine⟨H,?_,rfl,rfl⟩;have hg:∀(b:Nat) (o:Obj),w.heap[b]?=some o->(w.heap++os)[b]?=some o:=by
  intro b o h;have:b<w.heap.size:=by
   rcases Sw b w.heap.size with h2|h2
   ·exact h2
   ·rw[Sy h2]at h;cases h
  rw[Array.getElem?_append_left this];exact h
 exact{
     sub:=fun b o h=>hg b o (hw b o h)
     size:=by simp[Sort.grow,World.drewN]
     priv:=fun b ac _=>by simp only[Sort.grow,World.drewN];rw[Array.getElem?_append_left ac]
     dom:=fun _ _ h=>h
     os:=rfl
     tape:=rfl
     out:=rfl }
def qf(s:bM):Bool:=match Lib.atoiAll s with
 | .ok v=>decide (v<=2147483647) && decide (Lib.itoa v=s) && xp (bZ (s.getD 0 0))
 |_=>false
def fN(H:PH):Prop:=oZ H/\xY H/\sU H/\yP H
theorem fN.le{I J:PH}(h:fN I)(k:I.le J):fN J:=⟨h.1.le k,h.2.1.le k,h.2.2.1.le k,h.2.2.2.le k⟩
theorem Lf:∀u,Lib.decDigits u≠[]:=by
 intro u h;have:=Lib.decDigits_length u;rw[h]at this;rw[Lib.decDigits]at h;split at h<;>simp at h
theorem BN(v:Int):Lib.itoa v≠[]:=by
 unfold Lib.itoa;split
 ·simp
 ·exact Lf _
theorem HR{s:bM}{v:Int}(h:Lib.atoiAll s=.ok v):-9223372036854775808<=v/\v<=9223372036854775807:=by
 unfold Lib.atoiAll at h;split at h
 ·cases h
 simp only at h;split at h
 ·cases h
 ·cases h
 split at h
 ·cases h
 split at h
 ·cases h
 cases h
 split<;>omega
theorem Jj{a b:bM}:(a == b)=decide (a=b):=by
 by_cases h:a=b
 ·subst h;simp
 ·simp[h]
theorem AD{H:PH}{s:bM}(hl:s.length<2^40)(hV:fN H):bv Tryz.prog 216 #[.string ⟨⟨s⟩⟩] H fun v H2=>v=.bool (qf s)/\H2=H:=by
 obtain⟨_,hE,ac,hT⟩:=hV;refine ir 27 Tryz.func216 fun w0=>?_;refine Un ?_;cases h:Lib.atoiAll s with
 |ok v=>
  obtain⟨b0,b1⟩:=HR h;refine Pf rfl xC (JR hl h) fun r H2 hv=>?_;obtain⟨rfl,rfl⟩:=hv;cases aa:decide (v<=2147483647)
  ·apply RG;simp only[go_sem,aa];refine rP true rfl rfl vt.choose_spec rfl rfl (.inl ⟨rfl,rfl⟩) ?_;apply RG;simp only[go_sem,aa];exact aK (r:=[_]) rfl ⟨by unfold qf;simp[h,aa];rfl,rfl⟩
  ·apply RG;simp only[go_sem,aa];refine rP true rfl rfl vt.choose_spec rfl rfl (.inl ⟨rfl,rfl⟩) ?_;apply RG;simp only[go_sem,aa];refine Pf rfl HA (Lv b0 b1 hT) fun r H2 hv=>?_;obtain⟨rfl,rfl⟩:=hv;by_cases hi:Lib.itoa v=s
   ·subst hi;have hb:(Lib.itoa v == Lib.itoa v)=true:=by simp
    obtain⟨c,r,hc⟩:∃c r,Lib.itoa v=c::r:=by
     cases e:Lib.itoa v with
     |nil=>exact absurd e (BN v)
     |cons c r=>exact⟨c,r,rfl⟩
    apply RG;simp only[go_sem,hb];refine⟨by rw[hc];simp,?_⟩;refine Pf rfl vZ (wH _ _) fun r H2 hv=>?_;obtain⟨rfl,rfl⟩:=hv;have h0:(Lib.itoa v)[0]?=some ((Lib.itoa v).getD 0 0):=by rw[hc];rfl
    rw[mU (i:=0) h0];refine Un ?_;exact aK (r:=[_]) rfl ⟨by unfold qf;simp[h,aa];rfl,rfl⟩
   ·have hb:(Lib.itoa v == s)=false:=by simp[hi]
    apply RG;simp only[go_sem,hb];exact aK (r:=[_]) rfl ⟨by unfold qf;simp[h,aa,hi];rfl,rfl⟩
 |range=>
  refine Pf rfl xC (Fh hl h ac) fun v H2 hv=>?_;obtain⟨⟨p,rfl⟩,rfl⟩:=hv;refine Un ?_;refine rP false rfl rfl vt.choose_spec rfl rfl (.inr ⟨⟨_,_,rfl⟩,rfl⟩) ?_;refine Un ?_;exact aK (r:=[_]) rfl ⟨by unfold qf;rw[h];rfl,rfl⟩
 |_=>
  refine Pf rfl xC (JJ hl h hE) fun v H2 hv=>?_;obtain⟨⟨p,rfl⟩,rfl⟩:=hv;refine Un ?_;refine rP false rfl rfl vt.choose_spec rfl rfl (.inr ⟨⟨_,_,rfl⟩,rfl⟩) ?_;refine Un ?_;exact aK (r:=[_]) rfl ⟨by unfold qf;rw[h];rfl,rfl⟩
theorem Hk{H:PH}{sb fb i:Nat}{s:bM}(hV:fN H)(hs:aQ H sb 0 [.string ⟨⟨s⟩⟩])(hf:aQ H fb 0 [.func (.func 211) #[] #[pt sb]])(hi:i<=s.length)(hl:s.length<2^40):
  bv Tryz.prog 215 #[iv i,pt fb] H fun v H2=>v=(if qf ((s.drop i).take (cV (s.drop i)))then .tuple #[.int .u8 2,.string ⟨⟨(s.drop i).take (cV (s.drop i))⟩⟩]else .tuple #[.int .u8 0,.string ⟨⟨[]⟩⟩])/\H2=H:=by
 refine ir 12 Tryz.func215 fun w0=>?_
 try simp only[iv,pt]
 refine Un ?_;refine Qz (l:=[.func (.func 211) #[] #[pt sb]]) rfl hf (.inr ⟨Fu,rfl⟩) ?_;refine Uz ?_;refine Pf rfl Cj (KO hs hi Vi) fun v H2 hv=>?_;obtain⟨rfl,rfl⟩:=hv;refine Un ?_;have aa:((s.drop i).take (cV (s.drop i))).length<2^40:=by
  simp only[T1,TZ];omega
 refine Pf rfl HG (AD aa hV) fun v H2 hv=>?_;obtain⟨rfl,rfl⟩:=hv;cases hb:qf ((s.drop i).take (cV (s.drop i)))
 ·refine Un ?_;exact aK (r:=[_,_]) rfl ⟨rfl,rfl⟩
 ·refine Un ?_;exact aK (r:=[_,_]) rfl ⟨rfl,rfl⟩
open Go Go.Sx Dg Syn
def gO(d:bM):Nat×bM:=
 if Er (d.take (cV d))then (1,d.take (cV d))
 else if qf (d.take (cV d))then (2,d.take (cV d))
 else match gI.find? fun x=>x.isPrefixOf d with
  |some x=>(3,x)
  |none=>(0,[])
def Pm:bM:=[47,47]
def yS:Nat->bM->Option (List (Nat×bM))
 |0,_=>none
 |_+1,[]=>some []
 |n+1,c::s=>
  if AH (bZ c)then yS n s
  else if Pm.isPrefixOf (c::s)then some []
  else if (gO (c::s)).1=0 then none
  else (yS n ((c::s).drop (gO (c::s)).2.length)).map (gO (c::s)::·)
theorem Ka{x:bM}(h:qf x=true):x≠[]:=by
 unfold qf at h;split at h
 ·rename_i v hv;simp only[SG,SX]at h;intro e;exact BN v (h.1.2.trans e)
 ·cases h
theorem Lg{x:bM}(h:Er x=true):x≠[]:=by
 intro e;subst e;revert h;decide
theorem Gx:∀x∈gI,x≠[]:=by decide
theorem nI{d:bM}(h:(gO d).1≠0):0<(gO d).2.length/\(gO d).2.length<=d.length/\((gO d).2 <+: d)/\(gO d).1<=3:=by
 unfold gO at h |-;have hp:=List.take_prefix (cV d) d;split
 ·rename_i h1;exact⟨List.length_pos_iff.2 (Lg h1),hp.length_le,hp,show 1<=3 by decide⟩
 ·split
  ·rename_i h1;exact⟨List.length_pos_iff.2 (Ka h1),hp.length_le,hp,show 2<=3 by decide⟩
  ·split
   ·rename_i x hx;have h2:=List.find?_some hx;have h3:=List.mem_of_find?_eq_some hx;have h4:=List.isPrefixOf_iff_prefix.1 h2;exact⟨List.length_pos_iff.2 (Gx x h3),h4.length_le,h4,show 3<=3 by decide⟩
   ·rename_i h1 h2 _ hx;rw[Sb h1,Sb h2,hx]at h;exact absurd rfl h
theorem wv:∀(n m:Nat) (d:bM),d.length<n->d.length<m->yS n d=yS m d
 |0,_,_,h,_=>by omega
 |_+1,0,_,_,h=>by omega
 |n+1,m+1,[],_,_=>rfl
 |n+1,m+1,c::s,h1,h2=>by
  simp only[SB]at h1 h2;rw[yS,yS,wv n m s Vi Vi];split
  ·rfl
  ·split
   ·rfl
   ·split
    ·rfl
    ·rename_i h3;obtain⟨a,b,_⟩:=nI h3;rw[wv n m ((c::s).drop (gO (c::s)).2.length) (by simp only[TZ,SB]at b |-;omega) (by simp only[TZ,SB]at b |-;omega)]
def xj(d:bM):Option (List (Nat×bM)):=yS (d.length+1) d
theorem F6:xj []=some []:=rfl
theorem DC(c:UInt8)(s:bM):xj (c::s)=if AH (bZ c)then xj s
  else if Pm.isPrefixOf (c::s)then some []
  else if (gO (c::s)).1=0 then none
  else (xj ((c::s).drop (gO (c::s)).2.length)).map (gO (c::s)::·):=by
 unfold xj;rw[SB,yS];split
 ·rfl
 ·split
  ·rfl
  ·split
   ·rfl
   ·rename_i h3;obtain⟨a,b,_⟩:=nI h3;rw[wv (s.length+1) (((c::s).drop (gO (c::s)).2.length).length+1) _ (by simp only[TZ,SB]at b |-;omega) Vi]
def xM(s:bM):Option (List (Nat×bM)):=if s.all fun c=>CW (bZ c)then xj s else none
def xg(k:Nat)(x:bM):Bool:=decide (xM x=some [(k,x)])
def ch(x:Nat×bM):Tok:=⟨x.1,x.2,tt,true⟩
def refit(t:Tok):Tok:={ t with fits:=xg t.kind t.text }
theorem Jg:aP Tryz.prog 143:=⟨_,Tryz.func143,rfl,rfl⟩
theorem ER:aP Tryz.prog 82:=⟨_,Tryz.func82,rfl,rfl⟩
theorem IS:aP Tryz.prog 133:=⟨_,Tryz.func133,rfl,rfl⟩
def jw(d:bM):Nat->Nat×bM
 |0=>if Er (d.take (cV d))then (1,d.take (cV d))else (0,[])
 |1=>if qf (d.take (cV d))then (2,d.take (cV d))else (0,[])
 |_=>match gI.find? fun x=>x.isPrefixOf d with
  |some x=>(3,x)
  |none=>(0,[])
def xW(d:bM):Nat->Nat×bM
 |0=>gO d
 |1=>if qf (d.take (cV d))then (2,d.take (cV d))else jw d 2
 |2=>jw d 2
 |_=>(0,[])
theorem CC{d:bM}{k:Nat}(h:(jw d k).1=0):jw d k=(0,[]):=by
 match k with
 |0=>
  simp only[jw]at h |-;split at h
  ·cases h
  ·rename_i h1;rw[Sb h1]
 |1=>
  simp only[jw]at h |-;split at h
  ·cases h
  ·rename_i h1;rw[Sb h1]
 |k+2=>
  simp only[jw]at h |-;split at h
  ·cases h
  ·rfl
theorem Im{d:bM}{k:Nat}(hk:k<3)(h:(jw d k).1=0):xW d k=xW d (k+1):=by
 match k,hk with
 |0,_=>
  simp only[jw]at h;split at h
  ·cases h
  ·rename_i h1;simp only[xW,gO,jw,Sb h1]<;>rfl
 |1,_=>
  simp only[jw]at h;split at h
  ·cases h
  ·rename_i h1;simp only[xW,Sb h1]
 |2,_=>exact CC h
theorem E0{d:bM}{k:Nat}(hk:k<3)(h:(jw d k).1≠0):xW d k=jw d k:=by
 match k,hk with
 |0,_=>
  simp only[jw]at h |-;split at h
  ·rename_i h1;simp only[xW,gO,SI h1]
  ·exact absurd rfl h
 |1,_=>
  simp only[jw]at h |-;split at h
  ·rename_i h1;simp only[xW,SI h1]
  ·exact absurd rfl h
 |2,_=>rfl
def Eg(x:Nat×bM):Value:=.tuple #[.int .u8 x.1,.string ⟨⟨x.2⟩⟩]
def Pi(sb fb:Nat):List Value:=[.func (.func 213) #[] #[pt fb],.func (.func 215) #[] #[pt fb],.func (.func 217) #[] #[pt sb]]
theorem NV{H:PH}{sb fb i k:Nat}{s:bM}(hV:fN H)(hs:aQ H sb 0 [.string ⟨⟨s⟩⟩])(hf:aQ H fb 0 [.func (.func 211) #[] #[pt sb]])(hi:i<=s.length)(hl:s.length<2^40)(hk:k<3):
  ∃fid cp,(Pi sb fb)[k]?=some (.func (.func fid) #[] #[cp])/\aP Tryz.prog fid/\bv Tryz.prog fid #[iv i,cp] H fun v H2=>v=Eg (jw (s.drop i) k)/\H2=H:=by
 match k,hk with
 |0,_=>
  refine⟨213,pt fb,rfl,Jo,(Mu hs hf hi Vi).mono fun v H2 h=>⟨?_,h.2⟩⟩;rw[h.1];simp only[jw,Eg];split<;>rfl
 |1,_=>
  refine⟨215,pt fb,rfl,JU,(Hk hV hs hf hi hl).mono fun v H2 h=>⟨?_,h.2⟩⟩;rw[h.1];simp only[jw,Eg];split<;>rfl
 |2,_=>
  refine⟨217,pt sb,rfl,Jp,(K0 hV.1 hs hi Vi).mono fun v H2 h=>⟨?_,h.2⟩⟩;rw[h.1];unfold xF jw Eg;cases gI.find? (fun x=>x.isPrefixOf (s.drop i))<;>rfl
abbrev ui(I A:PH)(v:Value)(l:List Tok):Prop:=Ow cJ 83 7 I A v l
def Pj(_:PH)(c:List Value)(x:Nat):Prop:=c=[iv x]
abbrev NI(I A:PH)(v:Value)(l:List Nat):Prop:=Ow Pj 3 1 I A v l
theorem ui.le{I J A:PH}{v:Value}{l:List Tok}(h:ui I A v l)(k:I.le J):ui J A v l:=Ow.le (R:=cJ) (fun{I J c a} h k=>cJ.le h k) h k
theorem NI.le{I J A:PH}{v:Value}{l:List Nat}(h:NI I A v l)(k:I.le J):NI J A v l:=Ow.le (R:=Pj) (fun{I J c a} h k=>h) h k
theorem cJ.ones{I:PH}{c:List Value}{t:Tok}(h:cJ I c t):c.all one=true:=by
 obtain⟨p,f,l,a,k,rfl,h1,_⟩:=h;simp only[List.all_cons,List.all_nil,h1];rfl
def OK(sb fb:Nat)(x:Nat×Value×Value):St:=⟨dn 75 [(1,.v (pt sb)),(2,.v x.2.1),(3,.v x.2.2),(6,.v (.func (.func 213) #[] #[pt fb])),(7,.v (.func (.func 215) #[] #[pt fb])),(8,.v (.func (.func 217) #[] #[pt sb])),(9,.v (iv x.1))],[]⟩
def Rp(s:bM)(I0:PH)(x:Nat×Value×Value)(H:PH):Prop:=∃I A B l ats,H=U [I,A,B]/\Dj [I,A,B]/\I0.le I/\x.1<=s.length/\ui I A x.2.1 (l.map ch)/\NI I B x.2.2 ats/\ats.length=l.length/\l.length<=x.1/\xj s=(xj (s.drop x.1)).map (l++·)
def Lm(sb fb:Nat)(va vb:Value)(i nb:Nat)(x:Nat×Nat×bM):St:=⟨dn 75 [(1,.v (pt sb)),(2,.v va),(3,.v vb),(6,.v (.func (.func 213) #[] #[pt fb])),(7,.v (.func (.func 215) #[] #[pt fb])),(8,.v (.func (.func 217) #[] #[pt sb])),(9,.v (iv i)),(10,.v (.int .u8 x.2.1)),(11,.v (.string ⟨⟨x.2.2⟩⟩)),(38,.v (.slice (some ⟨nb,0,none⟩) 3 3)),(39,.v (iv 3)),(40,.v (iv x.1))],[]⟩
def vT(s:bM)(v:Value)(I2:PH)(qs:List PH):Prop:=match xM s with
 |none=>v=.tuple #[.slice none 0 0,.slice none 0 0,.bool false]/\qs=[]
 |some l=>∃A va vb,v=.tuple #[va,vb,.bool true]/\qs=[A]/\ui I2 A va (l.map ch)
theorem LS{I:PH}{s:bM}(hl:s.length<2^40)(hV:fN I):aO Tryz.prog 143 #[.string ⟨⟨s⟩⟩] I [] (vT s):=by
 intro hd;refine ir 75 Tryz.func143 fun w0=>?_;refine Un ?_;refine Pf rfl Ix (Eh s Vi _) fun v H2 hv=>?_;obtain⟨rfl,rfl⟩:=hv;cases ci:s.all fun c=>CW (bZ c)
 ·have hx:xM s=none:=by unfold xM;rw[ci];rfl
  apply RG;simp only[go_sem,T7];exact ai rfl hd (r:=[_,_,_]) rfl (Uj _) (by unfold vT;rw[hx];exact⟨rfl,rfl⟩)
 have b1:xM s=xj s:=by unfold xM;rw[ci];rfl
 apply bq 5;simp only[go_sem,Ud];refine eP 1 hd rfl fun sb dd=>?_;refine ag (c:=.st _) dd fun I2 dc b2 dk=>?_;have hs:aQ I2 sb 0 [.string ⟨⟨s⟩⟩]:=(aU (by simp) rfl:aQ (sg sb (.cells [.string ⟨⟨s⟩⟩].toArray 9 (0,0))) sb 0 [.string ⟨⟨s⟩⟩]).le dk;apply bq 5;simp only[go_sem,kE,List.map,pt];refine eP 5 dc rfl fun fb da=>?_;refine ag (c:=.st _) da fun I4 c9 bb dj=>?_;have hf:aQ I4 fb 0 [.func (.func 211) #[] #[pt sb]]:=(aU (by simp) rfl:aQ (sg fb (.cells [.func (.func 211) #[] #[pt sb]].toArray 315 (0,0))) fb 0 [.func (.func 211) #[] #[pt sb]]).le dj;have hs:=hs.le bb;have bd:=Ui b2 bb;have ds:=hV.le bd;apply RG;simp only[go_sem,kE,List.map,pt];refine aT c9 fun c8=>?_;refine aT c8 fun c7=>?_;refine aB (fun x=>s.length-x.1) (OK sb fb) (Rp s I4) (0,.slice none 0 0,.slice none 0 0) Us (by simp only[go_sem,Tq,OK]) ?_ ?_
 ·exact⟨I4,_,_,[],[],rfl,c7,Uj _,S6 _,Ow.nil _ _ _ _,Ow.nil _ _ _ _,rfl,S6 _,by simp⟩
 rintro⟨i,va,vb⟩ H ⟨I1,A1,B1,l,ats,rfl,a9,am,hi,hA,hB,cs,c0,an⟩ a3;simp only at hi hA hB c0 an;simp only[OK];have bx:=hs.le am;obtain⟨aa,ac,rfl⟩:=hA.shape;obtain⟨ba,bc,rfl⟩:=hB.shape;refine Uz ?_;refine Qz (l:=[.string ⟨⟨s⟩⟩]) rfl (cellsU a9 (.head _) bx) (.inr ⟨rz,rfl⟩) ?_;rcases Sw i s.length with b0|d1
 ·have cc:decide ((i:Int)<(s.length:Int))=true:=Uh Vi;have e1:IntKind.i64.wrap ((i:Int)+1)=((i+1:Nat):Int):=by rw[<-wrap64 (n:=i+1) Vi];congr 1
  obtain⟨c,hc⟩:∃c,s[i]?=some c:=⟨_,SC b0⟩;have hb:=mU hc;have cm:s.drop i=c::s.drop (i+1):=by
   rw[S5 b0];rw[SC b0]at hc;rw[Tk hc]
  have tk:(s.drop i).take (s.length-i)=s.drop i:=T3 (by simp);have cB:=an;rw[cm,DC,<-cm]at an;apply RG;simp only[go_sem,bJ,cc];refine Qz (l:=[.string ⟨⟨s⟩⟩]) rfl (cellsU a9 (.head _) bx) (.inr ⟨rz,rfl⟩) ?_;apply RG;simp only[go_sem,hb];refine⟨by first|omega|(simp only[bJ];omega),?_⟩;refine Pf rfl Ke (JY _ _) fun v H2 hv=>?_;obtain⟨rfl,rfl⟩:=hv;cases cr:AH (bZ c)
  rotate_left
  ·rw[cr,SI rfl]at an;apply RG;simp only[go_sem,iv,e1];exact a3 (i+1,.slice aa (l.map ch).length ac,.slice ba ats.length bc) _ _ V9 Us (by simp only[go_sem,Tq,OK]) ⟨I1,A1,B1,l,ats,rfl,a9,am,b0,hA,hB,cs,by simp only;omega,an⟩
  rw[cr,Sb (by simp)]at an;refine Un ?_;refine Qz (l:=[.string ⟨⟨s⟩⟩]) rfl (cellsU a9 (.head _) bx) (.inr ⟨rz,rfl⟩) ?_;apply RG;simp only[go_sem,bJ,o6,tk];refine⟨Vi,?_⟩;refine Pf rfl Cu (zx _ Pm _) fun v H2 hv=>?_;obtain⟨rfl,rfl⟩:=hv;cases cn:Pm.isPrefixOf (s.drop i)
  rotate_left
  ·rw[cn,SI rfl]at an;apply bq 4;simp only[go_sem];refine Um a9 [1,0] fun a2=>?_;refine Um a2 [0,1] fun ak=>?_;refine ag (c:=.st _) ak fun I9 ak aj ca=>?_;refine Uq ?_;refine ai rfl ak (r:=[_,_,_]) rfl (Ui bd (Ui am aj)) ?_;unfold vT;rw[b1,an];exact⟨A1,_,_,rfl,rfl,by simpa using ui.le hA aj⟩
  rw[cn,Sb (by simp)]at an;refine Uz ?_;refine av a9 (by exact NQ) rfl rfl rfl rfl rfl Vm fun nb I3 a2 ap cA=>?_;have c3:aQ I3 nb 0 (Pi sb fb):=az cA (by simp[aE,Value.cells,Pi]) (by simp[aE,Value.cells,Pi,pt]);have cy:=bx.le ap;have c5:=(hf.le am).le ap;have dv:=(ds.le am).le ap;refine Uz ?_;apply cO (fun(x:Nat×Nat×bM)=>3-x.1) (Lm sb fb (.slice aa (l.map ch).length ac) (.slice ba ats.length bc) i nb) (fun x H=>H=U [I3,A1,B1]/\x.2=(0,[])/\x.1<=3/\gO (s.drop i)=xW (s.drop i) x.1) (fun x H=>H=U [I3,A1,B1]/\x.2=gO (s.drop i)) (0,0,[])
  ·exact Us
  ·exact(by simp only[go_sem,Tq,Lm])
  ·exact⟨rfl,rfl,S6 _,rfl⟩
  ·rintro⟨k,kd,tx⟩ H ⟨rfl,e0,c1,hr⟩ a7 a6;simp only[S3]at e0 c1 hr;obtain⟨rfl,rfl⟩:=e0;simp only[Lm];rcases Sw k 3 with hk|hk
   ·have cb:decide ((k:Int)<3)=true:=Uh Vi;have e40:IntKind.i64.wrap ((k:Int)+1)=((k+1:Nat):Int):=by rw[<-wrap64 (n:=k+1) Vi];congr 1
    obtain⟨fid,cp,c4,c2,c6⟩:=NV (dv.le (cD a2)) (cellsU a2 (.head _) cy) (cellsU a2 (.head _) c5) hi hl hk;apply RG;simp only[go_sem,iv,pt,TJ,cb];refine⟨Vi,?_⟩;refine Qz (l:=[.func (.func fid) #[] #[cp]]) rfl (cellsU a2 (.head _) (by simpa using c3.get c4)) (.inr ⟨Kp,rfl⟩) ?_;refine Uq ?_;refine Pf rfl c2 c6 fun v H2 hv=>?_;obtain⟨rfl,rfl⟩:=hv;by_cases h0:(jw (s.drop i) k).1=0
    ·rw[CC h0];apply RG;simp only[go_sem,Eg,iv,e40];exact a7 (k+1,0,[]) _ _ V9 Us (by simp only[go_sem,Tq,Lm]) ⟨rfl,rfl,hk,by rw[hr,Im hk h0]⟩
    ·have dT:((((jw (s.drop i) k).1:Nat):Int) != 0)=true:=by simp;omega
     apply bq 13;simp only[go_sem,Eg,iv,dT];exact a6 (k,jw (s.drop i) k) _ _ Us (by simp only[go_sem,Tq,Lm]) ⟨rfl,by simp only;rw[hr,E0 hk h0]⟩
   ·have:k=3:=by omega
    subst this;have cb:decide ((3:Int)<3)=false:=by decide
    apply bq 7;simp only[go_sem,iv,pt,TJ,cb];exact a6 (3,0,[]) _ _ Us (by simp only[go_sem,Tq,Lm]) ⟨rfl,by simp only;rw[hr];rfl⟩
  ·rintro⟨k,kd,tx⟩ H ⟨rfl,e⟩;simp only at e;simp only[Lm];by_cases h0:kd=0
   ·subst h0;rw[<-e,SI rfl]at an;refine Um a2 [1,0] fun ak=>?_;refine Um ak [0,1] fun a1=>?_;refine ag (c:=.st _) a1 fun I9 a1 ao dx=>?_;refine Um a1 [0] fun a0=>?_;refine ag (c:=.st _) a0 fun d2 a0 aS dA=>?_;apply RG;simp only[go_sem,iv,TJ];refine ai rfl a0 (r:=[_,_,_]) rfl (Ui bd (Ui am (Ui ap (Ui ao aS)))) ?_;unfold vT;rw[b1,an];exact⟨rfl,rfl⟩
   ·have dI:((kd:Int) == 0)=false:=by simp;omega
    have cj:(gO (s.drop i)).1≠0:=by rw[<-e];exact h0
    obtain⟨s1,s2,_,_⟩:=nI cj;rw[Sb cj,<-e]at an;rw[<-e]at s1 s2;simp only[TZ]at s1 s2;have cl:(l.map ch).length=l.length:=Sz _;have e72:IntKind.i64.wrap ((i:Int)+(tx.length:Int))=((i+tx.length:Nat):Int):=by rw[<-wrap64 (n:=i+tx.length) Vi];congr 1
    apply RG;simp only[go_sem,iv,dI];refine av a2 (by exact qX) rfl rfl rfl rfl rfl Vm fun mb I5 ak aj d0=>?_;refine Uq ?_;refine Pf rfl Bd (Bo _) fun v H2 hv=>?_;obtain⟨rfl,rfl⟩:=hv;refine Uq ?_;refine av ak (by exact DN) rfl rfl rfl rfl rfl Vm fun tb I6 a1 ao cx=>?_;have hT:Sl cJ I6 (.slice (some ⟨tb,0,none⟩) 1 1) [ch (kd,tx)]:=⟨_,_,rfl,.inr ⟨tb,0,[.int .u8 kd,.string ⟨⟨tx⟩⟩,.slice (some ⟨mb,0,none⟩) 1 1,.int .i64 0,.int .i64 0,.slice none 0 0,iv 1],rfl,az cx (by simp[aE,Value.cells]) (by simp[aE,Value.cells,iv]),.one ⟨.slice (some ⟨mb,0,none⟩) 1 1,0,0,none,0,rfl,rfl,jP I6 true⟩⟩⟩;refine Uq ?_;refine aY (R:=cJ) (xs:=l.map ch) (ys:=[ch (kd,tx)]) a1 (by exact DN) (ui.le hA (Ui ap (Ui aj ao))) hT (fun{I J c a} h k=>cJ.le h k) (fun{I} c a h=>cJ.len c a h) (fun{I} c a h=>cJ.ones h) rfl rfl rfl rfl (by rw[cl];simp only[SB,S9];omega) (by rw[cl];simp only[SB,S9];unfold maxLen;omega) fun ua uc I7 A7 a0 aS dy=>?_;refine Uq ?_;refine av a0 (by exact qX) rfl rfl rfl rfl rfl Vm fun xb I8 b6 a5 ct=>?_;have hX:Sl Pj I8 (.slice (some ⟨xb,0,none⟩) 1 1) [i]:=⟨_,_,rfl,.inr ⟨xb,0,[iv i],rfl,az ct (by simp[aE,Value.cells]) (by simp[aE,Value.cells,iv]),.one rfl⟩⟩;refine Uq ?_;refine Um b6 [1,0] fun b5=>?_;have cf:=Ui ap (Ui aj (Ui ao (Ui aS a5)))
    refine aY (R:=Pj) (xs:=ats) (ys:=[i]) b5 (by exact qX) (NI.le hB cf) hX (fun{I J c a} h k=>h) (fun{I} c a h=>by rw[show c=_ from h];rfl) (fun{I} c a h=>by rw[show c=_ from h];rfl) rfl rfl rfl rfl (by simp only[SB,S9];omega) (by simp only[SB,S9];unfold maxLen;omega) fun wa wc I9 B9 b4 a4 dw=>?_;apply RG;simp only[go_sem,iv,bJ,e72];refine Um b4 [1,0] fun b3=>?_;refine a3 (i+tx.length,.slice ua (l.map ch++[ch (kd,tx)]).length uc,.slice wa (ats++[i]).length wc) _ _ V9 Us (by simp only[go_sem,Tq,OK]) ⟨I9,A7,B9,l++[(kd,tx)],ats++[i],rfl,b3,Ui am (Ui cf a4),by simp only;omega,?_,dw,by simp[cs],by simp only[Tu,SB,S9];omega,?_⟩
    ·simp only;rw[Uc];exact ui.le dy (Ui a5 a4)
    ·simp only;rw[an,Option.map_map,Tn];congr 1;funext z;simp
 ·have:i=s.length:=by omega
  subst this;have cc:=Z6 s.length;rw[T4,F6]at an;refine Um a9 [1,0] fun a2=>?_;refine Um a2 [0,1] fun ak=>?_;refine ag ak fun I9 ak aj ca=>?_;apply RG;simp only[go_sem,bJ,cc];refine ai rfl ak (r:=[_,_,_]) rfl (Ui bd (Ui am aj)) ?_;unfold vT;rw[b1,an];exact⟨A1,_,_,rfl,rfl,by simpa using ui.le hA aj⟩
theorem K4:aP Tryz.prog 76:=⟨_,Tryz.func76,rfl,rfl⟩
theorem Oi{α:Type}{l:List α}{i:Nat}{n:α}(h:l[i]?=some n):l.take (i+1)=l.take i++[n]:=by
 rw[List.take_add_one,h];rfl
def sF(s:bM):Option (List (Nat×bM)):=match xM s with
 |some l=>if l.length>256 then none else some l
 |none=>none
def Kc(s:bM)(v:Value)(I2:PH)(qs:List PH):Prop:=match sF s with
 |none=>(∃k:Nat,k≠0/\v=.tuple #[.slice none 0 0,iv k])/\qs=[]
 |some l=>∃A va,v=.tuple #[va,iv 0]/\qs=[A]/\ui I2 A va (l.map ch)
theorem Kr{I:PH}{s:bM}(hl:s.length<2^40)(hV:fN I):aO Tryz.prog 82 #[.string ⟨⟨s⟩⟩] I [] (Kc s):=by
 intro hd;refine ir 21 Tryz.func82 fun w0=>?_;refine Un ?_;refine V7 hd rfl Jg (LS hl hV) fun v I2 qs ak aj hq=>?_;unfold vT at hq;unfold Kc sF;cases hx:xM s with
 |none=>
  rw[hx]at hq;obtain⟨rfl,rfl⟩:=hq;refine Un ?_;exact ai rfl ak (r:=[_,_]) rfl aj ⟨⟨4,by decide,rfl⟩,rfl⟩
 |some l=>
  rw[hx]at hq;obtain⟨A,va,vb,rfl,rfl,hA⟩:=hq;simp only[Z3]at ak |-;obtain⟨aa,ac,rfl⟩:=hA.shape;simp only[Sz];rcases Sw 256 l.length with h|h
  ·have ao:decide ((l.length:Int)>256)=true:=Uh Vi;refine Um ak [0] fun an=>?_;refine ag an fun I3 an am ap=>?_;apply RG;simp only[go_sem,Sz,ao];exact ai rfl an (r:=[_,_]) rfl (Ui aj am) (by rw[SI h];exact⟨⟨5,by decide,rfl⟩,rfl⟩)
  ·have ao:decide ((l.length:Int)>256)=false:=Ug Vi;apply RG;simp only[go_sem,Sz,ao];exact ai rfl ak (r:=[_,_]) rfl aj (by rw[Sb (Nat.not_lt.2 h)];exact⟨A,_,rfl,rfl,by rw[<-Sz (f:=ch)];exact hA⟩)
theorem DP{k:Nat}{x:bM}(h:sF x=none):xg k x=false:=by
 unfold xg;apply Ug;intro e;unfold sF at h;rw[e]at h;simp at h
theorem CU{k:Nat}{x:bM}{l:List (Nat×bM)}(h:sF x=some l):xg k x=decide (l=[(k,x)]):=by
 unfold xg sF at *;cases e:xM x with
 |none=>rw[e]at h;cases h
 |some m=>
  rw[e]at h;simp only at h;split at h
  ·cases h
  ·cases h;simp
theorem En{I:PH}{k:Nat}{x:bM}(hl:x.length<2^40)(hV:fN I):aO Tryz.prog 133 #[.int .u8 k,.string ⟨⟨x⟩⟩] I [] fun r I2 qs=>qs=[]/\r=.bool (xg k x):=by
 intro hd;refine ir 35 Tryz.func133 fun w0=>?_;refine Un ?_;refine V7 hd rfl ER (Kr hl hV) fun v I2 qs ap ak hq=>?_;unfold Kc at hq;cases hx:sF x with
 |none=>
  rw[hx]at hq;obtain⟨⟨j,hj,rfl⟩,rfl⟩:=hq;have a3:((j:Int) == 0)=false:=by simp;omega
  apply RG;simp only[go_sem,iv,a3];exact ai rfl ap (r:=[_]) rfl ak ⟨rfl,by rw[DP hx];rfl⟩
 |some l=>
  rw[hx]at hq;obtain⟨A,va,rfl,rfl,hA⟩:=hq;simp only[Z3]at ap |-;rw[CU hx];obtain⟨aa,ac,rfl⟩:=hA.shape;refine Um ap [0] fun an=>?_;refine ag an fun I3 an aj a2=>?_;have hS:Sl cJ I3 (.slice aa (l.map ch).length ac) (l.map ch):=Ow.sl (R:=cJ) (fun{I J c a} h k=>cJ.le h k) hA aj a2;by_cases h1:l.length=1
  ·obtain⟨⟨p,y⟩,rfl⟩:=List.length_eq_one_iff.1 h1;obtain⟨b,off,cs,rfl,a1,am⟩:=Sl.load (fun{I} c a h=>cJ.len c a h) hS (i:=0) (x:=ch (p,y)) rfl;obtain⟨path,file,line,a,kk,rfl,_,hr⟩:=a1;have c0:=am.get (i:=0) rfl;have c1:=am.get (i:=1) rfl;have aS:(((1:Nat):Int) == 1)=true:=rfl;apply RG;simp only[go_sem,iv,List.map,SB,S9,aS];refine Qz (l:=[.int .u8 p]) rfl (cellsU an (.head _) (by simpa[ch]using c0)) (.inr ⟨MR,rfl⟩) ?_;cases hk:((p:Int) == (k:Int))
   ·have ao:((p,y)::([]:List (Nat×bM)))≠[(k,x)]:=by
     intro e;simp only[TX,S3,TY]at e;rw[e.1]at hk;simp at hk
    apply RG;simp only[go_sem,hk];exact ai rfl an (r:=[_]) rfl (Ui ak aj) ⟨rfl,by rw[Ug ao];rfl⟩
   ·have a0:p=k:=by have:=eq_of_beq hk;omega
    subst a0;apply RG;simp only[go_sem,hk];refine Qz (l:=[.string ⟨⟨y⟩⟩]) rfl (cellsU an (.head _) (by simpa[ch]using c1)) (.inr ⟨rz,rfl⟩) ?_;refine Un ?_;exact ai rfl an (r:=[.bool (y == x)]) rfl (Ui ak aj) ⟨rfl,by show Value.bool _=_;congr 1;rw[Jj];simp⟩
  ·have aS:((((l.map ch).length:Nat):Int) == 1)=false:=by simp;omega
   have ao:l≠[(k,x)]:=fun e=>h1 (by rw[e];rfl);apply RG;simp only[go_sem,iv,aS];exact ai rfl an (r:=[_]) rfl (Ui ak aj) ⟨rfl,by rw[Ug ao];rfl⟩
abbrev OT(I A:PH)(v:Value)(l:List Tok):Prop:=Ow qi 4 1 I A v l
theorem OT.le{I J A:PH}{v:Value}{l:List Tok}(h:OT I A v l)(k:I.le J):OT J A v l:=Ow.le (R:=qi) (fun{I J c a} h k=>h) h k
def O7(lv:Value)(n:Nat)(x:Nat×Value):St:=⟨dn 129 [(0,.v lv),(3,.p 20 0),(21,.v lv),(22,.v (iv n)),(23,.v (iv x.1))],[⟨20,161,[lv,x.2,.slice none 0 0,.int .i64 0,.slice none 0 0]⟩]⟩
def RJ(ts:List Tok)(I0:PH)(x:Nat×Value)(H:PH):Prop:=∃I A,H=U [I,A]/\Dj [I,A]/\I0.le I/\x.1<=ts.length/\OT I A x.2 ((ts.map refit).take x.1)
theorem LR.refit{I:PH}:∀{ts:List Tok} {xs:List Value},LR (cJ I) xs ts->LR (cJ I) xs (ts.map refit)
 | [],_,h=>h
 |_::_,_,⟨c,ys,e,h1,h2⟩=>⟨c,ys,e,h1,LR.refit h2⟩
theorem Sl.refit{I:PH}{v:Value}{ts:List Tok}(h:Sl cJ I v ts):Sl cJ I v (ts.map refit):=by
 obtain⟨a,c,rfl,h⟩:=h;exact⟨a,c,by rw[Sz],h.imp (fun e=>by rw[e];rfl) fun⟨b,off,xs,e1,e2,e3⟩=>⟨b,off,xs,e1,e2,LR.refit e3⟩⟩
theorem yV{I:PH}{lv:Value}{ts:List Tok}(hV:fN I)(hT:Sl cJ I lv ts)(hl:ts.length<=16384)(hx:∀t∈ts,t.text.length<2^40):
  aO Tryz.prog 76 #[lv] I [] fun r I2 qs=>∃pb fv,r=pt pb/\qs=[sg pb (bD lv fv (.slice none 0 0) (.slice none 0 0) 0)]/\Sl qi I2 fv (ts.map refit):=by
 obtain⟨la,lc,rfl,_⟩:=id hT;intro hd;refine ir 129 Tryz.func76 fun w0=>?_;refine Un ?_;refine aT hd fun a7=>?_;refine aB (fun x=>ts.length-x.1) (O7 (.slice la ts.length lc) ts.length) (RJ ts I) (0,.slice none 0 0) Uo (by simp only[go_sem,Tq,O7]) ?_ ?_
 ·exact⟨I,PH.no,rfl,a7,Uj _,S6 _,Ow.nil _ _ _ _⟩
 rintro⟨i,vo⟩ H ⟨I1,A1,rfl,aS,ac,hi,hA⟩ ak;simp only at hi hA;simp only[O7];obtain⟨oa,oc,rfl⟩:=hA.shape;rcases Sw i ts.length with a3|bx
 ·have a0:decide ((i:Int)<(ts.length:Int))=true:=Uh Vi;have e1:IntKind.i64.wrap ((i:Int)+1)=((i+1:Nat):Int):=by rw[<-wrap64 (n:=i+1) Vi];congr 1
  obtain⟨t,ht⟩:∃t,ts[i]?=some t:=⟨_,SC a3⟩;have a4:(ts.map refit)[i]?=some (refit t):=by rw[SA,ht];rfl
  have a1:((ts.map refit).take i).length=i:=by simp;omega
  obtain⟨b,off,cs,rfl,a9,an⟩:=Sl.load (fun{I} c a h=>cJ.len c a h) (Sl.le (R:=cJ) (fun{I J c a} h k=>cJ.le h k) hT ac) ht;obtain⟨path,file,line,a,kk,rfl,a2,hr⟩:=a9;apply RG;simp only[go_sem,iv,a0];refine⟨Vi,?_⟩;refine Qz (l:=[.int .u8 t.kind,.string ⟨⟨t.text⟩⟩,path,.int .i64 file,.int .i64 line,sD a kk t.cond,rD t.cond]) (v:=.agg #[.int .u8 t.kind,.string ⟨⟨t.text⟩⟩,path,.int .i64 file,.int .i64 line,sD a kk t.cond,rD t.cond]) rfl (cellsU aS (.head _) an) (.inl ⟨Oy,rfl⟩) ?_;unfold one at a2;apply RG;simp only[go_sem,iv,sD,rD,a2];refine V8 [0,1,2,3,4,5,6,7,8,9,10,11,12,13,14] [] [] ?_;refine Ur ?_;refine i7 aS [0] [] [A1] rfl IS rfl (En (k:=t.kind) (hx t (Tg ht)) (hV.le ac)) fun v I3 qs aj aa hq=>?_;obtain⟨rfl,rfl⟩:=hq;simp only[Z3]at aj |-;refine Ur ?_;refine aZ aj (by exact KS) rfl rfl rfl rfl rfl Vm fun nb I4 ap am a5=>?_;have ba:Sl qi I4 (.slice (some ⟨nb,0,none⟩) 1 1) [refit t]:=⟨_,_,rfl,.inr ⟨nb,0,_,rfl,az a5 (by simp[aE,Value.cells]) (by simp[aE,Value.cells,refit]),.one rfl⟩⟩;refine Ur ?_;refine eZ (R:=qi) (xs:=(ts.map refit).take i) (ys:=[refit t]) ap (by exact KS) (OT.le hA (Ui aa am)) ba (fun{I J c a} h k=>h) (fun{I} c a h=>qi.len (I:=I) c a h) (fun{I} c a h=>by rw[show c=_ from h];rfl) rfl rfl rfl rfl rfl rfl (by rw[a1];simp only[SB,S9];omega) (by rw[a1];simp only[SB,S9];unfold maxLen;omega) fun ua uc I5 A5 a6 ao bb=>?_;refine Ur ?_;refine aw ?_;apply RG;simp only[go_sem,iv,e1]
  exact ak (i+1,.slice ua ((ts.map refit).take i++[refit t]).length uc) _ _ V9 Uo (by simp only[go_sem,Tq,O7]) ⟨I5,A5,rfl,a6,Ui ac (Ui aa (Ui am ao)),a3,by simp only;rw[Oi a4];exact bb⟩
 ·have:i=ts.length:=by omega
  subst this;have a0:=Z6 ts.length;have bd:decide ((ts.length:Int)<=16384)=true:=Uh Vi;have ef:(ts.map refit).take ts.length=ts.map refit:=by rw[<-Sz (f:=refit),Td]
  rw[ef]at hA |-;refine Um aS [0] fun aj=>?_;refine ag (c:=.st _) aj fun I3 aj aa bc=>?_;have hF:Sl qi I3 (.slice oa (ts.map refit).length oc) (ts.map refit):=Ow.sl (R:=qi) (fun{I J c a} h k=>h) hA aa bc;apply bq 3;simp only[go_sem,iv,a0];refine eP 20 aj rfl fun pb ap=>?_;apply RG;simp only[go_sem,kE,List.map,bd];exact ai rfl ap (r:=[pt pb]) rfl (Ui ac aa) ⟨pb,_,rfl,rfl,hF⟩
end Go.Proofs.YtfaclfkpnmcmlaaGreatDoor
namespace Syn
open Dg
def tD(o:List bX)(d:bX):List bX:=
 match o.getLast? with
 |some x=>if x.key=d.key then o.dropLast++[{ x with cond:=x.cond.or d.cond }]else o++[d]
 |none=>[d]
structure qb(p o:List bX):Prop where
 so:o.Pairwise fun a b=>tS a.key b.key=true
 ks:∀k,k∈o.map bX.key<->k∈p.map bX.key
 ok:∀x∈o,x.cond.ok 0
 at':∀x∈o,∀c,x.cond.at' c=true<->∃d∈p,d.key=x.key/\d.cond.at' c=true
theorem qb.nil:qb [] []:=⟨List.Pairwise.nil,fun k=>Iff.rfl,fun x h=>by simp at h,fun x h=>by simp at h⟩
theorem qb.put{p o:List bX}{d:bX}(h:qb p o)(hd:d.cond.ok 0)(hs:∀x∈p,tS d.key x.key=false):qb (p++[d]) (tD o d):=by
 have ao:∀x∈o,tS d.key x.key=false:=fun x hx=>by
  obtain⟨y,hy,e⟩:=List.mem_map.1 ((h.ks x.key).1 (List.mem_map_of_mem hx));rw[<-e];exact hs y hy
 unfold tD;cases hl:o.getLast? with
 |none=>
  have ho:o=[]:=List.getLast?_eq_none_iff.1 hl;subst ho;have hp:p=[]:=by
   cases p with
   |nil=>rfl
   |cons y p=>exact absurd ((h.ks y.key).2 (by simp)) (by simp)
  subst hp;refine⟨Th _ _,fun k=>by simp,fun x hx=>?_,fun x hx c=>?_⟩
  ·rw[List.mem_singleton.1 hx];exact hd
  ·rw[List.mem_singleton.1 hx];constructor
   ·intro hc;exact⟨d,by simp,rfl,hc⟩
   ·rintro⟨y,hy,_,hc⟩;have:y=d:=by simpa using hy
    rw[<-this];exact hc
 |some x=>
  obtain⟨q,rfl⟩:=List.getLast?_eq_some_iff.1 hl;simp only;have aj:x∈q++[x]:=by simp
  have ak:∀y∈q,tS y.key x.key=true:=fun y hy=>by
   have:=(List.pairwise_append.1 h.so).2.2 y hy x (by simp);exact this
  split
  ·rename_i e;rw[List.dropLast_concat];have am:=h.ok x aj;refine⟨?_,fun k=>?_,fun y hy=>?_,fun y hy c=>?_⟩
   ·have:=List.pairwise_append.1 h.so;refine List.pairwise_append.2 ⟨this.1,Th _ _,fun a ha b hb=>?_⟩;rw[List.mem_singleton.1 hb];exact ak a ha
   ·have:=h.ks k;simp only[Uc,Ti,Tf,List.map_nil,List.mem_singleton]at this |-;show k∈q.map bX.key\/k=x.key<->_;rw[this,<-e];constructor
    ·exact .inl
    ·rintro(h1|h1)
     ·exact h1
     ·rw[h1];exact(h.ks x.key).1 (List.mem_map_of_mem aj)
   ·rcases List.mem_append.1 hy with h1|h1
    ·exact h.ok y (SM _ h1)
    ·rw[List.mem_singleton.1 h1];exact T.or_ok am hd
   ·rcases List.mem_append.1 hy with h1|h1
    ·rw[h.at' y (SM _ h1) c];have ac:d.key≠y.key:=fun e2=>by
      have:=ak y h1;rw[e,e2,gQ.irr]at this;cases this
     constructor
     ·rintro⟨z,hz,e1,e2⟩;exact⟨z,by simp[hz],e1,e2⟩
     ·rintro⟨z,hz,e1,e2⟩;rcases List.mem_append.1 hz with h2|h2
      ·exact⟨z,h2,e1,e2⟩
      ·rw[List.mem_singleton.1 h2]at e1;exact absurd e1 ac
    ·rw[List.mem_singleton.1 h1];show (x.cond.or d.cond).at' c=true<->_;rw[T.or_at am hd,SQ,h.at' x aj c];show _<->∃z∈p++[d],z.key=x.key/\_;constructor
     ·rintro(⟨z,hz,e1,e2⟩|hc)
      ·exact⟨z,by simp[hz],e1,e2⟩
      ·exact⟨d,by simp,e.symm,hc⟩
     ·rintro⟨z,hz,e1,e2⟩;rcases List.mem_append.1 hz with h2|h2
      ·exact .inl ⟨z,h2,e1,e2⟩
      ·rw[List.mem_singleton.1 h2]at e2;exact .inr e2
  ·rename_i ac;have an:tS x.key d.key=true:=by
    have h1:=ao x aj;cases h2:tS x.key d.key with
    |true=>rfl
    |false=>exact absurd (gQ.tri _ _ h2 h1) ac
   have aa:∀y∈q++[x],tS y.key d.key=true:=fun y hy=>by
    rcases List.mem_append.1 hy with h1|h1
    ·exact gQ.tr _ _ _ (ak y h1) an
    ·rw[List.mem_singleton.1 h1];exact an
   refine⟨List.pairwise_append.2 ⟨h.so,Th _ _,fun a ha b hb=>by rw[List.mem_singleton.1 hb];exact aa a ha⟩,fun k=>?_,fun y hy=>?_,fun y hy c=>?_⟩
   ·rw[Uc (l₁:=q++[x]),Uc (l₁:=p),Ti,Ti,h.ks k]
   ·rcases List.mem_append.1 hy with h1|h1
    ·exact h.ok y h1
    ·rw[List.mem_singleton.1 h1];exact hd
   ·rcases List.mem_append.1 hy with h1|h1
    ·rw[h.at' y h1 c];have ac:d.key≠y.key:=fun e2=>by
      have:=aa y h1;rw[<-e2,gQ.irr]at this;cases this
     constructor
     ·rintro⟨z,hz,e1,e2⟩;exact⟨z,by simp[hz],e1,e2⟩
     ·rintro⟨z,hz,e1,e2⟩;rcases List.mem_append.1 hz with h2|h2
      ·exact⟨z,h2,e1,e2⟩
      ·rw[List.mem_singleton.1 h2]at e1;exact absurd e1 ac
    ·rw[List.mem_singleton.1 h1];constructor
     ·intro hc;exact⟨d,by simp,rfl,hc⟩
     ·rintro⟨z,hz,e1,e2⟩;rcases List.mem_append.1 hz with h2|h2
      ·have h3:=(h.ks d.key).2 (by rw[<-e1];exact List.mem_map_of_mem h2);obtain⟨y,hy,e3⟩:=List.mem_map.1 h3;have:=aa y hy;rw[e3,gQ.irr]at this;cases this
      ·rw[List.mem_singleton.1 h2]at e2;exact e2
theorem qb.all:∀(l p o:List bX),qb p o->(∀d∈l,d.cond.ok 0)->(p++l).Pairwise (fun a b=>tS b.key a.key=false)->qb (p++l) (l.foldl tD o)
 | [],p,o,h,_,_=>by simpa using h
 |d::l,p,o,h,aa,hs=>by
  have h1:=List.pairwise_append.1 hs;have:=qb.all l (p++[d]) (tD o d) (h.put (aa d (.head _)) fun x hx=>h1.2.2 x hx d (.head _)) (fun y hy=>aa y (.tail _ hy)) (by simpa using hs);simpa using this
theorem qb.eq{p o l:List bX}(h:qb p o)(hp:∀d,d∈p<->d∈l/\d.cond≠ff)(hl:xQ l):o=yA l:=by
 have hk:o.map bX.key=MT l:=by
  refine kF gQ (List.pairwise_map.2 h.so) (eE gQ _) fun k=>?_;unfold MT;rw[h.ks k,j4 gQ];simp only[SZ,SY,SX];constructor
  ·rintro⟨d,hd,e⟩;exact⟨d,(hp d).1 hd,e⟩
  ·rintro⟨d,hd,e⟩;exact⟨d,(hp d).2 hd,e⟩
 unfold yA;rw[<-hk,SK]
 conv=>lhs;rw[<-List.map_id o]
 refine SL fun x hx=>?_;have hc:x.cond=qM l x.key:=by
  refine T.ext (h.ok x hx) (Hf hl) fun c=>?_;have h1:=h.at' x hx c;have h2:=xU (k:=x.key) (c:=c) hl;have h3:x.cond.at' c=true<->(qM l x.key).at' c=true:=by
   rw[h1,h2];constructor
   ·rintro⟨d,hd,e1,e2⟩;exact⟨d,((hp d).1 hd).1,e1,e2⟩
   ·rintro⟨d,hd,e1,e2⟩;exact⟨d,(hp d).2 ⟨hd,fun e=>by rw[e]at e2;cases e2⟩,e1,e2⟩
  cases ha:x.cond.at' c<;>cases hb:(qM l x.key).at' c<;>simp_all
 simp only[id,Function.comp];rw[<-hc];cases x;rfl
end Syn
namespace Go.Proofs.YtfaclfkpnmcmlaaGreatDoor
open Go Go.Sx Dg Syn
theorem HT:aP Tryz.prog 280:=⟨_,Tryz.func280,rfl,rfl⟩
theorem CD:aP Tryz.prog 225:=⟨_,Tryz.func225,rfl,rfl⟩
theorem J0:aP Tryz.prog 297:=⟨_,Tryz.func297,rfl,rfl⟩
theorem HN:aP Tryz.prog 298:=⟨_,Tryz.func298,rfl,rfl⟩
theorem Il:aP Tryz.prog 273:=⟨_,Tryz.func273,rfl,rfl⟩
theorem kZ:∀(f x k:Nat),x<2^f->(Lib.bitLenAux f x<=k<->x<2^k)
 |0,x,k,h=>by
  have:x=0:=by simpa using h
  subst this;simp[Lib.bitLenAux,Nat.two_pow_pos]
 |f+1,x,k,h=>by
  rw[Lib.bitLenAux];by_cases hx:x=0
  ·subst hx;simp[Nat.two_pow_pos]
  ·rw[Sb hx];cases k with
   |zero=>simp;omega
   |succ k=>
    have:=kZ f (x / 2) k (by rw[Ty]at h;omega);rw[Ty];omega
theorem Dq{n:Nat}(h:n<2^64):Lib.bitLen n=Sort.bitsLen n:=by
 apply Nat.le_antisymm
 ·exact(kZ 64 n _ h).2 (Sort.lt_two_pow_bitsLen n)
 ·exact(Sort.bitsLen_le_iff n _).2 ((kZ 64 n _ h).1 (R7 _))
theorem Jf{n:Nat}(hn:n<2^63)(H:PH):bv Tryz.prog 280 #[.int .u64 n] H fun v H2=>v=iv (Sort.bitsLen n)/\H2=H:=by
 intro w hw;refine(Any.bits_Len64 { Tryz.lays171 with } (n:Int) w Vi Vi).mono ?_;rintro e w2 ⟨rfl,rfl⟩;exact⟨H,cS.refl hw,by rw[Int.toNat_natCast,Dq Vi];rfl,rfl⟩
theorem KG{n:Nat}(hn:n<2^63)(H:PH):bv Tryz.prog 225 #[.int .u64 n] H fun v H2=>v=iv (Sort.bitsLen n)/\H2=H:=by
 refine ir 8 Tryz.func225 fun w0=>?_;refine Un ?_;refine Pf rfl HT (Jf hn H) fun v H2 hv=>?_;obtain⟨rfl,rfl⟩:=hv;refine Un ?_;exact aK (r:=[_]) rfl ⟨rfl,rfl⟩
theorem l4{n:Nat}(h:n<2^64):IntKind.u64.wrap (n:Int)=(n:Int):=by
 simp only[IntKind.wrap,show IntKind.bits .u64=64 from rfl,show IntKind.signed .u64=false from rfl];simp;omega
theorem LD{n:Nat}(hn:n<2^41)(H:PH):bv Tryz.prog 297 #[iv n] H fun v H2=>v=.int .u64 ((2^Sort.bitsLen n:Nat):Int)/\H2=H:=by
 have hb:Sort.bitsLen n<=41:=(Sort.bitsLen_le_iff n 41).2 hn;refine ir 7 Tryz.func297 fun w0=>?_
 try simp only[iv]
 have w1:=l4 (n:=n) Vi;apply RG;simp only[go_sem,w1];refine Pf rfl CD (KG Vi H) fun v H2 hv=>?_;obtain⟨rfl,rfl⟩:=hv;have h0:(0:Int)<=(Sort.bitsLen n:Int):=TP _;have w2:zU .u64 1 (Sort.bitsLen n:Int)=((2^Sort.bitsLen n:Nat):Int):=by
  unfold zU;rw[show IntKind.bits .u64=64 from rfl,Int.toNat_natCast,S8 Vi];have h2:2^Sort.bitsLen n<=2^41:=Tz Vi hb;have:=l4 (n:=2^Sort.bitsLen n) Vi;rw[show (1:Int)*2^Sort.bitsLen n=((2^Sort.bitsLen n:Nat):Int) by simp];exact this
 apply RG;simp only[go_sem,iv,h0,w2];exact aK (r:=[_]) rfl ⟨rfl,rfl⟩
abbrev Kq(b:Nat)(x:Int):PH:=sg b (.cells #[.int .u64 x] 377 (0,0))
theorem Lw{I:PH}{rb:Nat}{x:Int}:aO Tryz.prog 298 #[pt rb] I [Kq rb x] fun r I2 qs=>I2=I/\∃y,qs=[Kq rb y]/\r=.int .u64 y:=by
 intro hd;refine ir 33 Tryz.func298 fun w0=>?_
 try simp only[pt]
 have cl:∀x,aQ (Kq rb x) rb 0 [.int .u64 x]:=fun x=>aU (by simp) rfl;refine Un ?_;refine V8 [0,1,2,3,4,5,6,7,8,9] [2,5] [9] ?_;refine Vx ?_;refine P7 (l:=[.int .u64 x]) rfl (cellsU hd (.tail _ (.head _)) (cl x)) (.inr ⟨qA,rfl⟩) ?_;refine Vx ?_;refine P7 (l:=[.int .u64 x]) rfl (cellsU hd (.tail _ (.head _)) (cl x)) (.inr ⟨qA,rfl⟩) ?_;refine Vx ?_;refine aH hd rfl rfl rfl rfl rfl rfl (by exact BK) (by simp) fun aa=>?_;refine aw ?_;clear hd;simp only[be,List.set]at aa |-;obtain⟨x,hx⟩:∃y,y=xH .u64 x (zU .u64 x 13):=⟨_,rfl⟩;rw[<-hx]at aa |-;clear hx;have hd:=aa;clear aa;refine VI ?_;refine V8 [0,1,2,3,4,5,6,7,8,9] [2,5] [9] ?_;refine Vx ?_;refine P7 (l:=[.int .u64 x]) rfl (cellsU hd (.tail _ (.head _)) (cl x)) (.inr ⟨qA,rfl⟩) ?_;refine Vx ?_;refine P7 (l:=[.int .u64 x]) rfl (cellsU hd (.tail _ (.head _)) (cl x)) (.inr ⟨qA,rfl⟩) ?_;refine Vx ?_;refine aH hd rfl rfl rfl rfl rfl rfl (by exact BK) (by simp) fun aa=>?_;refine aw ?_;clear hd;simp only[be,List.set]at aa |-;obtain⟨x,hx⟩:∃y,y=xH .u64 x (qj .u64 x 7):=⟨_,rfl⟩;rw[<-hx]at aa |-;clear hx;have hd:=aa;clear aa;refine VI ?_;refine V8 [0,1,2,3,4,5,6,7,8,9] [2,5] [9] ?_;refine Vx ?_;refine P7 (l:=[.int .u64 x]) rfl (cellsU hd (.tail _ (.head _)) (cl x)) (.inr ⟨qA,rfl⟩) ?_;refine Vx ?_;refine P7 (l:=[.int .u64 x]) rfl (cellsU hd (.tail _ (.head _)) (cl x)) (.inr ⟨qA,rfl⟩) ?_;refine Vx ?_;refine aH hd rfl rfl rfl rfl rfl rfl (by exact BK) (by simp) fun aa=>?_;refine aw ?_;clear hd;simp only[be,List.set]at aa |-;obtain⟨x,hx⟩:∃y,y=xH .u64 x (zU .u64 x 17):=⟨_,rfl⟩;rw[<-hx]at aa |-;clear hx;have hd:=aa;clear aa;refine VI ?_;refine Qz (l:=[.int .u64 x]) rfl (cellsU hd (.tail _ (.head _)) (cl x)) (.inr ⟨qA,rfl⟩) ?_;refine VI ?_;exact ai rfl hd (r:=[_]) rfl (Uj _) ⟨rfl,x,rfl,rfl⟩
theorem NW{x:Int}{m:Nat}(hm:m<2^62):∃z:Nat,qN .u64 x (m:Int)=(z:Int)/\z<=m:=by
 unfold qN;rw[show IntKind.bits .u64=64 from rfl,BitVec.toNat_and];have h2:(BitVec.ofInt 64 (m:Int)).toNat=m:=by
  rw[BitVec.toNat_ofInt];omega
 rw[h2];have h3:(BitVec.ofInt 64 x).toNat&&&m<=m:=Nat.and_le_right;exact⟨_,l4 Vi,h3⟩
def Ni(v:Value)(a n m rb idx:Nat):St:=⟨dn 67 [(0,.v v),(1,.v (iv a)),(8,.v (iv n)),(9,.v (pt rb)),(10,.v (.int .u64 m)),(11,.v (iv idx))],[]⟩
theorem H4{I A:PH}{v vc:Value}{d:Array Nd}{a b:Nat}(hA:br I A v d.toList)(b6:a<=b)(hb:b<=d.size)(hn:d.size<=aF):
  aO Tryz.prog 273 #[v,iv a,iv b,vc] I [A] fun _ I2 qs=>∃A2 d2,qs=[A2]/\Sort.PermIn a b d d2/\br I2 A2 v d2.toList:=by
 intro hd;unfold aF at hn;obtain⟨va,vk,rfl⟩:=Ow.one' hA;refine ir 67 Tryz.func273 fun w0=>?_
 try simp only[iv]
 have w1:IntKind.i64.wrap ((b:Int)-(a:Int))=((b-a:Nat):Int):=by
  rw[bQ Vi Vi];omega
 rcases Sw (b-a) 8 with h8|h8
 ·have a4:decide (((b-a:Nat):Int)>=8)=false:=Ug Vi;apply RG;simp only[go_sem,w1,a4];exact eO rfl hd (r:=[]) rfl (Uj _) ⟨A,d,rfl,Sort.permIn_refl d a b,hA⟩
 have a4:decide (((b-a:Nat):Int)>=8)=true:=Uh Vi;have w2:IntKind.u64.wrap ((b-a:Nat):Int)=((b-a:Nat):Int):=l4 Vi;apply bq 20;simp only[go_sem,w1,a4,w2];refine eP 9 hd rfl fun rb bb=>?_;have ba:Dj [I,Kq rb ((b-a:Nat):Int),A]:=bb
 change RC _ _ _ (U [I,Kq rb ((b-a:Nat):Int),A])
 clear bb hd;refine Um ba [1,0] fun b3=>?_;clear ba;have ap:(((b-a:Nat):Int)).tdiv 4=(((b-a) / 4:Nat):Int):=rfl;obtain⟨q,bx⟩:∃q,q=(b-a) / 4:=⟨_,rfl⟩;have w0':IntKind.i64.wrap ((((b-a) / 4:Nat):Int))=(q:Int):=by rw[<-bx];exact wrap64 Vi
 have w3:IntKind.i64.wrap ((q:Int)*2)=((2*q:Nat):Int):=by rw[<-wrap64 (n:=2*q) Vi];congr 1;omega
 have w4:IntKind.i64.wrap ((a:Int)+((2*q:Nat):Int))=((a+2*q:Nat):Int):=by rw[<-wrap64 (n:=a+2*q) Vi];congr 1
 have w5:IntKind.i64.wrap (((a+2*q:Nat):Int)-1)=((a+2*q-1:Nat):Int):=by rw[<-wrap64 (n:=a+2*q-1) Vi];congr 1;omega
 have w6:IntKind.i64.wrap (((a+2*q:Nat):Int)+1)=((a+2*q+1:Nat):Int):=by rw[<-wrap64 (n:=a+2*q+1) Vi];congr 1
 apply RG;simp only[go_sem,kE,List.map,iv,pt];refine Pf rfl J0 (LD (n:=b-a) Vi _) fun r H2 hv=>?_;obtain⟨rfl,rfl⟩:=hv;have b1:=Sort.two_pow_bitsLen_le (n:=b-a) Vi;have b0:0<2^Sort.bitsLen (b-a):=Nat.two_pow_pos _;generalize 2^Sort.bitsLen (b-a)=m at b1 b0 |-;have w7:IntKind.u64.wrap ((m:Int)-1)=((m-1:Nat):Int):=by rw[<-l4 (n:=m-1) Vi];congr 1;omega
 apply RG;simp only[go_sem,kE,List.map,iv,pt,ap,w0',w3,w4,w5];refine aB (fun x=>a+2*q+2-x) (Ni (.slice va d.size vk) a (b-a) m rb) (fun x H=>∃y A2 d2,H=U [I,A2,Kq rb y]/\Dj [I,A2,Kq rb y]/\a<=x/\x<=a+2*q+2/\Sort.PermIn a b d d2/\br I A2 (.slice va d.size vk) d2.toList) (a+2*q-1) Us (by simp only[go_sem,Tq,Ni,iv,pt]) ?_ ?_
 ·exact⟨_,A,d,rfl,b3,Vi,Vi,Sort.permIn_refl d a b,hA⟩
 rintro x H ⟨y,A2,d2,rfl,a9,a5,b5,an,a2⟩ aa;simp only[Ni];have a6:d2.size=d.size:=an.1;have bc:decide ((x:Int)<=((a+2*q+1:Nat):Int))=decide (x<=a+2*q+1):=by simp only[Int.ofNat_le]
 by_cases hx:x<=a+2*q+1
 ·have ao:decide (x<=a+2*q+1)=true:=Uh hx;have w8:IntKind.i64.wrap ((x:Int)+1)=((x+1:Nat):Int):=by rw[<-wrap64 (n:=x+1) Vi];congr 1
  apply RG;simp only[go_sem,iv,pt,ap,w0',w3,w4,w6,bc,ao];refine f6 a9 [1,0] [Kq rb y] [A2] rfl HN rfl (Lw) fun r I3 qs a7 b2 hq=>?_;obtain⟨rfl,y2,rfl,rfl⟩:=hq;simp only[Z3]at a7 |-;obtain⟨z,hz,b4⟩:=NW (x:=y2) (m:=m-1) Vi;have w9:IntKind.i64.wrap (z:Int)=(z:Int):=wrap64 Vi;refine Um a7 [1,0] fun ak=>?_;rcases Sw z (b-a)with bd|bd
  ·have a3:decide ((z:Int)>=((b-a:Nat):Int))=false:=Ug Vi;apply RG;simp only[go_sem,iv,pt,w7,hz,w9,a3];have ho:z<b-a:=by omega
   have w10:IntKind.i64.wrap ((a:Int)+((z:Nat):Int))=((a+(z):Nat):Int):=by rw[<-wrap64 (n:=a+(z)) Vi];congr 1
   generalize z=o at ho w10 |-;obtain⟨g,cp,cur,ci,cj,ev,rfl,a0,ri,rj,li,lj,ki,kj,ac⟩:=Ow.two a2 (fun{I} c a h=>aW.len c a h) (fun{I J c a} h k=>aW.le h k) (i:=x) (j:=a+o) Vi Vi;rw[a6]at ev a0;cases ev
   have mi:(x+1)*7<=d.size*7:=Tb _ Vi;have mj:((a+o)+1)*7<=d.size*7:=Tb _ Vi;refine V8 [0,1,2,3,4,5,6,7,8,9,10,11,12,13,14,15,16,17,18,19] [11,15] [] ?_;apply af;simp only[go_sem,iv,w10];refine⟨Vi,?_⟩;refine P7 (l:=cj) (v:=.agg cj.toArray) rfl (cellsU ak (.tail _ (.head _)) (by simpa using kj)) (.inl ⟨by rw[lj];exact bT,rfl⟩) ?_;apply af;simp only[go_sem,iv,w10];refine⟨Vi,?_⟩;refine P7 (l:=ci) (v:=.agg ci.toArray) rfl (cellsU ak (.tail _ (.head _)) (by simpa using ki)) (.inl ⟨by rw[li];exact bT,rfl⟩) ?_;apply af;simp only[go_sem,iv,w10];refine⟨Vi,?_⟩;refine aH ak rfl rfl rfl rfl rfl (aM (aW.ones rj)) (by rw[lj];exact fx) (by rw[lj];omega) fun aS=>?_;apply af;simp only[go_sem,iv,w10];refine⟨Vi,?_⟩;refine aH aS rfl rfl rfl rfl rfl (aM (aW.ones ri)) (by rw[li];exact fx) (by rw[li];simp[aJ];omega) fun aj=>?_;refine aw ?_;apply RG;simp only[go_sem,iv,w8];have a1:=ac I3 (Uj _);exact aa (x+1) _ _ Vi Us (by simp only[go_sem,Tq,Ni,iv,pt]) ⟨y2,_,_,rfl,aj,Vi,Vi,Sort.permIn_trans _ _ _ _ _ an (Sort.swp_permIn d2 a b x (a+o) a5 Vi Vi Vi Vi),a1⟩
  ·have a3:decide ((z:Int)>=((b-a:Nat):Int))=true:=Uh Vi;have w11:IntKind.i64.wrap ((z:Int)-((b-a:Nat):Int))=((z-(b-a):Nat):Int):=by rw[bQ Vi Vi];omega
   apply RG;simp only[go_sem,iv,pt,w7,hz,w9,a3,w11];have ho:z-(b-a)<b-a:=by omega
   have w10:IntKind.i64.wrap ((a:Int)+((z-(b-a):Nat):Int))=((a+(z-(b-a)):Nat):Int):=by rw[<-wrap64 (n:=a+(z-(b-a))) Vi];congr 1
   generalize z-(b-a)=o at ho w10 |-;obtain⟨g,cp,cur,ci,cj,ev,rfl,a0,ri,rj,li,lj,ki,kj,ac⟩:=Ow.two a2 (fun{I} c a h=>aW.len c a h) (fun{I J c a} h k=>aW.le h k) (i:=x) (j:=a+o) Vi Vi;rw[a6]at ev a0;cases ev
   have mi:(x+1)*7<=d.size*7:=Tb _ Vi;have mj:((a+o)+1)*7<=d.size*7:=Tb _ Vi;refine V8 [0,1,2,3,4,5,6,7,8,9,10,11,12,13,14,15,16,17,18,19] [11,15] [] ?_;apply af;simp only[go_sem,iv,w10];refine⟨Vi,?_⟩;refine P7 (l:=cj) (v:=.agg cj.toArray) rfl (cellsU ak (.tail _ (.head _)) (by simpa using kj)) (.inl ⟨by rw[lj];exact bT,rfl⟩) ?_;apply af;simp only[go_sem,iv,w10];refine⟨Vi,?_⟩;refine P7 (l:=ci) (v:=.agg ci.toArray) rfl (cellsU ak (.tail _ (.head _)) (by simpa using ki)) (.inl ⟨by rw[li];exact bT,rfl⟩) ?_;apply af;simp only[go_sem,iv,w10];refine⟨Vi,?_⟩;refine aH ak rfl rfl rfl rfl rfl (aM (aW.ones rj)) (by rw[lj];exact fx) (by rw[lj];omega) fun aS=>?_;apply af;simp only[go_sem,iv,w10];refine⟨Vi,?_⟩;refine aH aS rfl rfl rfl rfl rfl (aM (aW.ones ri)) (by rw[li];exact fx) (by rw[li];simp[aJ];omega) fun aj=>?_;refine aw ?_;apply RG;simp only[go_sem,iv,w8];have a1:=ac I3 (Uj _);exact aa (x+1) _ _ Vi Us (by simp only[go_sem,Tq,Ni,iv,pt]) ⟨y2,_,_,rfl,aj,Vi,Vi,Sort.permIn_trans _ _ _ _ _ an (Sort.swp_permIn d2 a b x (a+o) a5 Vi Vi Vi Vi),a1⟩
 ·have ao:decide (x<=a+2*q+1)=false:=Ug hx;apply RG;simp only[go_sem,iv,pt,ap,w0',w3,w4,w6,bc,ao];refine Um a9 [1,0] fun aj=>?_;refine ag (c:=.st _) aj fun I9 aj am ca=>?_;exact eO rfl aj (r:=[]) rfl am ⟨A2,d2,rfl,an,br.le a2 am⟩
theorem BX{C:Cx}{kx:List Item}{c:Cf}{σ:St}{H:PH}{α:Type}(S:α->St)(E:α->PH->Prop)
  (first:(∀a σ1 H',nh (S a).tm σ1.tm->od (S a).bx σ1.bx->E a H'->RC C (.st kx) σ1 H')->RC C c σ H)
  (rest:∀a H,E a H->RC C (.st kx) (S a) H):RC C c σ H:=first fun a σ1 H' h1 h2 h3=>dK h1 h2 (rest a H' h3)
theorem H7:aP Tryz.prog 276:=⟨_,Tryz.func276,rfl,rfl⟩
def kU(v va vb vc:Value)(x:Nat×Nat):St:=⟨dn 141 [(0,.v v),(1,.v va),(2,.v vb),(3,.v vc),(9,.v (iv x.2)),(10,.v (iv x.1))],[]⟩
def yu(v va vb vc:Value)(st i j:Nat):St:=⟨dn 141 [(0,.v v),(1,.v va),(2,.v vb),(3,.v vc),(9,.v (iv i)),(10,.v (iv st)),(11,.v (iv j))],[]⟩
def zt(v va vb vc:Value)(st i j:Nat):St:=⟨dn 141 [(0,.v v),(1,.v va),(2,.v vb),(3,.v vc),(9,.v (iv i)),(10,.v (iv st)),(12,.v (iv j))],[]⟩
theorem Lx{I A:PH}{v vc:Value}{d:Array Nd}{a b:Nat}(hA:br I A v d.toList)(hc:jT aW cz vc)(dv:a<b)(hb:b<=d.size)(hn:d.size<=aF):
  aO Tryz.prog 276 #[v,iv a,iv b,vc] I [A] fun r I2 qs=>∃A2,qs=[A2]/\br I2 A2 v (Sort.partialInsertionSort cz d a b).1.toList/\r=.bool (Sort.partialInsertionSort cz d a b).2:=by
 intro hd;unfold aF at hn;obtain⟨f,fst,cap,rfl,gf,cf⟩:=id hc;obtain⟨g0,vk,rfl⟩:=Ow.addr hA Vi;refine ir 141 Tryz.func276 fun w0=>?_
 try simp only[iv]
 have w1:IntKind.i64.wrap ((a:Int)+1)=((a+1:Nat):Int):=by
  have e0:(a:Int)+1=((a+1:Nat):Int):=by omega
  rw[e0];exact wrap64 Vi
 apply RG;simp only[go_sem,w1];refine aB (fun x=>5-x.1) (kU (.slice (some ⟨g0,0,none⟩) d.size vk) (iv a) (iv b) (.func (.func f) fst cap)) (fun x H=>∃I2 A2 d2,H=U [I2,A2]/\Dj [I2,A2]/\I.le I2/\x.1<=5/\a+1<=x.2/\x.2<=b/\d2.size=d.size/\br I2 A2 (.slice (some ⟨g0,0,none⟩) d.size vk) d2.toList/\Sort.partialIns cz a b (5-x.1) x.2 d2=Sort.partialInsertionSort cz d a b) (0,a+1) Uo (by simp only[go_sem,Tq,kU]) ?_ ?_
 ·exact⟨I,A,d,rfl,hd,Uj _,S6 _,R7 _,dv,rfl,hA,rfl⟩
 rintro⟨st,i0⟩ H ⟨I2,A2,d2,rfl,c9,b3,dd,ds,c6,cx,da,ak⟩ b2;simp only at dd ds c6 ak;simp only[kU];rcases Sw st 5 with dw|dA
 ·have c4:decide ((st:Int)<5)=true:=Uh Vi;have ws:IntKind.i64.wrap ((st:Int)+1)=((st+1:Nat):Int):=by
   have e0:(st:Int)+1=((st+1:Nat):Int):=by omega
   rw[e0];exact wrap64 Vi
  obtain⟨s,hs⟩:∃s,5-st=s+1:=⟨5-st-1,Vi⟩;rw[hs,Sort.partialIns]at ak;have dj:5-(st+1)=s:=by omega
  apply RG;simp only[go_sem,iv,c4];apply cO (fun x=>b-x) (fun x=>kU (.slice (some ⟨g0,0,none⟩) d.size vk) (iv a) (iv b) (.func (.func f) fst cap) (st,x)) (fun x H=>∃I3 A3,H=U [I3,A3]/\Dj [I3,A3]/\I2.le I3/\br I3 A3 (.slice (some ⟨g0,0,none⟩) d.size vk) d2.toList/\i0<=x/\x<=b/\Sort.scanSorted cz d2 b x=Sort.scanSorted cz d2 b i0) (fun x H=>∃I3 A3,H=U [I3,A3]/\Dj [I3,A3]/\I2.le I3/\br I3 A3 (.slice (some ⟨g0,0,none⟩) d.size vk) d2.toList/\i0<=x/\x<=b/\x=Sort.scanSorted cz d2 b i0) i0
  ·exact Uo
  ·exact(by simp only[go_sem,Tq,kU])
  ·exact⟨I2,A2,rfl,c9,Uj _,da,R7 _,c6,rfl⟩
  ·rintro x H ⟨I3,A3,rfl,a0,aS,a6,c5,cr,ac⟩ a9 a7;simp only[kU];rw[Sort.scanSorted]at ac;rcases Sw x b with ca|ca
   ·have b6:decide ((x:Int)<(b:Int))=true:=Uh Vi;obtain⟨x,rfl⟩:∃x',x=x'+1:=⟨x-1,Vi⟩;have p1:=jM (j:=x) Vi;have p2:IntKind.i64.wrap (((x+1:Nat):Int)+1)=((x+1+1:Nat):Int):=by
     have e0:((x+1:Nat):Int)+1=((x+1+1:Nat):Int):=by omega
     rw[e0];exact wrap64 Vi
    obtain⟨g,cp,cur,ci,cj,ev,rfl,cB,ri,rj,li,lj,ki,kj,b1⟩:=Ow.two a6 (fun{I} c a h=>aW.len c a h) (fun{I J c a} h k=>aW.le h k) (i:=x+1) (j:=x) Vi Vi;rw[cx]at ev cB;simp only[Value.slice.injEq,Sc,Addr.mk.injEq,TY,SP]at ev;obtain⟨eg,ek⟩:=ev;subst eg;subst ek;refine Uq ?_;refine V8 [0,1,2,3,4,5,6,7,8,9,10,11,12,13,14,15,16,17] [8,13] [] ?_;apply af;simp only[go_sem,iv,b6,p1];refine⟨Vi,?_⟩;refine P7 (l:=ci) (v:=.agg ci.toArray) rfl (cellsU a0 (.tail _ (.head _)) (by simpa using ki)) (.inl ⟨by rw[li];exact bT,rfl⟩) ?_;apply af;simp only[go_sem,iv,b6,p1];refine⟨Vi,?_⟩;refine P7 (l:=cj) (v:=.agg cj.toArray) rfl (cellsU a0 (.tail _ (.head _)) (by simpa using kj)) (.inl ⟨by rw[lj];exact bT,rfl⟩) ?_;apply af;simp only[go_sem,iv,b6,p1];refine i7 a0 [0] [] [_] rfl gf rfl (cf I3 _ _ _ _ ri rj) fun v I4 qs bb a3 hq=>?_;obtain⟨rfl,z,rfl,hz⟩:=hq;simp only[Z3]at bb |-;refine Ur ?_;refine aw ?_;rw[Tx]at ac;cases hl:cz d2[x+1]! d2[x]! with
    |true=>
     rw[hl]at hz;rw[Sb (by simp[hl])]at ac;apply bq 3;simp only[go_sem,iv,hz,Ud];exact a7 (x+1) _ _ Uo (by simp only[go_sem,Tq,kU]) ⟨I4,_,rfl,bb,Ui aS a3,br.le a6 a3,c5,cr,ac⟩
    |false=>
     rw[hl]at hz;rw[SI (by simp[hl];omega)]at ac;apply RG;simp only[go_sem,iv,hz,T7,p2];exact a9 (x+1+1) _ _ Vi Uo (by simp only[go_sem,Tq,kU]) ⟨I4,_,rfl,bb,Ui aS a3,br.le a6 a3,Vi,Vi,ac⟩
   ·have b6:decide ((x:Int)<(b:Int))=false:=Ug Vi;rw[Sb (by simp;omega)]at ac;refine Uq ?_;refine V8 [0,1,2,3,4,5,6,7,8,9,10,11,12,13,14,15,16,17] [8,13] [] ?_;apply af;simp only[go_sem,iv,b6];refine aw ?_;apply bq 3;simp only[go_sem,iv];exact a7 x _ _ Uo (by simp only[go_sem,Tq,kU]) ⟨I3,A3,rfl,a0,aS,a6,c5,cr,ac⟩
  rintro i H ⟨I3,A3,rfl,a0,aS,a6,dy,dx,dk⟩;simp only[kU];rw[<-dk]at ak;simp only at ak;have k3:=Ui b3 aS;by_cases cy:i=b
  ·have cn:((i:Int) == (b:Int))=true:=by rw[cy];simp
   rw[SI cy]at ak;apply RG;simp only[go_sem,iv,cn];exact ai rfl a0 (r:=[.bool true]) rfl k3 ⟨A3,rfl,by rw[<-ak];exact a6,by rw[<-ak];rfl⟩
  have cn:((i:Int) == (b:Int))=false:=by rw[Uf];omega
  rw[Sb cy]at ak;have w3:IntKind.i64.wrap ((b:Int)-(a:Int))=((b-a:Nat):Int):=by
   rw[bQ Vi Vi];omega
  by_cases dc:b-a<50
  ·have c3:decide (((b-a:Nat):Int)<50)=true:=Uh Vi;rw[SI dc]at ak;apply RG;simp only[go_sem,iv,cn,w3,c3];exact ai rfl a0 (r:=[.bool false]) rfl k3 ⟨A3,rfl,by rw[<-ak];exact a6,by rw[<-ak];rfl⟩
  have c3:decide (((b-a:Nat):Int)<50)=false:=Ug Vi;rw[Sb dc]at ak;obtain⟨i,rfl⟩:∃x',i=x'+1:=⟨i-1,Vi⟩;have p1:=jM (j:=i) Vi;rw[Tx]at ak;apply RG;simp only[go_sem,iv,cn,w3,c3];obtain⟨g,cp,cur,ci,cj,ev,rfl,cB,ri,rj,li,lj,ki,kj,b1⟩:=Ow.two a6 (fun{I} c a h=>aW.len c a h) (fun{I J c a} h k=>aW.le h k) (i:=i+1) (j:=i) Vi Vi;rw[cx]at ev cB;simp only[Value.slice.injEq,Sc,Addr.mk.injEq,TY,SP]at ev;obtain⟨eg,ek⟩:=ev;subst eg;subst ek;have mi:((i+1)+1)*7<=d.size*7:=Tb _ Vi;have mj:(i+1)*7<=d.size*7:=Tb _ Vi;refine V8 [0,1,2,3,4,5,6,7,8,9,10,11,12,13,14,15,16,17] [9,13] [] ?_;apply af;simp only[go_sem,iv,p1];refine⟨Vi,?_⟩;refine P7 (l:=cj) (v:=.agg cj.toArray) rfl (cellsU a0 (.tail _ (.head _)) (by simpa using kj)) (.inl ⟨by rw[lj];exact bT,rfl⟩) ?_;apply af;simp only[go_sem,iv,p1];refine⟨Vi,?_⟩;refine P7 (l:=ci) (v:=.agg ci.toArray) rfl (cellsU a0 (.tail _ (.head _)) (by simpa using ki)) (.inl ⟨by rw[li];exact bT,rfl⟩) ?_;apply af;simp only[go_sem,iv,p1];refine⟨Vi,?_⟩;refine aH a0 rfl rfl rfl rfl rfl (aM (aW.ones rj)) (by rw[lj];exact fx) (by rw[lj];omega) fun b4=>?_;apply af;simp only[go_sem,iv,p1];refine⟨Vi,?_⟩;refine aH b4 rfl rfl rfl rfl rfl (aM (aW.ones ri)) (by rw[li];exact fx) (by rw[li];simp[aJ];omega) fun bb=>?_;refine aw ?_;have cm:=b1 I3 (Uj _);obtain⟨d4,ed4⟩:∃d4,d4=Sort.swp d2 (i+1) i:=⟨_,rfl⟩;have ct:d4.size=d.size:=by rw[ed4,cH];exact cx
  rw[<-ed4]at cm ak;have w5:IntKind.i64.wrap (((i+1:Nat):Int)-(a:Int))=((i+1-a:Nat):Int):=by
   rw[bQ Vi Vi];omega
  have w6:IntKind.i64.wrap ((b:Int)-((i+1:Nat):Int))=((b-(i+1):Nat):Int):=by
   rw[bQ Vi Vi];omega
  have w7:IntKind.i64.wrap (((i+1:Nat):Int)+1)=((i+1+1:Nat):Int):=by
   have e0:((i+1:Nat):Int)+1=((i+1+1:Nat):Int):=by omega
   rw[e0];exact wrap64 Vi
  obtain⟨d5,hd5e⟩:∃d5,d5=if i+1-a>=2 then Sort.shiftDown cz i d4 else d4:=⟨_,rfl⟩
  rw[<-hd5e]at ak;obtain⟨d6,hd6e⟩:∃d6,d6=if b-(i+1)>=2 then Sort.shiftUp cz b (i+1+1) d5 else d5:=⟨_,rfl⟩
  rw[<-hd6e]at ak;apply BX (fun _:Unit=>kU (.slice (some ⟨g0,0,none⟩) d.size vk) (iv a) (iv b) (.func (.func f) fst cap) (st,i+1)) (fun _ H=>∃I5 A5,H=U [I5,A5]/\Dj [I5,A5]/\I3.le I5/\d5.size=d.size/\br I5 A5 (.slice (some ⟨g0,0,none⟩) d.size vk) d5.toList)
  ·intro hm;rcases Sw (i+1-a) 2 with b5|b5
   ·have c2:decide (((i+1-a:Nat):Int)>=2)=false:=Ug Vi;rw[Sb (show ¬(i+1-a>=2) by omega)]at hd5e;apply bq 10;simp only[go_sem,iv,w5,c2];exact hm () _ _ Uo (by simp only[go_sem,Tq,kU]) ⟨I3,_,rfl,bb,Uj _,by rw[hd5e];exact ct,by rw[hd5e];exact cm⟩
   ·have c2:decide (((i+1-a:Nat):Int)>=2)=true:=Uh Vi;rw[SI (show i+1-a>=2 from b5)]at hd5e;apply RG;simp only[go_sem,iv,w5,c2,p1];apply cO (fun x=>x) (fun x=>yu (.slice (some ⟨g0,0,none⟩) d.size vk) (iv a) (iv b) (.func (.func f) fst cap) st (i+1) x) (fun x H=>∃I6 A6 d6,H=U [I6,A6]/\Dj [I6,A6]/\I3.le I6/\x<=i/\d6.size=d.size/\br I6 A6 (.slice (some ⟨g0,0,none⟩) d.size vk) d6.toList/\Sort.shiftDown cz x d6=Sort.shiftDown cz i d4) (fun x H=>∃I6 A6 d6,H=U [I6,A6]/\Dj [I6,A6]/\I3.le I6/\d6.size=d.size/\br I6 A6 (.slice (some ⟨g0,0,none⟩) d.size vk) d6.toList/\d6=Sort.shiftDown cz i d4) (i)
    ·exact Uo
    ·exact(by simp only[go_sem,Tq,yu])
    ·exact⟨I3,_,d4,rfl,bb,Uj _,R7 _,ct,cm,rfl⟩
    ·rintro x H ⟨I6,A6,d6,rfl,a5,an,hx,a2,bd,ac⟩ am aj;simp only[yu];cases x with
     |zero=>
      have c1:decide ((0:Int)>=1)=false:=rfl;rw[Sort.shiftDown]at ac;apply bq 8;simp only[go_sem,iv,c1];exact aj 0 _ _ Uo (by simp only[go_sem,Tq,yu]) ⟨I6,A6,d6,rfl,a5,an,a2,bd,ac⟩
     |succ x=>
      have c1:decide (((x+1:Nat):Int)>=1)=true:=Uh Vi;rw[Sort.shiftDown]at ac;have q1:=jM (j:=x) Vi;apply RG;simp only[go_sem,iv,c1];obtain⟨gs,cps,curs,cis,cjs,evs,rfl,bc,ris,rjs,lis,ljs,kis,kjs,ap⟩:=Ow.two bd (fun{I} c a h=>aW.len c a h) (fun{I J c a} h k=>aW.le h k) (i:=x+1) (j:=x) Vi Vi;rw[a2]at evs bc;simp only[Value.slice.injEq,Sc,Addr.mk.injEq,TY,SP]at evs;obtain⟨egs,eks⟩:=evs;subst egs;subst eks;refine V8 [0,1,2,3,4,5,6,7,8,9,10,11,12] [4,9] [] ?_;apply af;simp only[go_sem,iv,q1];refine⟨Vi,?_⟩;refine P7 (l:=cis) (v:=.agg cis.toArray) rfl (cellsU a5 (.tail _ (.head _)) (by simpa using kis)) (.inl ⟨by rw[lis];exact bT,rfl⟩) ?_;apply af;simp only[go_sem,iv,q1];refine⟨Vi,?_⟩;refine P7 (l:=cjs) (v:=.agg cjs.toArray) rfl (cellsU a5 (.tail _ (.head _)) (by simpa using kjs)) (.inl ⟨by rw[ljs];exact bT,rfl⟩) ?_;apply af;simp only[go_sem,iv,q1];refine i7 a5 [0] [] [_] rfl gf rfl (cf I6 _ _ _ _ ris rjs) fun v I7 qs ao aa hq=>?_;obtain⟨rfl,z,rfl,a1⟩:=hq;simp only[Z3]at ao |-;refine Ur ?_;refine aw ?_;cases a4:cz d6[x+1]! d6[x]! with
      |false=>
       rw[a4]at a1;rw[SI (by simp[a4])]at ac;apply bq 2;simp only[go_sem,iv,a1,T7];exact aj (x+1) _ _ Uo (by simp only[go_sem,Tq,yu]) ⟨I7,_,d6,rfl,ao,Ui an aa,a2,br.le bd aa,ac⟩
      |true=>
       rw[a4]at a1;rw[Sb (by simp[a4])]at ac;apply RG;simp only[go_sem,iv,a1,Ud];have mi:((x+1)+1)*7<=d.size*7:=Tb _ Vi;have mj:(x+1)*7<=d.size*7:=Tb _ Vi;refine V8 [0,1,2,3,4,5,6,7,8,9,10,11,12,13,14,15,16,17] [9,13] [] ?_;apply af;simp only[go_sem,iv,q1];refine⟨Vi,?_⟩;refine P7 (l:=cjs) (v:=.agg cjs.toArray) rfl (cellsU ao (.tail _ (.head _)) (by simpa using kjs)) (.inl ⟨by rw[ljs];exact bT,rfl⟩) ?_;apply af;simp only[go_sem,iv,q1];refine⟨Vi,?_⟩;refine P7 (l:=cis) (v:=.agg cis.toArray) rfl (cellsU ao (.tail _ (.head _)) (by simpa using kis)) (.inl ⟨by rw[lis];exact bT,rfl⟩) ?_;apply af;simp only[go_sem,iv,q1];refine⟨Vi,?_⟩;refine aH ao rfl rfl rfl rfl rfl (aM (aW.ones rjs)) (by rw[ljs];exact fx) (by rw[ljs];omega) fun b4=>?_;apply af;simp only[go_sem,iv,q1];refine⟨Vi,?_⟩;refine aH b4 rfl rfl rfl rfl rfl (aM (aW.ones ris)) (by rw[lis];exact fx) (by rw[lis];simp[aJ];omega) fun cA=>?_;refine aw ?_;apply RG;simp only[go_sem,iv,q1];exact am x _ _ Vi Uo (by simp only[go_sem,Tq,yu]) ⟨I7,_,_,rfl,cA,Ui an aa,Vi,by rw[cH];exact a2,ap I7 aa,ac⟩
    rintro y H ⟨I5,A5,d5',rfl,cc,ba,cb,cl,c8⟩;exact hm () _ _ (ae (by simp only[go_sem,Tq,yu,iv])) (by simp only[go_sem,Tq,kU,yu]) ⟨I5,A5,rfl,cc,ba,by rw[hd5e,<-c8];exact cb,by rw[hd5e,<-c8];exact cl⟩
  rintro _ H ⟨I5,A5,rfl,cc,ba,cb,cl⟩;simp only[kU];have k5:=Ui k3 ba;clear bb cm ct a0 a6;apply BX (fun _:Unit=>kU (.slice (some ⟨g0,0,none⟩) d.size vk) (iv a) (iv b) (.func (.func f) fst cap) (st,i+1)) (fun _ H=>∃I7 A7,H=U [I7,A7]/\Dj [I7,A7]/\I5.le I7/\d6.size=d.size/\br I7 A7 (.slice (some ⟨g0,0,none⟩) d.size vk) d6.toList)
  ·intro hm;rcases Sw (b-(i+1)) 2 with b5|b5
   ·have b0:decide (((b-(i+1):Nat):Int)>=2)=false:=Ug Vi;rw[Sb (show ¬(b-(i+1)>=2) by omega)]at hd6e;apply bq 9;simp only[go_sem,iv,w6,b0];exact hm () _ _ Uo (by simp only[go_sem,Tq,kU]) ⟨I5,_,rfl,cc,Uj _,by rw[hd6e];exact cb,by rw[hd6e];exact cl⟩
   ·have b0:decide (((b-(i+1):Nat):Int)>=2)=true:=Uh Vi;rw[SI (show b-(i+1)>=2 from b5)]at hd6e;apply RG;simp only[go_sem,iv,w6,b0,w7];apply cO (fun x=>b-x) (fun x=>zt (.slice (some ⟨g0,0,none⟩) d.size vk) (iv a) (iv b) (.func (.func f) fst cap) st (i+1) x) (fun x H=>∃I6 A6 d6,H=U [I6,A6]/\Dj [I6,A6]/\I5.le I6/\i+1+1<=x/\x<=b/\d6.size=d.size/\br I6 A6 (.slice (some ⟨g0,0,none⟩) d.size vk) d6.toList/\Sort.shiftUp cz b x d6=Sort.shiftUp cz b (i+1+1) d5) (fun x H=>∃I6 A6 d6,H=U [I6,A6]/\Dj [I6,A6]/\I5.le I6/\d6.size=d.size/\br I6 A6 (.slice (some ⟨g0,0,none⟩) d.size vk) d6.toList/\d6=Sort.shiftUp cz b (i+1+1) d5) (i+1+1)
    ·exact Uo
    ·exact(by simp only[go_sem,Tq,zt])
    ·exact⟨I5,_,d5,rfl,cc,Uj _,R7 _,Vi,cb,cl,rfl⟩
    ·rintro x H ⟨I6,A6,d6,rfl,a5,an,hx,cr,a2,bd,ac⟩ am aj;simp only[zt];rw[Sort.shiftUp]at ac;rcases Sw x b with ca|ca
     rotate_left
     ·have bx:decide ((x:Int)<(b:Int))=false:=Ug Vi;rw[Sb Vi]at ac;apply bq 9;simp only[go_sem,iv,bx];exact aj x _ _ Uo (by simp only[go_sem,Tq,zt]) ⟨I6,A6,d6,rfl,a5,an,a2,bd,ac⟩
     ·have bx:decide ((x:Int)<(b:Int))=true:=Uh Vi;obtain⟨x,rfl⟩:∃x',x=x'+1:=⟨x-1,Vi⟩;rw[SI ca,Tx]at ac;have q1:=jM (j:=x) Vi;have q2:IntKind.i64.wrap (((x+1:Nat):Int)+1)=((x+1+1:Nat):Int):=by
       have e0:((x+1:Nat):Int)+1=((x+1+1:Nat):Int):=by omega
       rw[e0];exact wrap64 Vi
      apply RG;simp only[go_sem,iv,bx];obtain⟨gs,cps,curs,cis,cjs,evs,rfl,bc,ris,rjs,lis,ljs,kis,kjs,ap⟩:=Ow.two bd (fun{I} c a h=>aW.len c a h) (fun{I J c a} h k=>aW.le h k) (i:=x+1) (j:=x) Vi Vi;rw[a2]at evs bc;simp only[Value.slice.injEq,Sc,Addr.mk.injEq,TY,SP]at evs;obtain⟨egs,eks⟩:=evs;subst egs;subst eks;refine V8 [0,1,2,3,4,5,6,7,8,9,10,11,12] [4,9] [] ?_;apply af;simp only[go_sem,iv,q1];refine⟨Vi,?_⟩;refine P7 (l:=cis) (v:=.agg cis.toArray) rfl (cellsU a5 (.tail _ (.head _)) (by simpa using kis)) (.inl ⟨by rw[lis];exact bT,rfl⟩) ?_;apply af;simp only[go_sem,iv,q1];refine⟨Vi,?_⟩;refine P7 (l:=cjs) (v:=.agg cjs.toArray) rfl (cellsU a5 (.tail _ (.head _)) (by simpa using kjs)) (.inl ⟨by rw[ljs];exact bT,rfl⟩) ?_;apply af;simp only[go_sem,iv,q1];refine i7 a5 [0] [] [_] rfl gf rfl (cf I6 _ _ _ _ ris rjs) fun v I7 qs ao aa hq=>?_;obtain⟨rfl,z,rfl,a1⟩:=hq;simp only[Z3]at ao |-;refine Ur ?_;refine aw ?_;cases a4:cz d6[x+1]! d6[x]! with
      |false=>
       rw[a4]at a1;rw[SI (by simp[a4])]at ac;apply bq 2;simp only[go_sem,iv,a1,T7];exact aj (x+1) _ _ Uo (by simp only[go_sem,Tq,zt]) ⟨I7,_,d6,rfl,ao,Ui an aa,a2,br.le bd aa,ac⟩
      |true=>
       rw[a4]at a1;rw[Sb (by simp[a4])]at ac;apply RG;simp only[go_sem,iv,a1,Ud];have mi:((x+1)+1)*7<=d.size*7:=Tb _ Vi;have mj:(x+1)*7<=d.size*7:=Tb _ Vi;refine V8 [0,1,2,3,4,5,6,7,8,9,10,11,12,13,14,15,16,17] [9,13] [] ?_;apply af;simp only[go_sem,iv,q1];refine⟨Vi,?_⟩;refine P7 (l:=cjs) (v:=.agg cjs.toArray) rfl (cellsU ao (.tail _ (.head _)) (by simpa using kjs)) (.inl ⟨by rw[ljs];exact bT,rfl⟩) ?_;apply af;simp only[go_sem,iv,q1];refine⟨Vi,?_⟩;refine P7 (l:=cis) (v:=.agg cis.toArray) rfl (cellsU ao (.tail _ (.head _)) (by simpa using kis)) (.inl ⟨by rw[lis];exact bT,rfl⟩) ?_;apply af;simp only[go_sem,iv,q1];refine⟨Vi,?_⟩;refine aH ao rfl rfl rfl rfl rfl (aM (aW.ones rjs)) (by rw[ljs];exact fx) (by rw[ljs];omega) fun b4=>?_;apply af;simp only[go_sem,iv,q1];refine⟨Vi,?_⟩;refine aH b4 rfl rfl rfl rfl rfl (aM (aW.ones ris)) (by rw[lis];exact fx) (by rw[lis];simp[aJ];omega) fun cA=>?_;refine aw ?_;apply RG;simp only[go_sem,iv,q2];exact am (x+1+1) _ _ Vi Uo (by simp only[go_sem,Tq,zt]) ⟨I7,_,_,rfl,cA,Ui an aa,Vi,Vi,by rw[cH];exact a2,ap I7 aa,ac⟩
    rintro y H ⟨I7,A7,d7,rfl,ao,aa,cs,c0,c7⟩;exact hm () _ _ (ae (by simp only[go_sem,Tq,zt,iv])) (by simp only[go_sem,Tq,kU,zt]) ⟨I7,A7,rfl,ao,aa,by rw[hd6e,<-c7];exact cs,by rw[hd6e,<-c7];exact c0⟩
  rintro _ H ⟨I7,A7,rfl,ao,aa,cs,c0⟩;simp only[kU];apply RG;simp only[go_sem,iv,ws];exact b2 (st+1,i+1) _ _ V9 Uo (by simp only[go_sem,Tq,kU]) ⟨I7,A7,d6,rfl,ao,Ui k5 aa,by simp only;omega,by simp only;omega,by simp only;omega,cs,c0,by simp only;rw[dj];exact ak⟩
 ·have c4:decide ((st:Int)<5)=false:=Ug Vi;have:st=5:=by omega
  subst this;rw[Nat.sub_self,Sort.partialIns]at ak;apply RG;simp only[go_sem,iv,c4];exact ai rfl c9 (r:=[.bool false]) rfl b3 ⟨A2,rfl,by rw[<-ak];exact da,by rw[<-ak];rfl⟩
theorem Hg{I A:PH}{v vc:Value}{d:Array Nd}{a b pivot:Nat}(hA:br I A v d.toList)(hc:jT aW cz vc)(c6:a<=pivot)(c1:pivot<b)(hb:b<=d.size)(hn:d.size<=aF):
  aO Tryz.prog 277 #[v,iv a,iv b,iv pivot,vc] I [A] fun r I2 qs=>∃A2,qs=[A2]/\br I2 A2 v (Sort.partitionEqual cz d a b pivot).2.toList/\r=iv (Sort.partitionEqual cz d a b pivot).1:=by
 intro hd;unfold aF at hn;obtain⟨f,fst,cap,rfl,gf,cf⟩:=id hc;obtain⟨g0,vk,rfl⟩:=Ow.addr hA Vi;refine ir 90 Tryz.func277 fun w0=>?_
 try simp only[iv]
 have w1:IntKind.i64.wrap ((a:Int)+1)=((a+1:Nat):Int):=by
  have e0:(a:Int)+1=((a+1:Nat):Int):=by omega
  rw[e0];exact wrap64 Vi
 have w2:IntKind.i64.wrap ((b:Int)-1)=((b-1:Nat):Int):=by rw[gd Vi];omega
 refine Un ?_;obtain⟨g,cp,cur,ci,cj,ev,rfl,a4,ri,rj,li,lj,ki,kj,am⟩:=Ow.two hA (fun{I} c a h=>aW.len c a h) (fun{I J c a} h k=>aW.le h k) (i:=a) (j:=pivot) Vi Vi;simp only[Value.slice.injEq,Sc,Addr.mk.injEq,TY,SP]at ev;obtain⟨eg,ek⟩:=ev;subst eg;subst ek;have mi:(a+1)*7<=d.size*7:=Tb _ Vi;have mj:(pivot+1)*7<=d.size*7:=Tb _ Vi;refine V8 [0,1,2,3,4,5,6,7,8,9,10,11,12,13,14,15] [7,11] [] ?_;refine Ur ?_;refine⟨Vi,?_⟩;refine P7 (l:=cj) (v:=.agg cj.toArray) rfl (cellsU hd (.tail _ (.head _)) (by simpa using kj)) (.inl ⟨by rw[lj];exact bT,rfl⟩) ?_;refine Ur ?_;refine⟨Vi,?_⟩;refine P7 (l:=ci) (v:=.agg ci.toArray) rfl (cellsU hd (.tail _ (.head _)) (by simpa using ki)) (.inl ⟨by rw[li];exact bT,rfl⟩) ?_;refine Ur ?_;refine⟨Vi,?_⟩;refine aH hd rfl rfl rfl rfl rfl (aM (aW.ones rj)) (by rw[lj];exact fx) (by rw[lj];omega) fun b4=>?_;refine Ur ?_;refine⟨Vi,?_⟩;refine aH b4 rfl rfl rfl rfl rfl (aM (aW.ones ri)) (by rw[li];exact fx) (by rw[li];simp[aJ];omega) fun cA=>?_;refine aw ?_;have cl:=am I (Uj _);have cb:(Sort.swp d a pivot).size=d.size:=(cH _ _ _).trans rfl;obtain⟨d4,ed4⟩:∃d4,d4=Sort.swp d a pivot:=⟨_,rfl⟩;have hP:Sort.partitionEqual cz d a b pivot=Sort.partEqLoop cz a (a+1) (b-1) d4:=by rw[ed4];rfl
 rw[<-ed4]at cl cb;rw[hP];clear hP;apply RG;simp only[go_sem,iv,w1,w2];apply cO (fun x=>x.2+3-x.1) (fun x=>vu (.slice (some ⟨g0,0,none⟩) d.size vk) (iv a) (.func (.func f) fst cap) x) (fun x H=>∃I5 A5 d5,H=U [I5,A5]/\Dj [I5,A5]/\I.le I5/\d5.size=d.size/\br I5 A5 (.slice (some ⟨g0,0,none⟩) d.size vk) d5.toList/\1<=x.1/\x.1<=x.2+2/\x.2<=b-1/\Sort.partEqLoop cz a x.1 x.2 d5=Sort.partEqLoop cz a (a+1) (b-1) d4) (fun x H=>∃I5 A5,H=U [I5,A5]/\Dj [I5,A5]/\I.le I5/\br I5 A5 (.slice (some ⟨g0,0,none⟩) d.size vk) (Sort.partEqLoop cz a (a+1) (b-1) d4).2.toList/\x.1=(Sort.partEqLoop cz a (a+1) (b-1) d4).1) (a+1,b-1)
 ·exact Uo
 ·exact(by simp only[go_sem,Tq,vu])
 ·exact⟨I,_,d4,rfl,cA,Uj _,cb,cl,by simp only;omega,by simp only;omega,by simp only;omega,rfl⟩
 ·rintro⟨i5,j5⟩ H ⟨I5,A5,d5,rfl,c5,b0,a9,c8,cs,b2,cr,a3⟩ a0 a1;simp only at cs b2 cr a3;simp only[vu];refine Uq ?_;apply cO (fun x=>j5+2-x) (fun x=>vu (.slice (some ⟨g0,0,none⟩) d.size vk) (iv a) (.func (.func f) fst cap) (x,j5)) (fun x H=>∃Jz Az,H=U [Jz,Az]/\Dj [Jz,Az]/\I5.le Jz/\br Jz Az (.slice (some ⟨g0,0,none⟩) d.size vk) d5.toList/\i5<=x/\x<=j5+2/\Sort.scanUp (fun y=>!cz d5[a]! y) d5 j5 x=Sort.scanUp (fun y=>!cz d5[a]! y) d5 j5 i5) (fun x H=>∃Jz Az,H=U [Jz,Az]/\Dj [Jz,Az]/\I5.le Jz/\br Jz Az (.slice (some ⟨g0,0,none⟩) d.size vk) d5.toList/\i5<=x/\x<=j5+2/\x=Sort.scanUp (fun y=>!cz d5[a]! y) d5 j5 i5) i5
  ·exact Uo
  ·exact(by simp only[go_sem,Tq,vu])
  ·exact⟨I5,_,rfl,‹_›,Uj _,‹_›,R7 _,Vi,rfl⟩
  ·rintro x H ⟨Jz,Az,rfl,ap,aj,aS,ca,a5,ak⟩ an ac;simp only[vu];rcases Sw j5 x with ct|cn
   ·have ao:decide (((x:Nat):Int)<=((j5:Nat):Int))=false:=Ug Vi;rw[Sort.scanUp,Sb (by simp;omega)]at ak;have bb:=ak;refine Uq ?_;refine V8 [0,1,2,3,4,5,6,7,8,9,10,11,12,13,14,15,16] [8,12] [] ?_;apply af;simp only[go_sem,iv,ao];refine aw ?_;apply bq 3;simp only[go_sem,iv];exact ac x _ _ Uo (by simp only[go_sem,Tq,vu]) ⟨Jz,Az,rfl,ap,aj,aS,ca,a5,bb⟩
   ·have ao:decide (((x:Nat):Int)<=((j5:Nat):Int))=true:=Uh Vi;rw[Sort.scanUp]at ak;have p1:IntKind.i64.wrap ((x:Int)+1)=((x+1:Nat):Int):=by
     have e0:(x:Int)+1=((x+1:Nat):Int):=by omega
     rw[e0];exact wrap64 Vi
    obtain⟨g,cp,cur,ci,cj,ev,rfl,a4,ri,rj,li,lj,ki,kj,am⟩:=Ow.two aS (fun{I} c a h=>aW.len c a h) (fun{I J c a} h k=>aW.le h k) (i:=x) (j:=a) Vi Vi;rw[a9]at ev a4;simp only[Value.slice.injEq,Sc,Addr.mk.injEq,TY,SP]at ev;obtain⟨eg,ek⟩:=ev;subst eg;subst ek;refine Uq ?_;refine V8 [0,1,2,3,4,5,6,7,8,9,10,11,12,13,14,15,16] [8,12] [] ?_;apply af;simp only[go_sem,iv,ao];refine⟨Vi,?_⟩;refine P7 (l:=cj) (v:=.agg cj.toArray) rfl (cellsU ap (.tail _ (.head _)) (by simpa using kj)) (.inl ⟨by rw[lj];exact bT,rfl⟩) ?_;apply af;simp only[go_sem,iv,ao];refine⟨Vi,?_⟩;refine P7 (l:=ci) (v:=.agg ci.toArray) rfl (cellsU ap (.tail _ (.head _)) (by simpa using ki)) (.inl ⟨by rw[li];exact bT,rfl⟩) ?_;apply af;simp only[go_sem,iv,ao];refine i7 ap [0] [] [_] rfl gf rfl (cf Jz _ _ _ _ rj ri) fun v Jy qs a2 aa hq=>?_;obtain⟨rfl,z,rfl,hz⟩:=hq;simp only[Z3]at a2 |-;refine Ur ?_;refine aw ?_;cases hl:cz d5[a]! d5[x]! with
    |true=>
     rw[hl]at hz;rw[Sb (by simp[hl])]at ak;apply bq 3;simp only[go_sem,iv,hz,Ud];exact ac (x) _ _ Uo (by simp only[go_sem,Tq,vu]) ⟨Jy,_,rfl,a2,Ui aj aa,br.le aS aa,ca,a5,ak⟩
    |false=>
     rw[hl]at hz;rw[SI (by simp[hl];omega)]at ak;apply RG;simp only[go_sem,iv,hz,T7,p1];exact an (x+1) _ _ Vi Uo (by simp only[go_sem,Tq,vu]) ⟨Jy,_,rfl,a2,Ui aj aa,br.le aS aa,Vi,Vi,ak⟩
  rintro i6 H ⟨I6,A6,rfl,c4,bx,c7,c3,hi6b,b3⟩;simp only[vu];refine Uq ?_;apply cO (fun x=>x) (fun x=>vu (.slice (some ⟨g0,0,none⟩) d.size vk) (iv a) (.func (.func f) fst cap) (i6,x)) (fun x H=>∃Jz Az,H=U [Jz,Az]/\Dj [Jz,Az]/\I6.le Jz/\br Jz Az (.slice (some ⟨g0,0,none⟩) d.size vk) d5.toList/\x<=j5/\Sort.scanDown (fun y=>cz d5[a]! y) d5 i6 x=Sort.scanDown (fun y=>cz d5[a]! y) d5 i6 j5) (fun x H=>∃Jz Az,H=U [Jz,Az]/\Dj [Jz,Az]/\I6.le Jz/\br Jz Az (.slice (some ⟨g0,0,none⟩) d.size vk) d5.toList/\x<=j5/\x=Sort.scanDown (fun y=>cz d5[a]! y) d5 i6 j5) j5
  ·exact Uo
  ·exact(by simp only[go_sem,Tq,vu])
  ·exact⟨I6,_,rfl,‹_›,Uj _,‹_›,R7 _,rfl⟩
  ·rintro x H ⟨Jz,Az,rfl,ap,aj,aS,a5,ak⟩ an ac;simp only[vu];rcases Sw x i6 with ct|cn
   ·have ao:decide (((i6:Nat):Int)<=((x:Nat):Int))=false:=Ug Vi;have bb:x=Sort.scanDown (fun y=>cz d5[a]! y) d5 i6 j5:=by
     rw[<-ak];cases x with
     |zero=>rw[Sort.scanDown]
     |succ x=>rw[Sort.scanDown,Sb (by simp;omega)]
    refine Uq ?_;refine V8 [0,1,2,3,4,5,6,7,8,9,10,11,12,13,14,15] [8,12] [] ?_;apply af;simp only[go_sem,iv,ao];refine aw ?_;apply bq 3;simp only[go_sem,iv];exact ac x _ _ Uo (by simp only[go_sem,Tq,vu]) ⟨Jz,Az,rfl,ap,aj,aS,a5,bb⟩
   ·have ao:decide (((i6:Nat):Int)<=((x:Nat):Int))=true:=Uh Vi;obtain⟨x,rfl⟩:∃x',x=x'+1:=⟨x-1,Vi⟩;have p1:=jM (j:=x) Vi;rw[Sort.scanDown]at ak;obtain⟨g,cp,cur,ci,cj,ev,rfl,a4,ri,rj,li,lj,ki,kj,am⟩:=Ow.two aS (fun{I} c a h=>aW.len c a h) (fun{I J c a} h k=>aW.le h k) (i:=x+1) (j:=a) Vi Vi;rw[a9]at ev a4;simp only[Value.slice.injEq,Sc,Addr.mk.injEq,TY,SP]at ev;obtain⟨eg,ek⟩:=ev;subst eg;subst ek;refine Uq ?_;refine V8 [0,1,2,3,4,5,6,7,8,9,10,11,12,13,14,15] [8,12] [] ?_;apply af;simp only[go_sem,iv,ao];refine⟨Vi,?_⟩;refine P7 (l:=cj) (v:=.agg cj.toArray) rfl (cellsU ap (.tail _ (.head _)) (by simpa using kj)) (.inl ⟨by rw[lj];exact bT,rfl⟩) ?_;apply af;simp only[go_sem,iv,ao];refine⟨Vi,?_⟩;refine P7 (l:=ci) (v:=.agg ci.toArray) rfl (cellsU ap (.tail _ (.head _)) (by simpa using ki)) (.inl ⟨by rw[li];exact bT,rfl⟩) ?_;apply af;simp only[go_sem,iv,ao];refine i7 ap [0] [] [_] rfl gf rfl (cf Jz _ _ _ _ rj ri) fun v Jy qs a2 aa hq=>?_;obtain⟨rfl,z,rfl,hz⟩:=hq;simp only[Z3]at a2 |-;refine Ur ?_;refine aw ?_;cases hl:cz d5[a]! d5[x+1]! with
    |true=>
     rw[hl]at hz;rw[SI (by simp[hl];omega)]at ak;apply RG;simp only[go_sem,iv,hz,Ud,p1];exact an x _ _ Vi Uo (by simp only[go_sem,Tq,vu]) ⟨Jy,_,rfl,a2,Ui aj aa,br.le aS aa,Vi,ak⟩
    |false=>
     rw[hl]at hz;rw[Sb (by simp[hl])]at ak;apply bq 3;simp only[go_sem,iv,hz,T7];exact ac (x+1) _ _ Uo (by simp only[go_sem,Tq,vu]) ⟨Jy,_,rfl,a2,Ui aj aa,br.le aS aa,a5,ak⟩
  rintro j7 H ⟨I7,A7,rfl,ba,bd,cc,c2,b1⟩;simp only[vu];rw[Sort.partEqLoop_eq,<-b3,<-b1]at a3;have b6:=Ui b0 (Ui bx bd);by_cases a6:i6>j7
  ·have b5:decide ((i6:Int)>(j7:Int))=true:=Uh Vi;rw[SI a6]at a3;apply bq 8;simp only[go_sem,iv,b5];exact a1 (i6,j7) _ _ Uo (by simp only[go_sem,Tq,vu]) ⟨I7,A7,rfl,ba,b6,by rw[<-a3];exact cc,by rw[<-a3]⟩
  have b5:decide ((i6:Int)>(j7:Int))=false:=Ug Vi;rw[Sb a6]at a3;apply RG;simp only[go_sem,iv,b5];obtain⟨g,cp,cur,ci,cj,ev,rfl,a4,ri,rj,li,lj,ki,kj,am⟩:=Ow.two cc (fun{I} c a h=>aW.len c a h) (fun{I J c a} h k=>aW.le h k) (i:=i6) (j:=j7) Vi Vi;rw[a9]at ev a4;simp only[Value.slice.injEq,Sc,Addr.mk.injEq,TY,SP]at ev;obtain⟨eg,ek⟩:=ev;subst eg;subst ek;have mi:(i6+1)*7<=d.size*7:=Tb _ Vi;have mj:(j7+1)*7<=d.size*7:=Tb _ Vi;refine V8 [0,1,2,3,4,5,6,7,8,9,10,11,12,13,14,15] [7,11] [] ?_;refine Ur ?_;refine⟨Vi,?_⟩;refine P7 (l:=cj) (v:=.agg cj.toArray) rfl (cellsU ba (.tail _ (.head _)) (by simpa using kj)) (.inl ⟨by rw[lj];exact bT,rfl⟩) ?_;refine Ur ?_;refine⟨Vi,?_⟩;refine P7 (l:=ci) (v:=.agg ci.toArray) rfl (cellsU ba (.tail _ (.head _)) (by simpa using ki)) (.inl ⟨by rw[li];exact bT,rfl⟩) ?_;refine Ur ?_;refine⟨Vi,?_⟩;refine aH ba rfl rfl rfl rfl rfl (aM (aW.ones rj)) (by rw[lj];exact fx) (by rw[lj];omega) fun b4=>?_;refine Ur ?_;refine⟨Vi,?_⟩;refine aH b4 rfl rfl rfl rfl rfl (aM (aW.ones ri)) (by rw[li];exact fx) (by rw[li];simp[aJ];omega) fun cy=>?_;refine aw ?_;have c0:=am I7 (Uj _);have cm:(Sort.swp d5 i6 j7).size=d.size:=(cH _ _ _).trans a9;have w8:IntKind.i64.wrap ((i6:Int)+1)=((i6+1:Nat):Int):=by
   have e0:(i6:Int)+1=((i6+1:Nat):Int):=by omega
   rw[e0];exact wrap64 Vi
  have w9:IntKind.i64.wrap ((j7:Int)-1)=((j7-1:Nat):Int):=by rw[gd Vi];omega
  apply RG;simp only[go_sem,iv,w8,w9];exact a0 (i6+1,j7-1) _ _ V9 Uo (by simp only[go_sem,Tq,vu]) ⟨I7,_,_,rfl,cy,b6,cm,c0,by simp only;omega,by simp only;omega,by simp only;omega,a3⟩
 rintro⟨i9,j9⟩ H ⟨I9,A9,rfl,cx,bc,cB,a7⟩;simp only at a7;simp only[vu];rw[<-a7];refine Uq ?_;exact ai rfl cx (r:=[iv i9]) rfl bc ⟨A9,rfl,cB,rfl⟩
open Go.Sort (PermIn SortedIn SWO permIn_refl permIn_trans permIn_mono swp_permIn)
theorem xG:aP Tryz.prog 224:=⟨_,Tryz.func224,rfl,rfl⟩
theorem IA:aP Tryz.prog 147:=⟨_,Tryz.func147,rfl,rfl⟩
theorem o5{α:Type}{C:Cx}{k:List Item}(S:α->St)(E:α->PH->Prop){P:Prop}(h1:(∀a H,E a H->RC C (.st k) (S a) H)->P)(h:∀a H,E a H->RC C (.st k) (S a) H):P:=h1 h
structure PX where
 a:Nat
 b:Nat
 lim:Nat
 wb:Bool
 wp:Bool
def C4(v vc:Value)(x:PX):St:=⟨dn 148 [(0,.v v),(1,.v (iv x.a)),(2,.v (iv x.b)),(3,.v (iv x.lim)),(4,.v vc),(10,.v (.bool x.wb)),(11,.v (.bool x.wp))],[]⟩
def DD(v vc:Value)(x:PX)(lim:Nat):St:=⟨dn 148 [(0,.v v),(1,.v (iv x.a)),(2,.v (iv x.b)),(3,.v (iv lim)),(4,.v vc),(10,.v (.bool x.wb)),(11,.v (.bool x.wp)),(12,.v (iv (x.b-x.a)))],[]⟩
def JF(v vc:Value)(x:PX)(lim:Nat)(y:Nat×Nat):St:=⟨dn 148 [(0,.v v),(1,.v (iv x.a)),(2,.v (iv x.b)),(3,.v (iv lim)),(4,.v vc),(10,.v (.bool x.wb)),(11,.v (.bool x.wp)),(12,.v (iv (x.b-x.a))),(13,.v (iv y.1)),(14,.v (iv y.2))],[]⟩
def pm(v vc:Value)(x:PX)(lim p:Nat):St:=⟨dn 148 [(0,.v v),(1,.v (iv x.a)),(2,.v (iv x.b)),(3,.v (iv lim)),(4,.v vc),(10,.v (.bool x.wb)),(11,.v (.bool x.wp)),(12,.v (iv (x.b-x.a))),(13,.v (iv p))],[]⟩
def QU(v:Value)(d:Array Nd)(a b:Nat):Value->PH->List PH->Prop:=fun _ I2 qs=>∃A2 e,qs=[A2]/\br I2 A2 v e.toList/\PermIn a b d e/\SortedIn cz a b e
theorem ND:∀(N:Nat) {I A:PH} {v vc:Value} {d:Array Nd} {a b lim:Nat},b-a<N->br I A v d.toList->jT aW cz vc->a<=b->b<=d.size->d.size<=aF->Sort.Below cz a b d->lim<2^60->
  aO Tryz.prog 224 #[v,iv a,iv b,iv lim,vc] I [A] (QU v d a b):=by
 intro N
 induction N with
 |zero=>intro I A v vc d a b lim h;omega
 |succ N ih=>
 intro I A v vc d a b lim hN hA hc dA hb hn hB cx hd;have dk:=hn;unfold aF at dk;obtain⟨f,fst,cap,rfl,gf,cf⟩:=id hc;obtain⟨va,vk,rfl⟩:=Ow.one' hA;refine ir 148 Tryz.func224 fun w0=>?_
 try simp only[iv]
 refine Un ?_;refine aB (fun x=>x.b-x.a) (C4 (.slice va d.size vk) (.func (.func f) fst cap)) (fun x H=>∃I2 A2 c,H=U [I2,A2]/\Dj [I2,A2]/\I.le I2/\br I2 A2 (.slice va d.size vk) c.toList/\c.size=d.size/\x.a<=x.b/\a<=x.a/\x.b<=b/\x.lim<2^60/\Sort.Below cz x.a x.b c/\∀R,PermIn x.a x.b c R->SortedIn cz x.a x.b R->PermIn a b d R/\SortedIn cz a b R) ⟨a,b,lim,true,true⟩ Uo (by simp only[go_sem,Tq,C4]) ?_ ?_
 ·exact⟨I,A,d,rfl,hd,Uj _,hA,rfl,dA,R7 _,R7 _,cx,hB,fun R h1 h2=>⟨h1,h2⟩⟩
 rintro x H ⟨I2,A2,c,rfl,cc,a3,cl,da,b2,dd,c2,dc,c6,hG⟩ a0;simp only[C4];have a9:x.b<=c.size:=by omega
 have cr:c.size<=aF:=by omega
 have w1:IntKind.i64.wrap ((x.b:Int)-(x.a:Int))=((x.b-x.a:Nat):Int):=by
  rw[bQ Vi Vi];omega
 rcases Sw 12 (x.b-x.a)with dy|cs
 rotate_left
 ·have b6:decide (((x.b-x.a:Nat):Int)<=12)=true:=Uh Vi;apply RG;simp only[go_sem,iv,w1,b6];refine f6 cc [0] [A2] [] rfl Jl rfl (LG (a:=x.a) (b:=x.b) cl hc a9 cr Vi) fun v I3 qs a1 ak hq=>?_;obtain⟨A3,rfl,a5⟩:=hq;simp only[Z3]at a1 |-;refine Uq ?_;obtain⟨q1,q2⟩:=Sort.insertionSort_holds oX c x.a x.b b2 a9;obtain⟨q3,q4⟩:=hG _ q1 q2;exact ai rfl a1 (r:=[]) rfl (Ui a3 ak) ⟨A3,_,rfl,a5,q3,q4⟩
 have b6:decide (((x.b-x.a:Nat):Int)<=12)=false:=Ug Vi;by_cases dv:x.lim=0
 ·have cm:((x.lim:Int) == 0)=true:=by rw[dv];rfl
  apply RG;simp only[go_sem,iv,w1,b6,cm];refine f6 cc [0] [A2] [] rfl HL rfl (K2 (a:=x.a) (b:=x.b) cl hc b2 a9 cr) fun v I3 qs a1 ak hq=>?_;obtain⟨A3,rfl,a5⟩:=hq;simp only[Z3]at a1 |-;refine Uq ?_;obtain⟨q1,q2⟩:=Sort.heapSort_holds oX c x.a x.b b2 a9;obtain⟨q3,q4⟩:=hG _ q1 q2;exact ai rfl a1 (r:=[]) rfl (Ui a3 ak) ⟨A3,_,rfl,a5,q3,q4⟩
 have cm:((x.lim:Int) == 0)=false:=by rw[Uf];omega
 apply o5 (DD (.slice va d.size vk) (.func (.func f) fst cap) x) (fun lim2 H=>∃I3 A3 e,H=U [I3,A3]/\Dj [I3,A3]/\I2.le I3/\br I3 A3 (.slice va d.size vk) e.toList/\PermIn x.a x.b c e/\lim2<2^60)
 ·intro aa;cases ca:x.wb
  ·apply RG;simp only[go_sem,iv,w1,b6,cm,ca,T7];refine f6 cc [0] [A2] [] rfl Il rfl (H4 (a:=x.a) (b:=x.b) cl b2 a9 cr) fun v I3 qs a1 ak hq=>?_;obtain⟨A3,e,rfl,b1,a5⟩:=hq;simp only[Z3]at a1 |-;have w2:IntKind.i64.wrap ((x.lim:Int)-1)=((x.lim-1:Nat):Int):=by rw[gd Vi];omega
   apply bq 6;simp only[go_sem,iv,w2];refine dK ?_ ?_ (aa (x.lim-1) _ ⟨I3,A3,e,rfl,a1,ak,a5,b1,Vi⟩)
   ·simp only[DD,ca];exact Uo
   ·exact(by simp only[go_sem,Tq,DD])
  ·apply bq 32;simp only[go_sem,iv,w1,b6,cm,ca,Ud];refine dK ?_ ?_ (aa x.lim _ ⟨I2,A2,c,rfl,cc,Uj _,cl,permIn_refl _ _ _,dc⟩)
   ·simp only[DD,ca];exact Uo
   ·exact(by simp only[go_sem,Tq,DD])
 rintro lim2 H ⟨I3,A3,e3,rfl,a1,ak,a5,b1,am⟩;have c9:=b1.1;simp only[DD];refine Uq ?_;refine f6 a1 [0] [A3] [] rfl IT rfl (JX (a:=x.a) (b:=x.b) a5 hc Vi Vi Vi) fun v I4 qs cb a2 hq=>?_;obtain⟨p,h,a7,a6,hh,rfl,rfl⟩:=hq;simp only[Z3]at cb |-;have cB:=br.le a5 a2;apply o5 (JF (.slice va d.size vk) (.func (.func f) fst cap) x lim2) (fun y H=>∃I3 A3 e,H=U [I3,A3]/\Dj [I3,A3]/\I2.le I3/\br I3 A3 (.slice va d.size vk) e.toList/\PermIn x.a x.b c e/\x.a<=y.1/\y.1<x.b/\y.2<=2)
 ·intro aa;by_cases dw:h=2
  ·have c1:((h:Int) == 2)=true:=by rw[dw];rfl
   apply RG;simp only[go_sem,iv,c1];refine f6 cb [0] [A3] [] rfl Iw rfl (OX (vc:=(.func (.func f) fst cap)) (a:=x.a) (b:=x.b) cB Vi Vi Vi) fun v I5 qs ao ac hq=>?_;obtain⟨A5,rfl,aS⟩:=hq;simp only[Z3]at ao |-;have w3:IntKind.i64.wrap ((x.b:Int)-1)=((x.b-1:Nat):Int):=by rw[gd Vi];omega
   have w4:IntKind.i64.wrap ((p:Int)-(x.a:Int))=((p-x.a:Nat):Int):=by
    rw[bQ Vi Vi];omega
   have w5:IntKind.i64.wrap (((x.b-1:Nat):Int)-((p-x.a:Nat):Int))=((x.b-1-(p-x.a):Nat):Int):=by
    rw[bQ Vi Vi];omega
   apply bq 14;simp only[go_sem,iv,w3,w4,w5];refine dK ?_ ?_ (aa (x.b-1-(p-x.a),1) _ ⟨I5,A5,_,rfl,ao,Ui ak (Ui a2 ac),aS,permIn_trans _ _ _ x.a x.b b1 (Sort.reverseRange_holds e3 x.a x.b b2 Vi),by simp only;omega,by simp only;omega,by simp only;omega⟩)
   ·exact Uo
   ·exact(by simp only[go_sem,Tq,JF])
  ·have c1:((h:Int) == 2)=false:=by rw[Uf];omega
   apply bq 14;simp only[go_sem,iv,c1];refine dK ?_ ?_ (aa (p,h) _ ⟨I4,A3,e3,rfl,cb,Ui ak a2,cB,b1,a7,a6,hh⟩)
   ·exact Uo
   ·exact(by simp only[go_sem,Tq,JF])
 clear a7 a6 hh cb cB a2 a1 a5 b1 ak c9;clear p h I4 I3 A3 e3;rintro⟨p,h⟩ H ⟨I5,A5,e5,rfl,ao,ac,aS,an,a7,a6,hh⟩;have cn:=an.1;simp only at a7 a6 hh;simp only[JF];apply o5 (pm (.slice va d.size vk) (.func (.func f) fst cap) x lim2) (fun y H=>∃I3 A3 e,H=U [I3,A3]/\Dj [I3,A3]/\I2.le I3/\br I3 A3 (.slice va d.size vk) e.toList/\PermIn x.a x.b c e/\y=p)
 ·intro aa;by_cases c3:x.wb=true/\x.wp=true/\h=1
  ·obtain⟨g1,g2,g3⟩:=c3;have c0:((h:Int) == 1)=true:=by rw[g3];rfl
   apply RG;simp only[go_sem,iv,g1,g2,c0];refine f6 ao [0] [A5] [] rfl H7 rfl (Lx (a:=x.a) (b:=x.b) aS hc Vi Vi Vi) fun v I6 qs a4 aj hq=>?_;obtain⟨A6,rfl,c7,rfl⟩:=hq;simp only[Z3]at a4 |-;obtain⟨q1,q2⟩:=Sort.partialInsertionSort_holds oX e5 x.a x.b Vi Vi (c6.perm a9 an);have k6:=Ui a3 (Ui ac aj);cases ct:(Sort.partialInsertionSort cz e5 x.a x.b).2
   ·apply bq 3;simp only[go_sem,iv,ct];refine dK ?_ ?_ (aa p _ ⟨I6,A6,_,rfl,a4,Ui ac aj,c7,permIn_trans _ _ _ x.a x.b an q1,rfl⟩)
    ·simp only[pm,g1,g2];exact Uo
    ·exact(by simp only[go_sem,Tq,pm])
   ·apply RG;simp only[go_sem,iv,ct];obtain⟨q3,q4⟩:=hG _ (permIn_trans _ _ _ x.a x.b an q1) (q2 ct);exact ai rfl a4 (r:=[]) rfl k6 ⟨A6,_,rfl,c7,q3,q4⟩
  ·cases g1:x.wb
   ·apply bq 14;simp only[go_sem,iv,g1];refine dK ?_ ?_ (aa p _ ⟨I5,A5,e5,rfl,ao,ac,aS,an,rfl⟩)
    ·simp only[pm,g1];exact Uo
    ·exact(by simp only[go_sem,Tq,pm])
   ·cases g2:x.wp
    ·apply bq 14;simp only[go_sem,iv,g1,g2];refine dK ?_ ?_ (aa p _ ⟨I5,A5,e5,rfl,ao,ac,aS,an,rfl⟩)
     ·simp only[pm,g1,g2];exact Uo
     ·exact(by simp only[go_sem,Tq,pm])
    ·have c0:((h:Int) == 1)=false:=by rw[Uf];intro e;exact c3 ⟨g1,g2,Vi⟩
     apply bq 14;simp only[go_sem,iv,g1,g2,c0];refine dK ?_ ?_ (aa p _ ⟨I5,A5,e5,rfl,ao,ac,aS,an,rfl⟩)
     ·simp only[pm,g1,g2];exact Uo
     ·exact(by simp only[go_sem,Tq,pm])
 clear ao aS an ac cn;clear I5 A5 e5;rintro y H ⟨I5,A5,e5,rfl,ao,ac,aS,an,rfl⟩;have cn:=an.1;have c5:=c6.perm a9 an;have k5:=Ui a3 ac;simp only[pm];have part:∀(C:Cx) (k:List Item),True:=fun _ _=>trivial;clear part;obtain⟨g0,rfl⟩:∃g0,va=some ⟨g0,0,none⟩:=by
  obtain⟨g,c',ev⟩:=Ow.addr aS Vi;simp only[Value.slice.injEq]at ev;exact⟨g,ev.1⟩
 apply o5 (α:=Unit) (fun _=>pm (.slice (some ⟨g0,0,none⟩) d.size vk) (.func (.func f) fst cap) x lim2 y) (fun _ H=>∃I6,H=U [I6,A5]/\Dj [I6,A5]/\I5.le I6)
 ·intro aa;rcases TI x.a with c4|c4
  ·have b5:decide ((x.a:Int)>0)=false:=Ug Vi;refine Uq ?_;refine V8 [0,1,2,3,4,5,6,7,8,9,10,11,12,13,14,15,16] [8,12] [] ?_;apply af;simp only[go_sem,iv,b5];refine aw ?_;apply bq 2;simp only[go_sem,iv];refine dK ?_ ?_ (aa () _ ⟨I5,rfl,ao,Uj _⟩)
   ·exact Uo
   ·exact(by simp only[go_sem,Tq,pm])
  ·have b5:decide ((x.a:Int)>0)=true:=Uh Vi;have w6:IntKind.i64.wrap ((x.a:Int)-1)=((x.a-1:Nat):Int):=by rw[gd Vi];omega
   obtain⟨g,cp,cur,ci,cj,ev,rfl,dx,ri,rj,li,lj,ki,kj,dj⟩:=Ow.two aS (fun{I} c a h=>aW.len c a h) (fun{I J c a} h k=>aW.le h k) (i:=x.a-1) (j:=y) Vi Vi;rw[cn.trans da]at ev dx;simp only[Value.slice.injEq,Sc,Addr.mk.injEq,TY,SP]at ev;obtain⟨eg,ek⟩:=ev;subst eg;subst ek;refine Uq ?_;refine V8 [0,1,2,3,4,5,6,7,8,9,10,11,12,13,14,15,16] [8,12] [] ?_;apply af;simp only[go_sem,iv,b5,w6];refine⟨Vi,?_⟩;refine P7 (l:=ci) (v:=.agg ci.toArray) rfl (cellsU ao (.tail _ (.head _)) (by simpa using ki)) (.inl ⟨by rw[li];exact bT,rfl⟩) ?_;apply af;simp only[go_sem,iv,b5,w6];refine⟨Vi,?_⟩;refine P7 (l:=cj) (v:=.agg cj.toArray) rfl (cellsU ao (.tail _ (.head _)) (by simpa using kj)) (.inl ⟨by rw[lj];exact bT,rfl⟩) ?_;apply af;simp only[go_sem,iv,b5,w6];refine i7 ao [0] [] [_] rfl gf rfl (cf I5 _ _ _ _ ri rj) fun v I6 qs a4 aj hq=>?_;obtain⟨rfl,z,rfl,hz⟩:=hq;simp only[Z3]at a4 |-;refine Ur ?_;refine aw ?_;cases ba:cz e5[x.a-1]! e5[y]! with
   |true=>
    rw[ba]at hz;apply bq 2;simp only[go_sem,iv,hz,Ud];refine dK ?_ ?_ (aa () _ ⟨I6,rfl,a4,aj⟩)
    ·exact Uo
    ·exact(by simp only[go_sem,Tq,pm])
   |false=>
    rw[ba]at hz;apply RG;simp only[go_sem,iv,hz,T7];refine f6 a4 [0] [_] [] rfl HE rfl (Hg (a:=x.a) (b:=x.b) (pivot:=y) (br.le aS aj) hc a7 a6 Vi Vi) fun v I7 qs b0 bc hq=>?_;obtain⟨A7,rfl,bd,rfl⟩:=hq;simp only[Z3]at b0 |-;obtain⟨mid,e7,hx⟩:∃mid e7,Sort.partitionEqual cz e5 x.a x.b y=(mid,e7):=⟨_,_,rfl⟩;rw[hx]at bd |-;obtain⟨r1,r2,r3,r4,r5⟩:=Sort.round_eq oX (Sort.partitionEqual_holds cz) c4 a7 a6 Vi c5 ba hx;refine Uq ?_;exact a0 ⟨mid,x.b,lim2,x.wb,x.wp⟩ _ _ V9 Uo (by simp only[go_sem,Tq,C4]) ⟨I7,A7,e7,rfl,b0,Ui k5 (Ui aj bc),bd,Vi,r2,by simp only;omega,c2,am,r4,fun R p q=>by
     obtain⟨s1,s2⟩:=r5 R p q;exact hG R (permIn_trans _ _ _ x.a x.b an s1) s2⟩
 rintro⟨⟩ H ⟨I6,rfl,a4,aj⟩;simp only[pm];refine Uq ?_;refine f6 a4 [0] [A5] [] rfl J8 rfl (Mj (a:=x.a) (b:=x.b) (pivot:=y) (br.le aS aj) hc a7 a6 Vi Vi) fun v I7 qs b0 bc hq=>?_;obtain⟨A7,rfl,bd,rfl⟩:=hq;simp only[Z3]at b0 |-;obtain⟨mid,ap,e7,hx⟩:∃mid ap e7,Sort.partition cz e5 x.a x.b y=(mid,ap,e7):=⟨_,_,_,rfl⟩;rw[hx]at bd |-;obtain⟨r1,r2,r3,r4,r5,r6,r7⟩:=Sort.round_part oX (Sort.partition_holds cz) a7 a6 Vi c5 hx;have k7:=Ui k5 (Ui aj bc);simp only at bd;have w7:IntKind.i64.wrap ((mid:Int)-(x.a:Int))=((mid-x.a:Nat):Int):=by
  rw[bQ Vi Vi];omega
 have w8:IntKind.i64.wrap ((x.b:Int)-(mid:Int))=((x.b-mid:Nat):Int):=by
  rw[bQ Vi Vi];omega
 have w9:IntKind.i64.wrap ((((x.b-x.a:Nat):Int)).tdiv 8)=(((x.b-x.a) / 8:Nat):Int):=by
  rw[show (((x.b-x.a:Nat):Int)).tdiv 8=(((x.b-x.a) / 8:Nat):Int) from rfl,wrap64 Vi]
 have w10:IntKind.i64.wrap ((mid:Int)+1)=((mid+1:Nat):Int):=by
  have e0:(mid:Int)+1=((mid+1:Nat):Int):=by omega
  rw[e0];exact wrap64 Vi
 rcases Sw (mid-x.a) (x.b-mid)with ds|ds
 ·have bx:decide (((mid-x.a:Nat):Int)<((x.b-mid:Nat):Int))=true:=Uh Vi;apply RG;simp only[go_sem,iv,w7,w8,w9,bx];refine f6 b0 [0] [A7] [] rfl xG rfl (ih (a:=x.a) (b:=mid) (lim:=lim2) Vi bd hc r1 Vi Vi r4 am) fun v I8 qs b3 bb hq=>?_;obtain⟨A8,e8,rfl,cA,b4,cy⟩:=hq;simp only[Z3]at b3 |-;obtain⟨t1,t2⟩:=r6 e8 b4 cy;have c8:=b4.1;apply RG;simp only[go_sem,iv,w10];exact a0 ⟨mid+1,x.b,lim2,decide (((mid-x.a:Nat):Int)>=(((x.b-x.a) / 8:Nat):Int)),ap⟩ _ _ V9 Uo (by simp only[go_sem,Tq,C4]) ⟨I8,A8,e8,rfl,b3,Ui k7 bb,cA,Vi,by simp only;omega,by simp only;omega,c2,am,t1,fun R p q=>by
   obtain⟨s1,s2⟩:=t2 R p q;exact hG R (permIn_trans _ _ _ x.a x.b an s1) s2⟩
 ·have bx:decide (((mid-x.a:Nat):Int)<((x.b-mid:Nat):Int))=false:=Ug Vi;apply RG;simp only[go_sem,iv,w7,w8,w9,bx,w10];refine f6 b0 [0] [A7] [] rfl xG rfl (ih (a:=mid+1) (b:=x.b) (lim:=lim2) Vi bd hc Vi Vi Vi r5 am) fun v I8 qs b3 bb hq=>?_;obtain⟨A8,e8,rfl,cA,b4,cy⟩:=hq;simp only[Z3]at b3 |-;obtain⟨t1,t2⟩:=r7 e8 b4 cy;have c8:=b4.1;refine Uq ?_;exact a0 ⟨x.a,mid,lim2,decide (((x.b-mid:Nat):Int)>=(((x.b-x.a) / 8:Nat):Int)),ap⟩ _ _ V9 Uo (by simp only[go_sem,Tq,C4]) ⟨I8,A8,e8,rfl,b3,Ui k7 bb,cA,Vi,r1,dd,by simp only;omega,am,t1,fun R p q=>by
   obtain⟨s1,s2⟩:=t2 R p q;exact hG R (permIn_trans _ _ _ x.a x.b an s1) s2⟩
theorem MD{I A:PH}{v vc:Value}{d:Array Nd}(hA:br I A v d.toList)(hc:jT aW cz vc)(hn:d.size<=aF):
  aO Tryz.prog 147 #[v,vc] I [A] (QU v d 0 d.size):=by
 intro hd;have aj:=hn;unfold aF at aj;obtain⟨f,fst,cap,rfl,gf,cf⟩:=id hc;obtain⟨va,vk,rfl⟩:=Ow.one' hA;have ao:Sort.bitsLen d.size<=41:=(Sort.bitsLen_le_iff d.size 41).2 Vi;have u1:=mE (n:=d.size) Vi;refine ir 14 Tryz.func147 fun w0=>?_;apply RG;simp only[go_sem,u1];refine Pf rfl CD (KG Vi _) fun v H2 hv=>?_;obtain⟨rfl,rfl⟩:=hv;refine Uq ?_;refine f6 hd [0] [A] [] rfl xG rfl (ND (d.size-0+1) (a:=0) (b:=d.size) (lim:=Sort.bitsLen d.size) Vi hA hc (S6 _) (R7 _) hn (.inl rfl) Vi) fun v I2 qs ac aa hq=>?_;obtain⟨A2,e2,rfl,an,am,ak⟩:=hq;simp only[Z3]at ac |-;refine Uq ?_;exact eO rfl ac (r:=[]) rfl aa ⟨A2,e2,rfl,an,am,ak⟩
end Go.Proofs.YtfaclfkpnmcmlaaGreatDoor
