import Derived.Test.YtfaclfkpnmcmlaaGreatDoorG04
import Derived.Test.YtfaclfkpnmcmlaaGreatDoorG10
import Derived.Test.YtfaclfkpnmcmlaaGreatDoorG12
import Derived.Sort.AssemblyPlain
set_option maxHeartbeats 8000000
set_option linter.all false
open Go.Proofs.Tryz
namespace Go.Proofs.YtfaclfkpnmcmlaaGreatDoor
open Go Go.Sx Dg Syn
def CC:ay prog 267:=⟨_,func267,rfl,rfl⟩
def PB:ay prog 268:=⟨_,func268,rfl,rfl⟩
def Pl:ay prog 216:=⟨_,func216,rfl,rfl⟩
def Pk:ay prog 215:=⟨_,func215,rfl,rfl⟩
section
variable {C:Cx} {P:Program} {k:List Item} {σ:St} {H:PH}
variable{v:Value}{ms:Array (String×TypeId)}{T2:TypeId}
def U3{o:Oper}{T:TypeId}{x y:Operand}{b:Bool}(aa:o.op=.binOp .eql T x y T2)(e:P.underlying T=some (.interface ms))
  (d:ev σ x=.v v) (h:y=.const .nilIface) (hv:v=.nilIface/\b=true\/(∃t p,v=.iface t p)/\b=false) :
  bt σ o.op=true/\dg P (execOp (aQ σ) o) H fun sv H2=>sv=.v (.bool b)/\H2=H:=by
 subst h;have c:ev σ (.const .nilIface)=.v .nilIface:=rfl;constructor
 .simp[bt,aa,dU,Op.operands,d,c,eX]
 .intro w hw;have a:(execOp (aQ σ) o).run P w=.ok (.value (.bool b)) w:=by
   have:∀k,Op.maxDepth=k+1->(Op.equal T v .nilIface).run P w=.ok b w:=by intro k f;unfold Op.equal;rw[f];rcases hv with ⟨rfl,rfl⟩|⟨⟨t,p,rfl⟩,rfl⟩<;>simp[Op.equalIn,run_underlying e,bY,Result.andThen]
   have g:=this 9999 rfl;rcases hv with ⟨rfl,rfl⟩|⟨⟨t,p,rfl⟩,rfl⟩<;>simp[execOp,aa,aQ,d,c,eqGuard,binOp,bY,g,Result.andThen]
  rw[a];exact⟨H,bN.refl hw,rfl,rfl⟩
def xg{ol rem:List Oper}{o:Oper}{T:TypeId}{x y:Operand}(b:Bool)(hw:be ol σ o=some true)(aa:o.op=.binOp .eql T x y T2)(c:C.P.underlying T=some (.interface ms))
  (a:ev σ x=.v v) (e:y=.const .nilIface) (hv:v=.nilIface/\b=true\/(∃t p,v=.iface t p)/\b=false) (d:RC C (.op ol rem k) (σ.put o.dst (.v (.bool b))) H):RC C (.op ol (o::rem) k) σ H:=by
 obtain⟨p,q⟩:=U3 (H:=H) aa c a e hv;exact j1 hw p (q.mono fun sv H2 ⟨f,e2⟩=>by subst f;subst e2;exact d)
end
def tF:∃ms,prog.underlying 284=some (.interface ms):=⟨_,underlying284⟩
def bN.below{H:PH}{w w2:World}(hw:Sx.Sub H w)(h:RowKit.Below w.heap.size w w2):bN H w H w2 where
 sub b o hb:=by
  have h1:=hw b o hb;have:b<w.heap.size:=by
   rcases aB b w.heap.size with h|h
   .exact h
   .rw[AI h]at h1;cases h1
  rw[h.block b this];exact h1
 size:=h.size
 priv b hb _:=h.block b hb
 dom _ _ h:=h
 os:=h.os
 tape:=h.tape
 out:=h.output
variable{v:Int}{s:aE}
def Mh{H:PH}(b:s.length<2^40)(h:Lib.atoiAll s=.ok v):aJ prog 267 #[.string ⟨⟨s⟩⟩] H fun r H2=>r=.tuple #[.int .i64 v,.nilIface]/\H2=H:=by
 intro w hw;refine(strconv_Atoi_ok ⟨⟨s⟩⟩ (by (try simp only[cN]);omega) v h w).mono ?_;rintro e w2 ⟨rfl,a⟩;refine⟨H,bN.below hw ?_,rfl,rfl⟩;rcases a with rfl|⟨t,rfl⟩
 .exact RowKit.Below.refl _ _
 .exact Lib.bytesWorld_below _ _ _
def tP(H:PH):Prop:=∃a b,aX H 1 0 [.iface a b]
variable{I J:PH}
def tP.le(h:tP I)(k:I.le J):tP J:=let ⟨a,b,c⟩:=h;⟨a,b,aX.le c k⟩
def Mg{H:PH}(g:s.length<2^40)(h:Lib.atoiAll s=Lib.NumEnd.syntax)(f:tP H):aJ prog 267 #[.string ⟨⟨s⟩⟩] H fun r H2=>(∃p,r=.tuple #[.int .i64 0,.iface 386 p])/\H2=H:=by
 intro w hw;obtain⟨a,b,cs,ty,i,h1,h2,h3⟩:=f;have hb:=hw 1 _ h1;have hv:w.cell? ⟨1,0,none⟩=some (.iface a b):=by
  have c:cs[0]?=some (.iface a b):=by have:=congrArg (fun l:List Value=>l[0]?) h3;simpa using this
  simp[World.cell?,hb,c]
 refine(strconv_Atoi_syntax ⟨⟨s⟩⟩ (by (try simp only[cN]);omega) h _ w hv (.inr ⟨a,b,rfl⟩)).mono ?_;rintro e w2 ⟨N,rfl,_,_,d⟩;exact⟨H,bN.below hw d,⟨_,rfl⟩,rfl⟩
def tQ(H:PH):Prop:=∃a b,aX H 2 0 [.iface a b]
def tQ.le(h:tQ I)(k:I.le J):tQ J:=let ⟨a,b,c⟩:=h;⟨a,b,aX.le c k⟩
def Mi{H:PH}(g:s.length<2^40)(h:Lib.atoiAll s=.range)(f:tQ H):aJ prog 267 #[.string ⟨⟨s⟩⟩] H fun r H2=>(∃p,r=.tuple #[.int .i64 (Lib.atoiSat s),.iface 386 p])/\H2=H:=by
 intro w hw;obtain⟨a,b,cs,ty,i,h1,h2,h3⟩:=f;have hb:=hw 2 _ h1;have hv:w.cell? ⟨2,0,none⟩=some (.iface a b):=by
  have c:cs[0]?=some (.iface a b):=by have:=congrArg (fun l:List Value=>l[0]?) h3;simpa using this
  simp[World.cell?,hb,c]
 refine(strconv_Atoi_range ⟨⟨s⟩⟩ (by (try simp only[cN]);omega) h _ w hv (.inr ⟨a,b,rfl⟩)).mono ?_;rintro e w2 ⟨N,rfl,_,_,d⟩;exact⟨H,bN.below hw d,⟨_,rfl⟩,rfl⟩
def rR(H:PH):Prop:=∃ty a,H 3=some (.cells (Lib.pow10Tab.map fun z=>Value.int .u64 z).toArray ty a)
def rR.le(h:rR I)(k:I.le J):rR J:=let ⟨a,b,c⟩:=h;⟨a,b,k 3 _ c⟩
def Ck:prog.globalNamed "internal/strconv.uint64pow10"=some 3:=ah
theorem Q3{H:PH}(g:-9223372036854775808<=v)(h1:v<=9223372036854775807)(f:rR H):aJ prog 268 #[.int .i64 v] H fun r H2=>r=.string ⟨⟨Lib.itoa v⟩⟩/\H2=H:=by
 intro w hw;obtain⟨ty,i,hb⟩:=f;have hb:=hw 3 _ hb;have a:Lib.TabIs prog w "internal/strconv.uint64pow10" .u64 Lib.pow10Tab:=by unfold Lib.TabIs World.var?;rw[Ck];simp[hb]
 refine(strconv_Itoa v g h1 w a).mono ?_;rintro e w2 ⟨rfl,k,os,rfl⟩;refine⟨H,?_,rfl,rfl⟩;have d:∀(b:Nat) (o:Obj),w.heap[b]?=some o->(w.heap++os)[b]?=some o:=by
  intro b o h;have:b<w.heap.size:=by
   rcases aB b w.heap.size with h2|h2
   .exact h2
   .rw[AI h2]at h;cases h
  rw[Array.getElem?_append_left this];exact h
 exact{
     sub:=fun b o h=>d b o (hw b o h)
     size:=by simp[Sort.grow,World.drewN]
     priv:=fun b c _=>by simp only[Sort.grow,World.drewN];rw[Array.getElem?_append_left c]
     dom:=fun _ _ h=>h
     os:=rfl
     tape:=rfl
     out:=rfl }
def iG(s:aE):Bool:=match Lib.atoiAll s with
 | .ok v=>decide (v<=2147483647) && decide (Lib.itoa v=s) && fS (bZ (s.getD 0 0))
 |_=>false
def iR(H:PH):Prop:=rQ H/\tP H/\tQ H/\rR H
def iR.le(h:iR I)(k:I.le J):iR J:=⟨h.1.le k,h.2.1.le k,h.2.2.1.le k,h.2.2.2.le k⟩
def F1:∀u,Lib.decDigits u≠[]:=by intro u h;have:=Lib.decDigits_length u;rw[h]at this;rw[Lib.decDigits]at h;split at h<;>simp at h
def Ht(v:Int):Lib.itoa v≠[]:=by
 unfold Lib.itoa;split
 .simp
 .exact F1 _
def Mf(h:Lib.atoiAll s=.ok v):-9223372036854775808<=v/\v<=9223372036854775807:=by
 unfold Lib.atoiAll at h;split at h
 .cases h
 simp only at h;split at h
 .cases h
 .cases h
 split at h
 .cases h
 split at h
 .cases h
 cases h
 split<;>omega
def Mk{a b:aE}:(a == b)=decide (a=b):=by
 by_cases h:a=b
 .subst h;simp
 .simp[h]
def QZ{H:PH}(b:s.length<2^40)(g:iR H):aJ prog 216 #[.string ⟨⟨s⟩⟩] H fun v H2=>v=.bool (iG s)/\H2=H:=by
 obtain⟨_,l,d,j⟩:=g;refine aG 27 func216 fun w0=>?_;refine af ?_;cases h:Lib.atoiAll s with
 |ok v=>
  obtain⟨n,b1⟩:=Mf h;refine Xa rfl CC (Mh b h) ?_;rintro r H2⟨rfl,rfl⟩;cases a:decide (v<=2147483647)
  .refine db a ?_;refine xg true rfl rfl tF.choose_spec rfl rfl (.inl ⟨rfl,rfl⟩) ?_;refine db a ?_;exact au (r:=[_]) rfl ⟨by unfold iG;simp[h,a];rfl,rfl⟩
  .refine db a ?_;refine xg true rfl rfl tF.choose_spec rfl rfl (.inl ⟨rfl,rfl⟩) ?_;refine db a ?_;refine Xa rfl PB (Q3 n b1 j) ?_;rintro r H2⟨rfl,rfl⟩;by_cases hi:Lib.itoa v=s
   .subst hi;have hb:(Lib.itoa v == Lib.itoa v)=true:=ai;obtain⟨c,r,f⟩:∃c r,Lib.itoa v=c::r:=by
     cases e:Lib.itoa v with
     |nil=>exact absurd e (Ht v)
     |cons c r=>exact⟨c,r,rfl⟩
    refine db hb ?_;refine⟨by rw[f];simp,?_⟩;refine Xa rfl CB (BN _ _) ?_;rintro r H2⟨rfl,rfl⟩;have m:(Lib.itoa v)[0]?=some ((Lib.itoa v).getD 0 0):=by rw[f];rfl
    rw[mf (i:=0) m];refine af ?_;exact au (r:=[_]) rfl ⟨by unfold iG;simp[h,a];rfl,rfl⟩
   .have hb:(Lib.itoa v == s)=false:=by simp[hi]
    refine db hb ?_;exact au (r:=[_]) rfl ⟨by unfold iG;simp[h,a,hi];rfl,rfl⟩
 |range=>refine Xa rfl CC (Mi b h d) ?_;rintro v H2⟨⟨p,rfl⟩,rfl⟩;refine af ?_;refine xg false rfl rfl tF.choose_spec rfl rfl (.inr ⟨⟨_,_,rfl⟩,rfl⟩) ?_;refine af ?_;exact au (r:=[_]) rfl ⟨by unfold iG;rw[h];rfl,rfl⟩
 |_=>refine Xa rfl CC (Mg b h l) ?_;rintro v H2⟨⟨p,rfl⟩,rfl⟩;refine af ?_;refine xg false rfl rfl tF.choose_spec rfl rfl (.inr ⟨⟨_,_,rfl⟩,rfl⟩) ?_;refine af ?_;exact au (r:=[_]) rfl ⟨by unfold iG;rw[h];rfl,rfl⟩
def Tf{H:PH}{sb fb i:Nat}(c:iR H)(b:aX H sb 0 [.string ⟨⟨s⟩⟩])(hf:aX H fb 0 [.func (.func 211) #[] #[pt sb]])(hi:i<=s.length)(d:s.length<2^40):
  aJ prog 215 #[E i,pt fb] H fun v H2=>v=(if iG ((s.drop i).take (eI (s.drop i)))then .tuple #[.int .u8 2,.string ⟨⟨(s.drop i).take (eI (s.drop i))⟩⟩]else .tuple #[.int .u8 0,.string ⟨⟨[]⟩⟩])/\H2=H:=by
 refine aG 12 func215 fun w0=>?_
 try simp only[E,pt]
 refine af ?_;refine Xb (l:=[.func (.func 211) #[] #[pt sb]]) rfl hf (.inr ⟨Bl,rfl⟩) ?_;refine hZ ?_;refine Xa rfl GW (IY b hi O) ?_;rintro v H2⟨rfl,rfl⟩;refine af ?_;have a:((s.drop i).take (eI (s.drop i))).length<2^40:=by simp only[eE,kC];omega
 refine Xa rfl Pl (QZ a c) ?_;rintro v H2⟨rfl,rfl⟩;cases hb:iG ((s.drop i).take (eI (s.drop i)))
 .refine af ?_;exact au (r:=[_,_]) rfl ⟨rfl,rfl⟩
 .refine af ?_;exact au (r:=[_,_]) rfl ⟨rfl,rfl⟩
open Go Go.Sx Dg Syn
def fh(d:aE):Nat×aE:=
 if fV (d.take (eI d))then (1,d.take (eI d))
 else if iG (d.take (eI d))then (2,d.take (eI d))
 else match jo.find? fun x=>x.isPrefixOf d with
  |some x=>(3,x)
  |none=>(0,[])
def qw:aE:=[47,47]
def pz:Nat->aE->Option (List (Nat×aE))
 |0,_=>none
 |_+1,[]=>some []
 |n+1,c::s=>
  if l9 (bZ c)then pz n s
  else if qw.isPrefixOf (c::s)then some []
  else if (fh (c::s)).1=0 then none
  else (pz n ((c::s).drop (fh (c::s)).2.length)).map (fh (c::s)::·)
def Iq{x:aE}(h:iG x=true):x≠[]:=by
 unfold iG at h;split at h
 .rename_i v hv;simp only[bu,cu]at h;intro e;exact Ht v (h.1.2.trans e)
 .cases h
def Il{x:aE}(h:fV x=true):x≠[]:=by intro e;subst e;revert h;decide
def UK:∀x∈jo,x≠[]:=by decide
def yQ{d:aE}(h:(fh d).1≠0):0<(fh d).2.length/\(fh d).2.length<=d.length/\((fh d).2 <+: d)/\(fh d).1<=3:=by
 unfold fh at h |-;have hp:=List.take_prefix (eI d) d;split
 .rename_i h1;exact⟨List.length_pos_iff.2 (Il h1),hp.length_le,hp,show 1<=3 by decide⟩
 .split
  .rename_i h1;exact⟨List.length_pos_iff.2 (Iq h1),hp.length_le,hp,show 2<=3 by decide⟩
  .split
   .rename_i x a;have h2:=List.find?_some a;have h3:=List.mem_of_find?_eq_some a;have b:=List.isPrefixOf_iff_prefix.1 h2;exact⟨List.length_pos_iff.2 (UK x h3),b.length_le,b,show 3<=3 by decide⟩
   .rename_i h1 h2 _ a;rw[ad h1,ad h2,a]at h;exact absurd rfl h
def CZ:∀(n m:Nat) (d:aE),d.length<n->d.length<m->pz n d=pz m d
 |0,_,_,h,_=>by omega
 |_+1,0,_,_,h=>by omega
 |n+1,m+1,[],_,_=>rfl
 |n+1,m+1,c::s,h1,h2=>by
  simp only[bf]at h1 h2;rw[pz,pz,CZ n m s O O];split
  .rfl
  .split
   .rfl
   .split
    .rfl
    .rename_i h3;obtain⟨a,b,_⟩:=yQ h3;rw[CZ n m ((c::s).drop (fh (c::s)).2.length) (by simp only[kC,bf]at b |-;omega) (by simp only[kC,bf]at b |-;omega)]
def lD(d:aE):Option (List (Nat×aE)):=pz (d.length+1) d
theorem yS:lD []=some []:=rfl
def yR(c:UInt8)(s:aE):lD (c::s)=if l9 (bZ c)then lD s
  else if qw.isPrefixOf (c::s)then some []
  else if (fh (c::s)).1=0 then none
  else (lD ((c::s).drop (fh (c::s)).2.length)).map (fh (c::s)::·):=by
 unfold lD;rw[bf,pz];split
 .rfl
 .split
  .rfl
  .split
   .rfl
   .rename_i h3;obtain⟨a,b,_⟩:=yQ h3;rw[CZ (s.length+1) (((c::s).drop (fh (c::s)).2.length).length+1) _ (by simp only[kC,bf]at b |-;omega) O]
def kU(s:aE):Option (List (Nat×aE)):=if s.all fun c=>i6 (bZ c)then lD s else none
def iD(k:Nat)(x:aE):Bool:=decide (kU x=some [(k,x)])
def il(x:Nat×aE):Tok:=⟨x.1,x.2,tt,true⟩
def Po:ay prog 223:=⟨_,func223,rfl,rfl⟩
section
variable {C:Cx} {k:List Item} {σ:St} {α:Type} {R:PH->List Value->α->Prop}
variable{l:List PH}
def dX{ol rem:List Oper}{o:Oper}{t e:TypeId}{size bytes:Nat}{x y:Operand}{v vy:Value}{xs ys:List α}{I A:PH}(hd:Dj (I::A::l))(ht:ch C.P t e size bytes)(m:Ow R e size I A v xs)(q:Sl R I vy ys)(B:∀{I J c a},R I c a->I.le J->R J c a)(w:∀{I} c a,R I c a->c.length=size)(h1:∀{I} c a,R I c a->c.all Sx.one=true)
  (hw:be ol σ o=some true) (aa:o.op=.call ⟨.builtin .append,#[x,y],#[t,t]⟩) (u:ev σ x=.v v) (s:ev σ y=.v vy) (hb:(xs.length+ys.length)*bytes<=140737488355328) (r:xs.length+ys.length<=maxLen)
  (z:∀a c I2 j,Dj (I2::j::l)->I.le I2->Ow R e size I2 j (.slice a (xs++ys).length c) (xs++ys)->RC C (.op ol rem k) (σ.put o.dst (.v (.slice a (xs++ys).length c))) (U (I2::j::l))):RC C (.op ol (o::rem) k) σ (U (I::A::l)):=by
 obtain⟨H,yc,rfl,q⟩:=q;rcases q with rfl|⟨b,off,zs,rfl,F,hr⟩
 .have i:=m.cap fun c a h=>w c a h;obtain⟨D,vc,rfl⟩:=m.shape;refine KB ht hw aa u i s ?_;have:=z D vc I A hd (ax _) (by simpa using m);simpa using this
 .obtain⟨G,g,n⟩:=m;refine EI hd ht g hw aa u s (cellsU hd (.head _) F) (hr.len fun c a h=>w c a h) (hr.ones fun c a h=>h1 c a h) hb r fun K I2 j p d f=>?_;obtain⟨a,c,rfl⟩:=f.slice;have e:xs.length+ys.length=(xs++ys).length:=ai;have:=z a c I2 j p d ⟨G++zs,by rw[e]at f;exact f,LR.app (n.mono fun _ _ h=>B h d) (hr.mono fun _ _ h=>B h d)⟩;rw[e];exact this
def oD{ol:List Oper}{fr:bI}{str:bJ}{i:Nat}{lo:List (Nat×Oper)}{o:Oper}{t e:TypeId}{size bytes:Nat}{x y:Operand}{v vy:Value}{xs ys:List α}{I A:PH}(hd:Dj (I::A::l))(ht:ch C.P t e size bytes)(q:Ow R e size I A v xs)(u:Sl R I vy ys)(K:∀{I J c a},R I c a->I.le J->R J c a)(F:∀{I} c a,R I c a->c.length=size)(h1:∀{I} c a,R I c a->c.all Sx.one=true)
  (D:str.h.contains i=false) (g:str.j.contains i=false) (hw:be ol σ o=some true) (aa:o.op=.call ⟨.builtin .append,#[x,y],#[t,t]⟩) (B:ev σ x=.v v) (z:ev σ y=.v vy) (hb:(xs.length+ys.length)*bytes<=140737488355328) (w:xs.length+ys.length<=maxLen)
  (G:∀a c I2 p,Dj (I2::p::l)->I.le I2->Ow R e size I2 p (.slice a (xs++ys).length c) (xs++ys)->RD C ol fr str lo k (σ.put o.dst (.v (.slice a (xs++ys).length c))) (U (I2::p::l))):RD C ol fr str ((i,o)::lo) k σ (U (I::A::l)):=by
 obtain⟨S,yc,rfl,u⟩:=u;rcases u with rfl|⟨b,off,zs,rfl,M,hr⟩
 .have n:=q.cap fun c a h=>F c a h;obtain⟨L,vc,rfl⟩:=q.shape;obtain⟨a,b⟩:=wy (H:=U (I::A::l)) ht aa B n z;refine oE hw a (by rw[aa];rfl) (b.mono fun sv H2 ⟨N,e2⟩=>⟨gL.non D g,?_⟩);subst N;subst e2;have:=G L vc I A hd (ax _) (by simpa using q);simpa using this
 .obtain⟨Q,m,r⟩:=q;refine AT hd ht m D g hw aa B z (cellsU hd (.head _) M) (hr.len fun c a h=>F c a h) (hr.ones fun c a h=>h1 c a h) hb w fun T I2 p s d f=>?_;obtain⟨a,c,rfl⟩:=f.slice;have e:xs.length+ys.length=(xs++ys).length:=ai;have:=G a c I2 p s d ⟨Q++zs,by rw[e]at f;exact f,LR.app (r.mono fun _ _ h=>K h d) (hr.mono fun _ _ h=>K h d)⟩;rw[e];exact this
end
variable{s:aE}
def Sn{H:PH}:aJ prog 223 #[.string ⟨⟨s⟩⟩] H fun v H2=>v=.int .i64 (if fI s=9 then -1 else (fI s:Int))/\H2=H:=by
 refine aG 22 func223 fun w0=>?_;cases a:(s == [124,124])
 rotate_left
 .apply RG;simp only[go_sem,a];exact au (r:=[.int .i64 0]) rfl ⟨by rw[show fI s=0 from by rw[eq_of_beq a];decide];rfl,rfl⟩
 cases h1:(s == [38,38])
 rotate_left
 .apply RG;simp only[go_sem,a,h1];exact au (r:=[.int .i64 1]) rfl ⟨by rw[show fI s=1 from by rw[eq_of_beq h1];decide];rfl,rfl⟩
 cases h2:(s == [61,61])
 rotate_left
 .apply RG;simp only[go_sem,a,h1,h2];exact au (r:=[.int .i64 2]) rfl ⟨by rw[show fI s=2 from by rw[eq_of_beq h2];decide];rfl,rfl⟩
 cases h3:(s == [33,61])
 rotate_left
 .apply RG;simp only[go_sem,a,h1,h2,h3];exact au (r:=[.int .i64 2]) rfl ⟨by rw[show fI s=2 from by rw[eq_of_beq h3];decide];rfl,rfl⟩
 cases c:(s == [60])
 rotate_left
 .apply RG;simp only[go_sem,a,h1,h2,h3,c];exact au (r:=[.int .i64 2]) rfl ⟨by rw[show fI s=2 from by rw[eq_of_beq c];decide];rfl,rfl⟩
 cases f:(s == [60,61])
 rotate_left
 .apply RG;simp only[go_sem,a,h1,h2,h3,c,f];exact au (r:=[.int .i64 2]) rfl ⟨by rw[show fI s=2 from by rw[eq_of_beq f];decide];rfl,rfl⟩
 cases g:(s == [62])
 rotate_left
 .apply RG;simp only[go_sem,a,h1,h2,h3,c,f,g];exact au (r:=[.int .i64 2]) rfl ⟨by rw[show fI s=2 from by rw[eq_of_beq g];decide];rfl,rfl⟩
 cases i:(s == [62,61])
 rotate_left
 .apply RG;simp only[go_sem,a,h1,h2,h3,c,f,g,i];exact au (r:=[.int .i64 2]) rfl ⟨by rw[show fI s=2 from by rw[eq_of_beq i];decide];rfl,rfl⟩
 cases j:(s == [43])
 rotate_left
 .apply RG;simp only[go_sem,a,h1,h2,h3,c,f,g,i,j];exact au (r:=[.int .i64 3]) rfl ⟨by rw[show fI s=3 from by rw[eq_of_beq j];decide];rfl,rfl⟩
 cases l:(s == [45])
 rotate_left
 .apply RG;simp only[go_sem,a,h1,h2,h3,c,f,g,i,j,l];exact au (r:=[.int .i64 3]) rfl ⟨by rw[show fI s=3 from by rw[eq_of_beq l];decide];rfl,rfl⟩
 cases b:(s == [42])
 rotate_left
 .apply RG;simp only[go_sem,a,h1,h2,h3,c,f,g,i,j,l,b];exact au (r:=[.int .i64 4]) rfl ⟨by rw[show fI s=4 from by rw[eq_of_beq b];decide];rfl,rfl⟩
 cases d:(s == [47])
 rotate_left
 .apply RG;simp only[go_sem,a,h1,h2,h3,c,f,g,i,j,l,b,d];exact au (r:=[.int .i64 4]) rfl ⟨by rw[show fI s=4 from by rw[eq_of_beq d];decide];rfl,rfl⟩
 cases h:(s == [37])
 rotate_left
 .apply RG;simp only[go_sem,a,h1,h2,h3,c,f,g,i,j,l,b,d,h];exact au (r:=[.int .i64 4]) rfl ⟨by rw[show fI s=4 from by rw[eq_of_beq h];decide];rfl,rfl⟩
 apply RG;simp only[go_sem,a,h1,h2,h3,c,f,g,i,j,l,b,d,h];have D:s≠rg:=fun e=>by rw[e]at a;exact absurd a aR
 have B:s≠qT:=fun e=>by rw[e]at h1;exact absurd h1 aR
 have A:s≠qW:=fun e=>by rw[e]at h2;exact absurd h2 aR
 have z:s≠rf:=fun e=>by rw[e]at h3;exact absurd h3 aR
 have y:s≠q8:=fun e=>by rw[e]at c;exact absurd c aR
 have x:s≠q7:=fun e=>by rw[e]at f;exact absurd f aR
 have w:s≠qZ:=fun e=>by rw[e]at g;exact absurd g aR
 have u:s≠qY:=fun e=>by rw[e]at i;exact absurd i aR
 have t:s≠rh:=fun e=>by rw[e]at j;exact absurd j aR
 have p:s≠mK:=fun e=>by rw[e]at l;exact absurd l aR
 have o:s≠re:=fun e=>by rw[e]at b;exact absurd b aR
 have n:s≠qV:=fun e=>by rw[e]at d;exact absurd d aR
 have m:s≠q9:=fun e=>by rw[e]at h;exact absurd h aR
 have q:fI s=9:=by unfold fI;rw[ad D,ad B,ad (by simp[A,z,y,x,w,u]),ad (by simp[t,p]),ad (by simp[o,n,m])]
 exact au (r:=[.int .i64 (-1)]) rfl ⟨by rw[q];rfl,rfl⟩
open Go Go.Sx Dg Syn
def OX:ay prog 143:=⟨_,func143,rfl,rfl⟩
def Qa:ay prog 82:=⟨_,func82,rfl,rfl⟩
def GN:ay prog 133:=⟨_,func133,rfl,rfl⟩
def go(d:aE):Nat->Nat×aE
 |0=>if fV (d.take (eI d))then (1,d.take (eI d))else (0,[])
 |1=>if iG (d.take (eI d))then (2,d.take (eI d))else (0,[])
 |_=>match jo.find? fun x=>x.isPrefixOf d with
  |some x=>(3,x)
  |none=>(0,[])
def pA(d:aE):Nat->Nat×aE
 |0=>fh d
 |1=>if iG (d.take (eI d))then (2,d.take (eI d))else go d 2
 |2=>go d 2
 |_=>(0,[])
variable{d:aE}
def HH{k:Nat}(h:(go d k).1=0):go d k=(0,[]):=by
 match k with
 |0=>
  simp only[go]at h |-;split at h
  .cases h
  .rename_i h1;rw[ad h1]
 |1=>
  simp only[go]at h |-;split at h
  .cases h
  .rename_i h1;rw[ad h1]
 |k+2=>
  simp only[go]at h |-;split at h
  .cases h
  .rfl
def Sh{k:Nat}(a:k<3)(h:(go d k).1=0):pA d k=pA d (k+1):=by
 match k,a with
 |0,_=>
  simp only[go]at h;split at h
  .cases h
  .rename_i h1;simp only[pA,fh,go,ad h1]<;>rfl
 |1,_=>
  simp only[go]at h;split at h
  .cases h
  .rename_i h1;simp only[pA,ad h1]
 |2,_=>exact HH h
def Si{k:Nat}(a:k<3)(h:(go d k).1≠0):pA d k=go d k:=by
 match k,a with
 |0,_=>
  simp only[go]at h |-;split at h
  .rename_i h1;simp only[pA,fh,ak h1]
  .exact absurd rfl h
 |1,_=>
  simp only[go]at h |-;split at h
  .rename_i h1;simp only[pA,ak h1]
  .exact absurd rfl h
 |2,_=>rfl
def tE(x:Nat×aE):Value:=.tuple #[.int .u8 x.1,.string ⟨⟨x.2⟩⟩]
def yg(sb a:Nat):List Value:=[.func (.func 213) #[] #[pt a],.func (.func 215) #[] #[pt a],.func (.func 217) #[] #[pt sb]]
def VQ{H:PH}{sb fb i k:Nat}(c:iR H)(b:aX H sb 0 [.string ⟨⟨s⟩⟩])(hf:aX H fb 0 [.func (.func 211) #[] #[pt sb]])(hi:i<=s.length)(e:s.length<2^40)(f:k<3):
  ∃a d,(yg sb fb)[k]?=some (.func (.func a) #[] #[d])/\ay prog a/\aJ prog a #[E i,d] H fun v H2=>v=tE (go (s.drop i) k)/\H2=H:=by
 match k,f with
 |0,_=>refine⟨213,pt fb,rfl,Pi,(S5 b hf hi O).mono fun v H2 h=>⟨?_,h.2⟩⟩;rw[h.1];simp only[go,tE];split<;>rfl
 |1,_=>refine⟨215,pt fb,rfl,Pk,(Tf c b hf hi e).mono fun v H2 h=>⟨?_,h.2⟩⟩;rw[h.1];simp only[go,tE];split<;>rfl
 |2,_=>refine⟨217,pt sb,rfl,Pm,(UI c.1 b hi O).mono fun v H2 h=>⟨?_,h.2⟩⟩;rw[h.1];unfold zL go tE;cases jo.find? (fun x=>x.isPrefixOf (s.drop i))<;>rfl
abbrev lT(I A:PH)(v:Value)(l:List Tok):Prop:=Ow gW 83 7 I A v l
def fP(_:PH)(c:List Value)(x:Nat):Prop:=c=[E x]
abbrev oz(I A:PH)(v:Value)(l:List Nat):Prop:=Ow fP 3 1 I A v l
variable{v:Value}{I:PH}
def lT.le{J A:PH}{l:List Tok}(h:lT I A v l)(k:I.le J):lT J A v l:=Ow.le (R:=gW) (fun{I J c a} h k=>gW.le h k) h k
def oz.le{J A:PH}{l:List Nat}(h:oz I A v l)(k:I.le J):oz J A v l:=Ow.le (R:=fP) (fun{I J c a} h k=>h) h k
def gW.ones{c:List Value}{t:Tok}(h:gW I c t):c.all one=true:=by obtain⟨p,f,l,a,k,rfl,h1,_⟩:=h;simp only[List.all_cons,List.all_nil,h1];rfl
def wF(sb a:Nat)(x:Nat×Value×Value):St:=⟨dn 75 [(1,.v (pt sb)),(2,.v x.2.1),(3,.v x.2.2),(6,.v (.func (.func 213) #[] #[pt a])),(7,.v (.func (.func 215) #[] #[pt a])),(8,.v (.func (.func 217) #[] #[pt sb])),(9,.v (E x.1))],[]⟩
def Vs(s:aE)(b:PH)(x:Nat×Value×Value)(H:PH):Prop:=∃I A B l a,H=U [I,A,B]/\Dj [I,A,B]/\b.le I/\x.1<=s.length/\lT I A x.2.1 (l.map il)/\oz I B x.2.2 a/\a.length=l.length/\l.length<=x.1/\lD s=(lD (s.drop x.1)).map (l++·)
def rm(sb a:Nat)(b vb:Value)(i c:Nat)(x:Nat×Nat×aE):St:=⟨dn 75 [(1,.v (pt sb)),(2,.v b),(3,.v vb),(6,.v (.func (.func 213) #[] #[pt a])),(7,.v (.func (.func 215) #[] #[pt a])),(8,.v (.func (.func 217) #[] #[pt sb])),(9,.v (E i)),(10,.v (.int .u8 x.2.1)),(11,.v (.string ⟨⟨x.2.2⟩⟩)),(38,.v (.slice (some ⟨c,0,none⟩) 3 3)),(39,.v (E 3)),(40,.v (E x.1))],[]⟩
def rO(s:aE)(v:Value)(I2:PH)(qs:List PH):Prop:=match kU s with
 |none=>v=.tuple #[.slice none 0 0,.slice none 0 0,.bool false]/\qs=[]
 |some l=>∃A a vb,v=.tuple #[a,vb,.bool true]/\qs=[A]/\lT I2 A a (l.map il)
def UA(hl:s.length<2^40)(hV:iR I):aI prog 143 #[.string ⟨⟨s⟩⟩] I [] (rO s):=by
 intro hd;refine aG 75 func143 fun w0=>?_;refine af ?_;refine Xa rfl Ph (LX s O _) ?_;rintro v H2⟨rfl,rfl⟩;cases Z:s.all fun c=>i6 (bZ c)
 .have hx:kU s=none:=by unfold kU;rw[Z];rfl
  apply RG;simp only[go_sem,cF];exact ao rfl hd (r:=[_,_,_]) rfl (ax _) (by unfold rO;rw[hx];exact⟨rfl,rfl⟩)
 have P:kU s=lD s:=by unfold kU;rw[Z];rfl
 apply bU 5;simp only[go_sem,bX];refine jE 1 hd rfl fun sb cb=>?_;refine bH (c:=.st _) cb fun I2 ca ag cf=>?_;have hs:aX I2 sb 0 [.string ⟨⟨s⟩⟩]:=(gX ai rfl:aX (sg sb (.cells [.string ⟨⟨s⟩⟩].toArray 9 (0,0))) sb 0 [.string ⟨⟨s⟩⟩]).le cf;apply bU 5;simp only[go_sem,iH,List.map,pt];refine jE 5 ca rfl fun W b8=>?_;refine bH (c:=.st _) b8 fun I4 b7 N cc=>?_;have hf:aX I4 W 0 [.func (.func 211) #[] #[pt sb]]:=(gX ai rfl:aX (sg W (.cells [.func (.func 211) #[] #[pt sb]].toArray 315 (0,0))) W 0 [.func (.func 211) #[] #[pt sb]]).le cc;have hs:=hs.le N;have F:=Y ag N;have ci:=hV.le F;apply RG;simp only[go_sem,iH,List.map,pt];refine dR b7 fun b6=>?_;refine dR b6 fun b5=>?_;refine bz (fun x=>s.length-x.1) (wF sb W) (Vs s I4) (0,.slice none 0 0,.slice none 0 0) kv (by simp only[go_sem,ab,wF]) ?_ ?_
 .exact⟨I4,_,_,[],[],rfl,b5,ax _,bg _,Ow.nil _ _ _ _,Ow.nil _ _ _ _,rfl,bg _,by simp⟩
 rintro⟨i,va,vb⟩ H ⟨I1,A1,B1,l,w,rfl,u,g,hi,T,hB,a6,bs,f⟩ y;simp only at hi T hB bs f;simp only[wF];have G:=hs.le g;obtain⟨aa,ac,rfl⟩:=T.shape;obtain⟨ba,bc,rfl⟩:=hB.shape;refine hZ ?_;refine Xb (l:=[.string ⟨⟨s⟩⟩]) rfl (cellsU u (.head _) G) (.inr ⟨iT,rfl⟩) ?_;rcases aB i s.length with L|cx
 .have S:=Z5 i s.length;have e1:=Z7 i;obtain⟨c,hc⟩:∃c,s[i]?=some c:=⟨_,aL L⟩;have hb:=mf hc;have a3:s.drop i=c::s.drop (i+1):=by rw[jv L];rw[aL L]at hc;rw[df hc]
  have tk:(s.drop i).take (s.length-i)=s.drop i:=tM ai;have bo:=f;rw[a3,yR,<-a3]at f;apply RG;simp only[go_sem,cN,S];refine Xb (l:=[.string ⟨⟨s⟩⟩]) rfl (cellsU u (.head _) G) (.inr ⟨iT,rfl⟩) ?_;refine db hb ?_;refine⟨by first|omega|(simp only[cN];omega),?_⟩;refine Xa rfl Pn (Mp _ _) ?_;rintro v H2⟨rfl,rfl⟩;cases a5:l9 (bZ c)
  rotate_left
  .rw[a5,ak rfl]at f;refine aj e1 ?_;exact y (i+1,.slice aa (l.map il).length ac,.slice ba w.length bc) _ _ bC kv (by simp only[go_sem,ab,wF]) ⟨I1,A1,B1,l,w,rfl,u,g,L,T,hB,a6,by simp only;omega,f⟩
  rw[a5,ad ai]at f;refine af ?_;refine Xb (l:=[.string ⟨⟨s⟩⟩]) rfl (cellsU u (.head _) G) (.inr ⟨iT,rfl⟩) ?_;apply RG;simp only[go_sem,cN,wB,tk];refine⟨O,?_⟩;refine Xa rfl GY (IK _ qw _) ?_;rintro v H2⟨rfl,rfl⟩;cases a4:qw.isPrefixOf (s.drop i)
  rotate_left
  .rw[a4,ak rfl]at f;apply bU 4;simp only[go_sem];refine bq u [1,0] fun j=>?_;refine bq j [0,1] fun d=>?_;refine bH (c:=.st _) d fun I9 d b a0=>?_;refine av ?_;refine ao rfl d (r:=[_,_,_]) rfl (Y F (Y g b)) ?_;unfold rO;rw[P,f];exact⟨A1,_,_,rfl,rfl,by simpa using lT.le T b⟩
  rw[a4,ad ai]at f;refine hZ ?_;refine cd u (by exact UO) rfl rfl rfl rfl rfl aR fun nb I3 j m bd=>?_;have b1:aX I3 nb 0 (yg sb W):=bD bd (by simp[aD,Value.cells,yg]) (by simp[aD,Value.cells,yg,pt]);have bb:=G.le m;have b3:=(hf.le g).le m;have cj:=(ci.le g).le m;refine hZ ?_;apply gl (fun(x:Nat×Nat×aE)=>3-x.1) (rm sb W (.slice aa (l.map il).length ac) (.slice ba w.length bc) i nb) (fun x H=>H=U [I3,A1,B1]/\x.2=(0,[])/\x.1<=3/\fh (s.drop i)=pA (s.drop i) x.1) (fun x H=>H=U [I3,A1,B1]/\x.2=fh (s.drop i)) (0,0,[])
  .exact kv
  .exact(by simp only[go_sem,ab,rm])
  .exact⟨rfl,rfl,bg _,rfl⟩
  .rintro⟨k,M,D⟩ H ⟨rfl,e0,bx,hr⟩ K C;simp only[eL]at e0 bx hr;obtain⟨rfl,rfl⟩:=e0;simp only[rm];rcases aB k 3 with hk|hk
   .have Q:decide ((k:Int)<3)=true:=ar O;have e40:=Z7 k;obtain⟨fid,cp,b2,b0,b4⟩:=VQ (cj.le (eP j)) (cellsU j (.head _) bb) (cellsU j (.head _) b3) hi hl hk;apply RG;simp only[go_sem,E,pt,bG,Q];refine⟨O,?_⟩;refine Xb (l:=[.func (.func fid) #[] #[cp]]) rfl (cellsU j (.head _) (by simpa using b1.get b2)) (.inr ⟨Fe,rfl⟩) ?_;refine av ?_;refine Xa rfl b0 b4 ?_;rintro v H2⟨rfl,rfl⟩;by_cases V:(go (s.drop i) k).1=0
    .rw[HH V];apply RG;simp only[go_sem,tE,E,e40];exact K (k+1,0,[]) _ _ bC kv (by simp only[go_sem,ab,rm]) ⟨rfl,rfl,hk,by rw[hr,Sh hk V]⟩
    .have cs:((((go (s.drop i) k).1:Nat):Int) != 0)=true:=by simp;omega
     apply bU 13;simp only[go_sem,tE,E,cs];exact C (k,go (s.drop i) k) _ _ kv (by simp only[go_sem,ab,rm]) ⟨rfl,by simp only;rw[hr,Si hk V]⟩
   .have:k=3:=by omega
    subst this;have Q:decide ((3:Int)<3)=false:=by decide
    apply bU 7;simp only[go_sem,E,pt,bG,Q];exact C (3,0,[]) _ _ kv (by simp only[go_sem,ab,rm]) ⟨rfl,by simp only;rw[hr];rfl⟩
  .rintro⟨k,M,D⟩ H ⟨rfl,e⟩;simp only at e;simp only[rm];by_cases V:M=0
   .subst V;rw[<-e,ak rfl]at f;refine bq j [1,0] fun d=>?_;refine bq d [0,1] fun q=>?_;refine bH (c:=.st _) q fun I9 q o cl=>?_;refine bq q [0] fun p=>?_;refine bH (c:=.st _) p fun cy p t cn=>?_;apply RG;simp only[go_sem,E,bG];refine ao rfl p (r:=[_,_,_]) rfl (Y F (Y g (Y m (Y o t)))) ?_;unfold rO;rw[P,f];exact⟨rfl,rfl⟩
   .have cr:((M:Int) == 0)=false:=by simp;omega
    have a1:(fh (s.drop i)).1≠0:=by rw[<-e];exact V
    obtain⟨s1,s2,_,_⟩:=yQ a1;rw[ad a1,<-e]at f;rw[<-e]at s1 s2;simp only[kC]at s1 s2;have a2:(l.map il).length=l.length:=dW _;have e72:IntKind.i64.wrap ((i:Int)+(D.length:Int))=((i+D.length:Nat):Int):=by rw[<-wrap64 (n:=i+D.length) O];congr 1
    refine aj cr ?_;refine cd j (by exact jp) rfl rfl rfl rfl rfl aR fun mb I5 d b ct=>?_;refine av ?_;refine Xa rfl uY (wN _) ?_;rintro v H2⟨rfl,rfl⟩;refine av ?_;refine cd d (by exact Js) rfl rfl rfl rfl rfl aR fun tb I6 q o a9=>?_;have hT:Sl gW I6 (.slice (some ⟨tb,0,none⟩) 1 1) [il (M,D)]:=⟨_,_,rfl,.inr ⟨tb,0,[.int .u8 M,.string ⟨⟨D⟩⟩,.slice (some ⟨mb,0,none⟩) 1 1,.int .i64 0,.int .i64 0,.slice none 0 0,E 1],rfl,bD a9 (by simp[aD,Value.cells]) (by simp[aD,Value.cells,E]),.one ⟨.slice (some ⟨mb,0,none⟩) 1 1,0,0,none,0,rfl,rfl,nV I6 true⟩⟩⟩;refine av ?_;refine dX (R:=gW) (xs:=l.map il) (ys:=[il (M,D)]) q (by exact Js) (lT.le T (Y m (Y b o))) hT (fun{I J c a} h k=>gW.le h k) (fun{I} c a h=>gW.len c a h) (fun{I} c a h=>gW.ones h) rfl rfl rfl rfl (by rw[a2];simp only[bf,bA];omega) (by rw[a2];simp only[bf,bA];unfold maxLen;omega) fun ua uc I7 A7 p t cm=>?_;refine av ?_;refine cd p (by exact jp) rfl rfl rfl rfl rfl aR fun xb I8 aq B a7=>?_;have hX:Sl fP I8 (.slice (some ⟨xb,0,none⟩) 1 1) [i]:=⟨_,_,rfl,.inr ⟨xb,0,[E i],rfl,bD a7 (by simp[aD,Value.cells]) (by simp[aD,Value.cells,E]),.one rfl⟩⟩;refine av ?_;refine bq aq [1,0] fun ap=>?_;have X:=Y m (Y b (Y o (Y t B)));refine dX (R:=fP) (xs:=w) (ys:=[i]) ap (by exact jp) (oz.le hB X) hX (fun{I J c a} h k=>h) (fun{I} c a h=>by rw[show c=_ from h];rfl) (fun{I} c a h=>by rw[show c=_ from h];rfl) rfl rfl rfl rfl (by simp only[bf,bA];omega) (by simp only[bf,bA];unfold maxLen;omega) fun wa wc I9 B9 am A ck=>?_;apply RG;simp only[go_sem,E,cN,e72];refine bq am [1,0] fun al=>?_
    refine y (i+D.length,.slice ua (l.map il++[il (M,D)]).length uc,.slice wa (w++[i]).length wc) _ _ bC kv (by simp only[go_sem,ab,wF]) ⟨I9,A7,B9,l++[(M,D)],w++[i],rfl,al,Y g (Y X A),by simp only;omega,?_,ck,by simp[a6],by simp only[dG,bf,bA];omega,?_⟩
    .simp only;rw[jV];exact lT.le cm (Y B A)
    .simp only;rw[f,Option.map_map,kB];congr 1;funext z;simp
 .have:i=s.length:=by omega
  subst this;have S:decide ((s.length:Int)<(s.length:Int))=false:=ai;rw[jw,yS]at f;refine bq u [1,0] fun j=>?_;refine bq j [0,1] fun d=>?_;refine bH d fun I9 d b a0=>?_;apply RG;simp only[go_sem,cN,S];refine ao rfl d (r:=[_,_,_]) rfl (Y F (Y g b)) ?_;unfold rO;rw[P,f];exact⟨A1,_,_,rfl,rfl,by simpa using lT.le T b⟩
def qI(s:aE):Option (List (Nat×aE)):=match kU s with
 |some l=>if l.length>256 then none else some l
 |none=>none
def AO(s:aE)(v:Value)(I2:PH)(qs:List PH):Prop:=match qI s with
 |none=>(∃k:Nat,k≠0/\v=.tuple #[.slice none 0 0,E k])/\qs=[]
 |some l=>∃A a,v=.tuple #[a,E 0]/\qs=[A]/\lT I2 A a (l.map il)
def Sk(k:s.length<2^40)(m:iR I):aI prog 82 #[.string ⟨⟨s⟩⟩] I [] (AO s):=by
 intro hd;refine aG 21 func82 fun w0=>?_;refine af ?_;refine dq hd rfl OX (UA k m) fun v I2 qs b a e=>?_;unfold rO at e;unfold AO qI;cases i:kU s with
 |none=>rw[i]at e;obtain⟨rfl,rfl⟩:=e;refine af ?_;exact ao rfl b (r:=[_,_]) rfl a ⟨⟨4,by decide,rfl⟩,rfl⟩
 |some l=>
  rw[i]at e;obtain⟨A,o,vb,rfl,rfl,j⟩:=e;simp only[Z3]at b |-;obtain⟨q,p,rfl⟩:=j.shape;simp only[dW];rcases aB 256 l.length with h|h
  .have d:decide ((l.length:Int)>256)=true:=ar O;refine bq b [0] fun c=>?_;refine bH c fun t c g n=>?_;apply RG;simp only[go_sem,dW,d];exact ao rfl c (r:=[_,_]) rfl (Y a g) (by rw[ak h];exact⟨⟨5,by decide,rfl⟩,rfl⟩)
  .have d:decide ((l.length:Int)>256)=false:=aS O;apply RG;simp only[go_sem,dW,d];exact ao rfl b (r:=[_,_]) rfl a (by rw[ad (Nat.not_lt.2 h)];exact⟨A,_,rfl,rfl,by rw[<-dW (f:=il)];exact j⟩)
variable{x:aE}
def Og{k:Nat}(h:qI x=none):iD k x=false:=by unfold iD;apply aS;intro e;unfold qI at h;rw[e]at h;simp at h
def Oh{k:Nat}{l:List (Nat×aE)}(h:qI x=some l):iD k x=decide (l=[(k,x)]):=by
 unfold iD qI at *;cases e:kU x with
 |none=>rw[e]at h;cases h
 |some m=>
  rw[e]at h;simp only at h;split at h
  .cases h
  .cases h;simp
def Hr{k:Nat}(K:x.length<2^40)(L:iR I):aI prog 133 #[.int .u8 k,.string ⟨⟨x⟩⟩] I [] fun r I2 qs=>qs=[]/\r=.bool (iD k x):=by
 intro hd;refine aG 35 func133 fun w0=>?_;refine af ?_;refine dq hd rfl Qa (Sk K L) fun v I2 qs o g s=>?_;unfold AO at s;cases u:qI x with
 |none=>
  rw[u]at s;obtain⟨⟨j,V,rfl⟩,rfl⟩:=s;have C:((j:Int) == 0)=false:=by simp;omega
  refine aj C ?_;exact ao rfl o (r:=[_]) rfl g ⟨rfl,by rw[Og u];rfl⟩
 |some l=>
  rw[u]at s;obtain⟨A,T,rfl,rfl,G⟩:=s;simp only[Z3]at o |-;rw[Oh u];obtain⟨Q,P,rfl⟩:=G.shape;refine bq o [0] fun d=>?_;refine bH d fun S d f B=>?_;have M:Sl gW S (.slice Q (l.map il).length P) (l.map il):=fZ (R:=gW) (fun{I J c a} h k=>gW.le h k) G f B;by_cases h1:l.length=1
  .obtain⟨⟨p,y⟩,rfl⟩:=List.length_eq_one_iff.1 h1;obtain⟨b,off,cs,rfl,z,m⟩:=Sl.load (fun{I} c a h=>gW.len c a h) M (i:=0) (x:=il (p,y)) rfl;obtain⟨D,H,F,a,U,rfl,_,hr⟩:=z;have c0:=m.get (i:=0) rfl;have N:=m.get (i:=1) rfl;have q:(((1:Nat):Int) == 1)=true:=rfl;apply RG;simp only[go_sem,E,List.map,bf,bA,q];refine Xb (l:=[.int .u8 p]) rfl (cellsU d (.head _) (by simpa[il]using c0)) (.inr ⟨qq,rfl⟩) ?_;cases t:((p:Int) == (k:Int))
   .have n:((p,y)::([]:List (Nat×aE)))≠[(k,x)]:=by intro e;simp only[tL,eL,dm]at e;rw[e.1]at t;simp at t
    refine db t ?_;exact ao rfl d (r:=[_]) rfl (Y g f) ⟨rfl,by rw[aS n];rfl⟩
   .have w:p=k:=by have:=eq_of_beq t;omega
    subst w;refine db t ?_;refine Xb (l:=[.string ⟨⟨y⟩⟩]) rfl (cellsU d (.head _) (by simpa[il]using N)) (.inr ⟨iT,rfl⟩) ?_;refine af ?_;exact ao rfl d (r:=[.bool (y == x)]) rfl (Y g f) ⟨rfl,by show Value.bool _=_;congr 1;rw[Mk];simp⟩
  .have q:((((l.map il).length:Nat):Int) == 1)=false:=by simp;omega
   have n:l≠[(k,x)]:=fun e=>h1 (by rw[e];rfl);refine aj q ?_;exact ao rfl d (r:=[_]) rfl (Y g f) ⟨rfl,by rw[aS n];rfl⟩
open Go Go.Sx Dg
def co(c:Nat):dp:=fun i=>c.testBit i
def fE(l:List (Nat×Nat)):T:=l.foldl (fun d x=>d.or (gY x.1 x.2)) (.lf false)
def kh(c:Nat)(x:Nat×Nat):Bool:=decide ((c&&&x.1)&&&16777215=x.1&&&16777215) && decide ((c&&&x.2)&&&16777215=0)
def jh(l:List (Nat×Nat))(c:Nat):Bool:=l.any (kh c)
def oU(i:Nat):(16777215:Nat).testBit i=decide (i<24):=by rw[show (16777215:Nat)=2^24-1 from rfl,Nat.testBit_two_pow_sub_one]
def yG(c:Nat)(x:Nat×Nat):kh c x=true<->∀i,i<24->(x.1.testBit i=true->c.testBit i=true)/\(x.2.testBit i=true->c.testBit i=false):=by
 unfold kh;rw[bu,cu,cu];constructor
 .rintro⟨h1,h2⟩ i hi;have a:=congrArg (fun n=>n.testBit i) h1;have e2:=congrArg (fun n=>n.testBit i) h2;simp only[fY,oU,hi,decide_true,lO,Nat.zero_testBit]at a e2;refine⟨fun h=>?_,fun h=>?_⟩
  .rw[h]at a;simpa using a
  .rw[h]at e2;simpa using e2
 .intro h;constructor
  .apply Nat.eq_of_testBit_eq;intro i;simp only[fY,oU];by_cases hi:i<24
   .have:=(h i hi).1;cases h1:x.1.testBit i
    .simp
    .simp[this h1]
   .simp[hi]
  .apply Nat.eq_of_testBit_eq;intro i;simp only[fY,oU,Nat.zero_testBit];by_cases hi:i<24
   .have:=(h i hi).2;cases h1:x.2.testBit i
    .simp
    .simp[this h1]
   .simp[hi]
def Nw(c:Nat)(x:Nat×Nat):(gY x.1 x.2).at' (co c)=kh c x:=by
 rw[Bool.eq_iff_iff,yG];unfold gY;split
 .rename_i h;constructor
  .intro h;cases h
  .intro k;refine absurd ?_ h;apply Nat.eq_of_testBit_eq;intro i;simp only[fY,oU,Nat.zero_testBit];by_cases hi:i<24
   .have h1:=(k i hi).1;have h2:=(k i hi).2;cases a:x.1.testBit i<;>cases e2:x.2.testBit i<;>simp_all
   .simp[hi]
 .rename_i h;have b:∀i,i<24->x.1.testBit i=true->x.2.testBit i=true->False:=by intro i hi a e2;apply h;intro e;have:=congrArg (fun n=>n.testBit i) e;simp[fY,oU,hi,a,e2]at this
  rw[FV _ _ _ 24 (aW _)];constructor
  .intro k i hi;have:=k i O hi;simp only[fY,oU,hi,decide_true,lO]at this;refine⟨this.1,fun e=>?_⟩;cases a:x.1.testBit i
   .exact this.2 a e
   .exact(b i hi a e).elim
  .intro k i _ hi;have:=k i hi;simp only[fY,oU,hi,decide_true,lO];exact⟨this.1,fun _ e=>this.2 e⟩
def BJ(c:Nat):∀(l:List (Nat×Nat)) (z:T),z.ok 0->(l.foldl (fun d x=>d.or (gY x.1 x.2)) z).ok 0/\(l.foldl (fun d x=>d.or (gY x.1 x.2)) z).at' (co c)=(z.at' (co c) || jh l c)
 | [],z,a=>⟨a,by simp[jh]⟩
 |x::l,z,a=>by have b:=Nx x.1 x.2;obtain⟨h1,h2⟩:=BJ c l (z.or (gY x.1 x.2)) (T.or_ok a b);refine⟨h1,?_⟩;rw[List.foldl_cons,h2,T.or_at a b,Nw];simp[jh,Bool.or_assoc]
def uH(l:List (Nat×Nat)):(fE l).ok 0:=(BJ 0 l (.lf false) trivial).1
def BI(l:List (Nat×Nat))(c:Nat):(fE l).at' (co c)=jh l c:=by have:=(BJ c l (.lf false) trivial).2;rw[show (T.lf false).at' (co c)=false from rfl,ju]at this;exact this
def pG{a b:Nat}(ha:a<2^32)(hb:b<2^32):sY .u32 (a:Int) (b:Int)=((a|||b:Nat):Int):=by
 have e:BitVec.ofInt 32 (a:Int)=BitVec.ofNat _ a:=by rw[BitVec.ofInt_natCast]
 have d:BitVec.ofInt 32 (b:Int)=BitVec.ofNat _ b:=by rw[BitVec.ofInt_natCast]
 have c:a|||b<2^32:=Nat.or_lt_two_pow ha hb;have:sY .u32 (a:Int) (b:Int)=IntKind.u32.wrap ((BitVec.ofInt 32 (a:Int)|||BitVec.ofInt 32 (b:Int)).toNat:Int):=rfl;rw[this,e,d,BitVec.toNat_or,BitVec.toNat_ofNat,BitVec.toNat_ofNat,Nat.mod_eq_of_lt ha,Nat.mod_eq_of_lt hb];simp only[IntKind.wrap,show IntKind.bits .u32=32 from rfl,show IntKind.signed .u32=false from rfl];have:((a|||b:Nat):Int) % (2^32:Int)=((a|||b:Nat):Int):=rz O (by exact_mod_cast c);simpa using this
def Jo{i:Nat}(hi:i<32):mC .u32 1 (i:Int)=((2^i:Nat):Int):=by have:mC .u32 1 (i:Int)=IntKind.u32.wrap (1*2^(min i 32)):=rfl;have e:min i 32=i:=O;have a:(2:Nat)^i<2^32:=Nat.pow_lt_pow_right O hi;rw[this,e,show (1*2^i:Int)=((2^i:Nat):Int) by simp];simp only[IntKind.wrap,show IntKind.bits .u32=32 from rfl,show IntKind.signed .u32=false from rfl];have:((2^i:Nat):Int) % (2^32:Int)=((2^i:Nat):Int):=rz (fN _) (by exact_mod_cast a);simpa using this
def uy(l:List (Nat×Nat)):Nat:=l.foldl (fun u x=>(u|||x.1)|||x.2) 0
def gC(l:List (Nat×Nat)):Nat:=uy l&&&16777215
def Mo(l:List (Nat×Nat))(x:Nat×Nat):uy (l++[x])=(uy l|||x.1)|||x.2:=by unfold uy;rw[lP];rfl
def kK(l:List (Nat×Nat))(u:Nat):Prop:=∀x∈l,∀i,i<24->x.1.testBit i=true\/x.2.testBit i=true->u.testBit i=true
variable{l:List (Nat×Nat)}
def kK.left{u:Nat}(h:kK l u)(v:Nat):kK l (u|||v):=fun x a i hi hb=>by rw[Nat.testBit_or,h x a i hi hb];rfl
def OB(l:List (Nat×Nat)):∀(z i:Nat),z.testBit i=true->(l.foldl (fun u x=>(u|||x.1)|||x.2) z).testBit i=true:=by
 induction l with
 |nil=>intro z i h;exact h
 |cons y l a=>intro z i h;exact a _ i (by rw[Nat.testBit_or,Nat.testBit_or,h];rfl)
def OC(l:List (Nat×Nat)):∀(z:Nat),∀x∈l,∀i,x.1.testBit i=true\/x.2.testBit i=true->(l.foldl (fun u x=>(u|||x.1)|||x.2) z).testBit i=true:=by
 induction l with
 |nil=>intro z x a;exact(dH a).elim
 |cons y l b=>
  intro z x a i hb;rcases List.mem_cons.1 a with rfl|a
  .refine OB l _ i ?_;rw[Nat.testBit_or,Nat.testBit_or];rcases hb with hb|hb<;>rw[hb]<;>simp
  .exact b _ x a i hb
def Vl(l:List (Nat×Nat)):kK l (gC l):=fun x a i hi hb=>by unfold gC;rw[fY,oU];simp only[hi,decide_true,lO];exact OC l 0 x a i hb
def xH(l:List (Nat×Nat)):gC l<2^24:=jy Nat.and_le_right aR
def yF{u:Nat}(h:kK l u)(c:Nat):jh l (c&&&u)=jh l c:=by
 unfold jh;have:∀x∈l,kh (c&&&u) x=kh c x:=fun x a=>by
  rw[Bool.eq_iff_iff,yG,yG];constructor
  .intro k i hi;obtain⟨k1,k2⟩:=k i hi;rw[fY]at k1 k2;refine⟨fun hb=>?_,fun hb=>?_⟩
   .have:=k1 hb;rw[bu]at this;exact this.1
   .have:=k2 hb;rw[h x a i hi (.inr hb),lO]at this;exact this
  .intro k i hi;obtain⟨k1,k2⟩:=k i hi;rw[fY];exact⟨fun hb=>by rw[k1 hb,h x a i hi (.inl hb)];rfl,fun hb=>by rw[k2 hb];rfl⟩
 clear h
 induction l with
 |nil=>rfl
 |cons y l b=>rw[List.any_cons,List.any_cons,this y (.head _),b fun x a=>this x (.tail _ a)]
def cI(u:Nat):Nat->List Nat
 |0=>[0]
 | i+1=>if u.testBit i=true then cI u i++(cI u i).map (fun x=>x|||2^i)else cI u i
def xP(u:Nat):∀(i:Nat),∀x∈cI u i,x<2^i
 |0,x,h=>by unfold cI at h;rw[List.mem_singleton]at h;subst h;decide
 |i+1,x,h=>by
  have hm:∀y∈cI u i,y<2^(i+1):=fun y a=>Nat.lt_of_lt_of_le (xP u i y a) (iP O O);unfold cI at h;split at h
  .rcases List.mem_append.1 h with h|h
   .exact hm x h
   .obtain⟨y,a,rfl⟩:=List.mem_map.1 h;exact Nat.or_lt_two_pow (hm y a) (Nat.pow_lt_pow_right O O)
  .exact hm x h
def FN(u c:Nat):∀i:Nat,(c&&&u) % 2^i∈cI u i
 |0=>by unfold cI;rw[Nat.pow_zero,Nat.mod_one];exact .head _
 |i+1=>by
  have d:=FN u c i;have key:∀y:Nat,(∀j,y.testBit j=(decide (j<i+1) && (c&&&u).testBit j))->(c&&&u) % 2^(i+1)=y:=fun y f=>by apply Nat.eq_of_testBit_eq;intro j;rw[f j,Nat.testBit_mod_two_pow]
  unfold cI;by_cases b:u.testBit i=true
  .rw[ak b];by_cases e:c.testBit i=true
   .refine eo _ (List.mem_map.2 ⟨_,d,(key _ fun j=>?_).symm⟩);rw[Nat.testBit_or,Nat.testBit_mod_two_pow,Nat.testBit_two_pow];by_cases a:i=j
    .subst a;simp[fY,b,e]
    .rw[show decide (j<i+1)=decide (j<i) by rw[decide_eq_decide];omega];simp[a]
   .refine dk _ ?_;rw[key _ fun j=>?_]
    .exact d
    .rw[Nat.testBit_mod_two_pow];by_cases a:i=j
     .subst a;simp[fY,e]
     .rw[show decide (j<i+1)=decide (j<i) by rw[decide_eq_decide];omega]
  .rw[ad b,key _ fun j=>?_]
   .exact d
   .rw[Nat.testBit_mod_two_pow];by_cases a:i=j
    .subst a;simp[fY,b]
    .rw[show decide (j<i+1)=decide (j<i) by rw[decide_eq_decide];omega]
def mL(l:List (Nat×Nat))(u:Nat):List Nat:=(cI u 32).filter (jh l)
section
variable {pb:Nat} {ts:List Tok} {lv fv ov:Value}
def aT.sl{I J A:PH}{v:Value}{l:List Nd}(h:aT I A v l)(h1:I.le J)(h2:A.le J):de J v l:=fZ (R:=az) (fun{I J c a} h k=>az.le h k) h h1 h2
end
open Go Go.Sx Dg Syn
section
variable {pb:Nat} {ts:List Tok} {lv fv ov:Value}
def UQ{I:PH}{nb:Nat}{cs:List Value}{n:Nd}(h:aX I nb 0 cs)(a:az I cs n):de I (.slice (some ⟨nb,0,none⟩) 1 1) [n]:=⟨_,_,rfl,.inr ⟨nb,0,cs,rfl,h,.one a⟩⟩
end
open Go Go.Sx Dg Syn
def Cq:ay prog 161:=⟨_,func161,rfl,rfl⟩
def O5:ay prog 162:=⟨_,func162,rfl,rfl⟩
def Pp:ay prog 226:=⟨_,func226,rfl,rfl⟩
def Pq:ay prog 227:=⟨_,func227,rfl,rfl⟩
def G1:ay prog 232:=⟨_,func232,rfl,rfl⟩
def G2:ay prog 233:=⟨_,func233,rfl,rfl⟩
def G4:ay prog 281:=⟨_,func281,rfl,rfl⟩
def G5:ay prog 282:=⟨_,func282,rfl,rfl⟩
def GR:ay prog 160:=⟨_,func160,rfl,rfl⟩
def uX:ay prog 145:=⟨_,func145,rfl,rfl⟩
def GP:ay prog 149:=⟨_,func149,rfl,rfl⟩
def O0:ay prog 148:=⟨_,func148,rfl,rfl⟩
def CK:ay prog 93:=⟨_,func93,rfl,rfl⟩
def aJ.keep{P:Program}{f:FuncId}{args:Array Value}{I:PH}{w:Value}(h:aJ P f args I fun v H2=>v=w/\H2=I):aI P f args I [] fun v I2 qs=>qs=[]/\v=w:=
 aJ.toI (h.mono fun v H2 ⟨a,e2⟩=>⟨by rw[e2];exact ax _,a⟩)
def cS(a b:Int):Int:=if a<b then -1 else if b<a then 1 else 0
def kP(a b:aE):Int:=if fL a b=true then -1 else if fL b a=true then 1 else 0
def xL:∀(a b:aE),Op.bytesLess a b=fL a b
 |_,[]=>by simp[Op.bytesLess,fL]
 | [],_::_=>rfl
 |x::a,y::b=>by
  have d:=xL a b;simp only[Op.bytesLess,fL,d];by_cases h1:x.toNat<y.toNat
  .have:x<y:=h1;simp[h1,this]
  .have c:¬x<y:=h1;by_cases h2:y.toNat<x.toNat
   .have:(x == y)=false:=by rw[hU];intro e;rw[e]at h2;exact Nat.lt_irrefl _ h2
    simp[h1,h2,c,this]
   .have e:x=y:=UInt8.toNat_inj.1 O;subst e;simp[h1]
def Ih(a:Int)(H:PH):aJ prog 232 #[.int .i64 a] H fun v H2=>v=.bool false/\H2=H:=by refine fq func232 rfl (by simp[ntmps232]) fun w0=>?_;simp only[ntmps232];apply RG;simp only[go_sem,bne_self_eq_false];exact au (r:=[_]) rfl ⟨rfl,rfl⟩
def Ig(a:Int)(H:PH):aJ prog 233 #[.int .u8 a] H fun v H2=>v=.bool false/\H2=H:=by refine fq func233 rfl (by simp[ntmps233]) fun w0=>?_;simp only[ntmps233];apply RG;simp only[go_sem,bne_self_eq_false];exact au (r:=[_]) rfl ⟨rfl,rfl⟩
def Ij(a:Int)(H:PH):aJ prog 281 #[.int .u8 a] H fun v H2=>v=.bool false/\H2=H:=by refine fq func281 rfl (by simp[ntmps281]) fun w0=>?_;simp only[ntmps281];apply RG;simp only[go_sem,bne_self_eq_false];exact au (r:=[_]) rfl ⟨rfl,rfl⟩
def Ii(a:aE)(H:PH):aJ prog 282 #[.string ⟨⟨a⟩⟩] H fun v H2=>v=.bool false/\H2=H:=by refine fq func282 rfl (by simp[ntmps282]) fun w0=>?_;simp only[ntmps282];apply RG;simp only[go_sem,bne_self_eq_false];exact au (r:=[_]) rfl ⟨rfl,rfl⟩
def BE(a b:Int)(H:PH):aJ prog 161 #[.int .i64 a,.int .i64 b] H fun v H2=>v=.int .i64 (cS a b)/\H2=H:=by
 refine aG 20 func161 fun w0=>?_;refine af ?_;refine Xa rfl G1 (Ih a H) ?_;rintro v H2⟨rfl,rfl⟩;refine af ?_;refine Xa rfl G1 (Ih b H2) ?_;rintro v e⟨rfl,rfl⟩;by_cases h1:a<b
 .have c:decide (a<b)=true:=ar h1;refine db c ?_;exact au (r:=[_]) rfl ⟨by simp[cS,h1,bT],rfl⟩
 .have c:decide (a<b)=false:=aS h1;by_cases h2:b<a
  .have d:decide (a>b)=true:=ar h2;apply RG;simp only[go_sem,c,d,ju,cF];exact au (r:=[_]) rfl ⟨by simp[cS,h1,h2,bT],rfl⟩
  .have d:decide (a>b)=false:=aS h2;apply RG;simp only[go_sem,c,d,ju,bX];exact au (r:=[_]) rfl ⟨by simp[cS,h1,h2,bT],rfl⟩
def Nk(a b:Int)(H:PH):aJ prog 162 #[.int .u8 a,.int .u8 b] H fun v H2=>v=.int .i64 (cS a b)/\H2=H:=by
 refine aG 20 func162 fun w0=>?_;refine af ?_;refine Xa rfl G2 (Ig a H) ?_;rintro v H2⟨rfl,rfl⟩;refine af ?_;refine Xa rfl G2 (Ig b H2) ?_;rintro v e⟨rfl,rfl⟩;by_cases h1:a<b
 .have c:decide (a<b)=true:=ar h1;refine db c ?_;exact au (r:=[_]) rfl ⟨by simp[cS,h1,bT],rfl⟩
 .have c:decide (a<b)=false:=aS h1;by_cases h2:b<a
  .have d:decide (a>b)=true:=ar h2;apply RG;simp only[go_sem,c,d,ju,cF];exact au (r:=[_]) rfl ⟨by simp[cS,h1,h2,bT],rfl⟩
  .have d:decide (a>b)=false:=aS h2;apply RG;simp only[go_sem,c,d,ju,bX];exact au (r:=[_]) rfl ⟨by simp[cS,h1,h2,bT],rfl⟩
def No(a b:Int)(H:PH):aJ prog 226 #[.int .u8 a,.int .u8 b] H fun v H2=>v=.int .i64 (cS a b)/\H2=H:=by
 refine aG 20 func226 fun w0=>?_;refine af ?_;refine Xa rfl G4 (Ij a H) ?_;rintro v H2⟨rfl,rfl⟩;refine af ?_;refine Xa rfl G4 (Ij b H2) ?_;rintro v e⟨rfl,rfl⟩;by_cases h1:a<b
 .have c:decide (a<b)=true:=ar h1;refine db c ?_;exact au (r:=[_]) rfl ⟨by simp[cS,h1,bT],rfl⟩
 .have c:decide (a<b)=false:=aS h1;by_cases h2:b<a
  .have d:decide (a>b)=true:=ar h2;apply RG;simp only[go_sem,c,d,ju,cF];exact au (r:=[_]) rfl ⟨by simp[cS,h1,h2,bT],rfl⟩
  .have d:decide (a>b)=false:=aS h2;apply RG;simp only[go_sem,c,d,ju,bX];exact au (r:=[_]) rfl ⟨by simp[cS,h1,h2,bT],rfl⟩
def Nn(a b:aE)(H:PH):aJ prog 227 #[.string ⟨⟨a⟩⟩,.string ⟨⟨b⟩⟩] H fun v H2=>v=.int .i64 (kP a b)/\H2=H:=by
 refine aG 20 func227 fun w0=>?_;refine af ?_;refine Xa rfl G5 (Ii a H) ?_;rintro v H2⟨rfl,rfl⟩;refine af ?_;refine Xa rfl G5 (Ii b H2) ?_;rintro v f⟨rfl,rfl⟩;by_cases h1:fL a b=true
 .have c:Op.bytesLess a b=true:=by rw[xL];exact h1
  refine db c ?_;exact au (r:=[_]) rfl ⟨by simp[kP,h1,bT],rfl⟩
 .have c:Op.bytesLess a b=false:=by rw[xL];simpa using h1
  by_cases h2:fL b a=true
  .have d:(a == b)=false:=by rw[hU];intro e;rw[e,n5.irr]at h2;cases h2
   apply RG;simp only[go_sem,c,d,ju,cF];exact au (r:=[_]) rfl ⟨by simp[kP,h1,h2,bT],rfl⟩
  .have d:(a == b)=true:=by rw[beq_iff_eq];exact n5.tri a b (by simpa using h1) (by simpa using h2)
   apply RG;simp only[go_sem,c,d,ju,bX];exact au (r:=[_]) rfl ⟨by simp[kP,h1,h2,bT],rfl⟩
def cU:List Int->Int
 | []=>0
 |a::l=>if a=0 then cU l else a
def zt(sv:Value)(n:Nat)(i:Nat):St:=⟨dn 18 [(3,.v (.int .i64 0)),(6,.v sv),(7,.v (E n)),(8,.v (E i))],[]⟩
def IA{H:PH}{b c:Nat}{zs:List Int}(h:aX H b 0 (zs.map fun z=>.int .i64 z))(t:zs.length<=100):aJ prog 160 #[.slice (some ⟨b,0,none⟩) zs.length c] H fun v H2=>v=.int .i64 (cU zs)/\H2=H:=by
 refine aG 18 func160 fun w0=>?_;refine af ?_;refine bz (fun x=>zs.length-x) (zt (.slice (some ⟨b,0,none⟩) zs.length c) zs.length) (fun i H2=>H2=H/\i<=zs.length/\cU (zs.drop i)=cU zs) 0 ae (by simp only[go_sem,ab,zt]) ⟨rfl,bg _,rfl⟩ ?_;rintro i H2 ⟨rfl,hi,f⟩ e;simp only[zt];rcases aB i zs.length with d|p
 .have k:decide ((i:Int)<(zs.length:Int))=true:=by simp;omega
  have s:=wrap64 (n:=i+1) O;have m:IntKind.i64.wrap ((i:Int)+1)=((i+1:Nat):Int):=by rw[<-s];congr 1
  obtain⟨z,o⟩:∃z,zs[i]?=some z:=⟨_,aL d⟩;have hd:zs.drop i=z::zs.drop (i+1):=by rw[jv d];rw[aL d]at o;rw[df o]
  have a:=h.sub i 1 (by simp;omega);have hm:((zs.map fun z=>Value.int .i64 z).drop i).take 1=[.int .i64 z]:=by rw[<-List.map_drop,hd];rfl
  rw[hm,eR]at a;rw[hd]at f;refine aj k ?_;refine⟨O,?_⟩;refine Xb (l:=[.int .i64 z]) rfl (by simpa using a) (.inr ⟨dI,rfl⟩) ?_;by_cases g:z=0
  .have q:(z != 0)=false:=by simp[g]
   refine bW q m ?_;exact e (i+1) _ _ O ae (by simp only[go_sem,ab,zt]) ⟨rfl,d,by rw[<-f];simp[cU,g]⟩
  .have q:(z != 0)=true:=by simp[g]
   refine aj q ?_;exact au (r:=[_]) rfl ⟨by rw[<-f];simp[cU,g,bT],rfl⟩
 .have j:i=zs.length:=by omega
  subst j;have k:decide ((zs.length:Int)<(zs.length:Int))=false:=ai;rw[jw]at f;refine aj k ?_;exact au (r:=[_]) rfl ⟨by rw[<-f];rfl,rfl⟩
def vr(k t o g:Int)(x:aE)(e b:Option Addr)(c d fn a:Nat)(H:PH):aJ prog 145 #[.agg #[.int .u8 k,.string ⟨⟨x⟩⟩,.int .i64 t,.int .i64 o,.slice e c d,.slice b fn a,.int .i64 g]] H fun v H2=>v=.agg #[.int .i64 o,.int .i64 t,.int .u8 k,.string ⟨⟨x⟩⟩]/\H2=H:=by refine aG 12 func145 fun w0=>?_;refine af ?_;exact au (r:=[.agg #[.int .i64 o,.int .i64 t,.int .u8 k,.string ⟨⟨x⟩⟩]]) (by simp only[results145,go_sem]) ⟨rfl,rfl⟩
def fT(x y:fc):Int:=cU [cS x.slot y.slot,cS x.tok y.tok,cS x.kind y.kind,kP x.text y.text]
def ji(k:fc):Value:=.agg #[.int .i64 k.slot,.int .i64 k.tok,.int .u8 k.kind,.string ⟨⟨k.text⟩⟩]
def vm(x y:fc):decide (fT x y<0)=dE x y:=by
 unfold fT dE cS kP cU cU cU cU cU;by_cases a1:x.slot<y.slot
 .simp[a1]
 .by_cases a2:y.slot<x.slot
  .simp[a1,a2]
  .by_cases b1:x.tok<y.tok
   .simp[a1,a2,b1]
   .by_cases b2:y.tok<x.tok
    .simp[a1,a2,b1,b2]
    .by_cases a:x.kind<y.kind
     .simp[a1,a2,b1,b2,a]
     .by_cases c2:y.kind<x.kind
      .simp[a1,a2,b1,b2,a,c2]
      .cases d1:fL x.text y.text<;>cases d2:fL y.text x.text<;>simp[a1,a2,b1,b2,a,c2]
def FT(x y:fc)(I:PH):aI prog 149 #[ji x,ji y] I [] fun v I2 qs=>qs=[]/\v=.int .i64 (fT x y):=by
 intro hd;refine aG 27 func149 fun w0=>?_
 try simp only[ji]
 refine af ?_;refine aV [0,1,2,3,5,6,7,8,10,11,12,13,15,16,17,18,4,9,14,19,20,21,22] [] [] ?_;refine dB ?_;refine cP hd rfl Cq (aJ.keep (BE x.slot y.slot I)) ?_;rintro v I2 qs n g⟨rfl,rfl⟩;refine dB ?_;refine cP n rfl Cq (aJ.keep (BE x.tok y.tok I2)) ?_;rintro v p qs m f⟨rfl,rfl⟩;refine dB ?_;refine cP m rfl Pp (aJ.keep (No x.kind y.kind p)) ?_;rintro v o qs l e⟨rfl,rfl⟩;refine dB ?_;refine cP l rfl Pq (aJ.keep (Nn x.text y.text o)) ?_;rintro v u qs k d⟨rfl,rfl⟩;refine dB ?_;refine lV k (by exact jp) rfl rfl rfl rfl rfl aR fun q t j c h=>?_;refine dB ?_;refine cP j rfl GR (aJ.keep (IA (zs:=[cS x.slot y.slot,cS x.tok y.tok,cS x.kind y.kind,kP x.text y.text]) (bD h (by simp[aD,Value.cells]) (by simp[aD,Value.cells])) ai)) ?_;rintro v s qs i b⟨rfl,rfl⟩;refine dB ?_;apply an;refine af ?_;exact ao rfl i (r:=[_]) rfl (Y g (Y f (Y e (Y d (Y c b))))) ⟨rfl,rfl⟩
def gu{α:Type}(R:PH->List Value->α->Prop)(lt:α->α->Bool)(vc:Value):Prop:=
 ∃f first cap,vc=.func (.func f) first cap/\ay prog f/\∀(J:PH) (x y:α) (b a:List Value),R J b x->R J a y->
  aI prog f (first++[Value.agg b.toArray,Value.agg a.toArray].toArray++cap) J [] fun v I2 qs=>qs=[]/\∃z:Int,v=.int .i64 z/\decide (z<0)=lt x y
def aO(x y:Nd):Bool:=dE x.key y.key
def SN{J:PH}{x y:Nd}{cx cy:List Value}(u:az J cx x)(t:az J cy y):aI prog 148 #[.agg cx.toArray,.agg cy.toArray] J [] fun v I2 qs=>qs=[]/\∃z:Int,v=.int .i64 z/\decide (z<0)=aO x y:=by
 intro hd;obtain⟨C,B,A,rfl,l,b,m⟩:=u.shape;obtain⟨p,o,n,rfl,g,a,k⟩:=t.shape;obtain⟨F,D,rfl,_⟩:=b;obtain⟨s,q,rfl,_⟩:=a;refine aG 10 func148 fun w0=>?_
 try simp only[sD,rD,E]
 refine af ?_;refine aV [0,2,1,3,4,5] [] [] ?_;refine dB ?_;refine cP hd rfl uX (aJ.keep (vr _ _ _ _ _ _ _ _ _ _ _ J)) ?_;rintro v I2 qs j f⟨rfl,rfl⟩;refine dB ?_;refine cP j rfl uX (aJ.keep (vr _ _ _ _ _ _ _ _ _ _ _ I2)) ?_;rintro v w qs i e⟨rfl,rfl⟩;refine dB ?_;refine cP i rfl GP (FT x.key y.key w) ?_;rintro v G qs h d⟨rfl,rfl⟩;refine dB ?_;apply an;refine af ?_;exact ao rfl h (r:=[_]) rfl (Y f (Y e d)) ⟨rfl,_,rfl,vm _ _⟩
def Nm:gu az aO (.func (.func 148) #[] #[]):=⟨148,#[],#[],rfl,O0,fun J x y d c b a=>SN b a⟩
def eV(x y:aN):Int:=cU [cS x.tok y.tok,cS x.code y.code]
def bP(x y:aN):Bool:=fF x.key y.key
def F4(x y:aN):decide (eV x y<0)=bP x y:=by
 unfold eV bP fF cS cU cU cU aN.key;by_cases a1:x.tok<y.tok
 .simp[a1]
 .by_cases a2:y.tok<x.tok
  .simp[a1,a2]
  .by_cases b1:x.code<y.code
   .simp[a1,a2,b1]
   .by_cases b2:y.code<x.code<;>simp[a1,a2,b1,b2]
def NK(x y:aN):(eV x y == 0)=decide (x.key=y.key):=by
 unfold eV cS cU cU cU aN.key;by_cases a1:x.tok<y.tok
 .have:x.tok≠y.tok:=by omega
  simp[a1,this]
 .by_cases a2:y.tok<x.tok
  .have:x.tok≠y.tok:=by omega
   simp[a1,a2,this]
  .have e:x.tok=y.tok:=by omega
   by_cases b1:x.code<y.code
   .have:x.code≠y.code:=by omega
    simp[b1,this,e]
   .by_cases b2:y.code<x.code
    .have:x.code≠y.code:=by omega
     simp[b1,b2,this,e]
    .have e2:x.code=y.code:=by omega
     simp[e,e2]
def BM{I:PH}{x y:aN}{cx cy:List Value}(l:aY I cx x)(k:aY I cy y):aI prog 93 #[.agg cx.toArray,.agg cy.toArray] I [] fun v I2 qs=>qs=[]/\v=.int .i64 (eV x y):=by
 intro hd;obtain⟨a1,k1,rfl,h1⟩:=l;obtain⟨a2,k2,rfl,h2⟩:=k;refine aG 17 func93 fun w0=>?_
 try simp only[sD,rD,E]
 refine af ?_;refine aV [0,1,2,3,5,6,7,8,4,9,10,11,12] [] [] ?_;refine dB ?_;refine cP hd rfl Cq (aJ.keep (BE x.tok y.tok I)) ?_;rintro v I2 qs j e⟨rfl,rfl⟩;refine dB ?_;refine cP j rfl O5 (aJ.keep (Nk x.code y.code I2)) ?_;rintro v p qs i d⟨rfl,rfl⟩;refine dB ?_;refine lV i (by exact jp) rfl rfl rfl rfl rfl aR fun m o h c f=>?_;refine dB ?_;refine cP h rfl GR (aJ.keep (IA (zs:=[cS x.tok y.tok,cS x.code y.code]) (bD f (by simp[aD,Value.cells]) (by simp[aD,Value.cells])) ai)) ?_;rintro v n qs g b⟨rfl,rfl⟩;refine dB ?_;apply an;refine af ?_;exact ao rfl g (r:=[_]) rfl (Y e (Y d (Y c b))) ⟨rfl,rfl⟩
def Nl:gu aY bP (.func (.func 93) #[] #[]):=⟨93,#[],#[],rfl,CK,fun J x y e d b a=>(BM b a).mono fun v I2 qs _ ⟨c,e2⟩=>⟨c,_,e2,F4 x y⟩⟩
def WP{n:Nat}(h:n<=maxLen):IntKind.i64.wrap (n:Int)=(n:Int):=by unfold maxLen at h;simp only[IntKind.wrap,show IntKind.bits .i64=64 from rfl,show IntKind.signed .i64=true from rfl];simp;omega
def mO{i n c:Nat}{a:Option Addr}(b:jB (.slice a n c))(hi:i<n):IntKind.i64.wrap ((i:Int)+1)=((i+1:Nat):Int):=by have h:n<=c/\(0<n->c<=maxLen):=b;have h2:=h.2 O;have:=WP (n:=i+1) O;rw[<-this];congr 1
def iL{α:Type}{l:List α}{i:Nat}{n:α}(h:l[i]?=some n):l.take (i+1)=l.take i++[n]:=by rw[List.take_add_one,h];rfl
end Go.Proofs.YtfaclfkpnmcmlaaGreatDoor
