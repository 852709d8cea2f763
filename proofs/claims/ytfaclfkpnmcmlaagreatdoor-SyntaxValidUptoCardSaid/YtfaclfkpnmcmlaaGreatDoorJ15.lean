import Derived.Test.YtfaclfkpnmcmlaaGreatDoorJ13
import Derived.Test.YtfaclfkpnmcmlaaGreatDoorJ14
set_option maxHeartbeats 8000000
set_option linter.all false
open Go.Proofs.Tryz hiding t8
namespace Go.Proofs.YtfaclfkpnmcmlaaGreatDoor
open Go Go.Sx Dg Syn
def DT:ax prog 267:=⟨_,func267,rfl,rfl⟩
def P3:ax prog 268:=⟨_,func268,rfl,rfl⟩
def PK:ax prog 216:=⟨_,func216,rfl,rfl⟩
def PJ:ax prog 215:=⟨_,func215,rfl,rfl⟩
section
variable {C:Cx} {P:Program} {k:List Item} {σ:St} {H:PH}
variable{v:Value}{ms:Array (String×TypeId)}{T2:TypeId}
def V6{o:Oper}{T:TypeId}{x y:Operand}{b:Bool}(aa:o.op=.binOp .eql T x y T2)(f:P.underlying T=some (.interface ms))
  (d:ev σ x=.v v) (i:y=.const .nilIface) (hv:v=.nilIface/\b=true\/(∃t p,v=.iface t p)/\b=false) :
  bQ σ o.op=true/\eD P (execOp (bf σ) o) H fun sv H2=>sv=.v (.bool b)/\H2=H:=by
 subst i;have c:ev σ (.const .nilIface)=.v .nilIface:=rfl;constructor
 .simp[bQ,aa,fB,Op.operands,d,c,fO]
 .intro w e;have a:(execOp (bf σ) o).run P w=.ok (.value (.bool b)) w:=by
   have:∀k,Op.maxDepth=k+1->(Op.equal T v .nilIface).run P w=.ok b w:=by intro k g;unfold Op.equal;rw[g];rcases hv with ⟨rfl,rfl⟩|⟨⟨t,p,rfl⟩,rfl⟩<;>simp[Op.equalIn,run_underlying f,eI,Result.andThen]
   have h:=this 9999 rfl;rcases hv with ⟨rfl,rfl⟩|⟨⟨t,p,rfl⟩,rfl⟩<;>simp[execOp,aa,bf,d,c,eqGuard,binOp,eI,h,Result.andThen]
  rw[a];exact⟨H,cM.refl e,rfl,rfl⟩
def y8{ol rem:List Oper}{o:Oper}{T:TypeId}{x y:Operand}(b:Bool)(c:bH ol σ o=some true)(aa:o.op=.binOp .eql T x y T2)(d:C.P.underlying T=some (.interface ms))
  (a:ev σ x=.v v) (f:y=.const .nilIface) (hv:v=.nilIface/\b=true\/(∃t p,v=.iface t p)/\b=false) (e:RC C (.op ol rem k) (σ.put o.dst (.v (.bool b))) H):RC C (.op ol (o::rem) k) σ H:=by
 obtain⟨p,q⟩:=V6 (H:=H) aa d a f hv;exact jw c p (q.mono fun sv H2 ⟨e1,e2⟩=>by subst e1;subst e2;exact e)
end
def vQ:∃ms,prog.underlying 284=some (.interface ms):=⟨_,underlying284⟩
def cM.below{H:PH}{w w2:World}(a:Sx.Sub H w)(h:RowKit.Below w.heap.size w w2):cM H w H w2 where
 sub b o hb:=by
  have h1:=a b o hb;have:b<w.heap.size:=by
   rcases aI b w.heap.size with h|h
   .exact h
   .rw[Ca h]at h1;cases h1
  rw[h.block b this];exact h1
 size:=h.size
 priv b hb _:=h.block b hb
 dom _ _ h:=h
 os:=h.os
 tape:=h.tape
 out:=h.output
variable{v:Int}{s:al}
def Nk{H:PH}(c:s.length<2^40)(h:Lib.atoiAll s=.ok v):br prog 267 #[.string ⟨⟨s⟩⟩] H fun r H2=>r=.tuple #[.int .i64 v,.nilIface]/\H2=H:=by
 intro w a;refine(strconv_Atoi_ok ⟨⟨s⟩⟩ (by (try simp only[fW]);omega) v h w).mono ?_;rintro e w2 ⟨rfl,b⟩;refine⟨H,cM.below a ?_,rfl,rfl⟩;rcases b with rfl|⟨t,rfl⟩
 .exact RowKit.Below.refl _ _
 .exact Lib.bytesWorld_below _ _ _
def wj(H:PH):Prop:=∃a b,aX H 1 0 [.iface a b]
variable{I J:PH}
def wj.le(h:wj I)(k:I.le J):wj J:=let ⟨a,b,c⟩:=h;⟨a,b,aX.le c k⟩
def Nj{H:PH}(i:s.length<2^40)(h:Lib.atoiAll s=Lib.NumEnd.syntax)(g:wj H):br prog 267 #[.string ⟨⟨s⟩⟩] H fun r H2=>(∃p,r=.tuple #[.int .i64 0,.iface 386 p])/\H2=H:=by
 intro w c;obtain⟨a,b,cs,ty,j,h1,h2,h3⟩:=g;have hb:=c 1 _ h1;have hv:w.cell? ⟨1,0,none⟩=some (.iface a b):=by
  have d:cs[0]?=some (.iface a b):=by have:=congrArg (fun l:List Value=>l[0]?) h3;simpa using this
  simp[World.cell?,hb,d]
 refine(strconv_Atoi_syntax ⟨⟨s⟩⟩ (by (try simp only[fW]);omega) h _ w hv (.inr ⟨a,b,rfl⟩)).mono ?_;rintro e w2 ⟨N,rfl,_,_,f⟩;exact⟨H,cM.below c f,⟨_,rfl⟩,rfl⟩
def wl(H:PH):Prop:=∃a b,aX H 2 0 [.iface a b]
def wl.le(h:wl I)(k:I.le J):wl J:=let ⟨a,b,c⟩:=h;⟨a,b,aX.le c k⟩
def Nl{H:PH}(i:s.length<2^40)(h:Lib.atoiAll s=.range)(g:wl H):br prog 267 #[.string ⟨⟨s⟩⟩] H fun r H2=>(∃p,r=.tuple #[.int .i64 (Lib.atoiSat s),.iface 386 p])/\H2=H:=by
 intro w c;obtain⟨a,b,cs,ty,j,h1,h2,h3⟩:=g;have hb:=c 2 _ h1;have hv:w.cell? ⟨2,0,none⟩=some (.iface a b):=by
  have d:cs[0]?=some (.iface a b):=by have:=congrArg (fun l:List Value=>l[0]?) h3;simpa using this
  simp[World.cell?,hb,d]
 refine(strconv_Atoi_range ⟨⟨s⟩⟩ (by (try simp only[fW]);omega) h _ w hv (.inr ⟨a,b,rfl⟩)).mono ?_;rintro e w2 ⟨N,rfl,_,_,f⟩;exact⟨H,cM.below c f,⟨_,rfl⟩,rfl⟩
def wB(H:PH):Prop:=∃ty a,H 3=some (.cells (Lib.pow10Tab.map fun z=>Value.int .u64 z).toArray ty a)
def wB.le(h:wB I)(k:I.le J):wB J:=let ⟨a,b,c⟩:=h;⟨a,b,k 3 _ c⟩
theorem DD:prog.globalNamed "internal/strconv.uint64pow10"=some 3:=by kernel_rfl
theorem RF{H:PH}(h0:-9223372036854775808<=v)(h1:v<=9223372036854775807)(g:wB H):br prog 268 #[.int .i64 v] H fun r H2=>r=.string ⟨⟨Lib.itoa v⟩⟩/\H2=H:=by
 intro w d;obtain⟨ty,i,hb⟩:=g;have hb:=d 3 _ hb;have a:Lib.TabIs prog w "internal/strconv.uint64pow10" .u64 Lib.pow10Tab:=by unfold Lib.TabIs World.var?;rw[DD];simp[hb]
 refine(strconv_Itoa v h0 h1 w a).mono ?_;rintro e w2 ⟨rfl,k,os,rfl⟩;refine⟨H,?_,rfl,rfl⟩;have f:∀(b:Nat) (o:Obj),w.heap[b]?=some o->(w.heap++os)[b]?=some o:=by
  intro b o h;have:b<w.heap.size:=by
   rcases aI b w.heap.size with h2|h2
   .exact h2
   .rw[Ca h2]at h;cases h
  rw[Array.getElem?_append_left this];exact h
 exact{
     sub:=fun b o h=>f b o (d b o h)
     size:=by simp[Sort.grow,World.drewN]
     priv:=fun b c _=>by simp only[Sort.grow,World.drewN];rw[Array.getElem?_append_left c]
     dom:=fun _ _ h=>h
     os:=rfl
     tape:=rfl
     out:=rfl }
def lX(s:al):Bool:=match Lib.atoiAll s with
 | .ok v=>decide (v<=2147483647) && decide (Lib.itoa v=s) && pK (bZ (s.getD 0 0))
 |_=>false
def ip(H:PH):Prop:=wA H/\wj H/\wl H/\wB H
def ip.le(h:ip I)(k:I.le J):ip J:=⟨h.1.le k,h.2.1.le k,h.2.2.1.le k,h.2.2.2.le k⟩
def Oo:∀u,Lib.decDigits u≠[]:=by intro u h;have:=Lib.decDigits_length u;rw[h]at this;rw[Lib.decDigits]at h;split at h<;>simp at h
def Ix(v:Int):Lib.itoa v≠[]:=by
 unfold Lib.itoa;split
 .simp
 .exact Oo _
def Ni(h:Lib.atoiAll s=.ok v):-9223372036854775808<=v/\v<=9223372036854775807:=by
 unfold Lib.atoiAll at h;split at h
 .cases h
 simp only at h;split at h
 .cases h
 .cases h
 split at h
 .cases h
 split at h
 .cases h
 cases h
 split<;>omega
def Np{a b:al}:(a == b)=decide (a=b):=by
 by_cases h:a=b
 .subst h;simp
 .simp[h]
def RA{H:PH}(b:s.length<2^40)(g:ip H):br prog 216 #[.string ⟨⟨s⟩⟩] H fun v H2=>v=.bool (lX s)/\H2=H:=by
 obtain⟨_,l,d,j⟩:=g;refine aP 27 func216 fun w0=>?_;refine ai ?_;cases h:Lib.atoiAll s with
 |ok v=>
  obtain⟨n,m⟩:=Ni h;refine X4 rfl DT (Nk b h) ?_;rintro r H2⟨rfl,rfl⟩;cases a:decide (v<=2147483647)
  .refine dq a ?_;refine y8 true rfl rfl vQ.choose_spec rfl rfl (.inl ⟨rfl,rfl⟩) ?_;refine dq a ?_;exact aU (r:=[_]) rfl ⟨by unfold lX;simp[h,a];rfl,rfl⟩
  .refine dq a ?_;refine y8 true rfl rfl vQ.choose_spec rfl rfl (.inl ⟨rfl,rfl⟩) ?_;refine dq a ?_;refine X4 rfl P3 (RF n m j) ?_;rintro r H2⟨rfl,rfl⟩;by_cases hi:Lib.itoa v=s
   .subst hi;have hb:(Lib.itoa v == Lib.itoa v)=true:=by simp
    obtain⟨c,r,f⟩:∃c r,Lib.itoa v=c::r:=by
     cases e:Lib.itoa v with
     |nil=>exact absurd e (Ix v)
     |cons c r=>exact⟨c,r,rfl⟩
    refine dq hb ?_;refine⟨by rw[f];simp,?_⟩;refine X4 rfl DS (Di _ _) ?_;rintro r H2⟨rfl,rfl⟩;have h0:(Lib.itoa v)[0]?=some ((Lib.itoa v).getD 0 0):=by rw[f];rfl
    rw[ux (i:=0) h0];refine ai ?_;exact aU (r:=[_]) rfl ⟨by unfold lX;simp[h,a];rfl,rfl⟩
   .have hb:(Lib.itoa v == s)=false:=by simp[hi]
    refine dq hb ?_;exact aU (r:=[_]) rfl ⟨by unfold lX;simp[h,a,hi];rfl,rfl⟩
 |range=>refine X4 rfl DT (Nl b h d) ?_;rintro v H2⟨⟨p,rfl⟩,rfl⟩;refine ai ?_;refine y8 false rfl rfl vQ.choose_spec rfl rfl (.inr ⟨⟨_,_,rfl⟩,rfl⟩) ?_;refine ai ?_;exact aU (r:=[_]) rfl ⟨by unfold lX;rw[h];rfl,rfl⟩
 |_=>refine X4 rfl DT (Nj b h l) ?_;rintro v H2⟨⟨p,rfl⟩,rfl⟩;refine ai ?_;refine y8 false rfl rfl vQ.choose_spec rfl rfl (.inr ⟨⟨_,_,rfl⟩,rfl⟩) ?_;refine ai ?_;exact aU (r:=[_]) rfl ⟨by unfold lX;rw[h];rfl,rfl⟩
def Uh{H:PH}{sb fb i:Nat}(b:ip H)(hs:aX H sb 0 [.string ⟨⟨s⟩⟩])(hf:aX H fb 0 [.func (.func 211) #[] #[pt sb]])(hi:i<=s.length)(c:s.length<2^40):
  br prog 215 #[E i,pt fb] H fun v H2=>v=(if lX ((s.drop i).take (fS (s.drop i)))then .tuple #[.int .u8 2,.string ⟨⟨(s.drop i).take (fS (s.drop i))⟩⟩]else .tuple #[.int .u8 0,.string ⟨⟨[]⟩⟩])/\H2=H:=by
 refine aP 12 func215 fun w0=>?_
 try simp only[E,pt]
 refine ai ?_;refine X5 (l:=[.func (.func 211) #[] #[pt sb]]) rfl hf (.inr ⟨CL,rfl⟩) ?_;refine dI ?_;refine X4 rfl HO (Kc hs hi O) ?_;rintro v H2⟨rfl,rfl⟩;refine ai ?_;have a:((s.drop i).take (fS (s.drop i))).length<2^40:=by simp only[lw,vY];omega
 refine X4 rfl PK (RA a b) ?_;rintro v H2⟨rfl,rfl⟩;cases hb:lX ((s.drop i).take (fS (s.drop i)))
 .refine ai ?_;exact aU (r:=[_,_]) rfl ⟨rfl,rfl⟩
 .refine ai ?_;exact aU (r:=[_,_]) rfl ⟨rfl,rfl⟩
open Go Go.Sx Dg Syn
def iI(d:al):Nat×al:=
 if mJ (d.take (fS d))then (1,d.take (fS d))
 else if lX (d.take (fS d))then (2,d.take (fS d))
 else match kB.find? fun x=>x.isPrefixOf d with
  |some x=>(3,x)
  |none=>(0,[])
def zM:al:=[47,47]
def rL:Nat->al->Option (List (Nat×al))
 |0,_=>none
 |_+1,[]=>some []
 |n+1,c::s=>
  if sQ (bZ c)then rL n s
  else if zM.isPrefixOf (c::s)then some []
  else if (iI (c::s)).1=0 then none
  else (rL n ((c::s).drop (iI (c::s)).2.length)).map (iI (c::s)::·)
def Ug{x:al}(h:lX x=true):x≠[]:=by
 unfold lX at h;split at h
 .rename_i v hv;simp only[cX,dA]at h;intro e;exact Ix v (h.1.2.trans e)
 .cases h
def Ub{x:al}(h:mJ x=true):x≠[]:=by intro e;subst e;revert h;decide
def VH:∀x∈kB,x≠[]:=by decide
def Ek{d:al}(h:(iI d).1≠0):0<(iI d).2.length/\(iI d).2.length<=d.length/\((iI d).2 <+: d)/\(iI d).1<=3:=by
 unfold iI at h |-;have hp:=List.take_prefix (fS d) d;split
 .rename_i h1;exact⟨List.length_pos_iff.2 (Ub h1),hp.length_le,hp,show 1<=3 by decide⟩
 .split
  .rename_i h1;exact⟨List.length_pos_iff.2 (Ug h1),hp.length_le,hp,show 2<=3 by decide⟩
  .split
   .rename_i x a;have h2:=List.find?_some a;have h3:=List.mem_of_find?_eq_some a;have h4:=List.isPrefixOf_iff_prefix.1 h2;exact⟨List.length_pos_iff.2 (VH x h3),h4.length_le,h4,show 3<=3 by decide⟩
   .rename_i h1 h2 _ a;rw[ab h1,ab h2,a]at h;exact absurd rfl h
def El:∀(n m:Nat) (d:al),d.length<n->d.length<m->rL n d=rL m d
 |0,_,_,h,_=>by omega
 |_+1,0,_,_,h=>by omega
 |n+1,m+1,[],_,_=>rfl
 |n+1,m+1,c::s,h1,h2=>by
  simp only[bm]at h1 h2;rw[rL,rL,El n m s O O];split
  .rfl
  .split
   .rfl
   .split
    .rfl
    .rename_i h3;obtain⟨a,b,_⟩:=Ek h3;rw[El n m ((c::s).drop (iI (c::s)).2.length) (by simp only[vY,bm]at b |-;omega) (by simp only[vY,bm]at b |-;omega)]
def pY(d:al):Option (List (Nat×al)):=rL (d.length+1) d
theorem Tj:pY []=some []:=rfl
def Ti(c:UInt8)(s:al):pY (c::s)=if sQ (bZ c)then pY s
  else if zM.isPrefixOf (c::s)then some []
  else if (iI (c::s)).1=0 then none
  else (pY ((c::s).drop (iI (c::s)).2.length)).map (iI (c::s)::·):=by
 unfold pY;rw[bm,rL];split
 .rfl
 .split
  .rfl
  .split
   .rfl
   .rename_i h3;obtain⟨a,b,_⟩:=Ek h3;rw[El (s.length+1) (((c::s).drop (iI (c::s)).2.length).length+1) _ (by simp only[vY,bm]at b |-;omega) O]
def pZ(s:al):Option (List (Nat×al)):=if s.all fun c=>lZ (bZ c)then pY s else none
def mE(k:Nat)(x:al):Bool:=decide (pZ x=some [(k,x)])
def dy(x:Nat×al):Tok:=⟨x.1,x.2,tt,true⟩
def refit(t:Tok):Tok:={ t with fits:=mE t.kind t.text }
def nz:ax prog 138:=⟨_,func138,rfl,rfl⟩
def PN:ax prog 222:=⟨_,func222,rfl,rfl⟩
def HS:ax prog 223:=⟨_,func223,rfl,rfl⟩
def P0:ax prog 263:=⟨_,func263,rfl,rfl⟩
def Ab:ax prog 291:=⟨_,func291,rfl,rfl⟩
section
variable {C:Cx} {k:List Item} {σ:St} {α:Type} {R:PH->List Value->α->Prop}
variable{l:List PH}
def fT{ol rem:List Oper}{o:Oper}{t e:TypeId}{size bytes:Nat}{x y:Operand}{v vy:Value}{xs ys:List α}{I A:PH}(hd:Dj (I::A::l))(ht:cL C.P t e size bytes)(n:Ow R e size I A v xs)(r:Sl R I vy ys)(G:∀{I J c a},R I c a->I.le J->R J c a)(B:∀{I} c a,R I c a->c.length=size)(h1:∀{I} c a,R I c a->c.all Sx.one=true)
  (z:bH ol σ o=some true) (aa:o.op=.call ⟨.builtin .append,#[x,y],#[t,t]⟩) (w:ev σ x=.v v) (u:ev σ y=.v vy) (hb:(xs.length+ys.length)*bytes<=140737488355328) (s:xs.length+ys.length<=maxLen)
  (F:∀a c g m,Dj (g::m::l)->I.le g->Ow R e size g m (.slice a (xs++ys).length c) (xs++ys)->RC C (.op ol rem k) (σ.put o.dst (.v (.slice a (xs++ys).length c))) (U (g::m::l))):RC C (.op ol (o::rem) k) σ (U (I::A::l)):=by
 obtain⟨Q,N,rfl,r⟩:=r;rcases r with rfl|⟨b,off,zs,rfl,K,hr⟩
 .have j:=n.cap fun c a h=>B c a h;obtain⟨H,vc,rfl⟩:=n.shape;refine F0 ht z aa w j u ?_;have:=F H vc I A hd (aC _) (by simpa using n);simpa using this
 .obtain⟨L,i,p⟩:=n;refine ni hd ht i z aa w u (cellsU hd (.head _) K) (hr.len fun c a h=>B c a h) (hr.ones fun c a h=>h1 c a h) hb s fun S g m q d f=>?_;obtain⟨a,c,rfl⟩:=f.slice;have e:xs.length+ys.length=(xs++ys).length:=by simp
  have:=F a c g m q d ⟨L++zs,by rw[e]at f;exact f,LR.app (p.mono fun _ _ h=>G h d) (hr.mono fun _ _ h=>G h d)⟩;rw[e];exact this
def tZ{ol:List Oper}{fr:cu}{str:cw}{i:Nat}{lo:List (Nat×Oper)}{o:Oper}{t e:TypeId}{size bytes:Nat}{x y:Operand}{v vy:Value}{xs ys:List α}{I A:PH}(hd:Dj (I::A::l))(ht:cL C.P t e size bytes)(r:Ow R e size I A v xs)(w:Sl R I vy ys)(N:∀{I J c a},R I c a->I.le J->R J c a)(K:∀{I} c a,R I c a->c.length=size)(h1:∀{I} c a,R I c a->c.all Sx.one=true)
  (hs:str.h.contains i=false) (m:str.j.contains i=false) (G:bH ol σ o=some true) (aa:o.op=.call ⟨.builtin .append,#[x,y],#[t,t]⟩) (F:ev σ x=.v v) (B:ev σ y=.v vy) (hb:(xs.length+ys.length)*bytes<=140737488355328) (z:xs.length+ys.length<=maxLen)
  (L:∀a c g q,Dj (g::q::l)->I.le g->Ow R e size g q (.slice a (xs++ys).length c) (xs++ys)->RD C ol fr str lo k (σ.put o.dst (.v (.slice a (xs++ys).length c))) (U (g::q::l))):RD C ol fr str ((i,o)::lo) k σ (U (I::A::l)):=by
 obtain⟨W,V,rfl,w⟩:=w;rcases w with rfl|⟨b,off,zs,rfl,S,hr⟩
 .have p:=r.cap fun c a h=>K c a h;obtain⟨Q,vc,rfl⟩:=r.shape;obtain⟨a,b⟩:=KE (H:=U (I::A::l)) ht aa F p B;refine t8 G a (by rw[aa];rfl) (b.mono fun sv H2 ⟨e1,e2⟩=>⟨kI.non hs m,?_⟩);subst e1;subst e2;have:=L Q vc I A hd (aC _) (by simpa using r);simpa using this
 .obtain⟨T,n,s⟩:=r;refine wx hd ht n hs m G aa F B (cellsU hd (.head _) S) (hr.len fun c a h=>K c a h) (hr.ones fun c a h=>h1 c a h) hb z fun X g q u d f=>?_;obtain⟨a,c,rfl⟩:=f.slice;have e:xs.length+ys.length=(xs++ys).length:=by simp
  have:=L a c g q u d ⟨T++zs,by rw[e]at f;exact f,LR.app (s.mono fun _ _ h=>N h d) (hr.mono fun _ _ h=>N h d)⟩;rw[e];exact this
end
def ns{I:PH}{h:ah}{a:Option Addr}{k:Nat}(i:h.at'<2^61)(hr:bU I (.agg #[sD a k h.cond,rD h.cond]) h.cond):
  aT prog 138 #[g8 a k h] I [] fun v f g=>g=[]/\bK f v (bT h):=by
 intro hd;have e1:=wrap64 (n:=h.at'+1) O;have e:IntKind.i64.wrap ((h.at':Int)+1)=((h.at'+1:Nat):Int):=by rw[<-e1];congr 1
 refine aP 10 func138 fun w0=>?_
 try simp only[g8,E,sD,rD]
 refine dq e ?_;refine cH hd (by exact jp) rfl rfl rfl rfl rfl af fun nb f d b c=>?_;refine ai ?_;refine az rfl d (r:=[_]) rfl b ⟨rfl,_,_,rfl,.inr ⟨nb,0,[E (h.at'+1),sD a k h.cond,rD h.cond],rfl,bz c (by simp[av,Value.cells]) (by simp[av,Value.cells,E,sD,rD]),.one ⟨_,_,rfl,hr.le b⟩⟩⟩
def N6{I:PH}{vf:Value}{f:ad}(hf:bK I vf f)(s:f.length<=2^20):aT prog 263 #[vf] I [] fun v o p=>∃A,p=[A]/\cU o A v f:=by
 intro hd;obtain⟨q,t,rfl,j⟩:=id hf;refine aP 8 func263 fun w0=>?_;cases q with
 |none=>
  have l:f=[]:=by
   rcases j with h|⟨b,off,xs,e,_⟩
   .exact h
   .cases e
  subst l;refine ai ?_;refine tV rfl rfl (by exact vP) rfl rfl ?_;apply RG;simp only[go_sem,Option.isNone];refine dg hd fun d=>?_;exact az rfl d (r:=[_]) rfl (aC _) ⟨_,rfl,Ow.nil _ _ _ _⟩
 |some a=>refine ai ?_;refine tV rfl rfl (by exact vP) rfl rfl ?_;apply RG;simp only[go_sem,Option.isNone];refine sJ hd (by exact jp) rfl rfl rfl rfl rfl af fun b A d g=>?_;refine ai ?_;refine fT d (by exact jp) (xs:=([]:ad)) (R:=cI) ⟨[],g,rfl⟩ hf (fun{I J c a} h k=>cI.le h k) (fun{I} c a h=>cI.len c a h) (fun{I} c a h=>cI.ones h) rfl rfl rfl rfl (by simp only[bo];omega) (by simp only[bo];unfold maxLen;omega) fun a2 c2 o u m i n=>?_;apply RG;simp only[go_sem,aM];exact az rfl m (r:=[_]) rfl i ⟨_,rfl,n⟩
def Ja{H:PH}{s:al}:br prog 223 #[.string ⟨⟨s⟩⟩] H fun v H2=>v=.int .i64 (if fQ s=9 then -1 else (fQ s:Int))/\H2=H:=by
 refine aP 22 func223 fun w0=>?_;cases h0:(s == [124,124])
 rotate_left
 .apply RG;simp only[go_sem,h0];exact aU (r:=[.int .i64 0]) rfl ⟨by rw[show fQ s=0 from by rw[eq_of_beq h0];decide];rfl,rfl⟩
 cases h1:(s == [38,38])
 rotate_left
 .apply RG;simp only[go_sem,h0,h1];exact aU (r:=[.int .i64 1]) rfl ⟨by rw[show fQ s=1 from by rw[eq_of_beq h1];decide];rfl,rfl⟩
 cases h2:(s == [61,61])
 rotate_left
 .apply RG;simp only[go_sem,h0,h1,h2];exact aU (r:=[.int .i64 2]) rfl ⟨by rw[show fQ s=2 from by rw[eq_of_beq h2];decide];rfl,rfl⟩
 cases h3:(s == [33,61])
 rotate_left
 .apply RG;simp only[go_sem,h0,h1,h2,h3];exact aU (r:=[.int .i64 2]) rfl ⟨by rw[show fQ s=2 from by rw[eq_of_beq h3];decide];rfl,rfl⟩
 cases h4:(s == [60])
 rotate_left
 .apply RG;simp only[go_sem,h0,h1,h2,h3,h4];exact aU (r:=[.int .i64 2]) rfl ⟨by rw[show fQ s=2 from by rw[eq_of_beq h4];decide];rfl,rfl⟩
 cases h5:(s == [60,61])
 rotate_left
 .apply RG;simp only[go_sem,h0,h1,h2,h3,h4,h5];exact aU (r:=[.int .i64 2]) rfl ⟨by rw[show fQ s=2 from by rw[eq_of_beq h5];decide];rfl,rfl⟩
 cases h6:(s == [62])
 rotate_left
 .apply RG;simp only[go_sem,h0,h1,h2,h3,h4,h5,h6];exact aU (r:=[.int .i64 2]) rfl ⟨by rw[show fQ s=2 from by rw[eq_of_beq h6];decide];rfl,rfl⟩
 cases d:(s == [62,61])
 rotate_left
 .apply RG;simp only[go_sem,h0,h1,h2,h3,h4,h5,h6,d];exact aU (r:=[.int .i64 2]) rfl ⟨by rw[show fQ s=2 from by rw[eq_of_beq d];decide];rfl,rfl⟩
 cases f:(s == [43])
 rotate_left
 .apply RG;simp only[go_sem,h0,h1,h2,h3,h4,h5,h6,d,f];exact aU (r:=[.int .i64 3]) rfl ⟨by rw[show fQ s=3 from by rw[eq_of_beq f];decide];rfl,rfl⟩
 cases g:(s == [45])
 rotate_left
 .apply RG;simp only[go_sem,h0,h1,h2,h3,h4,h5,h6,d,f,g];exact aU (r:=[.int .i64 3]) rfl ⟨by rw[show fQ s=3 from by rw[eq_of_beq g];decide];rfl,rfl⟩
 cases a:(s == [42])
 rotate_left
 .apply RG;simp only[go_sem,h0,h1,h2,h3,h4,h5,h6,d,f,g,a];exact aU (r:=[.int .i64 4]) rfl ⟨by rw[show fQ s=4 from by rw[eq_of_beq a];decide];rfl,rfl⟩
 cases b:(s == [47])
 rotate_left
 .apply RG;simp only[go_sem,h0,h1,h2,h3,h4,h5,h6,d,f,g,a,b];exact aU (r:=[.int .i64 4]) rfl ⟨by rw[show fQ s=4 from by rw[eq_of_beq b];decide];rfl,rfl⟩
 cases c:(s == [37])
 rotate_left
 .apply RG;simp only[go_sem,h0,h1,h2,h3,h4,h5,h6,d,f,g,a,b,c];exact aU (r:=[.int .i64 4]) rfl ⟨by rw[show fQ s=4 from by rw[eq_of_beq c];decide];rfl,rfl⟩
 apply RG;simp only[go_sem,h0,h1,h2,h3,h4,h5,h6,d,f,g,a,b,c];have y:s≠Fs:=fun e=>by rw[e]at h0;exact absurd h0 af
 have x:s≠Fh:=fun e=>by rw[e]at h1;exact absurd h1 af
 have w:s≠Fj:=fun e=>by rw[e]at h2;exact absurd h2 af
 have u:s≠Fr:=fun e=>by rw[e]at h3;exact absurd h3 af
 have t:s≠Fo:=fun e=>by rw[e]at h4;exact absurd h4 af
 have p:s≠Fm:=fun e=>by rw[e]at h5;exact absurd h5 af
 have o:s≠Fl:=fun e=>by rw[e]at h6;exact absurd h6 af
 have n:s≠Fk:=fun e=>by rw[e]at d;exact absurd d af
 have m:s≠Ft:=fun e=>by rw[e]at f;exact absurd f af
 have l:s≠o5:=fun e=>by rw[e]at g;exact absurd g af
 have j:s≠Fq:=fun e=>by rw[e]at a;exact absurd a af
 have i:s≠Fi:=fun e=>by rw[e]at b;exact absurd b af
 have h:s≠Fp:=fun e=>by rw[e]at c;exact absurd c af
 have q:fQ s=9:=by unfold fQ;rw[ab y,ab x,ab (by simp[w,u,t,p,o,n]),ab (by simp[m,l]),ab (by simp[j,i,h])]
 exact aU (r:=[.int .i64 (-1)]) rfl ⟨by rw[q];rfl,rfl⟩
end Go.Proofs.YtfaclfkpnmcmlaaGreatDoor
namespace Go.Sx
open Go
section
variable {P:Program} {ol:List Oper} {fr:cu} {str:cw} {K:St->PH->Prop}
def Gd:∀(l m:List Nat) {σ:St} {H:PH},VD P ol fr str K (l++m) σ H<->VD P ol fr str (VD P ol fr str K m) l σ H
 | [],m,σ,H=>Iff.rfl
 |i::l,m,σ,H=>by
  have e:VD P ol fr str K (l++m)=VD P ol fr str (VD P ol fr str K m) l:=by funext σ' H';exact propext (Gd l m)
  simp only[aN,VD];cases ol[i]? with
  |none=>simp only[e]
  |some o=>simp only[e]
structure Inv(ops:Array Oper)(κ:List Nat)(listed:Array Bool):Prop where
 size:listed.size=ops.size
 mem:∀i,i∈κ<->i<ops.size/\listed.getD i true=false
 closed:∀y o,ops.toList[y]?=some o->listed.getD y false=true->∀z∈jQ o,listed.getD z false=true
variable{listed:Array Bool}{κ:List Nat}{ops:Array Oper}
def Inv.perm{κ':List Nat}(h:Inv ops κ listed)(hp:∀i,i∈κ'<->i∈κ):Inv ops κ' listed:=⟨h.size,fun i=>(hp i).trans (h.mem i),h.closed⟩
theorem Inv.step{l1 l2:List Nat}{i:Nat}(h:Inv ops (l1++i::l2) listed)(hi:i∉l1++l2){oi:Oper}(f:ops.toList[i]?=some oi)(hd:∀z∈jQ oi,listed.getD z false=true):Inv ops (l1++l2) (listed.setIfInBounds i true):=by
 have h1:=((h.mem i).1 (gz _ (.head _))).1;have r:=h.size;have a:∀(j:Nat) (d:Bool),(listed.setIfInBounds i true).getD j d=if i=j then (if i<listed.size then true else d)else listed.getD j d:=by
  intro j d;rw[jr,Cb];by_cases e:i=j
  .subst e;by_cases c:i<listed.size<;>simp[c]
  .simp[e,jr]
 refine⟨by simp[h.size],fun j=>?_,fun y o g c z n=>?_⟩
 .rw[a];by_cases e:i=j
  .subst e;simp only[co,ag (show i<listed.size by omega)];exact⟨fun l=>absurd l hi,fun s=>by cases s.2⟩
  .simp only[ab e];rw[<-h.mem j];constructor
   .intro b;rcases List.mem_append.1 b with b|b
    .exact ge _ b
    .exact gz _ (.tail _ b)
   .intro b;rcases List.mem_append.1 b with b|b
    .exact ge _ b
    .rcases List.mem_cons.1 b with rfl|b
     .exact absurd rfl e
     .exact gz _ b
 .rw[a]at c |-;have m:i<listed.size:=by omega
  by_cases p:i=z
  .subst p;simp[m]
  .simp only[ab p];by_cases q:i=y
   .subst q;rw[f]at g;cases g;exact hd z n
   .simp only[ab q]at c;exact h.closed y o g c z n
def J4(listed:Array Bool)(i:Nat):i∈Region.ready .any ops listed<->i<ops.size/\listed.getD i true=false/\∃o,ops[i]?=some o/\∀z∈jQ o,listed.getD z false=true:=by
 simp only[Region.ready,jZ,List.mem_range,cX,sm];constructor
 .rintro⟨h1,h2,h3⟩;refine⟨h1,h2,?_⟩;cases a:ops[i]? with
  |none=>rw[a]at h3;cases h3
  |some o=>rw[a]at h3;simp only[cZ,qL]at h3;refine⟨o,rfl,fun z c=>?_⟩;simp only[jQ,mg,jZ]at c;obtain⟨e,⟨b,hb⟩,rfl⟩:=c;have:=Array.all_eq_true'.1 h3 e (by simpa using b);simpa[hb]using this
 .rintro⟨h1,h2,o,a,h3⟩;refine⟨h1,h2,?_⟩;rw[a];simp only[cZ,qL];refine Array.all_eq_true'.2 fun e b=>?_;cases hb:Region.binds .any e with
  |false=>rfl
  |true=>have:=h3 e.on (by simp only[jQ,mg,jZ];exact⟨e,⟨by simpa using b,hb⟩,rfl⟩);simpa using this
variable{cl:List (List Nat)}
def Uc(f:u6 ops.toList cl=true)(h:Inv ops κ listed)(hr:Region.ready .any ops listed=[]):κ=[]:=by
 have m:=h.size;have d:ops.size=ops.toList.length:=(n8).symm;have a:∀i:Nat,ops[i]?=ops.toList[i]?:=fun i=>by simp
 have key:∀n i,i<n->i<ops.size->listed.getD i true=true:=by
  intro n
  induction n with
  |zero=>intro i h;omega
  |succ n g=>
   intro i hi c;cases o:listed.getD i true with
   |true=>rfl
   |false=>
    exfalso;have b:ops[i]?=some ops[i]:=sj c;have:i∈Region.ready .any ops listed:=(J4 listed i).2 ⟨c,o,ops[i],b,fun z j=>by have h1:=List.all_eq_true.1 f i (List.mem_range.2 O);rw[<-a i,b]at h1;simp only[cX]at h1;have e:=List.all_eq_true.1 h1.1 z j;simp only[dA]at e;have:=g z O O;rw[jr]at this |-;rw[sj O]at this |-;simpa using this⟩
    rw[hr]at this;cases this
 cases κ with
 |nil=>rfl
 |cons i l=>exfalso;have:=(h.mem i).1 (.head _);rw[key (i+1) i O this.1]at this;exact Bool.noConfusion this.2
def rx(ol:List Oper)(b:List (List Nat))(fr:cu)(str:cw)(i:Nat)(l:List Nat):Bool:=
 l.all fun x=>(b.getD i []).contains x || match ol[x]?,ol[i]? with
  |some ox,some a=>tu ol (fr.at' x) (str.at' x) (str.at' i) ox a
  |_,_=>false
variable{w0:World}
def Xh{n0:Nat}{H0:PH}(hn:n0=w0.heap.size)(R:u6 ops.toList cl=true){p q:Nat}{r1 r2:List Nat}(bb:p≠q)
  (a3:r1.all (fun i=>(cl.getD i []).contains p || (cl.getD i []).contains q)=true) (hr:∀i,i∈r2<->i∈r1) :
  ∀(eU:Nat) (κ:List Nat) (listed:Array Bool) {σ:St} {H:PH} {a:Act} {w:World},(κ++p::q::r1).length<=eU->(κ++q::p::r2).length<=eU->
   fM ops.toList cl fr str (κ++q::r1)=true->fM ops.toList cl fr str (κ++p::r2)=true->rx ops.toList cl fr str p κ=true->rx ops.toList cl fr str q κ=true->fM ops.toList cl fr str κ=true->p∉κ++q::r1->q∉κ++p::r2->
   Inv ops (κ++p::q::r1) listed->eR σ.bx->VD P ops.toList fr str (fun σ H=>VD P ops.toList fr str K (p::q::r1) σ H/\VD P ops.toList fr str K (q::p::r2) σ H) κ σ H->cM H0 w0 H w->G n0 σ H a w->wpAny P .any ops (QK n0 H0 w0 K) eU listed a w:=by
 have S:∀i:Nat,ops[i]?=ops.toList[i]?:=fun i=>by simp
 have j:∀{listed:Array Bool} {x:Nat},listed.getD x false=true->listed.getD x true=false->False:=by
  intro listed x h1 h2;rw[jr]at h1 h2;cases hg:listed[x]? with
  |none=>rw[hg]at h1;cases h1
  |some b=>rw[hg]at h1 h2;simp only[qL]at h1 h2;rw[h1]at h2;cases h2
 intro eU
 induction eU with
 |zero=>intro κ listed σ H a w d;simp at d
 |succ eU ih=>
  intro κ listed σ H a w d m X V aS aq a4 N Z hI hs h st g;refine⟨fun hr=>?_,fun i hi=>?_⟩
  .have:=Uc R hI hr;simp at this
  .obtain⟨h1,h2,oi,J,f⟩:=(J4 listed i).1 hi;have c:ops.toList[i]?=some oi:=by rw[<-S];exact J
   have a7:i∈κ++p::q::r1:=(hI.mem i).2 ⟨h1,h2⟩;have A:=CQ R (L:=fun x=>listed.getD x false=true) hI.closed (i+1) i O oi c f;have bub:∀(l:List Nat),(∀x∈l,x∈κ)->rx ops.toList cl fr str i l=true->∀x∈l,∃ox,ops.toList[x]?=some ox/\tu ops.toList (fr.at' x) (str.at' x) (str.at' i) ox oi=true:=by
    intro l hl hb x y;have:=List.all_eq_true.1 hb x y;simp only[sr]at this;rcases this with z|z
    .exact(j (A x (by simpa using z)) ((hI.mem x).1 (ge _ (hl x y))).2).elim
    .split at z
     .rename_i ox oy e1 e2;rw[c]at e2;cases e2;exact⟨ox,e1,z⟩
     .cases z
   have fin:∀(u v:Nat) (o:List Nat),i=u->(∀x,x∈κ++u::v::o<->x∈κ++p::q::r1)->(κ++u::v::o).length<=eU+1->fM ops.toList cl fr str (κ++v::o)=true->rx ops.toList cl fr str u κ=true->u∉κ++v::o->VD P ops.toList fr str (VD P ops.toList fr str K (u::v::o)) κ σ H->
     wpOp P ops (QK n0 H0 w0 K) i (wpAny P .any ops (QK n0 H0 w0 K) eU (listed.setIfInBounds i true)) a w:=by
    intro u v o e ac d hp hb aa hv;subst e;have a9:=hI.perm ac;have a2:=(Gd (K:=K) κ (i::v::o)).2 hv;have a0:=zF (K:=K) (P:=P) c κ (v::o) hs (bub κ (fun _ h=>h) hb) a2;simp only[VD,c]at a0;have F:=(wC (K':=fun σ' H'=>eR σ'.bx/\VD P ops.toList fr str K (κ++v::o) σ' H') (fun σ' H' I h'=>⟨I,h'⟩) hs a0).toV;have n:=a9.step aa c f;refine zm J hn (fun σ' H' a' w' r B g'=>?_) F st g;exact Gy hn rfl R eU (κ++v::o) _ (by simp at d |-;omega) n.size hp n.mem n.closed r.1 r.2 B g'
   have Q:∀x,x∈κ++q::p::r2<->x∈κ++p::q::r1:=fun x=>by
    simp only[lx,jY,hr];constructor
    .rintro(h|h|h|h)
     .exact .inl h
     .exact .inr (.inr (.inl h))
     .exact .inr (.inl h)
     .exact .inr (.inr (.inr h))
    .rintro(h|h|h|h)
     .exact .inl h
     .exact .inr (.inr (.inl h))
     .exact .inr (.inl h)
     .exact .inr (.inr (.inr h))
   rcases List.mem_append.1 a7 with r|r
   .obtain⟨t,s,rfl⟩:=List.append_of_mem r;have W:fM ops.toList cl fr str (t++i::(s++q::r1))=true:=by simpa using X
    have U:fM ops.toList cl fr str (t++i::(s++p::r2))=true:=by simpa using V
    obtain⟨_,pb,T⟩:=xR W;obtain⟨_,pb2,pc2⟩:=xR U;obtain⟨pk,pbk,pck⟩:=xR a4;have hb:=zF (K:=fun σ H=>VD P ops.toList fr str K (p::q::r1) σ H/\VD P ops.toList fr str K (q::p::r2) σ H) (P:=P) c t s hs (fun x y=>by
     rcases pk x y with a1|⟨ox,oy,e1,e2,e3⟩
     .exact(j (A x a1) ((hI.mem x).1 (ge _ (ge _ y))).2).elim
     .rw[c]at e2;cases e2;exact⟨ox,e1,e3⟩) h
    simp only[VD,c]at hb;have F:=(wC (K':=fun σ' H'=>eR σ'.bx/\VD P ops.toList fr str (fun σ H=>VD P ops.toList fr str K (p::q::r1) σ H/\VD P ops.toList fr str K (q::p::r2) σ H) (t++s) σ' H') (fun σ' H' I h'=>⟨I,h'⟩) hs (by simpa only[VD]using hb)).toV;have a6:i≠p:=fun e=>by subst e;exact N (by simp)
    have a5:i∉(t++s)++p::q::r1:=by
     intro hm;simp only[cq,lx,jY]at hm T;rcases hm with h|h|h|h|h
     .exact T (.inl h)
     .exact T (.inr (.inl h))
     .exact a6 h
     .exact T (.inr (.inr (.inl h)))
     .exact T (.inr (.inr (.inr h)))
    have ba:Inv ops (t++i::(s++p::q::r1)) listed:=hI.perm fun x=>by simp
    have n:=ba.step (by simpa using a5) c f;have an:rx ops.toList cl fr str p (t++s)=true:=List.all_eq_true.2 fun x y=>List.all_eq_true.1 aS x (by
     rcases List.mem_append.1 y with h|h
     .exact ge _ h
     .exact gz _ (.tail _ h))
    have am:rx ops.toList cl fr str q (t++s)=true:=List.all_eq_true.2 fun x y=>List.all_eq_true.1 aq x (by
     rcases List.mem_append.1 y with h|h
     .exact ge _ h
     .exact gz _ (.tail _ h))
    refine zm J hn (fun σ' H' a' w' ap B g'=>?_) F st g;refine ih (t++s) _ (by simp at d |-;omega) (by simp at m |-;omega) (by simpa using pb) (by simpa using pb2) an am pbk (fun hm=>N ?_) (fun hm=>Z ?_) (by simpa using n) ap.1 ap.2 B g'
    .simp only[cq,lx,jY]at hm |-;rcases hm with h|h|h|h
     .exact .inl h
     .exact .inr (.inl (.inr h))
     .exact .inr (.inr (.inl h))
     .exact .inr (.inr (.inr h))
    .simp only[cq,lx,jY]at hm |-;rcases hm with h|h|h|h
     .exact .inl h
     .exact .inr (.inl (.inr h))
     .exact .inr (.inr (.inl h))
     .exact .inr (.inr (.inr h))
   .rcases List.mem_cons.1 r with e|r
    .exact fin p q r1 e (fun x=>Iff.rfl) d X aS N (zj (fun σ' H' _ h=>h.1) κ hs h)
    .rcases List.mem_cons.1 r with e|r
     .exact fin q p r2 e Q m V aq Z (zj (fun σ' H' _ h=>h.2) κ hs h)
     .exfalso;have:=List.all_eq_true.1 a3 i r;simp only[sr]at this;rcases this with z|z
      .exact j (A p (by simpa using z)) ((hI.mem p).1 (by simp)).2
      .exact j (A q (by simpa using z)) ((hI.mem q).1 (by simp)).2
def u5(ol:List Oper)(κ:List Nat)(p q:Nat)(a b:List Nat)(fr:cu)(str:cw):Bool:=
 u6 ol (j8 ol) && (List.range ol.length).all ((κ++p::q::a).contains ·) && decide (p≠q) && decide (p<ol.length) && decide (q<ol.length) &&
 a.all (fun i=>((j8 ol).getD i []).contains p || ((j8 ol).getD i []).contains q) && a.all (b.contains ·) && b.all (a.contains ·) &&
 fM ol (j8 ol) fr str (κ++q::a) && fM ol (j8 ol) fr str (κ++p::b) && rx ol (j8 ol) fr str p κ && rx ol (j8 ol) fr str q κ && fM ol (j8 ol) fr str κ &&
 !(κ++q::a).contains p && !(κ++p::b).contains q
def He{n0:Nat}{H0:PH}(S:n0=w0.heap.size)(hm:P.follows .mixedOrders=true){id:Nat}{p q:Nat}{r1 r2:List Nat}(n:u5 ops.toList κ p q r1 r2 fr str=true){σ:St}{H:PH}{a:Act}{w:World}
  (hs:eR σ.bx) (h:VD P ops.toList fr str (fun σ H=>VD P ops.toList fr str K (p::q::r1) σ H/\VD P ops.toList fr str K (q::p::r2) σ H) κ σ H) (st:cM H0 w0 H w) (g:G n0 σ H a w):(Code.region id ops true).wp P (QK n0 H0 w0 K) a w:=by
 simp only[u5,cX,dA,sm]at n;obtain⟨⟨⟨⟨⟨⟨⟨⟨⟨⟨⟨⟨⟨⟨h1,h2⟩,z⟩,A⟩,v⟩,u⟩,t⟩,s⟩,b⟩,j⟩,N⟩,L⟩,B⟩,I⟩,F⟩:=n;have f:p∉κ++q::r1:=by simpa using I
 have e:q∉κ++p::r2:=by simpa using F
 have mem:∀(l:List Nat),fM ops.toList (j8 ops.toList) fr str l=true->∀i∈l,i<ops.size:=by
  intro l
  induction l with
  |nil=>intro _ i hi;cases hi
  |cons x l r=>
   intro hp i hi;simp only[fM,cX,dA]at hp;rcases List.mem_cons.1 hi with rfl|hi
   .simpa using hp.1.1.1
   .exact r hp.2 i hi
 have len:∀(l:List Nat),fM ops.toList (j8 ops.toList) fr str l=true->l.Nodup:=by
  intro l
  induction l with
  |nil=>intro _;exact List.nodup_nil
  |cons x l r=>intro hp;simp only[fM,cX]at hp;exact List.nodup_cons.2 ⟨by simpa using hp.1.1.2,r hp.2⟩
 have d:p<ops.size:=by simpa using A
 have c:q<ops.size:=by simpa using v
 have R:(κ++p::q::r1).length<=ops.size:=by
  have m:(p::(κ++q::r1)).Nodup:=List.nodup_cons.2 ⟨f,len _ b⟩;have:=AO ops.size _ m fun i hi=>by
   rcases List.mem_cons.1 hi with rfl|hi
   .exact d
   .exact mem _ b i hi
  simp at this |-;omega
 have Q:(κ++q::p::r2).length<=ops.size:=by
  have m:(q::(κ++p::r2)).Nodup:=List.nodup_cons.2 ⟨e,len _ j⟩;have:=AO ops.size _ m fun i hi=>by
   rcases List.mem_cons.1 hi with rfl|hi
   .exact c
   .exact mem _ j i hi
  simp at this |-;omega
 refine wp_region_any hm (Xh S h1 z u (fun i=>⟨fun hi=>by simpa using List.all_eq_true.1 s i hi,fun hi=>by simpa using List.all_eq_true.1 t i hi⟩) ops.size κ _ R Q b j N L B f e ⟨by simp,fun i=>?_,fun y o T J=>?_⟩ hs h (w:={ w with drawn:=w.drawn+1 }) ?_ ?_)
 .constructor
  .intro hi;have:i<ops.size:=by
    simp only[lx,jY]at hi;rcases hi with hi|rfl|rfl|hi
    .exact mem _ b i (ge _ hi)
    .exact d
    .exact c
    .exact mem _ b i (gz _ (.tail _ hi))
   exact⟨this,by simp[jr,this]⟩
  .rintro⟨hi,_⟩;have:=List.all_eq_true.1 h2 i (List.mem_range.2 (by simpa using hi));simpa using this
 .exfalso;rw[jr,Array.getElem?_replicate]at J;split at J<;>cases J
 .exact⟨st.sub,st.size,st.priv,st.dom,st.os,st.tape,st.out⟩
 .obtain⟨β,g⟩:=g;exact⟨β,g.defers,g.size,g.tm,g.bx,g.inj,g.lo,g.keys⟩
end
section
variable {C:Cx} {k:List Item} {σ:St} {H:PH}
def FL{P:Program}{ol:List Oper}{fr:cu}{str:cw}{K K':St->PH->Prop}(k:∀σ' H',K σ' H'->K' σ' H'):∀(l:List (Nat×Oper)) {σ:St} {H:PH},ui P ol fr str K l σ H->ui P ol fr str K' l σ H
 | [],σ,H,h=>k _ _ h
 |(i,o)::l,σ,H,h=>KV (fun σ' H' a=>FL k l a) h
def oe(C:Cx)(ol:List Oper)(fr:cu)(str:cw)(b a:List (Nat×Oper))(l:List (Nat×Oper))(k:List Item)(σ:St)(H:PH):Prop:=ui C.P ol fr str (fun σ H=>RD C ol fr str b k σ H/\RD C ol fr str a k σ H) l σ H
def Gj{ol:List Oper}{fr:cu}{str:cw}{r1 r2:List (Nat×Oper)}:∀(l:List (Nat×Oper)) (σ:St) (ps:List Prop),jI (g7 C.P ol fr.k str.k fr.kp l σ ps).1->oe C ol fr str r1 r2 (g7 C.P ol fr.k str.k fr.kp l σ ps).2.1 k (g7 C.P ol fr.k str.k fr.kp l σ ps).2.2 H->jI ps/\oe C ol fr str r1 r2 l k σ H
 | [],σ,ps,hp,h=>⟨hp,h⟩
 |(i,o)::l,σ,ps,hp,h=>by
  unfold g7 at hp h;cases ha:un C.P ol (gE fr.k i) (gE str.k i) fr.kp o σ with
  |none=>rw[ha]at hp h;exact⟨hp,h⟩
  |some x=>obtain⟨φ,σ'⟩:=x;rw[ha]at hp h;obtain⟨⟨a,b⟩,c⟩:=Gj l _ _ hp h;exact⟨a,Gi (f:=fr.at' i) (s:=str.at' i) ha b c⟩
def Ga(C:Cx)(ol:List Oper)(fr:cu)(str:cw)(b a:List (Nat×Oper))(k:List Item)(H:PH)(r:List Prop×List (Nat×Oper)×St):Prop:=jI r.1/\oe C ol fr str b a r.2.1 k r.2.2 H
theorem MF(C:Cx)(ol:List Oper)(fr:cu)(str:cw)(b a:List (Nat×Oper))(k:List Item)(H:PH)(ps:List Prop)(l:List (Nat×Oper))(σ:St):Ga C ol fr str b a k H (ps,l,σ)=(jI ps/\oe C ol fr str b a l k σ H):=rfl
def nj{ol:List Oper}{fr:cu}{str:cw}{r1 r2 l:List (Nat×Oper)}(h:Ga C ol fr str r1 r2 k H (g7 C.P ol fr.k str.k fr.kp l σ [])):oe C ol fr str r1 r2 l k σ H:=(Gj l σ [] h.1 h.2).2
def ww{ol:List Oper}{fr:cu}{str:cw}{r1 r2:List (Nat×Oper)}(h1:RD C ol fr str r1 k σ H)(h2:RD C ol fr str r2 k σ H):oe C ol fr str r1 r2 [] k σ H:=⟨h1,h2⟩
attribute [go_sem] MF
def xQ{ol:List Oper}{cl:List (List Nat)}{fr:cu}{str:cw}:∀{l:List Nat},fM ol cl fr str l=true->∀i∈l,i<ol.length
 | [],_,i,hi=>by cases hi
 |x::l,hp,i,hi=>by
  simp only[fM,cX,dA]at hp;rcases List.mem_cons.1 hi with rfl|hi
  .exact hp.1.1.1
  .exact xQ hp.2 i hi
def Cu{id:Nat}{ops:Array Oper}(hm:C.P.follows .mixedOrders=true)(κ:List Nat)(p q:Nat)(j f:List Nat)(fr str:List Nat)(a:u5 ops.toList κ p q j f ⟨fr,[],PH.emp,[],[]⟩ ⟨str,[],[]⟩=true)(hs:o3 σ.bx=true)
  (h:oe C ops.toList ⟨fr,[],PH.emp,[],[]⟩ ⟨str,[],[]⟩ (pick ops.toList (p::q::j)) (pick ops.toList (q::p::f)) (pick ops.toList κ) k σ H):RC C (.st (.code (.region id ops true)::k)) σ H:=by
 have l:=a;simp only[u5,cX,dA,sm]at l;obtain⟨⟨⟨⟨⟨⟨⟨⟨⟨⟨⟨⟨⟨⟨h1,h2⟩,t⟩,c⟩,b⟩,r⟩,o⟩,n⟩,e⟩,d⟩,y⟩,x⟩,u⟩,w⟩,v⟩:=l;have e1:=xQ e;have e2:=xQ d;refine(show R C (.code (.region id ops true)::k) σ H from zg fun _ _ s g=>He rfl hm a (E8 hs) ?_ s g);refine rd κ (fun i hi=>e1 i (ge _ hi)) (FL (fun σ' H' m=>⟨rd _ (fun i hi=>?_) m.1,rd _ (fun i hi=>?_) m.2⟩) _ h)
 .rcases List.mem_cons.1 hi with rfl|hi
  .exact c
  .exact e1 i (gz _ hi)
 .rcases List.mem_cons.1 hi with rfl|hi
  .exact b
  .exact e2 i (gz _ hi)
end
open Go
section
variable {C:Cx} {P:Program} {k:List Item} {σ:St} {H:PH}
variable{n:Nat}
def X2{zs:Array Value}(h:zs.toList.all one=true):(Builtin.zeroCells zs n).toList.length=n*zs.size/\(Builtin.zeroCells zs n).toList.all one=true:=by
 constructor
 .simp[Builtin.zeroCells]
 .rw[ss];intro v hv;simp only[Builtin.zeroCells,Array.toList_map,mg,Array.mem_toList_iff,Array.mem_range]at hv;obtain⟨i,hi,rfl⟩:=hv;have a:0<zs.size:=by
   rcases jt zs.size with h0|h0
   .rw[h0]at hi;simp at hi
   .exact h0
  have hm:=Nat.mod_lt i a;rw[getElem!_pos zs _ hm];exact List.all_eq_true.1 h _ (Array.mem_toList_iff.2 (Array.getElem_mem hm))
variable{cur:Array Value}{size:Nat}{z:Value}
def NZ{t ty e:TypeId}(u:P.underlying t=some (.slice e))(a:bk P e=some z)(l:z.cells.size=size)(h1:z.cells.toList.all one=true){g o c:Nat}
  (j:H g=some (.cells cur e (0,0))) (x:o+n*size<=cur.size) (w:World) (p:Sub H w) :
  ∃w2 ys,ys.length=n*size/\(Builtin.clear_ #[t] ty #[.slice (some ⟨g,o,none⟩) n c]).run P w=.ok (.tuple #[]) w2/\cM H w (H.put g (.cells (bL cur.toList o ys).toArray e (0,0))) w2:=by
 cases n with
 |zero=>
  refine⟨w,[],by simp,by simp[Builtin.clear_,run_underlying u],?_⟩;have K:H.put g (.cells (bL cur.toList o []).toArray e (0,0))=H:=by
   funext b;by_cases y:b=g
   .subst y;simp[PH.put,bL,j]
   .simp[PH.put,y]
  rw[K];exact cM.refl p
 |succ n=>
 have f:=p _ _ j;rw[show cur=cur.toList.toArray from by simp]at f;obtain⟨s,J⟩:=X2 (n:=n+1) h1;rw[l]at s;have m:(zeroValue e).run P w=.ok z w:=by
  unfold bk at a;cases hi:P.info? e with
  |none=>rw[hi]at a;cases a
  |some i=>rw[hi]at a;have a:i.zero=some z:=a;simp[zeroValue,typeInfo,program,Sem.run,hi,a,Result.andThen]
 obtain⟨w2,I,G,r,L,F,B,A⟩:=x9 (P:=P) g e (Builtin.zeroCells z.cells (n+1)).toList 0 o cur.toList w f (by simp only[n8]at *;omega) fun v hv=>List.all_eq_true.1 J v hv;refine⟨w2,_,s,?_,?_⟩
 .simp[Builtin.clear_,run_underlying u,m,Result.andThen,I]
 .refine⟨fun c o' h=>?_,O,fun c q d=>r c (fun e=>by subst e;rw[j]at d;cases d),fun c q d=>?_,F,B,A⟩
  .by_cases e:c=g
   .subst e;simp only[PH.put,co]at h;cases h;simpa using G
   .simp only[PH.put,ab e]at h;rw[r c e];exact p _ _ h
  .have:c≠g:=fun e=>by subst e;rw[j]at d;cases d
   simp[PH.put,this,d]
variable{x:Operand}{o:Oper}
def V4{t e:TypeId}{g off c:Nat}(j:P.underlying t=some (.slice e))(h:bk P e=some z)(d:z.cells.size=size)(h1:z.cells.toList.all one=true)(aa:o.op=.call ⟨.builtin .clear,#[x],#[t]⟩)
  (f:ev σ x=.v (.slice (some ⟨g,off,none⟩) n c)) (m:H g=some (.cells cur e (0,0))) (b:off+n*size<=cur.size) :
  bQ σ o.op=true/\eD P (execOp (bf σ) o) H fun sv H2=>∃ys,sv=.v (.tuple #[])/\ys.length=n*size/\H2=H.put g (.cells (bL cur.toList off ys).toArray e (0,0)):=by
 constructor
 .simp[bQ,aa,fB,Op.operands,Call.operands,f,fO]
 .intro w i;obtain⟨w2,ys,l,a,st⟩:=NZ (ty:=o.type) (c:=c) j h d h1 m b w i;have:(execOp (bf σ) o).run P w=.ok (.value (.tuple #[])) w2:=by simp[execOp,aa,resolve,bf,f,invoke,builtin,Result.andThen,a]
  rw[this];exact⟨_,st,ys,rfl,l,rfl⟩
def L3{ol rem:List Oper}{t e:TypeId}{g off c:Nat}{I:PH}{l:List PH}(hd:Dj (I::sg g (.cells cur e (0,0))::l))(p:C.P.underlying t=some (.slice e))(i:bk C.P e=some z)(f:z.cells.size=size)(h1:z.cells.toList.all one=true)
  (m:bH ol σ o=some true) (aa:o.op=.call ⟨.builtin .clear,#[x],#[t]⟩) (j:ev σ x=.v (.slice (some ⟨g,off,none⟩) n c)) (d:off+n*size<=cur.size)
  (q:∀ys,ys.length=n*size->Dj (I::sg g (.cells (bL cur.toList off ys).toArray e (0,0))::l)->RC C (.op ol rem k) (σ.put o.dst (.v (.tuple #[]))) (U (I::sg g (.cells (bL cur.toList off ys).toArray e (0,0))::l))):RC C (.op ol (o::rem) k) σ (U (I::sg g (.cells cur e (0,0))::l)):=by
 obtain⟨a,b⟩:=V4 (σ:=σ) p i f h1 aa j (jn hd _ _ (gT _ _)) d;refine jw m a (b.mono fun sv H2 ⟨ys,e1,e2,r⟩=>?_);subst e1;subst r;obtain⟨e1,h⟩:=ti (o':=.cells (bL cur.toList off ys).toArray e (0,0)) hd;rw[e1];exact q ys e2 h
def tY{ol:List Oper}{fr:cu}{str:cw}{r1 r2:List (Nat×Oper)}{i:Nat}{l':List (Nat×Oper)}{T:TypeId}{b off:Nat}{l:List Value}{v:Value}(hf:fr.j.contains i=true)(f:fr.J.le H)(c:bH ol σ o=some true)(aa:o.op=.load T x)(a:ev σ x=.v (.pointer (some ⟨b,off,none⟩)))(h:aX fr.J b off l)
  (e:bp C.P T=some (some l.length)/\v=.agg l.toArray\/bp C.P T=some none/\l=[v]) (d:oe C ol fr str r1 r2 l' k (σ.put o.dst (.v v)) H):oe C ol fr str r1 r2 ((i,o)::l') k σ H:=by
 obtain⟨h1,h2⟩:=Ay (P:=C.P) aa a h e;exact .inr ⟨c,by rw[show eZ o.op=.val by rw[aa];rfl];exact⟨_,.inr (.inr ⟨hf,f,v,rfl,h1,h2⟩),d⟩⟩
def sK{α:Type}(S:α->St)(Q:α->PH->Prop){p:Prop}(h1:(∀a σ' H,Q a H->iO (S a).tm σ'.tm->kC (S a).bx σ'.bx->RC C (.st k) σ' H)->p)(h2:∀a H,Q a H->RC C (.st k) (S a) H):p:=
 h1 fun a _ H b ht hb=>gI ht hb (h2 a H b)
def F9{id:Nat}{ops:Array Oper}(hm:C.P.follows .mixedOrders=true)(κ:List Nat)(p q:Nat)(l j:List Nat)(fr str o f:List Nat)(J:PH)(a:u5 ops.toList κ p q l j ⟨fr,o,J,[],[]⟩ ⟨str,f,[]⟩=true)(hs:o3 σ.bx=true)
  (h:oe C ops.toList ⟨fr,o,J,[],[]⟩ ⟨str,f,[]⟩ (pick ops.toList (p::q::l)) (pick ops.toList (q::p::j)) (pick ops.toList κ) k σ H):RC C (.st (.code (.region id ops true)::k)) σ H:=by
 have m:=a;simp only[u5,cX,dA,sm]at m;obtain⟨⟨⟨⟨⟨⟨⟨⟨⟨⟨⟨⟨⟨⟨h1,h2⟩,v⟩,c⟩,b⟩,u⟩,t⟩,r⟩,e⟩,d⟩,A⟩,z⟩,w⟩,y⟩,x⟩:=m;have e1:=xQ e;have e2:=xQ d;refine(show R C (.code (.region id ops true)::k) σ H from zg fun _ _ s g=>He rfl hm a (E8 hs) ?_ s g);refine rd κ (fun i hi=>e1 i (ge _ hi)) (FL (fun σ' H' n=>⟨rd _ (fun i hi=>?_) n.1,rd _ (fun i hi=>?_) n.2⟩) _ h)
 .rcases List.mem_cons.1 hi with rfl|hi
  .exact c
  .exact e1 i (gz _ hi)
 .rcases List.mem_cons.1 hi with rfl|hi
  .exact b
  .exact e2 i (gz _ hi)
end
def il{C:Cx}{k kx:List Item}{σ:St}{H:PH}{α:Type}{c:Code}(μ:α->Nat)(S:α->St)(Q Z:α->PH->Prop)(a0:α)(hs:iO (S a0).tm σ.tm)(hb:kC (S a0).bx σ.bx)(e:Q a0 H)
  (h:∀a H,Q a H->(∀b d H',μ b<μ a->iO (S b).tm d.tm->kC (S b).bx d.bx->Q b H'->RC C (.st (.inLoop c::k)) d H')->(∀b d H',iO (S b).tm d.tm->kC (S b).bx d.bx->Z b H'->RC C (.st kx) d H')->RC C (.st (.code c::.inLoop c::k)) (S a) H)
  (rest:∀a H,Z a H->RC C (.st kx) (S a) H):RC C (.st (.code (.loop c)::k)) σ H:=
 bY μ S Q a0 hs hb e fun a H e f=>h a H e f fun b d H' h1 h2 h3=>gI h1 h2 (rest b H' h3)
end Go.Sx
namespace Go.Proofs.YtfaclfkpnmcmlaaGreatDoor
open Go Go.Sx Dg Syn
def Po:ax prog 143:=⟨_,func143,rfl,rfl⟩
def Ii:ax prog 82:=⟨_,func82,rfl,rfl⟩
def DH:ax prog 133:=⟨_,func133,rfl,rfl⟩
def g9(d:al):Nat->Nat×al
 |0=>if mJ (d.take (fS d))then (1,d.take (fS d))else (0,[])
 |1=>if lX (d.take (fS d))then (2,d.take (fS d))else (0,[])
 |_=>match kB.find? fun x=>x.isPrefixOf d with
  |some x=>(3,x)
  |none=>(0,[])
def rM(d:al):Nat->Nat×al
 |0=>iI d
 |1=>if lX (d.take (fS d))then (2,d.take (fS d))else g9 d 2
 |2=>g9 d 2
 |_=>(0,[])
variable{d:al}
def IV{k:Nat}(h:(g9 d k).1=0):g9 d k=(0,[]):=by
 match k with
 |0=>
  simp only[g9]at h |-;split at h
  .cases h
  .rename_i h1;rw[ab h1]
 |1=>
  simp only[g9]at h |-;split at h
  .cases h
  .rename_i h1;rw[ab h1]
 |k+2=>
  simp only[g9]at h |-;split at h
  .cases h
  .rfl
def Tk{k:Nat}(a:k<3)(h:(g9 d k).1=0):rM d k=rM d (k+1):=by
 match k,a with
 |0,_=>
  simp only[g9]at h;split at h
  .cases h
  .rename_i h1;simp only[rM,iI,g9,ab h1]<;>rfl
 |1,_=>
  simp only[g9]at h;split at h
  .cases h
  .rename_i h1;simp only[rM,ab h1]
 |2,_=>exact IV h
def Tl{k:Nat}(a:k<3)(h:(g9 d k).1≠0):rM d k=g9 d k:=by
 match k,a with
 |0,_=>
  simp only[g9]at h |-;split at h
  .rename_i h1;simp only[rM,iI,ag h1]
  .exact absurd rfl h
 |1,_=>
  simp only[g9]at h |-;split at h
  .rename_i h1;simp only[rM,ag h1]
  .exact absurd rfl h
 |2,_=>rfl
def vN(x:Nat×al):Value:=.tuple #[.int .u8 x.1,.string ⟨⟨x.2⟩⟩]
def zZ(sb a:Nat):List Value:=[.func (.func 213) #[] #[pt a],.func (.func 215) #[] #[pt a],.func (.func 217) #[] #[pt sb]]
def Xf{H:PH}{sb fb i k:Nat}{s:al}(b:ip H)(hs:aX H sb 0 [.string ⟨⟨s⟩⟩])(hf:aX H fb 0 [.func (.func 211) #[] #[pt sb]])(hi:i<=s.length)(d:s.length<2^40)(e:k<3):
  ∃a c,(zZ sb fb)[k]?=some (.func (.func a) #[] #[c])/\ax prog a/\br prog a #[E i,c] H fun v H2=>v=vN (g9 (s.drop i) k)/\H2=H:=by
 match k,e with
 |0,_=>refine⟨213,pt fb,rfl,PG,(T3 hs hf hi O).mono fun v H2 h=>⟨?_,h.2⟩⟩;rw[h.1];simp only[g9,vN];split<;>rfl
 |1,_=>refine⟨215,pt fb,rfl,PJ,(Uh b hs hf hi d).mono fun v H2 h=>⟨?_,h.2⟩⟩;rw[h.1];simp only[g9,vN];split<;>rfl
 |2,_=>refine⟨217,pt sb,rfl,PL,(VG b.1 hs hi O).mono fun v H2 h=>⟨?_,h.2⟩⟩;rw[h.1];unfold Bx g9 vN;cases kB.find? (fun x=>x.isPrefixOf (s.drop i))<;>rfl
abbrev iy(I A:PH)(v:Value)(l:List Tok):Prop:=Ow cR 83 7 I A v l
def yW(_:PH)(c:List Value)(x:Nat):Prop:=c=[E x]
abbrev wr(I A:PH)(v:Value)(l:List Nat):Prop:=Ow yW 3 1 I A v l
variable{v:Value}{I:PH}
def iy.le{J A:PH}{l:List Tok}(h:iy I A v l)(k:I.le J):iy J A v l:=Ow.le (R:=cR) (fun{I J c a} h k=>cR.le h k) h k
def wr.le{J A:PH}{l:List Nat}(h:wr I A v l)(k:I.le J):wr J A v l:=Ow.le (R:=yW) (fun{I J c a} h k=>h) h k
def cR.ones{c:List Value}{t:Tok}(h:cR I c t):c.all one=true:=by obtain⟨p,f,l,a,k,rfl,h1,_⟩:=h;simp only[List.all_cons,List.all_nil,h1];rfl
def yw(sb a:Nat)(x:Nat×Value×Value):St:=⟨dn 75 [(1,.v (pt sb)),(2,.v x.2.1),(3,.v x.2.2),(6,.v (.func (.func 213) #[] #[pt a])),(7,.v (.func (.func 215) #[] #[pt a])),(8,.v (.func (.func 217) #[] #[pt sb])),(9,.v (E x.1))],[]⟩
def Wx(s:al)(b:PH)(x:Nat×Value×Value)(H:PH):Prop:=∃I A B l a,H=U [I,A,B]/\Dj [I,A,B]/\b.le I/\x.1<=s.length/\iy I A x.2.1 (l.map dy)/\wr I B x.2.2 a/\a.length=l.length/\l.length<=x.1/\pY s=(pY (s.drop x.1)).map (l++·)
def tG(sb a:Nat)(b vb:Value)(i nb:Nat)(x:Nat×Nat×al):St:=⟨dn 75 [(1,.v (pt sb)),(2,.v b),(3,.v vb),(6,.v (.func (.func 213) #[] #[pt a])),(7,.v (.func (.func 215) #[] #[pt a])),(8,.v (.func (.func 217) #[] #[pt sb])),(9,.v (E i)),(10,.v (.int .u8 x.2.1)),(11,.v (.string ⟨⟨x.2.2⟩⟩)),(38,.v (.slice (some ⟨nb,0,none⟩) 3 3)),(39,.v (E 3)),(40,.v (E x.1))],[]⟩
def uf(s:al)(v:Value)(c:PH)(b:List PH):Prop:=match pZ s with
 |none=>v=.tuple #[.slice none 0 0,.slice none 0 0,.bool false]/\b=[]
 |some l=>∃A a vb,v=.tuple #[a,vb,.bool true]/\b=[A]/\iy c A a (l.map dy)
theorem Vu{s:al}(hl:s.length<2^40)(hV:ip I):aT prog 143 #[.string ⟨⟨s⟩⟩] I [] (uf s):=by
 intro hd;refine aP 75 func143 fun w0=>?_;refine ai ?_;refine X4 rfl PF (Nc s O _) ?_;rintro v H2⟨rfl,rfl⟩;cases Z:s.all fun c=>lZ (bZ c)
 .have hx:pZ s=none:=by unfold pZ;rw[Z];rfl
  apply RG;simp only[go_sem,ds];exact az rfl hd (r:=[_,_,_]) rfl (aC _) (by unfold uf;rw[hx];exact⟨rfl,rfl⟩)
 have Q:pZ s=pY s:=by unfold pZ;rw[Z];rfl
 apply cD 5;simp only[go_sem,cP];refine jL 1 hd rfl fun sb cf=>?_;refine aH (c:=.st _) cf fun I2 cc am cj=>?_;have hs:aX I2 sb 0 [.string ⟨⟨s⟩⟩]:=(dt (by simp) rfl:aX (sg sb (.cells [.string ⟨⟨s⟩⟩].toArray 9 (0,0))) sb 0 [.string ⟨⟨s⟩⟩]).le cj;apply cD 5;simp only[go_sem,iN,List.map,pt];refine jL 5 cc rfl fun W cb=>?_;refine aH (c:=.st _) cb fun I4 ca P ci=>?_;have hf:aX I4 W 0 [.func (.func 211) #[] #[pt sb]]:=(dt (by simp) rfl:aX (sg W (.cells [.func (.func 211) #[] #[pt sb]].toArray 315 (0,0))) W 0 [.func (.func 211) #[] #[pt sb]]).le ci;have hs:=hs.le P;have G:=D am P;have cl:=hV.le G;apply RG;simp only[go_sem,iN,List.map,pt];refine dg ca fun b8=>?_;refine dg b8 fun b7=>?_;refine bY (fun x=>s.length-x.1) (yw sb W) (Wx s I4) (0,.slice none 0 0,.slice none 0 0) cJ (by simp only[go_sem,Y,yw]) ?_ ?_
 .exact⟨I4,_,_,[],[],rfl,b7,aC _,aF _,Ow.nil _ _ _ _,Ow.nil _ _ _ _,rfl,aF _,by simp⟩
 rintro⟨i,va,vb⟩ H ⟨I1,A1,B1,l,w,rfl,u,g,hi,V,hB,a6,b0,f⟩ y;simp only at hi V hB b0 f;simp only[yw];have K:=hs.le g;obtain⟨aa,ac,rfl⟩:=V.shape;obtain⟨ba,bc,rfl⟩:=hB.shape;refine dI ?_;refine X5 (l:=[.string ⟨⟨s⟩⟩]) rfl (cellsU u (.head _) K) (.inr ⟨gM,rfl⟩) ?_;rcases aI i s.length with N|c0
 .have T:=Z5 i s.length;have e1:=Z7 i;obtain⟨c,hc⟩:∃c,s[i]?=some c:=⟨_,aZ N⟩;have hb:=ux hc;have a3:s.drop i=c::s.drop (i+1):=by rw[js N];rw[aZ N]at hc;rw[cW hc]
  have tk:(s.drop i).take (s.length-i)=s.drop i:=yU (by simp);have bx:=f;rw[a3,Ti,<-a3]at f;apply RG;simp only[go_sem,fW,T];refine X5 (l:=[.string ⟨⟨s⟩⟩]) rfl (cellsU u (.head _) K) (.inr ⟨gM,rfl⟩) ?_;refine dq hb ?_;refine⟨by first|omega|(simp only[fW];omega),?_⟩;refine X4 rfl PM (Nu _ _) ?_;rintro v H2⟨rfl,rfl⟩;cases a5:sQ (bZ c)
  rotate_left
  .rw[a5,ag rfl]at f;refine be e1 ?_;exact y (i+1,.slice aa (l.map dy).length ac,.slice ba w.length bc) _ _ bh cJ (by simp only[go_sem,Y,yw]) ⟨I1,A1,B1,l,w,rfl,u,g,N,V,hB,a6,by simp only;omega,f⟩
  rw[a5,ab (by simp)]at f;refine ai ?_;refine X5 (l:=[.string ⟨⟨s⟩⟩]) rfl (cellsU u (.head _) K) (.inr ⟨gM,rfl⟩) ?_;apply RG;simp only[go_sem,fW,yu,tk];refine⟨O,?_⟩;refine X4 rfl HQ (J0 _ zM _) ?_;rintro v H2⟨rfl,rfl⟩;cases a4:zM.isPrefixOf (s.drop i)
  rotate_left
  .rw[a4,ag rfl]at f;apply cD 4;simp only[go_sem];refine aj u [1,0] fun j=>?_;refine aj j [0,1] fun d=>?_;refine aH (c:=.st _) d fun I9 d b a0=>?_;refine bF ?_;refine az rfl d (r:=[_,_,_]) rfl (D G (D g b)) ?_;unfold uf;rw[Q,f];exact⟨A1,_,_,rfl,rfl,by simpa using iy.le V b⟩
  rw[a4,ab (by simp)]at f;refine dI ?_;refine cH u (by exact VK) rfl rfl rfl rfl rfl af fun nb I3 j m bs=>?_;have b3:aX I3 nb 0 (zZ sb W):=bz bs (by simp[av,Value.cells,zZ]) (by simp[av,Value.cells,zZ,pt]);have bb:=K.le m;have b5:=(hf.le g).le m;have cm:=(cl.le g).le m;refine dI ?_;apply il (fun(x:Nat×Nat×al)=>3-x.1) (tG sb W (.slice aa (l.map dy).length ac) (.slice ba w.length bc) i nb) (fun x H=>H=U [I3,A1,B1]/\x.2=(0,[])/\x.1<=3/\iI (s.drop i)=rM (s.drop i) x.1) (fun x H=>H=U [I3,A1,B1]/\x.2=iI (s.drop i)) (0,0,[])
  .exact cJ
  .exact(by simp only[go_sem,Y,tG])
  .exact⟨rfl,rfl,aF _,rfl⟩
  .rintro⟨k,kd,F⟩ H ⟨rfl,e0,b1,hr⟩ L C;simp only[ij]at e0 b1 hr;obtain⟨rfl,rfl⟩:=e0;simp only[tG];rcases aI k 3 with hk|hk
   .have S:decide ((k:Int)<3)=true:=bl O;have e40:=Z7 k;obtain⟨fid,cp,b4,b2,b6⟩:=Xf (cm.le (iH j)) (cellsU j (.head _) bb) (cellsU j (.head _) b5) hi hl hk;apply RG;simp only[go_sem,E,pt,dL,S];refine⟨O,?_⟩;refine X5 (l:=[.func (.func fid) #[] #[cp]]) rfl (cellsU j (.head _) (by simpa using b3.get b4)) (.inr ⟨Gm,rfl⟩) ?_;refine bF ?_;refine X4 rfl b2 b6 ?_;rintro v H2⟨rfl,rfl⟩;by_cases h0:(g9 (s.drop i) k).1=0
    .rw[IV h0];apply RG;simp only[go_sem,vN,E,e40];exact L (k+1,0,[]) _ _ bh cJ (by simp only[go_sem,Y,tG]) ⟨rfl,rfl,hk,by rw[hr,Tk hk h0]⟩
    .have cA:((((g9 (s.drop i) k).1:Nat):Int) != 0)=true:=by simp;omega
     apply cD 13;simp only[go_sem,vN,E,cA];exact C (k,g9 (s.drop i) k) _ _ cJ (by simp only[go_sem,Y,tG]) ⟨rfl,by simp only;rw[hr,Tl hk h0]⟩
   .have:k=3:=by omega
    subst this;have S:decide ((3:Int)<3)=false:=by decide
    apply cD 7;simp only[go_sem,E,pt,dL,S];exact C (3,0,[]) _ _ cJ (by simp only[go_sem,Y,tG]) ⟨rfl,by simp only;rw[hr];rfl⟩
  .rintro⟨k,kd,F⟩ H ⟨rfl,e⟩;simp only at e;simp only[tG];by_cases h0:kd=0
   .subst h0;rw[<-e,ag rfl]at f;refine aj j [1,0] fun d=>?_;refine aj d [0,1] fun q=>?_;refine aH (c:=.st _) q fun I9 q o cr=>?_;refine aj q [0] fun p=>?_;refine aH (c:=.st _) p fun c1 p t cx=>?_;apply RG;simp only[go_sem,E,dL];refine az rfl p (r:=[_,_,_]) rfl (D G (D g (D m (D o t)))) ?_;unfold uf;rw[Q,f];exact⟨rfl,rfl⟩
   .have cy:((kd:Int) == 0)=false:=by simp;omega
    have a1:(iI (s.drop i)).1≠0:=by rw[<-e];exact h0
    obtain⟨s1,s2,_,_⟩:=Ek a1;rw[ab a1,<-e]at f;rw[<-e]at s1 s2;simp only[vY]at s1 s2;have a2:(l.map dy).length=l.length:=eN _;have e72:IntKind.i64.wrap ((i:Int)+(F.length:Int))=((i+F.length:Nat):Int):=by rw[<-wrap64 (n:=i+F.length) O];congr 1
    refine be cy ?_;refine cH j (by exact mV) rfl rfl rfl rfl rfl af fun mb I5 d b cB=>?_;refine bF ?_;refine X4 rfl xh (yF _) ?_;rintro v H2⟨rfl,rfl⟩;refine bF ?_;refine cH d (by exact yf) rfl rfl rfl rfl rfl af fun tb I6 q o a9=>?_;have hT:Sl cR I6 (.slice (some ⟨tb,0,none⟩) 1 1) [dy (kd,F)]:=⟨_,_,rfl,.inr ⟨tb,0,[.int .u8 kd,.string ⟨⟨F⟩⟩,.slice (some ⟨mb,0,none⟩) 1 1,.int .i64 0,.int .i64 0,.slice none 0 0,E 1],rfl,bz a9 (by simp[av,Value.cells]) (by simp[av,Value.cells,E]),.one ⟨.slice (some ⟨mb,0,none⟩) 1 1,0,0,none,0,rfl,rfl,oV I6 true⟩⟩⟩;refine bF ?_;refine fT (R:=cR) (xs:=l.map dy) (ys:=[dy (kd,F)]) q (by exact yf) (iy.le V (D m (D b o))) hT (fun{I J c a} h k=>cR.le h k) (fun{I} c a h=>cR.len c a h) (fun{I} c a h=>cR.ones h) rfl rfl rfl rfl (by rw[a2];simp only[bm,bo];omega) (by rw[a2];simp only[bm,bo];unfold maxLen;omega) fun ua uc I7 A7 p t cs=>?_;refine bF ?_;refine cH p (by exact mV) rfl rfl rfl rfl rfl af fun xb I8 aS B a7=>?_;have hX:Sl yW I8 (.slice (some ⟨xb,0,none⟩) 1 1) [i]:=⟨_,_,rfl,.inr ⟨xb,0,[E i],rfl,bz a7 (by simp[av,Value.cells]) (by simp[av,Value.cells,E]),.one rfl⟩⟩;refine bF ?_;refine aj aS [1,0] fun aq=>?_;have X:=D m (D b (D o (D t B)));refine fT (R:=yW) (xs:=w) (ys:=[i]) aq (by exact mV) (wr.le hB X) hX (fun{I J c a} h k=>h) (fun{I} c a h=>by rw[show c=_ from h];rfl) (fun{I} c a h=>by rw[show c=_ from h];rfl) rfl rfl rfl rfl (by simp only[bm,bo];omega) (by simp only[bm,bo];unfold maxLen;omega) fun wa wc I9 B9 ap A cn=>?_;apply RG;simp only[go_sem,E,fW,e72];refine aj ap [1,0] fun an=>?_
    refine y (i+F.length,.slice ua (l.map dy++[dy (kd,F)]).length uc,.slice wa (w++[i]).length wc) _ _ bh cJ (by simp only[go_sem,Y,yw]) ⟨I9,A7,B9,l++[(kd,F)],w++[i],rfl,an,D g (D X A),by simp only;omega,?_,cn,by simp[a6],by simp only[aE,bm,bo];omega,?_⟩
    .simp only;rw[mf];exact iy.le cs (D B A)
    .simp only;rw[f,Option.map_map,lr];congr 1;funext z;simp
 .have:i=s.length:=by omega
  subst this;have T:=Z6 s.length;rw[jk,Tj]at f;refine aj u [1,0] fun j=>?_;refine aj j [0,1] fun d=>?_;refine aH d fun I9 d b a0=>?_;apply RG;simp only[go_sem,fW,T];refine az rfl d (r:=[_,_,_]) rfl (D G (D g b)) ?_;unfold uf;rw[Q,f];exact⟨A1,_,_,rfl,rfl,by simpa using iy.le V b⟩
end Go.Proofs.YtfaclfkpnmcmlaaGreatDoor
