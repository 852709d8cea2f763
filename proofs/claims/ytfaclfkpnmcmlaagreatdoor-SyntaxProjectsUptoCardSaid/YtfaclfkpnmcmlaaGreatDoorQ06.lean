import Derived.Test.YtfaclfkpnmcmlaaGreatDoorQ05
set_option maxHeartbeats 8000000
set_option linter.all false
namespace Go.Proofs.YtfaclfkpnmcmlaaGreatDoor
open Go Go.Sx Dg Syn
theorem gC:aP Tryz.prog 138:=⟨_,Tryz.func138,rfl,rfl⟩
theorem JM:aP Tryz.prog 222:=⟨_,Tryz.func222,rfl,rfl⟩
theorem IG:aP Tryz.prog 223:=⟨_,Tryz.func223,rfl,rfl⟩
theorem BA:aP Tryz.prog 263:=⟨_,Tryz.func263,rfl,rfl⟩
theorem rh:aP Tryz.prog 291:=⟨_,Tryz.func291,rfl,rfl⟩
section
variable {C:Cx} {k:List Item} {σ:St} {α:Type} {R:PH->List Value->α->Prop}
theorem aY{ol rem:List Oper}{o:Oper}{t e:TypeId}{size bytes:Nat}{x y:Operand}{v vy:Value}{xs ys:List α}{I A:PH}{l:List PH}(hd:Dj (I::A::l))(ht:iw C.P t e size bytes)(hA:Ow R e size I A v xs)(hS:Sl R I vy ys)(hR:∀{I J c a},R I c a->I.le J->R J c a)(hn:∀{I} c a,R I c a->c.length=size)(h1:∀{I} c a,R I c a->c.all Sx.one=true)
  (hw:aG ol σ o=some true) (am:o.op=.call ⟨.builtin .append,#[x,y],#[t,t]⟩) (hx:ev σ x=.v v) (hy:ev σ y=.v vy) (hb:(xs.length+ys.length)*bytes<=140737488355328) (ap:xs.length+ys.length<=maxLen)
  (hk:∀a c I2 A2,Dj (I2::A2::l)->I.le I2->Ow R e size I2 A2 (.slice a (xs++ys).length c) (xs++ys)->RC C (.op ol rem k) (σ.put o.dst (.v (.slice a (xs++ys).length c))) (U (I2::A2::l))):RC C (.op ol (o::rem) k) σ (U (I::A::l)):=by
 obtain⟨ya,yc,rfl,hS⟩:=hS;rcases hS with rfl|⟨b,off,zs,rfl,hc,hr⟩
 ·have aj:=hA.cap fun c a h=>hn c a h;obtain⟨va,vc,rfl⟩:=hA.shape;refine rW ht hw am hx aj hy ?_;have:=hk va vc I A hd (Uj _) (by simpa using hA);simpa using this
 ·obtain⟨bs,ac,an⟩:=hA;refine dr hd ht ac hw am hx hy (cellsU hd (.head _) hc) (hr.len fun c a h=>hn c a h) (hr.ones fun c a h=>h1 c a h) hb ap fun v' I2 A2 ao aa ak=>?_;obtain⟨a,c,rfl⟩:=ak.slice;have e:xs.length+ys.length=(xs++ys).length:=by simp
  have:=hk a c I2 A2 ao aa ⟨bs++zs,by rw[e]at ak;exact ak,LR.app (an.mono fun _ _ h=>hR h aa) (hr.mono fun _ _ h=>hR h aa)⟩;rw[e];exact this
theorem eZ{ol:List Oper}{fr:gW}{str:gR}{i:Nat}{lo:List (Nat×Oper)}{o:Oper}{t e:TypeId}{size bytes:Nat}{x y:Operand}{v vy:Value}{xs ys:List α}{I A:PH}{l:List PH}(hd:Dj (I::A::l))(ht:iw C.P t e size bytes)(hA:Ow R e size I A v xs)(hS:Sl R I vy ys)(hR:∀{I J c a},R I c a->I.le J->R J c a)(hn:∀{I} c a,R I c a->c.length=size)(h1:∀{I} c a,R I c a->c.all Sx.one=true)
  (hs:str.h.contains i=false) (an:str.j.contains i=false) (hw:aG ol σ o=some true) (aj:o.op=.call ⟨.builtin .append,#[x,y],#[t,t]⟩) (hx:ev σ x=.v v) (hy:ev σ y=.v vy) (hb:(xs.length+ys.length)*bytes<=140737488355328) (aS:xs.length+ys.length<=maxLen)
  (hk:∀a c I2 A2,Dj (I2::A2::l)->I.le I2->Ow R e size I2 A2 (.slice a (xs++ys).length c) (xs++ys)->RD C ol fr str lo k (σ.put o.dst (.v (.slice a (xs++ys).length c))) (U (I2::A2::l))):RD C ol fr str ((i,o)::lo) k σ (U (I::A::l)):=by
 obtain⟨ya,yc,rfl,hS⟩:=hS;rcases hS with rfl|⟨b,off,zs,rfl,hc,hr⟩
 ·have ak:=hA.cap fun c a h=>hn c a h;obtain⟨va,vc,rfl⟩:=hA.shape;obtain⟨a,b⟩:=oL (H:=U (I::A::l)) ht aj hx ak hy;refine pX hw a (by rw[aj];rfl) (b.mono fun sv H2 ⟨e1,e2⟩=>⟨jB.non hs an,?_⟩);subst e1;subst e2;have:=hk va vc I A hd (Uj _) (by simpa using hA);simpa using this
 ·obtain⟨bs,ac,ao⟩:=hA;refine jt hd ht ac hs an hw aj hx hy (cellsU hd (.head _) hc) (hr.len fun c a h=>hn c a h) (hr.ones fun c a h=>h1 c a h) hb aS fun v' I2 A2 ap aa am=>?_;obtain⟨a,c,rfl⟩:=am.slice;have e:xs.length+ys.length=(xs++ys).length:=by simp
  have:=hk a c I2 A2 ap aa ⟨bs++zs,by rw[e]at am;exact am,LR.app (ao.mono fun _ _ h=>hR h aa) (hr.mono fun _ _ h=>hR h aa)⟩;rw[e];exact this
end
theorem gx{I:PH}{h:ay}{a:Option Addr}{k:Nat}(am:h.at'<2^61)(hr:cu I (.agg #[sD a k h.cond,rD h.cond]) h.cond):
  aO Tryz.prog 138 #[uh a k h] I [] fun v I2 qs=>qs=[]/\du I2 v (bh h):=by
 intro hd;have e1:=wrap64 (n:=h.at'+1) (by omega);have ak:IntKind.i64.wrap ((h.at':Int)+1)=((h.at'+1:Nat):Int):=by rw[<-e1];congr 1
 refine Ot Tryz.func138 rfl fun w0=>?_;simp only[Tryz.ntmps138,uh,iv,sD,rD];apply RG;simp only[go_sem,ak];refine av hd (by exact gY) rfl rfl rfl rfl rfl (by decide) fun nb I2 aj aa ac=>?_;apply RG;simp only[go_sem];refine ai rfl aj (r:=[_]) rfl aa ⟨rfl,_,_,rfl,.inr ⟨nb,0,[iv (h.at'+1),sD a k h.cond,rD h.cond],rfl,az ac (by simp[aE,Value.cells]) (by simp[aE,Value.cells,iv,sD,rD]),.one ⟨_,_,rfl,hr.le aa⟩⟩⟩
theorem BU{I:PH}{vf:Value}{f:ah}(hf:du I vf f)(hl:f.length<=2^20):aO Tryz.prog 263 #[vf] I [] fun v I2 qs=>∃A,qs=[A]/\gP I2 A v f:=by
 intro hd;obtain⟨fa,fc,rfl,ak⟩:=id hf;refine Ot Tryz.func263 rfl fun w0=>?_;simp only[Tryz.ntmps263];cases fa with
 |none=>
  have am:f=[]:=by
   rcases ak with h|⟨b,off,xs,e,_⟩
   ·exact h
   ·cases e
  subst am;apply RG;simp only[go_sem];refine kw rfl rfl (by exact vK) rfl rfl ?_;apply RG;simp only[go_sem,Option.isNone];refine aT hd fun aj=>?_;exact ai rfl aj (r:=[_]) rfl (Uj _) ⟨_,rfl,Ow.nil _ _ _ _⟩
 |some a=>
  apply RG;simp only[go_sem];refine kw rfl rfl (by exact vK) rfl rfl ?_;apply RG;simp only[go_sem,Option.isNone];refine dP hd (by exact gY) rfl rfl rfl rfl rfl (by decide) fun b A aj aa=>?_;apply RG;simp only[go_sem];refine aY aj (by exact gY) (xs:=([]:ah)) (R:=fP) ⟨[],aa,rfl⟩ hf (fun{I J c a} h k=>fP.le h k) (fun{I} c a h=>fP.len c a h) (fun{I} c a h=>fP.ones h) rfl rfl rfl rfl (by simp only[S9];omega) (by simp only[S9];unfold maxLen;omega) fun a2 c2 I2 A2 an ac ao=>?_;apply RG;simp only[go_sem,SU];exact ai rfl an (r:=[_]) rfl ac ⟨_,rfl,ao⟩
theorem Hi{H:PH}{s:bM}:bv Tryz.prog 223 #[.string ⟨⟨s⟩⟩] H fun v H2=>v=.int .i64 (if dY s=9 then -1 else (dY s:Int))/\H2=H:=by
 refine Ot Tryz.func223 rfl fun w0=>?_;simp only[Tryz.ntmps223];cases h0:(s == [124,124])
 rotate_left
 ·apply RG;simp only[go_sem,h0];exact aK (r:=[.int .i64 0]) rfl ⟨by rw[show dY s=0 from by rw[eq_of_beq h0];decide];rfl,rfl⟩
 cases h1:(s == [38,38])
 rotate_left
 ·apply RG;simp only[go_sem,h0,h1];exact aK (r:=[.int .i64 1]) rfl ⟨by rw[show dY s=1 from by rw[eq_of_beq h1];decide];rfl,rfl⟩
 cases h2:(s == [61,61])
 rotate_left
 ·apply RG;simp only[go_sem,h0,h1,h2];exact aK (r:=[.int .i64 2]) rfl ⟨by rw[show dY s=2 from by rw[eq_of_beq h2];decide];rfl,rfl⟩
 cases h3:(s == [33,61])
 rotate_left
 ·apply RG;simp only[go_sem,h0,h1,h2,h3];exact aK (r:=[.int .i64 2]) rfl ⟨by rw[show dY s=2 from by rw[eq_of_beq h3];decide];rfl,rfl⟩
 cases h4:(s == [60])
 rotate_left
 ·apply RG;simp only[go_sem,h0,h1,h2,h3,h4];exact aK (r:=[.int .i64 2]) rfl ⟨by rw[show dY s=2 from by rw[eq_of_beq h4];decide];rfl,rfl⟩
 cases h5:(s == [60,61])
 rotate_left
 ·apply RG;simp only[go_sem,h0,h1,h2,h3,h4,h5];exact aK (r:=[.int .i64 2]) rfl ⟨by rw[show dY s=2 from by rw[eq_of_beq h5];decide];rfl,rfl⟩
 cases h6:(s == [62])
 rotate_left
 ·apply RG;simp only[go_sem,h0,h1,h2,h3,h4,h5,h6];exact aK (r:=[.int .i64 2]) rfl ⟨by rw[show dY s=2 from by rw[eq_of_beq h6];decide];rfl,rfl⟩
 cases h7:(s == [62,61])
 rotate_left
 ·apply RG;simp only[go_sem,h0,h1,h2,h3,h4,h5,h6,h7];exact aK (r:=[.int .i64 2]) rfl ⟨by rw[show dY s=2 from by rw[eq_of_beq h7];decide];rfl,rfl⟩
 cases h8:(s == [43])
 rotate_left
 ·apply RG;simp only[go_sem,h0,h1,h2,h3,h4,h5,h6,h7,h8];exact aK (r:=[.int .i64 3]) rfl ⟨by rw[show dY s=3 from by rw[eq_of_beq h8];decide];rfl,rfl⟩
 cases h9:(s == [45])
 rotate_left
 ·apply RG;simp only[go_sem,h0,h1,h2,h3,h4,h5,h6,h7,h8,h9];exact aK (r:=[.int .i64 3]) rfl ⟨by rw[show dY s=3 from by rw[eq_of_beq h9];decide];rfl,rfl⟩
 cases aa:(s == [42])
 rotate_left
 ·apply RG;simp only[go_sem,h0,h1,h2,h3,h4,h5,h6,h7,h8,h9,aa];exact aK (r:=[.int .i64 4]) rfl ⟨by rw[show dY s=4 from by rw[eq_of_beq aa];decide];rfl,rfl⟩
 cases ac:(s == [47])
 rotate_left
 ·apply RG;simp only[go_sem,h0,h1,h2,h3,h4,h5,h6,h7,h8,h9,aa,ac];exact aK (r:=[.int .i64 4]) rfl ⟨by rw[show dY s=4 from by rw[eq_of_beq ac];decide];rfl,rfl⟩
 cases aj:(s == [37])
 rotate_left
 ·apply RG;simp only[go_sem,h0,h1,h2,h3,h4,h5,h6,h7,h8,h9,aa,ac,aj];exact aK (r:=[.int .i64 4]) rfl ⟨by rw[show dY s=4 from by rw[eq_of_beq aj];decide];rfl,rfl⟩
 apply RG;simp only[go_sem,h0,h1,h2,h3,h4,h5,h6,h7,h8,h9,aa,ac,aj];have q0:s≠Kl:=fun e=>by rw[e]at h0;exact absurd h0 (by decide)
 have q1:s≠CI:=fun e=>by rw[e]at h1;exact absurd h1 (by decide)
 have q2:s≠KM:=fun e=>by rw[e]at h2;exact absurd h2 (by decide)
 have q3:s≠Ra:=fun e=>by rw[e]at h3;exact absurd h3 (by decide)
 have q4:s≠QQ:=fun e=>by rw[e]at h4;exact absurd h4 (by decide)
 have q5:s≠QT:=fun e=>by rw[e]at h5;exact absurd h5 (by decide)
 have q6:s≠Q0:=fun e=>by rw[e]at h6;exact absurd h6 (by decide)
 have q7:s≠Rb:=fun e=>by rw[e]at h7;exact absurd h7 (by decide)
 have q8:s≠Km:=fun e=>by rw[e]at h8;exact absurd h8 (by decide)
 have q9:s≠nV:=fun e=>by rw[e]at h9;exact absurd h9 (by decide)
 have q10:s≠Nf:=fun e=>by rw[e]at aa;exact absurd aa (by decide)
 have q11:s≠OL:=fun e=>by rw[e]at ac;exact absurd ac (by decide)
 have q12:s≠Nl:=fun e=>by rw[e]at aj;exact absurd aj (by decide)
 have q:dY s=9:=by
  unfold dY;rw[Sb q0,Sb q1,Sb (by simp[q2,q3,q4,q5,q6,q7]),Sb (by simp[q8,q9]),Sb (by simp[q10,q11,q12])]
 exact aK (r:=[.int .i64 (-1)]) rfl ⟨by rw[q];rfl,rfl⟩
open Go Go.Sx Dg Syn
theorem EV{H:PH}{b k:Nat}(hb:aQ H b 0 [iv k])(hk:k<=5){h:ay}{a:Option Addr}{c:Nat}:bv Tryz.prog 222 #[uh a c h,pt b] H fun v H2=>v=.bool (i7 k h)/\H2=H:=by
 refine Ot Tryz.func222 rfl fun w0=>?_;simp only[Tryz.ntmps222,uh,iv,pt,sD,rD];apply RG;simp only[go_sem];refine ax mixed [0,1,2,3,4,5,7,6,8,9,10] [7] [6] rfl rfl ?_;by_cases h3:h.kind=3
 ·have h6:((h.kind:Int) == 3)=true:=by simp[h3]
  apply af;simp only[go_sem,h6,iv,pt];refine P7 (l:=[iv k]) rfl hb (.inr ⟨mF,rfl⟩) ?_;apply af;simp only[go_sem,h6,iv,pt];refine pi rfl rfl rfl rfl IG Hi fun v H2 hv=>?_;obtain⟨rfl,rfl⟩:=hv;refine⟨jB.le (Uj _),?_⟩;apply af;simp only[go_sem,h6,iv,pt];refine aw ?_;apply RG;simp only[go_sem];refine aK (r:=[.bool ((if dY h.text=9 then -1 else (dY h.text:Int)) == (k:Int))]) rfl ⟨?_,rfl⟩;show Value.bool _=Value.bool (i7 k h);congr 1;unfold i7;rw[h3];by_cases e:dY h.text=k
  ·subst e;rw[Sb (by omega)];simp
  ·simp only[e];split<;>simp<;>omega
 ·have h6:((h.kind:Int) == 3)=false:=by simp;omega
  apply af;simp only[go_sem,h6,iv,pt];refine aw ?_;apply RG;simp only[go_sem];exact aK (r:=[.bool false]) rfl ⟨by simp[eN,i7,h3],rfl⟩
theorem wj{I:PH}{hb kind:Nat}{h:ay}{a:Option Addr}{c:Nat}(hc:aQ I hb 0 [iv h.at',sD a c h.cond,rD h.cond,.int .u8 h.kind,.string ⟨⟨h.text⟩⟩])(hr:cu I (.agg #[sD a c h.cond,rD h.cond]) h.cond):
  aO Tryz.prog 291 #[.int .u8 kind,pt hb] I [] fun v I2 qs=>∃A,qs=[A]/\br I2 A v [ix kind h 0]:=by
 intro hd;have h1:=hc.sub 0 1 (by simp);have h2:=hc.sub 1 2 (by simp);simp only[TT,Tm,TW,TV,Sf]at h1 h2;refine Ot Tryz.func291 rfl fun w0=>?_;simp only[Tryz.ntmps291,pt];apply RG;simp only[go_sem];refine Qz (l:=[_]) rfl (cellsU hd (.head _) h1) (.inr ⟨mF,rfl⟩) ?_;apply RG;simp only[go_sem];refine Qz (l:=[_,_]) (v:=.agg #[_,_]) rfl (cellsU hd (.head _) h2) (.inl ⟨oQ,rfl⟩) ?_;apply RG;simp only[go_sem,iv,sD,rD];refine dP hd (by exact cT) rfl rfl rfl rfl rfl (by decide) fun b A ac aa=>?_;apply RG;simp only[go_sem];refine ai rfl ac (r:=[_]) rfl (Uj _) ⟨A,rfl,_,aa,?_⟩;exact .one (aW.mk (n:=ix kind h 0) hr (Sl.nil _ _) jq)
theorem nU:aP Tryz.prog 83:=⟨_,Tryz.func83,rfl,rfl⟩
theorem wQ:aP Tryz.prog 144:=⟨_,Tryz.func144,rfl,rfl⟩
theorem BB:aP Tryz.prog 204:=⟨_,Tryz.func204,rfl,rfl⟩
section
variable {ts:List Tok} {f:ah}
end
def MW(ts:List Tok)(r:Syn.bE):Value->PH->List PH->Prop:=fun v I2 rs=>RN r v I2 rs/\FN ts.length r.f/\r.l.length<=aF
section
variable (pb:Nat) (ts:List Tok) (lv fv ov:Value)
def WF(fid o:Nat)(args:Value->Array Value)(f:ah)(r:Syn.bE):Prop:=
 ∀{I D:PH} {dv vf:Value} {e:List bX},vF I ts lv fv->du I vf f->FN ts.length f->dl I D dv e->e.length+r.e.length<=pY->
  aO Tryz.prog fid (args vf) I [sg pb (bD lv fv ov dv o),D] (PP pb lv fv ov o (e++r.e) (MW ts r))
def WH(fid o:Nat)(args:Value->Array Value)(h:ay)(r:Syn.bE):Prop:=
 ∀{I D:PH} {dv:Value} {a:Option Addr} {k:Nat} {e:List bX},vF I ts lv fv->iH ts h->cu I (.agg #[sD a k h.cond,rD h.cond]) h.cond->dl I D dv e->e.length+r.e.length<=pY->
  aO Tryz.prog fid (args (uh a k h)) I [sg pb (bD lv fv ov dv o),D] (PP pb lv fv ov o (e++r.e) (MW ts r))
def dU(fid:Nat):Value:=.func (.func fid) #[pt pb] #[]
def qS:Syn.Call->Syn.bE->Prop
 | .line k o f slot,r=>k<=5->o<=64->WF pb ts lv fv ov 144 o (fun vf=>#[pt pb,iv k,vf,iv slot]) f r
 | .unary o f slot,r=>o<=64->WF pb ts lv fv ov 220 o (fun vf=>#[pt pb,vf,iv slot]) f r
 | .inside o f slot,r=>o<=64->WF pb ts lv fv ov 270 o (fun vf=>#[pt pb,vf,iv slot]) f r
 | .listed par o f,r=>o<=64->WF pb ts lv fv ov 206 o (fun vf=>#[pt pb,vf,dU pb (if par then 207 else 83)]) f r
 | .behind typ o f sign slot,r=>o<=64->sign≠[]->WF pb ts lv fv ov 204 o (fun vf=>#[pt pb,vf,.string ⟨⟨sign⟩⟩,dU pb (if typ then 202 else 83),iv slot]) f r
 | .vrb o f,r=>o<=64->WF pb ts lv fv ov 137 o (fun vf=>#[pt pb,vf]) f r
 | .function o f,r=>o<=64->WF pb ts lv fv ov 139 o (fun vf=>#[pt pb,vf]) f r
 | .block o f slot,r=>o<=64->WF pb ts lv fv ov 208 o (fun vf=>#[pt pb,vf,iv slot]) f r
 | .stmt o h,r=>o<=64->WH pb ts lv fv ov 264 o (fun vh=>#[pt pb,vh]) h r
 | .branch o h slot,r=>o<=64->h.text≠[]->WH pb ts lv fv ov 292 o (fun vh=>#[pt pb,vh,iv slot]) h r
 |_,_=>True
def iE(n:Nat):Prop:=∀m,m<n->∀x r,run ts m x=some r->qS pb ts lv fv ov x r
end
section
variable {pb:Nat} {ts:List Tok} {lv fv ov:Value}
theorem mQ{o:Nat}(kind slot:Nat)(f:ah):WF pb ts lv fv ov 201 o (fun vf=>#[pt pb,vf,.int .u8 kind,iv slot]) f (named ts f kind slot):=by
 intro I D dv vf e h hf fn he hm;refine(Ju h hf fn he hm).mono fun v I2 qs _ hq=>?_;obtain⟨dv2,D2,rs,e1,e2,e3⟩:=hq;have:=iU h.ok fn kind slot;exact⟨dv2,D2,rs,e1,e2,e3,fL h.ok fn kind slot,by have:=h.len;unfold aF;omega⟩
theorem xh{o:Nat}(slot:Nat)(f:ah):WF pb ts lv fv ov 202 o (fun vf=>#[pt pb,vf,iv slot]) f (f8 ts f slot):=by
 intro I D dv vf e h hf fn he hm;refine(IY h hf fn he hm).mono fun v I2 qs _ hq=>?_;obtain⟨dv2,D2,rs,e1,e2,e3⟩:=hq;have:=Dm h.ok fn slot;exact⟨dv2,D2,rs,e1,e2,e3,oS h.ok fn slot,by have:=h.len;unfold aF;omega⟩
theorem n9{o slot:Nat}{f:ah}{r:Syn.bE}(hw:qS pb ts lv fv ov (.line 0 o f slot) r)(ho:o<=64):WF pb ts lv fv ov 83 o (fun vf=>#[pt pb,vf,iv slot]) f r:=by
 intro I D dv vf e h hf fn he hm hd;refine Ot Tryz.func83 rfl fun w0=>?_;simp only[Tryz.ntmps83,iv,pt];apply RG;simp only[go_sem];refine NB hd [0,1] rfl wQ (by rfl) (ps:=[sg pb _,D]) (F:=[]) rfl (hw (S6 _) ho h hf fn he hm) fun v I2 qs ac aa hq=>?_;obtain⟨dv2,D2,rs,rfl,hE,⟨A,B,va,vb,rfl,rfl,hA,hB⟩,hF⟩:=hq;simp only[SS,SU,Tq]at ac |-;apply RG;simp only[go_sem];exact ai rfl ac (r:=[va,vb]) rfl aa ⟨dv2,D2,[A,B],rfl,hE,⟨A,B,va,vb,rfl,rfl,hA,hB⟩,hF⟩
end
open Go Go.Sx Dg Syn
section
variable {pb:Nat} {ts:List Tok} {lv fv ov:Value}
theorem bt{n:Nat}{x:Syn.Call}{r:Syn.bE}(h:Syn.run ts n x=some r):∃m,n=m+1/\Syn.step ts (Syn.run ts m) x=some r:=by
 cases n with
 |zero=>cases h
 |succ m=>exact⟨m,rfl,h⟩
theorem bw{α β:Type}{a:Option α}{f:α->Option β}{q:β}(h:(a >>= f)=some q):∃x,a=some x/\f x=some q:=by
 cases a with
 |none=>cases h
 |some x=>exact⟨x,rfl,h⟩
theorem Lc{n m o slot:Nat}{typ:Bool}{g:ah}{a:Syn.bE}(ih:iE pb ts lv fv ov n)(hm:m<n)(ho:o<=64)(h:rq ts (Syn.run ts m) typ o g slot=some a):WF pb ts lv fv ov (if typ then 202 else 83) o (fun vf=>#[pt pb,vf,iv slot]) g a/\aP Tryz.prog (if typ then 202 else 83):=by
 cases typ
 ·exact⟨n9 (ih m hm _ _ h) ho,nU⟩
 ·cases h
  exact⟨xh slot g,wD⟩
def O5(pb slot:Nat)(rv vout vh:Value)(n:Nat)(x:Nat×Value):St:=⟨dn 52 [(0,.v (pt pb)),(3,.v rv),(4,.v (iv slot)),(13,.v vout),(14,.v x.2),(27,.v vh),(28,.v (iv n)),(29,.v (iv x.1))],[]⟩
def P3(pb:Nat)(lv fv ov dv:Value)(o:Nat)(J:ah->ay->ah)(z:ah)(hs:List ay)(Fr:List PH)(I0:PH)(x:Nat×Value)(H:PH):Prop:=
 ∃I A,H=U (I::sg pb (bD lv fv ov dv o)::A::Fr)/\Dj (I::sg pb (bD lv fv ov dv o)::A::Fr)/\I0.le I/\x.1<=hs.length/\gP I A x.2 ((hs.take x.1).foldl J z)
theorem GX{n:Nat}(ih:iE pb ts lv fv ov n){typ:Bool}{o:Nat}{f:ah}{sign:bM}{slot:Nat}{r:Syn.bE}(hr:Syn.run ts n (.behind typ o f sign slot)=some r):qS pb ts lv fv ov (.behind typ o f sign slot) r:=by
 obtain⟨m,rfl,hs⟩:=bt hr;have a1:Syn.behind ts (Syn.run ts m) typ o f sign slot=some r:=hs;unfold Syn.behind at a1;obtain⟨yes,out,cc⟩:∃yes out,aC ts f (bj sign)=(yes,out):=⟨_,_,rfl⟩;rw[cc]at a1;simp only at a1;obtain⟨a,ha,e⟩:=bw a1;cases e
 clear a1 hs hr;intro ho cf I D dv vf e h hf fn he hm hd;obtain⟨cA,c0⟩:=Lc ih (Tv m) ho ha;have hl:=h.len;refine Ot Tryz.func204 rfl fun w0=>?_;simp only[Tryz.ntmps204,iv,pt,dU];apply RG;simp only[go_sem];refine NB hd [0,1] rfl gy (by rfl) (ps:=[]) (F:=[sg pb _,D]) rfl (iz (s:=sign)) fun v I2 qs cp ap hq=>?_;obtain⟨rfl,ct⟩:=hq;simp only[SS,SU]at cp |-;obtain⟨fi,first,cap,rfl,gi,ci⟩:=id ct;apply RG;simp only[go_sem];refine NB cp [0,1] rfl gX (by rfl) (ps:=[sg pb _]) (F:=[D]) rfl (gT (h.le ap) (du.le hf ap) fn ct) fun v I3 qs cn b2 hq=>?_;obtain⟨A,B,va,vb,rfl,rfl,hA,hB⟩:=hq;simp only[SS,SU]at cn |-;have hY:=dH h.ok fn (is:=bj sign);have cr:=eR h.ok fn (bj sign);have bs:=cI h.ok fn (bj sign);rw[cc]at hA hB hY cr bs;simp only at hA hB hY cr bs;obtain⟨ya,yc,rfl⟩:=hA.shape;obtain⟨ba,bc,rfl⟩:=hB.shape;apply RG;simp only[go_sem];refine ab cn [1,0,2,3] rfl fun cm=>?_;simp only[Z4]at cm |-;refine ag cm fun I4 c2 ao dj=>?_;have c4:m9 I4 (.slice ya yes.length yc) yes:=Ow.sl (R:=jA) (fun{I J c a} h k=>jA.le h k) hA ao dj;refine aT c2 fun c1=>?_;refine ab c1 [1,0,2,3] rfl fun cl=>?_;simp only[Z4]at cl |-;refine aB (fun x=>yes.length-x.1) (O5 pb slot (dU pb (if typ then 202 else 83)) (.slice ba out.length bc) (.slice ya yes.length yc) yes.length) (P3 pb lv fv ov dv o joinH1 [] yes [B,D] I4) (0,.slice none 0 0) (ae (by simp only[go_sem,Tq,iv,pt,dU])) (by simp only[go_sem,Tq,O5]) ?_ ?_
 ·exact⟨I4,PH.no,rfl,cl,Uj _,S6 _,Ow.nil _ _ _ _⟩
 rintro⟨i,vat⟩ H ⟨I5,A5,rfl,b3,ak,hi,bd⟩ a2;simp only at hi bd;simp only[O5];have c6:m9 I5 (.slice ya yes.length yc) yes:=c4.le ak;have bb:FN ts.length ((yes.take i).foldl joinH1 []):=kg (fun x hx=>⟨(hY x (TA hx)).1,mN cf (hY x (TA hx)).1 (hY x (TA hx)).2⟩) (FN.nil _);have dx:=bb.len;rcases Sw i yes.length with cj|dw
 ·have bx:decide ((i:Int)<(yes.length:Int))=true:=by simp;omega
  have e1:=wrap64 (n:=i+1) (by omega);have ds:IntKind.i64.wrap ((i:Int)+1)=((i+1:Nat):Int):=by rw[<-e1];congr 1
  obtain⟨x,hx⟩:∃x,yes[i]?=some x:=⟨_,SC cj⟩;have cb:=hY x (Tg hx);have cy:=mN cf cb.1 cb.2;have e2:=wrap64 (n:=x.at'+1) (by omega);have dk:IntKind.i64.wrap ((x.at':Int)+1)=((x.at'+1:Nat):Int):=by rw[<-e2];congr 1
  obtain⟨b,off,cs,rfl,c3,a9⟩:=c6.load jA.len hx;obtain⟨xa,xk,rfl,b0⟩:=c3;have a0:=cE (g:=joinH1) (z:=[]) hx;obtain⟨ta,tc,rfl⟩:=bd.shape;apply RG;simp only[go_sem,bx,iv,pt,dU];refine⟨by omega,?_⟩;refine Qz (l:=[iv x.at',sD xa xk x.cond,rD x.cond,.int .u8 x.kind,.string ⟨⟨x.text⟩⟩]) (v:=.agg #[iv x.at',sD xa xk x.cond,rD x.cond,.int .u8 x.kind,.string ⟨⟨x.text⟩⟩]) rfl (cellsU b3 (.head _) a9) (.inl ⟨eS,rfl⟩) ?_;apply RG;simp only[go_sem,bx,iv,pt,sD,rD,dk];refine NB b3 [1,0,2,3] rfl df (by rfl) (ps:=[A5]) (F:=[sg pb _,B,D]) rfl (bo (a:=x.at'+1) bd b0 bb.ok.2 (fun t ht=>by have:=bb.le t ht;omega) (by omega) (by omega)) fun v I6 qs a3 b1 hq=>?_;obtain⟨A6,rfl,b6⟩:=hq;obtain⟨ta2,tc2,rfl⟩:=b6.shape;simp only[SS,SU]at a3 |-;apply RG;simp only[go_sem,iv,pt,sD,rD,ds];refine ab a3 [1,0,2,3] rfl fun am=>?_;simp only[Z4]at am |-;rw[show Syn.join ((yes.take i).foldl joinH1 []) (x.at'+1) x.cond=(yes.take (i+1)).foldl joinH1 [] from a0.symm]at b6 |-;exact a2 (i+1,.slice ta2 _ tc2) _ _ (by simp only;omega) (ae (by simp only[go_sem,Tq,iv,pt,dU])) (by simp only[go_sem,Tq,O5]) ⟨I6,A6,rfl,am,Ui ak b1,cj,b6⟩
 ·have cB:i=yes.length:=by omega
  subst cB;have bx:=Z6 yes.length;rw[Td]at bd bb;apply RG;simp only[go_sem,bx,iv,pt,dU];refine ab b3 [1,0,2,3] rfl fun a3=>?_;simp only[Z4]at a3 |-;refine ag a3 fun I6 am aj ca=>?_;have hG:du I6 vat (yes.foldl joinH1 []):=Ow.sl (R:=fP) (fun{I J c a} h k=>fP.le h k) bd aj ca;have aS:=Ui ap (Ui b2 (Ui ao (Ui ak aj)));apply RG;simp only[go_sem,iv,pt];refine NB am [0,2,1] rfl c0 (by rfl) (ps:=[sg pb _,D]) (F:=[B]) rfl (cA (h.le aS) hG bb (he.le aS) hm) fun v I7 qs a7 an hq=>?_;obtain⟨dv2,D2,rs,rfl,c8,⟨A7,B7,vl,vg,rfl,rfl,dd,dc⟩,cx,c5⟩:=hq;simp only[SS,SU]at a7 |-;apply RG;simp only[go_sem,iv,pt];refine ab a7 [3,0,1,2,4] rfl fun a6=>?_;simp only[Z4]at a6 |-;refine ag a6 fun I8 b4 aa b5=>?_;have c7:du I8 vg a.f:=Ow.sl (R:=fP) (fun{I J c a} h k=>fP.le h k) dc aa b5;have da:gP I8 B (.slice ba out.length bc) out:=(hB.le (Ui ao (Ui ak aj))).le (Ui an aa);refine NB b4 [3,0,1,2] rfl dp (by rfl) (ps:=[B]) (F:=[sg pb _,D2,A7]) rfl (b7 (N:=ts.length) (by omega) da bs c7 cx) fun v I9 qs a5 ac hq=>?_;obtain⟨B9,rfl,c9⟩:=hq;simp only[SS,SU]at a5 |-;apply RG;simp only[go_sem,iv,pt];refine ab a5 [1,2,3,0] rfl fun a4=>?_;simp only[Z4]at a4 |-;refine ai rfl a4 (r:=[vl,v]) rfl (Ui aS (Ui an (Ui aa ac))) ⟨dv2,D2,[A7,B9],rfl,c8.le (Ui aa ac),⟨A7,B9,vl,v,rfl,rfl,dd.le (Ui aa ac),c9⟩,bs.joinAll cx,c5⟩
end
open Go Go.Sx Dg Syn
theorem Ij:aP Tryz.prog 207:=⟨_,Tryz.func207,rfl,rfl⟩
theorem Bv:aP Tryz.prog 137:=⟨_,Tryz.func137,rfl,rfl⟩
theorem HU:aP Tryz.prog 139:=⟨_,Tryz.func139,rfl,rfl⟩
theorem wE:aP Tryz.prog 206:=⟨_,Tryz.func206,rfl,rfl⟩
theorem pp:aP Tryz.prog 208:=⟨_,Tryz.func208,rfl,rfl⟩
section
variable {pb:Nat} {ts:List Tok} {lv fv ov:Value}
theorem ce{l ks r:List Nd}(h:gv l ks=some r):∀n∈l,n.kids.length+ks.length<=aF:=by
 unfold gv at h;split at h
 ·rename_i h2;intro n hn;simpa using List.all_eq_true.1 h2 n hn
 ·cases h
theorem bI(l ks:List Nd):(give l ks).length=l.length:=by simp[give]
theorem br.sl{I J A:PH}{v:Value}{l:List Nd}(h:br I A v l)(h1:I.le J)(h2:A.le J):db J v l:=Ow.sl (R:=aW) (fun{I J c a} h k=>aW.le h k) h h1 h2
theorem gP.sl{I J A:PH}{v:Value}{l:ah}(h:gP I A v l)(h1:I.le J)(h2:A.le J):du J v l:=Ow.sl (R:=fP) (fun{I J c a} h k=>fP.le h k) h h1 h2
theorem L4.sl{I J A:PH}{v:Value}{l:List ay}(h:L4 I A v l)(h1:I.le J)(h2:A.le J):m9 J v l:=Ow.sl (R:=jA) (fun{I J c a} h k=>jA.le h k) h h1 h2
theorem IM{o:Nat}{f:ah}{r:Syn.bE}(rec:Syn.oR)(hr:Syn.item ts rec true o f=some r):WF pb ts lv fv ov 207 o (fun vf=>#[pt pb,vf,iv 0]) f r:=by
 unfold Syn.item at hr;simp only[R9]at hr;obtain⟨g,e1,ht⟩:∃g e1,Syn.take ts (named ts f 4 0).f bS=(g,e1):=⟨_,_,rfl⟩;rw[ht]at hr;simp only at hr;obtain⟨l,hg,e⟩:=bw hr;cases e
 have bb:=bg hg;have bc:=ce hg;subst bb;clear hg hr;intro I D dv vf e h hf fn he hm hd;have hl:=h.len;have tne:bS≠[]:=by decide
 have nl:=iU h.ok fn 4 0;have nf:=fL h.ok fn 4 0;have tf:=cN h.ok nf tne;rw[ht]at tf;simp only[Tu]at hm;refine Ot Tryz.func207 rfl fun w0=>?_;simp only[Tryz.ntmps207,iv,pt];apply RG;simp only[go_sem];refine NB hd [0,1] rfl mC (by rfl) (ps:=[sg pb _,D]) (F:=[]) rfl (mQ (kind:=4) (slot:=0) (f:=f) h hf fn he (by omega)) fun v I2 qs ba an hq=>?_;obtain⟨dv2,D2,rs,rfl,b4,⟨A2,B2,va2,vb2,rfl,rfl,cj,cb⟩,_,_⟩:=hq;simp only[SS,SU,Tq]at ba |-;apply RG;simp only[go_sem];refine ab ba [3,0,1,2] rfl fun a9=>?_;simp only[Z4]at a9 |-;refine ag a9 fun I3 bs aj ca=>?_;have b1:du I3 vb2 _:=cb.sl aj ca;have k3:=Ui an aj;apply RG;simp only[go_sem];refine NB bs [0,1,2] rfl fQ (by rfl) (ps:=[sg pb _,D2]) (F:=[A2]) rfl (ii (s:=bS) (h.le k3) b1 nf tne (b4.le aj) (by rw[ht];simp only[Tu];omega)) fun v I4 qs a7 am hq=>?_;obtain⟨dv4,D4,rs,rfl,a1,B4,rfl,a2⟩:=hq;rw[ht]at a1 a2;simp only at a1 a2;simp only[SS,SU,Tq]at a7 |-;apply RG;simp only[go_sem];refine ab a7 [2,0,1,3] rfl fun a6=>?_;simp only[Z4]at a6 |-;refine ag a6 fun I5 bd ac b6=>?_;have b0:du I5 v g:=a2.sl ac b6;have k5:=Ui k3 (Ui am ac);apply RG;simp only[go_sem];refine NB bd [0,1,2] rfl wD (by rfl) (ps:=[sg pb _,D4]) (F:=[A2]) rfl (xh (slot:=0) (f:=g) (h.le k5) b0 tf (a1.le ac) (by simp only[Tu];omega)) fun v I6 qs a5 aS hq=>?_;obtain⟨dv6,D6,rs,rfl,b3,⟨A6,B6,va6,vb6,rfl,rfl,ci,b5⟩,b2,_⟩:=hq;simp only[SS,SU,Tq]at a5 |-;apply RG;simp only[go_sem];refine ab a5 [2,0,1,3,4] rfl fun a4=>?_;simp only[Z4]at a4 |-
 refine ag a4 fun I7 a0 aa cf=>?_;have bx:db I7 va6 _:=ci.sl aa cf;have a3:=Ui aj (Ui am (Ui ac (Ui aS aa)));apply RG;simp only[go_sem];refine NB a0 [3,0,1,2] rfl eQ (by rfl) (ps:=[A2]) (F:=[sg pb _,D6,B6]) rfl (ge (cj.le a3) bx (by unfold aF;omega) bc) fun v I8 qs ap ak hq=>?_;obtain⟨A8,rfl,cc⟩:=hq;simp only[SS,SU,Tq]at ap |-;apply RG;simp only[go_sem];refine ab ap [1,2,0,3] rfl fun ao=>?_;simp only[Z4]at ao |-;refine ai rfl ao (r:=[v,vb6]) rfl (Ui an (Ui a3 ak)) ⟨dv6,D6,[A8,B6],rfl,?_,⟨A8,B6,v,vb6,rfl,rfl,cc,b5.le (Ui aa ak)⟩,b2,by simp only[bI];unfold aF;omega⟩;have:=b3.le (Ui aa ak);simpa[Te]using this
theorem AG{n:Nat}(ih:iE pb ts lv fv ov n){o:Nat}{f:ah}{r:Syn.bE}(hr:Syn.run ts n (.vrb o f)=some r):qS pb ts lv fv ov (.vrb o f) r:=by
 obtain⟨m,rfl,hs⟩:=bt hr;have a2:Syn.ig ts (Syn.run ts m) o f=some r:=hs;unfold Syn.ig at a2;simp only at a2;obtain⟨g1,e1,ht⟩:∃g e1,Syn.take ts (named ts f 2 0).f bS=(g,e1):=⟨_,_,rfl⟩;rw[ht]at a2;simp only at a2;obtain⟨c,hc,cx⟩:=bw a2;obtain⟨l1,b5,ct⟩:=bw cx;obtain⟨l2,b4,b0⟩:=bw ct;obtain⟨g2,e2,bx⟩:∃g e1,Syn.take ts c.f bl=(g,e1):=⟨_,_,rfl⟩;rw[bx]at b0;simp only at b0;cases b0
 have b3:=ce b5;have b2:=ce b4;obtain rfl:=bg b5;obtain rfl:=bg b4;clear a2 cx ct hs hr b5 b4;intro ho I D dv vf e h hf fn he hm hd;have hl:=h.len;have tne:bS≠[]:=by decide
 have tne2:bl≠[]:=by decide
 have nl:=iU h.ok fn 2 0;have nf:=fL h.ok fn 2 0;have tf:=cN h.ok nf tne;rw[ht]at tf;simp only[Tu]at hm;refine Ot Tryz.func137 rfl fun w0=>?_;simp only[Tryz.ntmps137,iv,pt];apply RG;simp only[go_sem];refine NB hd [0,1] rfl mC (by rfl) (ps:=[sg pb _,D]) (F:=[]) rfl (mQ (kind:=2) (slot:=0) (f:=f) h hf fn he (by omega)) fun v I2 qs c2 b1 hq=>?_;obtain⟨dv2,D2,rs,rfl,dk,⟨A2,B2,va2,vb2,rfl,rfl,d2,dI⟩,_,_⟩:=hq;simp only[SS,SU,Tq]at c2 |-;apply RG;simp only[go_sem];refine ab c2 [3,0,1,2] rfl fun c1=>?_;simp only[Z4]at c1 |-;refine ag c1 fun I3 c6 am dA=>?_;have da:du I3 vb2 _:=dI.sl am dA;have k3:=Ui b1 am;apply RG;simp only[go_sem];refine NB c6 [0,1,2] rfl fQ (by rfl) (ps:=[sg pb _,D2]) (F:=[A2]) rfl (ii (s:=bS) (h.le k3) da nf tne (dk.le am) (by rw[ht];simp only[Tu];omega)) fun v I4 qs c0 a4 hq=>?_;obtain⟨dv4,D4,rs,rfl,cj,B4,rfl,cl⟩:=hq;rw[ht]at cj cl;simp only at cj cl;simp only[SS,SU,Tq]at c0 |-;apply RG;simp only[go_sem];refine ab c0 [2,0,1,3] rfl fun cB=>?_;simp only[Z4]at cB |-;refine ag cB fun I5 c5 ak dy=>?_;have c9:du I5 v g1:=cl.sl ak dy;have k5:=Ui k3 (Ui a4 ak);apply RG;simp only[go_sem];refine NB c5 [0,1,2] rfl wD (by rfl) (ps:=[sg pb _,D4]) (F:=[A2]) rfl (xh (slot:=0) (f:=g1) (h.le k5) c9 tf (cj.le ak) (by simp only[Tu];omega)) fun v I6 qs cA a3 hq=>?_;obtain⟨dv6,D6,rs,rfl,dj,⟨A6,B6,va6,vb6,rfl,rfl,d1,dx⟩,dc,_⟩:=hq;simp only[SS,SU,Tq]at cA |-;apply RG;simp only[go_sem];refine ab cA [2,0,1,3,4] rfl fun cy=>?_;simp only[Z4]at cy |-
 refine ag cy fun I7 cc ac d0=>?_;have c7:db I7 va6 _:=d1.sl ac d0;refine ab cc [2,0,1,3] rfl fun bs=>?_;simp only[Z4]at bs |-;refine ag bs fun I8 cb aa dw=>?_;have c8:du I8 vb6 _:=dx.sl (Ui ac aa) dw;have k8:=Ui k5 (Ui a3 (Ui ac aa));apply RG;simp only[go_sem];refine NB cb [0,1,2] rfl BB (by rfl) (ps:=[sg pb _,D6]) (F:=[A2]) rfl (ih m (Tv m) _ _ hc ho (by decide) (h.le k8) c8 dc (dj.le (Ui ac aa)) (by simp only[Tu];omega)) fun v I9 qs bd aS hq=>?_;obtain⟨dv9,D9,rs,rfl,dd,⟨A9,B9,va9,vb9,rfl,rfl,dT,ds⟩,c3,_⟩:=hq;simp only[SS,SU,Tq]at bd |-;have c4:=Ui am (Ui a4 (Ui ak (Ui a3 (Ui ac (Ui aa aS)))));apply RG;simp only[go_sem];refine NB bd [4,0,1,2,3] rfl eQ (by rfl) (ps:=[A2]) (F:=[sg pb _,D9,A9,B9]) rfl (ge (d2.le c4) (db.le c7 (Ui aa aS)) (by unfold aF;omega) b3) fun v d7 qs bc ap hq=>?_;obtain⟨A10,rfl,cr⟩:=hq;simp only[SS,SU,Tq]at bc |-;apply RG;simp only[go_sem];refine ab bc [3,0,1,2,4] rfl fun bb=>?_;simp only[Z4]at bb |-;refine ag bb fun d4 ca aj cp=>?_;have cf:db d4 va9 _:=dT.sl (Ui ap aj) cp;apply RG;simp only[go_sem];refine NB ca [0,1,2,3] rfl eQ (by rfl) (ps:=[A10]) (F:=[sg pb _,D9,B9]) rfl (ge (cr.le aj) cf (by rw[bI];unfold aF;omega) b2) fun v d6 qs ba a5 hq=>?_;obtain⟨A12,rfl,cn⟩:=hq;simp only[SS,SU,Tq]at ba |-;apply RG;simp only[go_sem];refine ab ba [3,0,1,2] rfl fun a9=>?_;simp only[Z4]at a9 |-
 refine ag a9 fun d3 b6 ao cm=>?_;have k913:=Ui ap (Ui aj (Ui a5 ao));have ci:du d3 vb9 _:=ds.sl k913 cm;have cs:=Ui k8 (Ui aS k913);apply RG;simp only[go_sem];refine NB b6 [1,2,0] rfl fQ (by rfl) (ps:=[sg pb _,D9]) (F:=[A12]) rfl (ii (s:=bl) (h.le cs) ci c3 tne2 (dd.le k913) (by rw[bx];simp only[Tu];omega)) fun v2 d5 qs a7 an hq=>?_;obtain⟨dv14,D14,rs,rfl,a0,B14,rfl,a1⟩:=hq;rw[bx]at a0 a1;simp only at a0 a1;simp only[SS,SU,Tq]at a7 |-;apply RG;simp only[go_sem];refine ab a7 [0,1,3,2] rfl fun a6=>?_;simp only[Z4]at a6 |-;have tf2:=cN h.ok c3 tne2;rw[bx]at tf2;refine ai rfl a6 (r:=[v,v2]) rfl (Ui cs an) ⟨dv14,D14,[A12,B14],rfl,?_,⟨A12,B14,v,v2,rfl,rfl,cn.le (Ui ao an),a1⟩,tf2,by simp only[bI];unfold aF;omega⟩;simpa[Te]using a0
theorem Ae{n:Nat}(ih:iE pb ts lv fv ov n){o:Nat}{f:ah}{r:Syn.bE}(hr:Syn.run ts n (.function o f)=some r):qS pb ts lv fv ov (.function o f) r:=by
 obtain⟨m,rfl,hs⟩:=bt hr;have bd:Syn.function ts (Syn.run ts m) o f=some r:=hs;unfold Syn.function at bd;simp only at bd;obtain⟨b,hb,cy⟩:=bw bd;obtain⟨c,hc,cx⟩:=bw cy;obtain⟨d,c4,ct⟩:=bw cx;obtain⟨l1,b4,cs⟩:=bw ct;obtain⟨l2,b3,cr⟩:=bw cs;obtain⟨l3,b2,c3⟩:=bw cr;cases c3
 have b1:=ce b4;have b0:=ce b3;have bx:=ce b2;obtain rfl:=bg b4;obtain rfl:=bg b3;obtain rfl:=bg b2;clear bd cy cx ct cs cr hs hr b4 b3 b2;intro ho I D dv vf e h hf fn he hm hd;have hl:=h.len;have nl:=iU h.ok fn 3 0;have nf:=fL h.ok fn 3 0;simp only[Tu]at hm;refine Ot Tryz.func139 rfl fun w0=>?_;simp only[Tryz.ntmps139,iv,pt];apply RG;simp only[go_sem];refine NB hd [0,1] rfl mC (by rfl) (ps:=[sg pb _,D]) (F:=[]) rfl (mQ (kind:=3) (slot:=0) (f:=f) h hf fn he (by omega)) fun v I2 qs c2 bs hq=>?_;obtain⟨dv2,D2,rs,rfl,dx,⟨A2,B2,va2,vb2,rfl,rfl,d6,d1⟩,_,_⟩:=hq;simp only[SS,SU,Tq]at c2 |-;apply RG;simp only[go_sem];refine ab c2 [3,0,1,2] rfl fun c1=>?_;simp only[Z4]at c1 |-;refine ag c1 fun I3 c7 ap d0=>?_;have dd:du I3 vb2 _:=d1.sl ap d0;have k3:=Ui bs ap;apply RG;simp only[go_sem];refine NB c7 [0,1,2] rfl wE (by rfl) (ps:=[sg pb _,D2]) (F:=[A2]) rfl (ih m (Tv m) _ _ hb ho (h.le k3) dd nf (dx.le ap) (by simp only[Tu];omega)) fun v I4 qs c0 a1 hq=>?_;obtain⟨dv4,D4,rs,rfl,dw,⟨A4,B4,va4,vb4,rfl,rfl,d5,dT⟩,dk,_⟩:=hq;simp only[SS,SU,Tq]at c0 |-;apply RG;simp only[go_sem];refine ab c0 [2,0,1,3,4] rfl fun cB=>?_;simp only[Z4]at cB |-;refine ag cB fun I5 c6 an d4=>?_;have c9:db I5 va4 _:=d5.sl an d4;refine ab c6 [2,0,1,3] rfl fun cA=>?_;simp only[Z4]at cA |-;refine ag cA fun I6 c5 am dI=>?_;have dc:du I6 vb4 _:=dT.sl (Ui an am) dI;have k6:=Ui k3 (Ui a1 (Ui an am));apply RG;simp only[go_sem]
 refine NB c5 [0,1,2] rfl BB (by rfl) (ps:=[sg pb _,D4]) (F:=[A2]) rfl (ih m (Tv m) _ _ hc ho (by decide) (h.le k6) dc dk (dw.le (Ui an am)) (by simp only[Tu];omega)) fun v I7 qs bc a0 hq=>?_;obtain⟨dv7,D7,rs,rfl,ds,⟨A7,B7,va7,vb7,rfl,rfl,d3,dA⟩,dj,_⟩:=hq;simp only[SS,SU,Tq]at bc |-;apply RG;simp only[go_sem];refine ab bc [2,0,1,3,4] rfl fun bb=>?_;simp only[Z4]at bb |-;refine ag bb fun I8 ca ak d2=>?_;have c8:db I8 va7 _:=d3.sl ak d2;refine ab ca [2,0,1,3] rfl fun ba=>?_;simp only[Z4]at ba |-;refine ag ba fun I9 b6 aj dy=>?_;have da:du I9 vb7 _:=dA.sl (Ui ak aj) dy;have k9:=Ui k6 (Ui a0 (Ui ak aj));apply RG;simp only[go_sem];refine NB b6 [0,1,2] rfl pp (by rfl) (ps:=[sg pb _,D7]) (F:=[A2]) rfl (ih m (Tv m) _ _ c4 ho (h.le k9) da dj (ds.le (Ui ak aj)) (by simp only[Tu];omega)) fun v ec qs a9 ac hq=>?_;obtain⟨dv10,D10,rs,rfl,cf,⟨A10,B10,va10,vb10,rfl,rfl,cp,ci⟩,cc,_⟩:=hq;simp only[SS,SU,Tq]at a9 |-;apply RG;simp only[go_sem];refine ab a9 [2,0,1,3,4] rfl fun a7=>?_;simp only[Z4]at a7 |-;refine ag a7 fun d7 b5 aa cn=>?_;have cb:db d7 va10 _:=cp.sl aa cn;have k210:=Ui ap (Ui a1 (Ui an (Ui am (Ui a0 (Ui ak (Ui aj (Ui ac aa)))))));have k611:=Ui am (Ui a0 (Ui ak (Ui aj (Ui ac aa))));have k911:=Ui aj (Ui ac aa);apply RG;simp only[go_sem]
 refine NB b5 [3,0,1,2] rfl eQ (by rfl) (ps:=[A2]) (F:=[sg pb _,D10,B10]) rfl (ge (d6.le k210) (db.le c9 k611) (by unfold aF;omega) b1) fun v eb qs a6 ao hq=>?_;obtain⟨A12,rfl,cm⟩:=hq;simp only[SS,SU,Tq]at a6 |-;apply RG;simp only[go_sem];refine NB a6 [0,1,2,3] rfl eQ (by rfl) (ps:=[A12]) (F:=[sg pb _,D10,B10]) rfl (ge cm (db.le c8 (Ui k911 ao)) (by rw[bI];unfold aF;omega) b0) fun v ea qs a5 aS hq=>?_;obtain⟨A13,rfl,cl⟩:=hq;simp only[SS,SU,Tq]at a5 |-;apply RG;simp only[go_sem];refine NB a5 [0,1,2,3] rfl eQ (by rfl) (ps:=[A13]) (F:=[sg pb _,D10,B10]) rfl (ge cl (db.le cb (Ui ao aS)) (by rw[bI,bI];unfold aF;omega) bx) fun v d9 qs a4 a2 hq=>?_;obtain⟨A14,rfl,cj⟩:=hq;simp only[SS,SU,Tq]at a4 |-;apply RG;simp only[go_sem];refine ab a4 [1,2,0,3] rfl fun a3=>?_;simp only[Z4]at a3 |-;have k1114:=Ui aa (Ui ao (Ui aS a2));refine ai rfl a3 (r:=[v,vb10]) rfl (Ui k9 (Ui ac k1114)) ⟨dv10,D10,[A14,B10],rfl,?_,⟨A14,B10,v,vb10,rfl,rfl,cj,ci.le k1114⟩,cc,by simp only[bI];unfold aF;omega⟩;simpa[Te]using cf.le k1114
end
open Go Go.Sx Dg Syn
theorem wA:aP Tryz.prog 270:=⟨_,Tryz.func270,rfl,rfl⟩
def NE(g:ay->Option Syn.bE)(r:Syn.bE)(h:ay):Option Syn.bE:=match g h with
 |some x=>if (r.l++x.l).length<=aF then some ⟨r.l++x.l,Syn.joinAll r.f x.f,r.e++x.e⟩else none
 |none=>none
theorem ru(ts:List Tok)(f:ah)(g:ay->Option Syn.bE):bY ts f g=jr (NE g) ⟨[],[],[]⟩ (bk ts f):=rfl
theorem l7{g:ay->Option Syn.bE}{r r':Syn.bE}{h:ay}(e:NE g r h=some r'):∃x,g h=some x/\(r.l++x.l).length<=aF/\r'=⟨r.l++x.l,Syn.joinAll r.f x.f,r.e++x.e⟩:=by
 unfold NE at e;split at e
 ·rename_i x hx;split at e
  ·rename_i hl;cases e
   exact⟨x,hx,hl,rfl⟩
  ·cases e
 ·cases e
theorem sK{α β:Type}{g:α->β->Option α}{z r:α}{x:β}{l:List β}(e:jr g z (x::l)=some r):∃z',g z x=some z'/\jr g z' l=some r:=by
 unfold jr at e;split at e
 ·rename_i b hb;exact⟨b,hb,e⟩
 ·cases e
theorem ls{α β:Type}{g:α->β->Option α}{z r:α}{l:List β}{i:Nat}{x:β}(hx:l[i]?=some x)(e:jr g z (l.drop i)=some r):∃z',g z x=some z'/\jr g z' (l.drop (i+1))=some r:=by
 have aa:i<l.length:=by
  rcases Sw i l.length with h|h
  ·exact h
  ·rw[SF h]at hx;cases hx
 have hd:l.drop i=x::l.drop (i+1):=by
  rw[S5 aa];rw[SC aa]at hx;rw[Tk hx]
 rw[hd]at e;exact sK e
theorem s7{g:ay->Option Syn.bE}:∀{l:List ay} {z r:Syn.bE},jr (NE g) z l=some r->z.e.length<=r.e.length
 | [],z,r,e=>by cases e;exact R7 _
 |x::l,z,r,e=>by
  obtain⟨z',h1,h2⟩:=sK e;obtain⟨y,_,_,rfl⟩:=l7 h1;have:=s7 h2;simp only[Tu]at this;omega
theorem iq(o:Nat)(h:o<=64):IntKind.i64.wrap (((o+1:Nat):Int)-1)=(o:Int):=by
 have:=bQ (a:=o+1) (b:=1) (by omega) (by omega);rw[show ((1:Nat):Int)=1 from rfl]at this;rw[this];omega
section
variable {pb:Nat} {ts:List Tok} {lv fv ov:Value}
def Pd(pb:Nat)(ts:List Tok)(lv fv ov:Value)(o:Nat)(hs:List ay)(g:ay->Option Syn.bE)(r:Syn.bE)(e:List bX)(I0:PH)(x:Nat×Value×Value×Value)(H:PH):Prop:=
 ∃I D A B ri,H=U [I,sg pb (bD lv fv ov x.2.2.2 o),D,A,B]/\Dj [I,sg pb (bD lv fv ov x.2.2.2 o),D,A,B]/\I0.le I/\x.1<=hs.length/\jr (NE g) ri (hs.drop x.1)=some r/\dl I D x.2.2.2 (e++ri.e)/\br I A x.2.1 ri.l/\gP I B x.2.2.1 ri.f/\FN ts.length ri.f/\ri.l.length<=aF
def MX(pb slot:Nat)(vh:Value)(n:Nat)(x:Nat×Value×Value×Value):St:=⟨dn 63 [(0,.v (pt pb)),(2,.v (iv slot)),(8,.v x.2.1),(9,.v x.2.2.1),(16,.v vh),(17,.v (iv n)),(18,.v (iv x.1))],[]⟩
theorem GC{n:Nat}(ih:iE pb ts lv fv ov n){o:Nat}{f:ah}{slot:Nat}{r:Syn.bE}(hr:Syn.run ts n (.inside o f slot)=some r):qS pb ts lv fv ov (.inside o f slot) r:=by
 obtain⟨m,rfl,hs⟩:=bt hr;have c6:bY ts f (jE ts (Syn.run ts m) o slot)=some r:=hs;rw[ru]at c6;clear hs hr;intro ho I D dv vf e h hf fn he hm hd;have hl:=h.len;refine Ot Tryz.func270 rfl fun w0=>?_;simp only[Tryz.ntmps270,iv,pt];apply RG;simp only[go_sem];refine NB hd [0,1] rfl iS rfl (ps:=[sg pb _]) (F:=[D]) rfl (iN h hf fn) fun v I2 qs c9 a1 hq=>?_;obtain⟨rfl,hH⟩:=hq;obtain⟨ha,hc,rfl,_⟩:=id hH;simp only[SS,SU]at c9 |-;apply RG;simp only[go_sem,iv];have hN:∀x∈bk ts f,iH ts x:=fun x hx=>bz h.ok fn hx;have ec:=dZ h.ok fn;have d1:=hH;generalize bk ts f=ao at *;refine aT c9 fun dy=>?_;refine aT dy fun dx=>?_;refine ab dx [2,3,0,1] rfl fun c8=>?_;simp only[Z4]at c8 |-;refine aB (fun x=>ao.length-x.1) (MX pb slot (.slice ha ao.length hc) ao.length) (Pd pb ts lv fv ov o ao (jE ts (Syn.run ts m) o slot) r e I2) (0,.slice none 0 0,.slice none 0 0,dv) (ae (by simp only[go_sem,Tq,iv,pt])) (by simp only[go_sem,Tq,MX]) ?_ ?_
 ·exact⟨I2,D,PH.no,PH.no,⟨[],[],[]⟩,rfl,c8,Uj _,S6 _,c6,by simpa using dl.le he a1,Ow.nil _ _ _ _,Ow.nil _ _ _ _,FN.nil _,S6 _⟩
 rintro⟨i,va,vb,dv⟩ H ⟨I3,D3,A3,B3,ri,rfl,bd,aj,ds,cf,hE,hA,hB,b5,ci⟩ ap;simp only at ds cf hE hA hB;simp only[MX];have d0:m9 I3 (.slice ha ao.length hc) ao:=d1.le aj;rcases Sw i ao.length with cc|ed
 ·have ca:decide ((i:Int)<(ao.length:Int))=true:=by simp;omega
  have e1:=wrap64 (n:=i+1) (by omega);have cj:IntKind.i64.wrap ((i:Int)+1)=((i+1:Nat):Int):=by rw[<-e1];congr 1
  obtain⟨x,hx⟩:∃x,ao[i]?=some x:=⟨_,SC cc⟩;have dc:=Tg hx;have cb:=hN x dc;obtain⟨b,off,cs,rfl,dA,b4⟩:=d0.load jA.len hx;obtain⟨xa,xk,rfl,a6⟩:=dA;obtain⟨r',dd,a3⟩:=ls hx cf;have a2:=s7 a3;obtain⟨y,hy,cm,rfl⟩:=l7 dd;have h3:=h.le (Ui a1 aj);simp only[Tu]at a2 cm;apply RG;simp only[go_sem,ca,iv,pt];refine⟨by omega,?_⟩;refine Qz (l:=[iv x.at',sD xa xk x.cond,rD x.cond,.int .u8 x.kind,.string ⟨⟨x.text⟩⟩]) (v:=.agg #[iv x.at',sD xa xk x.cond,rD x.cond,.int .u8 x.kind,.string ⟨⟨x.text⟩⟩]) rfl (cellsU bd (.head _) b4) (.inl ⟨eS,rfl⟩) ?_;unfold jE at hy;by_cases bc:x.text=hZ
  ·have c5:(x.text == [40])=true:=by rw[bc];decide
   rw[Sb (by simp[bc])]at hy;apply RG;simp only[go_sem,ca,iv,pt,sD,rD,c5,Ud];by_cases a7:o=64
   ·rw[SI a7]at hy;cases hy
    subst a7;refine NB bd [0,1,2,3] rfl gz (by rfl) (ps:=[sg pb _,D3]) (F:=[A3,B3]) rfl (ke h3 cb.le a6 hE (by simp[bR]at a2 |-;omega)) fun v I4 qs a5 aa hq=>?_;obtain⟨dv2,D4,rs,rfl,c1,rfl,rfl⟩:=hq;simp only[SS,SU]at a5 |-;apply RG;simp only[go_sem,iv,pt,sD,rD,cj,T7];exact ap (i+1,va,vb,dv2) _ _ (by simp only;omega) (ae (by simp only[go_sem,Tq,iv,pt])) (by simp only[go_sem,Tq,MX]) ⟨I4,D4,A3,B3,_,rfl,a5,Ui aj aa,cc,a3,by simp only;rw[<-Te];exact c1,by simpa using hA.le aa,hB.le aa,b5,by simpa using ci⟩
   ·rw[Sb a7]at hy;obtain⟨a,dI,cn⟩:=bw hy;obtain⟨g,e2,ht⟩:∃g e1,Syn.take ts a.f iI=(g,e1):=⟨_,_,rfl⟩;rw[ht]at cn;simp only at cn;cases cn
    have cp:=cb.lt (.inl (by rw[bc];decide));have d9:=wrap64 (n:=x.at'+1) (by omega);have e2'':IntKind.i64.wrap ((x.at':Int)+1)=((x.at'+1:Nat):Int):=by rw[<-d9];congr 1
    refine NB bd [0,1,2,3] rfl gz (by rfl) (ps:=[sg pb _]) (F:=[D3,A3,B3]) rfl (iV (h:=x) (a:=xa) (k:=xk) (by omega)) fun v I4 qs a5 aa hq=>?_;obtain⟨rfl,rfl,rfl⟩:=hq;simp only[SS,SU]at a5 |-;apply RG;simp only[go_sem,iv,pt,sD,rD,cj,e2'',Ud];refine av a5 (by exact gY) rfl rfl rfl rfl rfl (by decide) fun nb I5 dw a0 dj=>?_;have d5:du I5 (.slice (some ⟨nb,0,none⟩) 1 1) (bh x):=⟨_,_,rfl,.inr ⟨nb,0,[iv (x.at'+1),sD xa xk x.cond,rD x.cond],rfl,az dj (by simp[aE,Value.cells]) (by simp[aE,Value.cells,iv,sD,rD]),.one ⟨_,_,rfl,a6.le a0⟩⟩⟩;apply RG;simp only[go_sem,iv,pt,sD,rD];simp only[Te,Tu]at a2 hm cm;refine NB dw [0,1,2,3] rfl nU (by rfl) (ps:=[sg pb _,D3]) (F:=[A3,B3]) rfl (n9 (ih m (Tv m) _ _ dI) (by omega) (h3.le a0) d5 (bm cb cp) (hE.le a0) (by simp only[Tu];omega)) fun v I6 qs c7 cr hq=>?_;obtain⟨dv6,D6,rs,rfl,d3,⟨A6,B6,va6,vb6,rfl,rfl,d7,d4⟩,da,ee⟩:=hq;simp only[SS,SU]at c7 |-;apply RG;simp only[go_sem,iv,pt,sD,rD];refine ab c7 [2,0,1,3,4,5] rfl fun b3=>?_;simp only[Z4]at b3 |-;refine ag b3 fun I7 cB an c4=>?_;have dT:db I7 va6 a.l:=d7.sl an c4;refine ab cB [3,0,1,2,4] rfl fun b2=>?_;simp only[Z4]at b2 |-;have cl:=Ui a0 (Ui cr an);unfold aF at cm ci;refine aY b2 (by exact cT) (hA.le cl) dT (fun{I J c a} h k=>aW.le h k) (fun{I} c a h=>aW.len c a h) (fun{I} c a h=>aW.ones h) rfl rfl rfl rfl (by omega) (by unfold maxLen;omega) fun na nc I8 A8 cA am d6=>?_;apply RG;simp only[go_sem,iv,pt,sD,rD];refine ab cA [3,0,1,2,4] rfl fun b1=>?_;simp only[Z4]at b1 |-;refine ag b1 fun I9 cy ac c3=>?_
    have d2:du I9 vb6 a.f:=d4.sl (Ui an (Ui am ac)) c3;have k9:=Ui a1 (Ui aj (Ui cl (Ui am ac)));refine NB cy [1,2,0,3] rfl fQ (by rfl) (ps:=[sg pb _,D6]) (F:=[A8,B3]) rfl (ii (s:=iI) (h.le k9) d2 da (by decide) (d3.le (Ui an (Ui am ac))) (by rw[ht];simp only[Tu];omega)) fun v ef qs b0 a4 hq=>?_;obtain⟨dv10,D10,rs,rfl,ba,B10,rfl,bb⟩:=hq;rw[ht]at ba bb;have tf:=cN h.ok da (s:=iI) (by decide);rw[ht]at tf;simp only at ba bb tf;simp only[SS,SU]at b0 |-;apply RG;simp only[go_sem,iv,pt,sD,rD];refine ab b0 [2,0,1,3,4] rfl fun bx=>?_;simp only[Z4]at bx |-;refine ag bx fun eb cx ak c2=>?_;have c0:du eb v g:=bb.sl ak c2;have k311:=Ui cl (Ui am (Ui ac (Ui a4 ak)));refine NB cx [3,0,1,2] rfl dp (by rfl) (ps:=[B3]) (F:=[sg pb _,D10,A8]) rfl (b7 (N:=ts.length) (by omega) (hB.le k311) b5 c0 tf) fun v ea qs a9 aS hq=>?_;obtain⟨B12,rfl,b6⟩:=hq;simp only[SS,SU]at a9 |-;apply RG;simp only[go_sem,iv,pt,sD,rD];refine Qz (l:=[.int .i64 ((o+1:Nat):Int)]) rfl (cellsU a9 (.tail _ (.tail _ (.head _))) (aU (by simp[bD]) rfl)) (.inr ⟨mF,rfl⟩) ?_;apply RG;simp only[go_sem,iv,pt,sD,rD,iq o ho];refine ab a9 [1,2,3,0] rfl fun bs=>?_;simp only[Z4]at bs |-;refine cG bs rfl rfl rfl rfl rfl (by exact Gn) (by simp) fun ct=>?_;apply RG;simp only[go_sem,iv,pt,sD,rD,cj];obtain⟨ta,tc,rfl⟩:=b6.shape
    exact ap (i+1,.slice na (ri.l++a.l).length nc,.slice ta (Syn.joinAll ri.f g).length tc,dv10) _ _ (by simp only;omega) (ae (by simp only[go_sem,Tq,iv,pt])) (by simp only[go_sem,Tq,MX]) ⟨ea,D10,A8,B12,_,rfl,ct,Ui aj (Ui k311 aS),cc,a3,by simpa[Te]using ba.le (Ui ak aS),br.le d6 (Ui ac (Ui a4 (Ui ak aS))),b6,b5.joinAll tf,by simp only[Tu];unfold aF;omega⟩
  ·have c5:(x.text == [40])=false:=by
    rw[Uf];exact bc
   rw[SI bc]at hy;cases hy
   apply RG;simp only[go_sem,ca,iv,pt,sD,rD,c5,T7];refine NB bd [0,1,2,3] rfl iJ (by rfl) (ps:=[sg pb _,D3]) (F:=[A3,B3]) rfl (kN h3 cb.le a6 hE (by simp[bR]at a2 |-;omega)) fun v I4 qs a5 aa hq=>?_;obtain⟨dv2,D4,rs,rfl,c1,rfl⟩:=hq;simp only[SS,SU]at a5 |-;apply RG;simp only[go_sem,iv,pt,sD,rD,cj];exact ap (i+1,va,vb,dv2) _ _ (by simp only;omega) (ae (by simp only[go_sem,Tq,iv,pt])) (by simp only[go_sem,Tq,MX]) ⟨I4,D4,A3,B3,_,rfl,a5,Ui aj aa,cc,a3,by simp only;rw[<-Te];exact c1,by simpa using hA.le aa,hB.le aa,b5,by simpa using ci⟩
 ·have dk:i=ao.length:=by omega
  subst dk;have ca:=Z6 ao.length;rw[T4]at cf;cases cf
  apply RG;simp only[go_sem,ca,iv,pt];exact ai rfl bd (r:=[va,vb]) rfl (Ui a1 aj) ⟨_,D3,[A3,B3],rfl,hE,⟨A3,B3,va,vb,rfl,rfl,hA,hB⟩,b5,ci⟩
end
open Go Go.Sx Dg Syn
theorem v7:aP Tryz.prog 135:=⟨_,Tryz.func135,rfl,rfl⟩
section
variable {pb:Nat} {ts:List Tok} {lv fv ov:Value}
def F9(pb:Nat)(ts:List Tok)(lv fv ov:Value)(n:Nat)(top:Bool)(o:Nat)(I0:PH)(vr:Value):Prop:=
 ∃fid first cap,vr=.func (.func fid) first cap/\aP Tryz.prog fid/\∀m,m<n->∀(x:ay) a,uV (Syn.run ts m) top o x=some a->
  ∀{I D:PH} {dv:Value} {xa:Option Addr} {xk:Nat} {e:List bX},I0.le I->vF I ts lv fv->iH ts x->cu I (.agg #[sD xa xk x.cond,rD x.cond]) x.cond->dl I D dv e->e.length+a.e.length<=pY->
   aO Tryz.prog fid (first++[uh xa xk x].toArray++cap) I [sg pb (bD lv fv ov dv o),D] (PP pb lv fv ov o (e++a.e) (MW ts a))
def PZ(pb:Nat)(ts:List Tok)(lv fv ov:Value)(o:Nat)(I:PH)(v:Value)(is:ay->Bool):Prop:=∃f first cap,v=.func (.func f) first cap/\aP Tryz.prog f/\∀J,I.le J->vF J ts lv fv->∀(dv:Value) (h:ay) (a:Option Addr) (k:Nat),cu J (.agg #[sD a k h.cond,rD h.cond]) h.cond->
 aO Tryz.prog f (first++[uh a k h].toArray++cap) J [sg pb (bD lv fv ov dv o)] fun v I2 qs=>qs=[sg pb (bD lv fv ov dv o)]/\v=.bool (is h)
theorem Es.toP{o:Nat}{I:PH}{v:Value}{is:ay->Bool}(h:Es I v is):PZ pb ts lv fv ov o I v is:=by
 obtain⟨f,first,cap,rfl,g,c⟩:=h;refine⟨f,first,cap,rfl,g,fun J hJ _ dv x a k hr hd=>?_⟩;refine((c J hJ x a k hr).frame (F:=[sg pb (bD lv fv ov dv o)]) hd).mono fun v H2 ⟨I2,qs,e1,e2,e3,e4,e5⟩=>?_;subst e4;exact⟨I2,_,e1,e2,e3,rfl,e5⟩
structure Q2 where
 m:Nat
 fl:Nat
 vf:Value
 vl:Value
 vo:Value
 dv:Value
def Ov(pb:Nat)(vi vr:Value)(x:Q2):St:=⟨dn 62 [(0,.v (pt pb)),(1,.v x.vf),(2,.v vi),(3,.v vr),(10,.v x.vl),(11,.v x.vo)],[]⟩
def Left(ts:List Tok)(top:Bool)(o:Nat)(r:Syn.bE)(m:Nat)(f:ah)(l:List Nd)(out:ah)(ee:List bX):Prop:=
 ∃b,Syn.run ts m (.seqL top o f l out)=some b/\b.l=r.l/\b.f=r.f/\ee++b.e=r.e
def RA(pb:Nat)(ts:List Tok)(lv fv ov:Value)(top:Bool)(n o:Nat)(r:Syn.bE)(e:List bX)(I0:PH)(x:Q2)(H:PH):Prop:=
 ∃I D A B f l out ee,H=U [I,sg pb (bD lv fv ov x.dv o),D,A,B]/\Dj [I,sg pb (bD lv fv ov x.dv o),D,A,B]/\I0.le I/\x.m<=n/\x.fl=f.length/\Left ts top o r x.m f l out ee/\
  du I x.vf f/\FN ts.length f/\dl I D x.dv (e++ee)/\br I A x.vl l/\gP I B x.vo out/\FN ts.length out/\l.length<=aF
def MM(pb:Nat)(vi vr:Value)(vh:Value)(n:Nat)(x:Nat×Value×Value×Value×Value):St:=⟨dn 62 [(0,.v (pt pb)),(1,.v x.2.1),(2,.v vi),(3,.v vr),(10,.v x.2.2.1),(11,.v x.2.2.2.1),(23,.v vh),(24,.v (iv n)),(25,.v (iv x.1))],[]⟩
def Rk(pb:Nat)(ts:List Tok)(lv fv ov:Value)(top:Bool)(m o:Nat)(r:Syn.bE)(e:List bX)(hs:List ay)(I0:PH)(f0:ah)(l0:List Nd)(out0:ah)(ee0:List bX)(x:Nat×Value×Value×Value×Value)(H:PH):Prop:=
 ∃I D A B C f l out ee,H=U [I,sg pb (bD lv fv ov x.2.2.2.2 o),D,A,B,C]/\Dj [I,sg pb (bD lv fv ov x.2.2.2.2 o),D,A,B,C]/\I0.le I/\x.1<=hs.length/\
  gP I C x.2.1 f/\FN ts.length f/\dl I D x.2.2.2.2 (e++ee)/\br I A x.2.2.1 l/\gP I B x.2.2.2.1 out/\FN ts.length out/\l.length<=aF/\
  ((x.1=0/\f=[]/\l=l0/\out=out0/\ee=ee0)\/(0<x.1/\Left ts top o r m ((hs.drop x.1).foldl joinH f) l out ee))
theorem Left.le{top:Bool}{o m:Nat}{r:Syn.bE}{f out:ah}{l:List Nd}{ee:List bX}(h:Left ts top o r m f l out ee):ee.length<=r.e.length:=by
 obtain⟨b,_,_,_,h⟩:=h;rw[<-h];simp
theorem Fb{α:Type}{l:List α}{i:Nat}{x:α}(hx:l[i]?=some x):l.drop i=x::l.drop (i+1):=by
 have aa:i<l.length:=by
  rcases Sw i l.length with h|h
  ·exact h
  ·rw[SF h]at hx;cases hx
 rw[S5 aa];rw[SC aa]at hx;rw[Tk hx]
theorem Dz{top:Bool}{o m:Nat}{r:Syn.bE}{f out:ah}{l:List Nd}{ee:List bX}{x:ay}{hs:List ay}(h:Left ts top o r m f l out ee)(hh:bk ts f=x::hs):∃m',m=m'+1/\
  (ju ts top x=true->Left ts top o r m' (hs.foldl joinH []) l (joinH out x) ee)/\
  (ju ts top x=false->∃a,uV (Syn.run ts m') top o x=some a/\(l++a.l).length<=aF/\Left ts top o r m' (hs.foldl joinH (Syn.joinAll [] a.f)) (l++a.l) out (ee++a.e)):=by
 obtain⟨b,hb,h1,h2,h3⟩:=h;obtain⟨m',rfl,am⟩:=bt hb;have aa:Syn.seqL ts (Syn.run ts m') top o f l out=some b:=am;unfold Syn.seqL at aa;rw[hh]at aa;simp only at aa;refine⟨m',rfl,fun hx=>?_,fun hx=>?_⟩
 ·rw[hx]at aa;exact⟨b,aa,h1,h2,h3⟩
 ·rw[Sb (by rw[hx];simp)]at aa;obtain⟨a,ha,ak⟩:=bw aa;obtain⟨u,hu,aj⟩:=bw ak;obtain⟨b',an,ac⟩:=bw aj;cases ac
  exact⟨a,ha,m0 hu,b',an,h1,h2,by rw[Te];exact h3⟩
theorem yZ{top:Bool}{o m:Nat}{r:Syn.bE}{f out:ah}{l:List Nd}{ee:List bX}(h:Left ts top o r m f l out ee)(hh:bk ts f=[]):l=r.l/\out=r.f/\ee=r.e/\∃m',m=m'+1:=by
 obtain⟨b,hb,h1,h2,h3⟩:=h;obtain⟨m',rfl,ac⟩:=bt hb;have aa:Syn.seqL ts (Syn.run ts m') top o f l out=some b:=ac;unfold Syn.seqL at aa;rw[hh]at aa;simp only at aa;cases aa
 exact⟨h1,h2,by simpa using h3,m',rfl⟩
theorem Fm{n:Nat}{top:Bool}{o:Nat}{f:ah}{r:Syn.bE}(hr:Syn.run ts n (.seqL top o f [] [])=some r){I D:PH}{dv vf vi vr:Value}{e:List bX}(hi:PZ pb ts lv fv ov o I vi (ju ts top))(hv:F9 pb ts lv fv ov n top o I vr)(h:vF I ts lv fv)(hf:du I vf f)(fn:FN ts.length f)(he:dl I D dv e)(hm:e.length+r.e.length<=pY):
  aO Tryz.prog 135 #[pt pb,vf,vi,vr] I [sg pb (bD lv fv ov dv o),D] (PP pb lv fv ov o (e++r.e) (MW ts r)):=by
 intro hd;have hl:=h.len;obtain⟨fr,frst,fcap,rfl,gr,cr⟩:=id hv;obtain⟨fi,ifirst,icap,rfl,gi,ci⟩:=id hi;refine Ot Tryz.func135 rfl fun w0=>?_;simp only[Tryz.ntmps135,iv,pt];apply RG;simp only[go_sem];refine aT hd fun d9=>?_;refine aT d9 fun d7=>?_;refine ab d7 [2,3,0,1] rfl fun dd=>?_;simp only[Z4]at dd |-;refine aB (fun x=>2*x.m+min x.fl 1) (Ov pb (.func (.func fi) ifirst icap) (.func (.func fr) frst fcap)) (RA pb ts lv fv ov top n o r e I) ⟨n,f.length,vf,.slice none 0 0,.slice none 0 0,dv⟩ (ae (by simp only[go_sem,Tq,iv,pt])) (by simp only[go_sem,Tq,Ov]) ?_ ?_
 ·exact⟨I,D,PH.no,PH.no,f,[],[],[],rfl,dd,Uj _,R7 _,rfl,⟨r,hr,rfl,rfl,rfl⟩,hf,fn,by simpa using he,Ow.nil _ _ _ _,Ow.nil _ _ _ _,FN.nil _,S6 _⟩
 rintro⟨m,fl,vf,vl,vo,dv⟩ H ⟨I3,D3,A3,B3,f,l,out,ee,rfl,dc,bb,c5,rfl,hL,cp,fn3,hE,hA,hB,dw,dk⟩ a9;simp only at c5 hL cp hE hA hB;simp only[Ov];obtain⟨fa,fc,rfl,_⟩:=id cp;have h3:=h.le bb;rcases TI f.length with h0|h0
 ·
  have d5:f=[]:=List.length_eq_zero_iff.1 h0;have c3:decide ((f.length:Int)>0)=false:=by simp;omega
  obtain⟨rfl,rfl,rfl,_⟩:=yZ hL (by rw[d5];rfl);apply RG;simp only[go_sem,iv,pt,c3];exact ai rfl dc (r:=[vl,vo]) rfl bb ⟨_,D3,[A3,B3],rfl,hE,⟨A3,B3,vl,vo,rfl,rfl,hA,hB⟩,dw,dk⟩
 ·have c3:decide ((f.length:Int)>0)=true:=by simp;omega
  apply RG;simp only[go_sem,iv,pt,c3];refine NB dc [0,1,2,3] rfl iS (by rfl) (ps:=[sg pb _]) (F:=[D3,A3,B3]) rfl (iN h3 cp fn3) fun v I4 qs da a6 hq=>?_;obtain⟨rfl,hH⟩:=hq;obtain⟨ha,hc,rfl,_⟩:=id hH;simp only[SS,SU]at da |-;apply RG;simp only[go_sem,iv,pt];have hN:∀x∈bk ts f,iH ts x:=fun x hx=>bz h.ok fn3 hx;have en:=dZ h.ok fn3;refine aT da fun d6=>?_;refine ab d6 [1,2,3,4,0] rfl fun c9=>?_;simp only[Z4]at c9 |-;refine aB (fun x=>(bk ts f).length-x.1) (MM pb (.func (.func fi) ifirst icap) (.func (.func fr) frst fcap) (.slice ha (bk ts f).length hc) (bk ts f).length) (Rk pb ts lv fv ov top (m-1) o r e (bk ts f) I4 f l out ee) (0,.slice none 0 0,vl,vo,dv) (ae (by simp only[go_sem,Tq,iv,pt])) (by simp only[go_sem,Tq,MM]) ?_ ?_
  ·exact⟨I4,D3,A3,B3,PH.no,[],l,out,ee,rfl,c9,Uj _,S6 _,Ow.nil _ _ _ _,FN.nil _,hE.le a6,hA.le a6,hB.le a6,dw,dk,.inl ⟨rfl,rfl,rfl,rfl,rfl⟩⟩
  rintro⟨i,v1,vl,vo,dv⟩ H ⟨I5,D5,A5,B5,C5,f5,l5,out5,ee5,rfl,cj,a1,d3,bs,fn5,bd,bx,bc,am,a4,aS⟩ an;simp only at d3 bs bd bx bc aS;simp only[MM];have ec:m9 I5 (.slice ha (bk ts f).length hc) (bk ts f):=hH.le a1;have k5:=Ui bb (Ui a6 a1);have h5:=h.le k5;have c6:∀q:Nat,q<=aF->(q+0)*96<=140737488355328:=fun q hq=>by unfold aF at hq;omega
  obtain⟨m',rfl⟩:∃m',m=m'+1:=by
   obtain⟨b,hb,_⟩:=hL;obtain⟨m',e,_⟩:=bt hb;exact⟨m',e⟩
  have dT:=fn5.len;have dI:=am.len;rcases Sw i (bk ts f).length with cf|eo
  ·have b6:decide ((i:Int)<((bk ts f).length:Int))=true:=by simp;omega
   have e1:=wrap64 (n:=i+1) (by omega);have ei:IntKind.i64.wrap ((i:Int)+1)=((i+1:Nat):Int):=by rw[<-e1];congr 1
   obtain⟨x,hx⟩:∃x,(bk ts f)[i]?=some x:=⟨_,SC cf⟩;have dA:=Tg hx;have cb:=hN x dA;have b0:=cb.le;obtain⟨b,off,cs,rfl,ea,b5⟩:=ec.load jA.len hx;obtain⟨xa,xk,rfl,a5⟩:=ea;have c8:=Fb hx;obtain⟨c1,c2,rfl⟩:=bs.shape;apply RG;simp only[go_sem,b6,iv,pt];refine⟨by omega,?_⟩;refine Qz (l:=[iv x.at',sD xa xk x.cond,rD x.cond,.int .u8 x.kind,.string ⟨⟨x.text⟩⟩]) (v:=.agg #[iv x.at',sD xa xk x.cond,rD x.cond,.int .u8 x.kind,.string ⟨⟨x.text⟩⟩]) rfl (cellsU cj (.head _) b5) (.inl ⟨eS,rfl⟩) ?_;rcases TI i with c7|c7
   ·subst c7;rcases aS with ⟨_,rfl,rfl,rfl,rfl⟩|⟨cm,_⟩
    ·obtain⟨m2,em,sy,sn⟩:=Dz hL c8;obtain rfl:m'=m2:=by omega
     have e01:IntKind.i64.wrap ((0:Int)+1)=((1:Nat):Int):=by decide
     apply RG;simp only[go_sem,b6,iv,pt,sD,rD,TJ,gt_iff_lt,Int.lt_irrefl,decide_false];refine NB cj [0,1,2,3,4] rfl gi (by rfl) (ps:=[sg pb _]) (F:=[D5,A5,B5,C5]) rfl (ci I5 k5 h5 dv x xa xk a5) fun v I6 qs a0 ac hq=>?_;obtain⟨rfl,rfl⟩:=hq;simp only[SS,SU]at a0 |-;cases cc:ju ts top x
     ·obtain⟨a,ha,dj,ba⟩:=sn cc;have cn:=ba.le;simp only[Tu]at dj cn;apply RG;simp only[go_sem,iv,pt,cc,sD,rD];refine NB a0 [0,1,2,3,4] rfl gr (by rfl) (ps:=[sg pb _,D5]) (F:=[A5,B5,C5]) rfl (cr m' (by omega) x a ha (Ui k5 ac) (h5.le ac) cb (a5.le ac) (bd.le ac) (by simp only[Tu];omega)) fun v I7 qs aj aa hq=>?_;obtain⟨dv7,D7,rs,rfl,ed,⟨A7,B7,va7,vb7,rfl,rfl,eg,cl⟩,dx,ep⟩:=hq;simp only[SS,SU]at aj |-;apply RG;simp only[go_sem,iv,pt,sD,rD];refine ab aj [2,0,1,3,4,5,6] rfl fun ak=>?_;simp only[Z4]at ak |-;refine ag ak fun I8 cy ap c0=>?_;have eb:db I8 va7 a.l:=eg.sl ap c0;refine ab cy [3,0,1,2,4,5] rfl fun b4=>?_;simp only[Z4]at b4 |-;have c4:=Ui ac (Ui aa ap);unfold aF at dj a4;refine aY b4 (by exact cT) (bx.le c4) eb (fun{I J c a} h k=>aW.le h k) (fun{I} c a h=>aW.len c a h) (fun{I} c a h=>aW.ones h) rfl rfl rfl rfl (by omega) (by unfold maxLen;omega) fun na nc I9 A9 cx a3 ef=>?_;apply RG;simp only[go_sem,iv,pt,sD,rD];refine ab cx [3,0,1,2,4,5] rfl fun b3=>?_;simp only[Z4]at b3 |-;refine ag b3 fun el ct ao cB=>?_;have cA:du el vb7 a.f:=cl.sl (Ui ap (Ui a3 ao)) cB;have k510:=Ui c4 (Ui a3 ao);refine NB ct [4,0,1,2,3] rfl dp (by rfl) (ps:=[C5]) (F:=[A9,sg pb _,D7,B5]) rfl (b7 (N:=ts.length) (by omega) (bs.le k510) (FN.nil _) cA dx) fun v ek qs b2 a2 hq=>?_;obtain⟨C11,rfl,a7⟩:=hq;obtain⟨d1,d2,rfl⟩:=a7.shape;simp only[SS,SU]at b2 |-;apply RG;simp only[go_sem,iv,pt,sD,rD,e01];refine ab b2 [2,3,1,4,0] rfl fun b1=>?_;simp only[Z4]at b1 |-
      have k511:=Ui k510 a2;exact an (0+1,.slice d1 (Syn.joinAll [] a.f).length d2,.slice na (l5++a.l).length nc,vo,dv7) _ _ (by simp only;omega) (ae (by simp only[go_sem,Tq,iv,pt])) (by simp only[go_sem,Tq,MM]) ⟨ek,D7,A9,B5,C11,_,_,_,_,rfl,b1,Ui a1 k511,cf,a7,(FN.nil _).joinAll dx,by rw[<-Te];exact ed.le (Ui ap (Ui a3 (Ui ao a2))),br.le ef (Ui ao a2),bc.le k511,am,by simp only[Tu];unfold aF;omega,.inr ⟨by simp only;omega,ba⟩⟩
     ·apply RG;simp only[go_sem,iv,pt,cc,sD,rD];obtain⟨o1,o2,rfl⟩:=bc.shape;refine NB a0 [3,0,1,2,4] rfl df (by rfl) (ps:=[B5]) (F:=[sg pb _,D5,A5,C5]) rfl (bo (a:=x.at') (bc.le ac) (a5.le ac) am.ok.2 (fun t ht=>by have:=am.le t ht;omega) (by omega) (by omega)) fun v I7 qs aj aa hq=>?_;obtain⟨B7,rfl,cl⟩:=hq;obtain⟨p1,p2,rfl⟩:=cl.shape;simp only[SS,SU]at aj |-;apply RG;simp only[go_sem,iv,pt,sD,rD,e01];refine ab aj [1,2,3,0,4] rfl fun ak=>?_;simp only[Z4]at ak |-;have ca:=Ui ac aa;exact an (0+1,.slice c1 ([]:ah).length c2,vl,.slice p1 (Syn.join out5 x.at' x.cond).length p2,dv) _ _ (by simp only;omega) (ae (by simp only[go_sem,Tq,iv,pt,S9])) (by simp only[go_sem,Tq,MM]) ⟨I7,D5,A5,B7,C5,_,_,_,_,rfl,ak,Ui a1 ca,cf,bs.le ca,FN.nil _,bd.le ca,bx.le ca,cl,am.join b0 cb.ok,a4,.inr ⟨by simp only;omega,sy cc⟩⟩
    ·omega
   ·rcases aS with ⟨cm,_⟩|⟨_,ba⟩
    ·omega
    ·have eh:decide ((i:Int)>0)=true:=by simp;omega
     apply RG;simp only[go_sem,b6,iv,pt,sD,rD,eh];refine NB cj [4,0,1,2,3] rfl df (by rfl) (ps:=[C5]) (F:=[sg pb _,D5,A5,B5]) rfl (bo (a:=x.at') bs a5 fn5.ok.2 (fun t ht=>by have:=fn5.le t ht;omega) (by omega) (by omega)) fun v I7 qs aj aa hq=>?_;obtain⟨C7,rfl,dy⟩:=hq;obtain⟨p1,p2,rfl⟩:=dy.shape;simp only[SS,SU]at aj |-;apply RG;simp only[go_sem,iv,pt,sD,rD,ei];refine ab aj [1,2,3,4,0] rfl fun ak=>?_;simp only[Z4]at ak |-;rw[c8,Sj]at ba;exact an (i+1,.slice p1 (Syn.join f5 x.at' x.cond).length p2,vl,vo,dv) _ _ (by simp only;omega) (ae (by simp only[go_sem,Tq,iv,pt])) (by simp only[go_sem,Tq,MM]) ⟨I7,D5,A5,B5,C7,_,_,_,_,rfl,ak,Ui a1 aa,cf,dy,fn5.join b0 cb.ok,bd.le aa,bx.le aa,bc.le aa,am,a4,.inr ⟨by simp only;omega,ba⟩⟩
  ·have d0:i=(bk ts f).length:=by omega
   subst d0;have b6:decide (((bk ts f).length:Int)<((bk ts f).length:Int))=false:=by simp
   apply RG;simp only[go_sem,b6,iv,pt];refine ab cj [4,0,1,2,3] rfl fun a0=>?_;simp only[Z4]at a0 |-;refine ag (c:=.st _) a0 fun I6 aj aa a7=>?_;have ds:du I6 v1 f5:=bs.sl aa a7;rcases aS with ⟨cm,rfl,rfl,rfl,rfl⟩|⟨cm,ba⟩
   ·have d4:bk ts f=[]:=List.length_eq_zero_iff.1 cm;obtain⟨e2,e3,e4,_⟩:=yZ hL d4;refine a9 ⟨m'+1,0,v1,vl,vo,dv⟩ _ _ (by simp only;omega) (ae (by simp only[go_sem,Tq,iv,pt])) (by simp only[go_sem,Tq,Ov]) ⟨I6,D5,A5,B5,[],l5,out5,ee5,rfl,aj,Ui k5 aa,c5,rfl,⟨⟨l5,out5,[]⟩,rfl,e2,e3,by simpa using e4⟩,ds,FN.nil _,bd.le aa,bx.le aa,bc.le aa,am,a4⟩
   ·rw[T4,List.foldl_nil]at ba;refine a9 ⟨m',f5.length,v1,vl,vo,dv⟩ _ _ (by simp only;omega) (ae (by simp only[go_sem,Tq,iv,pt])) (by simp only[go_sem,Tq,Ov]) ⟨I6,D5,A5,B5,f5,l5,out5,ee5,rfl,aj,Ui k5 aa,by simp only;omega,rfl,ba,ds,fn5,bd.le aa,bx.le aa,bc.le aa,am,a4⟩
end
end Go.Proofs.YtfaclfkpnmcmlaaGreatDoor
namespace Go.Sx
open Go
section
variable {P:Program} {ol:List Oper} {fr:gW} {str:gR} {K:St->PH->Prop}
theorem vM:∀(l m:List Nat) {σ:St} {H:PH},VD P ol fr str K (l++m) σ H<->VD P ol fr str (VD P ol fr str K m) l σ H
 | [],m,σ,H=>Iff.rfl
 |i::l,m,σ,H=>by
  have e:VD P ol fr str K (l++m)=VD P ol fr str (VD P ol fr str K m) l:=by
   funext σ' H';exact propext (vM l m)
  simp only[SS,VD];cases ol[i]? with
  |none=>simp only[e]
  |some o=>simp only[e]
structure Inv(ops:Array Oper)(κ:List Nat)(listed:Array Bool):Prop where
 size:listed.size=ops.size
 mem:∀i,i∈κ<->i<ops.size/\listed.getD i true=false
 closed:∀y o,ops.toList[y]?=some o->listed.getD y false=true->∀z∈iF o,listed.getD z false=true
theorem Inv.perm{ops:Array Oper}{κ κ':List Nat}{listed:Array Bool}(h:Inv ops κ listed)(hp:∀i,i∈κ'<->i∈κ):Inv ops κ' listed:=⟨h.size,fun i=>(hp i).trans (h.mem i),h.closed⟩
theorem Inv.step{ops:Array Oper}{l1 l2:List Nat}{i:Nat}{listed:Array Bool}(h:Inv ops (l1++i::l2) listed)(hi:i∉l1++l2){oi:Oper}(aa:ops.toList[i]?=some oi)(hd:∀z∈iF oi,listed.getD z false=true):Inv ops (l1++l2) (listed.setIfInBounds i true):=by
 have h1:=((h.mem i).1 (SN _ (.head _))).1;have ak:=h.size;have getset:∀(j:Nat) (d:Bool),(listed.setIfInBounds i true).getD j d=if i=j then (if i<listed.size then true else d)else listed.getD j d:=by
  intro j d;rw[Sa,S0];by_cases e:i=j
  ·subst e;by_cases hl:i<listed.size<;>simp[hl]
  ·simp[e,Sa]
 refine⟨by simp[h.size],fun j=>?_,fun y o ho hl z hz=>?_⟩
 ·rw[getset];by_cases e:i=j
  ·subst e;simp only[R9,SI (show i<listed.size by omega)];exact⟨fun ac=>absurd ac hi,fun hh=>by cases hh.2⟩
  ·simp only[Sb e];rw[<-h.mem j];constructor
   ·intro hj;rcases List.mem_append.1 hj with hj|hj
    ·exact SM _ hj
    ·exact SN _ (.tail _ hj)
   ·intro hj;rcases List.mem_append.1 hj with hj|hj
    ·exact SM _ hj
    ·rcases List.mem_cons.1 hj with rfl|hj
     ·exact absurd rfl e
     ·exact SN _ hj
 ·rw[getset]at hl |-;have aj:i<listed.size:=by omega
  by_cases ez:i=z
  ·subst ez;simp[aj]
  ·simp only[Sb ez];by_cases ey:i=y
   ·subst ey;rw[aa]at ho;cases ho;exact hd z hz
   ·simp only[Sb ey]at hl;exact h.closed y o ho hl z hz
theorem vN{ops:Array Oper}(listed:Array Bool)(i:Nat):i∈Region.ready .any ops listed<->i<ops.size/\listed.getD i true=false/\∃o,ops[i]?=some o/\∀z∈iF o,listed.getD z false=true:=by
 simp only[Region.ready,SY,List.mem_range,SG,SR];constructor
 ·rintro⟨h1,h2,h3⟩;refine⟨h1,h2,?_⟩;cases ho:ops[i]? with
  |none=>rw[ho]at h3;cases h3
  |some o=>
   rw[ho]at h3;simp only[So,SE]at h3;refine⟨o,rfl,fun z hz=>?_⟩;simp only[iF,SZ,SY]at hz;obtain⟨e,⟨he,hb⟩,rfl⟩:=hz;have:=Array.all_eq_true'.1 h3 e (by simpa using he);simpa[hb]using this
 ·rintro⟨h1,h2,o,ho,h3⟩;refine⟨h1,h2,?_⟩;rw[ho];simp only[So,SE];refine Array.all_eq_true'.2 fun e he=>?_;cases hb:Region.binds .any e with
  |false=>rfl
  |true=>
   have:=h3 e.on (by simp only[iF,SZ,SY];exact⟨e,⟨by simpa using he,hb⟩,rfl⟩);simpa using this
theorem Di{ops:Array Oper}{cl:List (List Nat)}(ak:CT ops.toList cl=true){κ:List Nat}{listed:Array Bool}(h:Inv ops κ listed)(hr:Region.ready .any ops listed=[]):κ=[]:=by
 have am:=h.size;have sizeol:ops.size=ops.toList.length:=(Sk).symm;have getol:∀i:Nat,ops[i]?=ops.toList[i]?:=fun i=>by simp
 have key:∀n i,i<n->i<ops.size->listed.getD i true=true:=by
  intro n
  induction n with
  |zero=>intro i h;omega
  |succ n ih=>
   intro i hi ac;cases hl:listed.getD i true with
   |true=>rfl
   |false=>
    exfalso;have aa:ops[i]?=some ops[i]:=Sr ac;have:i∈Region.ready .any ops listed:=(vN listed i).2 ⟨ac,hl,ops[i],aa,fun z hz=>by
     have h1:=List.all_eq_true.1 ak i (List.mem_range.2 (by omega));rw[<-getol i,aa]at h1;simp only[SG]at h1;have aj:=List.all_eq_true.1 h1.1 z hz;simp only[SX]at aj;have:=ih z (by omega) (by omega);rw[Sa]at this |-;rw[Sr (by omega)]at this |-;simpa using this⟩
    rw[hr]at this;cases this
 cases κ with
 |nil=>rfl
 |cons i l=>
  exfalso;have:=(h.mem i).1 (.head _);rw[key (i+1) i (by omega) this.1]at this;exact Bool.noConfusion this.2
def qJ(ol:List Oper)(cl:List (List Nat))(fr:gW)(str:gR)(i:Nat)(l:List Nat):Bool:=
 l.all fun x=>(cl.getD i []).contains x || match ol[x]?,ol[i]? with
  |some ox,some oi=>AP ol (fr.at' x) (str.at' x) (str.at' i) ox oi
  |_,_=>false
theorem Dy{n0:Nat}{H0:PH}{w0:World}(hn:n0=w0.heap.size){ops:Array Oper}{cl:List (List Nat)}(a5:CT ops.toList cl=true){p q:Nat}{r1 r2:List Nat}(cf:p≠q)
  (b3:r1.all (fun i=>(cl.getD i []).contains p || (cl.getD i []).contains q)=true) (hr:∀i,i∈r2<->i∈r1) :
  ∀(fR:Nat) (κ:List Nat) (listed:Array Bool) {σ:St} {H:PH} {a:Act} {w:World},(κ++p::q::r1).length<=fR->(κ++q::p::r2).length<=fR->
   bU ops.toList cl fr str (κ++q::r1)=true->bU ops.toList cl fr str (κ++p::r2)=true->qJ ops.toList cl fr str p κ=true->qJ ops.toList cl fr str q κ=true->bU ops.toList cl fr str κ=true->p∉κ++q::r1->q∉κ++p::r2->
   Inv ops (κ++p::q::r1) listed->m6 σ.bx->VD P ops.toList fr str (fun σ H=>VD P ops.toList fr str K (p::q::r1) σ H/\VD P ops.toList fr str K (q::p::r2) σ H) κ σ H->cS H0 w0 H w->G n0 σ H a w->wpAny P .any ops (QK n0 H0 w0 K) fR listed a w:=by
 have getol:∀i:Nat,ops[i]?=ops.toList[i]?:=fun i=>by simp
 have notl:∀{listed:Array Bool} {x:Nat},listed.getD x false=true->listed.getD x true=false->False:=by
  intro listed x h1 h2;rw[Sa]at h1 h2;cases hg:listed[x]? with
  |none=>rw[hg]at h1;cases h1
  |some b=>rw[hg]at h1 h2;simp only[SE]at h1 h2;rw[h1]at h2;cases h2
 intro fR
 induction fR with
 |zero=>intro κ listed σ H a w ac;simp at ac
 |succ fR ih=>
  intro κ listed σ H a w ac ak ba a9 bs bd b4 a2 bb hI hs h st g;refine⟨fun hr=>?_,fun i hi=>?_⟩
  ·have:=Di a5 hI hr;simp at this
  ·obtain⟨h1,h2,oi,a1,aj⟩:=(vN listed i).1 hi;have aa:ops.toList[i]?=some oi:=by rw[<-getol];exact a1
   have ca:i∈κ++p::q::r1:=(hI.mem i).2 ⟨h1,h2⟩;have anc:=nz a5 (L:=fun x=>listed.getD x false=true) hI.closed (i+1) i (by omega) oi aa aj;have bub:∀(l:List Nat),(∀x∈l,x∈κ)->qJ ops.toList cl fr str i l=true->∀x∈l,∃ox,ops.toList[x]?=some ox/\AP ops.toList (fr.at' x) (str.at' x) (str.at' i) ox oi=true:=by
    intro l hl hb x hx;have:=List.all_eq_true.1 hb x hx;simp only[SQ]at this;rcases this with hc|hc
    ·exact(notl (anc x (by simpa using hc)) ((hI.mem x).1 (SM _ (hl x hx))).2).elim
    ·split at hc
     ·rename_i ox oy e1 e2;rw[aa]at e2;cases e2;exact⟨ox,e1,hc⟩
     ·cases hc
   have fin:∀(u v:Nat) (rr:List Nat),i=u->(∀x,x∈κ++u::v::rr<->x∈κ++p::q::r1)->(κ++u::v::rr).length<=fR+1->bU ops.toList cl fr str (κ++v::rr)=true->qJ ops.toList cl fr str u κ=true->u∉κ++v::rr->VD P ops.toList fr str (VD P ops.toList fr str K (u::v::rr)) κ σ H->
     wpOp P ops (QK n0 H0 w0 K) i (wpAny P .any ops (QK n0 H0 w0 K) fR (listed.setIfInBounds i true)) a w:=by
    intro u v rr e a4 ac hp hb a3 hv;subst e;have cb:=hI.perm a4;have b2:=(vM (K:=K) κ (i::v::rr)).2 hv;have b0:=xx (K:=K) (P:=P) aa κ (v::rr) hs (bub κ (fun _ h=>h) hb) b2;simp only[VD,aa]at b0;have ao:=(it (K':=fun σ' H'=>m6 σ'.bx/\VD P ops.toList fr str K (κ++v::rr) σ' H') (fun σ' H' ap h'=>⟨ap,h'⟩) hs b0).toV;have an:=cb.step a3 aa aj;refine jC a1 hn (fun σ' H' a' w' hk st' g'=>?_) ao st g;exact uT hn rfl a5 fR (κ++v::rr) _ (by simp at ac |-;omega) an.size hp an.mem an.closed hk.1 hk.2 st' g'
   have am:∀x,x∈κ++q::p::r2<->x∈κ++p::q::r1:=fun x=>by
    simp only[Ti,Su,hr];constructor
    ·rintro(h|h|h|h)
     ·exact .inl h
     ·exact .inr (.inr (.inl h))
     ·exact .inr (.inl h)
     ·exact .inr (.inr (.inr h))
    ·rintro(h|h|h|h)
     ·exact .inl h
     ·exact .inr (.inr (.inl h))
     ·exact .inr (.inl h)
     ·exact .inr (.inr (.inr h))
   rcases List.mem_append.1 ca with hk|hk
   ·obtain⟨l1,l2,rfl⟩:=List.append_of_mem hk;have a0:bU ops.toList cl fr str (l1++i::(l2++q::r1))=true:=by simpa using ba
    have aS:bU ops.toList cl fr str (l1++i::(l2++p::r2))=true:=by simpa using a9
    obtain⟨_,pb,pc⟩:=lX a0;obtain⟨_,pb2,pc2⟩:=lX aS;obtain⟨pk,pbk,pck⟩:=lX b4;have hb:=xx (K:=fun σ H=>VD P ops.toList fr str K (p::q::r1) σ H/\VD P ops.toList fr str K (q::p::r2) σ H) (P:=P) aa l1 l2 hs (fun x hx=>by
     rcases pk x hx with b1|⟨ox,oy,e1,e2,e3⟩
     ·exact(notl (anc x b1) ((hI.mem x).1 (SM _ (SM _ hx))).2).elim
     ·rw[aa]at e2;cases e2;exact⟨ox,e1,e3⟩) h
    simp only[VD,aa]at hb;have ao:=(it (K':=fun σ' H'=>m6 σ'.bx/\VD P ops.toList fr str (fun σ H=>VD P ops.toList fr str K (p::q::r1) σ H/\VD P ops.toList fr str K (q::p::r2) σ H) (l1++l2) σ' H') (fun σ' H' ap h'=>⟨ap,h'⟩) hs (by simpa only[VD]using hb)).toV;have b6:i≠p:=fun e=>by subst e;exact a2 (by simp)
    have b5:i∉(l1++l2)++p::q::r1:=by
     intro hm;simp only[Te,Ti,Su]at hm pc;rcases hm with h|h|h|h|h
     ·exact pc (.inl h)
     ·exact pc (.inr (.inl h))
     ·exact b6 h
     ·exact pc (.inr (.inr (.inl h)))
     ·exact pc (.inr (.inr (.inr h)))
    have cc:Inv ops (l1++i::(l2++p::q::r1)) listed:=hI.perm fun x=>by simp
    have an:=cc.step (by simpa using b5) aa aj;have a7:qJ ops.toList cl fr str p (l1++l2)=true:=List.all_eq_true.2 fun x hx=>List.all_eq_true.1 bs x (by
     rcases List.mem_append.1 hx with h|h
     ·exact SM _ h
     ·exact SN _ (.tail _ h))
    have a6:qJ ops.toList cl fr str q (l1++l2)=true:=List.all_eq_true.2 fun x hx=>List.all_eq_true.1 bd x (by
     rcases List.mem_append.1 hx with h|h
     ·exact SM _ h
     ·exact SN _ (.tail _ h))
    refine jC a1 hn (fun σ' H' a' w' bc st' g'=>?_) ao st g;refine ih (l1++l2) _ (by simp at ac |-;omega) (by simp at ak |-;omega) (by simpa using pb) (by simpa using pb2) a7 a6 pbk (fun hm=>a2 ?_) (fun hm=>bb ?_) (by simpa using an) bc.1 bc.2 st' g'
    ·simp only[Te,Ti,Su]at hm |-;rcases hm with h|h|h|h
     ·exact .inl h
     ·exact .inr (.inl (.inr h))
     ·exact .inr (.inr (.inl h))
     ·exact .inr (.inr (.inr h))
    ·simp only[Te,Ti,Su]at hm |-;rcases hm with h|h|h|h
     ·exact .inl h
     ·exact .inr (.inl (.inr h))
     ·exact .inr (.inr (.inl h))
     ·exact .inr (.inr (.inr h))
   ·rcases List.mem_cons.1 hk with e|hk
    ·exact fin p q r1 e (fun x=>Iff.rfl) ac ba bs a2 (rp (fun σ' H' _ h=>h.1) κ hs h)
    ·rcases List.mem_cons.1 hk with e|hk
     ·exact fin q p r2 e am ak a9 bd bb (rp (fun σ' H' _ h=>h.2) κ hs h)
     ·exfalso;have:=List.all_eq_true.1 b3 i hk;simp only[SQ]at this;rcases this with hc|hc
      ·exact notl (anc p (by simpa using hc)) ((hI.mem p).1 (by simp)).2
      ·exact notl (anc q (by simpa using hc)) ((hI.mem q).1 (by simp)).2
def M8(ol:List Oper)(κ:List Nat)(p q:Nat)(r1 r2:List Nat)(fr:gW)(str:gR):Bool:=
 CT ol (gJ ol) && (List.range ol.length).all ((κ++p::q::r1).contains ·) && decide (p≠q) && decide (p<ol.length) && decide (q<ol.length) &&
 r1.all (fun i=>((gJ ol).getD i []).contains p || ((gJ ol).getD i []).contains q) && r1.all (r2.contains ·) && r2.all (r1.contains ·) &&
 bU ol (gJ ol) fr str (κ++q::r1) && bU ol (gJ ol) fr str (κ++p::r2) && qJ ol (gJ ol) fr str p κ && qJ ol (gJ ol) fr str q κ && bU ol (gJ ol) fr str κ &&
 !(κ++q::r1).contains p && !(κ++p::r2).contains q
theorem qD{n0:Nat}{H0:PH}{w0:World}(hn:n0=w0.heap.size)(hm:P.follows .mixedOrders=true){id:Nat}{ops:Array Oper}{κ:List Nat}{p q:Nat}{r1 r2:List Nat}(ap:M8 ops.toList κ p q r1 r2 fr str=true){σ:St}{H:PH}{a:Act}{w:World}
  (hs:m6 σ.bx) (h:VD P ops.toList fr str (fun σ H=>VD P ops.toList fr str K (p::q::r1) σ H/\VD P ops.toList fr str K (q::p::r2) σ H) κ σ H) (st:cS H0 w0 H w) (g:G n0 σ H a w):(Code.region id ops true).wp P (QK n0 H0 w0 K) a w:=by
 simp only[M8,SG,SX,SR]at ap;obtain⟨⟨⟨⟨⟨⟨⟨⟨⟨⟨⟨⟨⟨⟨h1,h2⟩,a3⟩,a4⟩,a2⟩,a1⟩,a0⟩,aS⟩,aj⟩,an⟩,ba⟩,a9⟩,a5⟩,a7⟩,a6⟩:=ap;have am:p∉κ++q::r1:=by simpa using a7
 have ak:q∉κ++p::r2:=by simpa using a6
 have mem:∀(l:List Nat),bU ops.toList (gJ ops.toList) fr str l=true->∀i∈l,i<ops.size:=by
  intro l
  induction l with
  |nil=>intro _ i hi;cases hi
  |cons x l ih=>
   intro hp i hi;simp only[bU,SG,SX]at hp;rcases List.mem_cons.1 hi with rfl|hi
   ·simpa using hp.1.1.1
   ·exact ih hp.2 i hi
 have len:∀(l:List Nat),bU ops.toList (gJ ops.toList) fr str l=true->l.Nodup:=by
  intro l
  induction l with
  |nil=>intro _;exact List.nodup_nil
  |cons x l ih=>
   intro hp;simp only[bU,SG]at hp;exact List.nodup_cons.2 ⟨by simpa using hp.1.1.2,ih hp.2⟩
 have ac:p<ops.size:=by simpa using a4
 have aa:q<ops.size:=by simpa using a2
 have l1:(κ++p::q::r1).length<=ops.size:=by
  have ao:(p::(κ++q::r1)).Nodup:=List.nodup_cons.2 ⟨am,len _ aj⟩;have:=oT ops.size _ ao fun i hi=>by
   rcases List.mem_cons.1 hi with rfl|hi
   ·exact ac
   ·exact mem _ aj i hi
  simp at this |-;omega
 have l2:(κ++q::p::r2).length<=ops.size:=by
  have ao:(q::(κ++p::r2)).Nodup:=List.nodup_cons.2 ⟨ak,len _ an⟩;have:=oT ops.size _ ao fun i hi=>by
   rcases List.mem_cons.1 hi with rfl|hi
   ·exact aa
   ·exact mem _ an i hi
  simp at this |-;omega
 refine wp_region_any hm (Dy hn h1 a3 a1 (fun i=>⟨fun hi=>by simpa using List.all_eq_true.1 aS i hi,fun hi=>by simpa using List.all_eq_true.1 a0 i hi⟩) ops.size κ _ l1 l2 aj an ba a9 a5 am ak ⟨by simp,fun i=>?_,fun y o ho hl=>?_⟩ hs h (w:={ w with drawn:=w.drawn+1 }) ?_ ?_)
 ·constructor
  ·intro hi;have:i<ops.size:=by
    simp only[Ti,Su]at hi;rcases hi with hi|rfl|rfl|hi
    ·exact mem _ aj i (SM _ hi)
    ·exact ac
    ·exact aa
    ·exact mem _ aj i (SN _ (.tail _ hi))
   exact⟨this,by simp[Sa,this]⟩
  ·rintro⟨hi,_⟩;have:=List.all_eq_true.1 h2 i (List.mem_range.2 (by simpa using hi));simpa using this
 ·exfalso;rw[Sa,Array.getElem?_replicate]at hl;split at hl<;>cases hl
 ·exact⟨st.sub,st.size,st.priv,st.dom,st.os,st.tape,st.out⟩
 ·obtain⟨β,g⟩:=g;exact⟨β,g.defers,g.size,g.tm,g.bx,g.inj,g.lo,g.keys⟩
end
section
variable {C:Cx} {k:List Item} {σ:St} {H:PH}
theorem sX{P:Program}{ol:List Oper}{fr:gW}{str:gR}{K K':St->PH->Prop}(k:∀σ' H',K σ' H'->K' σ' H'):∀(l:List (Nat×Oper)) {σ:St} {H:PH},MP P ol fr str K l σ H->MP P ol fr str K' l σ H
 | [],σ,H,h=>k _ _ h
 |(i,o)::l,σ,H,h=>rS (fun σ' H' h'=>sX k l h') h
def Hq(C:Cx)(ol:List Oper)(fr:gW)(str:gR)(r1 r2:List (Nat×Oper))(l:List (Nat×Oper))(k:List Item)(σ:St)(H:PH):Prop:=MP C.P ol fr str (fun σ H=>RD C ol fr str r1 k σ H/\RD C ol fr str r2 k σ H) l σ H
theorem se{ol:List Oper}{fr:gW}{str:gR}{r1 r2:List (Nat×Oper)}:∀(l:List (Nat×Oper)) (σ:St) (ps:List Prop),m7 (oh C.P ol fr.k str.k fr.kp l σ ps).1->Hq C ol fr str r1 r2 (oh C.P ol fr.k str.k fr.kp l σ ps).2.1 k (oh C.P ol fr.k str.k fr.kp l σ ps).2.2 H->m7 ps/\Hq C ol fr str r1 r2 l k σ H
 | [],σ,ps,hp,h=>⟨hp,h⟩
 |(i,o)::l,σ,ps,hp,h=>by
  unfold oh at hp h;cases ha:vI C.P ol (iR fr.k i) (iR str.k i) fr.kp o σ with
  |none=>rw[ha]at hp h;exact⟨hp,h⟩
  |some x=>
   obtain⟨φ,σ'⟩:=x;rw[ha]at hp h;obtain⟨⟨a,b⟩,c⟩:=se l _ _ hp h;exact⟨a,qu (f:=fr.at' i) (s:=str.at' i) ha b c⟩
def OG(C:Cx)(ol:List Oper)(fr:gW)(str:gR)(r1 r2:List (Nat×Oper))(k:List Item)(H:PH)(r:List Prop×List (Nat×Oper)×St):Prop:=m7 r.1/\Hq C ol fr str r1 r2 r.2.1 k r.2.2 H
theorem ID(C:Cx)(ol:List Oper)(fr:gW)(str:gR)(r1 r2:List (Nat×Oper))(k:List Item)(H:PH)(ps:List Prop)(l:List (Nat×Oper))(σ:St):OG C ol fr str r1 r2 k H (ps,l,σ)=(m7 ps/\Hq C ol fr str r1 r2 l k σ H):=rfl
theorem jR{ol:List Oper}{fr:gW}{str:gR}{r1 r2 l:List (Nat×Oper)}(h:OG C ol fr str r1 r2 k H (oh C.P ol fr.k str.k fr.kp l σ [])):Hq C ol fr str r1 r2 l k σ H:=(se l σ [] h.1 h.2).2
theorem ry{ol:List Oper}{fr:gW}{str:gR}{r1 r2:List (Nat×Oper)}(h1:RD C ol fr str r1 k σ H)(h2:RD C ol fr str r2 k σ H):Hq C ol fr str r1 r2 [] k σ H:=⟨h1,h2⟩
attribute [go_sem] ID
theorem md{ol:List Oper}{cl:List (List Nat)}{fr:gW}{str:gR}:∀{l:List Nat},bU ol cl fr str l=true->∀i∈l,i<ol.length
 | [],_,i,hi=>by cases hi
 |x::l,hp,i,hi=>by
  simp only[bU,SG,SX]at hp;rcases List.mem_cons.1 hi with rfl|hi
  ·exact hp.1.1.1
  ·exact md hp.2 i hi
theorem yt{id:Nat}{ops:Array Oper}(hm:C.P.follows .mixedOrders=true)(κ:List Nat)(p q:Nat)(r1 r2:List Nat)(fr str:List Nat)(aa:M8 ops.toList κ p q r1 r2 ⟨fr,[],PH.emp,[],[]⟩ ⟨str,[],[]⟩=true)(hs:wR σ.bx=true)
  (h:Hq C ops.toList ⟨fr,[],PH.emp,[],[]⟩ ⟨str,[],[]⟩ (pick ops.toList (p::q::r1)) (pick ops.toList (q::p::r2)) (pick ops.toList κ) k σ H):RC C (.st (.code (.region id ops true)::k)) σ H:=by
 have hk:=aa;simp only[M8,SG,SX,SR]at hk;obtain⟨⟨⟨⟨⟨⟨⟨⟨⟨⟨⟨⟨⟨⟨h1,h2⟩,aS⟩,aj⟩,ac⟩,ap⟩,ao⟩,an⟩,am⟩,ak⟩,a4⟩,a3⟩,a0⟩,a2⟩,a1⟩:=hk;have e1:=md am;have e2:=md ak;refine(show R C (.code (.region id ops true)::k) σ H from ro fun _ _ s g=>qD rfl hm aa (Aa hs) ?_ s g);refine qF κ (fun i hi=>e1 i (SM _ hi)) (sX (fun σ' H' hh=>⟨qF _ (fun i hi=>?_) hh.1,qF _ (fun i hi=>?_) hh.2⟩) _ h)
 ·rcases List.mem_cons.1 hi with rfl|hi
  ·exact aj
  ·exact e1 i (SN _ hi)
 ·rcases List.mem_cons.1 hi with rfl|hi
  ·exact ac
  ·exact e2 i (SN _ hi)
end
end Go.Sx
namespace Go.Proofs.YtfaclfkpnmcmlaaGreatDoor
open Go Go.Sx Dg Syn
theorem JW:aP Tryz.prog 264:=⟨_,Tryz.func264,rfl,rfl⟩
section
variable {pb:Nat} {ts:List Tok} {lv fv ov:Value}
theorem oo:ju ts false=bj uo:=by funext h;simp[ju,bj]
theorem vH{n m o:Nat}(ih:iE pb ts lv fv ov n)(hm:m<n/\o<=64){I:PH}:F9 pb ts lv fv ov m false o I (.func (.func 264) #[pt pb] #[]):=
 ⟨264,#[pt pb],#[],rfl,JW,fun m' aa x a ha I D dv xa xk e _ h hx hr he hl=>ih m' (by omega) (.stmt o x) a ha hm.2 h hx hr he hl⟩
def L0(pb slot:Nat)(vh:Value)(n:Nat)(x:Nat×Value×Value×Value):St:=⟨dn 72 [(0,.v (pt pb)),(2,.v (iv slot)),(8,.v x.2.1),(9,.v x.2.2.1),(16,.v vh),(17,.v (iv n)),(18,.v (iv x.1))],[]⟩
theorem HZ{n:Nat}(ih:iE pb ts lv fv ov n){o:Nat}{f:ah}{slot:Nat}{r:Syn.bE}(hr:Syn.run ts n (.block o f slot)=some r):qS pb ts lv fv ov (.block o f slot) r:=by
 obtain⟨m,rfl,hs⟩:=bt hr;have ec:bY ts f (mw ts (Syn.run ts m) o slot)=some r:=hs;rw[ru]at ec;clear hs hr;intro ho I D dv vf e h hf fn he hm hd;have hl:=h.len;refine Ot Tryz.func208 rfl fun w0=>?_;simp only[Tryz.ntmps208,iv,pt];apply RG;simp only[go_sem];refine NB hd [0,1] rfl iS rfl (ps:=[sg pb _]) (F:=[D]) rfl (iN h hf fn) fun v I2 qs ee cj hq=>?_;obtain⟨rfl,hH⟩:=hq;obtain⟨ha,hc,rfl,_⟩:=id hH;simp only[SS,SU]at ee |-;apply RG;simp only[go_sem,iv];have hN:∀x∈bk ts f,iH ts x:=fun x hx=>bz h.ok fn hx;have et:=dZ h.ok fn;have eq:=hH;generalize bk ts f=a7 at *;refine aT ee fun em=>?_;refine aT em fun el=>?_;refine ab el [2,3,0,1] rfl fun ed=>?_;simp only[Z4]at ed |-;refine aB (fun x=>a7.length-x.1) (L0 pb slot (.slice ha a7.length hc) a7.length) (Pd pb ts lv fv ov o a7 (mw ts (Syn.run ts m) o slot) r e I2) (0,.slice none 0 0,.slice none 0 0,dv) (ae (by simp only[go_sem,Tq,iv,pt])) (by simp only[go_sem,Tq,L0]) ?_ ?_
 ·exact⟨I2,D,PH.no,PH.no,⟨[],[],[]⟩,rfl,ed,Uj _,S6 _,ec,by simpa using dl.le he cj,Ow.nil _ _ _ _,Ow.nil _ _ _ _,FN.nil _,S6 _⟩
 rintro⟨i,va,vb,dv⟩ H ⟨I3,D3,A3,B3,ri,rfl,da,a0,ek,dx,hE,hA,hB,cB,dd⟩ a5;simp only at ek dx hE hA hB;simp only[L0];have ep:m9 I3 (.slice ha a7.length hc) a7:=eq.le a0;rcases Sw i a7.length with c8|ex
 ·have ds:decide ((i:Int)<(a7.length:Int))=true:=by simp;omega
  have e1:=wrap64 (n:=i+1) (by omega);have dw:IntKind.i64.wrap ((i:Int)+1)=((i+1:Nat):Int):=by rw[<-e1];congr 1
  obtain⟨x,hx⟩:∃x,a7[i]?=some x:=⟨_,SC c8⟩;have eg:=Tg hx;have c7:=hN x eg;obtain⟨b,off,cs,rfl,en,dc⟩:=ep.load jA.len hx;obtain⟨xa,xk,rfl,a6⟩:=en;obtain⟨r',eh,ba⟩:=ls hx dx;have ca:=s7 ba;obtain⟨y,hy,c4,rfl⟩:=l7 eh;have h3:=h.le (Ui cj a0);simp only[Tu]at ca c4;apply RG;simp only[go_sem,ds,iv,pt];refine⟨by omega,?_⟩;refine Qz (l:=[iv x.at',sD xa xk x.cond,rD x.cond,.int .u8 x.kind,.string ⟨⟨x.text⟩⟩]) (v:=.agg #[iv x.at',sD xa xk x.cond,rD x.cond,.int .u8 x.kind,.string ⟨⟨x.text⟩⟩]) rfl (cellsU da (.head _) dc) (.inl ⟨eS,rfl⟩) ?_;unfold Syn.mw at hy;by_cases c5:x.text=Ky
  ·have d6:(x.text == [123])=true:=by rw[c5];decide
   rw[Sb (by simp[c5])]at hy;apply RG;simp only[go_sem,ds,iv,pt,sD,rD,d6,Ud];by_cases cc:o=64
   ·rw[SI cc]at hy;cases hy
    subst cc;refine NB da [0,1,2,3] rfl gz (by rfl) (ps:=[sg pb _,D3]) (F:=[A3,B3]) rfl (ke h3 c7.le a6 hE (by simp[bR]at ca |-;omega)) fun v I4 qs cb ao hq=>?_;obtain⟨dv2,D4,rs,rfl,d2,rfl,rfl⟩:=hq;simp only[SS,SU]at cb |-;apply RG;simp only[go_sem,iv,pt,sD,rD,dw,T7];exact a5 (i+1,va,vb,dv2) _ _ (by simp only;omega) (ae (by simp only[go_sem,Tq,iv,pt])) (by simp only[go_sem,Tq,L0]) ⟨I4,D4,A3,B3,_,rfl,cb,Ui a0 ao,c8,ba,by simp only;rw[<-Te];exact d2,by simpa using hA.le ao,hB.le ao,cB,by simpa using dd⟩
   ·rw[Sb cc]at hy;obtain⟨a,ef,dA⟩:=bw hy;obtain⟨g,e2,ht⟩:∃g e1,Syn.take ts a.f uo=(g,e1):=⟨_,_,rfl⟩;rw[ht]at dA;simp only at dA;cases dA
    have c6:=c7.lt (.inl (by rw[c5];decide));have er:=wrap64 (n:=x.at'+1) (by omega);have e2'':IntKind.i64.wrap ((x.at':Int)+1)=((x.at'+1:Nat):Int):=by rw[<-er];congr 1
    refine NB da [0,1,2,3] rfl gz (by rfl) (ps:=[sg pb _]) (F:=[D3,A3,B3]) rfl (iV (h:=x) (a:=xa) (k:=xk) (by omega)) fun v I4 qs cb ao hq=>?_;obtain⟨rfl,rfl,rfl⟩:=hq;simp only[SS,SU]at cb |-;apply RG;simp only[go_sem,iv,pt,sD,rD,dw,e2'',Ud];refine yt mixed [0,1,2,3,4,5,6,9,10] 7 8 [11,12,13,14,15,16] [11,12,13,14,15,16] [] [] rfl rfl ?_;apply jR;simp only[go_sem,iv,pt,sD,rD,e2''];simp only[Te,Tu]at ca hm c4;refine ry ?_ ?_
    ·refine aZ cb (by exact gY) rfl rfl rfl rfl rfl (by decide) fun nb I5 dT b6 dI=>?_;apply af;simp only[go_sem,iv,pt,sD,rD];refine Og dT [0,1,2,3] rfl (fun h=>by cases h) rfl gy (by rfl) (ps:=[]) (F:=[sg pb _,D3,A3,B3]) rfl (iz (s:=uo)) fun vi I6 qs c9 b5 hq=>?_;obtain⟨rfl,dj⟩:=hq;simp only[SS,SU]at c9 |-;obtain⟨fi,first,cap,rfl,gi,ci⟩:=id dj;apply af;simp only[go_sem,iv,pt,sD,rD];have kk:I4.le I6:=Ui b6 b5;have d4:du I6 (.slice (some ⟨nb,0,none⟩) 1 1) (bh x):=⟨_,_,rfl,.inr ⟨nb,0,[iv (x.at'+1),sD xa xk x.cond,rD x.cond],rfl,(az dI (by simp[aE,Value.cells]) (by simp[aE,Value.cells,iv,sD,rD])).le b5,.one ⟨_,_,rfl,a6.le kk⟩⟩⟩;refine Og c9 [0,1,2,3] rfl (fun h=>by cases h) rfl v7 (by rfl) (ps:=[sg pb _,D3]) (F:=[A3,B3]) rfl (Fm (n:=m) ef (vi:=.func (.func fi) first cap) (vr:=.func (.func 264) #[pt pb] #[]) (by rw[oo];exact(Es.le dj (Uj _)).toP) (vH ih (by omega)) (h3.le kk) d4 (bm c7 c6) (hE.le kk) (by simp only[Tu];omega)) fun v I7 qs b1 a9 hq=>?_;obtain⟨dv6,D6,rs,rfl,d1,⟨A6,B6,va6,vb6,rfl,rfl,c2,d3⟩,dk,eo⟩:=hq;have b2:=c2.capN aW.len;obtain⟨ka,kc,rfl⟩:=c2.shape;simp only[SS,SU]at b1 |-;apply af;simp only[go_sem,iv,pt,sD,rD];refine aw ?_;apply RG;simp only[go_sem,iv,pt,sD,rD];refine ab b1 [2,0,1,3,4,5] rfl fun b0=>?_;simp only[Z4]at b0 |-;refine ag b0 fun I8 ct an c3=>?_;have d0:db I8 (.slice ka a.l.length kc) a.l:=c2.sl an c3;refine av ct (by exact cT) rfl rfl rfl rfl rfl (by decide) fun nb2 I9 cr am cf=>?_;apply RG;simp only[go_sem,iv,pt,sD,rD];refine ab cr [3,0,1,2,4] rfl fun a2=>?_;simp only[Z4]at a2 |-
     have dy:=Ui kk (Ui a9 (Ui an am));obtain⟨bs,aS,cx⟩:=hA;obtain⟨xsa,xsc,rfl⟩:=aS.slice;unfold aF at c4 dd;refine dr (m:=1) a2 (by exact cT) aS rfl rfl rfl rfl (cellsU a2 (.head _) (az (l:=[.int .u8 6,.string ⟨#[]⟩,.int .i64 x.at',.int .i64 slot,.slice ka a.l.length kc,.slice xa (T.subs x.cond).length xk,iv (T.plc (T.subs x.cond) x.cond)]) cf (by simp[aE,Value.cells]) (by simp[aE,Value.cells,iv]))) rfl rfl (by omega) (by unfold maxLen;omega) fun v' eb A10 cp ak b4=>?_;obtain⟨na,nc,rfl⟩:=b4.slice;have k410:=Ui dy ak;have d5:br eb A10 (.slice na (ri.l.length+1) nc) (ri.l++[⟨6,[],x.at',slot,a.l,x.cond⟩]):=by
      refine⟨_,by rw[Tu];exact b4,LR.app (cx.mono fun _ _ h=>aW.le h k410) (.one (aW.mk (n:=⟨6,[],x.at',slot,a.l,x.cond⟩) (a6.le k410) (d0.le (Ui am ak)) b2))⟩
     apply RG;simp only[go_sem,iv,pt,sD,rD];refine ab cp [3,0,1,2,4] rfl fun bx=>?_;simp only[Z4]at bx |-;refine ag bx fun ea cn aj c1=>?_;have k711:=Ui an (Ui am (Ui ak aj));have cA:du ea vb6 a.f:=d3.sl k711 c1;have k411:=Ui k410 aj;refine NB cn [1,2,0,3] rfl fQ (by rfl) (ps:=[sg pb _,D6]) (F:=[A10,B3]) rfl (ii (s:=uo) (h3.le k411) cA dk (by decide) (d1.le k711) (by rw[ht];simp only[Tu];omega)) fun v es qs bd ap hq=>?_;obtain⟨dv10,D10,rs,rfl,a3,B10,rfl,a4⟩:=hq;rw[ht]at a3 a4;have tf:=cN h.ok dk (s:=uo) (by decide);rw[ht]at tf;simp only at a3 a4 tf;simp only[SS,SU]at bd |-;apply RG;simp only[go_sem,iv,pt,sD,rD];refine ab bd [2,0,1,3,4] rfl fun bc=>?_;simp only[Z4]at bc |-;refine ag bc fun d9 cm aa c0=>?_;have cy:du d9 v g:=a4.sl aa c0;have k413:=Ui k411 (Ui ap aa);refine NB cm [3,0,1,2] rfl dp (by rfl) (ps:=[B3]) (F:=[sg pb _,D10,A10]) rfl (b7 (N:=ts.length) (by omega) (hB.le k413) cB cy tf) fun v d7 qs a1 ac hq=>?_;obtain⟨B14,rfl,b3⟩:=hq;simp only[SS,SU]at a1 |-;apply RG;simp only[go_sem,iv,pt,sD,rD];refine Qz (l:=[.int .i64 ((o+1:Nat):Int)]) rfl (cellsU a1 (.tail _ (.tail _ (.head _))) (aU (by simp[bD]) rfl)) (.inr ⟨mF,rfl⟩) ?_;apply RG;simp only[go_sem,iv,pt,sD,rD,iq o ho];refine ab a1 [1,2,3,0] rfl fun bb=>?_;simp only[Z4]at bb |-;refine cG bb rfl rfl rfl rfl rfl (by exact Gn) (by simp) fun cl=>?_;apply RG;simp only[go_sem,iv,pt,sD,rD,dw];obtain⟨ta,tc,rfl⟩:=b3.shape
     refine a5 (i+1,.slice na (ri.l.length+1) nc,.slice ta (Syn.joinAll ri.f g).length tc,dv10) _ _ (by simp only;omega) (ae (by simp only[go_sem,Tq,iv,pt])) (by simp only[go_sem,Tq,L0]) ⟨d7,D10,A10,B14,_,rfl,cl,Ui a0 (Ui k413 ac),c8,ba,by simpa[Te]using a3.le (Ui aa ac),br.le d5 (Ui aj (Ui ap (Ui aa ac))),b3,cB.joinAll tf,by simp only[Tu];unfold aF;exact c4⟩
    ·refine Og cb [0,1,2,3] rfl (fun h=>by cases h) rfl gy (by rfl) (ps:=[]) (F:=[sg pb _,D3,A3,B3]) rfl (iz (s:=uo)) fun vi I6 qs c9 b5 hq=>?_;obtain⟨rfl,dj⟩:=hq;simp only[SS,SU]at c9 |-;obtain⟨fi,first,cap,rfl,gi,ci⟩:=id dj;apply af;simp only[go_sem,iv,pt,sD,rD];refine aZ c9 (by exact gY) rfl rfl rfl rfl rfl (by decide) fun nb I5 dT b6 dI=>?_;apply af;simp only[go_sem,iv,pt,sD,rD];have kk:I4.le I5:=Ui b5 b6;have d4:du I5 (.slice (some ⟨nb,0,none⟩) 1 1) (bh x):=⟨_,_,rfl,.inr ⟨nb,0,[iv (x.at'+1),sD xa xk x.cond,rD x.cond],rfl,(az dI (by simp[aE,Value.cells]) (by simp[aE,Value.cells,iv,sD,rD])).le (Uj _),.one ⟨_,_,rfl,a6.le kk⟩⟩⟩;refine Og dT [0,1,2,3] rfl (fun h=>by cases h) rfl v7 (by rfl) (ps:=[sg pb _,D3]) (F:=[A3,B3]) rfl (Fm (n:=m) ef (vi:=.func (.func fi) first cap) (vr:=.func (.func 264) #[pt pb] #[]) (by rw[oo];exact(Es.le dj b6).toP) (vH ih (by omega)) (h3.le kk) d4 (bm c7 c6) (hE.le kk) (by simp only[Tu];omega)) fun v I7 qs b1 a9 hq=>?_;obtain⟨dv6,D6,rs,rfl,d1,⟨A6,B6,va6,vb6,rfl,rfl,c2,d3⟩,dk,eo⟩:=hq;have b2:=c2.capN aW.len;obtain⟨ka,kc,rfl⟩:=c2.shape;simp only[SS,SU]at b1 |-;apply af;simp only[go_sem,iv,pt,sD,rD];refine aw ?_;apply RG;simp only[go_sem,iv,pt,sD,rD];refine ab b1 [2,0,1,3,4,5] rfl fun b0=>?_;simp only[Z4]at b0 |-;refine ag b0 fun I8 ct an c3=>?_;have d0:db I8 (.slice ka a.l.length kc) a.l:=c2.sl an c3;refine av ct (by exact cT) rfl rfl rfl rfl rfl (by decide) fun nb2 I9 cr am cf=>?_;apply RG;simp only[go_sem,iv,pt,sD,rD];refine ab cr [3,0,1,2,4] rfl fun a2=>?_;simp only[Z4]at a2 |-
     have dy:=Ui kk (Ui a9 (Ui an am));obtain⟨bs,aS,cx⟩:=hA;obtain⟨xsa,xsc,rfl⟩:=aS.slice;unfold aF at c4 dd;refine dr (m:=1) a2 (by exact cT) aS rfl rfl rfl rfl (cellsU a2 (.head _) (az (l:=[.int .u8 6,.string ⟨#[]⟩,.int .i64 x.at',.int .i64 slot,.slice ka a.l.length kc,.slice xa (T.subs x.cond).length xk,iv (T.plc (T.subs x.cond) x.cond)]) cf (by simp[aE,Value.cells]) (by simp[aE,Value.cells,iv]))) rfl rfl (by omega) (by unfold maxLen;omega) fun v' eb A10 cp ak b4=>?_;obtain⟨na,nc,rfl⟩:=b4.slice;have k410:=Ui dy ak;have d5:br eb A10 (.slice na (ri.l.length+1) nc) (ri.l++[⟨6,[],x.at',slot,a.l,x.cond⟩]):=by
      refine⟨_,by rw[Tu];exact b4,LR.app (cx.mono fun _ _ h=>aW.le h k410) (.one (aW.mk (n:=⟨6,[],x.at',slot,a.l,x.cond⟩) (a6.le k410) (d0.le (Ui am ak)) b2))⟩
     apply RG;simp only[go_sem,iv,pt,sD,rD];refine ab cp [3,0,1,2,4] rfl fun bx=>?_;simp only[Z4]at bx |-;refine ag bx fun ea cn aj c1=>?_;have k711:=Ui an (Ui am (Ui ak aj));have cA:du ea vb6 a.f:=d3.sl k711 c1;have k411:=Ui k410 aj;refine NB cn [1,2,0,3] rfl fQ (by rfl) (ps:=[sg pb _,D6]) (F:=[A10,B3]) rfl (ii (s:=uo) (h3.le k411) cA dk (by decide) (d1.le k711) (by rw[ht];simp only[Tu];omega)) fun v es qs bd ap hq=>?_;obtain⟨dv10,D10,rs,rfl,a3,B10,rfl,a4⟩:=hq;rw[ht]at a3 a4;have tf:=cN h.ok dk (s:=uo) (by decide);rw[ht]at tf;simp only at a3 a4 tf;simp only[SS,SU]at bd |-;apply RG;simp only[go_sem,iv,pt,sD,rD];refine ab bd [2,0,1,3,4] rfl fun bc=>?_;simp only[Z4]at bc |-;refine ag bc fun d9 cm aa c0=>?_;have cy:du d9 v g:=a4.sl aa c0;have k413:=Ui k411 (Ui ap aa);refine NB cm [3,0,1,2] rfl dp (by rfl) (ps:=[B3]) (F:=[sg pb _,D10,A10]) rfl (b7 (N:=ts.length) (by omega) (hB.le k413) cB cy tf) fun v d7 qs a1 ac hq=>?_;obtain⟨B14,rfl,b3⟩:=hq;simp only[SS,SU]at a1 |-;apply RG;simp only[go_sem,iv,pt,sD,rD];refine Qz (l:=[.int .i64 ((o+1:Nat):Int)]) rfl (cellsU a1 (.tail _ (.tail _ (.head _))) (aU (by simp[bD]) rfl)) (.inr ⟨mF,rfl⟩) ?_;apply RG;simp only[go_sem,iv,pt,sD,rD,iq o ho];refine ab a1 [1,2,3,0] rfl fun bb=>?_;simp only[Z4]at bb |-;refine cG bb rfl rfl rfl rfl rfl (by exact Gn) (by simp) fun cl=>?_;apply RG;simp only[go_sem,iv,pt,sD,rD,dw];obtain⟨ta,tc,rfl⟩:=b3.shape
     refine a5 (i+1,.slice na (ri.l.length+1) nc,.slice ta (Syn.joinAll ri.f g).length tc,dv10) _ _ (by simp only;omega) (ae (by simp only[go_sem,Tq,iv,pt])) (by simp only[go_sem,Tq,L0]) ⟨d7,D10,A10,B14,_,rfl,cl,Ui a0 (Ui k413 ac),c8,ba,by simpa[Te]using a3.le (Ui aa ac),br.le d5 (Ui aj (Ui ap (Ui aa ac))),b3,cB.joinAll tf,by simp only[Tu];unfold aF;exact c4⟩
  ·have d6:(x.text == [123])=false:=by
    rw[Uf];exact c5
   rw[SI c5]at hy;cases hy
   apply RG;simp only[go_sem,ds,iv,pt,sD,rD,d6,T7];refine NB da [0,1,2,3] rfl iJ (by rfl) (ps:=[sg pb _,D3]) (F:=[A3,B3]) rfl (kN h3 c7.le a6 hE (by simp[bR]at ca |-;omega)) fun v I4 qs cb ao hq=>?_;obtain⟨dv2,D4,rs,rfl,d2,rfl⟩:=hq;simp only[SS,SU]at cb |-;apply RG;simp only[go_sem,iv,pt,sD,rD,dw];exact a5 (i+1,va,vb,dv2) _ _ (by simp only;omega) (ae (by simp only[go_sem,Tq,iv,pt])) (by simp only[go_sem,Tq,L0]) ⟨I4,D4,A3,B3,_,rfl,cb,Ui a0 ao,c8,ba,by simp only;rw[<-Te];exact d2,by simpa using hA.le ao,hB.le ao,cB,by simpa using dd⟩
 ·have ei:i=a7.length:=by omega
  subst ei;have ds:=Z6 a7.length;rw[T4]at dx;cases dx
  apply RG;simp only[go_sem,ds,iv,pt];exact ai rfl da (r:=[va,vb]) rfl (Ui cj a0) ⟨_,D3,[A3,B3],rfl,hE,⟨A3,B3,va,vb,rfl,rfl,hA,hB⟩,cB,dd⟩
end
end Go.Proofs.YtfaclfkpnmcmlaaGreatDoor
