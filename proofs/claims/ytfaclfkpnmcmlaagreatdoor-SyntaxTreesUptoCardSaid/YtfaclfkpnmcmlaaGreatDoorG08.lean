import Derived.Test.YtfaclfkpnmcmlaaGreatDoorG07
import Derived.Scope
set_option maxHeartbeats 8000000
set_option linter.all false
namespace Go.Ke
open Go Go.Sx
 noncomputable def lN(c:Nat):List (KS×cA)->List Nat->List Nat
 | [],ws=>ws
 |p::l,ws=>lN c l (iy c p.2.s.c p.2.ws ws)
section
variable {X:bQ} {G N:Nat} {call:c8}
def zB(y:f8 X G call){ol:List Oper}{cl:Nat->Nat->Bool}{B:io}:∀{rem:List Oper} {k:Nat} {acc:List (Nat×KS×cA)} {τ τ':Tr LV} {s s':KS} {l:List (KS×cA)} {ws:List Nat},iB X G N call ol cl k acc rem τ s=some (l,τ',s')->gx B s ws->gx B s' (lN B.c l ws)/\s.c<=s'.c/\
  (∀id,(∀p∈l,∀i,(fK i p).dom id=false)->s'.L.get id=s.L.get id/\cJ B.M (lN B.c l ws) B.c s'.c s'.L id=cJ B.M ws B.c s.c s.L id)/\(∀id,(∃p∈l,∃i,(fK i p).dom id=true)->cJ B.M (lN B.c l ws) B.c s'.c s'.L id=s'.L.get id)
 | [],k,acc,τ,τ',s,s',l,ws,h,u=>by simp only[iB,bv,eL]at h;obtain⟨rfl,_,rfl⟩:=h;exact⟨u,aW _,fun id _=>⟨rfl,rfl⟩,fun id ⟨p,hp,_⟩=>by cases hp⟩
 |o::rem,k,acc,τ,τ',s,s',l,ws,h,u=>by
  simp only[iB]at h;split at h
  .cases h
  .rename_i r hr;split at h
   .cases h
   .rename_i C hp;split at h
    .cases h
    .rename_i l' A D m;cases h
     have f:s.c<=r.s.c/\(∀id,id∉r.ws->¬(s.c<=id/\id<r.s.c)->r.s.L.get id=s.L.get id)/\∀id∈r.ws,∃ob,s.L.get id=some ob:=by
      rcases qQ (u6 y _) hr with g|⟨_,g⟩
      .exact⟨g.cle,g.keep,fun id e=>(g.sub id e).1⟩
      .subst g;exact⟨aW _,fun _ _ _=>rfl,fun id e=>by cases e⟩
     obtain⟨t,j⟩:=u.step (X:=X) (G:=G) (ol:=ol) (o:=o) (τ:=τ) (r:=r) f;obtain⟨a,b,c,d⟩:=zB y (ws:=iy B.c r.s.c r.ws ws) m t;have q:∀id i,(fK i (s,r)).dom id=false->id∉r.ws/\¬(s.c<=id/\id<r.s.c):=by intro id i hd;exact(F5 (S:=fun _=>s) (R:=fun _=>r) (i:=i)).1 hd
     have n:∀id i,(fK i (s,r)).dom id=true->id∈r.ws\/(s.c<=id/\id<r.s.c):=by intro id i hd;exact(ly (S:=fun _=>s) (R:=fun _=>r) (i:=i)).1 hd
     refine⟨a,cO f.1 b,fun id e=>?_,fun id e=>?_⟩
     .obtain⟨v,c2⟩:=c id fun p hp i=>e p (.tail _ hp) i;obtain⟨d1,d2⟩:=q id 0 (e _ (.head _) 0);refine⟨by rw[v];exact f.2.1 id d1 d2,?_⟩;simp only[lN];rw[c2,<-j];unfold cJ;rw[ad (by rintro(h|h);exact d1 h;exact d2 h)]
     .simp only[lN];by_cases x:∃p∈l',∃i,(fK i p).dom id=true
      .exact d id x
      .have w:∀p∈l',∀i,(fK i p).dom id=false:=by
        intro p hp i;cases z:(fK i p).dom id with
        |false=>rfl
        |true=>exact absurd ⟨p,hp,i,z⟩ x
       obtain⟨v,c2⟩:=c id w;obtain⟨p,hp,i,hd⟩:=e;rcases List.mem_cons.1 hp with rfl|hp
       .rw[c2,v,<-j];unfold cJ;rw[ak (n id i hd)]
       .rw[w p hp i]at hd;cases hd
variable{k:List Item}{ops:Array Oper}
def Ln{C:Cx}(d:C.P=X.P)(g:f8 X G call){B:io}{id:Nat}{τ τ':Tr LV}{s s':KS}{ws ws':List Nat}(h:iC X G N call B.c ops.toList ops.toList τ s ws=some (τ',s',ws'))(b:gx B s ws)(hf:lq B.M B.e B.c s'.c)
  (f:∀e I H σ,kG X G N B τ' s' ws' e I H σ->R C k σ H) {e:aH} {I H:PH} {σ:St} (a:kG X G N B τ s ws e I H σ):R C (.code (.region id ops false)::k) σ H:=by
 refine E0 ?_;rw[d];exact Gf g h b hf f a
def Lm{C:Cx}(hP:C.P=X.P)(hm:C.P.follows .mixedOrders=true)(Q:f8 X G call){B:io}{id:Nat}{τ τ':Tr LV}{s s':KS}{ws:List Nat}{l:List (KS×cA)}{cl:Nat->Nat->Bool}(h:iB X G N call ops.toList cl 0 [] ops.toList τ s=some (l,τ',s'))
  (h1:tN ops.toList cl) (h2:nO cl (j4 0 l)=true) (h3:zm ops.toList cl=true) (A:gx B s ws) (hf:lq B.M B.e B.c s'.c)
  (hK:∀e I H σ,kG X G N B τ' s' (lN B.c l ws) e I H σ->R C k σ H) {e:aH} {I H:PH} {σ:St} (m:kG X G N B τ s ws e I H σ):R C (.code (.region id ops true)::k) σ H:=by
 obtain⟨T,S,r,hd,t0,D,t2,t3,t4,t5,t6,t7,_⟩:=Gd h;have f:jZ X G N call ops.toList hd T S r:=⟨t6⟩;obtain⟨g1,g2,g3,g4⟩:=zB Q h A;have aa:ops.toList.length=ops.size:=kA;have z:ML ops.toList S r (cJ B.M ws B.c s.c s.L) (fun _=>true)=cJ B.M (lN B.c l ws) B.c s'.c s'.L:=by
  funext j;unfold ML;rw[sO (q:=dS S r j) fun i _=>by simp];have hm:=f.mem Q j (j:=ops.toList.length) (aW _);rw[t3]at hm;cases u:last (dS S r j) ops.toList.length with
  |none=>
   rw[u]at hm;have d:∀p∈l,∀i,(fK i p).dom j=false:=by
    intro p hp i;obtain⟨q,U⟩:=List.mem_iff_getElem?.1 hp;have J:q<ops.toList.length:=by
     rcases aB q l.length with h|h
     .omega
     .rw[fW h]at U;cases U
    rw[t5 q J]at U;cases U;cases hx:dS S r j q with
    |true=>
     exfalso;have:∀n,q<n->last (dS S r j) n≠none:=by
      intro n
      induction n with
      |zero=>intro h;omega
      |succ n Z=>
       intro h;simp only[last];split
       .simp
       .rename_i V;rcases aB q n with h'|h'
        .exact Z h'
        .have:q=n:=by omega
         subst this;exact absurd hx V
     exact this _ J u
    |false=>exact hx
   exact(g3 j d).2.symm
  |some i=>rw[u]at hm;obtain⟨a,b⟩:=CX u;simp only;rw[g4 j ⟨(S i,r i),List.mem_iff_getElem?.2 ⟨i,t5 i a⟩,i,b⟩,hm]
 refine t8 fun a w st g=>wpIn_region_any hm ?_;rw[hP];have F:DI X G N ops.toList T S r B (cJ B.M ws B.c s.c s.L) (fun i=>(Array.replicate ops.size false).getD i false) e I H σ:=by
  have hz:(fun i=>(Array.replicate ops.size false).getD i false)=fun _=>false:=by funext i;rw[en,Array.getElem?_replicate];split<;>rfl
  rw[hz];have d:∀(p:Nat->Bool) n,last (fun i=>false && p i) n=none:=by
   intro p n
   induction n with
   |zero=>rfl
   |succ n Z=>simp only[last,Bool.false_and,iN,gT];simpa using Z
  refine⟨m.ge,m.le,fun i hi _ j ha hb=>?_,fun j W=>?_,?_,m.ile,m.sr.bx,m.sr.len,fun t v hv=>?_⟩
  .have m1:=f.mono Q (i:=0) (j:=i) O O;have m2:=f.mono Q (i:=i+1) (j:=ops.toList.length) O O;rw[D]at m1;rw[t3]at m2;exact(A.fresh m.out hf j O O).2
  .rw[t3]at W;exact m.out j O
  .have:ML ops.toList S r (cJ B.M ws B.c s.c s.L) (fun _=>false)=cJ B.M ws B.c s.c s.L:=by funext j;unfold ML;rw[d]
   rw[this];exact m.rel
  .unfold TL at hv;rw[d,t0]at hv;exact m.sr.tm t v hv
 refine L6 Q f (B:=B) (M:=cJ B.M ws B.c s.c s.L) (by rw[D];exact A.hasM) (by rw[D];exact A.bd) (fun j ha hb=>?_) (by rw[D];exact A.cle) h1 (fun i j K W V=>OF t5 h2 h3 K W V (t7 i j K W (by simpa using V))) rfl (fun e I H σ x=>hK e I H σ ?_)
  ops.size (List.range ops.size) _ ai ai List.nodup_range (fun i=>?_) (fun y o ho u=>?_) F (w:={ w with drawn:=w.drawn+1 }) ?_ ?_
 .rw[D]at ha;rw[t3]at hb;exact(A.fresh m.out hf j ha hb).1
 .refine⟨x.ge,x.le,by rw[<-t3];exact x.out,by rw[<-z];exact x.rel,x.ile,⟨x.bx,x.len,fun t v hv=>x.tm t v ?_⟩⟩;rw[<-t2,f.tm t (aW _)]at hv;unfold TL;rw[sO (q:=gN ops.toList t) fun i _=>by simp];exact hv
 .constructor
  .intro hi;have hi:=List.mem_range.1 hi;exact⟨hi,by simp[en,hi]⟩
  .rintro⟨hi,_⟩;exact List.mem_range.2 hi
 .exfalso;rw[en,Array.getElem?_replicate]at u;split at u<;>cases u
 .exact⟨st.sub,st.size,st.priv,st.dom,st.os,st.tape,st.out⟩
 .obtain⟨β,g⟩:=g;exact⟨β,g.defers,g.size,g.tm,g.bx,g.inj,g.lo,g.keys⟩
end
open Go Go.Sx
 noncomputable def lH(P:Program)(τ:Tr LV)(L:Tr LO):List ResultVar->Option (List LV)
 | []=>some []
 | .tmp t::l=>match τ.get t,lH P τ L l with
  |some x,some r=>some (x::r)
  |_,_=>none
 | .cell t T::l=>match τ.get t,lH P τ L l with
  |some (.p id off),some r=>match L.get id with
   |some (.cells c _ _)=>match nT P T c off with
    |some x=>some (x::r)
    |none=>none
   |_=>none
  |_,_=>none
 noncomputable def nW:List LV->LV
 | [v]=>v
 |l=>.tu l
 noncomputable def sN:Nat->List LV->Tr LV->Option (Tr LV)
 |_,[],τ=>some τ
 |i,x::l,τ=>match τ.put i x with|some a=>sN (i+1) l a|none=>none
abbrev lu:=Nat->Nat->List ResultVar->List Item->Tr LV->KS->List Nat->Option (LV×KS×List Nat)
 noncomputable def qt(X:bQ)(a:c8)(run:lu):c8:=fun f args s=>
 match a f args s with
 |some r=>some r
 |none=>match X.P.funcs[f]? with
  |some fn=>match fn.body with
   |some body=>if args.length<=fn.ntmps/\(fn.name == "runtime.NumGoroutine")=false then match sN 0 args .lf with
    |some τ=>run s.c fn.ntmps fn.results.toList [.code body] τ s []
    |none=>none else none
   |none=>none
  |none=>none
 noncomputable def mH(X:bQ)(G:Nat)(call:c8)(run:lu):lu:=fun c0 N res k τ s ws=>
 match k with
 | []=>match lH X.P τ s.L res with|some r=>some (nW r,s,ws)|none=>none
 | .code .ret::_=>match lH X.P τ s.L res with|some r=>some (nW r,s,ws)|none=>none
 | .code .skip::k=>run c0 N res k τ s ws
 | .code (.label _)::k=>run c0 N res k τ s ws
 | .inBlock _::k=>run c0 N res k τ s ws
 | .inScope _::k=>run c0 N res k τ s ws
 | .code (.seq a b)::k=>run c0 N res (.code a::.code b::k) τ s ws
 | .code (.cond c x y)::k=>match iA τ G c with|some (.v (.bool b))=>run c0 N res (.code (if b then x else y)::k) τ s ws|_=>none
 | .code (.block id b)::k=>run c0 N res (.code b::.inBlock id::k) τ s ws
 | .code (.scope b)::k=>run c0 N res (.code b::.inScope b::k) τ s ws
 | .code (.loop b)::k=>run c0 N res (.code b::.inLoop b::k) τ s ws
 | .inLoop b::k=>run c0 N res (.code b::.inLoop b::k) τ s ws
 | .code (.exit id)::k=>match exitTo id k with|some e=>run c0 N res e τ s ws|none=>none
 | .code (.region _ ops false)::k=>match iC X G N call c0 ops.toList ops.toList τ s ws with
  |some (d,s',ws')=>run c0 N res k d s' ws'
  |none=>none
 | .code (.region _ ops true)::k=>match iB X G N call ops.toList (l8 (iF 0 ops.toList .lf)) 0 [] ops.toList τ s with
  |some (l,d,s')=>if mu 0 ops.toList=true/\nO (l8 (iF 0 ops.toList .lf)) (j4 0 l)=true/\zm ops.toList (l8 (iF 0 ops.toList .lf))=true then run c0 N res k d s' (lN c0 l ws)else none
  |none=>none
 |_=>none
 noncomputable def BY(X:bQ)(G N:Nat)(call:c8)(c0:Nat)(ol:List Oper)(l:List Oper):Tr LV->KS->List Nat->Option (Tr LV×KS×List Nat):=
 List.rec (motive:=fun _=>Tr LV->KS->List Nat->Option (Tr LV×KS×List Nat)) (fun τ s ws=>some (τ,s,ws))
  (fun o _ e τ s ws=>match jq X G call ol o τ s with
   |none=>none
   |some ⟨v,a,_,d,_⟩=>match iI τ N o.dst v with
    |none=>none
    |some b=>e b a (iy c0 a.c d ws)) l
def Ge{X:bQ}{G N:Nat}{call:c8}{c0:Nat}{ol:List Oper}:∀{l:List Oper} {τ:Tr LV} {s:KS} {ws:List Nat},BY X G N call c0 ol l τ s ws=iC X G N call c0 ol l τ s ws
 | [],_,_,_=>rfl
 |o::l,τ,s,ws=>by
  show (match jq X G call ol o τ s with
   |none=>none
   |some ⟨v,a,_,d,_⟩=>match iI τ N o.dst v with
    |none=>none
    |some b=>BY X G N call c0 ol l b a (iy c0 a.c d ws))=_
  simp only[iC];cases jq X G call ol o τ s with
  |none=>rfl
  |some r=>
   obtain⟨v,a,fp,d,cl⟩:=r;simp only;cases iI τ N o.dst v with
   |none=>rfl
   |some b=>exact Ge
 noncomputable def BW(X:bQ)(G N:Nat)(call:c8)(ol:List Oper)(cl:Nat->Nat->Bool)(i:Nat)(a:List (Nat×KS×cA))(l:List Oper):Tr LV->KS->Option (List (KS×cA)×Tr LV×KS):=fun τ s=>
 List.rec (motive:=fun _=>Nat->List (Nat×KS×cA)->Tr LV->KS->Option (List (KS×cA)×Tr LV×KS)) (fun _ _ τ s=>some ([],τ,s))
  (fun o _ h i a τ s=>match jq X G (nF (nE (cl i) a) call) ol o τ s with
   |none=>none
   |some ⟨v,c,fp,d,b⟩=>match iI τ N o.dst v with
    |none=>none
    |some f=>match h (i+1) ((i,s,(⟨v,c,fp,d,b⟩:cA))::a) f c with
     |none=>none
     |some (l,e,g)=>some ((s,(⟨v,c,fp,d,b⟩:cA))::l,e,g)) l i a τ s
def Gc{X:bQ}{G N:Nat}{call:c8}{ol:List Oper}{cl:Nat->Nat->Bool}:∀{l:List Oper} {i:Nat} {acc:List (Nat×KS×cA)} {τ:Tr LV} {s:KS},BW X G N call ol cl i acc l τ s=iB X G N call ol cl i acc l τ s
 | [],_,_,_,_=>rfl
 |o::l,i,acc,τ,s=>by
  show (match jq X G (nF (nE (cl i) acc) call) ol o τ s with
   |none=>none
   |some ⟨v,a,fp,c,b⟩=>match iI τ N o.dst v with
    |none=>none
    |some d=>match BW X G N call ol cl (i+1) ((i,s,(⟨v,a,fp,c,b⟩:cA))::acc) l d a with
     |none=>none
     |some (l,e,f)=>some ((s,(⟨v,a,fp,c,b⟩:cA))::l,e,f))=_
  simp only[iB];cases jq X G (nF (nE (cl i) acc) call) ol o τ s with
  |none=>rfl
  |some r=>
   obtain⟨v,a,fp,c,b⟩:=r;simp only;cases iI τ N o.dst v with
   |none=>rfl
   |some d=>simp only[Gc];rfl
 noncomputable def zT(X:bQ)(G:Nat)(call:c8)(run:lu):lu:=fun c0 N res k τ s ws=>
 match k with
 | []=>match lH X.P τ s.L res with|some r=>some (nW r,s,ws)|none=>none
 | .code .ret::_=>match lH X.P τ s.L res with|some r=>some (nW r,s,ws)|none=>none
 | .code .skip::k=>run c0 N res k τ s ws
 | .code (.label _)::k=>run c0 N res k τ s ws
 | .inBlock _::k=>run c0 N res k τ s ws
 | .inScope _::k=>run c0 N res k τ s ws
 | .code (.seq a b)::k=>run c0 N res (.code a::.code b::k) τ s ws
 | .code (.cond c x y)::k=>match iA τ G c with|some (.v (.bool b))=>run c0 N res (.code (if b then x else y)::k) τ s ws|_=>none
 | .code (.block id b)::k=>run c0 N res (.code b::.inBlock id::k) τ s ws
 | .code (.scope b)::k=>run c0 N res (.code b::.inScope b::k) τ s ws
 | .code (.loop b)::k=>run c0 N res (.code b::.inLoop b::k) τ s ws
 | .inLoop b::k=>run c0 N res (.code b::.inLoop b::k) τ s ws
 | .code (.exit id)::k=>match exitTo id k with|some e=>run c0 N res e τ s ws|none=>none
 | .code (.region _ ops false)::k=>match BY X G N call c0 ops.toList ops.toList τ s ws with
  |some (d,s',ws')=>run c0 N res k d s' ws'
  |none=>none
 | .code (.region _ ops true)::k=>match BW X G N call ops.toList (l8 (iF 0 ops.toList .lf)) 0 [] ops.toList τ s with
  |some (l,d,s')=>if mu 0 ops.toList=true/\nO (l8 (iF 0 ops.toList .lf)) (j4 0 l)=true/\zm ops.toList (l8 (iF 0 ops.toList .lf))=true then run c0 N res k d s' (lN c0 l ws)else none
  |none=>none
 |_=>none
variable{run:lu}
def Vd{X:bQ}{G:Nat}{call:c8}:zT X G call run=mH X G call run:=by funext c0 N res k τ s ws;unfold zT mH;simp only[Ge,Gc]
 noncomputable def wj(X:bQ)(G:Nat)(a:c8)(n:Nat):lu:=
 Nat.rec (motive:=fun _=>lu) (fun _ _ _ _ _ _ _=>none) (fun _ b=>zT X G (qt X a b) b) n
structure uf(X:bQ)(G:Nat)(run:lu):Prop where
 cle:∀{c0 N res k τ s ws v s' ws'},run c0 N res k τ s ws=some (v,s',ws')->s.c<=s'.c
 staW:∀{c0 N res k τ s ws v s' ws'},run c0 N res k τ s ws=some (v,s',ws')->∀{L:Tr LO},l3 L c0 s ws->l3 L c0 s' ws'/\s.c<=s'.c
 sta:∀{c0 N res k τ s ws v s' ws'},run c0 N res k τ s ws=some (v,s',ws')->∀{B:io},B.c=c0->gx B s ws->gx B s' ws'
 does:∀{c0 N res k τ s ws v s' ws'},run c0 N res k τ s ws=some (v,s',ws')->∀{B:io},B.c=c0->gx B s ws->lq B.M B.e B.c s'.c->∀{C:Cx},C.P=X.P->C.P.follows .mixedOrders=true->C.fn.results.toList=res->
  C.post=(fun y H2=>∃e2 I2,B.e.le e2/\(∀id,¬(B.c<=id/\id<s'.c)->e2 id=B.e id)/\VR e2 v y/\cD X e2 (cJ B.M ws' B.c s'.c s'.L) I2 H2/\B.I.le I2)->C.rd=none->∀{e I H σ},kG X G N B τ s ws e I H σ->R C k σ H
def Jb{X:bQ}{G N:Nat}{call:c8}(g:f8 X G call){L:Tr LO}{c:Nat}{ol:List Oper}{cl:Nat->Nat->Bool}:∀{rem:List Oper} {k:Nat} {acc:List (Nat×KS×cA)} {τ τ':Tr LV} {s s':KS} {l:List (KS×cA)} {ws:List Nat},iB X G N call ol cl k acc rem τ s=some (l,τ',s')->l3 L c s ws->l3 L c s' (lN c l ws)/\s.c<=s'.c
 | [],k,acc,τ,τ',s,s',l,ws,h,f=>by simp only[iB,bv,eL]at h;obtain⟨rfl,_,rfl⟩:=h;exact⟨f,aW _⟩
 |o::rem,k,acc,τ,τ',s,s',l,ws,h,f=>by
  simp only[iB]at h;split at h
  .cases h
  .rename_i r hr;split at h
   .cases h
   .split at h
    .cases h
    .rename_i l' i j e;cases h
     have d:=zU (u6 g _) hr;obtain⟨a,b⟩:=Jb g e (f.step d);exact⟨a,cO d.1 b⟩
def BZ{X:bQ}{G N:Nat}{call:c8}(a:f8 X G call){c:Nat}{ol:List Oper}:∀{rem:List Oper} {τ τ':Tr LV} {s s':KS} {ws ws':List Nat},iC X G N call c ol rem τ s ws=some (τ',s',ws')->s.c<=s'.c
 | [],τ,τ',s,s',ws,ws',h=>by simp only[iC,bv,eL]at h;obtain⟨_,rfl,rfl⟩:=h;exact aW _
 |o::rem,τ,τ',s,s',ws,ws',h=>by
  simp only[iC]at h;split at h
  .cases h
  .rename_i r hr;split at h
   .cases h
   .exact cO (zU a hr).1 (BZ a h)
def BX{X:bQ}{G N:Nat}{call:c8}(b:f8 X G call){ol:List Oper}{cl:Nat->Nat->Bool}:∀{rem:List Oper} {k:Nat} {acc:List (Nat×KS×cA)} {τ τ':Tr LV} {s s':KS} {l:List (KS×cA)},iB X G N call ol cl k acc rem τ s=some (l,τ',s')->s.c<=s'.c
 | [],k,acc,τ,τ',s,s',l,h=>by simp only[iB,bv,eL]at h;obtain⟨_,_,rfl⟩:=h;exact aW _
 |o::rem,k,acc,τ,τ',s,s',l,h=>by
  simp only[iB]at h;split at h
  .cases h
  .rename_i r hr;split at h
   .cases h
   .split at h
    .cases h
    .rename_i l' d e a;cases h
     exact cO (zU (u6 b _) hr).1 (BX b a)
variable{c:Code}{w:World}{cs:List Frame}{k:List Item}{a:Act}{b:Frame}{P:Program}
def Vf:step P (lone (b.atR a (.code (.scope c)::k)) cs w)=.next (lone (b.atR a (.code c::.inScope c::k)) cs w):=step_lone_go (by simp[stepG,stepG.exec,Frame.atR])
def Ve:step P (lone (b.atR a (.inScope c::k)) cs w)=.next (lone (b.atR a k) cs w):=step_lone_go (by simp[stepG,stepG.exec,Frame.atR])
def Lp{C:Cx}{σ:St}{H:PH}(h:R C (.code c::.inScope c::k) σ H):R C (.code (.scope c)::k) σ H:=ls h fun _ _ _ _=>Vf
def Lh{C:Cx}{σ:St}{H:PH}(h:R C k σ H):R C (.inScope c::k) σ H:=ls h fun _ _ _ _=>Ve
def DC{X:bQ}{G N:Nat}{B:io}{τ:Tr LV}{s:KS}{ws:List Nat}{e:aH}{I H:PH}{σ:St}(j:kG X G N B τ s ws e I H σ)(p:gx B s ws){n0:Nat}{a:Act}{w:World}(g:Sx.G n0 σ H a w)(hw:Sub H w):∀(l:List ResultVar) {r:List LV},lH X.P τ s.L l=some r->
  ∃f,aK e r f/\(l.mapM (g7 a.tmps)).run X.P w=.ok f w
 | [],r,h=>by simp only[lH,bv]at h;subst h;exact⟨[],by simp[aK],by simp⟩
 | .tmp t::l,r,h=>by
  simp only[lH]at h;split at h
  .rename_i x A n hr;cases h
   obtain⟨f,h1,h2⟩:=DC j p g hw l hr;obtain⟨y,h3,m⟩:=j.sr.tm t x n;obtain⟨β,g⟩:=g;have k:=dC g (x:=.tmp t) (v:=y) (by simp only[ev];exact h3);refine⟨y::f,by simp only[aK];exact⟨y,f,rfl,m,h1⟩,?_⟩;have q:(g7 a.tmps (.tmp t)).run X.P w=.ok y w:=by simp only[Act.eval]at k;simp only[g7,k];simp
   simp only[List.mapM_cons,bY,q,Result.andThen,h2];simp
  .cases h
 | .cell t T::l,r,h=>by
  simp only[lH]at h;split at h
  .rename_i id off A n hr;split at h
   .rename_i c ty gr C;split at h
    .rename_i x o;cases h
     obtain⟨f,h1,h2⟩:=DC j p g hw l hr;obtain⟨y,h3,m⟩:=j.sr.tm t _ n;simp only[VR]at m;obtain⟨b,x',D,rfl⟩:=m;obtain⟨b2,K,cs,post,u,e2,J,F,_⟩:=j.rel.ob id _ (p.hasM id _ C);rw[D]at u;cases u;obtain⟨z,g1,g2⟩:=vZ F o;have d:gp X.P T (cs++post) off=some z:=by
      unfold gp at g1 |-;split at g1
      .split at g1
       .cases g1
        rw[ak (by simp;omega),List.drop_append_of_le_length O,n9 (by simp;omega)]
       .cases g1
      .have:off<cs.length:=by
        rcases aB off cs.length with h|h
        .exact h
        .rw[fW h]at g1;cases g1
       rw[mU this];exact g1
      .cases g1
     obtain⟨β,g⟩:=g;have k:=dC g (x:=.tmp t) (by simp only[ev];exact h3);have i:=wl (P:=X.P) (w:=w) (off:=off) (b:=b) (cs:=cs++post) (hw _ _ J) d;refine⟨z::f,by simp only[aK];exact⟨z,f,rfl,g2,h1⟩,?_⟩;have q:(g7 a.tmps (.cell t T)).run X.P w=.ok z w:=by simp only[Act.eval]at k;simp only[g7,k,bY];simp[Result.andThen,asAddr,i]
     simp only[List.mapM_cons,bY,q,Result.andThen,h2];simp
    .cases h
   .cases h
  .cases h
def Ud{fn:Func}{r:List Value}(h1:(fn.results.toList.mapM (g7 a.tmps)).run P w=.ok r w):(results fn a.tmps).run P w=.ok (bT r) w:=by
 show (do let c <-fn.results.mapM (g7 a.tmps);pure (if h:c.size=1 then c[0]else .tuple c):Sem Value).run P w=_;rw[Array.mapM_eq_mapM_toList];simp only[bY,Sem.run_map];rw[h1];simp only[Result.andThen]
 match r with
 | []=>simp[bT]
 | [v]=>simp[bT]
 |a::b::l=>simp[bT]
def Ue{e:aH}{r:List LV}{r':List Value}(h:aK e r r'):VR e (nW r) (bT r'):=by
 match r,r',h with
 | [],r',h=>simp only[aK]at h;subst h;simp only[nW,bT,VR];exact⟨[],rfl,by simp[aK]⟩
 | [v],r',h=>simp only[aK]at h;obtain⟨y,ys,rfl,h1,rfl⟩:=h;simpa only[nW,bT]using h1
 |a::b::l,r',h=>have c:=h;simp only[aK]at h;obtain⟨y,ys,rfl,h1,z,zs,rfl,h2,h3⟩:=h;simp only[nW,bT,VR];exact⟨_,rfl,c⟩
def Hn:∀{args:List LV} {i:Nat} {τ τ':Tr LV},sN i args τ=some τ'->∀t,τ'.get t=if i<=t/\t<i+args.length then args[t-i]? else τ.get t
 | [],i,τ,τ',h,t=>by simp only[sN,bv]at h;subst h;rw[ad (by simp<;>omega)]
 |x::l,i,τ,τ',h,t=>by
  simp only[sN]at h;split at h
  .rename_i a h1;rw[Hn h t,Tr.get_put h1];simp only[bf];by_cases e:t=i
   .subst e;rw[ad O,ak rfl,ak O];simp
   .by_cases e2:i+1<=t/\t<i+1+l.length
    .rw[ak e2,ak O];have:t-i=(t-(i+1))+1:=O;rw[this];simp
    .rw[ad e2,ad e,ad O]
  .cases h
def Fy{X:bQ}{G:Nat}{aa:c8}(p:f8 X G aa)(q:uf X G run)(l:X.P.follows .mixedOrders=true):f8 X G (qt X aa run):=by
 have b:∀{f:FuncId} {args:List LV} {s:KS} {r:LV×KS×List Nat},qt X aa run f args s=some r->aa f args s=some r\/
   ∃fn body τ,X.P.funcs[f]?=some fn/\fn.body=some body/\args.length<=fn.ntmps/\(fn.name == "runtime.NumGoroutine")=false/\sN 0 args .lf=some τ/\run s.c fn.ntmps fn.results.toList [.code body] τ s []=some r:=by
  intro f args s r h;unfold qt at h;split at h
  .rename_i z h1;cases h;exact .inl h1
  .split at h
   .rename_i fn h1;split at h
    .rename_i body h2;split at h
     .rename_i h3;split at h
      .rename_i τ k;exact .inr ⟨fn,body,τ,h1,h2,h3.1,h3.2,k,h⟩
      .cases h
     .cases h
    .cases h
   .cases h
 have w0:∀(s:KS),l3 s.L s.c s []:=fun s=>⟨aW _,fun _ _ _=>rfl,fun id i=>by cases i⟩;refine⟨fun{f args s r} h=>?_,fun{f args s v s' ws} h=>?_,fun{f args s v s' ws} h=>?_,fun{f args s v s' ws} h=>?_,fun{f args s v s' ws} h {M e I H args'} d n m x g a=>?_⟩
 .rcases b h with h|⟨fn,body,τ,h1,h2,h3,k,_⟩
  .exact p.goes h
  .exact⟨fn,h1,by rw[h2];rfl,k⟩
 .rcases b h with h|⟨fn,body,τ,h1,h2,h3,k,u,j⟩
  .exact p.cle h
  .exact(q.staW j (w0 s)).2
 .rcases b h with h|⟨fn,body,τ,h1,h2,h3,k,u,j⟩
  .exact p.keep h
  .exact(q.staW j (w0 s)).1.keep
 .rcases b h with h|⟨fn,body,τ,h1,h2,h3,k,u,j⟩
  .exact p.sub h
  .exact(q.staW j (w0 s)).1.sub
 .rcases b h with h|⟨fn,body,τ,h1,h2,h3,k,u,j⟩
  .exact p.does h d n m x g a
  .refine fq h1 h2 (by rw[List.toList_toArray,a.length];exact h3) fun w0=>?_;have o:gx ⟨M,e,I,s.L,s.c⟩ s []:=⟨aW _,n,fun _ _ _=>rfl,fun id i=>(by cases i),d.nil⟩;refine q.does (B:=⟨M,e,I,s.L,s.c⟩) j rfl o m (C:=⟨X.P,f,fn,h1,H,w0,_,none⟩) rfl l rfl rfl rfl (e:=e) (I:=I) ?_;refine⟨x,aH.le_refl e,fun _ _=>rfl,by simp only[Dt];exact g,ax I,⟨rfl,?_,fun t v hv=>?_⟩⟩
   .have:=a.length;simp[mp];omega
   .rw[Hn u]at hv;split at hv
    .rename_i ht;simp only[Nat.sub_zero]at hv;obtain⟨y,g1,g2⟩:=a.get hv;refine⟨y,?_,g2⟩;have w:t<args'.length:=by
      rcases aB t args'.length with h|h
      .exact h
      .rw[fW h]at g1;cases g1
     rw[lB];simp only[mp,List.toList_toArray];rw[mU (by simpa using w)];simp[g1]
    .cases hv
def Vc{X:bQ}{G:Nat}{call:c8}(o:f8 X G call)(d:uf X G run):uf X G (mH X G call run):=by
 refine⟨fun{c0 N res k τ s ws v s' ws'} h=>?_,fun{c0 N res k τ s ws v s' ws'} h {L} i=>?_,fun{c0 N res k τ s ws v s' ws'} h {B} J i=>?_,fun{c0 N res k τ s ws v s' ws'} h {B} J i hf {C} u hm n j m {e I H σ} q=>?_⟩
 .unfold mH at h;split at h
  .split at h
   .cases h;exact aW _
   .cases h
  .split at h
   .cases h;exact aW _
   .cases h
  .exact d.cle h
  .exact d.cle h
  .exact d.cle h
  .exact d.cle h
  .exact d.cle h
  .split at h
   .exact d.cle h
   .cases h
  .exact d.cle h
  .exact d.cle h
  .exact d.cle h
  .exact d.cle h
  .split at h
   .exact d.cle h
   .cases h
  .split at h
   .rename_i f;exact cO (BZ o f) (d.cle h)
   .cases h
  .split at h
   .rename_i f;split at h
    .exact cO (BX o f) (d.cle h)
    .cases h
   .cases h
  .cases h
 .unfold mH at h;split at h
  .split at h
   .cases h;exact⟨i,aW _⟩
   .cases h
  .split at h
   .cases h;exact⟨i,aW _⟩
   .cases h
  .exact d.staW h i
  .exact d.staW h i
  .exact d.staW h i
  .exact d.staW h i
  .exact d.staW h i
  .split at h
   .exact d.staW h i
   .cases h
  .exact d.staW h i
  .exact d.staW h i
  .exact d.staW h i
  .exact d.staW h i
  .split at h
   .exact d.staW h i
   .cases h
  .split at h
   .rename_i f;exact⟨(d.staW h (Gg o f i).1).1,cO (BZ o f) (d.cle h)⟩
   .cases h
  .split at h
   .rename_i f;split at h
    .exact⟨(d.staW h (Jb o f i).1).1,cO (BX o f) (d.cle h)⟩
    .cases h
   .cases h
  .cases h
 .subst J;unfold mH at h;split at h
  .split at h
   .cases h;exact i
   .cases h
  .split at h
   .cases h;exact i
   .cases h
  .exact d.sta h rfl i
  .exact d.sta h rfl i
  .exact d.sta h rfl i
  .exact d.sta h rfl i
  .exact d.sta h rfl i
  .split at h
   .exact d.sta h rfl i
   .cases h
  .exact d.sta h rfl i
  .exact d.sta h rfl i
  .exact d.sta h rfl i
  .exact d.sta h rfl i
  .split at h
   .exact d.sta h rfl i
   .cases h
  .split at h
   .rename_i f;exact d.sta h rfl (uQ o f i).1
   .cases h
  .split at h
   .rename_i f;split at h
    .exact d.sta h rfl (zB o f i).1
    .cases h
   .cases h
  .cases h
 .subst J;have ret:∀{k:List Item} {r:List LV},lH X.P τ s.L res=some r->(nW r,s,ws)=(v,s',ws')->∀(w:World) (a:Act),bN C.H0 C.w0 H w->Sx.G C.w0.heap.size σ H a w->∃y,C.post y H/\(results C.fn a.tmps).run C.P w=.ok y w:=by
   intro k r hr D w a st g;cases D
   rw[<-n]at hr;obtain⟨S,h1,h2⟩:=DC q i g st.sub _ hr;refine⟨bT S,?_,by rw[u];exact Ud h2⟩;rw[j];exact⟨e,I,q.le,q.out,Ue h1,q.rel,q.ile⟩
  have p:∀{A:List Item},run B.c N res A τ s ws=some (v,s',ws')->R C A σ H:=fun U=>d.does U rfl i hf u hm n j m q;unfold mH at h;split at h
  .split at h
   .rename_i r hr;exact ub m (fun a cs w=>stepR_end (by simp[Cx.fr,m])) (ret (k:=[]) hr (df h))
   .cases h
  .rename_i k;split at h
   .rename_i r hr;exact ub m (fun a cs w=>stepR_ret (by simp[Cx.fr,m])) (ret (k:=[]) hr (df h))
   .cases h
  .exact E3 (p h)
  .exact EY (p h)
  .exact EW (p h)
  .exact Lh (p h)
  .exact E2 (p h)
  .split at h
   .rename_i c x y k b hb;obtain⟨z,h1,h2⟩:=q.sr.or q.ge _ _ hb;simp only[VR]at h2;subst h2;exact AX h1 (p h)
   .cases h
  .exact ES (p h)
  .exact Lp (p h)
  .exact EZ (p h)
  .exact EX (p h)
  .split at h
   .rename_i A T;exact EU T (p h)
   .cases h
  .split at h
   .rename_i K Q M f;have g1:=uQ o f i;have g2:=d.cle h;exact Ln u o f i (fun id a b=>hf id a O) (fun e I H σ t=>d.does h rfl g1.1 hf u hm n j m t) q
   .cases h
  .split at h
   .rename_i l K Q f;split at h
    .rename_i F;have g1:=zB o f i;have g2:=d.cle h;exact Lm u hm o f (LY F.1) F.2.1 F.2.2 i (fun id a b=>hf id a O) (fun e I H σ t=>d.does h rfl g1.1 hf u hm n j m t) q
    .cases h
   .cases h
  .cases h
def DN{X:bQ}{G:Nat}{aa:c8}(b:f8 X G aa)(a:X.P.follows .mixedOrders=true):∀(n:Nat),uf X G (wj X G aa n)
 |0=>⟨fun{c0 N res k τ s ws v s' ws'} h=>(by cases h),fun{c0 N res k τ s ws v s' ws'} h=>(by cases h),fun{c0 N res k τ s ws v s' ws'} h=>(by cases h),fun{c0 N res k τ s ws v s' ws'} h=>(by cases h)⟩
 |n+1=>by show uf X G (zT X G (qt X aa (wj X G aa n)) (wj X G aa n));rw[Vd];exact Vc (Fy b (DN b a n) a) (DN b a n)
end Go.Ke
