import Derived.Test.YtfaclfkpnmcmlaaGreatDoorE10
import Derived.Test.YtfaclfkpnmcmlaaGreatDoorE11
import Derived.Test.YtfaclfkpnmcmlaaGreatDoorE15
import Derived.Test.YtfaclfkpnmcmlaaGreatDoorE17
import Derived.Test.YtfaclfkpnmcmlaaGreatDoorE18
import Derived.Test.YtfaclfkpnmcmlaaGreatDoorE19
import Derived.Test.YtfaclfkpnmcmlaaGreatDoorE22
import Derived.Test.YtfaclfkpnmcmlaaGreatDoorE24
set_option maxHeartbeats 8000000
set_option linter.all false
namespace Syn
open Dg
mutual
def VY:Nd->Prop
 |⟨k,x,t,s,ks,_⟩=>(k<256/\-4611686018427387904<=t/\t<4611686018427387904/\-4611686018427387904<=s/\s<4611686018427387904/\x.length<4611686018427387904)/\nJ ks
def nJ:List Nd->Prop
 | []=>True
 |n::l=>VY n/\nJ l
end
variable{l:List Nd}
theorem kZ:nJ l<->∀n∈l,VY n:=by
 induction l with
 |nil=>simp[nJ]
 |cons n l ih=>simp[nJ,ih]
theorem qG{n:Nd}:VY n<->(n.kind<256/\-4611686018427387904<=n.tok/\n.tok<4611686018427387904/\-4611686018427387904<=n.slot/\n.slot<4611686018427387904/\n.text.length<4611686018427387904)/\nJ n.kids:=by cases n;rfl
theorem v7{a b:List Nd}:nJ (a++b)<->nJ a/\nJ b:=by
 simp only[kZ,aaX];exact⟨fun h=>⟨fun n hn=>h n (.inl hn),fun n hn=>h n (.inr hn)⟩,fun h n hn=>hn.elim (h.1 n) (h.2 n)⟩
theorem fw{ks:List Nd}(h:nJ l)(hk:nJ ks):nJ (give l ks):=kZ.2 fun n hn=>by
 obtain⟨m,hm,rfl⟩:=List.mem_map.1 hn;have:=qG.1 (kZ.1 h m hm);exact qG.2 ⟨this.1,v7.2 ⟨this.2,hk⟩⟩
theorem Jp(h:nJ l):nJ (slot0 l):=kZ.2 fun n hn=>by
 obtain⟨m,hm,rfl⟩:=List.mem_map.1 hn;obtain⟨⟨a,b,c,_,_,g⟩,k⟩:=qG.1 (kZ.1 h m hm);exact qG.2 ⟨⟨a,b,c,by show (-4611686018427387904:Int)<=0;omega,by show (0:Int)<_;omega,g⟩,k⟩
theorem jN{k:Nat}{t:bq}{i s N:Nat}{ks:List Nd}{d:T}(ht:t.length<4611686018427387904)(hk:k<256)(hi:i<N)(hN:N<=16384)(hs:s<=2)(h:nJ ks):nJ [⟨k,t,(i:Int),(s:Int),ks,d⟩]:=
 ⟨⟨⟨hk,ab,ab,ab,ab,ht⟩,h⟩,trivial⟩
section
variable {c:bP} {ts:List Tok} (hN:ts.length<=16384) (hX:∀i,(X ts i).length<4611686018427387904)
include hN hX
variable{kind slot:Nat}
theorem pD(p:Option Nat)(hk:kind<256)(hs:slot<=2):nJ (aI ts c p kind slot).l:=by
 unfold aI;cases p.map (nx c ts)with
 |none=>trivial
 |some i=>
  simp only;split
  ·trivial
  ·rename_i h;exact jN (by first|exact hX _|(show (0:Nat)<_;decide)) hk (DO fun h2=>h (.inl (by rw[h2];decide))) hN hs trivial
theorem xA(p:Option Nat)(hs:slot<=2):nJ (bI ts c p slot).l:=by
 unfold bI;cases p.map (nx c ts)with
 |none=>trivial
 |some i=>
  simp only;split
  ·trivial
  ·rename_i h;exact jN (by first|exact hX _|(show (0:Nat)<_;decide)) bg (gx fun h2=>h (by rw[h2];exact⟨by decide,by decide⟩)) hN hs trivial
theorem wz{i:Option Nat}(hk:kind<256)(h:Lt ts.length i)(hs:slot<=2):nJ (jP kind i slot):=by
 cases i with
 |none=>trivial
 |some j=>exact jN (by first|exact hX _|(show (0:Nat)<_;decide)) hk (h j rfl) hN hs trivial
omit hN hX in
theorem De{i x:Nat}{is:Nat->Bool}(h:qz c ts (aI ts c (some i) kind slot).p is=some x):i<ts.length:=by
 have h0:=rh c ts i;unfold aI at h;simp only[Z9]at h;split at h
 ·cases h
 ·rename_i hk;have:nx c ts i<ts.length:=DO fun h2=>hk (.inl (by rw[h2];decide));omega
def WP(N:Nat):dB->Prop
 | .line _ _ _ s=>s<=2
 | .lineL _ _ s _ l _ _=>s<=2/\nJ l
 | .lineO _ _ s op l _=>s<=2/\nJ l/\Lt N op
 | .unary _ _ s=>s<=2
 | .unaryH _ _ s=>s<=2
 | .calls _ i s x names _=>s<=2/\nJ names/\(∀j k,i=some j->x=some k->j<N)
 | .inside _ _ s=>s<=2
 | .listL _ _ l _ _=>nJ l
 | .behind _ _ _ _ s=>s<=2
 | .block _ _ s=>s<=2
 | .seqL _ _ _ l _=>nJ l
 | .sCalls _ i x l _=>nJ l/\(∀j k,i=some j->x=some k->j<N)
 | .branch _ i s=>s<=2/\Lt N i
 | .elses _ _ l _=>nJ l
 | .ifs _ y l _=>nJ l/\Lt N y
 |_=>True
theorem Ig{rec:oS}(R:∀x q,rec x=some q->WP ts.length x->nJ q.l):∀x q,aC c ts rec x=some q->WP ts.length x->nJ q.l:=by
 have R1:∀{x q},rec x=some q->WP ts.length x->nJ q.l:=fun{x q} h k=>R x q h k;intro x q e hi;cases x with
 |line k o p slot=>
  simp only[aC,ni]at e;split at e
  ·have:=R1 e hi;exact this
  ·obtain⟨a,ea,e⟩:=dh e;obtain⟨b,eb,e⟩:=dh e;cases e
   have:=R1 eb ⟨hi,R1 ea hi⟩;exact this
 |lineL k o slot first l g out=>
  simp only[aC,lP]at e;cases g with
  |none=>cases e;exact hi.2
  |some p=>
   simp only at e;split at e
   ·cases e;exact hi.2
   ·obtain⟨a,ea,e⟩:=dh e;obtain⟨b,eb,e⟩:=dh e;cases e
    have:=R1 eb ⟨hi.1,R1 ea ⟨hi.1,hi.2,BG⟩⟩;exact this
 |lineO k o slot op l g=>
  simp only[aC,pY]at e;cases op with
  |none=>cases e;exact hi.2.1
  |some i=>
   obtain⟨a,ea,e⟩:=dh e;cases e
   exact jN (by first|exact hX _|(show (0:Nat)<_;decide)) bg (hi.2.2 i rfl) hN hi.1 (v7.2 ⟨Jp hi.2.1,R1 ea (by show (1:Nat)<=2;decide)⟩)
 |unary o p slot=>
  have:=R1 (x:=.unaryH o (p.map (nx c ts)) slot) e hi;exact this
 |unaryH o i slot=>
  simp only[aC,fZ]at e;cases i with
  |none=>cases e;trivial
  |some i=>
   simp only at e;split at e
   ·rename_i hx;have aa:i<ts.length:=gx (by rcases hx with h|h<;>rw[h]<;>decide);split at e
    ·cases e;trivial
    ·obtain⟨a,ea,e⟩:=dh e;cases e
     exact jN (by first|exact hX _|(show (0:Nat)<_;decide)) bg aa hN hi (R1 ea (by show (0:Nat)<=2;decide))
   ·split at e
    ·have:=R1 e hi;exact this
    ·split at e
     ·rename_i hx;cases e
      exact jN (by first|exact hX _|(show (0:Nat)<_;decide)) bg (DO (by rw[hx];decide)) hN hi trivial
     ·split at e
      ·rename_i hx;cases e
       exact jN (by first|exact hX _|(show (0:Nat)<_;decide)) bg (gx (by rcases hx with h|h<;>rw[h]<;>decide)) hN hi trivial
      ·split at e
       ·rename_i hx;cases e
        exact jN (by first|exact hX _|(show (0:Nat)<_;decide)) bg (gx (by rw[hx];decide)) hN hi trivial
       ·obtain⟨b,eb,e⟩:=dh e;cases e
        have:=R1 eb ⟨hi,pD hN hX _ bg hi,fun j k hj hk=>by cases hj;exact De hk⟩;exact this
 |calls o i slot x names g=>
  simp only[aC,nY]at e;split at e
  ·rename_i i x;obtain⟨a,ea,e⟩:=dh e;cases e
   exact jN (by first|exact hX _|(show (0:Nat)<_;decide)) bg (hi.2.2 i x rfl rfl) hN hi.1 (R1 ea trivial)
  ·cases e;exact hi.2.1
 |inside o p slot=>
  simp only[aC,il]at e;split at e
  ·cases e;trivial
  ·split at e
   ·cases e;trivial
   ·split at e
    ·cases e;trivial
    ·obtain⟨a,ea,e⟩:=dh e;cases e
     have:=R1 ea hi;exact this
 |listed par o p=>
  simp only[aC,ij]at e;split at e
  ·cases e;trivial
  ·split at e
   ·cases e;trivial
   ·split at e
    ·cases e;trivial
    ·obtain⟨a,ea,e⟩:=dh e;cases e
     have:=R1 ea trivial;exact this
 |listL par o l g fin=>
  simp only[aC,oU]at e;cases g with
  |none=>cases e;exact hi
  |some p=>
   obtain⟨a,ea,e⟩:=dh e;obtain⟨b,eb,e⟩:=dh e;cases e
   have:=R1 eb (v7.2 ⟨hi,R1 ea trivial⟩);exact this
 |item par o p=>
  simp only[aC,ro]at e;split at e
  ·cases e
   exact fw (pD hN hX _ bg bg) (xA hN hX _ bg)
  ·have:=R1 e (by show (0:Nat)<=2;decide);exact this
 |behind typ o p sign slot=>
  simp only[aC,kh]at e;obtain⟨a,ea,e⟩:=dh e;cases e
  unfold fy at ea;split at ea
  ·cases ea;exact xA hN hX _ hi
  ·have:=R1 ea hi;exact this
 |vrb o p=>
  simp only[aC,gZ]at e;obtain⟨d,ed,e⟩:=dh e;cases e
  exact fw (fw (pD hN hX _ bg bg) (xA hN hX _ bg)) (R1 ed (by show (1:Nat)<=2;decide))
 |function o p=>
  simp only[aC,gY]at e;obtain⟨b,eb,e⟩:=dh e;obtain⟨d,ed,e⟩:=dh e;obtain⟨f,ef,e⟩:=dh e;cases e
  exact fw (fw (fw (pD hN hX _ bg bg) (R1 eb trivial)) (R1 ed (by show (1:Nat)<=2;decide))) (R1 ef (by show (2:Nat)<=2;decide))
 |block o p slot=>
  simp only[aC,jI]at e;split at e
  ·cases e;trivial
  ·rename_i i hp;split at e
   ·cases e;trivial
   ·rename_i hx;have aa:i<ts.length:=gx (by rw[Classical.not_not.1 hx];decide);split at e
    ·cases e;trivial
    ·obtain⟨a,ea,e⟩:=dh e;cases e
     exact jN (by first|exact hX _|(show (0:Nat)<_;decide)) bg aa hN hi (R1 ea trivial)
 |seqL top o p l out=>
  simp only[aC,nE]at e;split at e
  ·cases e;exact hi
  ·split at e
   ·cases e;exact hi
   ·obtain⟨a,ea,e⟩:=dh e;obtain⟨b,eb,e⟩:=dh e;cases e
    have h1:nJ a.l:=by
     unfold md at ea;split at ea
     ·unfold vF at ea;split at ea
      ·have:=R1 ea trivial;exact this
      ·split at ea
       ·have:=R1 ea trivial;exact this
       ·cases ea;trivial
     ·have:=R1 ea trivial;exact this
    have:=R1 eb (v7.2 ⟨hi,h1⟩);exact this
 |stmt o i=>
  simp only[aC,gM]at e;cases i with
  |none=>cases e;trivial
  |some i=>
   simp only at e;split at e
   ·have:=R1 e trivial;exact this
   ·split at e
    ·rename_i hx;have:=R1 e ⟨by decide,Lt.of (gx (by rw[hx];decide))⟩;exact this
    ·split at e
     ·rename_i hx;have aa:i<ts.length:=gx (by rw[hx];decide);obtain⟨a,ea,e⟩:=dh e;obtain⟨b,eb,e⟩:=dh e;cases e
      exact fw (fw (wz hN hX bg (Lt.of aa) bg) (R1 ea (by show (0:Nat)<=2;decide))) (R1 eb (by show (1:Nat)<=2;decide))
     ·split at e
      ·have:=R1 e (by show (0:Nat)<=2;decide);exact this
      ·split at e
       ·rename_i hx;have aa:i<ts.length:=gx (by rw[hx];decide);obtain⟨a,ea,e⟩:=dh e;cases e
        exact fw (wz hN hX bg (Lt.of aa) bg) (R1 ea (by show (0:Nat)<=2;decide))
       ·split at e
        ·rename_i hx;have aa:i<ts.length:=gx (by rcases hx with h|h<;>rw[h]<;>decide);obtain⟨a,ea,e⟩:=dh e;cases e
         exact fw (wz hN hX (by split<;>decide) (Lt.of aa) bg) (R1 ea (by show (0:Nat)<=2;decide))
        ·obtain⟨b,eb,e⟩:=dh e;obtain⟨d,ed,e⟩:=dh e;cases e
         have:=R1 ed ⟨fw (pD hN hX _ bg bg) (R1 eb (by show (0:Nat)<=2;decide)),fun j k hj hk=>by cases hj;exact De hk⟩;exact this
 |sCalls o i x l g=>
  simp only[aC,lu]at e;split at e
  ·rename_i i x;obtain⟨a,ea,e⟩:=dh e;cases e
   exact jN (s:=0) (by first|exact hX _|(show (0:Nat)<_;decide)) bg (hi.2 i x rfl rfl) hN bg (R1 ea trivial)
  ·cases e;exact hi.1
 |branch o i slot=>
  simp only[aC,ku]at e;obtain⟨a,ea,e⟩:=dh e;obtain⟨b,eb,e⟩:=dh e;obtain⟨d,ed,e⟩:=dh e;cases e
  have:=R1 ed (fw (fw (wz hN hX bg hi.2 hi.1) (R1 ea (by show (0:Nat)<=2;decide))) (R1 eb (by show (1:Nat)<=2;decide)));exact this
 |elses o x l out=>
  simp only[aC,nP]at e;cases x with
  |none=>cases e;exact hi
  |some j=>
   obtain⟨a,ea,e⟩:=dh e;obtain⟨b,eb,e⟩:=dh e;cases e
   have:=R1 eb ⟨fw hi (R1 ea (by show (2:Nat)<=2;decide)),sG bg⟩;exact this
 |ifs o y l out=>
  simp only[aC,BV]at e;cases y with
  |none=>cases e;exact hi.1
  |some j=>
   simp only at e;split at e
   ·cases e;exact hi.1
   ·obtain⟨a,ea,e⟩:=dh e;cases e
    exact fw hi.1 (R1 ea ⟨by decide,hi.2⟩)
theorem CR:∀n x q,bS c ts n x=some q->WP ts.length x->nJ q.l
 |0,x,q,e,_=>by cases e
 |n+1,x,q,e,h=>Ig hN hX (fun x q e h=>CR n x q e h) x q e h
end
theorem yD:∀(l:List Nd) (d:T),iE l->wL d l->Uf l->(∀c,nJ (pL c l))->nJ l
 | [],_,_,_,_,_=>trivial
 |⟨k,t,o,s,ks,e⟩::l,d,ho,hw,hn,h=>by
  have key:∀c,e.at' c=true->VY ⟨k,t,o,s,pL c ks,tt⟩:=fun c hc=>by
   have:=h c;rw[cM,show (⟨k,t,o,s,ks,e⟩:Nd).cond=e from rfl,hc,aaq rfl]at this;exact this.1
  obtain⟨c0,aa⟩:=T.some_of_ne ho.1.1 hn.1.1;refine⟨⟨(key c0 aa).1,yD ks e ho.1.2 hw.1.2 hn.1.2 fun c=>?_⟩,yD l d ho.2 hw.2 hn.2 fun c=>?_⟩
  ·cases hc:e.at' c with
   |true=>exact(key c hc).2
   |false=>rw[GH hw.1.2 hc];trivial
  ·have:=h c;rw[cM]at this;split at this
   ·exact this.2
   ·exact this
theorem TU{ts:List Tok}(hts:bT ts)(hl:ts.length<=16384)(hX:∀i,(X ts i).length<4611686018427387904){w:T}(hw:w.ok 0)(aa:w≠ff){n:Nat}{r:bW}(e:run ts n (.seqL true 0 [(0,w)] [] [])=some r):nJ (pI r):=by
 obtain⟨_,_,R0⟩:=jR hts hw aa e (fun _=>false);have hc:=(sS (c:=fun _=>false) R0.fok).1;obtain⟨a1,a2,a3,a4⟩:=mY r.l (ii r.f) hc R0.lok;refine⟨⟨⟨by decide,by decide,by decide,by decide,by decide,by show (0:Nat)<_;decide⟩,yD _ (ii r.f) a1 a2 (xQ _ _) fun c=>?_⟩,trivial⟩;rw[a4 c];split
 ·obtain⟨q,⟨m,hm⟩,R⟩:=jR hts hw aa e c;rw[R.l];exact CR hl hX m _ _ hm trivial
 ·trivial
end Syn
namespace Go.Proofs.YtfaclfkpnmcmlaaGreatDoor
open Go Go.Sx Dg Syn
def lQ(A:PH):U [A]=A:=PH.uni_no A
def sd(I:PH)(c:List Value)(p:PH×Nd):Prop:=∃vk a k,c=[.int .u8 p.2.kind,.string ⟨⟨p.2.text⟩⟩,.int .i64 p.2.tok,.int .i64 p.2.slot,vk,sD a k p.2.cond,rD p.2.cond]/\cX I (.agg #[sD a k p.2.cond,rD p.2.cond]) p.2.cond/\bQ I p.1 vk p.2.kids
variable{p:PH×Nd}{I:PH}
def sd.le{J:PH}{c:List Value}(h:sd I c p)(aa:I.le J):sd J c p:=by
 obtain⟨vk,a,k,e,h1,h2⟩:=h;exact⟨vk,a,k,e,h1.le aa,bQ.le h2 aa⟩
def sd.len(c:List Value)(p:PH×Nd)(h:sd I c p):c.length=7:=by obtain⟨vk,a,k,e,_⟩:=h;rw[e];rfl
def sd.ones{c:List Value}(h:sd I c p):c.all Sx.one=true:=by
 obtain⟨vk,a,k,e,_,hk⟩:=h;obtain⟨x,y,rfl⟩:=hk.shape;rw[e];rfl
def L3(o:List Nd)(y u:Value):Prop:=∃j m,o[j]?=some m/\y=rK m.key/\u=iv j
def DL{a b:qT}(h:rK a=rK b):a=b:=by
 unfold rK at h;simp only[Value.agg.injEq,Array.mk.injEq,abB,Value.int.injEq,Value.string.injEq,abC,true_and]at h;obtain⟨h1,h2,h3,h4⟩:=h;have ac:a.kind=b.kind:=by omega
 have aa:a.text=b.text:=by
  have:=congrArg (fun x:ByteArray=>x.data.toList) h4;exact this
 cases a;cases b
 simp_all
theorem Ru:Tryz.prog.underlying 240=some (.struct #[⟨ "slot",3,0,false,"","motley/syntax",0⟩,⟨ "tok",3,1,false,"","motley/syntax",8⟩,⟨ "kind",5,2,false,"","motley/syntax",16⟩,⟨ "text",9,3,false,"","motley/syntax",24⟩]):=by kernel_rfl
theorem VI:Tryz.prog.keyTypeAt 3 240=true:=by kernel_rfl
theorem UM:Tryz.prog.tiled 3 240=true:=by kernel_rfl
def R9:Maps.Keyed Tryz.prog 240:=by
 refine Maps.Keyed.of_law (deep_law (m:=3) ab VI UM ?_);rw[Ru]
theorem Ot:Tryz.prog.keyType 240=true:=by kernel_rfl
theorem Nk:Tryz.prog.cellsOf 240=4:=by kernel_rfl
theorem K5:Tryz.prog.cellsOf 5=1:=by kernel_rfl
theorem EM:Tryz.prog.cellsOf 9=1:=by kernel_rfl
theorem Yw:Tryz.prog.underlying 5=some (.int .u8):=by kernel_rfl
theorem X5:Tryz.prog.underlying 9=some .string:=by kernel_rfl
def YN{z:Int}(h:-4611686018427387904<=z)(h2:z<4611686018427387904):(Lit.int .i64 z).wf=true:=by
 have h1:IntKind.min .i64=-9223372036854775808:=by decide
 have h2:IntKind.max .i64=9223372036854775807:=by decide
 simp only[Lit.wf,h1,h2,aao,aaC];omega
def Y1{n:Nat}(h:n<256):(Lit.int .u8 n).wf=true:=by
 have h1:IntKind.min .u8=0:=by decide
 have h2:IntKind.max .u8=255:=by decide
 simp only[Lit.wf,h1,h2,aao,aaC];omega
def UE {P:Program} {k:qT} (hk:P.underlying 240=some (.struct #[⟨ "slot",3,0,false,"","motley/syntax",0⟩,⟨ "tok",3,1,false,"","motley/syntax",8⟩,⟨ "kind",5,2,false,"","motley/syntax",16⟩,⟨ "text",9,3,false,"","motley/syntax",24⟩])) (h1:P.keyType 240=true) (h2:P.cellsOf 240=4) (h3:P.cellsOf 3=1) (h5:P.cellsOf 5=1) (h9:P.cellsOf 9=1) (u3:P.underlying 3=some (.int .i64)) (u5:P.underlying 5=some (.int .u8)) (u9:P.underlying 9=some .string) (hs:1<P.types.size)
  (a1:(Lit.int .i64 k.slot).wf=true) (a2:(Lit.int .i64 k.tok).wf=true) (a3:(Lit.int .u8 k.kind).wf=true) (a4:k.text.length<4611686018427387904):kN P 240 (rK k):=by
 obtain⟨n,hn⟩:∃n,P.types.size=n+1:=⟨P.types.size-1,ab⟩;simp only[Lit.wf,aao,aaC]at a1 a2 a3;have e9:(9223372036854775807:Int)=IntKind.max .i64:=by decide
 unfold kN keyOf;rw[h1];have b1:IntKind.i64.min<=k.slot/\k.slot<=9223372036854775807:=by rw[e9];exact a1
 have b2:IntKind.i64.min<=k.tok/\k.tok<=9223372036854775807:=by rw[e9];exact a2
 have b4:(⟨⟨k.text⟩⟩:ByteArray).size<=maxLen:=by
  have:(⟨⟨k.text⟩⟩:ByteArray).size=k.text.length:=rfl;rw[this];exact ZS (aar a4) bg
 simp[hk,Value.formed,rK,hn,Program.keyLits,h2,h3,h5,h9,u3,u5,u9,Value.cells,Lit.wf,b1,b2,a3,b4]
def SD{n:Nd}(h:VY n):kN Tryz.prog 240 (rK n.key):=by
 obtain⟨⟨a,b,c,d,e,g⟩,_⟩:=qG.1 h;exact UE Ru Ot Nk EI K5 EM S5 Yw X5 LB (YN d e) (YN b c) (Y1 a) g
end Go.Proofs.YtfaclfkpnmcmlaaGreatDoor
namespace Syn
open Dg
def i6:List qT->Bool
 | []=>true
 |a::l=>l.all (fun b=>CW a b) && i6 l
def d4(l:List Nd):List Nd:=l.filter fun n=>decide (n.cond≠ff)
mutual
def dD:Nd->Bool
 |⟨_,_,_,_,ks,_⟩=>i6 ((d4 ks).map Nd.key) && Az ks
def Az:List Nd->Bool
 | []=>true
 |n::l=>dD n && Az l
end
def p7(l:List Nd):Bool:=i6 ((d4 l).map Nd.key) && Az l
def j7:∀{l:List qT},i6 l=true<->l.Pairwise fun a b=>CW a b=true
 | []=>by simp[i6]
 |a::l=>by simp[i6,j7 (l:=l)]
def w7(n:Nd):dD n=p7 n.kids:=by cases n;rfl
variable{l:List Nd}
def w6:Az l=true<->∀n∈l,p7 n.kids=true:=by
 induction l with
 |nil=>simp[Az]
 |cons n l ih=>simp[Az,ih,w7]
def d5:p7 l=true<->((d4 l).map Nd.key).Pairwise (fun a b=>CW a b=true)/\∀n∈l,p7 n.kids=true:=by
 show (i6 _ && Az l)=true<->_;rw[aao,j7,w6]
def gq{n:Nd}:n∈d4 l<->n∈l/\n.cond≠ff:=by unfold d4;rw[aaD,aaC]
def ws(l:List Nd)(k:qT):l.filter (fY k)=(d4 l).filter fun n=>decide (n.key=k):=by
 unfold d4;rw[List.filter_filter];rfl
def j5{n:Nd}(h:(l.map Nd.key).Pairwise fun a b=>CW a b=true)(hn:n∈l):(l.filter fun m=>decide (m.key=n.key))=[n]:=by
 induction l with
 |nil=>exact(aaB hn).elim
 |cons x l ih=>
  rw[aaU,aae]at h;have no:∀y∈l,y.key≠x.key:=fun y hy e=>by
   have:=h.1 y.key (List.mem_map_of_mem hy);rw[e,jZ.irr]at this;cases this
  rw[aby];rcases List.mem_cons.1 hn with rfl|hn
  ·rw[aaq (by simp),List.filter_eq_nil_iff.2 fun y hy=>by simpa using no y hy]
  ·rw[ZV (by simpa using fun e=>no n hn e.symm)];exact ih h.2 hn
def ab0{a:T}(h:a.ok 0):T.or ff a=a:=T.ext (T.or_ok (show (ff:T).ok 0 from trivial) h) h fun c=>by
 rw[T.or_at (show (ff:T).ok 0 from trivial) h];rfl
def w8(d:Nat)(h:p7 l=true)(ho:iE l):mL (d+1) l=(d4 l).map fun n=>{ n with kids:=mL d n.kids }:=by
 obtain⟨h1,_⟩:=d5.1 h;have hk:ks l=(d4 l).map Nd.key:=ly jZ (eV jZ _) h1 fun k=>nv jZ;show (ks l).map _=_;rw[hk,aas];refine aat fun n hn=>?_;have e:=ws l n.key;rw[j5 h1 hn]at e;have e1:cZ l n.key=n.kids:=by unfold cZ;rw[e];simp
 have e2:ib l n.key=n.cond:=by unfold ib;rw[e];exact ab0 (fW.1 (ik.1 ho n (gq.1 hn).1)).1
 show (⟨n.key.kind,n.key.text,n.key.tok,n.key.slot,mL d (cZ l n.key),ib l n.key⟩:Nd)=_;rw[e1,e2];rfl
def Ks{e:List cO}(ho:Ce e)(h:(e.filter fun d=>decide (d.cond≠ff)).length<=1):Eo e=e.filter fun d=>decide (d.cond≠ff):=by
 have key:∀k,e.filter (M8 k)=(e.filter fun d=>decide (d.cond≠ff)).filter fun d=>decide ((d.tok,d.code)=k):=fun k=>by rw[List.filter_filter];rfl
 unfold Eo Un uO;simp only[key];have hm:∀d∈(e.filter fun d=>decide (d.cond≠ff)),d.cond.ok 0:=fun d hd=>ho d (List.mem_filter.1 hd).1;generalize (e.filter fun d=>decide (d.cond≠ff))=l at h hm |-
 match l,h,hm with
 | [],_,_=>rfl
 | [d],_,hm=>simp[pZ,vI,ab0 (hm d (.head _))]
 |_::_::_,h,_=>simp at h
def d9{c d:bP}(h:∀i,i<24->c i=d i):∀{t:T} {k:Nat},t.ok k->t.at' c=t.at' d
 | .lf _,_,_=>rfl
 | .nd v l r,k,ho=>by
  obtain⟨_,h1,_,h2,h3⟩:=ho;simp only[T.at',h v h1,d9 h h2,d9 h h3]
def aZ(w:T)(c:bP):Prop:=w.at' c=true/\∀d:bP,w.at' d=true->∀i,i<24->c i=d i
def aZ.at{w:T}{c:bP}(h:aZ w c){t:T}(ho:t.ok 0)(aa:t≠ff)(hw:WV t w):t.at' c=true:=by
 obtain⟨d,hd⟩:=T.some_of_ne ho aa;rw[d9 (h.2 d (hw d hd)) ho];exact hd
def gj{d:T}{x:Nd}:∀{l:List Nd},x∈nX d l->∃n∈l,x={ n with kids:=nX (n.cond.and d) n.kids,cond:=n.cond.and d }/\n.cond.and d≠ff
 | [],h=>(aaB h).elim
 |n::l,h=>by
  rw[qe]at h;split at h
  ·obtain⟨m,h1,h2⟩:=gj h;exact⟨m,.tail _ h1,h2⟩
  ·rename_i hf;rcases List.mem_cons.1 h with rfl|h
   ·exact⟨n,.head _,rfl,hf⟩
   ·obtain⟨m,h1,h2⟩:=gj h;exact⟨m,.tail _ h1,h2⟩
def p9{c:bP}:∀{l:List Nd},(∀n∈l,n.cond.at' c=true)->pL c l=l.map fun n=>{ n with kids:=pL c n.kids,cond:=tt }
 | [],_=>rfl
 |n::l,h=>by rw[cM,aaq (h n (.head _)),p9 fun m hm=>h m (.tail _ hm)];rfl
def ud{w:T}{c:bP}(h1:aZ w c):∀(m:Nat) (l:List Nd) (a:T),gJ l<m->a.ok 0->WV a w->iE l->Us (pL c (nX a l))->p7 (nX a l)=true
 |0,_,_,h,_,_,_,_=>by omega
 |m+1,l,a,hm,ha,hw,hl,hn=>by
  obtain⟨s1,s2,s3,_⟩:=mY l a ha hl;have aj:∀x∈nX a l,x.cond.at' c=true:=fun x hx=>h1.at (fW.1 (ik.1 s1 x hx)).1 (s3 x hx) fun d hd=>hw d ((Fy.1 s2 x hx).1 d hd);rw[p9 aj]at hn;have ag:d4 (nX a l)=nX a l:=List.filter_eq_self.2 fun x hx=>by simpa using s3 x hx
  refine d5.2 ⟨?_,fun x hx=>?_⟩
  ·rw[ag];have:=hn.1;rw[aas]at this;exact this
  ·have ac:=Qg (hn.2 _ (List.mem_map_of_mem hx));obtain⟨n,h3,rfl,_⟩:=gj hx;have aa:=fW.1 (ik.1 hl n h3);have hd:=oV h3;rw[wE]at hd;exact ud h1 m n.kids _ ab (T.and_ok aa.1 ha) (fun d hd=>hw d (by rw[T.and_at aa.1 ha,aao]at hd;exact hd.2)) aa.2 ac
def Jy{ts:List Tok}(hts:bT ts){w:T}(hw:w.ok 0)(an:w≠ff){c:bP}(h1:aZ w c){n:Nat}{r:bW}(e:run ts n (.seqL true 0 [(0,w)] [] [])=some r):p7 (pI r)=true/\(r.e.filter fun d=>decide (d.cond≠ff)).length<=1:=by
 obtain⟨q,hq,R⟩:=jR hts hw an e c;rw[h1.1]at hq;have ac:∀d:bP,w.at' d=false->eS d r.f=[]/\pE d r.e=[]:=fun d hd=>by
  obtain⟨q',am,R'⟩:=jR hts hw an e d;rw[hd]at am;have:=PV.noneSeq am;subst this;exact⟨R'.f,R'.e⟩
 obtain⟨m,al⟩:=hq;have en:=Bv al (.inr rfl);obtain⟨a1,a2⟩:=sS (c:=c) R.fok;have aj:WV (ii r.f) w:=fun d hd=>by
  cases aq:w.at' d with
  |true=>rfl
  |false=>rw[(sS (c:=d) R.fok).2,(ac d aq).1]at hd;cases hd
 have aS:p7 (nX (ii r.f) r.l)=true:=by
  refine ud h1 _ r.l _ (aba _) a1 aj R.lok ?_;obtain⟨_,_,_,s4⟩:=mY r.l _ a1 R.lok;rw[s4 c];split
  ·rename_i ak;rw[R.l];have hf:eS c r.f=q.p.toList:=R.f;rw[a2,hf]at ak;cases ag:q.p with
   |none=>rw[ag]at ak;cases ak
   |some j=>
    obtain⟨t,h3,_⟩:=en;have he:q.e=[]:=by
     rcases h3 with ⟨h3,_⟩|⟨h3,_⟩
     ·exact h3
     ·rw[h3]at ag;cases ag
    exact((An m _ _ al (.inr rfl)).2 0 j rfl he ag _ (ZR _) (OL.nil _ _ 0)).nL
  ·exact⟨List.Pairwise.nil,fun _ h=>(aaB h).elim⟩
 refine⟨d5.2 ⟨?_,fun x hx=>?_⟩,?_⟩
 ·unfold pI d4;rw[aby];split<;>simp
 ·rw[pI,List.mem_singleton]at hx;subst hx;exact aS
 ·have aa:r.e.filter (fun d=>decide (d.cond≠ff))=r.e.filter fun d=>d.cond.at' c:=List.filter_congr fun d hd=>by
   rw[Bool.eq_iff_iff,aaC];constructor
   ·intro a3;refine h1.at (R.eok d hd) a3 fun x hx=>?_;cases ao:w.at' x with
    |true=>rfl
    |false=>
     have:=(ac x ao).2;unfold pE at this;rw[List.map_eq_nil_iff]at this;have h5:=List.filter_eq_nil_iff.1 this d hd;exact absurd hx h5
   ·intro h e;rw[e]at h;cases h
  have hl:(pE c r.e).length=(r.e.filter fun d=>d.cond.at' c).length:=aah _;rw[aa,<-hl,R.e];obtain⟨t,h3,_⟩:=en;rcases h3 with ⟨h3,_⟩|⟨_,k,h3,_⟩<;>rw[h3]<;>simp
end Syn
namespace Go.Proofs.YtfaclfkpnmcmlaaGreatDoor
open Go Go.Sx Dg Syn
def Nu:aO Tryz.prog 84:=⟨_,Tryz.func84,rfl,rfl⟩
def PM:aO Tryz.prog 146:=⟨_,Tryz.func146,rfl,rfl⟩
variable{v:Value}{I:PH}
def KF{l:List Nd}(hS:eE I v l)(hl:l.length<=aN):aK Tryz.prog 146 #[v] I [] fun r I2 qs=>∃A,qs=[A]/\bQ I2 A r l:=by
 intro hd;obtain⟨fa,fc,rfl,aj⟩:=id hS;unfold aN at hl;refine ah 8 Tryz.func146 fun w0=>?_;cases fa with
 |none=>
  have ak:l=[]:=by
   rcases aj with h|⟨b,off,xs,e,_⟩
   ·exact h
   ·cases e
  subst ak;refine aT ?_;refine nG rfl rfl (by exact NE) rfl rfl ?_;apply RG;simp only[go_sem,Option.isNone];refine aR hd fun ag=>?_;exact af rfl ag (r:=[_]) rfl (abW _) ⟨_,rfl,Ow.nil _ _ _ _⟩
 |some a=>
  refine aT ?_;refine nG rfl rfl (by exact NE) rfl rfl ?_;apply RG;simp only[go_sem,Option.isNone];refine fx hd (by exact dQ) rfl rfl rfl rfl rfl bg fun b A ag aa=>?_;refine aT ?_;refine bl ag (by exact dQ) (xs:=([]:List Nd)) (R:=bm) ⟨[],aa,rfl⟩ hS (fun{I J c a} h k=>bm.le h k) (fun{I} c a h=>bm.len c a h) (fun{I} c a h=>bm.ones h) rfl rfl rfl rfl (by simp only[aaO];omega) (by simp only[aaO];unfold maxLen;omega) fun a2 c2 I2 A2 al ac am=>?_;apply RG;simp only[go_sem,aaA];exact af rfl al (r:=[_]) rfl ac ⟨_,rfl,am⟩
def H9{o:List Nd}{n:Nd}(aa:∀x∈o,x.key≠n.key)(y u:Value):L3 (o++[n]) y u<->(y=rK n.key/\u=iv o.length)\/(y≠rK n.key/\L3 o y u):=by
 constructor
 ·rintro⟨i,x,hi,hy,hu⟩;rcases aaf i o.length with h|h
  ·rw[aaG h]at hi;refine .inr ⟨fun e=>aa x (aaV hi) (DL (hy.symm.trans e)),i,x,hi,hy,hu⟩
  ·rw[aaH h]at hi;have:i-o.length=0:=by
    rcases abn (i-o.length)with h0|h0
    ·exact h0
    ·rw[aan (by simp;omega)]at hi;cases hi
   rw[this]at hi;cases hi
   exact .inl ⟨hy,by rw[hu];congr 1;omega⟩
 ·rintro(⟨hy,hu⟩|⟨_,i,x,hi,hy,hu⟩)
  ·exact⟨o.length,n,by simp,hy,hu⟩
  ·exact⟨i,x,by rw[aaG (List.getElem?_eq_some_iff.1 hi).1];exact hi,hy,hu⟩
def mj(a b:List Nd):d4 (a++b)=d4 a++d4 b:=List.filter_append ..
def j9(l:List Nd):(d4 l).length<=l.length:=List.length_filter_le ..
def RJ(vl vm:Value)(n:Nat)(x:Nat×Value):St:=⟨dn 87 [(3,.v vm),(4,.v x.2),(12,.v vl),(13,.v (iv n)),(14,.v (iv x.1))],[]⟩
def YP(l:List Nd)(mr:Nat)(I0:PH)(x:Nat×Value)(H:PH):Prop:=∃I M A,H=U [I,M,A]/\Dj [I,M,A]/\I0.le I/\x.1<=l.length/\lO Tryz.prog M mr 240 (L3 (d4 (l.take x.1)))/\bQ I A x.2 (d4 (l.take x.1))
def WJ(v:Value)(n i:Nat):St:=⟨dn 87 [(4,.v v),(70,.v v),(71,.v (iv n)),(72,.v (iv i))],[]⟩
theorem ve:∀(d:Nat) {I:PH} {v:Value} {l:List Nd},gJ l<d->eE I v l->sB v->iE l->p7 l=true->nJ l->du l<=aN->aK Tryz.prog 84 #[v] I [] fun r I2 qs=>∃A,qs=[A]/\bQ I2 A r (mL d l):=by
 intro d
 induction d with
 |zero=>intro I v l h;omega
 |succ d ih=>
 intro I v l dk hS hC cj ci ct cB hd;obtain⟨va,vc,rfl,_⟩:=id hS;have ef:=iI l;unfold aN at cB;rw[w8 d ci cj];obtain⟨b2,c0⟩:=d5.1 ci;have ee:=j9 l;refine ah 87 Tryz.func84 fun w0=>?_
 try simp only[iv]
 refine aT ?_;refine pM 240 hd rfl rfl fun mr M0 dx d0=>?_;refine aT ?_;refine aR dx fun dw=>?_;refine bf dw [1,0] fun dv=>?_;apply dF (fun x=>l.length-x.1) (RJ (.slice va l.length vc) (.map (some mr)) l.length) (YP l mr I) (fun x H=>x.1=l.length/\YP l mr I x H) (0,.slice none 0 0)
 ·exact bM
 ·exact(by simp only[go_sem,aa6,RJ])
 ·exact⟨I,M0,PH.no,rfl,dv,abW _,aaL _,d0.congr fun y u=>⟨fun⟨j,m,h,_⟩=>by simp[d4]at h,fun h=>h.elim⟩,Ow.nil _ _ _ _⟩
 ·rintro⟨i,vo⟩ H ⟨I1,M1,A1,rfl,a1,al,hi,a3,ao⟩ aj ba;simp only at hi a3 ao;simp only[RJ];obtain⟨oa,oc,rfl⟩:=ao.shape;rcases aaf i l.length with ak|dd
  rotate_left
  ·have:i=l.length:=by omega
   subst this;have cf:=Z6 l.length;apply bL 7;simp only[go_sem,cf,iv];exact ba (l.length,_) _ _ bM (by simp only[go_sem,aa6,RJ]) ⟨rfl,I1,M1,A1,rfl,a1,al,ZR _,a3,ao⟩
  have cf:decide ((i:Int)<(l.length:Int))=true:=by simp;omega
  have cA:=we hC ak;obtain⟨n,hn⟩:∃n,l[i]?=some n:=⟨_,aak ak⟩;have cm:=aaV hn;have ed:=oG cm;have ec:(d4 (l.take i)).length<=l.length:=ZS (j9 _) (by rw[abF];omega);obtain⟨b,off,cs,rfl,dy,bd⟩:=Sl.load bm.len (eE.le hS al) hn;obtain⟨vk,na,nk,rfl,aq,ac,bs⟩:=dy.shape;obtain⟨ka,kc,rfl,_⟩:=id ac;have aa:d4 (l.take (i+1))=d4 (l.take i)++d4 [n]:=by rw[db hn,mj]
  apply RG;simp only[go_sem,cf,iv,sD,rD];refine⟨ab,?_⟩;refine XN (l:=[.int .u8 n.kind,.string ⟨⟨n.text⟩⟩,.int .i64 n.tok,.int .i64 n.slot,.slice ka n.kids.length kc,sD na nk n.cond,rD n.cond]) (v:=.agg #[.int .u8 n.kind,.string ⟨⟨n.text⟩⟩,.int .i64 n.tok,.int .i64 n.slot,.slice ka n.kids.length kc,sD na nk n.cond,rD n.cond]) rfl (cellsU a1 (.head _) bd) (.inl ⟨cL,rfl⟩) ?_;refine lY ?_;refine WZ rfl jt (gO aq) fun v H2 hv=>?_;obtain⟨rfl,rfl⟩:=hv;cases bx:decide (n.cond=.lf false)
  rotate_left
  ·have dj:n.cond=ff:=by simpa using bx
   have e0:d4 [n]=[]:=by simp[d4,dj]
   rw[e0,aa6]at aa;apply RG;simp only[go_sem,iv,sD,rD,bx,cA];exact aj (i+1,.slice oa (d4 (l.take i)).length oc) _ _ dt bM (by simp only[go_sem,aa6,RJ]) ⟨I1,M1,A1,rfl,a1,al,ak,by simp only;rw[aa];exact a3,by simp only;rw[aa];exact ao⟩
  have cp:n.cond≠ff:=by simpa using bx
  have e0:d4 [n]=[n]:=by simp[d4,cp]
  rw[e0]at aa;have cl:∀x∈d4 (l.take i),x.key≠n.key:=fun x hx e=>by
   have h1:d4 l=d4 (l.take i)++d4 (l.drop i):=by rw[<-mj,abq]
   rw[h1,abP,List.pairwise_append]at b2;have h2:n∈d4 (l.drop i):=gq.2 ⟨by rw[List.mem_iff_getElem?];exact⟨0,by rw[Z1];exact hn⟩,cp⟩;have h3:=b2.2.2 x.key (List.mem_map_of_mem hx) n.key (List.mem_map_of_mem h2);rw[e,jZ.irr]at h3;cases h3
  apply RG;simp only[go_sem,iv,sD,rD,bx];refine WZ rfl AR (MF _ _ _ _ _ _ _ _ _ _ _ _) fun v H2 hv=>?_;obtain⟨rfl,rfl⟩:=hv;refine lY ?_;have a9:=SD (kZ.1 ct n cm);have dI:=a3.atU a1 (.tail _ (.head _));refine nB (by exact R9) (by exact JT) NL (key:=rK n.key) rfl rfl rfl rfl dI a9 (iv 0) false (.inr ⟨rfl,rfl,fun u ⟨j,m,hj,hk,_⟩=>cl m (aaV hj) (DL hk).symm⟩) ?_;apply RG;simp only[go_sem,iv,sD,rD,abK];refine nZ (by exact R9) (by exact JT) (key:=rK n.key) (v:=iv (d4 (l.take i)).length) a1 rfl (.inl rfl) rfl rfl rfl a3 a9 fun M5 ds dT=>?_;refine lY ?_;refine ad ds [0,1] [] [M5,A1] rfl PM rfl (KF ac (by have:=iI n.kids;unfold aN;omega)) fun v I6 qs cx aS hq=>?_;obtain⟨K6,rfl,a5⟩:=hq;simp only[Z3]at cx |-;obtain⟨qa,qc,rfl⟩:=a5.shape;have cb:=a5.capN bm.len;refine bf cx [0,1,2] fun b5=>?_;refine ae b5 fun I5 b5 an d3=>?_;have c8:eE I5 (.slice qa n.kids.length qc) n.kids:=bQ.sl a5 an d3;refine lY ?_;refine ax b5 (by exact dQ) rfl rfl rfl rfl rfl bg fun nb I7 bC am c7=>?_;have k7:=abV aS (abV an am);have dA:eE I7 (.slice (some ⟨nb,0,none⟩) 1 1) [n]:=iJ (az c7 (by simp[aD,Value.cells]) (by simp[aD,Value.cells,iv,sD,rD])) (bm.mk (n:=n) (aq.le k7) (eE.le c8 am) cb);refine lY ?_;refine bf bC [1,0] fun b6=>?_;refine bl (R:=bm) (xs:=d4 (l.take i)) (ys:=[n]) b6 (by exact dQ) (bQ.le ao k7) dA (fun{I J c a} h k=>bm.le h k) (fun{I} c a h=>bm.len c a h) (fun{I} c a h=>bm.ones h) rfl rfl rfl rfl (by simp only[aaj,aaO];omega) (by simp only[aaj,aaO];unfold maxLen;omega) fun ua uc I8 A8 bc b4 ea=>?_;apply RG;simp only[go_sem,iv,cA,sD,rD];refine bf bc [1,0] fun ag=>?_
  refine aj (i+1,.slice ua (d4 (l.take i)++[n]).length uc) _ _ dt bM (by simp only[go_sem,aa6,RJ]) ⟨I8,M5,A8,rfl,ag,abV al (abV k7 b4),ak,?_,by simp only;rw[aa];exact ea⟩;refine dT.congr fun y u=>?_;simp only;rw[aa];exact H9 cl y u
 rintro⟨i,vo⟩ H ⟨hi,I1,M1,A1,rfl,a1,al,_,a3,ao⟩;simp only at hi ao;subst hi;rw[aaS]at ao;clear a3;simp only[RJ];have b1:w4 (d4 l):=fun i j x y da hx hy=>by
  have h1:=List.pairwise_iff_getElem.1 (List.pairwise_map.1 b2) i j (List.getElem?_eq_some_iff.1 hx).1 (List.getElem?_eq_some_iff.1 hy).1 da;rw[(List.getElem?_eq_some_iff.1 hx).2,(List.getElem?_eq_some_iff.1 hy).2]at h1;show CW y.key x.key=false;cases h2:CW y.key x.key with
  |false=>rfl
  |true=>have:=jZ.tr _ _ _ h1 h2;rw[jZ.irr]at this;cases this
 have bb:∀n∈d4 l,gJ n.kids<d/\iE n.kids/\p7 n.kids=true/\nJ n.kids/\du n.kids<=2^40:=fun n hn=>by
  have hn:=(gq.1 hn).1;have h1:=oV hn;rw[wE]at h1;have h2:=oG hn;exact⟨ab,(fW.1 (ik.1 cj n hn)).2,c0 n hn,(qG.1 (kZ.1 ct n hn)).2,ab⟩
 obtain⟨oa,oc,rfl⟩:=ao.shape;generalize d4 l=L at *;refine dP ?_;refine ad a1 [1,0] [A1] [M1] rfl P4 rfl (Ki ao VO b1 (by unfold aN;omega)) fun v I3 qs bC a7 hq=>?_;obtain rfl:=hq;simp only[Z3]at bC |-;have eb:=bQ.le ao a7;refine dP ?_;refine bf bC [1,0] fun b6=>?_;refine aA (fun i=>L.length-i) (WJ (.slice oa L.length oc) L.length) (fun i H=>∃I5 A5,H=U [I5,M1,A5]/\Dj [I5,M1,A5]/\I3.le I5/\i<=L.length/\bQ I5 A5 (.slice oa L.length oc) ((L.take i).map (fun(m:Nd)=>{ m with kids:=mL d m.kids })++L.drop i)) 0 bM (by simp only[go_sem,aa6,WJ]) ?_ ?_
 ·exact⟨I3,A1,rfl,b6,abW _,aaL _,eb⟩
 rintro i H ⟨I5,A5,rfl,bc,an,hi,cc⟩ aj;simp only[WJ];have c9:=abV al (abV a7 an);rcases aaf i L.length with ak|dd
 ·have cd:decide ((i:Int)<(L.length:Int))=true:=by simp;omega
  have e1:IntKind.i64.wrap ((i:Int)+1)=((i+1:Nat):Int):=by
   rw[<-wrap64 (n:=i+1) ab];congr 1
  obtain⟨n,hn⟩:∃n,L[i]?=some n:=⟨_,aak ak⟩;obtain⟨p1,p2,p5,p3,p4⟩:=bb n (aaV hn);have a4:((L.take i).map (fun(m:Nd)=>{ m with kids:=mL d m.kids })++L.drop i).length=L.length:=by simp;omega
  have dc:((L.take i).map (fun(m:Nd)=>{ m with kids:=mL d m.kids })++L.drop i)[i]?=some n:=by
   rw[aaH (by simp;omega)];simp only[aah,abF,aaN (aar ak),Nat.sub_self,Z1,Nat.add_zero];exact hn
  have c6:((L.take i).map (fun(m:Nd)=>{ m with kids:=mL d m.kids })++L.drop i).set i { n with kids:=mL d n.kids }=(L.take (i+1)).map (fun(m:Nd)=>{ m with kids:=mL d m.kids })++L.drop (i+1):=by
   rw[List.set_append_right _ _ (by simp;omega)];simp only[aah,abF,aaN (aar ak),Nat.sub_self];rw[db hn,abP,aaT];congr 1;have:L.drop i=n::L.drop (i+1):=by
    rw[aaK ak];rw[aak ak]at hn;rw[aaZ hn]
   rw[this];rfl
  obtain⟨g,cap,cur,xs,ev,rfl,c1,c2,c3,c4,c5,b3⟩:=cc.open' (by rw[a4];omega) bm.len;rw[a4]at ev c1 c4 c5;cases ev
  obtain⟨vk,na,nk,cy,aq,ac,bs⟩:=(b3.get bm.len dc).shape;obtain⟨ka,kc,rfl,_⟩:=id ac;have b0:L.length*7<=cur.size:=by rw[c3];exact aaQ _ c1
  have eg:(i+1)*7<=L.length*7:=aaQ _ ak;have cr:=gQ (k:=4) (m:=1) (e:=60) (g:=g) (cur:=cur) bm.len b3 (i:=i) (by rw[a4];exact ak) (by rw[a4];exact b0) (by rw[a4];exact c4) cy ab;simp only[abx,aa1,abA,abz]at cr;apply RG;simp only[go_sem,iv,cd];refine⟨ab,?_⟩;refine XN (l:=[.slice ka n.kids.length kc]) rfl (by simpa using cellsU bc (.tail _ (.tail _ (.head _))) cr) (.inr ⟨PL,rfl⟩) ?_;refine dP ?_;refine ad bc [0,1] [] [M1,_] rfl Nu rfl (ih p1 ac bs p2 p5 p3 p4) fun v I6 qs ag aS hq=>?_;obtain⟨K6,rfl,a5⟩:=hq;simp only[Z3]at ag |-;obtain⟨qa,qc,rfl⟩:=a5.shape;have cb:=a5.capN bm.len;refine bf ag [0,1,2] fun a2=>?_;refine ae a2 fun I7 a2 am d2=>?_;have d1:eE I7 (.slice qa (mL d n.kids).length qc) (mL d n.kids):=bQ.sl a5 am d2;refine dP ?_;refine⟨ab,?_⟩;refine bf a2 [1,0] fun ca=>?_;refine bw ca rfl rfl rfl rfl rfl (by exact Ke) (by simp;omega) fun b8=>?_;apply RG;simp only[go_sem,iv,e1];refine bf b8 [1,0] fun b7=>?_;have bF:=abV aS am;refine aj (i+1) _ _ ab bM (by simp only[go_sem,aa6,WJ]) ⟨I7,_,rfl,b7,abV an bF,ak,?_⟩;rw[<-c6];refine⟨_,?_,om bm.len (b3.mono fun _ _ h=>bm.le h bF) (i:=i) (by rw[a4];exact ak) cy (k:=4) (cs:=[.slice qa (mL d n.kids).length qc]) (a:={ n with kids:=mL d n.kids }) (by simp) (bm.mk (n:={ n with kids:=mL d n.kids }) (aq.le bF) d1 cb)⟩;rw[aa0,a4];exact oI c5 c1 c2 c3 c4 (by simp;omega)
 ·have:i=L.length:=by omega
  subst this;have cd:=Z6 L.length;rw[aaS,abH,aa6]at cc;apply RG;simp only[go_sem,iv,cd];refine bf bc [0,1] fun ag=>?_;refine ae (c:=.st _) ag fun I9 ag a6 ei=>?_;exact af rfl ag (r:=[_]) rfl (abV c9 a6) ⟨A5,rfl,bQ.le cc a6⟩
def Ux(vs:Value)(n i:Nat)(vo:Value):St:=⟨dn 50 [(3,.v vo),(12,.v vs),(13,.v (iv n)),(14,.v (iv i))],[]⟩
theorem p6{l:List cO}(hS:Sl eG I v l)(hl:l.length<=aN)(a9:Ce l)(h1:(mZ l).length<=1):aK Tryz.prog 95 #[v] I [] fun r I2 qs=>∃A,qs=[A]/\eF I2 A r (Eo l):=by
 have em:Eo l=mZ l:=Ks a9 h1;rw[em];intro hd;have bc:=hl;unfold aN at bc;obtain⟨va,vc,rfl,_⟩:=id hS;refine ah 50 Tryz.func95 fun w0=>?_;refine aT ?_;refine bV hd rfl PQ (L8 hS hl) fun v1 I1 qs b0 ao hq=>?_;obtain⟨K,rfl,hK⟩:=hq;refine aT ?_;refine ad b0 [0] [K] [] rfl PG rfl (ME hK hl) fun v2 I2 qs a6 bb hq=>?_;obtain⟨A,rfl,rfl,hA⟩:=hq;simp only[Z3]at a6 |-;refine aT ?_;refine ad a6 [0] [A] [] rfl Q6 rfl (ue hA h1) fun v3 I3 qs a5 al hq=>?_;obtain rfl:=hq;simp only[Z3]at a5 |-;have a1:=eF.le hA al;clear em hA;generalize mZ l=E at a1 h1 |-;obtain⟨ea,ec,rfl⟩:=a1.shape;refine aT ?_;refine aR a5 fun bF=>?_;refine bf bF [1,0] fun bC=>?_;refine aA (fun x=>E.length-x.1) (fun x=>Ux (.slice ea E.length ec) E.length x.1 x.2) (fun(x:Nat×Value) H=>∃I5 A5 B,H=U [I5,A5,B]/\Dj [I5,A5,B]/\I3.le I5/\x.1<=E.length/\eF I5 A5 (.slice ea E.length ec) E/\eF I5 B x.2 (E.take x.1)) (0,.slice none 0 0) bM (by simp only[go_sem,aa6,Ux]) ?_ ?_
 ·exact⟨I3,A,PH.no,rfl,bC,abW _,aaL _,a1,Ow.nil _ _ _ _⟩
 rintro⟨i,vo⟩ H ⟨I5,A5,B,rfl,aq,ak,hi,a7,hB⟩ ac;simp only at hi hB;simp only[Ux];rcases aaf i E.length with a3|b4
 ·have bd:i=0:=by omega
  subst bd;obtain⟨oa,oc,rfl⟩:=hB.shape;have a2:decide ((0:Int)<(E.length:Int))=true:=abU ab;have e1:IntKind.i64.wrap ((0:Int)+1)=1:=by decide
  have wm:IntKind.i64.wrap ((0:Int)-1)=-1:=by decide
  obtain⟨d,a4⟩:∃d,E[0]?=some d:=⟨_,aak a3⟩;obtain⟨g,cap,cur,c,ev,rfl,c1,c2,hc,b6,an,_⟩:=a7.elem (fun{I} c a h=>eG.len c a h) (fun{I J c a} h k=>eG.le h k) a4;cases ev
  obtain⟨ca,ck,rfl,b5⟩:=id hc;have ht:E.take 1=[]++[d]:=by rw[db a4];rfl
  have b3:decide ((-1:Int)>=0)=false:=by decide
  simp only[abz,aaO]at hB |-;apply RG;simp only[go_sem,iv,a2,sD,rD]
  try refine⟨ab,?_⟩
  refine XN (l:=[.int .u8 d.code,.int .i64 d.tok,sD ca ck d.cond,rD d.cond]) (v:=.agg #[.int .u8 d.code,.int .i64 d.tok,sD ca ck d.cond,rD d.cond]) rfl (by simpa using cellsU aq (.tail _ (.head _)) an) (.inl ⟨lW,rfl⟩) ?_;apply RG;simp only[go_sem,iv,sD,rD,wm];refine eP [0,1,2,3,4,5,6,7,8,9,10] [6] [] ?_;apply au;simp only[go_sem,iv,sD,rD,b3];refine aw ?_;refine lY ?_;refine ax aq (by exact vP) rfl rfl rfl rfl rfl bg fun nb I7 bx aa ba=>?_;have b1:Sl eG I7 (.slice (some ⟨nb,0,none⟩) 1 1) [d]:=⟨_,_,rfl,.inr ⟨nb,0,_,rfl,az ba (by simp[aD,Value.cells]) (by simp[aD,Value.cells,iv,sD,rD]),.one (eG.le hc aa)⟩⟩;refine lY ?_;refine bf bx [1,0] fun bs=>?_;refine bl (R:=eG) (xs:=[]) (ys:=[d]) bs (by exact vP) (eF.le hB aa) b1 (fun{I J c a} h k=>eG.le h k) (fun{I} c a h=>eG.len c a h) (fun{I} c a h=>eG.ones h) rfl rfl rfl rfl (by simp only[aaj,aaO];omega) (by simp only[aaj,aaO];unfold maxLen;omega) fun ua uc I8 B8 am aj b2=>?_;apply RG;simp only[go_sem,iv,sD,rD,e1];refine bf am [1,0] fun aS=>?_;exact ac (1,.slice ua ([]++[d]).length uc) _ _ dt bM (by simp only[go_sem,aa6,Ux]) ⟨I8,_,B8,rfl,aS,abV ak (abV aa aj),a3,eF.le a7 (abV aa aj),by simp only;rw[ht];exact b2⟩
 ·have:i=E.length:=by omega
  subst this;have a2:=Z6 E.length;rw[aaS]at hB;refine bf aq [0,1] fun am=>?_;refine ae (c:=.st _) am fun I9 am ag b7=>?_;apply RG;simp only[go_sem,iv,a2];exact af rfl am (r:=[_]) rfl (abV ao (abV al (abV ak ag))) ⟨B,rfl,eF.le hB ag⟩
def Tb:aO Tryz.prog 38:=⟨_,Tryz.func38,rfl,rfl⟩
def L4:aO Tryz.prog 22:=⟨_,Tryz.func22,rfl,rfl⟩
def Ly:aO Tryz.prog 19:=⟨_,Tryz.func19,rfl,rfl⟩
def SH:aO Tryz.prog 69:=⟨_,Tryz.func69,rfl,rfl⟩
def NT(I:PH)(c:List Value)(t:Tr):Prop:=∃vk vd,c=[vk,vd]/\eE I vk t.kids/\sB vk/\Sl eG I vd t.diags/\sB vd
def NT.le{J:PH}{c:List Value}{t:Tr}(h:NT I c t)(k:I.le J):NT J c t:=by
 obtain⟨vk,vd,e,h1,h2,h3,h4⟩:=h;exact⟨vk,vd,e,eE.le h1 k,h2,SlE.le h3 k,h4⟩
def NT.len(c:List Value)(t:Tr)(h:NT I c t):c.length=2:=by obtain⟨vk,vd,e,_⟩:=h;rw[e];rfl
def WK(vl:Value)(n:Nat)(x:Nat×Value×Value):St:=⟨dn 32 [(2,.p 2 0),(3,.p 3 0),(6,.v vl),(7,.v (iv n)),(8,.v (iv x.1))],[⟨2,36,[.slice none 0 0,.slice none 0 0]⟩,⟨3,36,[x.2.1,x.2.2]⟩]⟩
def Zw(l:List Tr)(I0:PH)(x:Nat×Value×Value)(H:PH):Prop:=∃I A B,H=U [I,A,B]/\Dj [I,A,B]/\I0.le I/\x.1<=l.length/\bQ I A x.2.1 ((l.take x.1).flatMap (·.kids))/\eF I B x.2.2 ((l.take x.1).flatMap (·.diags))
def sH{α β:Type}(f:α->List β)(i:Nat)(l:List α):((l.take i).flatMap f).length<=(l.flatMap f).length:=by
 conv=>rhs;rw[<-abq i l]
 rw[abk,aa9];omega
theorem Q1{l:List Tr}(hS:Sl NT I v l)(hl:l.length<=100)(hk:iE (l.flatMap (·.kids)))(b7:p7 (l.flatMap (·.kids))=true)(h1:(mZ (l.flatMap (·.diags))).length<=1)(hf:nJ (l.flatMap (·.kids)))(hz:du (l.flatMap (·.kids))<=aN)(he:Ce (l.flatMap (·.diags)))(b2:(l.flatMap (·.diags)).length<=aN):
  aK Tryz.prog 38 #[v] I [] fun r I2 qs=>qs=[]/\He I2 r (WM l):=by
 obtain⟨va,vc,rfl,_⟩:=id hS;have cd:=iI (l.flatMap (·.kids));have b4:=hz;have a5:=b2;unfold aN at b4 a5;intro hd;refine ah 32 Tryz.func38 fun w0=>?_;refine aT ?_;refine aR hd fun b8=>?_;refine aR b8 fun bd=>?_;refine aA (fun x=>l.length-x.1) (WK (.slice va l.length vc) l.length) (Zw l I) (0,.slice none 0 0,.slice none 0 0) bM (by simp only[go_sem,aa6,WK]) ?_ ?_
 ·exact⟨I,_,_,rfl,bd,abW _,aaL _,Ow.nil _ _ _ _,Ow.nil _ _ _ _⟩
 rintro⟨i,vk,vd⟩ H ⟨I1,A1,B1,rfl,bb,am,hi,hA,hB⟩ an;simp only at hi hA hB;simp only[WK];obtain⟨aa,ac,rfl⟩:=hA.shape;obtain⟨ba,bc,rfl⟩:=hB.shape;rcases aaf i l.length with b1|cf
 ·have h9:decide ((i:Int)<(l.length:Int))=true:=abU ab;have e1:IntKind.i64.wrap ((i:Int)+1)=((i+1:Nat):Int):=by rw[<-wrap64 (n:=i+1) ab];congr 1
  obtain⟨t,ht⟩:∃t,l[i]?=some t:=⟨_,aak b1⟩;obtain⟨b,off,cs,rfl,ca,a2⟩:=Sl.load (fun{I} c a h=>NT.len c a h) (Sl.le (R:=NT) (fun{I J c a} h k=>NT.le h k) hS am) ht;obtain⟨wk,wd,rfl,bF,b5,b0,b6⟩:=ca;obtain⟨ka,kc,rfl,_⟩:=id bF;obtain⟨da,dc,rfl,_⟩:=id b0;have ek:(l.take (i+1)).flatMap (·.kids)=(l.take i).flatMap (·.kids)++t.kids:=by rw[db ht,abk];simp
  have ed:(l.take (i+1)).flatMap (·.diags)=(l.take i).flatMap (·.diags)++t.diags:=by rw[db ht,abk];simp
  have lk:=sH (fun t:Tr=>t.kids) (i+1) l;have ld:=sH (fun t:Tr=>t.diags) (i+1) l;rw[ek,aa9]at lk;rw[ed,aa9]at ld;apply RG;simp only[go_sem,iv,h9]
  try refine⟨ab,?_⟩
  refine XN (l:=[.slice ka t.kids.length kc,.slice da t.diags.length dc]) (v:=.agg #[.slice ka t.kids.length kc,.slice da t.diags.length dc]) rfl (cellsU bb (.head _) a2) (.inl ⟨Vd,rfl⟩) ?_;refine dP ?_;refine bl (R:=bm) (xs:=(l.take i).flatMap (·.kids)) (ys:=t.kids) bb (by exact dQ) hA bF (fun{I J c a} h k=>bm.le h k) (fun{I} c a h=>bm.len c a h) (fun{I} c a h=>bm.ones h) rfl rfl rfl rfl ab (by unfold maxLen;omega) fun ua uc I3 A3 a1 aj bC=>?_;refine dP ?_;refine bf a1 [1,0] fun aS=>?_;refine bl (R:=eG) (xs:=(l.take i).flatMap (·.diags)) (ys:=t.diags) aS (by exact vP) (eF.le hB aj) (SlE.le b0 aj) (fun{I J c a} h k=>eG.le h k) (fun{I} c a h=>eG.len c a h) (fun{I} c a h=>eG.ones h) rfl rfl rfl rfl ab (by unfold maxLen;omega) fun wa wc I4 B4 a9 ag bx=>?_;apply RG;simp only[go_sem,iv,e1];refine bf a9 [1,0] fun a3=>?_;exact an (i+1,.slice ua ((l.take i).flatMap (·.kids)++t.kids).length uc,.slice wa ((l.take i).flatMap (·.diags)++t.diags).length wc) _ _ dt bM (by simp only[go_sem,aa6,WK]) ⟨I4,A3,B4,rfl,a3,abV am (abV aj ag),b1,by simp only;rw[ek];exact bQ.le bC ag,by simp only;rw[ed];exact bx⟩
 ·have:i=l.length:=by omega
  subst this;have h9:=Z6 l.length;have b3:=hA.capN bm.len;rw[aaS]at hA hB b3 |-;refine bf bb [0,1] fun a1=>?_;refine ae (c:=.st _) a1 fun I3 a1 aj bC=>?_;refine bf a1 [0] fun aS=>?_;refine ae (c:=.st _) aS fun I4 aS ag bx=>?_;have hK:=bQ.sl (J:=I4) hA (abV aj ag) (abV bC ag);have hE:=eF.sl (eF.le hB aj) ag bx;have k4:=abV am (abV aj ag);apply RG;simp only[go_sem,iv,h9];refine eP [0,1,3,4,2,5,6,7] [] [] ?_;refine dS ?_;refine cv aS rfl Nu (ve (gJ (l.flatMap (·.kids))+1) (aba _) hK b3 hk b7 hf hz) fun v5 I5 qs a9 aq hq=>?_;obtain⟨K,rfl,a4⟩:=hq;obtain⟨qa,qc,rfl⟩:=a4.shape;have hK5c:=a4.capN bm.len;refine dS ?_;refine aE a9 [0] [] [K] rfl Sr rfl (p6 (SlE.le hE aq) b2 he h1) fun v6 I6 qs a3 ao hq=>?_;obtain⟨E,rfl,bs⟩:=hq;simp only[Z3]at a3 |-;obtain⟨ra,rc,rfl⟩:=bs.shape;have hE6c:=Ow.capN (R:=eG) bs (fun c a h=>eG.len c a h);refine dS ?_;refine aw ?_;refine bf a3 [0,1] fun a7=>?_;refine ae (c:=.st _) a7 fun I7 a7 al cc=>?_;refine bf a7 [0] fun a6=>?_;refine ae (c:=.st _) a6 fun I8 a6 ak cb=>?_;refine aT ?_;refine af rfl a6 (r:=[.agg #[.slice qa (mL (gJ (l.flatMap (·.kids))+1) (l.flatMap (·.kids))).length qc,.slice ra (Eo (l.flatMap (·.diags))).length rc]]) (by simp only[Tryz.results38,go_sem,iv]) (abV k4 (abV aq (abV ao (abV al ak)))) ⟨rfl,_,_,rfl,?_,hK5c,?_,hE6c⟩
  ·have e:mL (gJ (l.flatMap (·.kids))+1) (l.flatMap (·.kids))=(WM l).kids:=tp (ZR _) (Nat.le_succ _);rw[e]at a4 |-;exact bQ.sl (bQ.le a4 (abV ao al)) ak cb
  ·exact SlE.le (eF.sl bs al cc) ak
end Go.Proofs.YtfaclfkpnmcmlaaGreatDoor
namespace Syn
open Dg
def tk(k:Nat)(s:bq):Tok:=⟨k,s,tt,true⟩
def mU:T:=.nd 0 ff tt
def XF:List Tok:=[tk 1 [118,97,114],tk 1 [120],tk 3 [58],⟨1,[105,110,116],mU,true⟩,⟨1,[98,111,111,108],mU.not,true⟩,tk 3 [59]]
def Uk:List Tok:=[tk 1 [102,110],tk 1 [109,97,105,110],tk 3 [40],tk 3 [41],tk 3 [123],tk 1 [112,114,105,110,116],tk 2 [49],tk 3 [43],tk 2 [50],tk 3 [42],tk 2 [51],tk 3 [59],tk 3 [125]]
def rB:bW:=⟨[⟨2,[120],1,0,[⟨5,[105,110,116],3,0,[],mU⟩,⟨5,[98,111,111,108],4,0,[],mU.not⟩],tt⟩],[(6,tt)],[]⟩
def lA:List Nd:=[⟨3,[109,97,105,110],1,0,[⟨6,[],4,2,[⟨11,[],5,0,[⟨13,[43],7,0,[⟨15,[49],6,0,[],tt⟩,⟨13,[42],9,1,[⟨15,[50],8,0,[],tt⟩,⟨15,[51],10,1,[],tt⟩],tt⟩],tt⟩],tt⟩],tt⟩],tt⟩]
mutual
def Xc:Nd->Nd->Bool
 |⟨k,t,o,s,ks,d⟩,⟨k',t',o',s',ks',d'⟩=>decide (k=k') && decide (t=t') && decide (o=o') && decide (s=s') && Ng ks ks' && decide (d=d')
def Ng:List Nd->List Nd->Bool
 | [],[]=>true
 |n::l,m::k=>Xc n m && Ng l k
 |_,_=>false
end
mutual
theorem R3:∀{a b:Nd},Xc a b=true->a=b
 |⟨k,t,o,s,ks,d⟩,⟨k',t',o',s',ks',d'⟩,h=>by
  simp only[Xc,aao,aaC]at h
  obtain⟨⟨⟨⟨⟨h1,h2⟩,h3⟩,h4⟩,h5⟩,h6⟩:=h
  rw[h1,h2,h3,h4,EJ h5,h6]
theorem EJ:∀{a b:List Nd},Ng a b=true->a=b
 | [],[],_=>rfl
 |n::l,m::k,h=>by
  simp only[Ng,aao]at h
  rw[R3 h.1,EJ h.2]
 | [],m::k,h=>by simp[Ng]at h
 |n::l,[],h=>by simp[Ng]at h
end
def YE(o:Option bW)(r:bW):Bool:=match o with
 |some x=>Ng x.l r.l && decide (x.f=r.f) && decide (x.e=r.e)
 |none=>false
def KV{o:Option bW}{r:bW}(h:YE o r=true):o=some r:=by
 cases o with
 |none=>cases h
 |some x=>
  simp only[YE,aao,aaC]at h;obtain⟨⟨h1,h2⟩,h3⟩:=h;cases x;cases r
  simp only at h1 h2 h3;rw[EJ h1,h2,h3]
def Xo:run XF iW (.seqL true 0 [(0,tt)] [] [])=some rB:=KV (by decide +kernel)
def rA:bW:=⟨lA,[(13,tt)],[]⟩
def Xr:run Uk iW (.seqL true 0 [(0,tt)] [] [])=some rA:=KV (by decide +kernel)
def VK:mL (gJ (pI rB)) (pI rB)=[⟨1,[],-1,0,rB.l,tt⟩]/\Eo rB.e=[]:=⟨by rfl,by rfl⟩
def We:mL (gJ (pI rA)) (pI rA)=[⟨1,[],-1,0,lA,tt⟩]/\Eo rA.e=[]:=⟨by rfl,by rfl⟩
def SL:bT Uk:=fun t h=>by
 simp only[Uk,tk,aad,aaB,or_false]at h;rcases h with h|h|h|h|h|h|h|h|h|h|h|h|h<;>subst h<;>exact trivial
def XP{t:Tr}(h:Rx XF tt t):t=⟨[⟨1,[],-1,0,rB.l,tt⟩],[]⟩:=by
 rcases h with ⟨e,_⟩|⟨_,r,er,et⟩
 ·cases e
 ·rw[Xo]at er;cases er
  rw[et,VK.1,VK.2]
def Yk:Rx Uk tt ⟨[⟨1,[],-1,0,lA,tt⟩],[]⟩:=by
 refine .inr ⟨by decide,rA,Xr,?_⟩;rw[We.1,We.2]
def SP{w:T}(hw:w.ok 0){t:Tr}(h:Rx Uk w t){c:bP}(hc:w.at' c=true):prj c t=⟨[⟨1,[],-1,0,lA,tt⟩],[]⟩:=by
 rw[NZ SL hw (show tt.ok 0 from trivial) h Yk hc rfl];rfl
end Syn
namespace Go.Proofs.YtfaclfkpnmcmlaaGreatDoor
open Go Go.Sx Dg Syn
def DS{K:Type}[DecidableEq K](lt:K->K->Bool)(k:K):∀l:List K,(vI lt k l).length<=l.length+1
 | []=>ZR _
 |y::l=>by
  have:=DS lt k l;simp only[vI];split
  ·simp
  ·split
   ·simp only[aaj];omega
   ·simp
def zJ{K:Type}[DecidableEq K](lt:K->K->Bool):∀l:List K,(pZ lt l).length<=l.length
 | []=>ZR _
 |y::l=>by
  have h1:=zJ lt l;have h2:=DS lt y (pZ lt l);show (vI lt y (pZ lt l)).length<=_;simp only[aaj];omega
def Rb(e:List cO):(Eo e).length<=e.length:=by
 unfold Eo Un;rw[aah];refine ZS (zJ _ _) ?_;rw[aah];exact List.length_filter_le ..
def Ub(t:Tr):Prop:=du t.kids<=aN/\t.diags.length<=aN
theorem Ub.prj{t:Tr}(c:Nat)(h:Ub t):Ub (prj (ch c) t):=⟨ZS (BH _ _) h.1,by
 have h2:((t.diags.filter fun d=>d.cond.at' (ch c)).map fun d=>{ d with cond:=tt }).length<=t.diags.length:=by
  rw[aah];exact List.length_filter_le ..
 exact ZS h2 h.2⟩
def Xs(ts:List Tok)(w:T)(r:Value)(I2:PH):Prop:=∃t,Rx (ts.map refit) w t/\He I2 r t/\Ub t
structure uL(I:PH)(v:Value)(ts:List Tok):Prop where
 sh:∃lv ga gn gc,v=.agg #[lv,.slice ga gn gc]/\Sl dz I lv ts
 ok:bT ts
 len:ts.length<=16384
 txt:∀t∈ts,t.text.length<2^40
variable{v:Value}{I:PH}
def uL.le{J:PH}{ts:List Tok}(h:uL I v ts)(k:I.le J):uL J v ts:=
 ⟨let ⟨lv,ga,gn,gc,e,hs⟩:=h.sh;⟨lv,ga,gn,gc,e,Sl.le (R:=dz) (fun{I J c a} h k=>dz.le h k) hs k⟩,h.ok,h.len,h.txt⟩
def ns{ts:List Tok}(h:bT ts):bT (ts.map refit):=fun t ht=>by
 obtain⟨s,hs,rfl⟩:=List.mem_map.1 ht;exact h s hs
def Pe{ts:List Tok}(h:∀t∈ts,t.text.length<2^40)(i:Nat):(X (ts.map refit) i).length<4611686018427387904:=by
 unfold X cQ;split
 ·rename_i t ht;split
  ·obtain⟨s,hs,rfl⟩:=List.mem_map.1 (aaV ht);have:=h s hs;show s.text.length<_;omega
  ·simp
 ·simp
theorem DB{vd:Value}{ts:List Tok}{w:T}(hV:ir I)(hT:uL I v ts)(hW:cX I vd w)(b5:∀r,run (ts.map refit) iW (.seqL true 0 [(0,w)] [] [])=some r->p7 (pI r)=true/\(mZ r.e).length<=1):aK Tryz.prog 22 #[v,vd] I [] fun r I2 qs=>qs=[]/\Xs ts w r I2:=by
 obtain⟨⟨lv,ga,gn,gc,rfl,hS⟩,a2,hl,hx⟩:=hT;obtain⟨la,lc,rfl,_⟩:=id hS;obtain⟨wa,wk,rfl⟩:=hW.shape2;intro hd;refine ah 39 Tryz.func22 fun w0=>?_
 try simp only[sD,rD,iv]
 refine aT ?_;refine WZ rfl jt (gO (hW.le (cP hd))) fun v H2 hv=>?_;obtain⟨rfl,rfl⟩:=hv;cases b6:decide (w=.lf false)
 rotate_left
 ·have cm:w=ff:=by simpa using b6
  refine aT ?_;exact af rfl hd (r:=[.agg #[.slice none 0 0,.slice none 0 0]]) (by simp only[Tryz.results22,go_sem,iv]) (abW _) ⟨rfl,⟨[],[]⟩,.inl ⟨cm,rfl⟩,⟨_,_,rfl,⟨none,0,rfl,.inl rfl⟩,lM,⟨none,0,rfl,.inl rfl⟩,lM⟩,by exact⟨aaL _,aaL _⟩⟩
 have a1:w≠ff:=by simpa using b6
 refine aT ?_;refine bV hd rfl TC (CA hV hS hl hx) fun v1 I1 qs cs aq hq=>?_;obtain⟨pb,fv,rfl,rfl,hF⟩:=hq;have hP:zr I1 (ts.map refit) (.slice la ts.length lc) fv:=⟨Sl.refit (Sl.le (R:=dz) (fun{I J c a} h k=>dz.le h k) hS aq),hF,by simpa using hl,ns a2⟩;obtain⟨r,er,fn,re,rl⟩:=Jd (ns a2) hW.1 a1 (by simpa using hl);obtain⟨q0,_,RR0⟩:=jR (ns a2) hW.1 a1 er (fun _=>false);have cd:=Lh (ns a2) (by simpa using hl) hW.1 a1 er;have ci:=TU (ns a2) (by simpa using hl) (Pe hx) hW.1 a1 er;obtain⟨cf,_⟩:=E7 RR0.fok RR0.lok;have c9:du (nX (ii r.f) r.l)+1=du (pI r):=by unfold pI;rw[bp,dJ]
 unfold Tk at cd;refine OZ ?_;refine aR cs fun cr=>?_;refine bf cr [1,0] fun cp=>?_;refine ad cp [0,1] [sg pb _,_] [] rfl Sa rfl (Dp (o:=0) ab er hP (hW.le aq) a1 (Ow.nil _ _ _ _) (by have re':=re;unfold aN at re';simp only[aaO];unfold ux;omega)) fun v2 I2 qs b8 bb hq=>?_;obtain⟨dv2,D2,rs,rfl,a5,⟨A,B,va,vb,rfl,rfl,hA,hB⟩,dc,da⟩:=hq;rw[aaA]at a5;simp only[Z3]at b8 |-;obtain⟨aa,ac,rfl⟩:=hA.shape;obtain⟨ba,bc,rfl⟩:=hB.shape;obtain⟨ea,ec,rfl⟩:=a5.shape;have c6:=hA.capN bm.len;have c3:=Ow.capN (R:=eG) a5 (fun c a h=>eG.len c a h);refine bf b8 [0,1,2,3] fun bC=>?_;refine ae bC fun I3 bC ao ct=>?_;refine bf bC [0,1,2] fun bx=>?_;refine ae bx fun I4 bx an c4=>?_;refine bf bx [0,1] fun bs=>?_;refine ae bs fun I5 bs am c7=>?_;refine bf bs [0] fun bd=>?_;refine ae bd fun I6 bd al c5=>?_;have b4:=abV an (abV am al);have cb:=abV ao b4;have a6:aP I6 pb 4 [.slice ea r.e.length ec]:=(ay (by simp) rfl:aP (sg pb (cg (.slice la ts.length lc) fv (.slice none 0 0) (.slice ea r.e.length ec) 0)) pb 4 [.slice ea r.e.length ec]).le (abV ct b4);have cB:eE I6 (.slice aa r.l.length ac) r.l:=eE.le (bQ.sl (bQ.le hA (abV ao an)) am c7) al;have c2:Sl eG I6 (.slice ea r.e.length ec) r.e:=SlE.le (eF.sl (eF.le a5 ao) an c4) (abV am al);have c1:eR I6 (.slice ba r.f.length bc) r.f:=abX (R:=iD) (fun{I J c a} h k=>iD.le h k) (Ow.le (R:=iD) (fun{I J c a} h k=>iD.le h k) hB (abV ao (abV an am))) al c5;have cc:=abV bb cb;refine aT ?_;refine bV bd rfl Ta (U8 c1 (by have:=fn.len;simp only[aah]at this;omega)) fun v3 I7 qs b7 ak hq=>?_;obtain⟨rfl,a7⟩:=hq;obtain⟨za,zk,rfl⟩:=a7.shape2
 refine dg ?_;refine XN (l:=[.slice ea r.e.length ec]) rfl (cellsU b7 (.head _) (a6.le ak)) (.inr ⟨Te,rfl⟩) ?_;refine lY ?_;refine eP [0,1,3,2,4,5,6,7] [] [] ?_;refine lE ?_;refine cv b7 rfl K8 (Jb (du r.l+1) (aba _) (eE.le cB ak) c6 a7 (by unfold aN;omega)) fun v4 I8 qs b2 a9 hq=>?_;obtain⟨K,rfl,hK⟩:=hq;obtain⟨ka,kc,rfl⟩:=hK.shape;have c0:=hK.capN bm.len;refine lE ?_;refine bj b2 (by exact dQ) rfl rfl rfl rfl rfl bg fun nb I9 b1 a3 cj=>?_;refine lE ?_;refine aw ?_;refine bf b1 [0] fun aS=>?_;refine ae (c:=.st _) aS fun ca aS aj b3=>?_;have cA:eE ca (.slice ka (nX (ii r.f) r.l).length kc) (nX (ii r.f) r.l):=bQ.sl (bQ.le hK a3) aj b3;have k710:=abV a9 (abV a3 aj);have cy:eE ca (.slice (some ⟨nb,0,none⟩) 1 1) (pI r):=iJ ((az cj (by simp[aD,Value.cells]) (by simp[aD,Value.cells,iv,sD,rD]):aP I9 nb 0 _).le aj) (bm.mk (n:=⟨1,[],-1,0,nX (ii r.f) r.l,ii r.f⟩) (a7.le k710) cA c0);refine lY ?_;refine ax aS (by exact Xn) rfl rfl rfl rfl rfl bg fun mb c8 b0 ag cl=>?_;have cx:Sl NT c8 (.slice (some ⟨mb,0,none⟩) 1 1) [⟨pI r,r.e⟩]:=⟨_,_,rfl,.inr ⟨mb,0,_,rfl,az cl (by simp[aD,Value.cells]) (by simp[aD,Value.cells]),.one ⟨_,_,rfl,eE.le cy ag,⟨ZR _,fun _=>by unfold maxLen;omega⟩,SlE.le c2 (abV ak (abV k710 ag)),c3⟩⟩⟩;refine aT ?_;refine bV b0 rfl Tb (Q1 cx (by simp) (by simpa using cf) (by simpa using (b5 r er).1) (by simpa using (b5 r er).2) (by simpa using ci) (by simp only[abg,List.flatMap_nil,aa6];unfold aN;omega) (by simpa using RR0.eok) (by simpa using re)) fun v5 dd qs bF a4 hq=>?_;obtain⟨rfl,hR⟩:=hq;have em:WM [⟨pI r,r.e⟩]=⟨mL (gJ (pI r)) (pI r),Eo r.e⟩:=by simp[WM]
 rw[em]at hR;obtain⟨_,_,rfl,hR⟩:=hR;obtain⟨⟨xa,xc,rfl,_⟩,_,⟨ya,yc,rfl,_⟩,_⟩:=id hR;refine aT ?_;refine af rfl bF (r:=[.agg #[.slice xa (mL (gJ (pI r)) (pI r)).length xc,.slice ya (Eo r.e).length yc]]) (by simp only[Tryz.results22,go_sem]) (abV aq (abV cc (abV ak (abV k710 (abV ag a4))))) ⟨rfl,_,.inr ⟨a1,r,er,rfl⟩,⟨_,_,rfl,hR⟩,?_,?_⟩
 ·have:=HA (gJ (pI r)) (pI r);show du (mL (gJ (pI r)) (pI r))<=aN;unfold aN;omega
 ·exact ZS (Rb r.e) re
def Vn{c:Nat}(hc:c<2^32):AM .u32 (Gs .u32) (c:Int)=((4294967295 ^^^ c:Nat):Int):=by
 have hm:Gs .u32=((4294967295:Nat):Int):=by decide
 rw[hm];have hb:(4294967295:Nat)<2^32:=by decide
 have ea:BitVec.ofInt 32 ((4294967295:Nat):Int)=BitVec.ofNat _ 4294967295:=by rw[BitVec.ofInt_natCast]
 have eb:BitVec.ofInt 32 (c:Int)=BitVec.ofNat _ c:=by rw[BitVec.ofInt_natCast]
 have hx:4294967295 ^^^ c<2^32:=Nat.xor_lt_two_pow hb hc;have:AM .u32 ((4294967295:Nat):Int) (c:Int)=IntKind.u32.wrap ((BitVec.ofInt 32 ((4294967295:Nat):Int) ^^^ BitVec.ofInt 32 (c:Int)).toNat:Int):=rfl;rw[this,ea,eb,BitVec.toNat_xor,BitVec.toNat_ofNat,BitVec.toNat_ofNat,Nat.mod_eq_of_lt hb,Nat.mod_eq_of_lt hc];simp only[IntKind.wrap,show IntKind.bits .u32=32 from rfl,show IntKind.signed .u32=false from rfl];have:((4294967295 ^^^ c:Nat):Int) % (2^32:Int)=((4294967295 ^^^ c:Nat):Int):=abm ab (by exact_mod_cast hx);simpa using this
def Vh(ts:List Tok)(c:Nat)(r:Value)(I2:PH):Prop:=∃t,Rx (ts.map refit) (jx c (4294967295 ^^^ c)) t/\He I2 r (prj (ch c) t)/\Ub (prj (ch c) t)
def vp(c:Nat):aZ (jx c (4294967295 ^^^ c)) (ch c):=by
 refine⟨zu c,fun d hd i hi=>?_⟩;unfold jx at hd;split at hd
 ·cases hd
 ·obtain⟨h1,h2⟩:=(DV _ _ d 24 (ZR _)).1 hd i ab hi;simp only[abu,uJ,hi,decide_true,abv]at h1 h2;show c.testBit i=d i;cases hc:c.testBit i with
  |true=>exact(h1 hc).symm
  |false=>
   refine(h2 hc ?_).symm;rw[Nat.testBit_xor,hc,show (4294967295:Nat)=2^32-1 from rfl,Nat.testBit_two_pow_sub_one];simp;omega
def Gw{ts:List Tok}{c:Nat}(hV:ir I)(hT:uL I v ts)(hc:c<2^32):aK Tryz.prog 19 #[v,.int .u32 c] I [] fun r I2 qs=>qs=[]/\Vh ts c r I2:=by
 obtain⟨lv,ga,gn,gc,rfl,hS⟩:=hT.sh;obtain⟨la,lc,rfl,_⟩:=id hS;have hx:4294967295 ^^^ c<2^32:=Nat.xor_lt_two_pow bg hc;intro hd;refine ah 13 Tryz.func19 fun w0=>?_;refine aT ?_;refine eP [0,1,2,3,6,4,5,7,8] [] [] ?_;apply au;simp only[go_sem,Vn hc];refine cv hd rfl SH (FD hc hx) fun v1 I1 qs ao aa hq=>?_;obtain⟨rfl,hW⟩:=hq;obtain⟨wa,wk,rfl⟩:=hW.shape2;refine gw ?_;refine cv ao rfl L4 (DB (hV.le aa) (hT.le aa) hW (fun r er=>Jy (ns hT.ok) (wQ _ _) (fun e=>by have:=zu c;rw[e]at this;cases this) (vp c) er)) fun v2 I2 qs an ag hq=>?_;obtain⟨rfl,t,hF,hR,al,ak⟩:=hq;obtain⟨xk,xd,rfl,⟨ua,uc,rfl,_⟩,_,⟨wa',wc,rfl,_⟩,_⟩:=id hR;refine gw ?_;refine cv an rfl SK (HU hR hc al ak) fun v3 I3 qs am ac hq=>?_;obtain⟨rfl,aj⟩:=hq;obtain⟨yk,yd,rfl,⟨xa,xc,rfl,_⟩,_,⟨ya,yc,rfl,_⟩,_⟩:=id aj;refine gw ?_;refine aw ?_;refine aT ?_;exact af rfl am (r:=[.agg #[.slice xa (prj (ch c) t).kids.length xc,.slice ya (prj (ch c) t).diags.length yc]]) (by simp only[Tryz.results19,go_sem]) (abV aa (abV ag ac)) ⟨rfl,t,hF,aj,Ub.prj c ⟨al,ak⟩⟩
end Go.Proofs.YtfaclfkpnmcmlaaGreatDoor
