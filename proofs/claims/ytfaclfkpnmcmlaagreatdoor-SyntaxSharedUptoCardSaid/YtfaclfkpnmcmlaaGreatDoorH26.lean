/- Proved: for all lists of items, of bulk at most 1048576 in all, the law SyntaxShared answers true and leaves its argument as it was. Condition: the six package variables that the row lists hold what they hold when the program starts. -/
import Derived.Test.YtfaclfkpnmcmlaaGreatDoorH00
import Derived.Test.YtfaclfkpnmcmlaaGreatDoorH22
import Derived.Test.YtfaclfkpnmcmlaaGreatDoorH25
import Derived.Laws.StructEq
import Derived.Deep.Slices
import Derived.Deep.Strs
import Derived.Deep.DeepHandedRow
import Derived.Deep.DeepWitnessRowRef
import Derived.ProofKit
import Derived.ChangeSame
import Derived.RowKit
import Derived.LaidMore
import Derived.LaidHandle
import Derived.Lib.LaidU8
import Derived.SevenTiedAt
import Derived.Test.YtfaclfkpnmcmlaaGreatDoorRows
import Derived.Test.YtfaclfkpnmcmlaaGreatDoorCards
import Derived.Test.YtfaclfkpnmcmlaaGreatDoorTie
import Derived.MakeChecks
import Derived.OpenShut
set_option maxHeartbeats 8000000
set_option linter.all false
namespace Go.Proofs.YtfaclfkpnmcmlaaGreatDoor
open Go Go.Sx Dg Syn
def Oz:aO Tryz.prog 107:=⟨_,Tryz.func107,rfl,rfl⟩
def TI:aO Tryz.prog 53:=⟨_,Tryz.func53,rfl,rfl⟩
def Yb(P:Program)(T:TypeId)(cs:Array Value):Prop:=P.eqGuardType P.depth T=false/\∀w,(Op.equalIn 10000 T (.agg cs) (.agg cs)).run P w=.ok true w
variable{cs:Array Value}{T2:TypeId}{P:Program}
def Kn{σ:St}{H:PH}{o:Oper}{T:TypeId}{op:BinOp}{x y:Operand}(aa:o.op=.binOp op T x y T2)(ho:op=.eql\/op=.neq)(hx:ev σ x=.v (.agg cs))(hy:ev σ y=.v (.agg cs))(he:Yb P T cs):
  bh σ o.op=true/\∀w,Sub H w->(execOp (bN σ) o).run P w=.ok (.value (.bool (match op with | .neq=>false|_=>true))) w:=by
 constructor
 ·simp[bh,aa,fT,Op.operands,hx,hy,ul]
 ·intro w _;rcases ho with rfl|rfl
  ·simp[execOp,aa,bN,hx,hy,ZY,run_eqGuard_agg w .eql T x y cs cs he.1,run_eql_struct,he.2 w,Result.andThen]
  ·simp[execOp,aa,bN,hx,hy,ZY,run_eqGuard_agg w .neq T x y cs cs he.1,run_neq_struct,he.2 w,Result.andThen]
variable{i:Nat}
def TD{C:Cx}{ol:List Oper}{fr:iK}{str:ip}{k:List Item}{σ:St}{H:PH}{o:Oper}{l:List (Nat×Oper)}{T:TypeId}{x y:Operand}(hf:fr.h.contains i=true)(hw:aH ol σ o=some true)(aa:o.op=.binOp .neq T x y T2)(hx:ev σ x=.v (.agg cs))(hy:ev σ y=.v (.agg cs))(he:Yb C.P T cs)(h:RD C ol fr str l k (σ.put o.dst (.v (.bool false))) H):RD C ol fr str ((i,o)::l) k σ H:=by
 obtain⟨q1,q2⟩:=Kn (H:=H) aa (.inr rfl) hx hy he;exact wB (.bool false) hf hw q1 (by rw[aa];rfl) q2 h
def Ua(a b c:Int):Yb Tryz.prog 181 #[.int .i64 a,.int .i64 b,.int .i64 c]:=by
 refine⟨by kernel_rfl,fun w=>?_⟩;have hS:Tryz.prog.underlying 181=some (.struct (Tryz.prog.fieldsOf 181)):=by kernel_rfl
 have hp:Tryz.prog.stoodInHeld 181=false:=by kernel_rfl
 have hf:(Tryz.prog.fieldsOf 181).toList=[⟨ "Var",3,0,false,"","",0⟩,⟨ "Low",3,1,false,"","",8⟩,⟨ "High",3,2,false,"","",16⟩]:=by unfold Program.fieldsOf;rw[Ka]
 have p0:(part 3 #[.int .i64 a,.int .i64 b,.int .i64 c] 0).run Tryz.prog w=.ok (.int .i64 a) w:=qh (by unfold iR;rw[jq];rfl);have p1:(part 3 #[.int .i64 a,.int .i64 b,.int .i64 c] 1).run Tryz.prog w=.ok (.int .i64 b) w:=qh (by unfold iR;rw[jq];rfl);have p2:(part 3 #[.int .i64 a,.int .i64 b,.int .i64 c] 2).run Tryz.prog w=.ok (.int .i64 c) w:=qh (by unfold iR;rw[jq];rfl);rw[show (10000:Nat)=9998+1+1 from rfl,run_equalIn_agg w (9998+1) 181 _ _ hS hp,hf];simp[Op.eqFields,ZY,p0,p1,p2,Result.andThen,run_equalIn_int w 9998 3 .i64 .i64 _ _ S5]
def Qn(v1 v2:Value)(n i:Nat):St:=⟨dn 26 [(0,.v v1),(1,.v v2),(11,.v v1),(12,.v (iv n)),(13,.v (iv i))],[]⟩
def O9{H:PH}{v1 v2:Value}{ts:List T}(h1:uo H v1 ts)(h2:uo H v2 ts)(hl:ts.length<2^40):bO Tryz.prog 107 #[v1,v2] H fun r H2=>r=.bool true/\H2=H:=by
 obtain⟨a1,c1,rfl,g1⟩:=h1;obtain⟨a2,c2,rfl,g2⟩:=h2;refine ah 26 Tryz.func107 fun w0=>?_;have h0:((ts.length:Int) != (ts.length:Int))=false:=by simp
 apply RG;simp only[go_sem,h0];refine aA (fun x=>ts.length-x) (Qn (.slice a1 ts.length c1) (.slice a2 ts.length c2) ts.length) (fun i H2=>H2=H/\i<=ts.length) 0 bM (by simp only[go_sem,aa6,Qn]) ⟨rfl,aaL _⟩ ?_;rintro i H2 ⟨rfl,hi⟩ aa;simp only[Qn];rcases aaf i ts.length with ac|am
 ·have aj:decide ((i:Int)<(ts.length:Int))=true:=abU ab;have e1:IntKind.i64.wrap ((i:Int)+1)=((i+1:Nat):Int):=by rw[<-wrap64 (n:=i+1) ab];congr 1
  obtain⟨t,ht⟩:∃t,ts[i]?=some t:=⟨_,aak ac⟩;have ak:(EN ts).length=ts.length*3:=qp _;have ld:∀{a:Option Addr},(ts=[]\/∃b,a=some ⟨b,0,none⟩/\aP H2 b 0 (EN ts))->∃b,a=some ⟨b,0,none⟩/\aP H2 b (i*3) (nt (T.dec ts t)):=by
   rintro a (h|⟨b,e,h⟩)
   ·rw[h]at ac;simp at ac
   ·have hc:=h.sub (i*3) 3 ab;rw[qw ht,ZZ]at hc;exact⟨b,e,hc⟩
  obtain⟨b1,rfl,l1⟩:=ld g1;obtain⟨b2,rfl,l2⟩:=ld g2;apply RG;simp only[go_sem,iv,aj];refine eP [0,1,2,3,4,5,6,7,8] [3,7,8] [] ?_;refine dS ?_
  try refine⟨ab,?_⟩
  refine W7 (l:=nt (T.dec ts t)) (v:=gV (T.dec ts t)) rfl (by simpa using l1) (.inl ⟨uK,rfl⟩) ?_;apply au;simp only[go_sem,iv,gV]
  try refine⟨ab,?_⟩
  refine W7 (l:=nt (T.dec ts t)) (v:=gV (T.dec ts t)) rfl (by simpa using l2) (.inl ⟨uK,rfl⟩) ?_;apply au;simp only[go_sem,iv,gV];refine TD rfl rfl rfl rfl rfl (Ua (T.dec ts t).1 (T.dec ts t).2.1 (T.dec ts t).2.2) ?_;refine dS ?_;refine aw ?_;apply RG;simp only[go_sem,iv,e1];exact aa (i+1) _ _ ab bM (by simp only[go_sem,aa6,Qn]) ⟨rfl,ac⟩
 ·have:i=ts.length:=by omega
  subst this;have aj:=Z6 ts.length;apply RG;simp only[go_sem,iv,aj];exact aJ (r:=[_]) rfl ⟨rfl,rfl⟩
def zL{t:T}(h:t.ok 0):(T.subs t).length+1<=2^24:=by
 obtain⟨us,e1,e2,_⟩:=(T.vis_spec t h ab [] T.Seq.nil).2.2;rw[aaA]at e1;show (t.vis []).length+1<=_;rw[e1];exact e2
def Sv{H:PH}{v1 v2:Value}{t:T}(h1:cX H v1 t)(h2:cX H v2 t):bO Tryz.prog 53 #[v1,v2] H fun r H2=>r=.bool true/\H2=H:=by
 have hl:=zL h1.1;obtain⟨_,s1,rfl,g1⟩:=h1;obtain⟨_,s2,rfl,g2⟩:=h2;obtain⟨a1,c1,rfl,_⟩:=id g1;obtain⟨a2,c2,rfl,_⟩:=id g2;refine ah 17 Tryz.func53 fun w0=>?_
 try simp only[iv]
 refine aT ?_;refine WZ rfl Oz (O9 g1 g2 ab) fun v H2 hv=>?_;obtain⟨rfl,rfl⟩:=hv;refine aT ?_;exact aJ (r:=[_]) rfl ⟨rfl,rfl⟩
def KG:aO Tryz.prog 70:=⟨_,Tryz.func70,rfl,rfl⟩
def mD:aO Tryz.prog 67:=⟨_,Tryz.func67,rfl,rfl⟩
def Lc:aO Tryz.prog 66:=⟨_,Tryz.func66,rfl,rfl⟩
def R8:aO Tryz.prog 65:=⟨_,Tryz.func65,rfl,rfl⟩
def Nx:aO Tryz.prog 17:=⟨_,Tryz.func17,rfl,rfl⟩
def YO:bq:=[102,110,32,109,97,105,110,32,40,32,41,32,123,32,112,114,105,110,116,32,49,32,43,32,50,32,42,32,51,32,59,32,125]
def YI:bq:=[118,97,114,32,120,32,58,32,105,110,116,32,98,111,111,108,32,59]
def V3:List (Nat×bq):=[(1,[102,110]),(1,[109,97,105,110]),(3,[40]),(3,[41]),(3,[123]),(1,[112,114,105,110,116]),(2,[49]),(3,[43]),(2,[50]),(3,[42]),(2,[51]),(3,[59]),(3,[125])]
def NS:List (Nat×bq):=[(1,[118,97,114]),(1,[120]),(3,[58]),(1,[105,110,116]),(1,[98,111,111,108]),(3,[59])]
def XT:wX YO=some V3:=by decide +kernel
def XK:wX YI=some NS:=by decide +kernel
def Ym:(V3.map cY).map refit=Uk:=by
 have h:V3.all (fun x=>lI x.1 x.2)=true:=by decide +kernel
 have e:(V3.map cY).map refit=V3.map cY:=by
  rw[aas];refine aat fun x hx=>?_;have:=List.all_eq_true.1 h x hx;show refit (cY x)=cY x;unfold refit cY;simp only[this]
 rw[e];rfl
def Cd:List Syn.Tok:=((NS.map cY).set 3 { cY (1,[105,110,116])with cond:=mU }).set 4 { cY (1,[98,111,111,108])with cond:=mU.not }
def Xk:Cd.map refit=XF:=by
 have h:NS.all (fun x=>lI x.1 x.2)=true:=by decide +kernel
 have hh:∀x∈NS,lI x.1 x.2=true:=List.all_eq_true.1 h;have e:∀t∈Cd,refit t=t:=by
  intro t ht;have:∃x∈NS,t.kind=x.1/\t.text=x.2/\t.fits=true:=by
   simp only[Cd,NS,cY,aaU,List.map_nil,List.set_cons_succ,abR,aad,aaB,or_false]at ht |-;rcases ht with h|h|h|h|h|h<;>subst h<;>simp
  obtain⟨x,hx,e1,e2,e3⟩:=this;unfold refit;have:=hh x hx;rw[<-e1,<-e2]at this;rw[this,<-e3]
 rw[show Cd.map refit=Cd.map id from aat e,List.map_id];rfl
variable{l:List (Nat×bq)}{I:PH}
def Ho{s:bq}(hs:s.length<2^40)(hV:ir I)(hx:wX s=some l):aK Tryz.prog 70 #[.string ⟨⟨s⟩⟩] I [] fun r I2 qs=>∃A lv,r=.agg #[lv,.slice none 0 0]/\qs=[A]/\yJ I2 A lv (l.map cY):=by
 intro hd;refine ah 12 Tryz.func70 fun w0=>?_;refine aT ?_;refine bV hd rfl Nq (Rk hs hV) fun v I2 qs ak aj hq=>?_;unfold Q4 at hq;rw[hx]at hq;obtain⟨A,va,rfl,rfl,hA⟩:=hq;obtain⟨aa,ac,rfl⟩:=hA.shape;refine aT ?_;exact af rfl ak (r:=[.agg #[.slice aa (l.map cY).length ac,.slice none 0 0]]) (by simp only[Tryz.results70,go_sem,iv]) aj ⟨A,_,rfl,rfl,hA⟩
def qZ{H:PH}{cs:List Value}{n k:Nd}(hn:bm H cs n)(hk:n.kids[i]?=some k)(hi:i<2^40):bO Tryz.prog 67 #[.agg cs.toArray,iv i] H fun r H2=>(∃cs',r=.agg cs'.toArray/\bm H cs' k)/\H2=H:=by
 obtain⟨vk,a,ak,rfl,hr,ac,hc⟩:=hn.shape;obtain⟨ka,kc,rfl,_⟩:=id ac;have aq:=(List.getElem?_eq_some_iff.1 hk).1;have h9:decide ((i:Int)<(n.kids.length:Int))=true:=abU ab;obtain⟨b,off,ds,rfl,aj,aa⟩:=Sl.load bm.len ac hk;obtain⟨wk,wa,wn,rfl,an,am,ao⟩:=aj.shape;obtain⟨la,lc,rfl,_⟩:=id am;refine ah 16 Tryz.func67 fun w0=>?_
 try simp only[iv,sD,rD]
 apply RG;simp only[go_sem,h9]
 try refine⟨ab,?_⟩
 refine XN (l:=[.int .u8 k.kind,.string ⟨⟨k.text⟩⟩,.int .i64 k.tok,.int .i64 k.slot,.slice la k.kids.length lc,sD wa wn k.cond,rD k.cond]) (v:=.agg #[.int .u8 k.kind,.string ⟨⟨k.text⟩⟩,.int .i64 k.tok,.int .i64 k.slot,.slice la k.kids.length lc,sD wa wn k.cond,rD k.cond]) rfl aa (.inl ⟨cL,rfl⟩) ?_;refine lY ?_;exact aJ (r:=[.agg #[.int .u8 k.kind,.string ⟨⟨k.text⟩⟩,.int .i64 k.tok,.int .i64 k.slot,.slice la k.kids.length lc,sD wa wn k.cond,rD k.cond]]) (by simp only[Tryz.results67,go_sem,iv,sD,rD]) ⟨⟨_,rfl,aj⟩,rfl⟩
variable{v:Value}
def L5{H:PH}{t:Tr}{k:Nd}(hT:He H v t)(hk:t.kids[0]?=some k):bO Tryz.prog 66 #[v] H fun r H2=>(∃cs',r=.agg cs'.toArray/\bm H cs' k)/\H2=H:=by
 obtain⟨vk,vd,rfl,aa,hc,ak,_⟩:=hT;obtain⟨ka,kc,rfl,_⟩:=id aa;obtain⟨da,dc,rfl,_⟩:=id ak;have hn:bm H [.int .u8 0,.string ⟨⟨[]⟩⟩,.int .i64 0,.int .i64 0,.slice ka t.kids.length kc,.slice none 0 0,iv 0] ⟨0,[],0,0,t.kids,.lf false⟩:=bm.mk (n:=⟨0,[],0,0,t.kids,.lf false⟩) (a:=none) (k:=0) (mN H false) aa hc;refine ah 7 Tryz.func66 fun w0=>?_;refine aT ?_;refine WZ rfl mD (qZ (i:=0) hn hk bg) fun v H2 hv=>?_;obtain⟨⟨cs',rfl,ac⟩,rfl⟩:=hv;obtain⟨wk,wa,wn,rfl,am,aj,an⟩:=ac.shape;obtain⟨la,lc,rfl,_⟩:=id aj;refine lY ?_;exact aJ (r:=[.agg #[.int .u8 k.kind,.string ⟨⟨k.text⟩⟩,.int .i64 k.tok,.int .i64 k.slot,.slice la k.kids.length lc,sD wa wn k.cond,rD k.cond]]) (by simp only[Tryz.results66,go_sem,iv,sD,rD]) ⟨⟨_,rfl,ac⟩,rfl⟩
def J8{lv:Value}(h:Sl dz I lv (l.map cY))(hl:l.length<=256)(hx:∀x∈l,x.2.length<2^40):uL I (.agg #[lv,.slice none 0 0]) (l.map cY):=by
 refine⟨⟨lv,none,0,0,rfl,h⟩,fun t ht=>?_,by rw[aah];omega,fun t ht=>?_⟩
 ·obtain⟨x,_,rfl⟩:=List.mem_map.1 ht;exact trivial
 ·obtain⟨x,aa,rfl⟩:=List.mem_map.1 ht;exact hx x aa
def KH{s:bq}(hs:s.length<2^40)(hV:ir I)(hx:wX s=some l)(hl:l.length<=256)(ao:∀x∈l,x.2.length<2^40):aK Tryz.prog 65 #[.string ⟨⟨s⟩⟩] I [] fun r I2 qs=>qs=[]/\Vh (l.map cY) 0 r I2:=by
 intro hd;refine ah 6 Tryz.func65 fun w0=>?_;refine aT ?_;refine bV hd rfl KG (Ho hs hV hx) fun v I2 qs aS ak hq=>?_;obtain⟨A,lv,rfl,rfl,hA⟩:=hq;obtain⟨aa,ac,rfl⟩:=hA.shape;refine bf aS [0] fun an=>?_;refine ae an fun I3 an aj a0=>?_;have hS:Sl dz I3 (.slice aa (l.map cY).length ac) (l.map cY):=Ow.sl (R:=dz) (fun{I J c a} h k=>dz.le h k) hA aj a0;refine aT ?_;refine bV an rfl Ly (Gw (c:=0) (hV.le (abV ak aj)) (J8 hS hl ao) bg) fun v2 I4 qs aq am hq=>?_;obtain⟨rfl,t,hF,hR,hB⟩:=hq;obtain⟨_,_,rfl,⟨xa,xc,rfl,_⟩,_,⟨ya,yc,rfl,_⟩,_⟩:=id hR;refine aT ?_;exact af rfl aq (r:=[.agg #[.slice xa (prj (ch 0) t).kids.length xc,.slice ya (prj (ch 0) t).diags.length yc]]) (by simp only[Tryz.results65,go_sem,iv]) (abV ak (abV aj am)) ⟨rfl,t,hF,hR,hB⟩
def nj{H:PH}{cs:List Value}{k:Nat}{t:bq}{o s:Int}{ks:List Nd}{d:T}(h:bm H cs ⟨k,t,o,s,ks,d⟩):∃va vc a n,cs=[.int .u8 k,.string ⟨⟨t⟩⟩,.int .i64 o,.int .i64 s,.slice va ks.length vc,sD a n d,rD d]/\eE H (.slice va ks.length vc) ks/\cX H (.agg #[sD a n d,rD d]) d:=by
 obtain⟨vk,a,n,e,hr,hk,_⟩:=h.shape;obtain⟨va,vc,rfl,_⟩:=id hk;exact⟨va,vc,a,n,e,hk,hr⟩
def Xd:Nd:=⟨13,[42],9,1,[⟨15,[50],8,0,[],tt⟩,⟨15,[51],10,1,[],tt⟩],tt⟩
def W5:Nd:=⟨13,[43],7,0,[⟨15,[49],6,0,[],tt⟩,Xd],tt⟩
def X3:Nd:=⟨11,[],5,0,[W5],tt⟩
def XH:Nd:=⟨6,[],4,2,[X3],tt⟩
def ZP:Nd:=⟨3,[109,97,105,110],1,0,[XH],tt⟩
def W6:Nd:=⟨1,[],-1,0,[ZP],tt⟩
def U4:Nd:=⟨5,[105,110,116],3,0,[],mU⟩
def RK:Nd:=⟨5,[98,111,111,108],4,0,[],mU.not⟩
def Xy:Nd:=⟨2,[120],1,0,[U4,RK],tt⟩
def Yf:Nd:=⟨1,[],-1,0,[Xy],tt⟩
def VH:jx 1 0=mU:=by decide +kernel
set_option maxRecDepth 4000 in
theorem GQ{I:PH}(hV:ir I):aK Tryz.prog 17 #[] I [] fun r I2 qs=>qs=[]/\r=.bool true:=by
 intro hd;refine ah 157 Tryz.func17 fun w0=>?_;refine aT ?_;refine bV hd rfl R8 (KH (s:=YO) bg hV XT bg bg) fun v I1 qs cB a3 hq=>?_;obtain⟨rfl,t,hF,hR,hB⟩:=hq;rw[Ym]at hF;have hp:=SP (wQ _ _) hF (zu 0);rw[hp]at hR;have hR:He I1 v ⟨[W6],[]⟩:=hR;obtain⟨vk,vd,rfl,hk,es,cs,ez⟩:=id hR;obtain⟨ka,kc,rfl,_⟩:=id hk;obtain⟨da,dc,rfl,_⟩:=id cs;simp only[aaj,aaO]at hR hk cs |-;refine aT ?_;refine WZ rfl Lc (L5 (hR.le (cP cB)) rfl) fun v H2 hv=>?_;obtain⟨⟨c1,rfl,a6⟩,rfl⟩:=hv;obtain⟨pa,pc,pa2,pn,rfl,er,eq⟩:=nj a6;refine lY ?_;refine WZ rfl mD (qZ (i:=0) a6 rfl bg) fun v H2 hv=>?_;obtain⟨⟨c2,rfl,dk⟩,rfl⟩:=hv;obtain⟨fa,fc,fa2,fn,rfl,ey,ex⟩:=nj dk;refine lY ?_;refine WZ rfl mD (qZ (i:=0) dk rfl bg) fun v H2 hv=>?_;obtain⟨⟨c3,rfl,dj⟩,rfl⟩:=hv;obtain⟨ba,bc,ba2,bn,rfl,e0,eH⟩:=nj dj;refine lY ?_;refine WZ rfl mD (qZ (i:=0) dj rfl bg) fun v H2 hv=>?_;obtain⟨⟨c4,rfl,dd⟩,rfl⟩:=hv;obtain⟨ra,rc,ra2,rn,rfl,en,em⟩:=nj dd;refine lY ?_;refine WZ rfl mD (qZ (i:=0) dd rfl bg) fun v H2 hv=>?_;obtain⟨⟨c5,rfl,b5⟩,rfl⟩:=hv;obtain⟨ia,ic,ia2,inn,rfl,et,dy⟩:=nj b5;refine lY ?_;refine WZ rfl mD (qZ (i:=0) a6 rfl bg) fun v H2 hv=>?_;obtain⟨⟨c6,rfl,ee⟩,rfl⟩:=hv;obtain⟨xa6,xb6,xc6,xd6,rfl,_,_⟩:=nj ee;refine lY ?_;refine WZ rfl mD (qZ (i:=0) a6 rfl bg) fun v H2 hv=>?_;obtain⟨⟨c7,rfl,ed⟩,rfl⟩:=hv;obtain⟨xa7,xb7,xc7,xd7,rfl,_,_⟩:=nj ed;refine lY ?_;refine WZ rfl mD (qZ (i:=1) b5 rfl bg) fun v H2 hv=>?_;obtain⟨⟨c8,rfl,ec⟩,rfl⟩:=hv;obtain⟨xa8,xb8,xc8,xd8,rfl,_,_⟩:=nj ec;refine lY ?_;refine WZ rfl mD (qZ (i:=1) b5 rfl bg) fun v H2 hv=>?_;obtain⟨⟨c9,rfl,eb⟩,rfl⟩:=hv;obtain⟨xa9,xb9,xc9,xd9,rfl,_,_⟩:=nj eb;refine lY ?_;refine WZ rfl Kb (MV dy) fun v H2 hv=>?_;obtain⟨rfl,rfl⟩:=hv;refine lY ?_
 refine bV cB rfl HB (FD (on:=1) (off:=0) bg bg) fun v I2 qs dT aS hq=>?_;obtain⟨rfl,a4⟩:=hq;rw[VH]at a4;obtain⟨ua,uk,rfl⟩:=a4.shape2;refine lY ?_;refine bV dT rfl KG (Ho (s:=YI) bg (hV.le (abV a3 aS)) XK) fun v I3 qs dI aj hq=>?_;obtain⟨A,lv,rfl,rfl,hA⟩:=hq;obtain⟨g,cap,cur,cc,rfl,rfl,d3,d0,eA,_,a9⟩:=hA.part (fun{I} c a h=>dz.len c a h) (fun{I J c a} h k=>dz.le h k) (i:=3) (x:=cY (1,[105,110,116])) rfl 5 2 bg;have cn:(NS.map cY).length=6:=rfl;rw[cn]at d3;obtain⟨p1,f1,l1,a1,k1,rfl,dx,_⟩:=d0;apply RG;simp only[go_sem,sD,rD,iv,cn,abo];refine bw dI rfl rfl rfl rfl rfl (by exact Ds) (by simp;omega) fun cA=>?_;have ca:=a9 I3 [sD ua uk mU,rD mU] { cY (1,[105,110,116])with cond:=mU } (abW _) (by simp) ⟨p1,f1,l1,ua,uk,by simp[br,sD,rD,cY],dx,a4.le aj⟩;simp only[sD,rD,iv]at ca;generalize a7:sg g _=A2 at cA ca |-;clear a7;refine lY ?_;refine eP [0,1,2,3,4,5,6] [] [] ?_;refine lE ?_;refine aE cA [0] [] [A2] rfl oT rfl (uX (a4.le aj)) fun v I4 qs cy am hq=>?_;obtain⟨rfl,c0⟩:=hq;simp only[Z3]at cy |-;obtain⟨na,nk,rfl⟩:=c0.shape2;obtain⟨g2,cap2,cur2,cc2,ev,rfl,b2,bx,ea,_,ao⟩:=Ow.part (R:=dz) (yJ.le ca am) (fun{I} c a h=>dz.len c a h) (fun{I J c a} h k=>dz.le h k) (i:=4) (x:=cY (1,[98,111,111,108])) rfl 5 2 bg;cases ev
 have bb:((NS.map cY).set 3 { cY (1,[105,110,116])with cond:=mU }).length=6:=rfl;rw[bb]at b2;obtain⟨p2,f2,l2,a2,k2,rfl,dw,_⟩:=bx;refine lE ?_;refine aQ cy rfl rfl rfl rfl rfl rfl (by exact Ds) (by simp;omega) fun cx=>?_;have b6:=ao I4 [sD na nk mU.not,rD mU.not] { cY (1,[98,111,111,108])with cond:=mU.not } (abW _) (by simp) ⟨p2,f2,l2,na,nk,by simp[br,sD,rD,cY],dw,c0⟩;simp only[sD,rD,iv]at b6;generalize a7:sg _ _=A3 at cx b6 |-;clear a7;refine lE ?_;refine aw ?_;refine bf cx [0] fun bd=>?_;refine ae (c:=.st _) bd fun I5 bd ak eg=>?_;have hS:Sl dz I5 (.slice (some ⟨g,0,none⟩) 6 cap) Cd:=Ow.sl (R:=dz) (fun{I J c a} h k=>dz.le h k) b6 ak eg;have cb:=abV a3 (abV aS (abV aj (abV am ak)));have ef:uL I5 (.agg #[.slice (some ⟨g,0,none⟩) 6 cap,.slice none 0 0]) Cd:=by
  refine⟨⟨_,none,0,0,rfl,hS⟩,fun t ht=>?_,by decide,fun t ht=>?_⟩
  ·simp only[Cd,NS,cY,aaU,List.map_nil,List.set_cons_succ,abR,aad,aaB,or_false]at ht;rcases ht with h|h|h|h|h|h<;>subst h<;>first|exact trivial|exact⟨by decide,by decide,by decide,trivial,trivial⟩
  ·simp only[Cd,NS,cY,aaU,List.map_nil,List.set_cons_succ,abR,aad,aaB,or_false]at ht;rcases ht with h|h|h|h|h|h<;>subst h<;>decide
 refine lY ?_;refine eP [3,0,1,2,4] [] [] ?_;refine lE ?_;refine cv bd rfl FR (bO.keep (Fp _)) fun v I6 qs dA ac hq=>?_;obtain⟨rfl,rfl⟩:=hq;refine lE ?_;refine cv dA rfl L4 (DB (hV.le (abV cb ac)) (ef.le ac) (K9 I6)) fun v I7 qs ct aq hq=>?_;obtain⟨rfl,t2,ds,a5,e2⟩:=hq;rw[Xk]at ds;have dv:=XP ds;subst dv;have a5:He I7 v ⟨[Yf],[]⟩:=a5;obtain⟨wk,wd,rfl,cl,_,cm,_⟩:=id a5;obtain⟨wka,wkc,rfl,_⟩:=id cl;obtain⟨wda,wdc,rfl,_⟩:=id cm;simp only[aaj,aaO]at a5 cl cm |-;refine lE ?_;refine aw ?_;refine lY ?_;refine WZ rfl Lc (L5 (a5.le (cP ct)) rfl) fun v H2 hv=>?_;obtain⟨⟨d1,rfl,hd1c⟩,rfl⟩:=hv;obtain⟨qa,qc,qa2,qn,rfl,ep,eo⟩:=nj hd1c;refine lY ?_;refine WZ rfl mD (qZ (i:=0) hd1c rfl bg) fun v H2 hv=>?_;obtain⟨⟨d2,rfl,hd2c⟩,rfl⟩:=hv;obtain⟨xa,xc,xa2,xn,rfl,cj,ci⟩:=nj hd2c;obtain⟨b0,o0,cs0,rfl,b4,cr⟩:=Sl.load bm.len cj (i:=0) (x:=U4) rfl;obtain⟨b1,o1,cs1,e1,b3,cp⟩:=Sl.load bm.len cj (i:=1) (x:=RK) rfl;cases e1
 obtain⟨ya,yc,ya2,yn,rfl,el,cf⟩:=nj b4;obtain⟨za,zc,za2,zn,rfl,ek,ei⟩:=nj b3;have m1:=cr.get (i:=1) rfl;have m5:=cr.sub 5 2 (by simp);have w1:=cp.get (i:=1) rfl;have w2:=cp.get (i:=2) rfl;rw[lQ]at cf ci w1 w2;refine lY ?_;refine dN mixed [0,1,2,3,4,5,6,7,8,9,10,11,12,13,14,15,16,17,18,19,20,21,22,23,24,25,26,27,28,29,30,31,32,33,34,35,36,37,38,39,40,41,42,43,44,45,46,47,48,49,50,51,52,53,54,55,56,57,58,59] [26,34,43,51] [] (by kernel_rfl) rfl ?_;refine lE ?_;refine W7 (l:=[.string ⟨⟨[105,110,116]⟩⟩]) rfl (by simpa using m1) (.inr ⟨tL,rfl⟩) ?_;refine lE ?_;refine W7 (l:=[sD ya2 yn mU,rD mU]) (v:=.agg #[sD ya2 yn mU,rD mU]) rfl (by simpa using m5) (.inl ⟨r9,rfl⟩) ?_;refine lE ?_;refine cv ct rfl TI (bO.keep (Sv cf (a4.le (abV aj (abV am (abV ak (abV ac aq))))))) fun v8 I8 qs an aa hq=>?_;obtain⟨rfl,rfl⟩:=hq;refine lE ?_;refine W7 (l:=[.string ⟨⟨[98,111,111,108]⟩⟩]) rfl (cellsU an (.head _) (by simpa using w1.le aa)) (.inr ⟨tL,rfl⟩) ?_;refine lE ?_;refine W7 (l:=[.int .i64 4]) rfl (cellsU an (.head _) (by simpa using w2.le aa)) (.inr ⟨jq,rfl⟩) ?_;refine lE ?_;refine cv an rfl Kb (bO.keep (MV (ci.le aa))) fun v9 I9 qs bs a0 hq=>?_;obtain⟨rfl,rfl⟩:=hq;refine lE ?_;refine aw ?_;refine aT ?_;exact af rfl bs (r:=[.bool true]) rfl (abV cb (abV ac (abV aq (abV aa a0)))) ⟨rfl,rfl⟩
open Go.ChangeShapes (trodAll_one trodAll_two trodAll_three trodVars_none trodAll_mk1 trodAll_mk2 trodAll_mk3 trod_struct2)
open Go.RowKit (shut_bool)
def yT(W:World):PH:=fun b=>W.heap[b]?
theorem aK.calls{f:FuncId}{args:Array Value}{W:World}(h:aK P f args (yT W) [] fun r I2 qs=>qs=[]/\r=v):
  Calls P f args W fun e W'=>e=.returned v/\RowKit.Below W.heap.size W W':=by
 have hd:Dj [yT W]:=aaW _ _;have e0:U [yT W]=yT W:=PH.uni_no _;refine(h hd W (by rw[e0];exact fun b o hb=>hb)).mono fun e w2 he=>?_;cases e with
 |returned r=>
  obtain⟨H2,st,I2,qs,e1,_,ac,rfl,rfl⟩:=he;subst e1;refine⟨rfl,⟨st.os,st.tape,st.out,st.size,fun k hk=>?_⟩⟩;have aa:yT W k=some W.heap[k]:=aab hk;have:=st.sub k _ (PH.le_uni I2 _ k _ (ac k _ aa));rw[this];exact aa.symm
 |outgrown=>exact he.elim
 |panicked c=>exact he.elim
def BJ{α:Type}{R:List Value->α->Prop}{C:Nat->List Value}{g:Nat->α}:∀(is:List Nat),(∀i∈is,R (C i) (g i))->LR R (is.flatMap C) (is.map g)
 | [],_=>rfl
 |i::is,h=>⟨C i,is.flatMap C,rfl,h i (.head _),BJ is fun j hj=>h j (.tail _ hj)⟩
def tV{C:Nat->List Value}{size:Nat}:∀(is:List Nat),(∀i∈is,(C i).length=size)->(is.flatMap C).length=is.length*size
 | [],_=>by simp
 |i::is,h=>by
  rw[abg,aa9,h i (.head _),tV is fun j hj=>h j (.tail _ hj),aaj,aaP];omega
variable{C:Nat->List Value}
def OJ{size:Nat}{len:Nat}(h:∀i,i<len->(C i).length=size){j:Nat}(hi:i<len)(hj:j<size):((List.range len).flatMap C)[i*size+j]?=(C i)[j]?:=by
 induction len with
 |zero=>omega
 |succ n ih=>
  have hl:((List.range n).flatMap C).length=n*size:=by
   have:=tV (C:=C) (size:=size) (List.range n) fun k hk=>h k (by have:=List.mem_range.1 hk;omega);simpa using this
  rw[List.range_succ,abk,abg,List.flatMap_nil,aa6];rcases aaf i n with h1|h1
  ·have h2:(i+1)*size<=n*size:=aaQ _ h1;rw[aaP,abj]at h2;rw[aaG (by rw[hl];omega)];exact ih (fun k hk=>h k ab) h1
  ·have:i=n:=by omega
   subst this;rw[aaH (by rw[hl];omega),hl];congr 1;omega
def CP{W:World}{qg:Nat}{a:Addr}{size len:Nat}(h:∀i,i<len->W.cells? qg (a.add (i*size)) size=some (C i))(hs:0<size)(hl:0<len):
  ∃b off,a=⟨b,off,none⟩/\aP (yT W) b off ((List.range len).flatMap C):=by
 have hc:∀i,i<len->(C i).length=size/\∀j,j<size->W.cell? (a.add (i*size+j))=(C i)[j]?:=fun i hi=>by
  obtain⟨_,h1,h2⟩:=World.cells?_some (h i hi);exact⟨h1,fun j hj=>by rw[<-Deep.add_add];exact h2 j hj⟩
 obtain⟨b,off,spot⟩:=a;have aj:spot=none:=by
  have h1:=(hc 0 hl).2 0 hs;obtain⟨x,hx⟩:∃x,(C 0)[0]?=some x:=⟨_,aak (by rw[(hc 0 hl).1];exact hs)⟩;rw[hx]at h1;simpa[Addr.add]using World.cell?_spot h1
 subst aj;have aa:((List.range len).flatMap C).length=len*size:=by
  have:=tV (C:=C) (size:=size) (List.range len) fun k hk=>(hc k (List.mem_range.1 hk)).1;simpa using this
 have ac:∀k x,((List.range len).flatMap C)[k]?=some x->W.cell? ⟨b,off+k,none⟩=some x:=fun k x hx=>by
  have hk:k<len*size:=by rw[<-aa];exact(List.getElem?_eq_some_iff.1 hx).1
  have e:k=(k / size)*size+k % size:=by rw[Nat.mul_comm];exact(Nat.div_add_mod k size).symm
  have hi:k / size<len:=Nat.div_lt_of_lt_mul (by rw[Nat.mul_comm];exact hk);have hj:k % size<size:=Nat.mod_lt _ hs;have h1:=(hc _ hi).2 _ hj;rw[<-OJ (fun i hi=>(hc i hi).1) hi hj,<-e,hx]at h1;rw[<-h1];unfold Addr.add;split
  ·rename_i h0;rw[h0,acS]
  ·rfl
 obtain⟨cs,ty,fz,hb,ak⟩:∃cs ty fz,W.heap[b]?=some (.cells cs ty fz)/\∀k x,((List.range len).flatMap C)[k]?=some x->cs[off+k]?=some x:=by
  obtain⟨x0,am⟩:∃x,((List.range len).flatMap C)[0]?=some x:=⟨_,aak (by rw[aa];exact Nat.mul_pos hl hs)⟩;have h0:=ac 0 x0 am;unfold World.cell? at h0;cases hb:W.heap[b]? with
  |none=>simp[hb]at h0
  |some o=>
   cases o with
   |cells cs ty fz=>
    refine⟨cs,ty,fz,rfl,fun k x hx=>?_⟩;have:=ac k x hx;simpa[World.cell?,hb]using this
   |_=>simp[hb]at h0
 refine⟨b,off,rfl,cs,ty,fz,hb,?_,?_⟩
 ·rw[aa];have hp:0<len*size:=Nat.mul_pos hl hs;obtain⟨x,hx⟩:∃x,((List.range len).flatMap C)[len*size-1]?=some x:=⟨_,aak (by rw[aa];omega)⟩;have:=(Array.getElem?_eq_some_iff.1 (ak _ _ hx)).1;show off+len*size<=_;omega
 ·apply List.ext_getElem?;intro k;rcases aaf k ((List.range len).flatMap C).length with hk|hk
  ·rw[List.getElem?_take_of_lt hk,Z1];have hx:=aak hk;rw[hx];simpa using ak k _ hx
  ·rw[aan (by rw[abF];exact ZS (Nat.min_le_left _ _) hk),aan hk]
section
variable {H:Type} {enc:TypeId×Value->H} {W:World}
def KD:∀d:DataW H,1<=Rows.uptoBulk d:=by
 intro d;cases d with
 |lit l=>cases l<;>simp[Rows.uptoBulk]
 |_=>simp[Rows.uptoBulk]
def xe(D:Nat->DataW H):∀(is:List Nat),is.length<=Rows.uptoBulkAll (is.map D)/\∀i∈is,Rows.uptoBulk (D i)<=Rows.uptoBulkAll (is.map D)
 | []=>⟨aaL _,fun _ h=>(aaB h).elim⟩
 |i::is=>by
  obtain⟨h1,h2⟩:=xe D is;have h3:=KD (D i);simp only[aaU,aaj,Rows.uptoBulkAll];refine⟨ab,fun j hj=>?_⟩;rcases List.mem_cons.1 hj with rfl|hj
  ·omega
  ·have:=h2 j hj;omega
theorem X7:Tryz.prog.underlying 46=some (.slice 164):=by kernel_rfl
def Vu:∃f0 f1,Tryz.prog.underlying 164=some (.struct #[f0,f1])/\f0.type=23/\f0.offset=0/\f1.type=23/\f1.offset=1:=⟨_,_,Tryz.underlying164,rfl,rfl,rfl,rfl⟩
theorem Wj:Tryz.prog.underlying 22=some (.slice 134):=by kernel_rfl
def Vb:∃f0 f1 f2,Tryz.prog.underlying 134=some (.struct #[f0,f1,f2])/\f0.type=5/\f0.offset=0/\f1.type=9/\f1.offset=1/\f2.type=46/\f2.offset=2:=⟨_,_,_,Tryz.underlying134,rfl,rfl,rfl,rfl,rfl,rfl⟩
theorem PJ:Tryz.prog.underlying 23=some (.int .u32):=by kernel_rfl
theorem RQ:Tryz.prog.cellsOf 164=2:=by kernel_rfl
theorem Rh:Tryz.prog.cellsOf 134=3:=by kernel_rfl
theorem VB:Tryz.prog.cellsOf 23=1:=by kernel_rfl
theorem Ye:Tryz.prog.cellsOf 46=1:=by kernel_rfl
def EY{n:Int}(h:(Lit.int .u32 n).wf=true):∃k:Nat,n=(k:Int)/\k<2^32:=by
 have h1:IntKind.min .u32=0:=by decide
 have h2:IntKind.max .u32=4294967295:=by decide
 simp only[Lit.wf,h1,h2,aao,aaC]at h;exact⟨n.toNat,ab,ab⟩
def UQ{n:Int}(h:(Lit.int .u8 n).wf=true):∃k:Nat,n=(k:Int):=by
 have h1:IntKind.min .u8=0:=by decide
 simp only[Lit.wf,h1,aao,aaC]at h;exact⟨n.toNat,ab⟩
variable{p:List MemPlace}{v:Value}
def F1{iW:Nat}{d:DataW H}(h:DataW.trod enc Tryz.prog W 0 (fun _=>true) true iW 46 [v]=some (d,p)):∃l,Ch (yT W) v l/\l.length<=Rows.uptoBulk d:=by
 rcases Deep.open_slice X7 h with ⟨e,e2⟩|⟨a,len,cap,m,n,D,Pl,e,_,ac,aj,hm,e2,hx⟩
 ·simp only[abB,abC]at e;subst e;exact⟨[],⟨none,0,rfl,.inl rfl⟩,aaL _⟩
 ·simp only[abB,abC]at e;subst e;simp only[aaI]at e2;obtain⟨rfl,_⟩:=e2;have aa:m=cap:=by simpa using hm
  subst aa;obtain⟨f0,f1,hu,t0,o0,t1,o1⟩:=Vu;obtain⟨g,hg⟩:=Deep.choose_lt (α:=Nat×Nat) (n:=len) (p:=fun i x=>W.cells? 0 (a.add (i*2)) 2=some [.int .u32 x.1,.int .u32 x.2]/\x.1<2^32/\x.2<2^32) (fun i hi=>by
   obtain⟨cs,h1,h2⟩:=hx i ab;rw[RQ]at h1;obtain⟨y0,y1,n',_,hl,h3,h4⟩:=trod_struct2 hu h2;rw[t0,o0,VB]at h3;rw[t1,o1,VB]at h4;obtain⟨k0,e0,_,w0⟩:=DataW.trod_int PJ h3;obtain⟨k1,e1,_,w1⟩:=DataW.trod_int PJ h4;obtain⟨j0,rfl,b0⟩:=EY w0;obtain⟨j1,rfl,b1⟩:=EY w1;rw[RQ]at hl
   match cs,hl with
   | [x,y],_=>
    simp at e0 e1;subst e0;subst e1;exact⟨(j0,j1),h1,b0,b1⟩)
  have hb:len<=Rows.uptoBulk (DataW.slice ((List.range len).map D) ((List.range (m-len)).map fun j=>D (len+j))):=by
   have:=(xe D (List.range len)).1;simp only[abO]at this;simp only[Rows.uptoBulk];omega
  rcases abn len with h0|h0
  ·subst h0;exact⟨[],⟨some a,m,rfl,.inl rfl⟩,aaL _⟩
  ·obtain⟨b,off,rfl,hc⟩:=CP (size:=2) (C:=fun i=>[.int .u32 (g i).1,.int .u32 (g i).2]) (fun i hi=>(hg i hi).1) bg h0;refine⟨(List.range len).map g,⟨_,m,by rw[aah,abO],.inr ⟨b,off,_,rfl,hc,BJ _ fun i hi=>?_⟩⟩,by rw[aah,abO];exact hb⟩;exact⟨rfl,(hg i (List.mem_range.1 hi)).2⟩
instance:Inhabited It:=⟨⟨0,[],[]⟩⟩
def FI{iW:Nat}{d:DataW H}(h:DataW.trod enc Tryz.prog W 0 (fun _=>true) true iW 22 [v]=some (d,p)):∃l,Sw (yT W) v l/\l.length<=Rows.uptoBulk d/\∀x∈l,x.cubes.length<=Rows.uptoBulk d/\x.text.length<=Rows.uptoBulk d:=by
 rcases Deep.open_slice Wj h with ⟨e,e2⟩|⟨a,len,cap,m,n,D,Pl,e,_,aa,am,hm,e2,hx⟩
 ·simp only[abB,abC]at e;subst e;exact⟨[],⟨none,0,rfl,.inl rfl⟩,aaL _,fun _ h=>(aaB h).elim⟩
 ·simp only[abB,abC]at e;subst e;simp only[aaI]at e2;obtain⟨rfl,_⟩:=e2;have ac:m=cap:=by simpa using hm
  subst ac;obtain⟨f0,f1,f2,hu,t0,o0,t1,o1,t2,o2⟩:=Vb;obtain⟨g,hg⟩:=Deep.choose_lt (α:=List Value×It) (n:=len) (p:=fun i x=>W.cells? 0 (a.add (i*3)) 3=some x.1/\LN (yT W) x.1 x.2/\x.2.cubes.length<=Rows.uptoBulk (D i)/\x.2.text.length<=Rows.uptoBulk (D i)) (fun i hi=>by
   obtain⟨cs,h1,h2⟩:=hx i ab;rw[Rh]at h1;obtain⟨y0,y1,y2,n',hD,hl,h3,h4,h5⟩:=Deep.trod_struct3 hu h2;rw[t0,o0,K5]at h3;rw[t1,o1,EM]at h4;rw[t2,o2,Ye]at h5;simp only[aaI]at hD;obtain⟨hD,_⟩:=hD;obtain⟨k0,e0,q0,w0⟩:=DataW.trod_int Yw h3;obtain⟨s,e1,q1,_⟩:=DataW.trod_string X5 h4;obtain⟨j0,rfl⟩:=UQ w0;rw[Rh]at hl
   match cs,hl with
   | [x,y,z],_=>
    simp at e0 e1 h5;subst e0;subst e1;obtain⟨l,aa,ak⟩:=F1 (d:=y2.1) (p:=y2.2) h5;refine⟨([.int .u8 (j0:Int),.string s,z],⟨j0,s.data.toList,l⟩),h1,⟨z,by simp,aa⟩,?_,?_⟩
    ·show l.length<=_;rw[hD];simp only[Rows.uptoBulk,Rows.uptoBulkAll];omega
    ·show s.data.toList.length<=_;rw[hD,q1];simp only[Rows.uptoBulk,Rows.uptoBulkAll];omega)
  obtain⟨b1,b2⟩:=xe D (List.range len);simp only[abO]at b1;have aj:Rows.uptoBulkAll ((List.range len).map D)<=Rows.uptoBulk (DataW.slice ((List.range len).map D) ((List.range (m-len)).map fun j=>D (len+j))):=by
   simp only[Rows.uptoBulk];omega
  rcases abn len with h0|h0
  ·subst h0;exact⟨[],⟨some a,m,rfl,.inl rfl⟩,aaL _,fun _ h=>(aaB h).elim⟩
  ·obtain⟨b,off,rfl,hc⟩:=CP (size:=3) (C:=fun i=>(g i).1) (fun i hi=>(hg i hi).1) bg h0;refine⟨(List.range len).map fun i=>(g i).2,⟨_,m,by rw[aah,abO],.inr ⟨b,off,_,rfl,hc,BJ _ fun i hi=>(hg i (List.mem_range.1 hi)).2.1⟩⟩,by rw[aah,abO];omega,fun x hx=>?_⟩;obtain⟨i,hi,rfl⟩:=List.mem_map.1 hx;obtain⟨_,_,c1,c2⟩:=hg i (List.mem_range.1 hi);have:=b2 i hi;exact⟨ab,ab⟩
end
open Go Go.Sx Dg Syn
def VM(t:Tr)(c:Nat):Nat:=du (pL (ch c) t.kids)
def sF(t:Tr)(l:List Nat):Nat:=(l.map (VM t)).sum
def J2(t:Tr)(l:List Nat)(c:Nat):sF t (l++[c])=sF t l+VM t c:=by simp[sF]
def GR{t:Tr}{b:Nat}(h:du t.kids<=b):∀l:List Nat,sF t l<=l.length*b
 | []=>aaL _
 |c::l=>by
  have h1:=GR h l;have h2:=BH (ch c) t.kids;simp only[sF,aaU,List.sum_cons,aaj,VM]at h1 |-;rw[aaP,abj];omega
def shS(tv gv vc:Value)(n d:Nat)(x:Nat×Nat):St:=⟨dn 67 [(2,.v (.bool false)),(3,.p 3 0),(7,.v (iv n)),(8,.v (iv d)),(9,.v (iv x.2)),(10,.v vc),(11,.v (iv x.1))],[⟨3,27,[tv,gv]⟩]⟩
def shQ(t:Tr)(l:List Nat)(I0:PH)(x:Nat×Nat)(H:PH):Prop:=∃I,H=U [I]/\Dj [I]/\I0.le I/\x.1<=l.length/\x.2=sF t (l.take x.1)
theorem O7{I:PH}{vl:Value}{l:List It}(hV:ir I)(hS:Sw I vl l)(hb:∀x∈l,W3 x)(hl:l.length<2^40):
  aK Tryz.prog 5 #[vl] I [] fun r I2 qs=>qs=[]/\r=.bool true:=by
 obtain⟨la,lc,rfl,_⟩:=id hS;intro hd;refine ah 67 Tryz.func5 fun w0=>?_;have hW:Ch I (.slice none 0 0) []:=⟨none,0,rfl,.inl rfl⟩;refine aT ?_;refine bV hd rfl S8 (Tl (most:=5) hS hW hb hl bg bg) fun v I2 qs b1 aj hq=>?_;obtain⟨rfl,hq⟩:=hq;rcases hq with ⟨lv,rfl,rfl⟩|⟨lv,ba,bc,u,rfl,hL,b6,_,_,hu,_,b5,a0⟩
 ·refine aT ?_;refine bV b1 rfl Nx (GQ (hV.le aj)) fun v I3 qs a5 aa hq=>?_;obtain⟨rfl,rfl⟩:=hq;refine aT ?_;exact af rfl a5 (r:=[_]) rfl (abV aj aa) ⟨rfl,rfl⟩
 obtain⟨⟨tv,ga,gn,gc,rfl,hT⟩,_⟩:=id hL;obtain⟨ta,tc,rfl,_⟩:=id hT;refine aT ?_;refine bV b1 rfl Nx (GQ (hV.le aj)) fun v I3 qs a5 aa hq=>?_;obtain⟨rfl,rfl⟩:=hq;have k3:=abV aj aa;refine aT ?_;refine eP [0,1,2,3,4,5,6,7,8] [] [] ?_;refine gw ?_;refine cv a5 rfl FR (bO.keep (Fp _)) fun v I4 qs cj ak hq=>?_;obtain⟨rfl,rfl⟩:=hq;refine gw ?_;refine cv cj rfl L4 (DB (hV.le (abV k3 ak)) (hL.le (abV aa ak)) (K9 I4)) fun v5 I5 qs ci a3 hq=>?_;obtain⟨rfl,t,hF,hR,a7,c3⟩:=hq;obtain⟨_,_,rfl,⟨xa,xc,rfl,_⟩,_,⟨xa',xc',rfl,_⟩,_⟩:=id hR;refine gw ?_;refine cv ci rfl Qb (QZ hR a7) fun v6 I6 qs cf a2 hq=>?_;obtain⟨rfl,rfl⟩:=hq;refine gw ?_;refine aw ?_;refine dP ?_;refine bV cf rfl EO (uf (u:=u) ab ab) fun v7 I7 qs cb a1 hq=>?_;obtain⟨rfl,hC⟩:=hq;obtain⟨ca,cc,rfl,_⟩:=id hC;have bs:=ns hL.ok;have law:=Jv bs hF (O5 hu b5);rw[aas]at law;have law:du t.kids<=sF t (eY u 32):=law;have c1:(eY u 32).length<=32:=by rw[m9];exact ZS (abe ab a0) bg
 unfold aN at a7;have cm:=fun m:List Nat=>GR (t:=t) a7 m;have cB:=kB _ t.kids (aba _);have b4:=abV a3 (abV a2 a1);have bd:=abV ak b4;refine dP ?_;refine aA (fun x=>(eY u 32).length-x.1) (shS (.slice ta (l.map eL).length tc) (.slice ga gn gc) (.slice ca (eY u 32).length cc) (du t.kids) (gJ t.kids)) (shQ t (eY u 32) I7) (0,0) bM (by simp only[go_sem,aa6,shS,iv]) ?_ ?_
 ·exact⟨I7,rfl,cb,abW _,aaL _,rfl⟩
 rintro⟨i,n⟩ H ⟨I8,rfl,a4,ac,hi,hn⟩ am;simp only at hi hn;simp only[shS];have cn:=cm ((eY u 32).take i);rw[<-hn,abF]at cn;rcases aaf i (eY u 32).length with bx|cA
 ·have a9:decide ((i:Int)<((eY u 32).length:Int))=true:=abU ab;have e1:IntKind.i64.wrap ((i:Int)+1)=((i+1:Nat):Int):=by rw[<-wrap64 (n:=i+1) ab];congr 1
  obtain⟨c,b2⟩:∃c,(eY u 32)[i]?=some c:=⟨_,aak bx⟩;obtain⟨b,off,cs,rfl,⟨rfl,hc⟩,aS⟩:=Sl.load (fun{I} c a h=>ot.len (I:=I) c a h) (JF.le hC ac) b2;have cl:VM t c<=du t.kids:=BH _ _;have c0:gJ (pL (ch c) t.kids)<=gJ t.kids:=Fj _ _;have bb:=abV bd ac;apply RG;simp only[go_sem,iv,a9];refine iZ mixed [0,1,2,3,4,5,6,7,8,9,10,11] [] [] [4] [5,6] I8 rfl rfl ?_;refine dS ?_
  try refine⟨ab,?_⟩
  refine je (l:=[.int .u32 c]) rfl (cP a4) rfl rfl rfl (by simpa using aS) (.inr ⟨oR,rfl⟩) ?_;refine dS ?_;refine DX a4 [] rfl (fun _=>abW _) rfl Ly (by rfl) (ps:=[]) (F:=[]) rfl (Gw (hV.le (abV k3 bb)) (hL.le (abV aa bb)) hc) fun v9 I9 qs b0 an hq=>?_;obtain⟨rfl,t2,cp,a6,b3,c2⟩:=hq;simp only[Z3]at b0 |-;have e2:=NZ bs (w:=tt) trivial (wQ _ _) hF cp (c:=ch c) rfl (zu c);rw[<-e2]at a6 b3;obtain⟨_,_,rfl,⟨ya,yc,rfl,_⟩,_,⟨ya',yc',rfl,_⟩,_⟩:=id a6;refine dS ?_;refine DX b0 [] rfl (fun _=>an) rfl Qb (by rfl) (ps:=[]) (F:=[]) rfl (QZ a6 b3) fun v10 cy qs aq ao hq=>?_;obtain⟨rfl,rfl⟩:=hq;simp only[Z3]at aq |-;refine dS ?_;refine aw ?_;have cx:decide ((du (prj (ch c) t).kids:Int)>(du t.kids:Int))=false:=abT (by have:du (prj (ch c) t).kids=VM t c:=rfl;omega);have ct:decide ((gJ (prj (ch c) t).kids:Int)>(gJ t.kids:Int))=false:=abT (by have:gJ (prj (ch c) t).kids=gJ (pL (ch c) t.kids):=rfl;omega);have e63:IntKind.i64.wrap ((n:Int)+(du (prj (ch c) t).kids:Int))=((n+VM t c:Nat):Int):=by
   have:du (prj (ch c) t).kids=VM t c:=rfl;rw[this,<-wrap64 (n:=n+VM t c) ab];congr 1
  apply RG;simp only[go_sem,iv,cx,ct,e63,e1];exact am (i+1,n+VM t c) _ _ dt bM (by simp only[go_sem,aa6,shS,iv]) ⟨cy,rfl,aq,abV ac (abV an ao),bx,by simp only;rw[df b2,J2,hn]⟩
 ·have:i=(eY u 32).length:=by omega
  subst this;rw[aaS]at hn;have a9:decide (((eY u 32).length:Int)<((eY u 32).length:Int))=false:=by simp
  have cr:decide ((du t.kids:Int)<=(n:Int))=true:=abU ab;apply RG;simp only[go_sem,iv,a9,cr];exact af rfl a4 (r:=[_]) rfl (abV (abV k3 bd) ac) ⟨rfl,rfl⟩
open Go.ChangeShapes (trodAll_one trodVars_none trodAll_mk1)
open Go.RowKit (shut_bool)
def qy{W:World}{n:String}{g:Nat}{cs:Array Value}(hg:Tryz.prog.globalNamed n=some g)(h:W.var? Tryz.prog n=some cs):∃ty fz,W.heap[g]?=some (.cells cs ty fz):=by
 unfold World.var? at h;rw[hg]at h;simp only[jO]at h;cases hb:W.heap[g]? with
 |none=>rw[hb]at h;cases h
 |some o=>
  rw[hb]at h;cases o with
  |cells c ty fz=>simp only[ZW]at h;subst h;exact⟨ty,fz,rfl⟩
  |_=>cases h
def Mv{H:Type}{enc:TypeId×Value->H}{W:World}{qg iW t n:Nat}{sp:Nat->Bool}{aa:Bool}{cs:List Value}{T:List bq}{p:List MemPlace}(ht:Tryz.prog.underlying t=some (.array n 9))(ak:Tryz.prog.cellsOf t=n)
  (h:DataW.trod enc Tryz.prog W qg sp aa iW t cs=some (.agg (T.map fun x=>.lit (.string x)),p)):cs=T.map fun x=>.string ⟨⟨x⟩⟩:=by
 obtain⟨xs,m,_,hx,hl,am,aj⟩:=DataW.trod_array ht h;simp only[aaI,DataW.agg.injEq]at hx;obtain⟨hx,_⟩:=hx;rw[ak]at hl;have hT:T.length=n:=by
  have:=congrArg List.length hx;simp at this;omega
 apply List.ext_getElem?;intro i;rcases aaf i n with hi|hi
 ·have h1:=aj i hi;obtain⟨y,hy⟩:∃y,xs[i]?=some y:=⟨_,aak ab⟩;rw[EM,Nat.mul_one,hy]at h1;obtain⟨s,e1,e2,_⟩:=DataW.trod_string X5 h1;have h2:(xs.map (·.1))[i]?=some (.lit (.string s.data.toList)):=by rw[aai,hy,e2];rfl
  rw[<-hx,aai]at h2;obtain⟨x,ac⟩:∃x,T[i]?=some x:=⟨_,aak ab⟩;rw[ac]at h2;simp only[Z9,ZW,DataW.lit.injEq,Lit.string.injEq]at h2;have h3:cs[i]?=some (.string s):=by
   have:=congrArg (fun l:List Value=>l[0]?) e1;simpa[Z0,Z1]using this
  rw[h3,aai,ac,h2];rfl
 ·rw[aan ab,aan (by rw[aah];omega)]
theorem Wm:Tryz.prog.cellsOf 317=22:=by kernel_rfl
theorem Ys:Tryz.prog.globalNamed "motley/source.signs"=some 0:=by kernel_rfl
theorem Yv:Tryz.prog.globalNamed "strconv.ErrSyntax"=some 1:=by kernel_rfl
theorem Yy:Tryz.prog.globalNamed "strconv.ErrRange"=some 2:=by kernel_rfl
theorem ZC:(Tryz.prog.globals[0]?).map (·.type)=some 317:=by kernel_rfl
theorem YX:(Tryz.prog.globals[1]?).map (·.type)=some 284:=by kernel_rfl
theorem Zi:(Tryz.prog.globals[2]?).map (·.type)=some 284:=by kernel_rfl
theorem Y2:(Tryz.prog.globals[3]?).map (·.type)=some 406:=by kernel_rfl
theorem U5:Tryz.prog.underlying 406=some (.array 20 366):=by kernel_rfl
theorem US:Tryz.prog.underlying 366=some (.int .u64):=by kernel_rfl
theorem U7:Tryz.prog.cellsOf 366=1:=by kernel_rfl
theorem V0:Tryz.prog.cellsOf 406=20:=by kernel_rfl
def Py{W:World}(hL:laidMetH Tryz.prog Rows.syntaxSharedUptoRow.laid W):ir (yT W):=by
 rw[MakeChecks.laidMetH_plain _ _ _ (by kernel_rfl)]at hL;have r3:=Lib.laidMet.reads hL (.tail _ (.tail _ (.head _)));have r2:=Lib.laidMet.reads hL (.tail _ (.tail _ (.tail _ (.head _))));have r1:=Lib.laidMet.reads hL (.tail _ (.tail _ (.tail _ (.tail _ (.head _)))));have r0:=Lib.laidMet.reads hL (.tail _ (.tail _ (.tail _ (.tail _ (.tail _ (.head _))))));refine⟨?_,?_,?_,?_⟩
 ·obtain⟨g,t,cs,iW,p,hg,ht,hv,hd⟩:=r0;obtain rfl:=aaZ (Ys.symm.trans hg);obtain rfl:=aaZ (ZC.symm.trans ht);obtain⟨ty,fz,hb⟩:=qy Ys hv;have aa:=Mv (T:=f4) Rj Wm hd;refine⟨cs,ty,fz,hb,?_,?_⟩
  ·have:=congrArg List.length aa;simp only[hZ]at this;rw[this];simp[pQ]
  ·rw[aa1,aa];exact abG (by simp[pQ])
 ·obtain⟨g,t,cs,iW,p,hg,ht,hv,hd⟩:=r1;obtain rfl:=aaZ (Yv.symm.trans hg);obtain rfl:=aaZ (YX.symm.trans ht);obtain⟨ty,fz,hb⟩:=qy Yv hv;obtain⟨_,u,v,aa,_⟩:=iface_of_trod zN.choose_spec hd;exact⟨u,v,cs,ty,fz,hb,by have:=congrArg List.length aa;simp at this;simp[this],by simp[aa]⟩
 ·obtain⟨g,t,cs,iW,p,hg,ht,hv,hd⟩:=r2;obtain rfl:=aaZ (Yy.symm.trans hg);obtain rfl:=aaZ (Zi.symm.trans ht);obtain⟨ty,fz,hb⟩:=qy Yy hv;obtain⟨_,u,v,aa,_⟩:=iface_of_trod zN.choose_spec hd;exact⟨u,v,cs,ty,fz,hb,by have:=congrArg List.length aa;simp at this;simp[this],by simp[aa]⟩
 ·obtain⟨g,t,cs,iW,p,hg,ht,hv,hd⟩:=r3;obtain rfl:=aaZ (Mh.symm.trans hg);obtain rfl:=aaZ (Y2.symm.trans ht);obtain⟨ty,fz,hb⟩:=qy Mh hv;have aa:=Lib.cells_of_tab (zs:=Lib.pow10Tab) (k:=.u64) U5 US U7 V0 hd;refine⟨ty,fz,?_⟩;show W.heap[3]?=_;rw[hb,<-aa]
theorem U6:ownKnob Tryz.prog.godebug=none:=by kernel_rfl
theorem QC:laidOutB Tryz.prog=true:=by kernel_rfl
def Kz(os:Os)(args:Array Value):laidMetH Tryz.prog Rows.syntaxSharedUptoRow.laid ((World.doorLaid Tryz.prog 67 os).forCall (fun _ _=>0) ⟨#[],args,[]⟩).memory:=
 (@laidMetH_of_parts3 _ _ _ 8 (laidMet_of_run' 8 (by kernel_rfl) (by kernel_rfl)) (by kernel_rfl) (by kernel_rfl))
def DG:Array Value:=#[.slice none 0 0]
def Eg(os:Os){H:Type}(enc:TypeId×Value->H):
  (Rows.OpenSpec.upto Rows.syntaxSharedSpec).preRow enc Tryz.prog Tryz.f5 Rows.syntaxSharedUptoRow.domain false Rows.syntaxSharedUptoRow.laid ((World.doorLaid Tryz.prog 67 os).forCall (fun _ _=>0) ⟨#[],DG,[]⟩).memory DG:=by
 have hw:(DataW.whole enc Tryz.prog ((World.doorLaid Tryz.prog 67 os).forCall (fun _ _=>0) ⟨#[],DG,[]⟩).memory Tryz.f5.params.toList (Rows.OpenSpec.upto Rows.syntaxSharedSpec).vars false DG.toList 8).map (fun x=>(x.1,x.2.1)) =
   some ([.nil],[]):=by kernel_rfl
 obtain⟨⟨x1,x2,x3⟩,hx,aa⟩:=Option.map_eq_some_iff.1 hw;simp only[aaI]at aa;obtain⟨rfl,rfl⟩:=aa;exact OpenSpec.preRow_of_cond 8 hx (by kernel_rfl) (fun k hk=>by cases hk;rfl) (by kernel_rfl) (Kz os _)
set_option maxRecDepth 100000 in
theorem wl(os:Os)(started:os.Started)(H:Type)(enc:TypeId×Value->H)(F:Stop.Interp):
  ReturnsInHanded {} Tryz.checked os 5 .any ((Rows.OpenSpec.upto Rows.syntaxSharedSpec).preRow enc Tryz.prog Tryz.f5 Rows.syntaxSharedUptoRow.domain false Rows.syntaxSharedUptoRow.laid) (((Rows.OpenSpec.upto Rows.syntaxSharedSpec).at F).post enc Tryz.prog Tryz.f5 false true false false):=by
 refine returnsInHanded_of_row (C:=Tryz.checked) (s:=Rows.OpenSpec.upto Rows.syntaxSharedSpec) U6 started (by kernel_rfl) Tryz.func5
  (witness_row_atRef (enc:=enc) (C:=Tryz.checked) false (World.doorLaid Tryz.prog 67 os) DG rfl (by kernel_rfl) (by kernel_rfl) (by kernel_rfl) (Eg os enc)) ?_
 intro W qg args ds gs before aa hW _ aj _ hL _ _;have ac:Rows.uptoSmall H (ds++gs)=true:=aj _ rfl;have ak:∀(j:Nat) t v,Tryz.f5.params[j]?=some t->args[j]?=some v->Value.okWide Tryz.prog W .any qg t v:=aa;have am:=hW;obtain⟨p,q,aq,ao,rfl,_,_⟩:=hW;have hA:DataW.TrodAll enc Tryz.prog W 0 (fun _=>true) true Tryz.f5.params.toList args.toList ds p:=aq;rw[Tryz.params5]at hA ak;obtain⟨v0,d0,rfl,rfl,h0⟩:=trodAll_one hA;obtain⟨rfl,rfl⟩:=trodVars_none ao;have h0k:=h0;clear aq ao aa;simp only[aa6]at am ac;have aS:∀x∈p,x.block<W.heap.size:=fun x hx=>by simpa using am.lt x (by simpa using hx)
 have an:Rows.uptoBulk d0+0<=1048576:=abl ac;obtain⟨a0,l0,c0,rfl⟩:=WideShapes.okWide_slice Wj (ak 0 22 v0 rfl rfl);obtain⟨f0,a2⟩:=h0;obtain⟨l,a3,a4,a1⟩:=FI a2;have hV:=Py hL;have main:=O7 hV a3 (fun x hx=>by obtain⟨b1,b2⟩:=a1 x hx;exact⟨ab,ab⟩) ab;refine(aK.calls main).mono ?_;rintro e W' ⟨rfl,bel⟩;have e1:((Rows.OpenSpec.upto Rows.syntaxSharedSpec).at F).fn H ([d0]++[])={ results:=[.lit (.bool true)],args:=[d0] }:=rfl;refine⟨_,rfl,_,_,_,[],p,[],am,?_,?_,?_,bel.frame _,fun h=>by cases h⟩
 ·rw[e1];exact trodAll_mk1 (shut_bool Tryz.underlying4 _)
 ·rw[e1];exact trodAll_mk1 (RowKit.Below.trod QC (by kernel_rfl) (abl (by kernel_rfl)) h0k bel (fun x hx=>aS x hx))
 ·rw[e1];rfl
open Go
theorem ZQ:(Rows.syntaxSharedUptoRow.wf (OpenSpec.ofChange (OpenSpec.bare (Rows.OpenSpec.upto Rows.syntaxSharedSpec))))=true:=by kernel_rfl
theorem ZL:(namedTie Tryz.prog Rows.syntaxSharedUptoRow.named (OpenSpec.bare (Rows.OpenSpec.upto Rows.syntaxSharedSpec)).vars)=true:=by kernel_rfl
theorem ZN:((Tryz.prog.stopKnobs == []))=true:=by kernel_rfl
theorem Xh:((Rows.syntaxSharedUptoRow.named == Tryz.prog.varsNamed 5))=true:=by kernel_rfl
theorem XI:((Rows.syntaxSharedUptoRow.loops == (Tryz.f5.params.toList++(OpenSpec.bare (Rows.OpenSpec.upto Rows.syntaxSharedSpec)).plain.varTypes Tryz.prog).any (Tryz.prog.loopsFrom ·)))=true:=by kernel_rfl
theorem X6:((Rows.syntaxSharedUptoRow.ifacesOut == Tryz.f5.resultTypes.toList.any (Tryz.prog.ifacesRec ·)))=true:=by kernel_rfl
theorem Xj:(Tryz.prog.stopsHeard)=true:=by kernel_rfl
theorem X0:((Rows.syntaxSharedUptoRow.kinds == (if Rows.syntaxSharedUptoRow.domain.isEmpty then []else Tryz.f5.params.toList.map fun t=>match Tryz.prog.underlying t with|some (.int k)=>some k|_=>none)))=true:=by kernel_rfl
theorem Za:Rows.syntaxSharedUptoRow.wfByText (Rows.OpenSpec.upto Rows.syntaxSharedSpec)=true:=by kernel_rfl
theorem Y7:Tryz.prog.mainIs=some (true,("fb6f3cea10b2bce7ccd9e68c58951443a6981fe33c0f78952a9ec7f837153f3e":String).toList):=by kernel_rfl
theorem YL:Tryz.prog.funcNamed "motley/motleylaw07.SyntaxShared"=some 5:=by kernel_rfl
theorem Y3:true=Tryz.prog.looks []:=by kernel_rfl
theorem Ze:([22].all fun u=>!Tryz.prog.wantsStandIn u)=true:=by kernel_rfl
theorem Zb:false=Rows.syntaxSharedUptoRow.goesBy Tryz.prog:=by kernel_rfl
def ZF:Tryz.f5.isInstance Tryz.prog Rows.syntaxSharedUptoRow.origin Rows.syntaxSharedUptoRow.targs:=abl (by kernel_rfl)
theorem ZA:(laidOutB Tryz.prog)=true:=by kernel_rfl
theorem Zu:((Rows.syntaxSharedUptoRow.stops == []))=true:=by kernel_rfl
theorem Y5:((Rows.syntaxSharedUptoRow.inPlace == Tryz.prog.inPlace 5))=true:=by kernel_rfl
theorem Yd:((Rows.syntaxSharedUptoRow.maps == (Tryz.f5.params.toList++(OpenSpec.bare (Rows.OpenSpec.upto Rows.syntaxSharedSpec)).plain.varTypes Tryz.prog).any (Tryz.prog.mapsRec ·)))=true:=by kernel_rfl
theorem X2:((Rows.syntaxSharedUptoRow.wideKeys == (Tryz.f5.params.toList++(OpenSpec.bare (Rows.OpenSpec.upto Rows.syntaxSharedSpec)).plain.varTypes Tryz.prog++Tryz.f5.resultTypes.toList).any (Tryz.prog.wideKeysFrom ·)))=true:=by kernel_rfl
theorem Xu:((Rows.syntaxSharedUptoRow.loopsOut == Tryz.f5.resultTypes.toList.any (Tryz.prog.loopsFrom ·)))=true:=by kernel_rfl
theorem Xq:(Tryz.prog.mayEnter)=true:=by kernel_rfl
theorem X9:((Rows.syntaxSharedUptoRow.pinned == Rows.syntaxSharedUptoRow.pinnedBy))=true:=by kernel_rfl
theorem ZI:(mapsRowed Tryz.prog)=true:=by kernel_rfl
theorem YQ:((Tryz.prog.stops == []))=true:=by kernel_rfl
theorem XX:((Rows.syntaxSharedUptoRow.unfollowed == Tryz.prog.unfollowed 5))=true:=by kernel_rfl
theorem XC:((Rows.syntaxSharedUptoRow.ifaces == (Tryz.f5.params.toList++(OpenSpec.bare (Rows.OpenSpec.upto Rows.syntaxSharedSpec)).plain.varTypes Tryz.prog).any (Tryz.prog.ifacesRec ·)))=true:=by kernel_rfl
theorem XQ:((OpenSpec.bare (Rows.OpenSpec.upto Rows.syntaxSharedSpec)).vars.all (Tryz.prog.varReadable ·))=true:=by kernel_rfl
theorem XG:((Rows.syntaxSharedUptoRow.plainKeys == Tryz.prog.plainKeys))=true:=by kernel_rfl
theorem Yn:((Rows.syntaxSharedUptoRow.lifted == Tryz.prog.liftsFinal))=true:=by kernel_rfl
theorem XR:((Rows.syntaxSharedUptoRow.veiled == (Tryz.f5.params.toList++(OpenSpec.bare (Rows.OpenSpec.upto Rows.syntaxSharedSpec)).plain.varTypes Tryz.prog++Tryz.f5.resultTypes.toList).any (Tryz.prog.veiledRec ·)))=true:=by kernel_rfl
theorem Zn:(Tryz.f5.params.all (Tryz.prog.readableRec ·))=true:=by kernel_rfl
theorem Zo:((Rows.syntaxSharedUptoRow.knobs == []))=true:=by kernel_rfl
theorem Yj:((Rows.syntaxSharedUptoRow.recurses == Tryz.prog.recurses 5))=true:=by kernel_rfl
theorem X4:((Rows.syntaxSharedUptoRow.mapsOut == Tryz.prog.mapsAmong Tryz.f5.resultTypes.toList))=true:=by kernel_rfl
theorem Xg:(Tryz.f5.resultTypes.all (fun t=>Tryz.prog.readableRec t && decide (t<Tryz.prog.types.size)))=true:=by kernel_rfl
theorem XS:(Rows.syntaxSharedUptoRow.shortTexts.isNone)=true:=by kernel_rfl
theorem Yi:((Tryz.prog.make == some Rows.syntaxSharedUptoRow.make))=true:=by kernel_rfl
theorem XD:(Rows.syntaxSharedUptoRow.veiledFits Tryz.prog Tryz.f5.params.toList (Tryz.f5.params.toList++(OpenSpec.bare (Rows.OpenSpec.upto Rows.syntaxSharedSpec)).plain.varTypes Tryz.prog++Tryz.f5.resultTypes.toList))=true:=by kernel_rfl
def rG{a b:Bool}(h:a=true)(k:b=true):(a && b)=true:=by rw[h,k];rfl
set_option maxRecDepth 100000 in
theorem Yc:joinedFacts Tryz.prog 5 Tryz.f5 (OpenSpec.bare (Rows.OpenSpec.upto Rows.syntaxSharedSpec)) Rows.syntaxSharedUptoRow=true:=by
 unfold joinedFacts;exact(rG (rG (rG (rG (rG (rG (rG (rG (rG (rG (rG (rG (rG (rG (rG (rG (rG (rG (rG (rG (rG (rG (rG (rG (rG (rG (rG (rG (rG (rG (rG ZQ ZA) ZI) Zn) ZL) Zu) YQ) Zo) ZN) Y5) XX) Yj) Xh) Yd) XC) X4) XI) X2) XQ) Xg) X6) Xu) XG) XS) Xj) Xq) Yn) Yi) X0) X9) XR) XD)
def YZ:Tryz.f5.isWrapper Tryz.prog Rows.syntaxSharedUptoRow.wrapper Rows.syntaxSharedUptoRow.mainSum:=by
 unfold Func.isWrapper
 first|(rw[aaq (by decide +kernel)];kernel_rfl)|(rw[ZV (by decide +kernel)];exact⟨rfl,rfl⟩)
def El:Rows.SyntaxSharedUptoSaid:=
 OpenClaim.holds_of_cond 5 Tryz.f5 rfl rfl rfl rfl rfl rfl rfl ⟨rfl,rfl,rfl,rfl,rfl⟩ rfl rfl rfl rfl rfl YL Tryz.func5 Yc ZF YZ
  (fun os started H enc _ F=>by rw[OpenClaim.pre_eq_preRow];exact wl os started H enc F)
theorem syntaxShared_card:Rows.SyntaxSharedUptoCardSaid:=
 Claim7.holds_tied_plain_at .later [] [.data,.data,.data,.sentinel,.sentinel,.data] true (true,"fb6f3cea10b2bce7ccd9e68c58951443a6981fe33c0f78952a9ec7f837153f3e") true
  El (fun _ h=>by cases h) Za (fun _ h=>by cases h) syntaxSharedUpto_row_tie rfl ⟨rfl,rfl⟩ Y7 rfl
  (fun f fn hf aa=>by
   obtain rfl:f=5:=(aaZ (YL.symm.trans hf)).symm;obtain rfl:fn=Tryz.f5:=(aaZ (Tryz.func5.symm.trans aa)).symm;exact⟨Y3,fun j t ht=>by
    rw[Tryz.params5]at ht;have hm:t∈[22]:=by simpa using Array.mem_of_getElem? ht
    exact(show Tryz.prog.wantsStandIn t=false by simpa using List.all_eq_true.1 Ze t hm)⟩)
  Zb
end Go.Proofs.YtfaclfkpnmcmlaaGreatDoor
