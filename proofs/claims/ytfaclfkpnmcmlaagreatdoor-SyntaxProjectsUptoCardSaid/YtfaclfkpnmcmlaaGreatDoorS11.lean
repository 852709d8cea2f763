import Derived.Test.YtfaclfkpnmcmlaaGreatDoorS00
import Derived.Test.YtfaclfkpnmcmlaaGreatDoorS03
import Derived.Test.YtfaclfkpnmcmlaaGreatDoorS06
import Derived.Test.YtfaclfkpnmcmlaaGreatDoorS10
import Derived.Laws.StructEq
import Derived.Sort.AssemblyPlain
set_option maxHeartbeats 8000000
set_option linter.all false
namespace Go.Proofs.YtfaclfkpnmcmlaaGreatDoor
open Go Go.Sx Dg Syn
theorem jl(A:PH):U [A]=A:=PH.uni_no A
theorem sw:∀{Ks:List PH} {i:Nat} {Ki:PH},Ks[i]?=some Ki->Ks.Perm (Ki::Ks.eraseIdx i)
 | [],i,Ki,h=>by simp at h
 |a::l,0,Ki,h=>by
  simp only[TC,Sc]at h;subst h;exact List.Perm.refl _
 |a::l,i+1,Ki,h=>by
  rw[TD]at h;exact((sw h).cons a).trans (List.Perm.swap Ki a _)
theorem zD:∀{Ks:List PH} {i:Nat} (K':PH),i<Ks.length->(K'::Ks.eraseIdx i).Perm (Ks.set i K')
 | [],i,K',h=>by simp at h
 |a::l,0,K',h=>List.Perm.refl _
 |a::l,i+1,K',h=>(List.Perm.swap a K' _).trans ((zD K' (by simpa using h)).cons a)
theorem AU(A:PH)(l:List PH):U [A,U l]=U (A::l):=by
 show A.uni (U [U l])=A.uni (U l);rw[jl]
theorem H1{A:PH}{l:List PH}(h:Dj (A::l)):Dj [A,U l]:=by
 have:=h.head;refine List.pairwise_cons.2 ⟨fun B hB=>?_,Th _ _⟩;rw[List.mem_singleton.1 hB];exact this
theorem u6{A:PH}{l:List PH}(h:Dj [A,U l])(hl:Dj l):Dj (A::l):=hl.cons (by
 have:=h.head
 rwa [jl]at this)
theorem ME{l:List PH}{X:PH}{m:List PH}(h:Dj (l++[X]))(e:U m=X)(hm:Dj m):U (l++[X])=U (l++m)/\Dj (l++m):=by
 obtain⟨a,b,c⟩:=l9.1 h;rw[jl]at c;refine⟨by rw[vG,vG,jl,e],l9.2 ⟨a,hm,by rw[e];exact c⟩⟩
theorem GR{l m:List PH}(h:Dj (l++m)):U (l++m)=U (l++[U m])/\Dj (l++[U m]):=by
 obtain⟨a,b,c⟩:=l9.1 h;refine⟨by rw[vG,vG,jl],l9.2 ⟨a,Th _ _,by rw[jl];exact c⟩⟩
theorem L3{l Ks:List PH}{i:Nat}{Ki:PH}(hd:Dj (l++[U Ks]))(hk:Dj Ks)(hi:Ks[i]?=some Ki):U (l++[U Ks])=U (l++[Ki,U (Ks.eraseIdx i)])/\Dj (l++[Ki,U (Ks.eraseIdx i)]):=by
 obtain⟨e,d⟩:=lr (sw hi) hk;exact ME hd (by rw[AU,e]) (H1 d)
theorem Mh{l Ks:List PH}{i:Nat}{K':PH}(hd:Dj (l++[K',U (Ks.eraseIdx i)]))(hk:Dj Ks)(hi:i<Ks.length):U (l++[K',U (Ks.eraseIdx i)])=U (l++[U (Ks.set i K')])/\Dj (l++[U (Ks.set i K')])/\Dj (Ks.set i K'):=by
 have h1:Dj (Ks.eraseIdx i):=List.Pairwise.sublist (List.eraseIdx_sublist _ _) hk;have h2:Dj (K'::Ks.eraseIdx i):=u6 (l9.1 hd).2.1 h1;obtain⟨e,d⟩:=lr (zD K' hi) h2;obtain⟨e3,d3⟩:=GR hd;rw[AU,e]at e3 d3;exact⟨e3,d3,d⟩
theorem Mn{l Ks:List PH}{K':PH}(hd:Dj (l++[K',U Ks]))(hk:Dj Ks):U (l++[K',U Ks])=U (l++[U (Ks++[K'])])/\Dj (l++[U (Ks++[K'])])/\Dj (Ks++[K']):=by
 have h2:Dj (K'::Ks):=u6 (l9.1 hd).2.1 hk;obtain⟨e,d⟩:=lr (List.perm_append_singleton K' Ks).symm h2;obtain⟨e3,d3⟩:=GR hd;rw[AU,e]at e3 d3;exact⟨e3,d3,d⟩
def oj(I:PH)(c:List Value)(p:PH×Nd):Prop:=∃vk a k,c=[.int .u8 p.2.kind,.string ⟨⟨p.2.text⟩⟩,.int .i64 p.2.tok,.int .i64 p.2.slot,vk,sD a k p.2.cond,rD p.2.cond]/\cu I (.agg #[sD a k p.2.cond,rD p.2.cond]) p.2.cond/\br I p.1 vk p.2.kids
theorem oj.le{I J:PH}{c:List Value}{p:PH×Nd}(h:oj I c p)(aa:I.le J):oj J c p:=by
 obtain⟨vk,a,k,e,h1,h2⟩:=h;exact⟨vk,a,k,e,h1.le aa,br.le h2 aa⟩
theorem oj.len{I:PH}(c:List Value)(p:PH×Nd)(h:oj I c p):c.length=7:=by obtain⟨vk,a,k,e,_⟩:=h;rw[e];rfl
theorem oj.ones{I:PH}{c:List Value}{p:PH×Nd}(h:oj I c p):c.all Sx.one=true:=by
 obtain⟨vk,a,k,e,_,hk⟩:=h;obtain⟨x,y,rfl⟩:=hk.shape;rw[e];rfl
theorem oj.still{I J:PH}{c:List Value}{p:PH×Nd}(h:oj I c p)(h1:I.le J)(h2:p.1.le J):aW J c p.2:=by
 obtain⟨vk,a,k,rfl,hr,hk⟩:=h;exact aW.mk (hr.le h1) (br.sl hk h1 h2) (hk.capN aW.len)
theorem LR.still{I J:PH}(h1:I.le J):∀{l:List (PH×Nd)} {xs:List Value},LR (oj I) xs l->(∀p∈l,p.1.le J)->LR (aW J) xs (l.map Prod.snd)
 | [],xs,h,_=>h
 |p::l,xs,⟨c,ys,e,a,b⟩,hp=>⟨c,ys,e,a.still h1 (hp p (.head _)),LR.still h1 b fun q hq=>hp q (.tail _ hq)⟩
def Gi(o:List Nd)(y u:Value):Prop:=∃j m,o[j]?=some m/\y=nJ m.key/\u=iv j
theorem yU{a b:nL}(h:nJ a=nJ b):a=b:=by
 unfold nJ at h;simp only[Value.agg.injEq,Array.mk.injEq,TX,Value.int.injEq,Value.string.injEq,TY,SP]at h;obtain⟨h1,h2,h3,h4⟩:=h;have ac:a.kind=b.kind:=by omega
 have aa:a.text=b.text:=by
  have:=congrArg (fun x:ByteArray=>x.data.toList) h4;exact this
 cases a;cases b
 simp_all
theorem FO:Tryz.prog.underlying 240=some (.struct #[⟨ "slot",3,0,false,"","motley/syntax",0⟩,⟨ "tok",3,1,false,"","motley/syntax",8⟩,⟨ "kind",5,2,false,"","motley/syntax",16⟩,⟨ "text",9,3,false,"","motley/syntax",24⟩]):=by kernel_rfl
theorem OI:Tryz.prog.keyTypeAt 3 240=true:=by kernel_rfl
theorem NL:Tryz.prog.tiled 3 240=true:=by kernel_rfl
theorem LP:Maps.Keyed Tryz.prog 240:=by
 refine Maps.Keyed.of_law (deep_law (m:=3) Vi OI NL ?_);rw[FO]
theorem H6:Tryz.prog.keyType 240=true:=by kernel_rfl
theorem He:Tryz.prog.cellsOf 240=4:=by kernel_rfl
theorem Fw:Tryz.prog.cellsOf 5=1:=by kernel_rfl
theorem Bm:Tryz.prog.cellsOf 9=1:=by kernel_rfl
theorem Qn:Tryz.prog.underlying 5=some (.int .u8):=by kernel_rfl
theorem Pe:Tryz.prog.underlying 9=some .string:=by kernel_rfl
theorem QP{z:Int}(h:-4611686018427387904<=z)(h2:z<4611686018427387904):(Lit.int .i64 z).wf=true:=by
 have h1:IntKind.min .i64=-9223372036854775808:=by decide
 have h2:IntKind.max .i64=9223372036854775807:=by decide
 simp only[Lit.wf,h1,h2,SG,SX];omega
theorem Rl{n:Nat}(h:n<256):(Lit.int .u8 n).wf=true:=by
 have h1:IntKind.min .u8=0:=by decide
 have h2:IntKind.max .u8=255:=by decide
 simp only[Lit.wf,h1,h2,SG,SX];omega
theorem OR {P:Program} {k:nL} (hk:P.underlying 240=some (.struct #[⟨ "slot",3,0,false,"","motley/syntax",0⟩,⟨ "tok",3,1,false,"","motley/syntax",8⟩,⟨ "kind",5,2,false,"","motley/syntax",16⟩,⟨ "text",9,3,false,"","motley/syntax",24⟩])) (h1:P.keyType 240=true) (h2:P.cellsOf 240=4) (h3:P.cellsOf 3=1) (h5:P.cellsOf 5=1) (h9:P.cellsOf 9=1) (u3:P.underlying 3=some (.int .i64)) (u5:P.underlying 5=some (.int .u8)) (u9:P.underlying 9=some .string) (hs:1<P.types.size)
  (a1:(Lit.int .i64 k.slot).wf=true) (a2:(Lit.int .i64 k.tok).wf=true) (a3:(Lit.int .u8 k.kind).wf=true) (a4:k.text.length<4611686018427387904):iD P 240 (nJ k):=by
 obtain⟨n,hn⟩:∃n,P.types.size=n+1:=⟨P.types.size-1,Vi⟩;simp only[Lit.wf,SG,SX]at a1 a2 a3;have e9:(9223372036854775807:Int)=IntKind.max .i64:=by decide
 unfold iD keyOf;rw[h1];have b1:IntKind.i64.min<=k.slot/\k.slot<=9223372036854775807:=by rw[e9];exact a1
 have b2:IntKind.i64.min<=k.tok/\k.tok<=9223372036854775807:=by rw[e9];exact a2
 have b4:(⟨⟨k.text⟩⟩:ByteArray).size<=maxLen:=by
  have:(⟨⟨k.text⟩⟩:ByteArray).size=k.text.length:=rfl;rw[this];exact R8 (SJ a4) Vm
 simp[hk,Value.formed,nJ,hn,Program.keyLits,h2,h3,h5,h9,u3,u5,u9,Value.cells,Lit.wf,b1,b2,a3,b4]
theorem Mk{n:Nd}(h:ON n):iD Tryz.prog 240 (nJ n.key):=by
 obtain⟨⟨a,b,c,d,e,g⟩,_⟩:=mH.1 h;exact OR FO H6 He Bg Fw Bm Kw Qn Pe FT (QP d e) (QP b c) (Rl a) g
theorem Je:aP Tryz.prog 107:=⟨_,Tryz.func107,rfl,rfl⟩
theorem z8:aP Tryz.prog 53:=⟨_,Tryz.func53,rfl,rfl⟩
theorem EL:aP Tryz.prog 89:=⟨_,Tryz.func89,rfl,rfl⟩
theorem Mp:aP Tryz.prog 90:=⟨_,Tryz.func90,rfl,rfl⟩
theorem Mz:aP Tryz.prog 91:=⟨_,Tryz.func91,rfl,rfl⟩
theorem My:aP Tryz.prog 92:=⟨_,Tryz.func92,rfl,rfl⟩
theorem LM:aP Tryz.prog 35:=⟨_,Tryz.func35,rfl,rfl⟩
def Ob(P:Program)(T:TypeId)(cs:Array Value):Prop:=P.eqGuardType P.depth T=false/\∀w,(Op.equalIn 10000 T (.agg cs) (.agg cs)).run P w=.ok true w
theorem zH{P:Program}{σ:St}{H:PH}{o:Oper}{T T2:TypeId}{op:BinOp}{x y:Operand}{cs:Array Value}(aa:o.op=.binOp op T x y T2)(ho:op=.eql\/op=.neq)(hx:ev σ x=.v (.agg cs))(hy:ev σ y=.v (.agg cs))(he:Ob P T cs):
  aR σ o.op=true/\∀w,Sub H w->(execOp (bp σ) o).run P w=.ok (.value (.bool (match op with | .neq=>false|_=>true))) w:=by
 constructor
 ·simp[aR,aa,eL,Op.operands,hx,hy,qy]
 ·intro w _;rcases ho with rfl|rfl
  ·simp[execOp,aa,bp,hx,hy,Se,run_eqGuard_agg w .eql T x y cs cs he.1,run_eql_struct,he.2 w,Result.andThen]
  ·simp[execOp,aa,bp,hx,hy,Se,run_eqGuard_agg w .neq T x y cs cs he.1,run_neq_struct,he.2 w,Result.andThen]
theorem LY{C:Cx}{ol:List Oper}{fr:gW}{str:gR}{k:List Item}{σ:St}{H:PH}{i:Nat}{o:Oper}{l:List (Nat×Oper)}{T T2:TypeId}{x y:Operand}{cs:Array Value}(hf:fr.h.contains i=true)(hw:aG ol σ o=some true)(aa:o.op=.binOp .eql T x y T2)(hx:ev σ x=.v (.agg cs))(hy:ev σ y=.v (.agg cs))(he:Ob C.P T cs)(h:RD C ol fr str l k (σ.put o.dst (.v (.bool true))) H):RD C ol fr str ((i,o)::l) k σ H:=by
 obtain⟨q1,q2⟩:=zH (H:=H) aa (.inl rfl) hx hy he;exact rE (.bool true) hf hw q1 (by rw[aa];rfl) q2 h
theorem Lp{C:Cx}{ol:List Oper}{fr:gW}{str:gR}{k:List Item}{σ:St}{H:PH}{i:Nat}{o:Oper}{l:List (Nat×Oper)}{T T2:TypeId}{x y:Operand}{cs:Array Value}(hf:fr.h.contains i=true)(hw:aG ol σ o=some true)(aa:o.op=.binOp .neq T x y T2)(hx:ev σ x=.v (.agg cs))(hy:ev σ y=.v (.agg cs))(he:Ob C.P T cs)(h:RD C ol fr str l k (σ.put o.dst (.v (.bool false))) H):RD C ol fr str ((i,o)::l) k σ H:=by
 obtain⟨q1,q2⟩:=zH (H:=H) aa (.inr rfl) hx hy he;exact rE (.bool false) hf hw q1 (by rw[aa];rfl) q2 h
theorem Lo(a b c:Int):Ob Tryz.prog 181 #[.int .i64 a,.int .i64 b,.int .i64 c]:=by
 refine⟨by kernel_rfl,fun w=>?_⟩;have hS:Tryz.prog.underlying 181=some (.struct (Tryz.prog.fieldsOf 181)):=by kernel_rfl
 have hp:Tryz.prog.stoodInHeld 181=false:=by kernel_rfl
 have hf:(Tryz.prog.fieldsOf 181).toList=[⟨ "Var",3,0,false,"","",0⟩,⟨ "Low",3,1,false,"","",8⟩,⟨ "High",3,2,false,"","",16⟩]:=by unfold Program.fieldsOf;rw[Fq]
 have p0:(part 3 #[.int .i64 a,.int .i64 b,.int .i64 c] 0).run Tryz.prog w=.ok (.int .i64 a) w:=gS (by unfold eD;rw[mF];rfl);have p1:(part 3 #[.int .i64 a,.int .i64 b,.int .i64 c] 1).run Tryz.prog w=.ok (.int .i64 b) w:=gS (by unfold eD;rw[mF];rfl);have p2:(part 3 #[.int .i64 a,.int .i64 b,.int .i64 c] 2).run Tryz.prog w=.ok (.int .i64 c) w:=gS (by unfold eD;rw[mF];rfl);rw[show (10000:Nat)=9998+1+1 from rfl,run_equalIn_agg w (9998+1) 181 _ _ hS hp,hf];simp[Op.eqFields,Se,p0,p1,p2,Result.andThen,run_equalIn_int w 9998 3 .i64 .i64 _ _ Kw]
theorem Mo(k:nL):Ob Tryz.prog 240 #[.int .i64 k.slot,.int .i64 k.tok,.int .u8 k.kind,.string ⟨⟨k.text⟩⟩]:=by
 refine⟨by kernel_rfl,fun w=>?_⟩;have hS:Tryz.prog.underlying 240=some (.struct (Tryz.prog.fieldsOf 240)):=by kernel_rfl
 have hp:Tryz.prog.stoodInHeld 240=false:=by kernel_rfl
 have hf:(Tryz.prog.fieldsOf 240).toList=[⟨ "slot",3,0,false,"","motley/syntax",0⟩,⟨ "tok",3,1,false,"","motley/syntax",8⟩,⟨ "kind",5,2,false,"","motley/syntax",16⟩,⟨ "text",9,3,false,"","motley/syntax",24⟩]:=by unfold Program.fieldsOf;rw[FO]
 have p0:(part 3 #[.int .i64 k.slot,.int .i64 k.tok,.int .u8 k.kind,.string ⟨⟨k.text⟩⟩] 0).run Tryz.prog w=.ok (.int .i64 k.slot) w:=gS (by unfold eD;rw[mF];rfl);have p1:(part 3 #[.int .i64 k.slot,.int .i64 k.tok,.int .u8 k.kind,.string ⟨⟨k.text⟩⟩] 1).run Tryz.prog w=.ok (.int .i64 k.tok) w:=gS (by unfold eD;rw[mF];rfl);have p2:(part 5 #[.int .i64 k.slot,.int .i64 k.tok,.int .u8 k.kind,.string ⟨⟨k.text⟩⟩] 2).run Tryz.prog w=.ok (.int .u8 k.kind) w:=gS (by unfold eD;rw[MR];rfl);have p3:(part 9 #[.int .i64 k.slot,.int .i64 k.tok,.int .u8 k.kind,.string ⟨⟨k.text⟩⟩] 3).run Tryz.prog w=.ok (.string ⟨⟨k.text⟩⟩) w:=gS (by unfold eD;rw[rz];rfl);rw[show (10000:Nat)=9998+1+1 from rfl,run_equalIn_agg w (9998+1) 240 _ _ hS hp,hf];simp[Op.eqFields,Se,p0,p1,p2,p3,Result.andThen,run_equalIn_int w 9998 3 .i64 .i64 _ _ Kw,run_equalIn_int w 9998 5 .u8 .u8 _ _ Qn,run_equalIn_string w 9998 9 _ _ Pe]
def JG(v1 v2:Value)(n i:Nat):St:=⟨dn 26 [(0,.v v1),(1,.v v2),(11,.v v1),(12,.v (iv n)),(13,.v (iv i))],[]⟩
theorem HW{H:PH}{v1 v2:Value}{ts:List T}(h1:pS H v1 ts)(h2:pS H v2 ts)(hl:ts.length<2^40):bv Tryz.prog 107 #[v1,v2] H fun r H2=>r=.bool true/\H2=H:=by
 obtain⟨a1,c1,rfl,g1⟩:=h1;obtain⟨a2,c2,rfl,g2⟩:=h2;refine ir 26 Tryz.func107 fun w0=>?_;have h0:((ts.length:Int) != (ts.length:Int))=false:=by simp
 apply RG;simp only[go_sem,h0];refine aB (fun x=>ts.length-x) (JG (.slice a1 ts.length c1) (.slice a2 ts.length c2) ts.length) (fun i H2=>H2=H/\i<=ts.length) 0 Uo (by simp only[go_sem,Tq,JG]) ⟨rfl,S6 _⟩ ?_;rintro i H2 ⟨rfl,hi⟩ aa;simp only[JG];rcases Sw i ts.length with ac|am
 ·have aj:decide ((i:Int)<(ts.length:Int))=true:=Uh Vi;have e1:IntKind.i64.wrap ((i:Int)+1)=((i+1:Nat):Int):=by rw[<-wrap64 (n:=i+1) Vi];congr 1
  obtain⟨t,ht⟩:∃t,ts[i]?=some t:=⟨_,SC ac⟩;have ak:(BD ts).length=ts.length*3:=oG _;have ld:∀{a:Option Addr},(ts=[]\/∃b,a=some ⟨b,0,none⟩/\aQ H2 b 0 (BD ts))->∃b,a=some ⟨b,0,none⟩/\aQ H2 b (i*3) (lm (T.dec ts t)):=by
   rintro a (h|⟨b,e,h⟩)
   ·rw[h]at ac;simp at ac
   ·have hc:=h.sub (i*3) 3 Vi;rw[oJ ht,Sf]at hc;exact⟨b,e,hc⟩
  obtain⟨b1,rfl,l1⟩:=ld g1;obtain⟨b2,rfl,l2⟩:=ld g2;apply RG;simp only[go_sem,iv,aj];refine V8 [0,1,2,3,4,5,6,7,8] [3,7,8] [] ?_;refine Ur ?_
  try refine⟨Vi,?_⟩
  refine P7 (l:=lm (T.dec ts t)) (v:=fG (T.dec ts t)) rfl (by simpa using l1) (.inl ⟨ti,rfl⟩) ?_;apply af;simp only[go_sem,iv,fG]
  try refine⟨Vi,?_⟩
  refine P7 (l:=lm (T.dec ts t)) (v:=fG (T.dec ts t)) rfl (by simpa using l2) (.inl ⟨ti,rfl⟩) ?_;apply af;simp only[go_sem,iv,fG];refine Lp rfl rfl rfl rfl rfl (Lo (T.dec ts t).1 (T.dec ts t).2.1 (T.dec ts t).2.2) ?_;refine Ur ?_;refine aw ?_;apply RG;simp only[go_sem,iv,e1];exact aa (i+1) _ _ Vi Uo (by simp only[go_sem,Tq,JG]) ⟨rfl,ac⟩
 ·have:i=ts.length:=by omega
  subst this;have aj:=Z6 ts.length;apply RG;simp only[go_sem,iv,aj];exact aK (r:=[_]) rfl ⟨rfl,rfl⟩
theorem DK{t:T}(h:t.ok 0):(T.subs t).length+1<=2^24:=by
 obtain⟨us,e1,e2,_⟩:=(T.vis_spec t h Vi [] T.Seq.nil).2.2;rw[SU]at e1;show (t.vis []).length+1<=_;rw[e1];exact e2
theorem Bn{H:PH}{v1 v2:Value}{t:T}(h1:cu H v1 t)(h2:cu H v2 t):bv Tryz.prog 53 #[v1,v2] H fun r H2=>r=.bool true/\H2=H:=by
 have hl:=DK h1.1;obtain⟨_,s1,rfl,g1⟩:=h1;obtain⟨_,s2,rfl,g2⟩:=h2;obtain⟨a1,c1,rfl,_⟩:=id g1;obtain⟨a2,c2,rfl,_⟩:=id g2;refine ir 17 Tryz.func53 fun w0=>?_
 try simp only[iv]
 refine Un ?_;refine Pf rfl Je (HW g1 g2 Vi) fun v H2 hv=>?_;obtain⟨rfl,rfl⟩:=hv;refine Un ?_;exact aK (r:=[_]) rfl ⟨rfl,rfl⟩
def KE(v1 v2 vf:Value)(n i:Nat):St:=⟨dn 32 [(0,.v v1),(1,.v v2),(2,.v vf),(15,.v v1),(16,.v (iv n)),(17,.v (iv i))],[]⟩
theorem Nz:∀(m:Nat) {I:PH} {v1 v2:Value} {l:List Nd},cK l<m->cK l<=aF->db I v1 l->db I v2 l->aO Tryz.prog 89 #[v1,v2,.func (.func 90) #[] #[]] I [] fun r I2 qs=>qs=[]/\r=.bool true:=by
 intro m
 induction m with
 |zero=>intro I v1 v2 l h;omega
 |succ m ih=>
 intro I v1 v2 l hm hz h1 h2 hd;obtain⟨a1,c1,rfl,_⟩:=id h1;obtain⟨a2,c2,rfl,_⟩:=id h2;have b4:=gw l;unfold aF at hz;have h0:((l.length:Int) != (l.length:Int))=false:=by simp
 have sameN:∀{J:PH} {cx cy:List Value} {n:Nd},n∈l->aW J cx n->aW J cy n->aO Tryz.prog 90 #[.agg cx.toArray,.agg cy.toArray] J [] fun r I2 qs=>qs=[]/\r=.bool true:=by
  intro J cx cy n hn hx hy hd;have b3:=oE hn;obtain⟨vk,xa,xk,rfl,a5,ap,_⟩:=hx.shape;obtain⟨wk,ya,yk,rfl,a4,ao,_⟩:=hy.shape;obtain⟨ka,kc,rfl,_⟩:=id ap;obtain⟨la,lc,rfl,_⟩:=id ao;refine ir 24 Tryz.func90 fun w0=>?_
  try simp only[iv,sD,rD]
  refine Un ?_;refine V8 [0,2,1,3,4,5,6,7,8,9,10,11,12,13,14,15,16,17,18,19] [4] [] ?_;refine Ut ?_;refine IR hd rfl oB (bv.keep (yz n.kind n.tok n.slot _ n.text ka xa n.kids.length kc (T.subs n.cond).length xk _)) fun v J2 qs ak aa hq=>?_;obtain⟨rfl,rfl⟩:=hq;refine Ut ?_;refine IR ak rfl oB (bv.keep (yz n.kind n.tok n.slot _ n.text la ya n.kids.length lc (T.subs n.cond).length yk _)) fun v J3 qs a0 aj hq=>?_;obtain⟨rfl,rfl⟩:=hq;refine Ut ?_;refine LY rfl rfl rfl rfl rfl (Mo n.key) ?_;have am:=Ui aa aj;refine Ut ?_;refine IR a0 rfl z8 (bv.keep (Bn (a5.le am) (a4.le am))) fun v J4 qs bd ac hq=>?_;obtain⟨rfl,rfl⟩:=hq;refine Ut ?_;refine IR bd rfl EL (ih (l:=n.kids) Vi (by unfold aF;omega) (db.le ap (Ui am ac)) (db.le ao (Ui am ac))) fun v J5 qs bc aS hq=>?_;obtain⟨rfl,rfl⟩:=hq;refine Ut ?_;refine aw ?_;refine Un ?_;exact ai rfl bc (r:=[_]) rfl (Ui am (Ui ac aS)) ⟨rfl,rfl⟩
 refine ir 32 Tryz.func89 fun w0=>?_;apply RG;simp only[go_sem,h0];refine aB (fun x=>l.length-x) (KE (.slice a1 l.length c1) (.slice a2 l.length c2) (.func (.func 90) #[] #[]) l.length) (fun i H2=>∃I2,H2=U [I2]/\Dj [I2]/\I.le I2/\i<=l.length) 0 Uo (by simp only[go_sem,Tq,KE]) ⟨I,rfl,hd,Uj _,S6 _⟩ ?_;rintro i H2 ⟨I2,rfl,ak,aa,hi⟩ an;simp only[KE];rcases Sw i l.length with a6|b5
 ·have a3:decide ((i:Int)<(l.length:Int))=true:=Uh Vi;have e1:IntKind.i64.wrap ((i:Int)+1)=((i+1:Nat):Int):=by rw[<-wrap64 (n:=i+1) Vi];congr 1
  obtain⟨n,hn⟩:∃n,l[i]?=some n:=⟨_,SC a6⟩;obtain⟨b1,o1,cx,rfl,a9,bb⟩:=Sl.load aW.len (db.le h1 aa) hn;obtain⟨b2,o2,cy,rfl,a7,ba⟩:=Sl.load aW.len (db.le h2 aa) hn;obtain⟨vk,xa,xk,rfl,a5,ap,b0⟩:=a9.shape;obtain⟨wk,ya,yk,rfl,a4,ao,bx⟩:=a7.shape;obtain⟨ka,kc,rfl,_⟩:=id ap;obtain⟨la,lc,rfl,_⟩:=id ao;apply RG;simp only[go_sem,iv,a3]
  try refine⟨Vi,?_⟩
  refine Qz (l:=[.int .u8 n.kind,.string ⟨⟨n.text⟩⟩,.int .i64 n.tok,.int .i64 n.slot,.slice ka n.kids.length kc,sD xa xk n.cond,rD n.cond]) (v:=.agg #[.int .u8 n.kind,.string ⟨⟨n.text⟩⟩,.int .i64 n.tok,.int .i64 n.slot,.slice ka n.kids.length kc,sD xa xk n.cond,rD n.cond]) rfl (cellsU ak (.head _) bb) (.inl ⟨bT,rfl⟩) ?_;refine Uv ?_
  try refine⟨Vi,?_⟩
  refine Qz (l:=[.int .u8 n.kind,.string ⟨⟨n.text⟩⟩,.int .i64 n.tok,.int .i64 n.slot,.slice la n.kids.length lc,sD ya yk n.cond,rD n.cond]) (v:=.agg #[.int .u8 n.kind,.string ⟨⟨n.text⟩⟩,.int .i64 n.tok,.int .i64 n.slot,.slice la n.kids.length lc,sD ya yk n.cond,rD n.cond]) rfl (cellsU ak (.head _) ba) (.inl ⟨bT,rfl⟩) ?_;refine Uv ?_;refine V7 ak rfl Mp (sameN (Tg hn) a9 a7) fun v I3 qs a0 aj hq=>?_;obtain⟨rfl,rfl⟩:=hq;apply RG;simp only[go_sem,iv,sD,rD,e1];exact an (i+1) _ _ Vi Uo (by simp only[go_sem,Tq,KE]) ⟨I3,rfl,a0,Ui aa aj,a6⟩
 ·have:i=l.length:=by omega
  subst this;have a3:=Z6 l.length;apply RG;simp only[go_sem,iv,a3];exact ai rfl ak (r:=[_]) rfl aa ⟨rfl,rfl⟩
theorem HH{J:PH}{cx cy:List Value}{d:bX}(hx:dg J cx d)(hy:dg J cy d):aO Tryz.prog 92 #[.agg cx.toArray,.agg cy.toArray] J [] fun r I2 qs=>qs=[]/\r=.bool true:=by
 intro hd;obtain⟨xa,xk,rfl,ak⟩:=id hx;obtain⟨ya,yk,rfl,aj⟩:=id hy;refine ir 16 Tryz.func92 fun w0=>?_
 try simp only[iv,sD,rD]
 refine Un ?_;refine V7 hd rfl AV (wh hx hy) fun v J2 qs an aa hq=>?_;obtain⟨rfl,rfl⟩:=hq;have hz:(uU d d == 0)=true:=by rw[yT];simp
 apply RG;simp only[go_sem,hz];refine V7 an rfl z8 (bv.keep (Bn (ak.le aa) (aj.le aa))) fun v J3 qs am ac hq=>?_;obtain⟨rfl,rfl⟩:=hq;apply RG;simp only[go_sem,hz];exact ai rfl am (r:=[_]) rfl (Ui aa ac) ⟨rfl,rfl⟩
theorem Nt{I:PH}{v1 v2:Value}{l:List bX}(hz:l.length<=aF)(h1:Sl dg I v1 l)(h2:Sl dg I v2 l):aO Tryz.prog 91 #[v1,v2,.func (.func 92) #[] #[]] I [] fun r I2 qs=>qs=[]/\r=.bool true:=by
 intro hd;obtain⟨a1,c1,rfl,_⟩:=id h1;obtain⟨a2,c2,rfl,_⟩:=id h2;unfold aF at hz;have h0:((l.length:Int) != (l.length:Int))=false:=by simp
 refine ir 32 Tryz.func91 fun w0=>?_;apply RG;simp only[go_sem,h0];refine aB (fun x=>l.length-x) (KE (.slice a1 l.length c1) (.slice a2 l.length c2) (.func (.func 92) #[] #[]) l.length) (fun i H2=>∃I2,H2=U [I2]/\Dj [I2]/\I.le I2/\i<=l.length) 0 Uo (by simp only[go_sem,Tq,KE]) ⟨I,rfl,hd,Uj _,S6 _⟩ ?_;rintro i H2 ⟨I2,rfl,aj,aa,hi⟩ ac;simp only[KE];rcases Sw i l.length with an|a6
 ·have am:decide ((i:Int)<(l.length:Int))=true:=Uh Vi;have e1:IntKind.i64.wrap ((i:Int)+1)=((i+1:Nat):Int):=by rw[<-wrap64 (n:=i+1) Vi];congr 1
  obtain⟨n,hn⟩:∃n,l[i]?=some n:=⟨_,SC an⟩;obtain⟨b1,o1,cx,rfl,ap,a0⟩:=Sl.load dg.len (SlE.le h1 aa) hn;obtain⟨b2,o2,cy,rfl,ao,aS⟩:=Sl.load dg.len (SlE.le h2 aa) hn;obtain⟨xa,xk,rfl,a5⟩:=id ap;obtain⟨ya,yk,rfl,a4⟩:=id ao;apply RG;simp only[go_sem,iv,am]
  try refine⟨Vi,?_⟩
  refine Qz (l:=[.int .u8 n.code,.int .i64 n.tok,sD xa xk n.cond,rD n.cond]) (v:=.agg #[.int .u8 n.code,.int .i64 n.tok,sD xa xk n.cond,rD n.cond]) rfl (cellsU aj (.head _) a0) (.inl ⟨iQ,rfl⟩) ?_;refine Uv ?_
  try refine⟨Vi,?_⟩
  refine Qz (l:=[.int .u8 n.code,.int .i64 n.tok,sD ya yk n.cond,rD n.cond]) (v:=.agg #[.int .u8 n.code,.int .i64 n.tok,sD ya yk n.cond,rD n.cond]) rfl (cellsU aj (.head _) aS) (.inl ⟨iQ,rfl⟩) ?_;refine Uv ?_;refine V7 aj rfl My (HH ap ao) fun v I3 qs a3 ak hq=>?_;obtain⟨rfl,rfl⟩:=hq;apply RG;simp only[go_sem,iv,sD,rD,e1];exact ac (i+1) _ _ Vi Uo (by simp only[go_sem,Tq,KE]) ⟨I3,rfl,a3,Ui aa ak,an⟩
 ·have:i=l.length:=by omega
  subst this;have am:=Z6 l.length;apply RG;simp only[go_sem,iv,am];exact ai rfl aj (r:=[_]) rfl aa ⟨rfl,rfl⟩
theorem K1{I:PH}{v1 v2:Value}{t:Tr}(h1:zW I v1 t)(h2:zW I v2 t)(hz:cK t.kids<=aF)(ao:t.diags.length<=aF):aO Tryz.prog 35 #[v1,v2] I [] fun r I2 qs=>qs=[]/\r=.bool true:=by
 obtain⟨k1,d1,rfl,am,_,an,_⟩:=h1;obtain⟨k2,d2,rfl,ak,_,ac,_⟩:=h2;obtain⟨ka,kc,rfl,_⟩:=id am;obtain⟨la,lc,rfl,_⟩:=id ak;obtain⟨da,dc,rfl,_⟩:=id an;obtain⟨ea,ec,rfl,_⟩:=id ac;intro hd;refine ir 17 Tryz.func35 fun w0=>?_;refine Un ?_;refine V7 hd rfl EL (Nz (cK t.kids+1) (Tv _) hz am ak) fun v I2 qs aS aa hq=>?_;obtain⟨rfl,rfl⟩:=hq;refine Un ?_;refine V7 aS rfl Mz (Nt ao (SlE.le an aa) (SlE.le ac aa)) fun v I3 qs ap aj hq=>?_;obtain⟨rfl,rfl⟩:=hq;refine Un ?_;exact ai rfl ap (r:=[_]) rfl (Ui aa aj) ⟨rfl,rfl⟩
theorem Ab:aP Tryz.prog 23:=⟨_,Tryz.func23,rfl,rfl⟩
theorem FF:aP Tryz.prog 34:=⟨_,Tryz.func34,rfl,rfl⟩
theorem FU:aP Tryz.prog 63:=⟨_,Tryz.func63,rfl,rfl⟩
theorem Lj:aP Tryz.prog 64:=⟨_,Tryz.func64,rfl,rfl⟩
theorem LI:aP Tryz.prog 21:=⟨_,Tryz.func21,rfl,rfl⟩
theorem Hp:aP Tryz.prog 25:=⟨_,Tryz.func25,rfl,rfl⟩
theorem Ct:aP Tryz.prog 69:=⟨_,Tryz.func69,rfl,rfl⟩
def tz(_:PH)(c:List Value)(x:Nat×Nat):Prop:=c=[.int .u32 x.1,.int .u32 x.2]/\x.1<2^32/\x.2<2^32
abbrev uj(I:PH)(v:Value)(l:List (Nat×Nat)):Prop:=Sl tz I v l
theorem tz.len{I:PH}(c:List Value)(x:Nat×Nat)(h:tz I c x):c.length=2:=by rw[h.1];rfl
theorem uj.le{I J:PH}{v:Value}{l:List (Nat×Nat)}(h:uj I v l)(k:I.le J):uj J v l:=Sl.le (R:=tz) (fun{I J c a} h k=>h) h k
def JS(v:Value)(x:Nat×Option Addr×Nat×T):St:=⟨dn 26 [(0,.v v),(2,.p 2 0),(3,.p 3 0),(4,.v (iv x.1))],[⟨2,50,[.slice none 0 0,.int .i64 0]⟩,⟨3,50,[sD x.2.1 x.2.2.1 x.2.2.2,rD x.2.2.2]⟩]⟩
def PA(l:List (Nat×Nat))(I0:PH)(x:Nat×Option Addr×Nat×T)(H:PH):Prop:=∃I,H=U [I]/\Dj [I]/\I0.le I/\x.1<=l.length/\x.2.2.2=jO (l.take x.1)/\cu I (.agg #[sD x.2.1 x.2.2.1 x.2.2.2,rD x.2.2.2]) x.2.2.2
theorem i8{α:Type}{l:List α}{i:Nat}{n:α}(h:l[i]?=some n):l.take (i+1)=l.take i++[n]:=by
 rw[List.take_add_one,h];rfl
theorem Gv{I:PH}{v:Value}{l:List (Nat×Nat)}(hS:uj I v l)(hl:l.length<2^60):aO Tryz.prog 23 #[v] I [] fun r I2 qs=>qs=[]/\cu I2 r (jO l):=by
 obtain⟨va,vc,rfl,_⟩:=id hS;intro hd;refine ir 26 Tryz.func23 fun w0=>?_;refine Un ?_;refine Pf rfl sV (oH _) fun v H2 hv=>?_;obtain⟨rfl,rfl⟩:=hv;refine Uq ?_;refine aB (fun x=>l.length-x.1) (JS (.slice va l.length vc)) (PA l I) (0,none,0,.lf false) Uo (by simp only[go_sem,Tq,JS,sD,rD,iv,T.subs,T.vis,T.plc,S9,Tp,Si]) ?_ ?_
 ·exact⟨I,rfl,hd,Uj _,S6 _,rfl,jP I false⟩
 rintro⟨i,da,dk,d⟩ H ⟨I1,rfl,an,ac,hi,am,hr⟩ aj;simp only at hi am hr;simp only[JS];rcases Sw i l.length with aS|a3
 ·have h9:decide ((i:Int)<(l.length:Int))=true:=Uh Vi;have e1:IntKind.i64.wrap ((i:Int)+1)=((i+1:Nat):Int):=by rw[<-wrap64 (n:=i+1) Vi];congr 1
  obtain⟨x,hx⟩:∃x,l[i]?=some x:=⟨_,SC aS⟩;obtain⟨b,off,cs,rfl,⟨rfl,x1,x2⟩,aa⟩:=Sl.load (fun{I} c a h=>tz.len (I:=I) c a h) (uj.le hS ac) hx;have c0:=aa.get (i:=0) rfl;have c1:=aa.get (i:=1) rfl;apply RG;simp only[go_sem,iv,h9];refine V8 [0,1,2,3,4,5,6,7,8,9,10,11,12,13] [5,10] [] ?_;refine Ut ?_
  try refine⟨Vi,?_⟩
  refine P7 (l:=[.int .u32 x.1]) rfl (cellsU an (.head _) (by simpa using c0)) (.inr ⟨qZ,rfl⟩) ?_;refine Ut ?_
  try refine⟨Vi,?_⟩
  refine P7 (l:=[.int .u32 x.2]) rfl (cellsU an (.head _) (by simpa using c1)) (.inr ⟨qZ,rfl⟩) ?_;refine Ut ?_;refine IR an rfl Ct (AX x1 x2) fun v1 I2 qs a2 ak hq=>?_;obtain⟨rfl,a0⟩:=hq;obtain⟨za,zk,rfl⟩:=a0.shape2;refine Ut ?_;refine IR a2 rfl sQ (G1 (hr.le ak) a0) fun v2 I3 qs a1 ao hq=>?_;obtain⟨rfl,ap⟩:=hq;obtain⟨ya,yk,rfl⟩:=ap.shape2;refine Ut ?_;refine aw ?_;apply RG;simp only[go_sem,iv,e1];refine aj (i+1,ya,yk,d.or (gL x.1 x.2)) _ _ V9 Uo (by simp only[go_sem,Tq,JS,sD,rD,iv]) ⟨I3,rfl,a1,Ui ac (Ui ak ao),aS,?_,ap⟩;simp only;rw[i8 hx,am];unfold jO;rw[T9];rfl
 ·have:i=l.length:=by omega
  subst this;rw[Td]at am;have h9:=Z6 l.length;apply RG;simp only[go_sem,iv,h9,sD,rD];exact ai rfl an (r:=[.agg #[sD da dk d,rD d]]) (by simp only[Tryz.results23,go_sem,iv,sD,rD]) ac ⟨rfl,by rw[<-am];exact hr⟩
def GZ(v:Value)(c:Nat)(i:Nat):St:=⟨dn 38 [(0,.v v),(1,.v (.int .u32 c)),(5,.v (iv i))],[]⟩
theorem NG{H:PH}{v:Value}{l:List (Nat×Nat)}{c:Nat}(hS:uj H v l)(hl:l.length<2^60)(hc:c<2^32):bv Tryz.prog 34 #[v,.int .u32 c] H fun r H2=>r=.bool (KF l c)/\H2=H:=by
 obtain⟨va,vc,rfl,_⟩:=id hS;refine ir 38 Tryz.func34 fun w0=>?_;refine Un ?_;refine aB (fun x=>l.length-x) (GZ (.slice va l.length vc) c) (fun i H2=>H2=H/\i<=l.length/\KF l c=(l.drop i).any (EF c)) 0 Uo (by simp only[go_sem,Tq,GZ]) ⟨rfl,S6 _,rfl⟩ ?_;rintro i H2 ⟨rfl,hi,ha⟩ aa;simp only[GZ];rcases Sw i l.length with aj|an
 ·have h9:decide ((i:Int)<(l.length:Int))=true:=Uh Vi;have e1:IntKind.i64.wrap ((i:Int)+1)=((i+1:Nat):Int):=by rw[<-wrap64 (n:=i+1) Vi];congr 1
  obtain⟨x,hx⟩:∃x,l[i]?=some x:=⟨_,SC aj⟩;obtain⟨b,off,cs,rfl,⟨rfl,x1,x2⟩,ac⟩:=Sl.load (fun{I} c a h=>tz.len (I:=I) c a h) hS hx;have c0:=ac.get (i:=0) rfl;have c1:=ac.get (i:=1) rfl;have am:l.drop i=x::l.drop (i+1):=by
   rw[S5 aj];rw[SC aj]at hx;rw[Tk hx]
  rw[am,List.any_cons]at ha;have b1:c&&&x.1<2^32:=TM TN hc;have b2:c&&&x.2<2^32:=TM TN hc;have a1:=jY hc x1;have a2:qN .u32 ((c&&&x.1:Nat):Int) 16777215=(((c&&&x.1)&&&16777215:Nat):Int):=jY b1 Vm;have a3:qN .u32 ((x.1:Nat):Int) 16777215=((x.1&&&16777215:Nat):Int):=jY x1 Vm;have a4:=jY hc x2;have a5:qN .u32 ((c&&&x.2:Nat):Int) 16777215=(((c&&&x.2)&&&16777215:Nat):Int):=jY b2 Vm;have q1:=Ht ((c&&&x.1)&&&16777215) (x.1&&&16777215);have q2:((((c&&&x.2)&&&16777215:Nat):Int) == 0)=decide ((c&&&x.2)&&&16777215=0):=pK _;apply RG;simp only[go_sem,iv,h9];refine V8 [0,1,2,3,4,5,6,7,8,9,10,11,12,13,14,15,16,17,18,19,20,21,22,23,24,25] [5,12,21] [] ?_;refine Ur ?_
  try refine⟨Vi,?_⟩
  refine P7 (l:=[.int .u32 x.1]) rfl (by simpa using c0) (.inr ⟨qZ,rfl⟩) ?_;refine Ur ?_
  try refine⟨Vi,?_⟩
  refine P7 (l:=[.int .u32 x.1]) rfl (by simpa using c0) (.inr ⟨qZ,rfl⟩) ?_;cases h1:decide ((c&&&x.1)&&&16777215=x.1&&&16777215)
  ·rw[h1]at q1;have ak:EF c x=false:=by unfold EF;rw[h1];rfl
   apply af;simp only[go_sem,iv,a1,a2,a3,q1];refine aw ?_;apply RG;simp only[go_sem,iv,e1];exact aa (i+1) _ _ Vi Uo (by simp only[go_sem,Tq,GZ]) ⟨rfl,aj,by rw[ha,ak,TS]⟩
  ·rw[h1]at q1;apply af;simp only[go_sem,iv,a1,a2,a3,q1]
   try refine⟨Vi,?_⟩
   refine P7 (l:=[.int .u32 x.2]) rfl (by simpa using c1) (.inr ⟨qZ,rfl⟩) ?_;cases h2:decide ((c&&&x.2)&&&16777215=0)
   ·rw[h2]at q2;have ak:EF c x=false:=by unfold EF;rw[h2,Bool.and_false]
    apply af;simp only[go_sem,iv,a4,a5,q2];refine aw ?_;apply RG;simp only[go_sem,iv,e1];exact aa (i+1) _ _ Vi Uo (by simp only[go_sem,Tq,GZ]) ⟨rfl,aj,by rw[ha,ak,TS]⟩
   ·rw[h2]at q2;have ak:EF c x=true:=by unfold EF;rw[h1,h2];rfl
    apply af;simp only[go_sem,iv,a4,a5,q2];refine aw ?_;refine Uq ?_;exact aK (r:=[_]) rfl ⟨by rw[ha,ak];rfl,rfl⟩
 ·have:i=l.length:=by omega
  subst this;rw[T4]at ha;have h9:=Z6 l.length;apply RG;simp only[go_sem,iv,h9];exact aK (r:=[_]) rfl ⟨by rw[ha];rfl,rfl⟩
theorem wrap32(z:Int):∃n:Nat,n<2^32/\IntKind.u32.wrap z=(n:Int):=by
 refine⟨(z % 4294967296).toNat,Vi,?_⟩;simp only[IntKind.wrap,show IntKind.bits .u32=32 from rfl,show IntKind.signed .u32=false from rfl];simp;omega
theorem Js(a b:Int):∃n:Nat,n<2^32/\Py .u32 a b=(n:Int):=wrap32 _
def Pk(v:Value)(x:Nat×Nat):St:=⟨dn 26 [(0,.v v),(3,.v (.int .u32 x.2)),(4,.v (iv x.1))],[]⟩
theorem E1{H:PH}{v:Value}{l:List (Nat×Nat)}(hS:uj H v l)(hl:l.length<2^60):bv Tryz.prog 63 #[v] H fun r H2=>(∃u:Nat,u<2^32/\r=.int .u32 u)/\H2=H:=by
 obtain⟨va,vc,rfl,_⟩:=id hS;refine ir 26 Tryz.func63 fun w0=>?_;refine Un ?_;refine aB (fun x=>l.length-x.1) (Pk (.slice va l.length vc)) (fun x H2=>H2=H/\x.1<=l.length/\x.2<2^32) (0,0) Uo (by simp only[go_sem,Tq,Pk]) ⟨rfl,S6 _,by decide⟩ ?_;rintro⟨i,u⟩ H2 ⟨rfl,hi,hu⟩ ac;simp only at hi hu;simp only[Pk];rcases Sw i l.length with aj|an
 ·have h9:decide ((i:Int)<(l.length:Int))=true:=Uh Vi;have e1:IntKind.i64.wrap ((i:Int)+1)=((i+1:Nat):Int):=by rw[<-wrap64 (n:=i+1) Vi];congr 1
  obtain⟨x,hx⟩:∃x,l[i]?=some x:=⟨_,SC aj⟩;obtain⟨b,off,cs,rfl,⟨rfl,x1,x2⟩,aa⟩:=Sl.load (fun{I} c a h=>tz.len (I:=I) c a h) hS hx;have c0:=aa.get (i:=0) rfl;have c1:=aa.get (i:=1) rfl;obtain⟨n1,am,q1⟩:=Js (u:Int) (x.1:Int);obtain⟨n2,ak,q2⟩:=Js (n1:Int) (x.2:Int);apply RG;simp only[go_sem,iv,h9];refine V8 [0,1,2,3,4,5,6,7,8,9,10,11,12,13] [5,11] [] ?_;refine Ur ?_
  try refine⟨Vi,?_⟩
  refine P7 (l:=[.int .u32 x.1]) rfl (by simpa using c0) (.inr ⟨qZ,rfl⟩) ?_;apply af;simp only[go_sem,iv,q1]
  try refine⟨Vi,?_⟩
  refine P7 (l:=[.int .u32 x.2]) rfl (by simpa using c1) (.inr ⟨qZ,rfl⟩) ?_;apply af;simp only[go_sem,iv,q2];refine aw ?_;apply RG;simp only[go_sem,iv,e1];exact ac (i+1,n2) _ _ V9 Uo (by simp only[go_sem,Tq,Pk]) ⟨rfl,aj,ak⟩
 ·have:i=l.length:=by omega
  subst this;have h9:=Z6 l.length;have a1:qN .u32 (u:Int) 16777215=((u&&&16777215:Nat):Int):=jY hu Vm;apply RG;simp only[go_sem,iv,h9,a1];exact aK (r:=[_]) rfl ⟨⟨_,TM TN hu,rfl⟩,rfl⟩
def pM(u:Nat):Nat->Nat
 |0=>0
 |i+1=>pM u i+(u.testBit i).toNat
theorem AO(u:Nat):∀i,pM u i<=i
 |0=>R7 _
 |i+1=>by
  have:=AO u i;show pM u i+(u.testBit i).toNat<=i+1;cases u.testBit i<;>simp<;>omega
theorem Hl(u:Nat){i j:Nat}(h:i<=j):pM u i<=pM u j:=by
 induction h with
 |refl=>exact R7 _
 |step _ ih=>exact R8 ih (Nat.le_add_right _ _)
theorem Qq(u i:Nat):(u >>> i)&&&1=(u.testBit i).toNat:=by
 rw[Nat.and_one_is_mod,Nat.testBit_eq_decide_div_mod_eq,TO];have:=Nat.mod_two_eq_zero_or_one (u / 2^i);rcases this with h|h<;>simp[h]
theorem Oo{u i:Nat}(hu:u<2^32)(hi:i<=32):qN .u32 (qj .u32 (u:Int) (i:Int)) 1=(((u.testBit i).toNat:Nat):Int):=by
 rw[Cy hi,<-Qq];exact jY (b:=1) (vX hu) Vm
def Pt(u most:Nat)(i:Nat):St:=⟨dn 21 [(0,.v (.int .u32 u)),(1,.v (iv most)),(5,.v (iv (pM u i))),(6,.v (iv i))],[]⟩
theorem O1{H:PH}{u most:Nat}(hu:u<2^32):bv Tryz.prog 64 #[.int .u32 u,iv most] H fun r H2=>r=.bool (decide (pM u 32<=most))/\H2=H:=by
 refine ir 21 Tryz.func64 fun w0=>?_
 try simp only[iv]
 refine Un ?_;refine aB (fun x=>32-x) (Pt u most) (fun i H2=>H2=H/\i<=32) 0 (ae (by simp only[go_sem,Tq,iv,pM])) (by simp only[go_sem,Tq,Pt]) ⟨rfl,S6 _⟩ ?_;rintro i H2 ⟨rfl,hi⟩ aa;simp only[Pt];have hp:=AO u i;rcases Sw i 32 with ac|ak
 ·have h8:decide ((i:Int)<32)=true:=Uh Vi;have e1:IntKind.i64.wrap ((i:Int)+1)=((i+1:Nat):Int):=by rw[<-wrap64 (n:=i+1) Vi];congr 1
  have a1:=Oo hu (i:=i) Vi;have b2:(u.testBit i).toNat<=1:=by cases u.testBit i<;>simp
  have w1:IntKind.i64.wrap (((u.testBit i).toNat:Nat):Int)=(((u.testBit i).toNat:Nat):Int):=wrap64 Vi;have w2:IntKind.i64.wrap ((pM u i:Int)+(((u.testBit i).toNat:Nat):Int))=((pM u (i+1):Nat):Int):=by
   have e:(pM u i:Int)+(((u.testBit i).toNat:Nat):Int)=((pM u (i+1):Nat):Int):=by
    show _=(((pM u i+(u.testBit i).toNat:Nat)):Int);omega
   rw[e];exact wrap64 (by have:=AO u (i+1);omega)
  apply RG;simp only[go_sem,iv,h8,TP,a1,w1,w2,e1];exact aa (i+1) _ _ Vi Uo (by simp only[go_sem,Tq,Pt]) ⟨rfl,ac⟩
 ·have:i=32:=by omega
  subst this;have aj:decide ((pM u 32:Int)<=(most:Int))=decide (pM u 32<=most):=by
   rw[Bool.eq_iff_iff,SX,SX];omega
  apply RG;simp only[go_sem,iv,TJ,aj];exact aK (r:=[_]) rfl ⟨rfl,rfl⟩
end Go.Proofs.YtfaclfkpnmcmlaaGreatDoor
namespace Syn
open Go Go.Sort
variable {α:Type} [Inhabited α] {lt:α->α->Bool}
theorem Me(d:Array α){i j:Nat}(hi:i<d.size)(hj:j<d.size)(k:Nat):(swp d i j)[k]! = if k=j then d[i]! else if k=i then d[j]! else d[k]!:=by
 by_cases h1:k=j
 ·rw[SI h1,h1];exact swp_right d i j hj
 ·rw[Sb h1];by_cases h2:k=i
  ·rw[SI h2,h2];exact swp_left d i j hi (fun e=>h1 (h2.trans e))
  ·rw[Sb h2];exact swp_other d i j k h2 h1
def Gu(a b i:Nat)(d e:Array α):Prop:=∀k,e[k]! = if a<=k/\k<a+i then d[k-a+b]! else if b<=k/\k<b+i then d[k-b+a]! else d[k]!
theorem Gu.zero(a b:Nat)(d:Array α):Gu a b 0 d d:=fun k=>by rw[Sb Vi,Sb Vi]
theorem Gu.step{a b i n:Nat}{d e:Array α}(h:Gu a b i d e)(hs:e.size=d.size)(hi:i<n)(aa:a+n<=b)(hb:b+n<=d.size):Gu a b (i+1) d (swp e (a+i) (b+i)):=fun k=>by
 rw[Me e Vi Vi k,h k,h (a+i),h (b+i)];clear h
 repeat' split
 all_goals first|rfl|(exfalso;omega)|(congr 1;omega)
def xN(m i j:Nat)(c t:Array α):Prop:=∀k,t[k]! = if m-i<=k/\k<m-i+j then c[k+i]! else if m-i+j<=k/\k<m+j then c[k-j]! else c[k]!
theorem xN.left{m i j:Nat}{c c' t:Array α}(h:xN m i j c t)(hs:Gu (m-i) m j c c')(ac:j<i)(aa:i<=m):xN m (i-j) j c' t:=fun k=>by
 rw[h k,hs k,hs (k+(i-j)),hs (k-j)];clear h hs
 repeat' split
 all_goals first|rfl|(exfalso;omega)|(congr 1;omega)
theorem xN.right{m i j:Nat}{c c' t:Array α}(h:xN m i j c t)(hs:Gu (m-i) (m+j-i) i c c')(ac:i<j)(aa:i<=m):xN m i (j-i) c' t:=fun k=>by
 rw[h k,hs k,hs (k+i),hs (k-(j-i))];clear h hs
 repeat' split
 all_goals first|rfl|(exfalso;omega)|(congr 1;omega)
theorem xN.last{m i:Nat}{c c' t:Array α}(h:xN m i i c t)(hs:Gu (m-i) m i c c')(aa:i<=m)(hz:t.size=c'.size):t=c':=by
 have key:∀k,t[k]! = c'[k]!:=fun k=>by
  rw[h k,hs k];clear h hs
  repeat' split
  all_goals first|rfl|(exfalso;omega)|(congr 1;omega)
 refine Array.ext hz fun k h1 h2=>?_;have:=key k
 rwa [getElem!_pos t k h1,getElem!_pos c' k h2]at this
theorem xN.ex(m i j:Nat)(c:Array α)(aa:i<=m)(hj:m+j<=c.size):∃t,t.size=c.size/\xN m i j c t:=by
 refine⟨Array.ofFn (n:=c.size) fun k=>if m-i<=k.1/\k.1<m-i+j then c[k.1+i]! else if m-i+j<=k.1/\k.1<m+j then c[k.1-j]! else c[k.1]!,by simp,fun k=>?_⟩;by_cases hk:k<c.size
 ·rw[getElem!_pos _ k (by simpa using hk)];simp[hk]
 ·rw[getElem!_neg _ k (by simpa using hk),Sb Vi,Sb Vi,getElem!_neg c k hk]
def Kf(a k:Nat)(d e:Array α):Prop:=∀x,e[x]! = if a<=x/\x<k then d[x+1]! else if x=k then d[a]! else d[x]!
theorem Kf.zero(a:Nat)(d:Array α):Kf a a d d:=fun x=>by
 rw[Sb Vi];split
 ·rename_i h;rw[h]
 ·rfl
theorem Kf.step{a k:Nat}{d e:Array α}(h:Kf a k d e)(hs:e.size=d.size)(hk:a<=k)(aa:k+1<d.size):Kf a (k+1) d (swp e k (k+1)):=fun x=>by
 rw[Me e Vi Vi x,h x,h k,h (k+1)];clear h
 repeat' split
 all_goals first|rfl|(exfalso;omega)|(congr 1;omega)
def KZ(m k:Nat)(d e:Array α):Prop:=∀x,e[x]! = if x=k then d[m]! else if k<x/\x<=m then d[x-1]! else d[x]!
theorem KZ.zero(m:Nat)(d:Array α):KZ m m d d:=fun x=>by
 split
 ·rename_i h;rw[h]
 ·rw[Sb Vi]
theorem KZ.step{m k:Nat}{d e:Array α}(h:KZ m (k+1) d e)(hs:e.size=d.size)(hk:k+1<=m)(hm:m<d.size):KZ m k d (swp e (k+1) k):=fun x=>by
 rw[Me e Vi Vi x,h x,h (k+1),h k];clear h
 repeat' split
 all_goals first|rfl|(exfalso;omega)|(congr 1;omega)
section
variable (h:SWO lt)
include h
omit [Inhabited α] in
theorem oV{x y:α}(e:lt x y=true):lt y x=false:=by
 cases aa:lt y x with
 |false=>rfl
 |true=>have:=h.trans _ _ _ e aa;rw[h.irrefl]at this;cases this
theorem La{d e:Array α}{a m b i:Nat}(hm:m=a+1)(hs:SortedIn lt m b d)(aj:m<=i)(ak:i<=b)(hl:i=m\/lt d[i-1]! d[a]! = true)(hr:i=b\/lt d[i]! d[a]! = false)(aa:Kf a (i-1) d e):SortedIn lt a b e:=by
 have lo:∀k,m<=k->k<i->lt d[k]! d[a]! = true:=fun k h1 h2=>by
  rcases hl with e0|e0
  ·omega
  ·by_cases hk:k=i-1
   ·rw[hk];exact e0
   ·cases hc:lt d[k]! d[a]! with
    |true=>rfl
    |false=>
     have:=h.ntrans _ _ _ (hs k (i-1) h1 Vi Vi) hc;rw[e0]at this;cases this
 have hi:∀k,i<=k->k<b->lt d[k]! d[a]! = false:=fun k h1 h2=>by
  rcases hr with e0|e0
  ·omega
  ·by_cases hk:k=i
   ·rw[hk];exact e0
   ·exact h.ntrans _ _ _ (hs i k aj Vi h2) e0
 intro x y hx ac hy;rw[aa x,aa y];by_cases c1:a<=x/\x<i-1
 ·rw[SI c1];by_cases c2:a<=y/\y<i-1
  ·rw[SI c2];exact hs _ _ Vi Vi Vi
  ·rw[Sb c2];by_cases c3:y=i-1
   ·rw[SI c3];exact oV h (lo _ Vi Vi)
   ·rw[Sb c3];exact hs _ _ Vi Vi Vi
 ·rw[Sb c1,Sb (show ¬(a<=y/\y<i-1) by omega)];by_cases c3:x=i-1
  ·rw[SI c3,Sb Vi];exact hi y Vi hy
  ·rw[Sb c3,Sb Vi];exact hs _ _ Vi ac hy
theorem GL{d e:Array α}{a m b i:Nat}(hb:b=m+1)(hs:SortedIn lt a m d)(aj:a<=i)(ak:i<=m)(hl:i=a\/lt d[m]! d[i-1]! = false)(hr:i=m\/lt d[m]! d[i]! = true)(aa:KZ m i d e):SortedIn lt a b e:=by
 have lo:∀k,a<=k->k<i->lt d[m]! d[k]! = false:=fun k h1 h2=>by
  rcases hl with e0|e0
  ·omega
  ·by_cases hk:k=i-1
   ·rw[hk];exact e0
   ·exact h.ntrans _ _ _ e0 (hs k (i-1) h1 Vi Vi)
 have hi:∀k,i<=k->k<m->lt d[k]! d[m]! = false:=fun k h1 h2=>by
  rcases hr with e0|e0
  ·omega
  ·by_cases hk:k=i
   ·rw[hk];exact oV h e0
   ·exact h.ntrans _ _ _ (hs i k aj Vi h2) (oV h e0)
 intro x y hx ac hy;rw[aa x,aa y];by_cases c1:x=i
 ·rw[SI c1,Sb Vi,SI Vi];exact hi _ Vi Vi
 ·rw[Sb c1];by_cases c2:i<x/\x<=m
  ·rw[SI c2,Sb Vi,SI Vi];exact hs _ _ Vi Vi Vi
  ·rw[Sb c2];by_cases c3:y=i
   ·rw[SI c3];exact lo x hx Vi
   ·rw[Sb c3];by_cases c4:i<y/\y<=m
    ·rw[SI c4];exact hs _ _ hx Vi Vi
    ·rw[Sb c4];exact hs _ _ hx ac Vi
theorem Ig{d e:Array α}{a m b s mid:Nat}(a6:a<=m)(a1:m<=b)(hA:SortedIn lt a m d)(hB:SortedIn lt m b d)(am:mid=(a+b) / 2)
  (a0:a<=s) (aS:s<=m) (ap:s<=mid) (a5:m<=mid+m-s) (a4:mid+m-s<=b) (hl:(m>mid->mid+m-s=b\/s=a\/lt d[mid+m-s]! d[s-1]! = false)/\(m<=mid->s=a\/lt d[mid+m-s]! d[s-1]! = false)) (hr:s=(if m>mid then mid else m)\/lt d[mid+m-s-1]! d[s]! = true)
  (ak:xN m (m-s) (mid+m-s-m) d e) :
  SortedIn lt a s e/\SortedIn lt s mid e/\SortedIn lt mid (mid+m-s) e/\SortedIn lt (mid+m-s) b e/\∀i j,a<=i->i<mid->mid<=j->j<b->lt e[j]! e[i]! = false:=by
 have ao:a<s->mid+m-s<b->lt d[mid+m-s]! d[s-1]! = false:=fun h1 h2=>by
  by_cases c:m>mid
  ·rcases hl.1 c with e0|e0|e0
   ·omega
   ·omega
   ·exact e0
  ·rcases hl.2 Vi with e0|e0
   ·omega
   ·exact e0
 have an:m<mid+m-s->s<m->lt d[s]! d[mid+m-s-1]! = false:=fun h1 h2=>by
  rcases hr with e0|e0
  ·split at e0<;>omega
  ·exact oV h e0
 have g:∀k,a<=k->k<b->(k<s/\e[k]! = d[k]!)\/(s<=k/\k<mid/\e[k]! = d[k+(m-s)]!)\/(mid<=k/\k<mid+m-s/\e[k]! = d[k-(mid-s)]!)\/(mid+m-s<=k/\e[k]! = d[k]!):=fun k h1 h2=>by
  have hk:=ak k;by_cases c1:k<s
  ·rw[Sb Vi,Sb Vi]at hk;exact .inl ⟨c1,hk⟩
  ·by_cases c2:k<mid
   ·rw[SI Vi]at hk;exact .inr (.inl ⟨Vi,c2,hk⟩)
   ·by_cases c3:k<mid+m-s
    ·rw[Sb Vi,SI Vi]at hk;exact .inr (.inr (.inl ⟨Vi,c3,by rw[hk];congr 1;omega⟩))
    ·rw[Sb Vi,Sb Vi]at hk;exact .inr (.inr (.inr ⟨Vi,hk⟩))
 refine⟨fun x y hx aa hy=>?_,fun x y hx aa hy=>?_,fun x y hx aa hy=>?_,fun x y hx aa hy=>?_,fun i j ac a3 a2 aj=>?_⟩
 ·rcases g x hx Vi with ⟨_,e1⟩|⟨_,_,e1⟩|⟨_,_,e1⟩|⟨_,e1⟩<;>rcases g y Vi Vi with ⟨_,e2⟩|⟨_,_,e2⟩|⟨_,_,e2⟩|⟨_,e2⟩<;>try omega
  rw[e1,e2];exact hA _ _ hx aa Vi
 ·rcases g x Vi Vi with ⟨_,e1⟩|⟨_,_,e1⟩|⟨_,_,e1⟩|⟨_,e1⟩<;>rcases g y Vi Vi with ⟨_,e2⟩|⟨_,_,e2⟩|⟨_,_,e2⟩|⟨_,e2⟩<;>try omega
  rw[e1,e2];exact hB _ _ Vi Vi Vi
 ·rcases g x Vi Vi with ⟨_,e1⟩|⟨_,_,e1⟩|⟨_,_,e1⟩|⟨_,e1⟩<;>rcases g y Vi Vi with ⟨_,e2⟩|⟨_,_,e2⟩|⟨_,_,e2⟩|⟨_,e2⟩<;>try omega
  rw[e1,e2];exact hA _ _ Vi Vi Vi
 ·rcases g x Vi Vi with ⟨_,e1⟩|⟨_,_,e1⟩|⟨_,_,e1⟩|⟨_,e1⟩<;>rcases g y Vi Vi with ⟨_,e2⟩|⟨_,_,e2⟩|⟨_,_,e2⟩|⟨_,e2⟩<;>try omega
  rw[e1,e2];exact hB _ _ Vi Vi Vi
 ·
  have leB:∀x y,m<=x->x<=y->y<b->lt d[y]! d[x]! = false:=fun x y h1 h2 h3=>by
   rcases Nat.lt_or_eq_of_le h2 with c|c
   ·exact hB x y h1 c h3
   ·rw[c];exact h.irrefl _
  have leA:∀x y,a<=x->x<=y->y<m->lt d[y]! d[x]! = false:=fun x y h1 h2 h3=>by
   rcases Nat.lt_or_eq_of_le h2 with c|c
   ·exact hA x y h1 c h3
   ·rw[c];exact h.irrefl _
  rcases g i ac Vi with ⟨p1,e1⟩|⟨p1,p2,e1⟩|⟨_,_,e1⟩|⟨_,e1⟩<;>rcases g j Vi aj with ⟨_,e2⟩|⟨_,_,e2⟩|⟨q1,q2,e2⟩|⟨q1,e2⟩<;>try omega
  ·rw[e1,e2];exact hA _ _ ac Vi Vi
  ·rw[e1,e2];have f:=ao Vi Vi;exact h.ntrans _ _ _ (leB (mid+m-s) j Vi Vi aj) (h.ntrans _ _ _ f (leA i (s-1) ac Vi Vi))
  ·rw[e1,e2];have f:=an Vi Vi;exact h.ntrans _ _ _ (leA s (j-(mid-s)) Vi Vi Vi) (h.ntrans _ _ _ f (leB (i+(m-s)) (mid+m-s-1) Vi Vi Vi))
  ·rw[e1,e2];exact hB _ _ Vi Vi Vi
omit h in
theorem zu{d1 d2 d3:Array α}{a b mid:Nat}(ac:a<=mid)(aa:mid<=b)(hb:b<=d1.size)(hx:∀i j,a<=i->i<mid->mid<=j->j<b->lt d1[j]! d1[i]! = false)
  (p2:PermIn a mid d1 d2) (s2:SortedIn lt a mid d2) (p3:PermIn mid b d2 d3) (s3:SortedIn lt mid b d3):PermIn a b d1 d3/\SortedIn lt a b d3:=by
 have z2:=p2.1;refine⟨permIn_trans _ _ _ a b (permIn_mono _ _ a mid a b (R7 _) aa hb p2) (permIn_mono _ _ mid b a b ac (R7 _) Vi p3),?_⟩;have x2:∀j,mid<=j->j<b->∀i,a<=i->i<mid->lt d1[j]! d2[i]! = false:=fun j h1 h2=>permIn_all d1 d2 a mid (fun x=>lt d1[j]! x=false) Vi p2 (fun i h3 h4=>hx i j h3 h4 h1 h2);have x3:∀i,a<=i->i<mid->∀j,mid<=j->j<b->lt d3[j]! d2[i]! = false:=fun i h1 h2=>permIn_all d2 d3 mid b (fun y=>lt y d2[i]! = false) Vi p3 (fun j h3 h4=>by rw[p2.2.1 j (.inr h3)];exact x2 j h3 h4 i h1 h2);intro i j h1 h2 h3;by_cases c1:j<mid
 ·rw[p3.2.1 i (.inl Vi),p3.2.1 j (.inl c1)];exact s2 i j h1 h2 c1
 ·by_cases c2:mid<=i
  ·exact s3 i j c2 h2 h3
  ·rw[p3.2.1 i (.inl Vi)];exact x3 i h1 Vi j Vi h3
end
theorem SortedIn.sub{d:Array α}{a b a' b':Nat}(h:SortedIn lt a b d)(h1:a<=a')(h2:b'<=b):SortedIn lt a' b' d:=fun i j x y z=>h i j Vi y Vi
def yD(lt:α->α->Bool)(s x n:Nat)(d:Array α):Prop:=∀i j,x<=i->i<j->j<n->i / s=j / s->lt d[j]! d[i]! = false
def dM(lt:α->α->Bool)(s x:Nat)(d:Array α):Prop:=∀i j,i<j->j<x->i / s=j / s->lt d[j]! d[i]! = false
theorem wK{s q i:Nat}(hs:0<s)(h1:s*q<=i)(h2:i<s*q+s):i / s=q:=by
 refine Nat.div_eq_of_lt_le ?_ ?_
 ·rw[Nat.mul_comm];exact h1
 ·rw[Nat.mul_comm,Nat.mul_add,Nat.mul_one];exact h2
theorem JA{s q i:Nat}(hs:0<s)(h:i / s=q):s*q<=i/\i<s*q+s:=by
 subst h;have h1:=Nat.div_add_mod i s;have h2:=Nat.mod_lt i hs;omega
theorem dM.zero(s:Nat)(d:Array α):dM lt s 0 d:=fun i j _ h=>by omega
theorem dM.step{s q x:Nat}{d e:Array α}(hs:0<s)(h:dM lt s (s*q) d)(hx:x<=s*q+s)(hp:PermIn (s*q) x d e)(ac:SortedIn lt (s*q) x e):dM lt s x e:=fun i j aa hj hd=>by
 by_cases c:j<s*q
 ·rw[hp.2.1 i (.inl Vi),hp.2.1 j (.inl c)];exact h i j aa c hd
 ·have e1:j / s=q:=wK hs Vi Vi;have:=(JA hs (hd.trans e1)).1;exact ac i j this aa hj
theorem dM.all{s n:Nat}{d:Array α}(h:dM lt s n d)(hn:n<=s):SortedIn lt 0 n d:=fun i j _ aa hj=>by
 refine h i j aa hj ?_;rw[Nat.div_eq_of_lt Vi,Nat.div_eq_of_lt Vi]
theorem dM.runs{s n:Nat}{d:Array α}(h:dM lt s n d):yD lt s 0 n d:=fun i j _ aa hj hd=>h i j aa hj hd
theorem yD.at'{s q x n:Nat}{d:Array α}(hs:0<s)(h:yD lt s x n d)(hx:x<=s*q){y:Nat}(hy:y<=s*q+s)(hn:y<=n):SortedIn lt (s*q) y d:=fun i j h1 h2 h3=>
 h i j Vi h2 Vi (by rw[wK hs h1 Vi,wK hs (show s*q<=j by omega) Vi])
theorem yD.keep{s x y n:Nat}{d e:Array α}(h:yD lt s x n d)(aa:x<=y)(hk:∀k,y<=k->e[k]! = d[k]!):yD lt s y n e:=fun i j h1 h2 h3 h4=>by
 rw[hk i h1,hk j Vi];exact h i j Vi h2 h3 h4
theorem dM.rest{s q n:Nat}{d:Array α}(hs:0<s)(h:dM lt s (s*q) d)(h2:SortedIn lt (s*q) n d)(hn:n<=s*q+s):dM lt s n d:=h.step hs hn (permIn_refl _ _ _) h2
end Syn
namespace Go.Proofs.YtfaclfkpnmcmlaaGreatDoor
open Go Go.Sx Dg Syn
open Go.Sort (PermIn SortedIn SWO permIn_refl permIn_trans permIn_mono swp_permIn)
theorem Gw{K α:Type}{lt:K->K->Bool}(so:SO lt)(f:α->K):SWO fun x y:α=>lt (f x) (f y) where
 irrefl:=fun x=>so.irr _
 trans:=fun x y z=>so.tr _ _ _
 ntrans:=fun x y z h1 h2=>by
  cases h:lt (f x) (f z)with
  |false=>rfl
  |true=>
   cases h3:lt (f y) (f x)with
   |true=>rw[so.tr _ _ _ h3 h]at h2;cases h2
   |false=>rw[so.tri _ _ h1 h3,h2]at h;cases h
theorem rK:SWO g9:=Gw gQ bX.key
theorem oX:SWO cz:=Gw jN Nd.key
theorem xl:aP Tryz.prog 310:=⟨_,Tryz.func310,rfl,rfl⟩
theorem J9:aP Tryz.prog 301:=⟨_,Tryz.func301,rfl,rfl⟩
def O6(v va vb vn:Value)(i:Nat):St:=⟨dn 38 [(0,.v v),(1,.v va),(2,.v vb),(3,.v vn),(10,.v (iv i))],[]⟩
theorem GI{I A:PH}{v vc:Value}{d:Array bX}{a b n:Nat}(hA:dl I A v d.toList)(a3:a+n<=b)(hb:b+n<=d.size)(hn:d.size<=aF):
  aO Tryz.prog 310 #[v,iv a,iv b,iv n,vc] I [A] fun _ I2 qs=>∃A2 e,qs=[A2]/\dl I2 A2 v e.toList/\e.size=d.size/\Gu a b n d e/\∀lo hi,lo<=a->b+n<=hi->hi<=d.size->PermIn lo hi d e:=by
 intro hd;unfold aF at hn;obtain⟨va,vk,rfl⟩:=Ow.one' hA;refine ir 38 Tryz.func310 fun w0=>?_
 try simp only[iv]
 refine Un ?_;refine aB (fun k=>n-k) (O6 (.slice va d.size vk) (iv a) (iv b) (iv n)) (fun k H=>∃A2 e,H=U [I,A2]/\Dj [I,A2]/\k<=n/\e.size=d.size/\dl I A2 (.slice va d.size vk) e.toList/\Gu a b k d e/\∀lo hi,lo<=a->b+n<=hi->hi<=d.size->PermIn lo hi d e) 0 Uo (by simp only[go_sem,Tq,O6]) ?_ ?_
 ·exact⟨A,d,rfl,hd,S6 _,rfl,hA,Gu.zero _ _ _,fun lo hi _ _ _=>permIn_refl _ _ _⟩
 rintro k H ⟨A2,e,rfl,aj,hk,ac,aS,ao,ap⟩ aa;simp only[O6];rcases Sw k n with an|a4
 ·have am:decide ((k:Int)<(n:Int))=true:=Uh Vi;have w1:IntKind.i64.wrap ((a:Int)+(k:Int))=((a+k:Nat):Int):=by
   have e0:(a:Int)+(k:Int)=((a+k:Nat):Int):=by omega
   rw[e0];exact wrap64 Vi
  have w2:IntKind.i64.wrap ((b:Int)+(k:Int))=((b+k:Nat):Int):=by
   have e0:(b:Int)+(k:Int)=((b+k:Nat):Int):=by omega
   rw[e0];exact wrap64 Vi
  have w3:IntKind.i64.wrap ((k:Int)+1)=((k+1:Nat):Int):=by
   have e0:(k:Int)+1=((k+1:Nat):Int):=by omega
   rw[e0];exact wrap64 Vi
  apply RG;simp only[go_sem,iv,am];obtain⟨g,cp,cur,ci,cj,ev,rfl,a2,ri,rj,li,lj,ki,kj,ak⟩:=Ow.two aS (fun{I} c a h=>dg.len c a h) (fun{I J c a} h k=>dg.le h k) (i:=a+k) (j:=b+k) Vi Vi;rw[ac]at ev a2;cases ev
  have mi:((a+k)+1)*4<=d.size*4:=Tb _ Vi;have mj:((b+k)+1)*4<=d.size*4:=Tb _ Vi;refine V8 [0,1,2,3,4,5,6,7,8,9,10,11,12,13,14,15,16,17,18,19,20,21,22,23] [13,19] [] ?_;apply af;simp only[go_sem,iv,w1,w2];refine⟨Vi,?_⟩;refine P7 (l:=cj) (v:=.agg cj.toArray) rfl (cellsU aj (.tail _ (.head _)) (by simpa using kj)) (.inl ⟨by rw[lj];exact iQ,rfl⟩) ?_;apply af;simp only[go_sem,iv,w1,w2];refine⟨Vi,?_⟩;refine P7 (l:=ci) (v:=.agg ci.toArray) rfl (cellsU aj (.tail _ (.head _)) (by simpa using ki)) (.inl ⟨by rw[li];exact iQ,rfl⟩) ?_;apply af;simp only[go_sem,iv,w1,w2];refine⟨Vi,?_⟩;refine aH aj rfl rfl rfl rfl rfl (aM (dg.ones rj)) (by rw[lj];exact um) (by rw[lj];omega) fun a0=>?_;apply af;simp only[go_sem,iv,w1,w2];refine⟨Vi,?_⟩;refine aH a0 rfl rfl rfl rfl rfl (aM (dg.ones ri)) (by rw[li];exact um) (by rw[li];simp[aJ];omega) fun a1=>?_;refine aw ?_;apply RG;simp only[go_sem,iv,w3];exact aa (k+1) _ _ Vi Uo (by simp only[go_sem,Tq,O6]) ⟨_,_,rfl,a1,an,by rw[cH];exact ac,ak I (Uj _),ao.step ac an a3 hb,fun lo hi h1 h2 h3=>permIn_trans _ _ _ lo hi (ap lo hi h1 h2 h3) (swp_permIn _ lo hi _ _ Vi Vi Vi Vi Vi)⟩
 ·have am:decide ((k:Int)<(n:Int))=false:=Ug Vi;have:k=n:=by omega
  subst this;apply RG;simp only[go_sem,iv,am];exact eO rfl aj (r:=[]) rfl (Uj _) ⟨A2,e,rfl,aS,ac,ao,ap⟩
def OD(v vm vc:Value)(x:Nat×Nat):St:=⟨dn 58 [(0,.v v),(2,.v vm),(4,.v vc),(10,.v (iv x.1)),(11,.v (iv x.2))],[]⟩
theorem OQ{I A:PH}{v vc:Value}{d:Array bX}{a m b:Nat}(hA:dl I A v d.toList)(b2:a<m)(b1:m<b)(hb:b<=d.size)(hn:d.size<=aF):
  aO Tryz.prog 301 #[v,iv a,iv m,iv b,vc] I [A] fun _ I2 qs=>∃A2 e,qs=[A2]/\dl I2 A2 v e.toList/\PermIn a b d e/\xN m (m-a) (b-m) d e:=by
 intro hd;have ba:=hn;unfold aF at ba;obtain⟨va,vk,rfl⟩:=Ow.one' hA;obtain⟨t,b0,a5⟩:=xN.ex m (m-a) (b-m) d Vi Vi;refine ir 58 Tryz.func301 fun w0=>?_
 try simp only[iv]
 have w1:IntKind.i64.wrap ((m:Int)-(a:Int))=((m-a:Nat):Int):=by
  rw[bQ Vi Vi];omega
 have w2:IntKind.i64.wrap ((b:Int)-(m:Int))=((b-m:Nat):Int):=by
  rw[bQ Vi Vi];omega
 apply RG;simp only[go_sem,w1,w2];refine aB (fun x=>x.1+x.2) (OD (.slice va d.size vk) (iv m) vc) (fun x H=>∃I2 A2 c,H=U [I2,A2]/\Dj [I2,A2]/\I.le I2/\dl I2 A2 (.slice va d.size vk) c.toList/\PermIn a b d c/\0<x.1/\0<x.2/\x.1<=m-a/\x.2<=b-m/\xN m x.1 x.2 c t) (m-a,b-m) Uo (by simp only[go_sem,Tq,OD]) ?_ ?_
 ·exact⟨I,A,d,rfl,hd,Uj _,hA,permIn_refl _ _ _,by simp only;omega,by simp only;omega,R7 _,R7 _,a5⟩
 rintro⟨i,j⟩ H ⟨I2,A2,c,rfl,a1,ak,a2,a0,a7,a6,hi,hj,aS⟩ ac;simp only at a7 a6 hi hj aS;simp only[OD];have bx:=a0.1;have w3:IntKind.i64.wrap ((m:Int)-(i:Int))=((m-i:Nat):Int):=by
  rw[bQ Vi Vi];omega
 have w4:IntKind.i64.wrap ((m:Int)+(j:Int))=((m+j:Nat):Int):=by
  have e0:(m:Int)+(j:Int)=((m+j:Nat):Int):=by omega
  rw[e0];exact wrap64 Vi
 rcases SD i j with bb|bd|bc
 ·have ap:((i:Int) != (j:Int))=true:=by rw[bne_iff_ne];omega
  have a3:decide ((i:Int)>(j:Int))=false:=Ug Vi;have w5:IntKind.i64.wrap (((m+j:Nat):Int)-(i:Int))=((m+j-i:Nat):Int):=by
   rw[bQ Vi Vi];omega
  have w6:IntKind.i64.wrap ((j:Int)-(i:Int))=((j-i:Nat):Int):=by
   rw[bQ Vi Vi];omega
  apply RG;simp only[go_sem,iv,ap,a3,w3,w4,w5];refine f6 a1 [0] [A2] [] rfl xl rfl (GI (a:=m-i) (b:=m+j-i) (n:=i) a2 Vi Vi Vi) fun v I3 qs aj aa hq=>?_;obtain⟨A3,e,rfl,ao,a4,am,an⟩:=hq;simp only[Z3]at aj |-;apply RG;simp only[go_sem,iv,w6];exact ac (i,j-i) _ _ V9 Uo (by simp only[go_sem,Tq,OD]) ⟨I3,A3,e,rfl,aj,Ui ak aa,ao,permIn_trans _ _ _ a b a0 (an a b Vi Vi Vi),a7,by simp only;omega,hi,by simp only;omega,aS.right am bb Vi⟩
 ·subst bd;have ap:((i:Int) != (i:Int))=false:=by simp
  apply RG;simp only[go_sem,iv,ap,w3];refine f6 a1 [0] [A2] [] rfl xl rfl (GI (a:=m-i) (b:=m) (n:=i) a2 Vi Vi Vi) fun v I3 qs aj aa hq=>?_;obtain⟨A3,e,rfl,ao,a4,am,an⟩:=hq;simp only[Z3]at aj |-;refine Uq ?_;have a9:=aS.last am Vi Vi;exact eO rfl aj (r:=[]) rfl (Ui ak aa) ⟨A3,e,rfl,ao,permIn_trans _ _ _ a b a0 (an a b Vi Vi Vi),by rw[<-a9];exact a5⟩
 ·have ap:((i:Int) != (j:Int))=true:=by rw[bne_iff_ne];omega
  have a3:decide ((i:Int)>(j:Int))=true:=Uh Vi;have w6:IntKind.i64.wrap ((i:Int)-(j:Int))=((i-j:Nat):Int):=by
   rw[bQ Vi Vi];omega
  apply RG;simp only[go_sem,iv,ap,a3,w3];refine f6 a1 [0] [A2] [] rfl xl rfl (GI (a:=m-i) (b:=m) (n:=j) a2 Vi Vi Vi) fun v I3 qs aj aa hq=>?_;obtain⟨A3,e,rfl,ao,a4,am,an⟩:=hq;simp only[Z3]at aj |-;apply RG;simp only[go_sem,iv,w6];exact ac (i-j,j) _ _ V9 Uo (by simp only[go_sem,Tq,OD]) ⟨I3,A3,e,rfl,aj,Ui ak aa,ao,permIn_trans _ _ _ a b a0 (an a b Vi Vi Vi),by simp only;omega,a6,by simp only;omega,hj,aS.left am bc Vi⟩
theorem Cd:aP Tryz.prog 296:=⟨_,Tryz.func296,rfl,rfl⟩
theorem HL:aP Tryz.prog 272:=⟨_,Tryz.func272,rfl,rfl⟩
def MQ(v vh vf vc:Value)(r:Nat):St:=⟨dn 82 [(0,.v v),(2,.v vh),(3,.v vf),(4,.v vc),(10,.v (iv r))],[]⟩
theorem EU{I A:PH}{v vc:Value}{d:Array Nd}{lo hi first:Nat}(hA:br I A v d.toList)(hc:jT aW cz vc)(hb:first+hi<=d.size)(hn:d.size<=aF)(b1:lo<=d.size):
  aO Tryz.prog 296 #[v,iv lo,iv hi,iv first,vc] I [A] fun _ I2 qs=>∃A2,qs=[A2]/\br I2 A2 v (Sort.siftDown cz hi first lo d).toList/\(Sort.siftDown cz hi first lo d).size=d.size:=by
 intro hd;unfold aF at hn;obtain⟨f,fst,cap,rfl,gf,cf⟩:=id hc;obtain⟨va,vk,rfl⟩:=Ow.one' hA;refine ir 82 Tryz.func296 fun w0=>?_
 try simp only[iv]
 refine Un ?_;refine aB (fun r=>hi-r) (MQ (.slice va d.size vk) (iv hi) (iv first) (.func (.func f) fst cap)) (fun r H=>∃I2 A2 d2,H=U [I2,A2]/\Dj [I2,A2]/\I.le I2/\r<=d.size/\d2.size=d.size/\br I2 A2 (.slice va d.size vk) d2.toList/\Sort.siftDown cz hi first r d2=Sort.siftDown cz hi first lo d) lo Uo (by simp only[go_sem,Tq,MQ]) ?_ ?_
 ·exact⟨I,A,d,rfl,hd,Uj _,b1,rfl,hA,rfl⟩
 rintro r H ⟨I2,A2,d2,rfl,a9,an,hr,aS,a6,ac⟩ a0;simp only[MQ];have w1:IntKind.i64.wrap (2*(r:Int))=((2*r:Nat):Int):=by
  rw[<-wrap64 (n:=2*r) Vi];congr 1<;>omega
 have w2:IntKind.i64.wrap (((2*r:Nat):Int)+1)=((2*r+1:Nat):Int):=by
  rw[<-wrap64 (n:=2*r+1) Vi];congr 1<;>omega
 have w3:IntKind.i64.wrap (((2*r+1:Nat):Int)+1)=((2*r+2:Nat):Int):=by
  rw[<-wrap64 (n:=2*r+2) Vi];congr 1<;>omega
 rcases Sw (2*r+1) hi with b4|b2
 ·have bx:decide (((2*r+1:Nat):Int)>=(hi:Int))=false:=Ug Vi;rw[Sort.siftDown,dif_neg Vi]at ac;have a1:IntKind.i64.wrap ((first:Int)+((2*r+1:Nat):Int))=((first+(2*r+1):Nat):Int):=by
   rw[<-wrap64 (n:=first+(2*r+1)) Vi];congr 1<;>omega
  have a2:IntKind.i64.wrap (((first+(2*r+1):Nat):Int)+1)=((first+(2*r+2):Nat):Int):=by
   rw[<-wrap64 (n:=first+(2*r+2)) Vi];congr 1<;>omega
  have a3:IntKind.i64.wrap ((first:Int)+(r:Int))=((first+r:Nat):Int):=by
   rw[<-wrap64 (n:=first+r) Vi];congr 1<;>omega
  have a4:IntKind.i64.wrap ((first:Int)+((2*r+2:Nat):Int))=((first+(2*r+2):Nat):Int):=by
   rw[<-wrap64 (n:=first+(2*r+2)) Vi];congr 1<;>omega
  apply RG;simp only[go_sem,iv,w1,w2,bx];rcases Sw (2*r+2) hi with h2|h2
  ·have bc:decide (((2*r+2:Nat):Int)<(hi:Int))=true:=Uh Vi;obtain⟨g,cp,cur,ci,cj,ev,rfl,b3,ri,rj,li,lj,ki,kj,b0⟩:=Ow.two a6 (fun{I} c a h=>aW.len c a h) (fun{I J c a} h k=>aW.le h k) (i:=first+(2*r+1)) (j:=first+(2*r+2)) Vi Vi;rw[aS]at ev b3;cases ev
   refine V8 [0,1,2,3,4,5,6,7,8,9,10,11,12,13,14,15,16,17,18,19,20,21] [11,18] [] ?_;apply af;simp only[go_sem,iv,w3,bc,a1,a2];refine⟨Vi,?_⟩;refine P7 (l:=ci) (v:=.agg ci.toArray) rfl (cellsU a9 (.tail _ (.head _)) (by simpa using ki)) (.inl ⟨by rw[li];exact bT,rfl⟩) ?_;apply af;simp only[go_sem,iv,w3,bc,a1,a2];refine⟨Vi,?_⟩;refine P7 (l:=cj) (v:=.agg cj.toArray) rfl (cellsU a9 (.tail _ (.head _)) (by simpa using kj)) (.inl ⟨by rw[lj];exact bT,rfl⟩) ?_;apply af;simp only[go_sem,iv,w3,bc,a1,a2];refine i7 a9 [0] [] [_] rfl gf rfl (cf I2 _ _ _ _ ri rj) fun v I3 qs a7 ak hq=>?_;obtain⟨rfl,z,rfl,hz⟩:=hq;simp only[Z3]at a7 |-;refine Ur ?_;refine aw ?_;cases hl:cz d2[first+(2*r+1)]! d2[first+(2*r+2)]! with
   |true=>
    rw[hl]at hz;have bd:cz d2[first+(2*r+1)]! d2[first+(2*r+1)+1]! = true:=hl;rw[SI (by simp only[bd,TR,SX];omega)]at ac;apply RG;simp only[go_sem,iv,hz,w3];obtain⟨gq,cpq,curq,ciq,cjq,evq,eAq,a5,riq,rjq,liq,ljq,kiq,kjq,aj⟩:=Ow.two (br.le a6 ak) (fun{I} c a h=>aW.len c a h) (fun{I J c a} h k=>aW.le h k) (i:=first+r) (j:=first+(2*r+2)) Vi Vi;rw[aS]at evq a5;cases evq
    obtain rfl:=pu eAq;clear eAq;refine V8 [0,1,2,3,4,5,6,7,8,9,10,11,12,13,14,15] [6,12] [] ?_;apply af;simp only[go_sem,iv,a1,a2,a3,a4];refine⟨Vi,?_⟩;refine P7 (l:=ciq) (v:=.agg ciq.toArray) rfl (cellsU a7 (.tail _ (.head _)) (by simpa using kiq)) (.inl ⟨by rw[liq];exact bT,rfl⟩) ?_;apply af;simp only[go_sem,iv,a1,a2,a3,a4];refine⟨Vi,?_⟩;refine P7 (l:=cjq) (v:=.agg cjq.toArray) rfl (cellsU a7 (.tail _ (.head _)) (by simpa using kjq)) (.inl ⟨by rw[ljq];exact bT,rfl⟩) ?_;apply af;simp only[go_sem,iv,a1,a2,a3,a4];refine i7 a7 [0] [] [_] rfl gf rfl (cf I3 _ _ _ _ riq rjq) fun v I6 qs am aa hq=>?_;obtain⟨rfl,z,rfl,ao⟩:=hq;simp only[Z3]at am |-;refine Ur ?_;refine aw ?_;cases ap:cz d2[first+r]! d2[first+(2*r+2)]! with
    |false=>
     rw[ap]at ao;rw[SI (by simp[ap])]at ac;apply RG;simp only[go_sem,iv,ao,T7];exact ai rfl am (r:=[]) rfl (Ui an (Ui ak aa)) ⟨_,rfl,by rw[<-ac];exact br.le a6 (Ui ak aa),by rw[<-ac];exact aS⟩
    |true=>
     rw[ap]at ao;rw[Sb (by simp[ap])]at ac;rw[dif_pos h2]at ac;apply RG;simp only[go_sem,iv,ao,Ud];have mi:((first+r)+1)*7<=d.size*7:=Tb _ Vi;have mj:((first+(2*r+2))+1)*7<=d.size*7:=Tb _ Vi;refine V8 [0,1,2,3,4,5,6,7,8,9,10,11,12,13,14,15,16,17,18,19,20,21,22,23] [13,19] [] ?_;apply af;simp only[go_sem,iv,a1,a2,a3,a4];refine⟨Vi,?_⟩;refine P7 (l:=cjq) (v:=.agg cjq.toArray) rfl (cellsU am (.tail _ (.head _)) (by simpa using kjq)) (.inl ⟨by rw[ljq];exact bT,rfl⟩) ?_;apply af;simp only[go_sem,iv,a1,a2,a3,a4];refine⟨Vi,?_⟩;refine P7 (l:=ciq) (v:=.agg ciq.toArray) rfl (cellsU am (.tail _ (.head _)) (by simpa using kiq)) (.inl ⟨by rw[liq];exact bT,rfl⟩) ?_;apply af;simp only[go_sem,iv,a1,a2,a3,a4];refine⟨Vi,?_⟩;refine aH am rfl rfl rfl rfl rfl (aM (aW.ones rjq)) (by rw[ljq];exact fx) (by rw[ljq];omega) fun ba=>?_;apply af;simp only[go_sem,iv,a1,a2,a3,a4];refine⟨Vi,?_⟩;refine aH ba rfl rfl rfl rfl rfl (aM (aW.ones riq)) (by rw[liq];exact fx) (by rw[liq];simp[aJ];omega) fun bb=>?_;refine aw ?_;refine Uq ?_;exact a0 (2*r+2) _ _ Vi Uo (by simp only[go_sem,Tq,MQ]) ⟨I6,_,_,rfl,bb,Ui an (Ui ak aa),Vi,by rw[cH];exact aS,aj I6 aa,ac⟩
   |false=>
    rw[hl]at hz;have bd:cz d2[first+(2*r+1)]! d2[first+(2*r+1)+1]! = false:=hl;rw[Sb (by simp only[bd,Bool.and_false];decide)]at ac;apply RG;simp only[go_sem,iv,hz];obtain⟨gq,cpq,curq,ciq,cjq,evq,eAq,a5,riq,rjq,liq,ljq,kiq,kjq,aj⟩:=Ow.two (br.le a6 ak) (fun{I} c a h=>aW.len c a h) (fun{I J c a} h k=>aW.le h k) (i:=first+r) (j:=first+(2*r+1)) Vi Vi;rw[aS]at evq a5;cases evq
    obtain rfl:=pu eAq;clear eAq;refine V8 [0,1,2,3,4,5,6,7,8,9,10,11,12,13,14,15] [6,12] [] ?_;apply af;simp only[go_sem,iv,a1,a2,a3,a4];refine⟨Vi,?_⟩;refine P7 (l:=ciq) (v:=.agg ciq.toArray) rfl (cellsU a7 (.tail _ (.head _)) (by simpa using kiq)) (.inl ⟨by rw[liq];exact bT,rfl⟩) ?_;apply af;simp only[go_sem,iv,a1,a2,a3,a4];refine⟨Vi,?_⟩;refine P7 (l:=cjq) (v:=.agg cjq.toArray) rfl (cellsU a7 (.tail _ (.head _)) (by simpa using kjq)) (.inl ⟨by rw[ljq];exact bT,rfl⟩) ?_;apply af;simp only[go_sem,iv,a1,a2,a3,a4];refine i7 a7 [0] [] [_] rfl gf rfl (cf I3 _ _ _ _ riq rjq) fun v I6 qs am aa hq=>?_;obtain⟨rfl,z,rfl,ao⟩:=hq;simp only[Z3]at am |-;refine Ur ?_;refine aw ?_;cases ap:cz d2[first+r]! d2[first+(2*r+1)]! with
    |false=>
     rw[ap]at ao;rw[SI (by simp[ap])]at ac;apply RG;simp only[go_sem,iv,ao,T7];exact ai rfl am (r:=[]) rfl (Ui an (Ui ak aa)) ⟨_,rfl,by rw[<-ac];exact br.le a6 (Ui ak aa),by rw[<-ac];exact aS⟩
    |true=>
     rw[ap]at ao;rw[Sb (by simp[ap])]at ac;apply RG;simp only[go_sem,iv,ao,Ud];have mi:((first+r)+1)*7<=d.size*7:=Tb _ Vi;have mj:((first+(2*r+1))+1)*7<=d.size*7:=Tb _ Vi;refine V8 [0,1,2,3,4,5,6,7,8,9,10,11,12,13,14,15,16,17,18,19,20,21,22,23] [13,19] [] ?_;apply af;simp only[go_sem,iv,a1,a2,a3,a4];refine⟨Vi,?_⟩;refine P7 (l:=cjq) (v:=.agg cjq.toArray) rfl (cellsU am (.tail _ (.head _)) (by simpa using kjq)) (.inl ⟨by rw[ljq];exact bT,rfl⟩) ?_;apply af;simp only[go_sem,iv,a1,a2,a3,a4];refine⟨Vi,?_⟩;refine P7 (l:=ciq) (v:=.agg ciq.toArray) rfl (cellsU am (.tail _ (.head _)) (by simpa using kiq)) (.inl ⟨by rw[liq];exact bT,rfl⟩) ?_;apply af;simp only[go_sem,iv,a1,a2,a3,a4];refine⟨Vi,?_⟩;refine aH am rfl rfl rfl rfl rfl (aM (aW.ones rjq)) (by rw[ljq];exact fx) (by rw[ljq];omega) fun ba=>?_;apply af;simp only[go_sem,iv,a1,a2,a3,a4];refine⟨Vi,?_⟩;refine aH ba rfl rfl rfl rfl rfl (aM (aW.ones riq)) (by rw[liq];exact fx) (by rw[liq];simp[aJ];omega) fun bb=>?_;refine aw ?_;refine Uq ?_;exact a0 (2*r+1) _ _ Vi Uo (by simp only[go_sem,Tq,MQ]) ⟨I6,_,_,rfl,bb,Ui an (Ui ak aa),Vi,by rw[cH];exact aS,aj I6 aa,ac⟩
  ·have bc:decide (((2*r+2:Nat):Int)<(hi:Int))=false:=Ug Vi;rw[Sb (by simp;omega)]at ac;refine V8 [0,1,2,3,4,5,6,7,8,9,10,11,12,13,14,15,16,17,18,19,20,21] [11,18] [] ?_;apply af;simp only[go_sem,iv,w3,bc];refine aw ?_;refine Uq ?_;obtain⟨gq,cpq,curq,ciq,cjq,evq,rfl,a5,riq,rjq,liq,ljq,kiq,kjq,aj⟩:=Ow.two (br.le a6 (Uj _)) (fun{I} c a h=>aW.len c a h) (fun{I J c a} h k=>aW.le h k) (i:=first+r) (j:=first+(2*r+1)) Vi Vi;rw[aS]at evq a5;cases evq
   refine V8 [0,1,2,3,4,5,6,7,8,9,10,11,12,13,14,15] [6,12] [] ?_;apply af;simp only[go_sem,iv,a1,a2,a3,a4];refine⟨Vi,?_⟩;refine P7 (l:=ciq) (v:=.agg ciq.toArray) rfl (cellsU a9 (.tail _ (.head _)) (by simpa using kiq)) (.inl ⟨by rw[liq];exact bT,rfl⟩) ?_;apply af;simp only[go_sem,iv,a1,a2,a3,a4];refine⟨Vi,?_⟩;refine P7 (l:=cjq) (v:=.agg cjq.toArray) rfl (cellsU a9 (.tail _ (.head _)) (by simpa using kjq)) (.inl ⟨by rw[ljq];exact bT,rfl⟩) ?_;apply af;simp only[go_sem,iv,a1,a2,a3,a4];refine i7 a9 [0] [] [_] rfl gf rfl (cf I2 _ _ _ _ riq rjq) fun v I6 qs am aa hq=>?_;obtain⟨rfl,z,rfl,ao⟩:=hq;simp only[Z3]at am |-;refine Ur ?_;refine aw ?_;cases ap:cz d2[first+r]! d2[first+(2*r+1)]! with
   |false=>
    rw[ap]at ao;rw[SI (by simp[ap])]at ac;apply RG;simp only[go_sem,iv,ao,T7];exact ai rfl am (r:=[]) rfl (Ui an (Ui (Uj _) aa)) ⟨_,rfl,by rw[<-ac];exact br.le a6 (Ui (Uj _) aa),by rw[<-ac];exact aS⟩
   |true=>
    rw[ap]at ao;rw[Sb (by simp[ap])]at ac;apply RG;simp only[go_sem,iv,ao,Ud];have mi:((first+r)+1)*7<=d.size*7:=Tb _ Vi;have mj:((first+(2*r+1))+1)*7<=d.size*7:=Tb _ Vi;refine V8 [0,1,2,3,4,5,6,7,8,9,10,11,12,13,14,15,16,17,18,19,20,21,22,23] [13,19] [] ?_;apply af;simp only[go_sem,iv,a1,a2,a3,a4];refine⟨Vi,?_⟩;refine P7 (l:=cjq) (v:=.agg cjq.toArray) rfl (cellsU am (.tail _ (.head _)) (by simpa using kjq)) (.inl ⟨by rw[ljq];exact bT,rfl⟩) ?_;apply af;simp only[go_sem,iv,a1,a2,a3,a4];refine⟨Vi,?_⟩;refine P7 (l:=ciq) (v:=.agg ciq.toArray) rfl (cellsU am (.tail _ (.head _)) (by simpa using kiq)) (.inl ⟨by rw[liq];exact bT,rfl⟩) ?_;apply af;simp only[go_sem,iv,a1,a2,a3,a4];refine⟨Vi,?_⟩;refine aH am rfl rfl rfl rfl rfl (aM (aW.ones rjq)) (by rw[ljq];exact fx) (by rw[ljq];omega) fun ba=>?_;apply af;simp only[go_sem,iv,a1,a2,a3,a4];refine⟨Vi,?_⟩;refine aH ba rfl rfl rfl rfl rfl (aM (aW.ones riq)) (by rw[liq];exact fx) (by rw[liq];simp[aJ];omega) fun bb=>?_;refine aw ?_;refine Uq ?_;exact a0 (2*r+1) _ _ Vi Uo (by simp only[go_sem,Tq,MQ]) ⟨I6,_,_,rfl,bb,Ui an (Ui (Uj _) aa),Vi,by rw[cH];exact aS,aj I6 aa,ac⟩
 ·have bx:decide (((2*r+1:Nat):Int)>=(hi:Int))=true:=Uh Vi;rw[Sort.siftDown,dif_pos b2]at ac;apply RG;simp only[go_sem,iv,w1,w2,bx];exact eO rfl a9 (r:=[]) rfl an ⟨A2,rfl,by rw[<-ac];exact a6,by rw[<-ac];exact aS⟩
theorem Iw:aP Tryz.prog 275:=⟨_,Tryz.func275,rfl,rfl⟩
theorem gd{k:Nat}(h:k<2^61):IntKind.i64.wrap ((k:Int)-1)=(k:Int)-1:=by
 have:=bQ (a:=k) (b:=1) Vi Vi
 rwa [show ((1:Nat):Int)=1 from rfl]at this
def Jw(v vf vh vc:Value)(k:Nat):St:=⟨dn 60 [(0,.v v),(3,.v vc),(8,.v vf),(9,.v (.int .i64 0)),(10,.v vh),(11,.v (.int .i64 ((k:Int)-1)))],[]⟩
def JN(v vf vc:Value)(k:Nat):St:=⟨dn 60 [(0,.v v),(3,.v vc),(8,.v vf),(9,.v (.int .i64 0)),(12,.v (.int .i64 ((k:Int)-1)))],[]⟩
theorem K2{I A:PH}{v vc:Value}{d:Array Nd}{a b:Nat}(hA:br I A v d.toList)(hc:jT aW cz vc)(b2:a<=b)(hb:b<=d.size)(hn:d.size<=aF):
  aO Tryz.prog 272 #[v,iv a,iv b,vc] I [A] fun _ I2 qs=>∃A2,qs=[A2]/\br I2 A2 v (Sort.heapSort cz d a b).toList:=by
 intro hd;unfold aF at hn;obtain⟨f,fst,cap,rfl,gf,cf⟩:=id hc;obtain⟨va,vk,rfl⟩:=Ow.one' hA;refine ir 60 Tryz.func272 fun w0=>?_
 try simp only[iv]
 have w1:IntKind.i64.wrap ((b:Int)-(a:Int))=((b-a:Nat):Int):=by
  rw[bQ Vi Vi];omega
 have w2:=gd (k:=b-a) Vi;have w3:IntKind.i64.wrap ((((b-a:Nat):Int)-1).tdiv 2)=(((b-a-1) / 2+1:Nat):Int)-1:=by
  have e:(((b-a:Nat):Int)-1).tdiv 2=(((b-a-1) / 2:Nat):Int):=by
   rcases TI (b-a)with h|h
   ·rw[h];decide
   ·rw[show ((b-a:Nat):Int)-1=((b-a-1:Nat):Int) by omega];rfl
  rw[e,wrap64 Vi];omega
 apply RG;simp only[go_sem,w1,w2,w3];refine aB (fun k=>k) (Jw (.slice va d.size vk) (iv a) (iv (b-a)) (.func (.func f) fst cap)) (fun k H=>∃I2 A2 d2,H=U [I2,A2]/\Dj [I2,A2]/\I.le I2/\k<=d.size+1/\d2.size=d.size/\br I2 A2 (.slice va d.size vk) d2.toList/\Sort.heapBuild cz (b-a) a k d2=Sort.heapBuild cz (b-a) a ((b-a-1) / 2+1) d) ((b-a-1) / 2+1) Uo (by simp only[go_sem,Tq,Jw]) ?_ ?_
 ·exact⟨I,A,d,rfl,hd,Uj _,Vi,rfl,hA,rfl⟩
 rintro k H ⟨I2,A2,d2,rfl,a7,am,hk,a1,a9,ap⟩ ak;simp only[Jw];cases k with
 |succ k=>
  have e:(((k+1:Nat):Int)-1)=(k:Int):=by omega
  have a5:decide ((k:Int)>=0)=true:=Uh Vi;have w4:=gd (k:=k) Vi;rw[Sort.heapBuild]at ap;apply RG;simp only[go_sem,iv,e,a5];refine f6 a7 [0] [A2] [] rfl Cd rfl (EU (d:=d2) (lo:=k) (hi:=b-a) (first:=a) a9 hc Vi (by rw[a1];exact hn) Vi) fun v I3 qs aj aa hq=>?_;obtain⟨A3,rfl,aS,an⟩:=hq;simp only[Z3]at aj |-;apply RG;simp only[go_sem,iv,w4];exact ak k _ _ Vi Uo (by simp only[go_sem,Tq,Jw]) ⟨I3,A3,_,rfl,aj,Ui am aa,Vi,by rw[an];exact a1,aS,ap⟩
 |zero=>
  have a5:decide ((0:Int)-1>=0)=false:=rfl;rw[Sort.heapBuild]at ap;apply RG;simp only[go_sem,iv,a5,w2];refine aB (fun k=>k) (JN (.slice va d.size vk) (iv a) (.func (.func f) fst cap)) (fun k H=>∃I3 A3 d3,H=U [I3,A3]/\Dj [I3,A3]/\I2.le I3/\k<=b-a/\d3.size=d.size/\br I3 A3 (.slice va d.size vk) d3.toList/\Sort.heapPop cz a k d3=Sort.heapSort cz d a b) (b-a) Uo (by simp only[go_sem,Tq,JN]) ?_ ?_
  ·exact⟨I2,A2,d2,rfl,a7,Uj _,R7 _,a1,a9,by rw[ap];rfl⟩
  rintro k H ⟨I3,A3,d3,rfl,aj,aa,b1,an,aS,ao⟩ ac;simp only[JN];cases k with
  |succ k=>
   have e:(((k+1:Nat):Int)-1)=(k:Int):=by omega
   have a4:decide ((k:Int)>=0)=true:=Uh Vi;have w4:=gd (k:=k) Vi;rw[Sort.heapPop]at ao;apply RG;simp only[go_sem,iv,e,a4];have w5:IntKind.i64.wrap ((a:Int)+(k:Int))=((a+k:Nat):Int):=by
    rw[<-wrap64 (n:=a+k) Vi];congr 1<;>omega
   obtain⟨g,cp,cur,ci,cj,ev,rfl,bd,ri,rj,li,lj,ki,kj,a2⟩:=Ow.two aS (fun{I} c a h=>aW.len c a h) (fun{I J c a} h k=>aW.le h k) (i:=a) (j:=a+k) Vi Vi;rw[an]at ev bd;cases ev
   have mi:(a+1)*7<=d.size*7:=Tb _ Vi;have mj:((a+k)+1)*7<=d.size*7:=Tb _ Vi;refine V8 [0,1,2,3,4,5,6,7,8,9,10,11,12,13,14,15,16,17,18,19] [11,15] [] ?_;apply af;simp only[go_sem,iv,w5];refine⟨Vi,?_⟩;refine P7 (l:=cj) (v:=.agg cj.toArray) rfl (cellsU aj (.tail _ (.head _)) (by simpa using kj)) (.inl ⟨by rw[lj];exact bT,rfl⟩) ?_;apply af;simp only[go_sem,iv,w5];refine⟨Vi,?_⟩;refine P7 (l:=ci) (v:=.agg ci.toArray) rfl (cellsU aj (.tail _ (.head _)) (by simpa using ki)) (.inl ⟨by rw[li];exact bT,rfl⟩) ?_;apply af;simp only[go_sem,iv,w5];refine⟨Vi,?_⟩;refine aH aj rfl rfl rfl rfl rfl (aM (aW.ones rj)) (by rw[lj];exact fx) (by rw[lj];omega) fun bb=>?_;apply af;simp only[go_sem,iv,w5];refine⟨Vi,?_⟩;refine aH bb rfl rfl rfl rfl rfl (aM (aW.ones ri)) (by rw[li];exact fx) (by rw[li];simp[aJ];omega) fun bc=>?_;refine aw ?_;apply RG;simp only[go_sem,iv,e];have b0:=a2 I3 (Uj _);have a0:(Sort.swp d3 a (a+k)).size=d.size:=by rw[cH];exact an
   refine f6 bc [0] [sg g _] [] rfl Cd rfl (EU (lo:=0) (hi:=k) (first:=a) b0 hc (by rw[a0];omega) (by rw[a0];exact hn) (S6 _)) fun v I5 qs a6 a3 hq=>?_;obtain⟨A5,rfl,bx,ba⟩:=hq;simp only[Z3]at a6 |-;apply RG;simp only[go_sem,iv,w4];exact ac k _ _ Vi Uo (by simp only[go_sem,Tq,JN]) ⟨I5,A5,_,rfl,a6,Ui aa a3,Vi,by rw[ba];exact a0,bx,ao⟩
  |zero=>
   have a4:decide ((0:Int)-1>=0)=false:=rfl;rw[Sort.heapPop]at ao;apply RG;simp only[go_sem,iv,a4];exact eO rfl aj (r:=[]) rfl (Ui am aa) ⟨A3,rfl,by rw[<-ao];exact aS⟩
def O8(v:Value)(x:Nat×Nat):St:=⟨dn 34 [(0,.v v),(8,.v (iv x.1)),(9,.v (.int .i64 ((x.2:Int)-1)))],[]⟩
theorem OX{I A:PH}{v vc:Value}{d:Array Nd}{a b:Nat}(hA:br I A v d.toList)(a4:a<b)(hb:b<=d.size)(hn:d.size<=aF):
  aO Tryz.prog 275 #[v,iv a,iv b,vc] I [A] fun _ I2 qs=>∃A2,qs=[A2]/\br I2 A2 v (Sort.reverseRange d a b).toList:=by
 intro hd;unfold aF at hn;obtain⟨va,vk,rfl⟩:=Ow.one' hA;refine ir 34 Tryz.func275 fun w0=>?_
 try simp only[iv]
 have w2:=gd (k:=b) Vi;apply RG;simp only[go_sem,w2];refine aB (fun x=>x.2-x.1) (O8 (.slice va d.size vk)) (fun x H=>∃A2 d2,H=U [I,A2]/\Dj [I,A2]/\x.1<=b/\1<=x.2/\x.2<=b/\d2.size=d.size/\br I A2 (.slice va d.size vk) d2.toList/\Sort.reverseLoop x.1 (x.2-1) d2=Sort.reverseRange d a b) (a,b) Uo (by simp only[go_sem,Tq,O8]) ?_ ?_
 ·exact⟨A,d,rfl,hd,by simp only;omega,by simp only;omega,R7 _,rfl,hA,rfl⟩
 rintro⟨i,j⟩ H ⟨A2,d2,rfl,aj,hi,aS,hj,an,ao,aa⟩ ac;simp only at hi aS hj aa;simp only[O8];obtain⟨j,rfl⟩:∃j',j=j'+1:=⟨j-1,Vi⟩;have e:(((j+1:Nat):Int)-1)=(j:Int):=by omega
 rw[Tx]at aa;have w3:=gd (k:=j) Vi;have w4:IntKind.i64.wrap ((i:Int)+1)=((i+1:Nat):Int):=by
  rw[<-wrap64 (n:=i+1) Vi];congr 1<;>omega
 rcases Sw i j with ap|a3
 ·have am:decide ((i:Int)<(j:Int))=true:=Uh Vi;rw[Sort.reverseLoop,SI ap]at aa;apply RG;simp only[go_sem,iv,e,am];obtain⟨g,cp,cur,ci,cj,ev,rfl,a2,ri,rj,li,lj,ki,kj,ak⟩:=Ow.two ao (fun{I} c a h=>aW.len c a h) (fun{I J c a} h k=>aW.le h k) (i:=i) (j:=j) Vi Vi;rw[an]at ev a2;cases ev
  have mi:(i+1)*7<=d.size*7:=Tb _ Vi;have mj:(j+1)*7<=d.size*7:=Tb _ Vi;refine V8 [0,1,2,3,4,5,6,7,8,9,10,11,12,13,14,15] [7,11] [] ?_;apply af;simp only[go_sem,iv,e];refine⟨Vi,?_⟩;refine P7 (l:=cj) (v:=.agg cj.toArray) rfl (cellsU aj (.tail _ (.head _)) (by simpa using kj)) (.inl ⟨by rw[lj];exact bT,rfl⟩) ?_;apply af;simp only[go_sem,iv,e];refine⟨Vi,?_⟩;refine P7 (l:=ci) (v:=.agg ci.toArray) rfl (cellsU aj (.tail _ (.head _)) (by simpa using ki)) (.inl ⟨by rw[li];exact bT,rfl⟩) ?_;apply af;simp only[go_sem,iv,e];refine⟨Vi,?_⟩;refine aH aj rfl rfl rfl rfl rfl (aM (aW.ones rj)) (by rw[lj];exact fx) (by rw[lj];omega) fun a0=>?_;apply af;simp only[go_sem,iv,e];refine⟨Vi,?_⟩;refine aH a0 rfl rfl rfl rfl rfl (aM (aW.ones ri)) (by rw[li];exact fx) (by rw[li];simp[aJ];omega) fun a1=>?_;refine aw ?_;apply RG;simp only[go_sem,iv,w3,w4];exact ac (i+1,j) _ _ V9 Uo (by simp only[go_sem,Tq,O8]) ⟨_,_,rfl,a1,by simp only;omega,by simp only;omega,by simp only;omega,by rw[cH];exact an,ak I (Uj _),aa⟩
 ·have am:decide ((i:Int)<(j:Int))=false:=Ug Vi;rw[Sort.reverseLoop,Sb Vi]at aa;apply RG;simp only[go_sem,iv,e,am];exact eO rfl aj (r:=[]) rfl (Uj _) ⟨A2,rfl,by rw[<-aa];exact ao⟩
theorem xL:aP Tryz.prog 309:=⟨_,Tryz.func309,rfl,rfl⟩
theorem ww:aP Tryz.prog 300:=⟨_,Tryz.func300,rfl,rfl⟩
theorem wO:aP Tryz.prog 299:=⟨_,Tryz.func299,rfl,rfl⟩
theorem IT:aP Tryz.prog 274:=⟨_,Tryz.func274,rfl,rfl⟩
abbrev zz(b n:Nat):PH:=sg b (.cells #[iv n] 3 (0,0))
theorem tH{I A:PH}{v vc:Value}{d:Array Nd}{a b n sb:Nat}(hA:br I A v d.toList)(hc:jT aW cz vc)(ha:a<d.size)(hb:b<d.size)(hn:d.size<=aF)(hs:n<2^20):
  aO Tryz.prog 309 #[v,iv a,iv b,pt sb,vc] I [A,zz sb n] fun r I2 qs=>qs=[A,zz sb (Sort.order2 cz d a b n).2.2]/\r=.tuple #[iv (Sort.order2 cz d a b n).1,iv (Sort.order2 cz d a b n).2.1]:=by
 intro hd;unfold aF at hn;obtain⟨f,fst,cap,rfl,gf,cf⟩:=id hc;obtain⟨va,vk,rfl⟩:=Ow.one' hA;refine ir 32 Tryz.func309 fun w0=>?_
 try simp only[iv,pt]
 have w1:IntKind.i64.wrap ((n:Int)+1)=((n+1:Nat):Int):=by
  have e0:(n:Int)+1=((n+1:Nat):Int):=by omega
  rw[e0];exact wrap64 Vi
 obtain⟨g,cp,cur,ci,cj,ev,rfl,ao,ri,rj,li,lj,ki,kj,aj⟩:=Ow.two hA (fun{I} c a h=>aW.len c a h) (fun{I J c a} h k=>aW.le h k) (i:=b) (j:=a) Vi Vi;cases ev
 refine Un ?_;refine V8 [0,1,2,3,4,5,6,7,8,9,10] [4,8] [] ?_;refine Ur ?_;refine⟨Vi,?_⟩;refine P7 (l:=ci) (v:=.agg ci.toArray) rfl (cellsU hd (.tail _ (.head _)) (by simpa using ki)) (.inl ⟨by rw[li];exact bT,rfl⟩) ?_;refine Ur ?_;refine⟨Vi,?_⟩;refine P7 (l:=cj) (v:=.agg cj.toArray) rfl (cellsU hd (.tail _ (.head _)) (by simpa using kj)) (.inl ⟨by rw[lj];exact bT,rfl⟩) ?_;refine Ur ?_;refine i7 hd [0,1] [] [_,_] rfl gf rfl (cf I _ _ _ _ ri rj) fun v I2 qs ac aa hq=>?_;obtain⟨rfl,z,rfl,hz⟩:=hq;simp only[Z3]at ac |-;refine Ur ?_;refine aw ?_;cases hl:cz d[b]! d[a]! with
 |true=>
  rw[hl]at hz;have e:Sort.order2 cz d a b n=(b,a,n+1):=by simp[Sort.order2,hl]
  rw[e];apply RG;simp only[go_sem,iv,hz];refine Qz (l:=[iv n]) rfl (cellsU ac (.tail _ (.tail _ (.head _))) (aU (by simp) rfl)) (.inr ⟨mF,rfl⟩) ?_;apply RG;simp only[go_sem,iv,w1];refine Um ac [1,0] fun an=>?_;refine cG an rfl rfl rfl rfl rfl (by exact Gn) (by simp) fun am=>?_;refine Uq ?_;refine Um am [1,0] fun ak=>?_;exact ai rfl ak (r:=[iv b,iv a]) rfl aa ⟨rfl,rfl⟩
 |false=>
  rw[hl]at hz;have e:Sort.order2 cz d a b n=(a,b,n):=by simp[Sort.order2,hl]
  rw[e];apply RG;simp only[go_sem,iv,hz];exact ai rfl ac (r:=[iv a,iv b]) rfl aa ⟨rfl,rfl⟩
theorem pI(d:Array Nd)(a b n:Nat):((Sort.order2 cz d a b n).1=a/\(Sort.order2 cz d a b n).2.1=b\/(Sort.order2 cz d a b n).1=b/\(Sort.order2 cz d a b n).2.1=a)/\(Sort.order2 cz d a b n).2.2<=n+1:=by
 unfold Sort.order2;split
 ·exact⟨.inr ⟨rfl,rfl⟩,R7 _⟩
 ·exact⟨.inl ⟨rfl,rfl⟩,Nat.le_succ _⟩
theorem uf{I A:PH}{v vc:Value}{d:Array Nd}{a b c n sb:Nat}(hA:br I A v d.toList)(hc:jT aW cz vc)(ha:a<d.size)(hb:b<d.size)(ao:c<d.size)(hn:d.size<=aF)(hs:n<2^19):
  aO Tryz.prog 300 #[v,iv a,iv b,iv c,pt sb,vc] I [A,zz sb n] fun r I2 qs=>∃n2 m,n2<=n+3/\(m=a\/m=b\/m=c)/\qs=[A,zz sb n2]/\r=iv m:=by
 intro hd;obtain⟨f,fst,cap,rfl,gf,cf⟩:=id hc;obtain⟨va,vk,rfl⟩:=Ow.one' hA;refine ir 41 Tryz.func300 fun w0=>?_
 try simp only[iv,pt]
 refine Un ?_;refine f6 hd [0,1] [A,zz sb n] [] rfl xL rfl (tH (a:=a) (b:=b) hA hc ha hb hn Vi) fun v I2 qs an aa hq=>?_;obtain⟨rfl,rfl⟩:=hq;obtain⟨p1,p2⟩:=pI d a b n;generalize Sort.order2 cz d a b n=r1 at *;simp only[Z3]at an |-;refine Uz ?_;have u1:r1.2.1<d.size/\r1.1<d.size:=by rcases p1 with p|p<;>omega
 refine f6 an [0,1] [A,zz sb r1.2.2] [] rfl xL rfl (tH (a:=r1.2.1) (b:=c) (br.le hA aa) hc u1.1 ao hn Vi) fun v I3 qs am ac hq=>?_;obtain⟨rfl,rfl⟩:=hq;obtain⟨q1,q2⟩:=pI d r1.2.1 c r1.2.2;generalize Sort.order2 cz d r1.2.1 c r1.2.2=r2 at *;simp only[Z3]at am |-;refine Uz ?_;have u2:r2.1<d.size:=by rcases q1 with q|q<;>omega
 refine f6 am [0,1] [A,zz sb r2.2.2] [] rfl xL rfl (tH (a:=r1.1) (b:=r2.1) (br.le hA (Ui aa ac)) hc u1.2 u2 hn Vi) fun v I4 qs ak aj hq=>?_;obtain⟨rfl,rfl⟩:=hq;obtain⟨s1,s2⟩:=pI d r1.1 r2.1 r2.2.2;generalize Sort.order2 cz d r1.1 r2.1 r2.2.2=r3 at *;simp only[Z3]at ak |-;refine Uz ?_;exact ai rfl ak (r:=[iv r3.2.1]) rfl (Ui aa (Ui ac aj)) ⟨r3.2.2,r3.2.1,Vi,by rcases p1 with p|p<;>rcases q1 with q|q<;>rcases s1 with s|s<;>omega,rfl,rfl⟩
theorem sG{I A:PH}{v vc:Value}{d:Array Nd}{a n sb:Nat}(hA:br I A v d.toList)(hc:jT aW cz vc)(h1:1<=a)(ha:a+1<d.size)(hn:d.size<=aF)(hs:n<2^19):
  aO Tryz.prog 299 #[v,iv a,pt sb,vc] I [A,zz sb n] fun r I2 qs=>∃n2 m,n2<=n+3/\a-1<=m/\m<=a+1/\qs=[A,zz sb n2]/\r=iv m:=by
 intro hd;have aj:=hn;unfold aF at aj;obtain⟨f,fst,cap,rfl,gf,cf⟩:=id hc;obtain⟨va,vk,rfl⟩:=Ow.one' hA;refine ir 18 Tryz.func299 fun w0=>?_
 try simp only[iv,pt]
 have w2:IntKind.i64.wrap ((a:Int)-1)=((a-1:Nat):Int):=by rw[gd Vi];omega
 have w1:IntKind.i64.wrap ((a:Int)+1)=((a+1:Nat):Int):=by
  have e0:(a:Int)+1=((a+1:Nat):Int):=by omega
  rw[e0];exact wrap64 Vi
 apply RG;simp only[go_sem,w1,w2];refine f6 hd [0,1] [A,zz sb n] [] rfl ww rfl (uf (a:=a-1) (b:=a) (c:=a+1) hA hc Vi Vi Vi hn hs) fun v I2 qs ac aa hq=>?_;obtain⟨n2,m,p1,p2,rfl,rfl⟩:=hq;simp only[Z3]at ac |-;refine Uz ?_;exact ai rfl ac (r:=[iv m]) rfl aa ⟨n2,m,p1,Vi,Vi,rfl,rfl⟩
theorem JX{I A:PH}{v vc:Value}{d:Array Nd}{a b:Nat}(hA:br I A v d.toList)(hc:jT aW cz vc)(bc:12<b-a)(hb:b<=d.size)(hn:d.size<=aF):
  aO Tryz.prog 274 #[v,iv a,iv b,vc] I [A] fun r I2 qs=>∃m h,a<=m/\m<b/\h<=2/\qs=[A]/\r=.tuple #[iv m,iv h]:=by
 intro hd;have a7:=hn;unfold aF at a7;obtain⟨f,fst,cap,rfl,gf,cf⟩:=id hc;obtain⟨va,vk,rfl⟩:=Ow.one' hA;refine ir 63 Tryz.func274 fun w0=>?_
 try simp only[iv,pt]
 have w1:IntKind.i64.wrap ((b:Int)-(a:Int))=((b-a:Nat):Int):=by
  rw[bQ Vi Vi];omega
 obtain⟨q,hq⟩:∃q,q=(b-a) / 4:=⟨_,rfl⟩;have bb:4*q<=b-a:=by omega
 have ba:3<=q:=by omega
 have wq:IntKind.i64.wrap ((((b-a:Nat):Int)).tdiv 4)=(q:Int):=by
  rw[show (((b-a:Nat):Int)).tdiv 4=(((b-a) / 4:Nat):Int) from rfl,<-hq,wrap64 Vi]
 have m1:IntKind.i64.wrap ((q:Int)*1)=((q:Nat):Int):=by
  have e0:(q:Int)*1=((q:Nat):Int):=by omega
  rw[e0];exact wrap64 Vi
 have m2:IntKind.i64.wrap ((q:Int)*2)=((2*q:Nat):Int):=by
  have e0:(q:Int)*2=((2*q:Nat):Int):=by omega
  rw[e0];exact wrap64 Vi
 have m3:IntKind.i64.wrap ((q:Int)*3)=((3*q:Nat):Int):=by
  have e0:(q:Int)*3=((3*q:Nat):Int):=by omega
  rw[e0];exact wrap64 Vi
 have s1:IntKind.i64.wrap ((a:Int)+(q:Int))=((a+q:Nat):Int):=by
  have e0:(a:Int)+(q:Int)=((a+q:Nat):Int):=by omega
  rw[e0];exact wrap64 Vi
 have s2:IntKind.i64.wrap ((a:Int)+((2*q:Nat):Int))=((a+2*q:Nat):Int):=by
  have e0:(a:Int)+((2*q:Nat):Int)=((a+2*q:Nat):Int):=by omega
  rw[e0];exact wrap64 Vi
 have s3:IntKind.i64.wrap ((a:Int)+((3*q:Nat):Int))=((a+3*q:Nat):Int):=by
  have e0:(a:Int)+((3*q:Nat):Int)=((a+3*q:Nat):Int):=by omega
  rw[e0];exact wrap64 Vi
 have a6:decide (((b-a:Nat):Int)>=8)=true:=Uh Vi;apply bq 15;simp only[go_sem,w1];refine eP 11 hd rfl fun sb a5=>?_;have a9:Dj [I,zz sb 0,A]:=a5
 change RC _ _ _ (U [I,zz sb 0,A])
 clear a5;refine Um a9 [1,0] fun a4=>?_;rcases Sw (b-a) 50 with h5|h5
 ·have a1:decide (((b-a:Nat):Int)>=50)=false:=Ug Vi;apply RG;simp only[go_sem,kE,List.map,iv,pt,wq,m1,m2,m3,s1,s2,s3,a6,a1];refine f6 a4 [0,1] [A,zz sb 0] [] rfl ww rfl (uf (a:=a+q) (b:=a+2*q) (c:=a+3*q) (n:=0) hA hc Vi Vi Vi hn Vi) fun v I2 qs am aj hq=>?_;obtain⟨n2,m,p1,p2,rfl,rfl⟩:=hq;simp only[Z3]at am |-;refine Uz ?_;refine Qz (l:=[iv n2]) rfl (cellsU am (.tail _ (.tail _ (.head _))) (aU (by simp) rfl)) (.inr ⟨mF,rfl⟩) ?_;have hm:a<=m/\m<b:=by omega
  by_cases z0:n2=0
  ·have q0:((n2:Int) == 0)=true:=by rw[z0];rfl
   apply RG;simp only[go_sem,iv,q0];refine Um am [1,0] fun ac=>?_;refine ag ac fun I9 ac aa aS=>?_;exact ai rfl ac (r:=[iv m,iv 1]) rfl (Ui aj aa) ⟨m,1,hm.1,hm.2,Vi,rfl,rfl⟩
  ·have q0:((n2:Int) == 0)=false:=by rw[Uf];omega
   by_cases z1:n2=12
   ·have q1:((n2:Int) == 12)=true:=by rw[z1];rfl
    apply RG;simp only[go_sem,iv,q0,q1];refine Um am [1,0] fun ac=>?_;refine ag ac fun I9 ac aa aS=>?_;exact ai rfl ac (r:=[iv m,iv 2]) rfl (Ui aj aa) ⟨m,2,hm.1,hm.2,Vi,rfl,rfl⟩
   ·have q1:((n2:Int) == 12)=false:=by rw[Uf];omega
    apply RG;simp only[go_sem,iv,q0,q1];refine Um am [1,0] fun ac=>?_;refine ag ac fun I9 ac aa aS=>?_;exact ai rfl ac (r:=[iv m,iv 0]) rfl (Ui aj aa) ⟨m,0,hm.1,hm.2,Vi,rfl,rfl⟩
 ·have a1:decide (((b-a:Nat):Int)>=50)=true:=Uh Vi;apply RG;simp only[go_sem,kE,List.map,iv,pt,wq,m1,m2,m3,s1,s2,s3,a6,a1];refine f6 a4 [0,1] [A,zz sb 0] [] rfl wO rfl (sG (a:=a+q) (n:=0) hA hc Vi Vi hn Vi) fun v I2 qs am aj hq=>?_;obtain⟨n2,x1,p1,p2,p3,rfl,rfl⟩:=hq;simp only[Z3]at am |-;refine Uz ?_;refine f6 am [0,1] [A,zz sb n2] [] rfl wO rfl (sG (a:=a+2*q) (n:=n2) (br.le hA aj) hc Vi Vi hn Vi) fun v I3 qs a3 an hq=>?_;obtain⟨n3,x2,p4,p5,p6,rfl,rfl⟩:=hq;simp only[Z3]at a3 |-;refine Uz ?_;refine f6 a3 [0,1] [A,zz sb n3] [] rfl wO rfl (sG (a:=a+3*q) (n:=n3) (br.le hA (Ui aj an)) hc Vi Vi hn Vi) fun v I4 qs a2 ao hq=>?_;obtain⟨n4,x3,p7,p8,p9,rfl,rfl⟩:=hq;simp only[Z3]at a2 |-;refine Uz ?_;refine f6 a2 [0,1] [A,zz sb n4] [] rfl ww rfl (uf (a:=x1) (b:=x2) (c:=x3) (n:=n4) (br.le hA (Ui aj (Ui an ao))) hc Vi Vi Vi hn Vi) fun v I5 qs ap a0 hq=>?_;obtain⟨n5,m,p10,p11,rfl,rfl⟩:=hq;simp only[Z3]at ap |-;refine Uz ?_;have ak:=Ui aj (Ui an (Ui ao a0));refine Qz (l:=[iv n5]) rfl (cellsU ap (.tail _ (.tail _ (.head _))) (aU (by simp) rfl)) (.inr ⟨mF,rfl⟩) ?_;have hm:a<=m/\m<b:=by omega
  by_cases z0:n5=0
  ·have q0:((n5:Int) == 0)=true:=by rw[z0];rfl
   apply RG;simp only[go_sem,iv,q0];refine Um ap [1,0] fun ac=>?_;refine ag ac fun I9 ac aa aS=>?_;exact ai rfl ac (r:=[iv m,iv 1]) rfl (Ui ak aa) ⟨m,1,hm.1,hm.2,Vi,rfl,rfl⟩
  ·have q0:((n5:Int) == 0)=false:=by rw[Uf];omega
   by_cases z1:n5=12
   ·have q1:((n5:Int) == 12)=true:=by rw[z1];rfl
    apply RG;simp only[go_sem,iv,q0,q1];refine Um ap [1,0] fun ac=>?_;refine ag ac fun I9 ac aa aS=>?_;exact ai rfl ac (r:=[iv m,iv 2]) rfl (Ui ak aa) ⟨m,2,hm.1,hm.2,Vi,rfl,rfl⟩
   ·have q1:((n5:Int) == 12)=false:=by rw[Uf];omega
    apply RG;simp only[go_sem,iv,q0,q1];refine Um ap [1,0] fun ac=>?_;refine ag ac fun I9 ac aa aS=>?_;exact ai rfl ac (r:=[iv m,iv 0]) rfl (Ui ak aa) ⟨m,0,hm.1,hm.2,Vi,rfl,rfl⟩
end Go.Proofs.YtfaclfkpnmcmlaaGreatDoor
namespace Go.Sx
open Go
section
variable {C:Cx} {P:Program} {k:List Item} {σ:St} {H:PH}
theorem ul{zs:Array Value}{n:Nat}(h:zs.toList.all one=true):(Builtin.zeroCells zs n).toList.length=n*zs.size/\(Builtin.zeroCells zs n).toList.all one=true:=by
 constructor
 ·simp[Builtin.zeroCells]
 ·rw[SH];intro v hv;simp only[Builtin.zeroCells,Array.toList_map,SZ,Array.mem_toList_iff,Array.mem_range]at hv;obtain⟨i,hi,rfl⟩:=hv;have hz:0<zs.size:=by
   rcases TI zs.size with h0|h0
   ·rw[h0]at hi;simp at hi
   ·exact h0
  have hm:=Nat.mod_lt i hz;rw[getElem!_pos zs _ hm];exact List.all_eq_true.1 h _ (Array.mem_toList_iff.2 (Array.getElem_mem hm))
theorem Ay{t ty e:TypeId}{z:Value}{size:Nat}(hu:P.underlying t=some (.slice e))(hz:aI P e=some z)(ac:z.cells.size=size)(h1:z.cells.toList.all one=true){g o n c:Nat}{cur:Array Value}
  (hg:H g=some (.cells cur e (0,0))) (ak:o+n*size<=cur.size) (w:World) (hw:Sub H w) :
  ∃w2 ys,ys.length=n*size/\(Builtin.clear_ #[t] ty #[.slice (some ⟨g,o,none⟩) n c]).run P w=.ok (.tuple #[]) w2/\cS H w (H.put g (.cells (be cur.toList o ys).toArray e (0,0))) w2:=by
 cases n with
 |zero=>
  refine⟨w,[],by simp,by simp[Builtin.clear_,run_underlying hu],?_⟩;have e0:H.put g (.cells (be cur.toList o []).toArray e (0,0))=H:=by
   funext b;by_cases eb:b=g
   ·subst eb;simp[PH.put,be,hg]
   ·simp[PH.put,eb]
  rw[e0];exact cS.refl hw
 |succ n=>
 have aa:=hw _ _ hg;rw[show cur=cur.toList.toArray from by simp]at aa;obtain⟨q1,q2⟩:=ul (n:=n+1) h1;rw[ac]at q1;have aj:(zeroValue e).run P w=.ok z w:=by
  unfold aI at hz;cases hi:P.info? e with
  |none=>rw[hi]at hz;cases hz
  |some i=>
   rw[hi]at hz;have hz:i.zero=some z:=hz;simp[zeroValue,typeInfo,program,Sem.run,hi,hz,Result.andThen]
 obtain⟨w2,r1,r2,r3,r4,r5,r6,r7⟩:=fM (P:=P) g e (Builtin.zeroCells z.cells (n+1)).toList 0 o cur.toList w aa (by simp only[Sk]at *;omega) fun v hv=>List.all_eq_true.1 q2 v hv;refine⟨w2,_,q1,?_,?_⟩
 ·simp[Builtin.clear_,run_underlying hu,aj,Result.andThen,r1]
 ·refine⟨fun c o' h=>?_,Vi,fun c am hn=>r3 c (fun e=>by subst e;rw[hg]at hn;cases hn),fun c am hn=>?_,r5,r6,r7⟩
  ·by_cases e:c=g
   ·subst e;simp only[PH.put,R9]at h;cases h;simpa using r2
   ·simp only[PH.put,Sb e]at h;rw[r3 c e];exact hw _ _ h
  ·have:c≠g:=fun e=>by subst e;rw[hg]at hn;cases hn
   simp[PH.put,this,hn]
theorem Bf{o:Oper}{t e:TypeId}{z:Value}{size:Nat}{x:Operand}{g off n c:Nat}{cur:Array Value}(hu:P.underlying t=some (.slice e))(hz:aI P e=some z)(ak:z.cells.size=size)(h1:z.cells.toList.all one=true)(aj:o.op=.call ⟨.builtin .clear,#[x],#[t]⟩)
  (hx:ev σ x=.v (.slice (some ⟨g,off,none⟩) n c)) (hg:H g=some (.cells cur e (0,0))) (ac:off+n*size<=cur.size) :
  aR σ o.op=true/\co P (execOp (bp σ) o) H fun sv H2=>∃ys,sv=.v (.tuple #[])/\ys.length=n*size/\H2=H.put g (.cells (be cur.toList off ys).toArray e (0,0)):=by
 constructor
 ·simp[aR,aj,eL,Op.operands,Call.operands,hx,qy]
 ·intro w hw;obtain⟨w2,ys,hl,aa,st⟩:=Ay (ty:=o.type) (c:=c) hu hz ak h1 hg ac w hw;have:(execOp (bp σ) o).run P w=.ok (.value (.tuple #[])) w2:=by
   simp[execOp,aj,resolve,bp,hx,invoke,builtin,Result.andThen,aa]
  rw[this];exact⟨_,st,ys,rfl,hl,rfl⟩
theorem DL{ol rem:List Oper}{o:Oper}{t e:TypeId}{z:Value}{size:Nat}{x:Operand}{g off n c:Nat}{cur:Array Value}{I:PH}{l:List PH}(hd:Dj (I::sg g (.cells cur e (0,0))::l))(hu:C.P.underlying t=some (.slice e))(hz:aI C.P e=some z)(ac:z.cells.size=size)(h1:z.cells.toList.all one=true)
  (hw:aG ol σ o=some true) (aj:o.op=.call ⟨.builtin .clear,#[x],#[t]⟩) (hx:ev σ x=.v (.slice (some ⟨g,off,none⟩) n c)) (aa:off+n*size<=cur.size)
  (hk:∀ys,ys.length=n*size->Dj (I::sg g (.cells (be cur.toList off ys).toArray e (0,0))::l)->RC C (.op ol rem k) (σ.put o.dst (.v (.tuple #[]))) (U (I::sg g (.cells (be cur.toList off ys).toArray e (0,0))::l))):RC C (.op ol (o::rem) k) σ (U (I::sg g (.cells cur e (0,0))::l)):=by
 obtain⟨a,b⟩:=Bf (σ:=σ) hu hz ac h1 aj hx (cw hd _ _ (cP _ _)) aa;refine f9 hw a (b.mono fun sv H2 ⟨ys,e1,e2,e3⟩=>?_);subst e1;subst e3;obtain⟨e1,ak⟩:=nX (o':=.cells (be cur.toList off ys).toArray e (0,0)) hd;rw[e1];exact hk ys e2 ak
theorem iZ{ol:List Oper}{fr:gW}{str:gR}{r1 r2:List (Nat×Oper)}{i:Nat}{l':List (Nat×Oper)}{o:Oper}{T:TypeId}{x:Operand}{b off:Nat}{l:List Value}{v:Value}(hf:fr.j.contains i=true)(hJ:fr.J.le H)(hw:aG ol σ o=some true)(aa:o.op=.load T x)(hx:ev σ x=.v (.pointer (some ⟨b,off,none⟩)))(h:aQ fr.J b off l)
  (hT:aV C.P T=some (some l.length)/\v=.agg l.toArray\/aV C.P T=some none/\l=[v]) (hk:Hq C ol fr str r1 r2 l' k (σ.put o.dst (.v v)) H):Hq C ol fr str r1 r2 ((i,o)::l') k σ H:=by
 obtain⟨h1,h2⟩:=mW (P:=C.P) aa hx h hT;exact .inr ⟨hw,by rw[show nr o.op=.val by rw[aa];rfl];exact⟨_,.inr (.inr ⟨hf,hJ,v,rfl,h1,h2⟩),hk⟩⟩
theorem E6{α:Type}(S:α->St)(Q:α->PH->Prop){p:Prop}(h1:(∀a σ' H,Q a H->nh (S a).tm σ'.tm->od (S a).bx σ'.bx->RC C (.st k) σ' H)->p)(h2:∀a H,Q a H->RC C (.st k) (S a) H):p:=
 h1 fun a _ H hq ht hb=>dK ht hb (h2 a H hq)
theorem uD{id:Nat}{ops:Array Oper}(hm:C.P.follows .mixedOrders=true)(κ:List Nat)(p q:Nat)(r1 r2:List Nat)(fr str fj sj:List Nat)(J:PH)(aa:M8 ops.toList κ p q r1 r2 ⟨fr,fj,J,[],[]⟩ ⟨str,sj,[]⟩=true)(hs:wR σ.bx=true)
  (h:Hq C ops.toList ⟨fr,fj,J,[],[]⟩ ⟨str,sj,[]⟩ (pick ops.toList (p::q::r1)) (pick ops.toList (q::p::r2)) (pick ops.toList κ) k σ H):RC C (.st (.code (.region id ops true)::k)) σ H:=by
 have hk:=aa;simp only[M8,SG,SX,SR]at hk;obtain⟨⟨⟨⟨⟨⟨⟨⟨⟨⟨⟨⟨⟨⟨h1,h2⟩,aS⟩,aj⟩,ac⟩,ap⟩,ao⟩,an⟩,am⟩,ak⟩,a4⟩,a3⟩,a0⟩,a2⟩,a1⟩:=hk;have e1:=md am;have e2:=md ak;refine(show R C (.code (.region id ops true)::k) σ H from ro fun _ _ s g=>qD rfl hm aa (Aa hs) ?_ s g);refine qF κ (fun i hi=>e1 i (SM _ hi)) (sX (fun σ' H' hh=>⟨qF _ (fun i hi=>?_) hh.1,qF _ (fun i hi=>?_) hh.2⟩) _ h)
 ·rcases List.mem_cons.1 hi with rfl|hi
  ·exact aj
  ·exact e1 i (SN _ hi)
 ·rcases List.mem_cons.1 hi with rfl|hi
  ·exact ac
  ·exact e2 i (SN _ hi)
end
theorem cO{C:Cx}{k kx:List Item}{σ:St}{H:PH}{α:Type}{c:Code}(μ:α->Nat)(S:α->St)(Q E:α->PH->Prop)(a0:α)(hs:nh (S a0).tm σ.tm)(hb:od (S a0).bx σ.bx)(hq:Q a0 H)
  (h:∀a H,Q a H->(∀a' σ1 H',μ a'<μ a->nh (S a').tm σ1.tm->od (S a').bx σ1.bx->Q a' H'->RC C (.st (.inLoop c::k)) σ1 H')->(∀a' σ1 H',nh (S a').tm σ1.tm->od (S a').bx σ1.bx->E a' H'->RC C (.st kx) σ1 H')->RC C (.st (.code c::.inLoop c::k)) (S a) H)
  (rest:∀a H,E a H->RC C (.st kx) (S a) H):RC C (.st (.code (.loop c)::k)) σ H:=
 aB μ S Q a0 hs hb hq fun a H hq hn=>h a H hq hn fun a' σ1 H' h1 h2 h3=>dK h1 h2 (rest a' H' h3)
end Go.Sx
