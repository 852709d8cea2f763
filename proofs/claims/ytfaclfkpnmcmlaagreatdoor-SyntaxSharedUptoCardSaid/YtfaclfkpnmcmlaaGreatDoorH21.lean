import Derived.Test.YtfaclfkpnmcmlaaGreatDoorH00
import Derived.Test.YtfaclfkpnmcmlaaGreatDoorH13
import Derived.Test.YtfaclfkpnmcmlaaGreatDoorH19
import Derived.Test.YtfaclfkpnmcmlaaGreatDoorH20
import Derived.Shelf.LaysM
import Derived.Shelf.Strconv.Itoa3
import Derived.Shelf.LaysC
import Derived.Shelf.Strconv.AtoiAll
import Derived.Test.YtfaclfkpnmcmlaaGreatDoorProg
set_option maxHeartbeats 8000000
set_option linter.all false
namespace Go.Proofs.YtfaclfkpnmcmlaaGreatDoor
open Go Go.Sx Dg Syn
def Pq:aO Tryz.prog 217:=⟨_,Tryz.func217,rfl,rfl⟩
section
variable {C:Cx} {P:Program} {k:List Item} {σ:St} {H:PH}
variable{v:Value}{cs:Array Value}{kk:IntKind}{e:TypeId}
def Di{o:Oper}{T:TypeId}{len n:Nat}{x y:Operand}(ac:o.op=.index T x y)(hu:P.underlying T=some (.array len e))(hi:∃i,P.info? e=some i/\i.size=1)(ha:bk P e=some none)
  (hx:ev σ x=.v (.agg cs)) (hy:ev σ y=.v (.int kk n)) (hn:n<len) (hv:cs.toList[n]?=some v):bh σ o.op=true/\de P (execOp (bN σ) o) H fun sv H2=>sv=.v v/\H2=H:=by
 constructor
 ·simp[bh,ac,fT,Op.operands,hx,hy,ul]
 ·intro w hw;obtain⟨i,hi,hs⟩:=hi;have aj:(sizeOf e).run P w=.ok 1 w:=by simp[sizeOf,typeInfo,program,Sem.run,hi,hs]
  have hp:=qh (P:=P) (w:=w) (T:=e) (cs:=cs) (n:=n) (v:=v) (by unfold iR;rw[ha];exact hv);have h0:(0:Int)<=(n:Int)/\(n:Int)<(len:Int):=⟨ab,ab⟩;have aa:(execOp (bN σ) o).run P w=.ok (.value v) w:=by
   simp[execOp,ac,bN,hx,hy,Instr.index,asIntOf,bt hu,run_underlying hu,Result.andThen,aj,h0,hp,aaq hn]
  rw[aa];exact⟨H,dM.refl hw,rfl,rfl⟩
def Jx{ol rem:List Oper}{o:Oper}{T:TypeId}{len n:Nat}{x y:Operand}(hw:aH ol σ o=some true)(aa:o.op=.index T x y)(hu:C.P.underlying T=some (.array len e))(hi:∃i,C.P.info? e=some i/\i.size=1)(ha:bk C.P e=some none)
  (hx:ev σ x=.v (.agg cs)) (hy:ev σ y=.v (.int kk n)) (hn:n<len) (hv:cs.toList[n]?=some v) (hk:RC C (.op ol rem k) (σ.put o.dst (.v v)) H):RC C (.op ol (o::rem) k) σ H:=by
 obtain⟨a,b⟩:=Di (H:=H) aa hu hi ha hx hy hn hv;exact iU hw a (b.mono fun sv H2 ⟨e1,e2⟩=>by subst e1;subst e2;exact hk)
end
def f4:List bq:=[[60,61],[62,61],[61,61],[33,61],[38,38],[124,124],[43],[45],[42],[47],[37],[60],[62],[61],[33],[40],[41],[123],[125],[44],[59],[58]]
def pQ:List Value:=f4.map fun x=>.string ⟨⟨x⟩⟩
def sX(H:PH):Prop:=aP H 0 0 pQ
def sX.le{I J:PH}(h:sX I)(k:I.le J):sX J:=aP.le h k
theorem Rj:Tryz.prog.underlying 317=some (.array 22 9):=by kernel_rfl
theorem Yh:(Tryz.prog.info? 9).map (·.size)=some 1:=by kernel_rfl
def Zz:∃i,Tryz.prog.info? 9=some i/\i.size=1:=by
 have h:=Yh;cases e:Tryz.prog.info? 9 with
 |none=>rw[e]at h;cases h
 |some i=>rw[e]at h;exact⟨i,rfl,aaZ h⟩
def WD(i sb k:Nat):St:=⟨dn 18 [(0,.v (iv i)),(1,.v (pt sb)),(7,.v (.agg pQ.toArray)),(8,.v (iv k))],[]⟩
def BU(s:bq)(i:Nat):Value:=match f4.find? fun x=>x.isPrefixOf (s.drop i)with
 |some x=>.tuple #[.int .u8 3,.string ⟨⟨x⟩⟩]
 |none=>.tuple #[.int .u8 0,.string ⟨⟨[]⟩⟩]
def SW{H:PH}{sb i:Nat}{s:bq}(hG:sX H)(hs:aP H sb 0 [.string ⟨⟨s⟩⟩])(hi:i<=s.length)(hl:s.length<2^60):
  bO Tryz.prog 217 #[iv i,pt sb] H fun v H2=>v=BU s i/\H2=H:=by
 refine ah 18 Tryz.func217 fun w0=>?_
 try simp only[iv,pt]
 refine aT ?_;refine XN (l:=pQ) (v:=.agg pQ.toArray) rfl hG (.inl ⟨Ry,rfl⟩) ?_;refine aT ?_;refine aA (fun k=>22-k) (WD i sb) (fun k H2=>H2=H/\k<=22/\f4.find? (fun x=>x.isPrefixOf (s.drop i))=(f4.drop k).find? fun x=>x.isPrefixOf (s.drop i)) 0 gP (by simp only[go_sem,aa6,WD]) ⟨rfl,aaL _,rfl⟩ ?_;rintro k H2 ⟨rfl,hk,hf⟩ aa;simp only[WD];rcases aaf k 22 with ac|ak
 ·have h9:decide ((k:Int)<22)=true:=abU ab;have e1:IntKind.i64.wrap ((k:Int)+1)=((k+1:Nat):Int):=by rw[<-wrap64 (n:=k+1) ab];congr 1
  obtain⟨x,hx⟩:∃x,f4[k]?=some x:=⟨_,aak (by simpa[f4]using ac)⟩;have hd:f4.drop k=x::f4.drop (k+1):=by
   have aj:k<f4.length:=by simpa[f4]using ac
   rw[aaK aj];rw[aak aj]at hx;rw[aaZ hx]
  have hv:pQ.toArray.toList[k]?=some (.string ⟨⟨x⟩⟩):=by simp[pQ,hx]
  have tk:(s.drop i).take (s.length-i)=s.drop i:=abG (by simp);rw[hd,List.find?_cons]at hf;apply RG;simp only[go_sem,iv,pt,h9];refine Jx (n:=k) rfl rfl (by exact Rj) Zz (by exact tL) rfl rfl ac hv ?_;refine ll ?_;refine XN (l:=[.string ⟨⟨s⟩⟩]) rfl hs (.inr ⟨tL,rfl⟩) ?_;apply RG;simp only[go_sem,bi,oJ,tk];refine⟨ab,?_⟩;refine WZ rfl Hb (CF _ _ _) fun v H2 hv=>?_;obtain⟨rfl,rfl⟩:=hv;cases hp:x.isPrefixOf (s.drop i)
  ·rw[hp]at hf;apply RG;simp only[go_sem,e1];exact aa (k+1) _ _ ab gP (by simp only[go_sem,aa6,WD]) ⟨rfl,ac,hf⟩
  ·rw[hp]at hf;refine aT ?_;exact aJ (r:=[_,_]) rfl ⟨by unfold BU;rw[hf];rfl,rfl⟩
 ·have:k=22:=by omega
  subst this;have h9:decide ((22:Int)<22)=false:=by decide
  apply RG;simp only[go_sem,iv,pt,abo,h9];exact aJ (r:=[_,_]) rfl ⟨by unfold BU;rw[hf];rfl,rfl⟩
end Go.Proofs.YtfaclfkpnmcmlaaGreatDoor
namespace Go.Proofs
open Go.Shelf
def Tryz.lays171_ren:Go.Shelf.Ren:=⟨fun|171=>268|243=>295|246=>308|283=>315|284=>316|285=>317|286=>318|129=>280|317=>321|318=>322|319=>323|320=>324|337=>325|338=>326|n=>n,fun|3=>3|9=>9|2=>2|4=>4|171=>398|0=>0|53=>366|37=>268|5=>5|173=>400|212=>406|51=>23|20=>20|213=>407|46=>325|232=>408|233=>409|n=>n,fun|17=>3|18=>4|19=>5|n=>n⟩
theorem Tryz.lays171:Go.Proofs.Lays.n171 Tryz.prog Tryz.lays171_ren:={
 mixed:=by kernel_rfl
 f129:=Tryz.func280.trans (congrArg some (by kernel_rfl))
 f171:=Tryz.func268.trans (congrArg some (by kernel_rfl))
 f243:=Tryz.func295.trans (congrArg some (by kernel_rfl))
 f246:=Tryz.func308.trans (congrArg some (by kernel_rfl))
 f283:=Tryz.func315.trans (congrArg some (by kernel_rfl))
 f284:=Tryz.func316.trans (congrArg some (by kernel_rfl))
 f285:=Tryz.func317.trans (congrArg some (by kernel_rfl))
 f286:=Tryz.func318.trans (congrArg some (by kernel_rfl))
 f317:=Tryz.func321.trans (congrArg some (by kernel_rfl))
 f318:=Tryz.func322.trans (congrArg some (by kernel_rfl))
 f319:=Tryz.func323.trans (congrArg some (by kernel_rfl))
 f320:=Tryz.func324.trans (congrArg some (by kernel_rfl))
 f337:=Tryz.func325.trans (congrArg some (by kernel_rfl))
 f338:=Tryz.func326.trans (congrArg some (by kernel_rfl))
 t0:=Tryz.underlying0
 a0:=Tryz.isAgg0
 z0:=Tryz.sizeOf0
 v0:=Tryz.zeroValue0
 t2:=Tryz.underlying2
 a2:=Tryz.isAgg2
 z2:=Tryz.sizeOf2
 v2:=Tryz.zeroValue2
 t3:=Tryz.underlying3
 a3:=Tryz.isAgg3
 z3:=Tryz.sizeOf3
 v3:=Tryz.zeroValue3
 t4:=Tryz.underlying4
 a4:=Tryz.isAgg4
 z4:=Tryz.sizeOf4
 v4:=Tryz.zeroValue4
 t5:=Tryz.underlying5
 a5:=Tryz.isAgg5
 z5:=Tryz.sizeOf5
 v5:=Tryz.zeroValue5
 t9:=Tryz.underlying9
 a9:=Tryz.isAgg9
 z9:=Tryz.sizeOf9
 v9:=Tryz.zeroValue9
 t20:=Tryz.underlying20
 a20:=Tryz.isAgg20
 z20:=Tryz.sizeOf20
 v20:=Tryz.zeroValue20
 t37:=Tryz.underlying268
 a37:=Tryz.isAgg268
 z37:=Tryz.sizeOf268
 v37:=Tryz.zeroValue268
 t46:=Tryz.underlying325
 a46:=Tryz.isAgg325
 z46:=Tryz.sizeOf325
 v46:=Tryz.zeroValue325
 t51:=Tryz.underlying23
 a51:=Tryz.isAgg23
 z51:=Tryz.sizeOf23
 v51:=Tryz.zeroValue23
 t53:=Tryz.underlying366
 a53:=Tryz.isAgg366
 z53:=Tryz.sizeOf366
 v53:=Tryz.zeroValue366
 t171:=Tryz.underlying398
 a171:=Tryz.isAgg398
 z171:=Tryz.sizeOf398
 v171:=Tryz.zeroValue398
 t173:=Tryz.underlying400
 a173:=Tryz.isAgg400
 z173:=Tryz.sizeOf400
 v173:=Tryz.zeroValue400
 t212:=Tryz.underlying406
 a212:=Tryz.isAgg406
 z212:=Tryz.sizeOf406
 v212:=Tryz.zeroValue406
 t213:=Tryz.underlying407
 a213:=Tryz.isAgg407
 z213:=Tryz.sizeOf407
 t232:=Tryz.underlying408
 a232:=Tryz.isAgg408
 z232:=Tryz.sizeOf408
 v232:=Tryz.zeroValue408
 t233:=Tryz.underlying409
 a233:=Tryz.isAgg409
 z233:=Tryz.sizeOf409
 v233:=Tryz.zeroValue409
 g17:=by kernel_rfl
 g18:=by kernel_rfl
 g19:=by kernel_rfl }
def Tryz.laysC172_ren:Go.Shelf.Ren:=⟨fun|172=>267|244=>293|245=>294|247=>303|279=>304|280=>305|281=>306|282=>307|287=>312|316=>313|171=>268|205=>314|321=>319|322=>320|243=>295|246=>308|283=>315|284=>316|285=>317|286=>318|129=>280|317=>321|318=>322|319=>323|320=>324|337=>325|338=>326|n=>n,fun|9=>9|3=>3|75=>284|76=>285|4=>4|5=>5|167=>383|37=>268|0=>0|85=>384|2=>2|168=>386|53=>366|175=>393|46=>325|210=>396|127=>343|145=>405|143=>403|21=>21|171=>398|173=>400|212=>406|51=>23|20=>20|213=>407|232=>408|233=>409|80=>223|n=>n,fun|15=>1|16=>2|17=>3|18=>4|19=>5|n=>n⟩
theorem Tryz.laysC172:Go.Proofs.LaysC.n172 Tryz.prog Tryz.laysC172_ren:={
 mixed:=by kernel_rfl
 f129:=Tryz.func280.trans (congrArg some (by kernel_rfl))
 f171:=Tryz.func268.trans (congrArg some (by kernel_rfl))
 f172:=Tryz.func267.trans (congrArg some (by kernel_rfl))
 f205:=Tryz.func314.trans (congrArg some (by kernel_rfl))
 f243:=Tryz.func295.trans (congrArg some (by kernel_rfl))
 f244:=Tryz.func293.trans (congrArg some (by kernel_rfl))
 f245:=Tryz.func294.trans (congrArg some (by kernel_rfl))
 f246:=Tryz.func308.trans (congrArg some (by kernel_rfl))
 f247:=Tryz.func303.trans (congrArg some (by kernel_rfl))
 f279:=Tryz.func304.trans (congrArg some (by kernel_rfl))
 f280:=Tryz.func305.trans (congrArg some (by kernel_rfl))
 f281:=Tryz.func306.trans (congrArg some (by kernel_rfl))
 f282:=Tryz.func307.trans (congrArg some (by kernel_rfl))
 f283:=Tryz.func315.trans (congrArg some (by kernel_rfl))
 f284:=Tryz.func316.trans (congrArg some (by kernel_rfl))
 f285:=Tryz.func317.trans (congrArg some (by kernel_rfl))
 f286:=Tryz.func318.trans (congrArg some (by kernel_rfl))
 f287:=Tryz.func312.trans (congrArg some (by kernel_rfl))
 f316:=Tryz.func313.trans (congrArg some (by kernel_rfl))
 f317:=Tryz.func321.trans (congrArg some (by kernel_rfl))
 f318:=Tryz.func322.trans (congrArg some (by kernel_rfl))
 f319:=Tryz.func323.trans (congrArg some (by kernel_rfl))
 f320:=Tryz.func324.trans (congrArg some (by kernel_rfl))
 f321:=Tryz.func319.trans (congrArg some (by kernel_rfl))
 f322:=Tryz.func320.trans (congrArg some (by kernel_rfl))
 f337:=Tryz.func325.trans (congrArg some (by kernel_rfl))
 f338:=Tryz.func326.trans (congrArg some (by kernel_rfl))
 t0:=Tryz.underlying0
 a0:=Tryz.isAgg0
 z0:=Tryz.sizeOf0
 v0:=Tryz.zeroValue0
 t2:=Tryz.underlying2
 a2:=Tryz.isAgg2
 z2:=Tryz.sizeOf2
 v2:=Tryz.zeroValue2
 t3:=Tryz.underlying3
 a3:=Tryz.isAgg3
 z3:=Tryz.sizeOf3
 v3:=Tryz.zeroValue3
 t4:=Tryz.underlying4
 a4:=Tryz.isAgg4
 z4:=Tryz.sizeOf4
 v4:=Tryz.zeroValue4
 t5:=Tryz.underlying5
 a5:=Tryz.isAgg5
 z5:=Tryz.sizeOf5
 v5:=Tryz.zeroValue5
 t9:=Tryz.underlying9
 a9:=Tryz.isAgg9
 z9:=Tryz.sizeOf9
 v9:=Tryz.zeroValue9
 t20:=Tryz.underlying20
 a20:=Tryz.isAgg20
 z20:=Tryz.sizeOf20
 v20:=Tryz.zeroValue20
 t21:=Tryz.underlying21
 a21:=Tryz.isAgg21
 z21:=Tryz.sizeOf21
 v21:=Tryz.zeroValue21
 t37:=Tryz.underlying268
 a37:=Tryz.isAgg268
 z37:=Tryz.sizeOf268
 v37:=Tryz.zeroValue268
 t46:=Tryz.underlying325
 a46:=Tryz.isAgg325
 z46:=Tryz.sizeOf325
 v46:=Tryz.zeroValue325
 t51:=Tryz.underlying23
 a51:=Tryz.isAgg23
 z51:=Tryz.sizeOf23
 v51:=Tryz.zeroValue23
 t53:=Tryz.underlying366
 a53:=Tryz.isAgg366
 z53:=Tryz.sizeOf366
 v53:=Tryz.zeroValue366
 t75:=Tryz.underlying284
 a75:=Tryz.isAgg284
 z75:=Tryz.sizeOf284
 v75:=Tryz.zeroValue284
 t76:=Tryz.underlying285
 a76:=Tryz.isAgg285
 z76:=Tryz.sizeOf285
 v76:=Tryz.zeroValue285
 t85:=Tryz.underlying384
 a85:=Tryz.isAgg384
 z85:=Tryz.sizeOf384
 v85:=Tryz.zeroValue384
 t127:=Tryz.underlying343
 a127:=Tryz.isAgg343
 z127:=Tryz.sizeOf343
 v127:=Tryz.zeroValue343
 t143:=Tryz.underlying403
 a143:=Tryz.isAgg403
 z143:=Tryz.sizeOf403
 v143:=Tryz.zeroValue403
 t145:=Tryz.underlying405
 a145:=Tryz.isAgg405
 z145:=Tryz.sizeOf405
 v145:=Tryz.zeroValue405
 t167:=Tryz.underlying383
 a167:=Tryz.isAgg383
 z167:=Tryz.sizeOf383
 v167:=Tryz.zeroValue383
 t168:=Tryz.underlying386
 a168:=Tryz.isAgg386
 z168:=Tryz.sizeOf386
 v168:=Tryz.zeroValue386
 t171:=Tryz.underlying398
 a171:=Tryz.isAgg398
 z171:=Tryz.sizeOf398
 v171:=Tryz.zeroValue398
 t173:=Tryz.underlying400
 a173:=Tryz.isAgg400
 z173:=Tryz.sizeOf400
 v173:=Tryz.zeroValue400
 t175:=Tryz.underlying393
 a175:=Tryz.isAgg393
 z175:=Tryz.sizeOf393
 v175:=Tryz.zeroValue393
 t210:=Tryz.underlying396
 a210:=Tryz.isAgg396
 z210:=Tryz.sizeOf396
 v210:=Tryz.zeroValue396
 t212:=Tryz.underlying406
 a212:=Tryz.isAgg406
 z212:=Tryz.sizeOf406
 v212:=Tryz.zeroValue406
 t213:=Tryz.underlying407
 a213:=Tryz.isAgg407
 z213:=Tryz.sizeOf407
 t232:=Tryz.underlying408
 a232:=Tryz.isAgg408
 z232:=Tryz.sizeOf408
 v232:=Tryz.zeroValue408
 t233:=Tryz.underlying409
 a233:=Tryz.isAgg409
 z233:=Tryz.sizeOf409
 v233:=Tryz.zeroValue409
 g15:=by kernel_rfl
 g16:=by kernel_rfl
 g17:=by kernel_rfl
 g18:=by kernel_rfl
 g19:=by kernel_rfl
 t80:=Tryz.underlying223
 a80:=Tryz.isAgg223
 z80:=Tryz.sizeOf223
 v80:=Tryz.zeroValue223
 i0:=by kernel_rfl
 i2:=by kernel_rfl
 i3:=by kernel_rfl
 i4:=by kernel_rfl
 i5:=by kernel_rfl
 i9:=by kernel_rfl
 i20:=by kernel_rfl
 i21:=by kernel_rfl
 i37:=by kernel_rfl
 i46:=by kernel_rfl
 i51:=by kernel_rfl
 i53:=by kernel_rfl
 i75:=by kernel_rfl
 i76:=by kernel_rfl
 i80:=by kernel_rfl
 i85:=by kernel_rfl
 i127:=by kernel_rfl
 i143:=by kernel_rfl
 i145:=by kernel_rfl
 i167:=by kernel_rfl
 i168:=by kernel_rfl
 i171:=by kernel_rfl
 i173:=by kernel_rfl
 i175:=by kernel_rfl
 i210:=by kernel_rfl
 i212:=by kernel_rfl
 i232:=by kernel_rfl
 i233:=by kernel_rfl
 m15:=by kernel_rfl
 m16:=by kernel_rfl
 m17:=by kernel_rfl
 m18:=by kernel_rfl
 m19:=by kernel_rfl
 c0:=by kernel_rfl
 c2:=by kernel_rfl
 c3:=by kernel_rfl
 c4:=by kernel_rfl
 c5:=by kernel_rfl
 c9:=by kernel_rfl
 c20:=by kernel_rfl
 c21:=by kernel_rfl
 c37:=by kernel_rfl
 c46:=by kernel_rfl
 c51:=by kernel_rfl
 c53:=by kernel_rfl
 c75:=by kernel_rfl
 c76:=by kernel_rfl
 c80:=by kernel_rfl
 c85:=by kernel_rfl
 c127:=by kernel_rfl
 c143:=by kernel_rfl
 c145:=by kernel_rfl
 c167:=by kernel_rfl
 c168:=by kernel_rfl
 c171:=by kernel_rfl
 c173:=by kernel_rfl
 c175:=by kernel_rfl
 c210:=by kernel_rfl
 c212:=by kernel_rfl
 c213:=by kernel_rfl
 c232:=by kernel_rfl
 c233:=by kernel_rfl }
open Go.RowKit in
theorem Tryz.strconv_Atoi_ok(s:ByteArray)(aa:s.size<=9223372036854775806)(v:Int)(h:Lib.atoiAll s.data.toList=.ok v)(w:World):
  Calls Tryz.prog 267 #[.string s] w fun e w'=>e=.returned (.tuple #[.int .i64 v,.nilIface])/\(w'=w\/∃t,w'=Lib.bytesWorld w 5 t):=Any.strconv_Atoi_ok Tryz.laysC172 s aa v h w
open Go.RowKit in
theorem Tryz.strconv_Atoi_syntax(s:ByteArray)(aa:s.size<=281474976710656)(h:Lib.atoiAll s.data.toList=Lib.NumEnd.syntax)(ev:Value)(w:World)(hv:w.cell? ⟨1,0,none⟩=some ev)(ac:ev=.nilIface\/∃te pe,ev=.iface te pe):
  Calls Tryz.prog 267 #[.string s] w fun e w'=>∃N,e=.returned (.tuple #[.int .i64 (0),.iface 386 (.pointer (some ⟨N,0,none⟩))])/\w.heap.size<=N/\w'.heap[N]?=some (.cells #[.string ⟨#[65,116,111,105]⟩,.string s,ev] 396 (0,0))/\Below w.heap.size w w':=Any.strconv_Atoi_syntax Tryz.laysC172 s aa h ev w hv ac
theorem Tryz.laysM171:Go.Proofs.LaysM.n171 Tryz.prog Tryz.lays171_ren:={ Tryz.lays171 with
 i0:=by kernel_rfl
 i2:=by kernel_rfl
 i3:=by kernel_rfl
 i4:=by kernel_rfl
 i5:=by kernel_rfl
 i9:=by kernel_rfl
 i20:=by kernel_rfl
 i37:=by kernel_rfl
 i46:=by kernel_rfl
 i51:=by kernel_rfl
 i53:=by kernel_rfl
 i171:=by kernel_rfl
 i173:=by kernel_rfl
 i212:=by kernel_rfl
 i232:=by kernel_rfl
 i233:=by kernel_rfl
 m17:=by kernel_rfl
 m18:=by kernel_rfl
 m19:=by kernel_rfl }
open Go.RowKit in
theorem Tryz.strconv_Atoi_range(s:ByteArray)(aa:s.size<=281474976710656)(h:Lib.atoiAll s.data.toList=.range)(ev:Value)(w:World)(hv:w.cell? ⟨2,0,none⟩=some ev)(ac:ev=.nilIface\/∃te pe,ev=.iface te pe):
  Calls Tryz.prog 267 #[.string s] w fun e w'=>∃N,e=.returned (.tuple #[.int .i64 (Lib.atoiSat s.data.toList),.iface 386 (.pointer (some ⟨N,0,none⟩))])/\w.heap.size<=N/\w'.heap[N]?=some (.cells #[.string ⟨#[65,116,111,105]⟩,.string s,ev] 396 (0,0))/\Below w.heap.size w w':=Any.strconv_Atoi_range Tryz.laysC172 s aa h ev w hv ac
open Go.Sort in
theorem Tryz.strconv_Itoa (n:Int) (h0:-9223372036854775808<=n) (h1:n<=9223372036854775807) (w:World) (aa:Lib.TabIs Tryz.prog w "internal/strconv.uint64pow10" .u64 Lib.pow10Tab) :
  Calls Tryz.prog 268 #[.int .i64 n] w fun e w'=>e=.returned (.string ⟨(Lib.itoa n).toArray⟩)/\∃k os,w'=grow (w.drewN k) os:=Any.strconv_Itoa Tryz.laysM171 n h0 h1 w aa
end Go.Proofs
namespace Go.Proofs.YtfaclfkpnmcmlaaGreatDoor
open Go Go.Sx Dg Syn
def Aq:aO Tryz.prog 267:=⟨_,Tryz.func267,rfl,rfl⟩
def Qt:aO Tryz.prog 268:=⟨_,Tryz.func268,rfl,rfl⟩
def Qy:aO Tryz.prog 216:=⟨_,Tryz.func216,rfl,rfl⟩
def Qk:aO Tryz.prog 215:=⟨_,Tryz.func215,rfl,rfl⟩
section
variable {C:Cx} {P:Program} {k:List Item} {σ:St} {H:PH}
variable{v:Value}{ms:Array (String×TypeId)}{T2:TypeId}
def Ja{o:Oper}{T:TypeId}{x y:Operand}{b:Bool}(ac:o.op=.binOp .eql T x y T2)(hu:P.underlying T=some (.interface ms))
  (hx:ev σ x=.v v) (hc:y=.const .nilIface) (hv:v=.nilIface/\b=true\/(∃t p,v=.iface t p)/\b=false) :
  bh σ o.op=true/\de P (execOp (bN σ) o) H fun sv H2=>sv=.v (.bool b)/\H2=H:=by
 subst hc;have hy:ev σ (.const .nilIface)=.v .nilIface:=rfl;constructor
 ·simp[bh,ac,fT,Op.operands,hx,hy,ul]
 ·intro w hw;have aa:(execOp (bN σ) o).run P w=.ok (.value (.bool b)) w:=by
   have:∀k,Op.maxDepth=k+1->(Op.equal T v .nilIface).run P w=.ok b w:=by
    intro k hk;unfold Op.equal;rw[hk];rcases hv with ⟨rfl,rfl⟩|⟨⟨t,p,rfl⟩,rfl⟩<;>simp[Op.equalIn,run_underlying hu,ZY,Result.andThen]
   have hh:=this 9999 rfl;rcases hv with ⟨rfl,rfl⟩|⟨⟨t,p,rfl⟩,rfl⟩<;>simp[execOp,ac,bN,hx,hy,eqGuard,binOp,ZY,hh,Result.andThen]
  rw[aa];exact⟨H,dM.refl hw,rfl,rfl⟩
def wh{ol rem:List Oper}{o:Oper}{T:TypeId}{x y:Operand}(b:Bool)(hw:aH ol σ o=some true)(aa:o.op=.binOp .eql T x y T2)(hu:C.P.underlying T=some (.interface ms))
  (hx:ev σ x=.v v) (hc:y=.const .nilIface) (hv:v=.nilIface/\b=true\/(∃t p,v=.iface t p)/\b=false) (hk:RC C (.op ol rem k) (σ.put o.dst (.v (.bool b))) H):RC C (.op ol (o::rem) k) σ H:=by
 obtain⟨p,q⟩:=Ja (H:=H) aa hu hx hc hv;exact iU hw p (q.mono fun sv H2 ⟨e1,e2⟩=>by subst e1;subst e2;exact hk)
end
def zN:∃ms,Tryz.prog.underlying 284=some (.interface ms):=⟨_,Tryz.underlying284⟩
def dM.below{H:PH}{w w2:World}(hw:Sx.Sub H w)(h:RowKit.Below w.heap.size w w2):dM H w H w2 where
 sub b o hb:=by
  have h1:=hw b o hb;have:b<w.heap.size:=by
   rcases aaf b w.heap.size with h|h
   ·exact h
   ·rw[aag h]at h1;cases h1
  rw[h.block b this];exact h1
 size:=h.size
 priv b hb _:=h.block b hb
 dom _ _ h:=h
 os:=h.os
 tape:=h.tape
 out:=h.output
variable{s:bq}
def QE{H:PH}{v:Int}(hl:s.length<2^40)(h:Lib.atoiAll s=.ok v):bO Tryz.prog 267 #[.string ⟨⟨s⟩⟩] H fun r H2=>r=.tuple #[.int .i64 v,.nilIface]/\H2=H:=by
 intro w hw;refine(Tryz.strconv_Atoi_ok ⟨⟨s⟩⟩ (by (try simp only[bi]);omega) v h w).mono ?_;rintro e w2 ⟨rfl,hW⟩;refine⟨H,dM.below hw ?_,rfl,rfl⟩;rcases hW with rfl|⟨t,rfl⟩
 ·exact RowKit.Below.refl _ _
 ·exact Lib.bytesWorld_below _ _ _
def D0(H:PH):Prop:=∃te pe,aP H 1 0 [.iface te pe]
variable{I J:PH}
def D0.le(h:D0 I)(k:I.le J):D0 J:=let ⟨a,b,c⟩:=h;⟨a,b,aP.le c k⟩
def QD{H:PH}(hl:s.length<2^40)(h:Lib.atoiAll s=Lib.NumEnd.syntax)(hE:D0 H):bO Tryz.prog 267 #[.string ⟨⟨s⟩⟩] H fun r H2=>(∃p,r=.tuple #[.int .i64 0,.iface 386 p])/\H2=H:=by
 intro w hw;obtain⟨te,pe,cs,ty,fz,h1,h2,h3⟩:=hE;have hb:=hw 1 _ h1;have hv:w.cell? ⟨1,0,none⟩=some (.iface te pe):=by
  have hc:cs[0]?=some (.iface te pe):=by
   have:=congrArg (fun l:List Value=>l[0]?) h3;simpa using this
  simp[World.cell?,hb,hc]
 refine(Tryz.strconv_Atoi_syntax ⟨⟨s⟩⟩ (by (try simp only[bi]);omega) h _ w hv (.inr ⟨te,pe,rfl⟩)).mono ?_;rintro e w2 ⟨N,rfl,_,_,hW⟩;exact⟨H,dM.below hw hW,⟨_,rfl⟩,rfl⟩
def wR(H:PH):Prop:=∃te pe,aP H 2 0 [.iface te pe]
def wR.le(h:wR I)(k:I.le J):wR J:=let ⟨a,b,c⟩:=h;⟨a,b,aP.le c k⟩
def M7{H:PH}(hl:s.length<2^40)(h:Lib.atoiAll s=.range)(hE:wR H):bO Tryz.prog 267 #[.string ⟨⟨s⟩⟩] H fun r H2=>(∃p,r=.tuple #[.int .i64 (Lib.atoiSat s),.iface 386 p])/\H2=H:=by
 intro w hw;obtain⟨te,pe,cs,ty,fz,h1,h2,h3⟩:=hE;have hb:=hw 2 _ h1;have hv:w.cell? ⟨2,0,none⟩=some (.iface te pe):=by
  have hc:cs[0]?=some (.iface te pe):=by
   have:=congrArg (fun l:List Value=>l[0]?) h3;simpa using this
  simp[World.cell?,hb,hc]
 refine(Tryz.strconv_Atoi_range ⟨⟨s⟩⟩ (by (try simp only[bi]);omega) h _ w hv (.inr ⟨te,pe,rfl⟩)).mono ?_;rintro e w2 ⟨N,rfl,_,_,hW⟩;exact⟨H,dM.below hw hW,⟨_,rfl⟩,rfl⟩
def CT(H:PH):Prop:=∃ty fz,H 3=some (.cells (Lib.pow10Tab.map fun z=>Value.int .u64 z).toArray ty fz)
def CT.le(h:CT I)(k:I.le J):CT J:=let ⟨a,b,c⟩:=h;⟨a,b,k 3 _ c⟩
theorem Mh:Tryz.prog.globalNamed "internal/strconv.uint64pow10"=some 3:=by kernel_rfl
theorem T6{H:PH}{v:Int}(h0:-9223372036854775808<=v)(h1:v<=9223372036854775807)(hT:CT H):bO Tryz.prog 268 #[.int .i64 v] H fun r H2=>r=.string ⟨⟨Lib.itoa v⟩⟩/\H2=H:=by
 intro w hw;obtain⟨ty,fz,hb⟩:=hT;have hb:=hw 3 _ hb;have aa:Lib.TabIs Tryz.prog w "internal/strconv.uint64pow10" .u64 Lib.pow10Tab:=by
  unfold Lib.TabIs World.var?;rw[Mh];simp[hb]
 refine(Tryz.strconv_Itoa v h0 h1 w aa).mono ?_;rintro e w2 ⟨rfl,k,os,rfl⟩;refine⟨H,?_,rfl,rfl⟩;have hg:∀(b:Nat) (o:Obj),w.heap[b]?=some o->(w.heap++os)[b]?=some o:=by
  intro b o h;have:b<w.heap.size:=by
   rcases aaf b w.heap.size with h2|h2
   ·exact h2
   ·rw[aag h2]at h;cases h
  rw[Array.getElem?_append_left this];exact h
 exact{
     sub:=fun b o h=>hg b o (hw b o h)
     size:=by simp[Sort.grow,World.drewN]
     priv:=fun b ac _=>by simp only[Sort.grow,World.drewN];rw[Array.getElem?_append_left ac]
     dom:=fun _ _ h=>h
     os:=rfl
     tape:=rfl
     out:=rfl }
def pw(s:bq):Bool:=match Lib.atoiAll s with
 | .ok v=>decide (v<=2147483647) && decide (Lib.itoa v=s) && lw (bZ (s.getD 0 0))
 |_=>false
def ir(H:PH):Prop:=sX H/\D0 H/\wR H/\CT H
def ir.le(h:ir I)(k:I.le J):ir J:=⟨h.1.le k,h.2.1.le k,h.2.2.1.le k,h.2.2.2.le k⟩
def Mn:∀u,Lib.decDigits u≠[]:=by
 intro u h;have:=Lib.decDigits_length u;rw[h]at this;rw[Lib.decDigits]at h;split at h<;>simp at h
def Gi(v:Int):Lib.itoa v≠[]:=by
 unfold Lib.itoa;split
 ·simp
 ·exact Mn _
def Pt{v:Int}(h:Lib.atoiAll s=.ok v):-9223372036854775808<=v/\v<=9223372036854775807:=by
 unfold Lib.atoiAll at h;split at h
 ·cases h
 simp only at h;split at h
 ·cases h
 ·cases h
 split at h
 ·cases h
 split at h
 ·cases h
 cases h
 split<;>omega
def N5{a b:bq}:(a == b)=decide (a=b):=by
 by_cases h:a=b
 ·subst h;simp
 ·simp[h]
def FB{H:PH}(hl:s.length<2^40)(hV:ir H):bO Tryz.prog 216 #[.string ⟨⟨s⟩⟩] H fun v H2=>v=.bool (pw s)/\H2=H:=by
 obtain⟨_,hE,ac,hT⟩:=hV;refine ah 27 Tryz.func216 fun w0=>?_;refine aT ?_;cases h:Lib.atoiAll s with
 |ok v=>
  obtain⟨b0,b1⟩:=Pt h;refine WZ rfl Aq (QE hl h) fun r H2 hv=>?_;obtain⟨rfl,rfl⟩:=hv;cases aa:decide (v<=2147483647)
  ·apply RG;simp only[go_sem,aa];refine wh true rfl rfl zN.choose_spec rfl rfl (.inl ⟨rfl,rfl⟩) ?_;apply RG;simp only[go_sem,aa];exact aJ (r:=[_]) rfl ⟨by unfold pw;simp[h,aa];rfl,rfl⟩
  ·apply RG;simp only[go_sem,aa];refine wh true rfl rfl zN.choose_spec rfl rfl (.inl ⟨rfl,rfl⟩) ?_;apply RG;simp only[go_sem,aa];refine WZ rfl Qt (T6 b0 b1 hT) fun r H2 hv=>?_;obtain⟨rfl,rfl⟩:=hv;by_cases hi:Lib.itoa v=s
   ·subst hi;have hb:(Lib.itoa v == Lib.itoa v)=true:=by simp
    obtain⟨c,r,hc⟩:∃c r,Lib.itoa v=c::r:=by
     cases e:Lib.itoa v with
     |nil=>exact absurd e (Gi v)
     |cons c r=>exact⟨c,r,rfl⟩
    apply RG;simp only[go_sem,hb];refine⟨by rw[hc];simp,?_⟩;refine WZ rfl BS (Bc _ _) fun r H2 hv=>?_;obtain⟨rfl,rfl⟩:=hv;have h0:(Lib.itoa v)[0]?=some ((Lib.itoa v).getD 0 0):=by rw[hc];rfl
    rw[jn (i:=0) h0];refine aT ?_;exact aJ (r:=[_]) rfl ⟨by unfold pw;simp[h,aa];rfl,rfl⟩
   ·have hb:(Lib.itoa v == s)=false:=by simp[hi]
    apply RG;simp only[go_sem,hb];exact aJ (r:=[_]) rfl ⟨by unfold pw;simp[h,aa,hi];rfl,rfl⟩
 |range=>
  refine WZ rfl Aq (M7 hl h ac) fun v H2 hv=>?_;obtain⟨⟨p,rfl⟩,rfl⟩:=hv;refine aT ?_;refine wh false rfl rfl zN.choose_spec rfl rfl (.inr ⟨⟨_,_,rfl⟩,rfl⟩) ?_;refine aT ?_;exact aJ (r:=[_]) rfl ⟨by unfold pw;rw[h];rfl,rfl⟩
 |_=>
  refine WZ rfl Aq (QD hl h hE) fun v H2 hv=>?_;obtain⟨⟨p,rfl⟩,rfl⟩:=hv;refine aT ?_;refine wh false rfl rfl zN.choose_spec rfl rfl (.inr ⟨⟨_,_,rfl⟩,rfl⟩) ?_;refine aT ?_;exact aJ (r:=[_]) rfl ⟨by unfold pw;rw[h];rfl,rfl⟩
def M9{H:PH}{sb fb i:Nat}(hV:ir H)(hs:aP H sb 0 [.string ⟨⟨s⟩⟩])(hf:aP H fb 0 [.func (.func 211) #[] #[pt sb]])(hi:i<=s.length)(hl:s.length<2^40):
  bO Tryz.prog 215 #[iv i,pt fb] H fun v H2=>v=(if pw ((s.drop i).take (dE (s.drop i)))then .tuple #[.int .u8 2,.string ⟨⟨(s.drop i).take (dE (s.drop i))⟩⟩]else .tuple #[.int .u8 0,.string ⟨⟨[]⟩⟩])/\H2=H:=by
 refine ah 12 Tryz.func215 fun w0=>?_
 try simp only[iv,pt]
 refine aT ?_;refine XN (l:=[.func (.func 211) #[] #[pt sb]]) rfl hf (.inr ⟨Mm,rfl⟩) ?_;refine ll ?_;refine WZ rfl Hs (Rd hs hi ab) fun v H2 hv=>?_;obtain⟨rfl,rfl⟩:=hv;refine aT ?_;have aa:((s.drop i).take (dE (s.drop i))).length<2^40:=by
  simp only[abF,abD];omega
 refine WZ rfl Qy (FB aa hV) fun v H2 hv=>?_;obtain⟨rfl,rfl⟩:=hv;cases hb:pw ((s.drop i).take (dE (s.drop i)))
 ·refine aT ?_;exact aJ (r:=[_,_]) rfl ⟨rfl,rfl⟩
 ·refine aT ?_;exact aJ (r:=[_,_]) rfl ⟨rfl,rfl⟩
open Go Go.Sx Dg Syn
def fS(d:bq):Nat×bq:=
 if xJ (d.take (dE d))then (1,d.take (dE d))
 else if pw (d.take (dE d))then (2,d.take (dE d))
 else match f4.find? fun x=>x.isPrefixOf d with
  |some x=>(3,x)
  |none=>(0,[])
def TV:bq:=[47,47]
def Dv:Nat->bq->Option (List (Nat×bq))
 |0,_=>none
 |_+1,[]=>some []
 |n+1,c::s=>
  if yO (bZ c)then Dv n s
  else if TV.isPrefixOf (c::s)then some []
  else if (fS (c::s)).1=0 then none
  else (Dv n ((c::s).drop (fS (c::s)).2.length)).map (fS (c::s)::·)
variable{x:bq}
def Gr(h:pw x=true):x≠[]:=by
 unfold pw at h;split at h
 ·rename_i v hv;simp only[aao,aaC]at h;intro e;exact Gi v (h.1.2.trans e)
 ·cases h
def JP(h:xJ x=true):x≠[]:=by
 intro e;subst e;revert h;decide
def Ci:∀x∈f4,x≠[]:=by decide
variable{d:bq}
def og(h:(fS d).1≠0):0<(fS d).2.length/\(fS d).2.length<=d.length/\((fS d).2 <+: d)/\(fS d).1<=3:=by
 unfold fS at h |-;have hp:=List.take_prefix (dE d) d;split
 ·rename_i h1;exact⟨List.length_pos_iff.2 (JP h1),hp.length_le,hp,show 1<=3 by decide⟩
 ·split
  ·rename_i h1;exact⟨List.length_pos_iff.2 (Gr h1),hp.length_le,hp,show 2<=3 by decide⟩
  ·split
   ·rename_i x hx;have h2:=List.find?_some hx;have h3:=List.mem_of_find?_eq_some hx;have h4:=List.isPrefixOf_iff_prefix.1 h2;exact⟨List.length_pos_iff.2 (Ci x h3),h4.length_le,h4,show 3<=3 by decide⟩
   ·rename_i h1 h2 _ hx;rw[ZV h1,ZV h2,hx]at h;exact absurd rfl h
def Bq:∀(n m:Nat) (d:bq),d.length<n->d.length<m->Dv n d=Dv m d
 |0,_,_,h,_=>by omega
 |_+1,0,_,_,h=>by omega
 |n+1,m+1,[],_,_=>rfl
 |n+1,m+1,c::s,h1,h2=>by
  simp only[aaj]at h1 h2;rw[Dv,Dv,Bq n m s ab ab];split
  ·rfl
  ·split
   ·rfl
   ·split
    ·rfl
    ·rename_i h3;obtain⟨a,b,_⟩:=og h3;rw[Bq n m ((c::s).drop (fS (c::s)).2.length) (by simp only[abD,aaj]at b |-;omega) (by simp only[abD,aaj]at b |-;omega)]
def xZ(d:bq):Option (List (Nat×bq)):=Dv (d.length+1) d
theorem mP:xZ []=some []:=rfl
def mV(c:UInt8)(s:bq):xZ (c::s)=if yO (bZ c)then xZ s
  else if TV.isPrefixOf (c::s)then some []
  else if (fS (c::s)).1=0 then none
  else (xZ ((c::s).drop (fS (c::s)).2.length)).map (fS (c::s)::·):=by
 unfold xZ;rw[aaj,Dv];split
 ·rfl
 ·split
  ·rfl
  ·split
   ·rfl
   ·rename_i h3;obtain⟨a,b,_⟩:=og h3;rw[Bq (s.length+1) (((c::s).drop (fS (c::s)).2.length).length+1) _ (by simp only[abD,aaj]at b |-;omega) ab]
def rI(s:bq):Option (List (Nat×bq)):=if s.all fun c=>Er (bZ c)then xZ s else none
def lI(k:Nat)(x:bq):Bool:=decide (rI x=some [(k,x)])
def cY(x:Nat×bq):Tok:=⟨x.1,x.2,tt,true⟩
def refit(t:Tok):Tok:={ t with fits:=lI t.kind t.text }
def OE:aO Tryz.prog 143:=⟨_,Tryz.func143,rfl,rfl⟩
def Nq:aO Tryz.prog 82:=⟨_,Tryz.func82,rfl,rfl⟩
def Oc:aO Tryz.prog 133:=⟨_,Tryz.func133,rfl,rfl⟩
def lU(d:bq):Nat->Nat×bq
 |0=>if xJ (d.take (dE d))then (1,d.take (dE d))else (0,[])
 |1=>if pw (d.take (dE d))then (2,d.take (dE d))else (0,[])
 |_=>match f4.find? fun x=>x.isPrefixOf d with
  |some x=>(3,x)
  |none=>(0,[])
def CG(d:bq):Nat->Nat×bq
 |0=>fS d
 |1=>if pw (d.take (dE d))then (2,d.take (dE d))else lU d 2
 |2=>lU d 2
 |_=>(0,[])
def Hl{k:Nat}(h:(lU d k).1=0):lU d k=(0,[]):=by
 match k with
 |0=>
  simp only[lU]at h |-;split at h
  ·cases h
  ·rename_i h1;rw[ZV h1]
 |1=>
  simp only[lU]at h |-;split at h
  ·cases h
  ·rename_i h1;rw[ZV h1]
 |k+2=>
  simp only[lU]at h |-;split at h
  ·cases h
  ·rfl
def QV{k:Nat}(hk:k<3)(h:(lU d k).1=0):CG d k=CG d (k+1):=by
 match k,hk with
 |0,_=>
  simp only[lU]at h;split at h
  ·cases h
  ·rename_i h1;simp only[CG,fS,lU,ZV h1]<;>rfl
 |1,_=>
  simp only[lU]at h;split at h
  ·cases h
  ·rename_i h1;simp only[CG,ZV h1]
 |2,_=>exact Hl h
def MC{k:Nat}(hk:k<3)(h:(lU d k).1≠0):CG d k=lU d k:=by
 match k,hk with
 |0,_=>
  simp only[lU]at h |-;split at h
  ·rename_i h1;simp only[CG,fS,aaq h1]
  ·exact absurd rfl h
 |1,_=>
  simp only[lU]at h |-;split at h
  ·rename_i h1;simp only[CG,aaq h1]
  ·exact absurd rfl h
 |2,_=>rfl
def H4(x:Nat×bq):Value:=.tuple #[.int .u8 x.1,.string ⟨⟨x.2⟩⟩]
def Wt(sb fb:Nat):List Value:=[.func (.func 213) #[] #[pt fb],.func (.func 215) #[] #[pt fb],.func (.func 217) #[] #[pt sb]]
def Wa{H:PH}{sb fb i k:Nat}(hV:ir H)(hs:aP H sb 0 [.string ⟨⟨s⟩⟩])(hf:aP H fb 0 [.func (.func 211) #[] #[pt sb]])(hi:i<=s.length)(hl:s.length<2^40)(hk:k<3):
  ∃fid cp,(Wt sb fb)[k]?=some (.func (.func fid) #[] #[cp])/\aO Tryz.prog fid/\bO Tryz.prog fid #[iv i,cp] H fun v H2=>v=H4 (lU (s.drop i) k)/\H2=H:=by
 match k,hk with
 |0,_=>
  refine⟨213,pt fb,rfl,OR,(Tu hs hf hi ab).mono fun v H2 h=>⟨?_,h.2⟩⟩;rw[h.1];simp only[lU,H4];split<;>rfl
 |1,_=>
  refine⟨215,pt fb,rfl,Qk,(M9 hV hs hf hi hl).mono fun v H2 h=>⟨?_,h.2⟩⟩;rw[h.1];simp only[lU,H4];split<;>rfl
 |2,_=>
  refine⟨217,pt sb,rfl,Pq,(SW hV.1 hs hi ab).mono fun v H2 h=>⟨?_,h.2⟩⟩;rw[h.1];unfold BU lU H4;cases f4.find? (fun x=>x.isPrefixOf (s.drop i))<;>rfl
abbrev yJ(I A:PH)(v:Value)(l:List Tok):Prop:=Ow dz 83 7 I A v l
def NQ(_:PH)(c:List Value)(x:Nat):Prop:=c=[iv x]
abbrev Ue(I A:PH)(v:Value)(l:List Nat):Prop:=Ow NQ 3 1 I A v l
variable{l:List Tok}{v:Value}
def yJ.le{A:PH}(h:yJ I A v l)(k:I.le J):yJ J A v l:=Ow.le (R:=dz) (fun{I J c a} h k=>dz.le h k) h k
def Ue.le{A:PH}{l:List Nat}(h:Ue I A v l)(k:I.le J):Ue J A v l:=Ow.le (R:=NQ) (fun{I J c a} h k=>h) h k
def dz.ones{c:List Value}{t:Tok}(h:dz I c t):c.all one=true:=by
 obtain⟨p,f,l,a,k,rfl,h1,_⟩:=h;simp only[List.all_cons,List.all_nil,h1];rfl
def UU(sb fb:Nat)(x:Nat×Value×Value):St:=⟨dn 75 [(1,.v (pt sb)),(2,.v x.2.1),(3,.v x.2.2),(6,.v (.func (.func 213) #[] #[pt fb])),(7,.v (.func (.func 215) #[] #[pt fb])),(8,.v (.func (.func 217) #[] #[pt sb])),(9,.v (iv x.1))],[]⟩
def Zm(s:bq)(I0:PH)(x:Nat×Value×Value)(H:PH):Prop:=∃I A B l ats,H=U [I,A,B]/\Dj [I,A,B]/\I0.le I/\x.1<=s.length/\yJ I A x.2.1 (l.map cY)/\Ue I B x.2.2 ats/\ats.length=l.length/\l.length<=x.1/\xZ s=(xZ (s.drop x.1)).map (l++·)
def Tv(sb fb:Nat)(va vb:Value)(i nb:Nat)(x:Nat×Nat×bq):St:=⟨dn 75 [(1,.v (pt sb)),(2,.v va),(3,.v vb),(6,.v (.func (.func 213) #[] #[pt fb])),(7,.v (.func (.func 215) #[] #[pt fb])),(8,.v (.func (.func 217) #[] #[pt sb])),(9,.v (iv i)),(10,.v (.int .u8 x.2.1)),(11,.v (.string ⟨⟨x.2.2⟩⟩)),(38,.v (.slice (some ⟨nb,0,none⟩) 3 3)),(39,.v (iv 3)),(40,.v (iv x.1))],[]⟩
def zU(s:bq)(v:Value)(I2:PH)(qs:List PH):Prop:=match rI s with
 |none=>v=.tuple #[.slice none 0 0,.slice none 0 0,.bool false]/\qs=[]
 |some l=>∃A va vb,v=.tuple #[va,vb,.bool true]/\qs=[A]/\yJ I2 A va (l.map cY)
theorem TK(hl:s.length<2^40)(hV:ir I):aK Tryz.prog 143 #[.string ⟨⟨s⟩⟩] I [] (zU s):=by
 intro hd;refine ah 75 Tryz.func143 fun w0=>?_;refine aT ?_;refine WZ rfl OA (IH s ab _) fun v H2 hv=>?_;obtain⟨rfl,rfl⟩:=hv;cases cf:s.all fun c=>Er (bZ c)
 ·have hx:rI s=none:=by unfold rI;rw[cf];rfl
  apply RG;simp only[go_sem,abK];exact af rfl hd (r:=[_,_,_]) rfl (abW _) (by unfold zU;rw[hx];exact⟨rfl,rfl⟩)
 have b0:rI s=xZ s:=by unfold rI;rw[cf];rfl
 apply bL 5;simp only[go_sem,abQ];refine fV 1 hd rfl fun sb dc=>?_;refine ae (c:=.st _) dc fun I2 da b1 dj=>?_;have hs:aP I2 sb 0 [.string ⟨⟨s⟩⟩]:=(ay (by simp) rfl:aP (sg sb (.cells [.string ⟨⟨s⟩⟩].toArray 9 (0,0))) sb 0 [.string ⟨⟨s⟩⟩]).le dj;apply bL 5;simp only[go_sem,mF,List.map,pt];refine fV 5 da rfl fun fb c9=>?_;refine ae (c:=.st _) c9 fun I4 c8 bb dd=>?_;have hf:aP I4 fb 0 [.func (.func 211) #[] #[pt sb]]:=(ay (by simp) rfl:aP (sg fb (.cells [.func (.func 211) #[] #[pt sb]].toArray 315 (0,0))) fb 0 [.func (.func 211) #[] #[pt sb]]).le dd;have hs:=hs.le bb;have bd:=abV b1 bb;have dk:=hV.le bd;apply RG;simp only[go_sem,mF,List.map,pt];refine aR c8 fun c7=>?_;refine aR c7 fun c6=>?_;refine aA (fun x=>s.length-x.1) (UU sb fb) (Zm s I4) (0,.slice none 0 0,.slice none 0 0) gP (by simp only[go_sem,aa6,UU]) ?_ ?_
 ·exact⟨I4,_,_,[],[],rfl,c6,abW _,aaL _,Ow.nil _ _ _ _,Ow.nil _ _ _ _,rfl,aaL _,by simp⟩
 rintro⟨i,va,vb⟩ H ⟨I1,A1,B1,l,ats,rfl,a9,am,hi,hA,hB,cr,cB,an⟩ a3;simp only at hi hA hB cB an;simp only[UU];have bs:=hs.le am;obtain⟨aa,ac,rfl⟩:=hA.shape;obtain⟨ba,bc,rfl⟩:=hB.shape;refine ll ?_;refine XN (l:=[.string ⟨⟨s⟩⟩]) rfl (cellsU a9 (.head _) bs) (.inr ⟨tL,rfl⟩) ?_;rcases aaf i s.length with bx|d0
 ·have cb:decide ((i:Int)<(s.length:Int))=true:=abU ab;have e1:IntKind.i64.wrap ((i:Int)+1)=((i+1:Nat):Int):=by rw[<-wrap64 (n:=i+1) ab];congr 1
  obtain⟨c,hc⟩:∃c,s[i]?=some c:=⟨_,aak bx⟩;have hb:=jn hc;have cl:s.drop i=c::s.drop (i+1):=by
   rw[aaK bx];rw[aak bx]at hc;rw[aaZ hc]
  have tk:(s.drop i).take (s.length-i)=s.drop i:=abG (by simp);have cA:=an;rw[cl,mV,<-cl]at an;apply RG;simp only[go_sem,bi,cb];refine XN (l:=[.string ⟨⟨s⟩⟩]) rfl (cellsU a9 (.head _) bs) (.inr ⟨tL,rfl⟩) ?_;apply RG;simp only[go_sem,hb];refine⟨by first|omega|(simp only[bi];omega),?_⟩;refine WZ rfl PY (Oe _ _) fun v H2 hv=>?_;obtain⟨rfl,rfl⟩:=hv;cases cn:yO (bZ c)
  rotate_left
  ·rw[cn,aaq rfl]at an;apply RG;simp only[go_sem,iv,e1];exact a3 (i+1,.slice aa (l.map cY).length ac,.slice ba ats.length bc) _ _ dt gP (by simp only[go_sem,aa6,UU]) ⟨I1,A1,B1,l,ats,rfl,a9,am,bx,hA,hB,cr,by simp only;omega,an⟩
  rw[cn,ZV (by simp)]at an;refine aT ?_;refine XN (l:=[.string ⟨⟨s⟩⟩]) rfl (cellsU a9 (.head _) bs) (.inr ⟨tL,rfl⟩) ?_;apply RG;simp only[go_sem,bi,oJ,tk];refine⟨ab,?_⟩;refine WZ rfl Hb (CF _ TV _) fun v H2 hv=>?_;obtain⟨rfl,rfl⟩:=hv;cases cm:TV.isPrefixOf (s.drop i)
  rotate_left
  ·rw[cm,aaq rfl]at an;apply bL 4;simp only[go_sem];refine bf a9 [1,0] fun a2=>?_;refine bf a2 [0,1] fun ak=>?_;refine ae (c:=.st _) ak fun I9 ak aj b6=>?_;refine dP ?_;refine af rfl ak (r:=[_,_,_]) rfl (abV bd (abV am aj)) ?_;unfold zU;rw[b0,an];exact⟨A1,_,_,rfl,rfl,by simpa using yJ.le hA aj⟩
  rw[cm,ZV (by simp)]at an;refine ll ?_;refine ax a9 (by exact VE) rfl rfl rfl rfl rfl bg fun nb I3 a2 aq cy=>?_;have c2:aP I3 nb 0 (Wt sb fb):=az cy (by simp[aD,Value.cells,Wt]) (by simp[aD,Value.cells,Wt,pt]);have cx:=bs.le aq;have c4:=(hf.le am).le aq;have ds:=(dk.le am).le aq;refine ll ?_;apply dF (fun(x:Nat×Nat×bq)=>3-x.1) (Tv sb fb (.slice aa (l.map cY).length ac) (.slice ba ats.length bc) i nb) (fun x H=>H=U [I3,A1,B1]/\x.2=(0,[])/\x.1<=3/\fS (s.drop i)=CG (s.drop i) x.1) (fun x H=>H=U [I3,A1,B1]/\x.2=fS (s.drop i)) (0,0,[])
  ·exact gP
  ·exact(by simp only[go_sem,aa6,Tv])
  ·exact⟨rfl,rfl,aaL _,rfl⟩
  ·rintro⟨k,kd,tx⟩ H ⟨rfl,e0,c0,hr⟩ a7 a6;simp only[aaI]at e0 c0 hr;obtain⟨rfl,rfl⟩:=e0;simp only[Tv];rcases aaf k 3 with hk|hk
   ·have ca:decide ((k:Int)<3)=true:=abU ab;have e40:IntKind.i64.wrap ((k:Int)+1)=((k+1:Nat):Int):=by rw[<-wrap64 (n:=k+1) ab];congr 1
    obtain⟨fid,cp,c3,c1,c5⟩:=Wa (ds.le (cP a2)) (cellsU a2 (.head _) cx) (cellsU a2 (.head _) c4) hi hl hk;apply RG;simp only[go_sem,iv,pt,abo,ca];refine⟨ab,?_⟩;refine XN (l:=[.func (.func fid) #[] #[cp]]) rfl (cellsU a2 (.head _) (by simpa using c2.get c3)) (.inr ⟨RL,rfl⟩) ?_;refine dP ?_;refine WZ rfl c1 c5 fun v H2 hv=>?_;obtain⟨rfl,rfl⟩:=hv;by_cases h0:(lU (s.drop i) k).1=0
    ·rw[Hl h0];apply RG;simp only[go_sem,H4,iv,e40];exact a7 (k+1,0,[]) _ _ dt gP (by simp only[go_sem,aa6,Tv]) ⟨rfl,rfl,hk,by rw[hr,QV hk h0]⟩
    ·have dI:((((lU (s.drop i) k).1:Nat):Int) != 0)=true:=by simp;omega
     apply bL 13;simp only[go_sem,H4,iv,dI];exact a6 (k,lU (s.drop i) k) _ _ gP (by simp only[go_sem,aa6,Tv]) ⟨rfl,by simp only;rw[hr,MC hk h0]⟩
   ·have:k=3:=by omega
    subst this;have ca:decide ((3:Int)<3)=false:=by decide
    apply bL 7;simp only[go_sem,iv,pt,abo,ca];exact a6 (3,0,[]) _ _ gP (by simp only[go_sem,aa6,Tv]) ⟨rfl,by simp only;rw[hr];rfl⟩
  ·rintro⟨k,kd,tx⟩ H ⟨rfl,e⟩;simp only at e;simp only[Tv];by_cases h0:kd=0
   ·subst h0;rw[<-e,aaq rfl]at an;refine bf a2 [1,0] fun ak=>?_;refine bf ak [0,1] fun a1=>?_;refine ae (c:=.st _) a1 fun I9 a1 ao dw=>?_;refine bf a1 [0] fun a0=>?_;refine ae (c:=.st _) a0 fun d1 a0 aS dy=>?_;apply RG;simp only[go_sem,iv,abo];refine af rfl a0 (r:=[_,_,_]) rfl (abV bd (abV am (abV aq (abV ao aS)))) ?_;unfold zU;rw[b0,an];exact⟨rfl,rfl⟩
   ·have dA:((kd:Int) == 0)=false:=by simp;omega
    have ci:(fS (s.drop i)).1≠0:=by rw[<-e];exact h0
    obtain⟨s1,s2,_,_⟩:=og ci;rw[ZV ci,<-e]at an;rw[<-e]at s1 s2;simp only[abD]at s1 s2;have cj:(l.map cY).length=l.length:=aah _;have e72:IntKind.i64.wrap ((i:Int)+(tx.length:Int))=((i+tx.length:Nat):Int):=by rw[<-wrap64 (n:=i+tx.length) ab];congr 1
    apply RG;simp only[go_sem,iv,dA];refine ax a2 (by exact tz) rfl rfl rfl rfl rfl bg fun mb I5 ak aj dT=>?_;refine dP ?_;refine WZ rfl FR (Fp _) fun v H2 hv=>?_;obtain⟨rfl,rfl⟩:=hv;refine dP ?_;refine ax ak (by exact IP) rfl rfl rfl rfl rfl bg fun tb I6 a1 ao ct=>?_;have hT:Sl dz I6 (.slice (some ⟨tb,0,none⟩) 1 1) [cY (kd,tx)]:=⟨_,_,rfl,.inr ⟨tb,0,[.int .u8 kd,.string ⟨⟨tx⟩⟩,.slice (some ⟨mb,0,none⟩) 1 1,.int .i64 0,.int .i64 0,.slice none 0 0,iv 1],rfl,az ct (by simp[aD,Value.cells]) (by simp[aD,Value.cells,iv]),.one ⟨.slice (some ⟨mb,0,none⟩) 1 1,0,0,none,0,rfl,rfl,mN I6 true⟩⟩⟩;refine dP ?_;refine bl (R:=dz) (xs:=l.map cY) (ys:=[cY (kd,tx)]) a1 (by exact IP) (yJ.le hA (abV aq (abV aj ao))) hT (fun{I J c a} h k=>dz.le h k) (fun{I} c a h=>dz.len c a h) (fun{I} c a h=>dz.ones h) rfl rfl rfl rfl (by rw[cj];simp only[aaj,aaO];omega) (by rw[cj];simp only[aaj,aaO];unfold maxLen;omega) fun ua uc I7 A7 a0 aS dx=>?_;refine dP ?_;refine ax a0 (by exact tz) rfl rfl rfl rfl rfl bg fun xb I8 b5 a5 cs=>?_;have hX:Sl NQ I8 (.slice (some ⟨xb,0,none⟩) 1 1) [i]:=⟨_,_,rfl,.inr ⟨xb,0,[iv i],rfl,az cs (by simp[aD,Value.cells]) (by simp[aD,Value.cells,iv]),.one rfl⟩⟩;refine dP ?_;refine bf b5 [1,0] fun b4=>?_;have cc:=abV aq (abV aj (abV ao (abV aS a5)))
    refine bl (R:=NQ) (xs:=ats) (ys:=[i]) b4 (by exact tz) (Ue.le hB cc) hX (fun{I J c a} h k=>h) (fun{I} c a h=>by rw[show c=_ from h];rfl) (fun{I} c a h=>by rw[show c=_ from h];rfl) rfl rfl rfl rfl (by simp only[aaj,aaO];omega) (by simp only[aaj,aaO];unfold maxLen;omega) fun wa wc I9 B9 b3 a4 dv=>?_;apply RG;simp only[go_sem,iv,bi,e72];refine bf b3 [1,0] fun b2=>?_;refine a3 (i+tx.length,.slice ua (l.map cY++[cY (kd,tx)]).length uc,.slice wa (ats++[i]).length wc) _ _ dt gP (by simp only[go_sem,aa6,UU]) ⟨I9,A7,B9,l++[(kd,tx)],ats++[i],rfl,b2,abV am (abV cc a4),by simp only;omega,?_,dv,by simp[cr],by simp only[aa9,aaj,aaO];omega,?_⟩
    ·simp only;rw[abP];exact yJ.le dx (abV a5 a4)
    ·simp only;rw[an,Option.map_map,aa3];congr 1;funext z;simp
 ·have:i=s.length:=by omega
  subst this;have cb:=Z6 s.length;rw[abH,mP]at an;refine bf a9 [1,0] fun a2=>?_;refine bf a2 [0,1] fun ak=>?_;refine ae ak fun I9 ak aj b6=>?_;apply RG;simp only[go_sem,bi,cb];refine af rfl ak (r:=[_,_,_]) rfl (abV bd (abV am aj)) ?_;unfold zU;rw[b0,an];exact⟨A1,_,_,rfl,rfl,by simpa using yJ.le hA aj⟩
def TC:aO Tryz.prog 76:=⟨_,Tryz.func76,rfl,rfl⟩
def Wi{α:Type}{l:List α}{i:Nat}{n:α}(h:l[i]?=some n):l.take (i+1)=l.take i++[n]:=by
 rw[List.take_add_one,h];rfl
def wX(s:bq):Option (List (Nat×bq)):=match rI s with
 |some l=>if l.length>256 then none else some l
 |none=>none
def Q4(s:bq)(v:Value)(I2:PH)(qs:List PH):Prop:=match wX s with
 |none=>(∃k:Nat,k≠0/\v=.tuple #[.slice none 0 0,iv k])/\qs=[]
 |some l=>∃A va,v=.tuple #[va,iv 0]/\qs=[A]/\yJ I2 A va (l.map cY)
def Rk(hl:s.length<2^40)(hV:ir I):aK Tryz.prog 82 #[.string ⟨⟨s⟩⟩] I [] (Q4 s):=by
 intro hd;refine ah 21 Tryz.func82 fun w0=>?_;refine aT ?_;refine bV hd rfl OE (TK hl hV) fun v I2 qs ak aj hq=>?_;unfold zU at hq;unfold Q4 wX;cases hx:rI s with
 |none=>
  rw[hx]at hq;obtain⟨rfl,rfl⟩:=hq;refine aT ?_;exact af rfl ak (r:=[_,_]) rfl aj ⟨⟨4,by decide,rfl⟩,rfl⟩
 |some l=>
  rw[hx]at hq;obtain⟨A,va,vb,rfl,rfl,hA⟩:=hq;simp only[Z3]at ak |-;obtain⟨aa,ac,rfl⟩:=hA.shape;simp only[aah];rcases aaf 256 l.length with h|h
  ·have ao:decide ((l.length:Int)>256)=true:=abU ab;refine bf ak [0] fun an=>?_;refine ae an fun I3 an am aq=>?_;apply RG;simp only[go_sem,aah,ao];exact af rfl an (r:=[_,_]) rfl (abV aj am) (by rw[aaq h];exact⟨⟨5,by decide,rfl⟩,rfl⟩)
  ·have ao:decide ((l.length:Int)>256)=false:=abT ab;apply RG;simp only[go_sem,aah,ao];exact af rfl ak (r:=[_,_]) rfl aj (by rw[ZV (Nat.not_lt.2 h)];exact⟨A,_,rfl,rfl,by rw[<-aah (f:=cY)];exact hA⟩)
def JB{k:Nat}(h:wX x=none):lI k x=false:=by
 unfold lI;apply abT;intro e;unfold wX at h;rw[e]at h;simp at h
def Jg{k:Nat}{l:List (Nat×bq)}(h:wX x=some l):lI k x=decide (l=[(k,x)]):=by
 unfold lI wX at *;cases e:rI x with
 |none=>rw[e]at h;cases h
 |some m=>
  rw[e]at h;simp only at h;split at h
  ·cases h
  ·cases h;simp
def Iv{k:Nat}(hl:x.length<2^40)(hV:ir I):aK Tryz.prog 133 #[.int .u8 k,.string ⟨⟨x⟩⟩] I [] fun r I2 qs=>qs=[]/\r=.bool (lI k x):=by
 intro hd;refine ah 35 Tryz.func133 fun w0=>?_;refine aT ?_;refine bV hd rfl Nq (Rk hl hV) fun v I2 qs aq ak hq=>?_;unfold Q4 at hq;cases hx:wX x with
 |none=>
  rw[hx]at hq;obtain⟨⟨j,hj,rfl⟩,rfl⟩:=hq;have a3:((j:Int) == 0)=false:=by simp;omega
  apply RG;simp only[go_sem,iv,a3];exact af rfl aq (r:=[_]) rfl ak ⟨rfl,by rw[JB hx];rfl⟩
 |some l=>
  rw[hx]at hq;obtain⟨A,va,rfl,rfl,hA⟩:=hq;simp only[Z3]at aq |-;rw[Jg hx];obtain⟨aa,ac,rfl⟩:=hA.shape;refine bf aq [0] fun an=>?_;refine ae an fun I3 an aj a2=>?_;have hS:Sl dz I3 (.slice aa (l.map cY).length ac) (l.map cY):=Ow.sl (R:=dz) (fun{I J c a} h k=>dz.le h k) hA aj a2;by_cases h1:l.length=1
  ·obtain⟨⟨p,y⟩,rfl⟩:=List.length_eq_one_iff.1 h1;obtain⟨b,off,cs,rfl,a1,am⟩:=Sl.load (fun{I} c a h=>dz.len c a h) hS (i:=0) (x:=cY (p,y)) rfl;obtain⟨path,file,line,a,kk,rfl,_,hr⟩:=a1;have c0:=am.get (i:=0) rfl;have c1:=am.get (i:=1) rfl;have aS:(((1:Nat):Int) == 1)=true:=rfl;apply RG;simp only[go_sem,iv,List.map,aaj,aaO,aS];refine XN (l:=[.int .u8 p]) rfl (cellsU an (.head _) (by simpa[cY]using c0)) (.inr ⟨Uv,rfl⟩) ?_;cases hk:((p:Int) == (k:Int))
   ·have ao:((p,y)::([]:List (Nat×bq)))≠[(k,x)]:=by
     intro e;simp only[abB,aaI,abC]at e;rw[e.1]at hk;simp at hk
    apply RG;simp only[go_sem,hk];exact af rfl an (r:=[_]) rfl (abV ak aj) ⟨rfl,by rw[abT ao];rfl⟩
   ·have a0:p=k:=by have:=eq_of_beq hk;omega
    subst a0;apply RG;simp only[go_sem,hk];refine XN (l:=[.string ⟨⟨y⟩⟩]) rfl (cellsU an (.head _) (by simpa[cY]using c1)) (.inr ⟨tL,rfl⟩) ?_;refine aT ?_;exact af rfl an (r:=[.bool (y == x)]) rfl (abV ak aj) ⟨rfl,by show Value.bool _=_;congr 1;rw[N5];simp⟩
  ·have aS:((((l.map cY).length:Nat):Int) == 1)=false:=by simp;omega
   have ao:l≠[(k,x)]:=fun e=>h1 (by rw[e];rfl);apply RG;simp only[go_sem,iv,aS];exact af rfl an (r:=[_]) rfl (abV ak aj) ⟨rfl,by rw[abT ao];rfl⟩
abbrev Vv(I A:PH)(v:Value)(l:List Tok):Prop:=Ow uh 4 1 I A v l
def Vv.le{A:PH}(h:Vv I A v l)(k:I.le J):Vv J A v l:=Ow.le (R:=uh) (fun{I J c a} h k=>h) h k
def WX(lv:Value)(n:Nat)(x:Nat×Value):St:=⟨dn 129 [(0,.v lv),(3,.p 20 0),(21,.v lv),(22,.v (iv n)),(23,.v (iv x.1))],[⟨20,161,[lv,x.2,.slice none 0 0,.int .i64 0,.slice none 0 0]⟩]⟩
def Zv(ts:List Tok)(I0:PH)(x:Nat×Value)(H:PH):Prop:=∃I A,H=U [I,A]/\Dj [I,A]/\I0.le I/\x.1<=ts.length/\Vv I A x.2 ((ts.map refit).take x.1)
theorem LR.refit{I:PH}:∀{ts:List Tok} {xs:List Value},LR (dz I) xs ts->LR (dz I) xs (ts.map refit)
 | [],_,h=>h
 |_::_,_,⟨c,ys,e,h1,h2⟩=>⟨c,ys,e,h1,LR.refit h2⟩
variable{ts:List Tok}
theorem Sl.refit(h:Sl dz I v ts):Sl dz I v (ts.map refit):=by
 obtain⟨a,c,rfl,h⟩:=h;exact⟨a,c,by rw[aah],h.imp (fun e=>by rw[e];rfl) fun⟨b,off,xs,e1,e2,e3⟩=>⟨b,off,xs,e1,e2,LR.refit e3⟩⟩
theorem CA{lv:Value}(hV:ir I)(hT:Sl dz I lv ts)(hl:ts.length<=16384)(hx:∀t∈ts,t.text.length<2^40):
  aK Tryz.prog 76 #[lv] I [] fun r I2 qs=>∃pb fv,r=pt pb/\qs=[sg pb (cg lv fv (.slice none 0 0) (.slice none 0 0) 0)]/\Sl uh I2 fv (ts.map refit):=by
 obtain⟨la,lc,rfl,_⟩:=id hT;intro hd;refine ah 129 Tryz.func76 fun w0=>?_;refine aT ?_;refine aR hd fun a7=>?_;refine aA (fun x=>ts.length-x.1) (WX (.slice la ts.length lc) ts.length) (Zv ts I) (0,.slice none 0 0) bM (by simp only[go_sem,aa6,WX]) ?_ ?_
 ·exact⟨I,PH.no,rfl,a7,abW _,aaL _,Ow.nil _ _ _ _⟩
 rintro⟨i,vo⟩ H ⟨I1,A1,rfl,aS,ac,hi,hA⟩ ak;simp only at hi hA;simp only[WX];obtain⟨oa,oc,rfl⟩:=hA.shape;rcases aaf i ts.length with a3|bs
 ·have a0:decide ((i:Int)<(ts.length:Int))=true:=abU ab;have e1:IntKind.i64.wrap ((i:Int)+1)=((i+1:Nat):Int):=by rw[<-wrap64 (n:=i+1) ab];congr 1
  obtain⟨t,ht⟩:∃t,ts[i]?=some t:=⟨_,aak a3⟩;have a4:(ts.map refit)[i]?=some (refit t):=by rw[aai,ht];rfl
  have a1:((ts.map refit).take i).length=i:=by simp;omega
  obtain⟨b,off,cs,rfl,a9,an⟩:=Sl.load (fun{I} c a h=>dz.len c a h) (Sl.le (R:=dz) (fun{I J c a} h k=>dz.le h k) hT ac) ht;obtain⟨path,file,line,a,kk,rfl,a2,hr⟩:=a9;apply RG;simp only[go_sem,iv,a0];refine⟨ab,?_⟩;refine XN (l:=[.int .u8 t.kind,.string ⟨⟨t.text⟩⟩,path,.int .i64 file,.int .i64 line,sD a kk t.cond,rD t.cond]) (v:=.agg #[.int .u8 t.kind,.string ⟨⟨t.text⟩⟩,path,.int .i64 file,.int .i64 line,sD a kk t.cond,rD t.cond]) rfl (cellsU aS (.head _) an) (.inl ⟨U1,rfl⟩) ?_;unfold one at a2;apply RG;simp only[go_sem,iv,sD,rD,a2];refine eP [0,1,2,3,4,5,6,7,8,9,10,11,12,13,14] [] [] ?_;refine dS ?_;refine aE aS [0] [] [A1] rfl Oc rfl (Iv (k:=t.kind) (hx t (aaV ht)) (hV.le ac)) fun v I3 qs aj aa hq=>?_;obtain⟨rfl,rfl⟩:=hq;simp only[Z3]at aj |-;refine dS ?_;refine bj aj (by exact Rp) rfl rfl rfl rfl rfl bg fun nb I4 aq am a5=>?_;have ba:Sl uh I4 (.slice (some ⟨nb,0,none⟩) 1 1) [refit t]:=⟨_,_,rfl,.inr ⟨nb,0,_,rfl,az a5 (by simp[aD,Value.cells]) (by simp[aD,Value.cells,refit]),.one rfl⟩⟩;refine dS ?_;refine fP (R:=uh) (xs:=(ts.map refit).take i) (ys:=[refit t]) aq (by exact Rp) (Vv.le hA (abV aa am)) ba (fun{I J c a} h k=>h) (fun{I} c a h=>uh.len (I:=I) c a h) (fun{I} c a h=>by rw[show c=_ from h];rfl) rfl rfl rfl rfl rfl rfl (by rw[a1];simp only[aaj,aaO];omega) (by rw[a1];simp only[aaj,aaO];unfold maxLen;omega) fun ua uc I5 A5 a6 ao bb=>?_;refine dS ?_;refine aw ?_;apply RG;simp only[go_sem,iv,e1]
  exact ak (i+1,.slice ua ((ts.map refit).take i++[refit t]).length uc) _ _ dt bM (by simp only[go_sem,aa6,WX]) ⟨I5,A5,rfl,a6,abV ac (abV aa (abV am ao)),a3,by simp only;rw[Wi a4];exact bb⟩
 ·have:i=ts.length:=by omega
  subst this;have a0:=Z6 ts.length;have bd:decide ((ts.length:Int)<=16384)=true:=abU ab;have ef:(ts.map refit).take ts.length=ts.map refit:=by rw[<-aah (f:=refit),aaS]
  rw[ef]at hA |-;refine bf aS [0] fun aj=>?_;refine ae (c:=.st _) aj fun I3 aj aa bc=>?_;have hF:Sl uh I3 (.slice oa (ts.map refit).length oc) (ts.map refit):=Ow.sl (R:=uh) (fun{I J c a} h k=>h) hA aa bc;apply bL 3;simp only[go_sem,iv,a0];refine fV 20 aj rfl fun pb aq=>?_;apply RG;simp only[go_sem,mF,List.map,bd];exact af rfl aq (r:=[pt pb]) rfl (abV ac aa) ⟨pb,_,rfl,rfl,hF⟩
end Go.Proofs.YtfaclfkpnmcmlaaGreatDoor
