import Derived.Test.YtfaclfkpnmcmlaaGreatDoorE00
import Derived.Test.YtfaclfkpnmcmlaaGreatDoorE08
import Derived.Test.YtfaclfkpnmcmlaaGreatDoorE09
import Derived.Shelf.LaysM
import Derived.Shelf.Strconv.Itoa3
import Derived.Shelf.LaysC
import Derived.Shelf.Strconv.AtoiAll
import Derived.Test.YtfaclfkpnmcmlaaGreatDoorProg
set_option maxHeartbeats 8000000
set_option linter.all false
namespace Go.Proofs.YtfaclfkpnmcmlaaGreatDoor
open Go Go.Sx Dg Syn
def Pq:aO Tryz.prog 217:=⟨_,Tryz.func217,rfl,rfl⟩
section
variable {C:Cx} {P:Program} {k:List Item} {σ:St} {H:PH}
variable{v:Value}{cs:Array Value}{kk:IntKind}{e:TypeId}
def Di{o:Oper}{T:TypeId}{len n:Nat}{x y:Operand}(ac:o.op=.index T x y)(hu:P.underlying T=some (.array len e))(hi:∃i,P.info? e=some i/\i.size=1)(ha:bk P e=some none)
  (hx:ev σ x=.v (.agg cs)) (hy:ev σ y=.v (.int kk n)) (hn:n<len) (hv:cs.toList[n]?=some v):bh σ o.op=true/\de P (execOp (bN σ) o) H fun sv H2=>sv=.v v/\H2=H:=by
 constructor
 ·simp[bh,ac,fT,Op.operands,hx,hy,ul]
 ·intro w hw;obtain⟨i,hi,hs⟩:=hi;have ag:(sizeOf e).run P w=.ok 1 w:=by simp[sizeOf,typeInfo,program,Sem.run,hi,hs]
  have hp:=qh (P:=P) (w:=w) (T:=e) (cs:=cs) (n:=n) (v:=v) (by unfold iR;rw[ha];exact hv);have h0:(0:Int)<=(n:Int)/\(n:Int)<(len:Int):=⟨ab,ab⟩;have aa:(execOp (bN σ) o).run P w=.ok (.value v) w:=by
   simp[execOp,ac,bN,hx,hy,Instr.index,asIntOf,bt hu,run_underlying hu,Result.andThen,ag,h0,hp,aaq hn]
  rw[aa];exact⟨H,dM.refl hw,rfl,rfl⟩
def Jx{ol rem:List Oper}{o:Oper}{T:TypeId}{len n:Nat}{x y:Operand}(hw:aH ol σ o=some true)(aa:o.op=.index T x y)(hu:C.P.underlying T=some (.array len e))(hi:∃i,C.P.info? e=some i/\i.size=1)(ha:bk C.P e=some none)
  (hx:ev σ x=.v (.agg cs)) (hy:ev σ y=.v (.int kk n)) (hn:n<len) (hv:cs.toList[n]?=some v) (hk:RC C (.op ol rem k) (σ.put o.dst (.v v)) H):RC C (.op ol (o::rem) k) σ H:=by
 obtain⟨a,b⟩:=Di (H:=H) aa hu hi ha hx hy hn hv;exact iU hw a (b.mono fun sv H2 ⟨e1,e2⟩=>by subst e1;subst e2;exact hk)
end
def f4:List bq:=[[60,61],[62,61],[61,61],[33,61],[38,38],[124,124],[43],[45],[42],[47],[37],[60],[62],[61],[33],[40],[41],[123],[125],[44],[59],[58]]
def pQ:List Value:=f4.map fun x=>.string ⟨⟨x⟩⟩
def sX(H:PH):Prop:=aP H 0 0 pQ
def sX.le{I J:PH}(h:sX I)(k:I.le J):sX J:=aP.le h k
theorem Rj:Tryz.prog.underlying 317=some (.array 22 9):=by kernel_rfl
theorem Yh:(Tryz.prog.info? 9).map (·.size)=some 1:=by kernel_rfl
def Zz:∃i,Tryz.prog.info? 9=some i/\i.size=1:=by
 have h:=Yh;cases e:Tryz.prog.info? 9 with
 |none=>rw[e]at h;cases h
 |some i=>rw[e]at h;exact⟨i,rfl,aaZ h⟩
def WD(i sb k:Nat):St:=⟨dn 18 [(0,.v (iv i)),(1,.v (pt sb)),(7,.v (.agg pQ.toArray)),(8,.v (iv k))],[]⟩
def BU(s:bq)(i:Nat):Value:=match f4.find? fun x=>x.isPrefixOf (s.drop i)with
 |some x=>.tuple #[.int .u8 3,.string ⟨⟨x⟩⟩]
 |none=>.tuple #[.int .u8 0,.string ⟨⟨[]⟩⟩]
def SW{H:PH}{sb i:Nat}{s:bq}(hG:sX H)(hs:aP H sb 0 [.string ⟨⟨s⟩⟩])(hi:i<=s.length)(hl:s.length<2^60):
  bO Tryz.prog 217 #[iv i,pt sb] H fun v H2=>v=BU s i/\H2=H:=by
 refine ah 18 Tryz.func217 fun w0=>?_
 try simp only[iv,pt]
 refine aT ?_;refine XN (l:=pQ) (v:=.agg pQ.toArray) rfl hG (.inl ⟨Ry,rfl⟩) ?_;refine aT ?_;refine aA (fun k=>22-k) (WD i sb) (fun k H2=>H2=H/\k<=22/\f4.find? (fun x=>x.isPrefixOf (s.drop i))=(f4.drop k).find? fun x=>x.isPrefixOf (s.drop i)) 0 gP (by simp only[go_sem,aa6,WD]) ⟨rfl,aaL _,rfl⟩ ?_;rintro k H2 ⟨rfl,hk,hf⟩ aa;simp only[WD];rcases aaf k 22 with ac|aj
 ·have h9:decide ((k:Int)<22)=true:=abU ab;have e1:IntKind.i64.wrap ((k:Int)+1)=((k+1:Nat):Int):=by rw[<-wrap64 (n:=k+1) ab];congr 1
  obtain⟨x,hx⟩:∃x,f4[k]?=some x:=⟨_,aak (by simpa[f4]using ac)⟩;have hd:f4.drop k=x::f4.drop (k+1):=by
   have ag:k<f4.length:=by simpa[f4]using ac
   rw[aaK ag];rw[aak ag]at hx;rw[aaZ hx]
  have hv:pQ.toArray.toList[k]?=some (.string ⟨⟨x⟩⟩):=by simp[pQ,hx]
  have tk:(s.drop i).take (s.length-i)=s.drop i:=abG (by simp);rw[hd,List.find?_cons]at hf;apply RG;simp only[go_sem,iv,pt,h9];refine Jx (n:=k) rfl rfl (by exact Rj) Zz (by exact tL) rfl rfl ac hv ?_;refine ll ?_;refine XN (l:=[.string ⟨⟨s⟩⟩]) rfl hs (.inr ⟨tL,rfl⟩) ?_;apply RG;simp only[go_sem,bi,oJ,tk];refine⟨ab,?_⟩;refine WZ rfl Hb (CF _ _ _) fun v H2 hv=>?_;obtain⟨rfl,rfl⟩:=hv;cases hp:x.isPrefixOf (s.drop i)
  ·rw[hp]at hf;apply RG;simp only[go_sem,e1];exact aa (k+1) _ _ ab gP (by simp only[go_sem,aa6,WD]) ⟨rfl,ac,hf⟩
  ·rw[hp]at hf;refine aT ?_;exact aJ (r:=[_,_]) rfl ⟨by unfold BU;rw[hf];rfl,rfl⟩
 ·have:k=22:=by omega
  subst this;have h9:decide ((22:Int)<22)=false:=by decide
  apply RG;simp only[go_sem,iv,pt,abo,h9];exact aJ (r:=[_,_]) rfl ⟨by unfold BU;rw[hf];rfl,rfl⟩
end Go.Proofs.YtfaclfkpnmcmlaaGreatDoor
namespace Go.Proofs
open Go.Shelf
def Tryz.lays171_ren:Go.Shelf.Ren:=⟨fun|171=>268|243=>295|246=>308|283=>315|284=>316|285=>317|286=>318|129=>280|317=>321|318=>322|319=>323|320=>324|337=>325|338=>326|n=>n,fun|3=>3|9=>9|2=>2|4=>4|171=>398|0=>0|53=>366|37=>268|5=>5|173=>400|212=>406|51=>23|20=>20|213=>407|46=>325|232=>408|233=>409|n=>n,fun|17=>3|18=>4|19=>5|n=>n⟩
theorem Tryz.lays171:Go.Proofs.Lays.n171 Tryz.prog Tryz.lays171_ren:={
 mixed:=by kernel_rfl
 f129:=Tryz.func280.trans (congrArg some (by kernel_rfl))
 f171:=Tryz.func268.trans (congrArg some (by kernel_rfl))
 f243:=Tryz.func295.trans (congrArg some (by kernel_rfl))
 f246:=Tryz.func308.trans (congrArg some (by kernel_rfl))
 f283:=Tryz.func315.trans (congrArg some (by kernel_rfl))
 f284:=Tryz.func316.trans (congrArg some (by kernel_rfl))
 f285:=Tryz.func317.trans (congrArg some (by kernel_rfl))
 f286:=Tryz.func318.trans (congrArg some (by kernel_rfl))
 f317:=Tryz.func321.trans (congrArg some (by kernel_rfl))
 f318:=Tryz.func322.trans (congrArg some (by kernel_rfl))
 f319:=Tryz.func323.trans (congrArg some (by kernel_rfl))
 f320:=Tryz.func324.trans (congrArg some (by kernel_rfl))
 f337:=Tryz.func325.trans (congrArg some (by kernel_rfl))
 f338:=Tryz.func326.trans (congrArg some (by kernel_rfl))
 t0:=Tryz.underlying0
 a0:=Tryz.isAgg0
 z0:=Tryz.sizeOf0
 v0:=Tryz.zeroValue0
 t2:=Tryz.underlying2
 a2:=Tryz.isAgg2
 z2:=Tryz.sizeOf2
 v2:=Tryz.zeroValue2
 t3:=Tryz.underlying3
 a3:=Tryz.isAgg3
 z3:=Tryz.sizeOf3
 v3:=Tryz.zeroValue3
 t4:=Tryz.underlying4
 a4:=Tryz.isAgg4
 z4:=Tryz.sizeOf4
 v4:=Tryz.zeroValue4
 t5:=Tryz.underlying5
 a5:=Tryz.isAgg5
 z5:=Tryz.sizeOf5
 v5:=Tryz.zeroValue5
 t9:=Tryz.underlying9
 a9:=Tryz.isAgg9
 z9:=Tryz.sizeOf9
 v9:=Tryz.zeroValue9
 t20:=Tryz.underlying20
 a20:=Tryz.isAgg20
 z20:=Tryz.sizeOf20
 v20:=Tryz.zeroValue20
 t37:=Tryz.underlying268
 a37:=Tryz.isAgg268
 z37:=Tryz.sizeOf268
 v37:=Tryz.zeroValue268
 t46:=Tryz.underlying325
 a46:=Tryz.isAgg325
 z46:=Tryz.sizeOf325
 v46:=Tryz.zeroValue325
 t51:=Tryz.underlying23
 a51:=Tryz.isAgg23
 z51:=Tryz.sizeOf23
 v51:=Tryz.zeroValue23
 t53:=Tryz.underlying366
 a53:=Tryz.isAgg366
 z53:=Tryz.sizeOf366
 v53:=Tryz.zeroValue366
 t171:=Tryz.underlying398
 a171:=Tryz.isAgg398
 z171:=Tryz.sizeOf398
 v171:=Tryz.zeroValue398
 t173:=Tryz.underlying400
 a173:=Tryz.isAgg400
 z173:=Tryz.sizeOf400
 v173:=Tryz.zeroValue400
 t212:=Tryz.underlying406
 a212:=Tryz.isAgg406
 z212:=Tryz.sizeOf406
 v212:=Tryz.zeroValue406
 t213:=Tryz.underlying407
 a213:=Tryz.isAgg407
 z213:=Tryz.sizeOf407
 t232:=Tryz.underlying408
 a232:=Tryz.isAgg408
 z232:=Tryz.sizeOf408
 v232:=Tryz.zeroValue408
 t233:=Tryz.underlying409
 a233:=Tryz.isAgg409
 z233:=Tryz.sizeOf409
 v233:=Tryz.zeroValue409
 g17:=by kernel_rfl
 g18:=by kernel_rfl
 g19:=by kernel_rfl }
def Tryz.laysC172_ren:Go.Shelf.Ren:=⟨fun|172=>267|244=>293|245=>294|247=>303|279=>304|280=>305|281=>306|282=>307|287=>312|316=>313|171=>268|205=>314|321=>319|322=>320|243=>295|246=>308|283=>315|284=>316|285=>317|286=>318|129=>280|317=>321|318=>322|319=>323|320=>324|337=>325|338=>326|n=>n,fun|9=>9|3=>3|75=>284|76=>285|4=>4|5=>5|167=>383|37=>268|0=>0|85=>384|2=>2|168=>386|53=>366|175=>393|46=>325|210=>396|127=>343|145=>405|143=>403|21=>21|171=>398|173=>400|212=>406|51=>23|20=>20|213=>407|232=>408|233=>409|80=>223|n=>n,fun|15=>1|16=>2|17=>3|18=>4|19=>5|n=>n⟩
theorem Tryz.laysC172:Go.Proofs.LaysC.n172 Tryz.prog Tryz.laysC172_ren:={
 mixed:=by kernel_rfl
 f129:=Tryz.func280.trans (congrArg some (by kernel_rfl))
 f171:=Tryz.func268.trans (congrArg some (by kernel_rfl))
 f172:=Tryz.func267.trans (congrArg some (by kernel_rfl))
 f205:=Tryz.func314.trans (congrArg some (by kernel_rfl))
 f243:=Tryz.func295.trans (congrArg some (by kernel_rfl))
 f244:=Tryz.func293.trans (congrArg some (by kernel_rfl))
 f245:=Tryz.func294.trans (congrArg some (by kernel_rfl))
 f246:=Tryz.func308.trans (congrArg some (by kernel_rfl))
 f247:=Tryz.func303.trans (congrArg some (by kernel_rfl))
 f279:=Tryz.func304.trans (congrArg some (by kernel_rfl))
 f280:=Tryz.func305.trans (congrArg some (by kernel_rfl))
 f281:=Tryz.func306.trans (congrArg some (by kernel_rfl))
 f282:=Tryz.func307.trans (congrArg some (by kernel_rfl))
 f283:=Tryz.func315.trans (congrArg some (by kernel_rfl))
 f284:=Tryz.func316.trans (congrArg some (by kernel_rfl))
 f285:=Tryz.func317.trans (congrArg some (by kernel_rfl))
 f286:=Tryz.func318.trans (congrArg some (by kernel_rfl))
 f287:=Tryz.func312.trans (congrArg some (by kernel_rfl))
 f316:=Tryz.func313.trans (congrArg some (by kernel_rfl))
 f317:=Tryz.func321.trans (congrArg some (by kernel_rfl))
 f318:=Tryz.func322.trans (congrArg some (by kernel_rfl))
 f319:=Tryz.func323.trans (congrArg some (by kernel_rfl))
 f320:=Tryz.func324.trans (congrArg some (by kernel_rfl))
 f321:=Tryz.func319.trans (congrArg some (by kernel_rfl))
 f322:=Tryz.func320.trans (congrArg some (by kernel_rfl))
 f337:=Tryz.func325.trans (congrArg some (by kernel_rfl))
 f338:=Tryz.func326.trans (congrArg some (by kernel_rfl))
 t0:=Tryz.underlying0
 a0:=Tryz.isAgg0
 z0:=Tryz.sizeOf0
 v0:=Tryz.zeroValue0
 t2:=Tryz.underlying2
 a2:=Tryz.isAgg2
 z2:=Tryz.sizeOf2
 v2:=Tryz.zeroValue2
 t3:=Tryz.underlying3
 a3:=Tryz.isAgg3
 z3:=Tryz.sizeOf3
 v3:=Tryz.zeroValue3
 t4:=Tryz.underlying4
 a4:=Tryz.isAgg4
 z4:=Tryz.sizeOf4
 v4:=Tryz.zeroValue4
 t5:=Tryz.underlying5
 a5:=Tryz.isAgg5
 z5:=Tryz.sizeOf5
 v5:=Tryz.zeroValue5
 t9:=Tryz.underlying9
 a9:=Tryz.isAgg9
 z9:=Tryz.sizeOf9
 v9:=Tryz.zeroValue9
 t20:=Tryz.underlying20
 a20:=Tryz.isAgg20
 z20:=Tryz.sizeOf20
 v20:=Tryz.zeroValue20
 t21:=Tryz.underlying21
 a21:=Tryz.isAgg21
 z21:=Tryz.sizeOf21
 v21:=Tryz.zeroValue21
 t37:=Tryz.underlying268
 a37:=Tryz.isAgg268
 z37:=Tryz.sizeOf268
 v37:=Tryz.zeroValue268
 t46:=Tryz.underlying325
 a46:=Tryz.isAgg325
 z46:=Tryz.sizeOf325
 v46:=Tryz.zeroValue325
 t51:=Tryz.underlying23
 a51:=Tryz.isAgg23
 z51:=Tryz.sizeOf23
 v51:=Tryz.zeroValue23
 t53:=Tryz.underlying366
 a53:=Tryz.isAgg366
 z53:=Tryz.sizeOf366
 v53:=Tryz.zeroValue366
 t75:=Tryz.underlying284
 a75:=Tryz.isAgg284
 z75:=Tryz.sizeOf284
 v75:=Tryz.zeroValue284
 t76:=Tryz.underlying285
 a76:=Tryz.isAgg285
 z76:=Tryz.sizeOf285
 v76:=Tryz.zeroValue285
 t85:=Tryz.underlying384
 a85:=Tryz.isAgg384
 z85:=Tryz.sizeOf384
 v85:=Tryz.zeroValue384
 t127:=Tryz.underlying343
 a127:=Tryz.isAgg343
 z127:=Tryz.sizeOf343
 v127:=Tryz.zeroValue343
 t143:=Tryz.underlying403
 a143:=Tryz.isAgg403
 z143:=Tryz.sizeOf403
 v143:=Tryz.zeroValue403
 t145:=Tryz.underlying405
 a145:=Tryz.isAgg405
 z145:=Tryz.sizeOf405
 v145:=Tryz.zeroValue405
 t167:=Tryz.underlying383
 a167:=Tryz.isAgg383
 z167:=Tryz.sizeOf383
 v167:=Tryz.zeroValue383
 t168:=Tryz.underlying386
 a168:=Tryz.isAgg386
 z168:=Tryz.sizeOf386
 v168:=Tryz.zeroValue386
 t171:=Tryz.underlying398
 a171:=Tryz.isAgg398
 z171:=Tryz.sizeOf398
 v171:=Tryz.zeroValue398
 t173:=Tryz.underlying400
 a173:=Tryz.isAgg400
 z173:=Tryz.sizeOf400
 v173:=Tryz.zeroValue400
 t175:=Tryz.underlying393
 a175:=Tryz.isAgg393
 z175:=Tryz.sizeOf393
 v175:=Tryz.zeroValue393
 t210:=Tryz.underlying396
 a210:=Tryz.isAgg396
 z210:=Tryz.sizeOf396
 v210:=Tryz.zeroValue396
 t212:=Tryz.underlying406
 a212:=Tryz.isAgg406
 z212:=Tryz.sizeOf406
 v212:=Tryz.zeroValue406
 t213:=Tryz.underlying407
 a213:=Tryz.isAgg407
 z213:=Tryz.sizeOf407
 t232:=Tryz.underlying408
 a232:=Tryz.isAgg408
 z232:=Tryz.sizeOf408
 v232:=Tryz.zeroValue408
 t233:=Tryz.underlying409
 a233:=Tryz.isAgg409
 z233:=Tryz.sizeOf409
 v233:=Tryz.zeroValue409
 g15:=by kernel_rfl
 g16:=by kernel_rfl
 g17:=by kernel_rfl
 g18:=by kernel_rfl
 g19:=by kernel_rfl
 t80:=Tryz.underlying223
 a80:=Tryz.isAgg223
 z80:=Tryz.sizeOf223
 v80:=Tryz.zeroValue223
 i0:=by kernel_rfl
 i2:=by kernel_rfl
 i3:=by kernel_rfl
 i4:=by kernel_rfl
 i5:=by kernel_rfl
 i9:=by kernel_rfl
 i20:=by kernel_rfl
 i21:=by kernel_rfl
 i37:=by kernel_rfl
 i46:=by kernel_rfl
 i51:=by kernel_rfl
 i53:=by kernel_rfl
 i75:=by kernel_rfl
 i76:=by kernel_rfl
 i80:=by kernel_rfl
 i85:=by kernel_rfl
 i127:=by kernel_rfl
 i143:=by kernel_rfl
 i145:=by kernel_rfl
 i167:=by kernel_rfl
 i168:=by kernel_rfl
 i171:=by kernel_rfl
 i173:=by kernel_rfl
 i175:=by kernel_rfl
 i210:=by kernel_rfl
 i212:=by kernel_rfl
 i232:=by kernel_rfl
 i233:=by kernel_rfl
 m15:=by kernel_rfl
 m16:=by kernel_rfl
 m17:=by kernel_rfl
 m18:=by kernel_rfl
 m19:=by kernel_rfl
 c0:=by kernel_rfl
 c2:=by kernel_rfl
 c3:=by kernel_rfl
 c4:=by kernel_rfl
 c5:=by kernel_rfl
 c9:=by kernel_rfl
 c20:=by kernel_rfl
 c21:=by kernel_rfl
 c37:=by kernel_rfl
 c46:=by kernel_rfl
 c51:=by kernel_rfl
 c53:=by kernel_rfl
 c75:=by kernel_rfl
 c76:=by kernel_rfl
 c80:=by kernel_rfl
 c85:=by kernel_rfl
 c127:=by kernel_rfl
 c143:=by kernel_rfl
 c145:=by kernel_rfl
 c167:=by kernel_rfl
 c168:=by kernel_rfl
 c171:=by kernel_rfl
 c173:=by kernel_rfl
 c175:=by kernel_rfl
 c210:=by kernel_rfl
 c212:=by kernel_rfl
 c213:=by kernel_rfl
 c232:=by kernel_rfl
 c233:=by kernel_rfl }
open Go.RowKit in
theorem Tryz.strconv_Atoi_ok(s:ByteArray)(aa:s.size<=9223372036854775806)(v:Int)(h:Lib.atoiAll s.data.toList=.ok v)(w:World):
  Calls Tryz.prog 267 #[.string s] w fun e w'=>e=.returned (.tuple #[.int .i64 v,.nilIface])/\(w'=w\/∃t,w'=Lib.bytesWorld w 5 t):=Any.strconv_Atoi_ok Tryz.laysC172 s aa v h w
open Go.RowKit in
theorem Tryz.strconv_Atoi_syntax(s:ByteArray)(aa:s.size<=281474976710656)(h:Lib.atoiAll s.data.toList=Lib.NumEnd.syntax)(ev:Value)(w:World)(hv:w.cell? ⟨1,0,none⟩=some ev)(ac:ev=.nilIface\/∃te pe,ev=.iface te pe):
  Calls Tryz.prog 267 #[.string s] w fun e w'=>∃N,e=.returned (.tuple #[.int .i64 (0),.iface 386 (.pointer (some ⟨N,0,none⟩))])/\w.heap.size<=N/\w'.heap[N]?=some (.cells #[.string ⟨#[65,116,111,105]⟩,.string s,ev] 396 (0,0))/\Below w.heap.size w w':=Any.strconv_Atoi_syntax Tryz.laysC172 s aa h ev w hv ac
theorem Tryz.laysM171:Go.Proofs.LaysM.n171 Tryz.prog Tryz.lays171_ren:={ Tryz.lays171 with
 i0:=by kernel_rfl
 i2:=by kernel_rfl
 i3:=by kernel_rfl
 i4:=by kernel_rfl
 i5:=by kernel_rfl
 i9:=by kernel_rfl
 i20:=by kernel_rfl
 i37:=by kernel_rfl
 i46:=by kernel_rfl
 i51:=by kernel_rfl
 i53:=by kernel_rfl
 i171:=by kernel_rfl
 i173:=by kernel_rfl
 i212:=by kernel_rfl
 i232:=by kernel_rfl
 i233:=by kernel_rfl
 m17:=by kernel_rfl
 m18:=by kernel_rfl
 m19:=by kernel_rfl }
open Go.RowKit in
theorem Tryz.strconv_Atoi_range(s:ByteArray)(aa:s.size<=281474976710656)(h:Lib.atoiAll s.data.toList=.range)(ev:Value)(w:World)(hv:w.cell? ⟨2,0,none⟩=some ev)(ac:ev=.nilIface\/∃te pe,ev=.iface te pe):
  Calls Tryz.prog 267 #[.string s] w fun e w'=>∃N,e=.returned (.tuple #[.int .i64 (Lib.atoiSat s.data.toList),.iface 386 (.pointer (some ⟨N,0,none⟩))])/\w.heap.size<=N/\w'.heap[N]?=some (.cells #[.string ⟨#[65,116,111,105]⟩,.string s,ev] 396 (0,0))/\Below w.heap.size w w':=Any.strconv_Atoi_range Tryz.laysC172 s aa h ev w hv ac
open Go.Sort in
theorem Tryz.strconv_Itoa (n:Int) (h0:-9223372036854775808<=n) (h1:n<=9223372036854775807) (w:World) (aa:Lib.TabIs Tryz.prog w "internal/strconv.uint64pow10" .u64 Lib.pow10Tab) :
  Calls Tryz.prog 268 #[.int .i64 n] w fun e w'=>e=.returned (.string ⟨(Lib.itoa n).toArray⟩)/\∃k os,w'=grow (w.drewN k) os:=Any.strconv_Itoa Tryz.laysM171 n h0 h1 w aa
end Go.Proofs
namespace Go.Proofs.YtfaclfkpnmcmlaaGreatDoor
open Go Go.Sx Dg Syn
def Aq:aO Tryz.prog 267:=⟨_,Tryz.func267,rfl,rfl⟩
def Qt:aO Tryz.prog 268:=⟨_,Tryz.func268,rfl,rfl⟩
def Qy:aO Tryz.prog 216:=⟨_,Tryz.func216,rfl,rfl⟩
def Qk:aO Tryz.prog 215:=⟨_,Tryz.func215,rfl,rfl⟩
section
variable {C:Cx} {P:Program} {k:List Item} {σ:St} {H:PH}
variable{v:Value}{ms:Array (String×TypeId)}{T2:TypeId}
def Ja{o:Oper}{T:TypeId}{x y:Operand}{b:Bool}(ac:o.op=.binOp .eql T x y T2)(hu:P.underlying T=some (.interface ms))
  (hx:ev σ x=.v v) (hc:y=.const .nilIface) (hv:v=.nilIface/\b=true\/(∃t p,v=.iface t p)/\b=false) :
  bh σ o.op=true/\de P (execOp (bN σ) o) H fun sv H2=>sv=.v (.bool b)/\H2=H:=by
 subst hc;have hy:ev σ (.const .nilIface)=.v .nilIface:=rfl;constructor
 ·simp[bh,ac,fT,Op.operands,hx,hy,ul]
 ·intro w hw;have aa:(execOp (bN σ) o).run P w=.ok (.value (.bool b)) w:=by
   have:∀k,Op.maxDepth=k+1->(Op.equal T v .nilIface).run P w=.ok b w:=by
    intro k hk;unfold Op.equal;rw[hk];rcases hv with ⟨rfl,rfl⟩|⟨⟨t,p,rfl⟩,rfl⟩<;>simp[Op.equalIn,run_underlying hu,ZY,Result.andThen]
   have hh:=this 9999 rfl;rcases hv with ⟨rfl,rfl⟩|⟨⟨t,p,rfl⟩,rfl⟩<;>simp[execOp,ac,bN,hx,hy,eqGuard,binOp,ZY,hh,Result.andThen]
  rw[aa];exact⟨H,dM.refl hw,rfl,rfl⟩
def wh{ol rem:List Oper}{o:Oper}{T:TypeId}{x y:Operand}(b:Bool)(hw:aH ol σ o=some true)(aa:o.op=.binOp .eql T x y T2)(hu:C.P.underlying T=some (.interface ms))
  (hx:ev σ x=.v v) (hc:y=.const .nilIface) (hv:v=.nilIface/\b=true\/(∃t p,v=.iface t p)/\b=false) (hk:RC C (.op ol rem k) (σ.put o.dst (.v (.bool b))) H):RC C (.op ol (o::rem) k) σ H:=by
 obtain⟨p,q⟩:=Ja (H:=H) aa hu hx hc hv;exact iU hw p (q.mono fun sv H2 ⟨e1,e2⟩=>by subst e1;subst e2;exact hk)
end
def zN:∃ms,Tryz.prog.underlying 284=some (.interface ms):=⟨_,Tryz.underlying284⟩
def dM.below{H:PH}{w w2:World}(hw:Sx.Sub H w)(h:RowKit.Below w.heap.size w w2):dM H w H w2 where
 sub b o hb:=by
  have h1:=hw b o hb;have:b<w.heap.size:=by
   rcases aaf b w.heap.size with h|h
   ·exact h
   ·rw[aag h]at h1;cases h1
  rw[h.block b this];exact h1
 size:=h.size
 priv b hb _:=h.block b hb
 dom _ _ h:=h
 os:=h.os
 tape:=h.tape
 out:=h.output
variable{v:Int}{s:bq}
def QE{H:PH}(hl:s.length<2^40)(h:Lib.atoiAll s=.ok v):bO Tryz.prog 267 #[.string ⟨⟨s⟩⟩] H fun r H2=>r=.tuple #[.int .i64 v,.nilIface]/\H2=H:=by
 intro w hw;refine(Tryz.strconv_Atoi_ok ⟨⟨s⟩⟩ (by (try simp only[bi]);omega) v h w).mono ?_;rintro e w2 ⟨rfl,hW⟩;refine⟨H,dM.below hw ?_,rfl,rfl⟩;rcases hW with rfl|⟨t,rfl⟩
 ·exact RowKit.Below.refl _ _
 ·exact Lib.bytesWorld_below _ _ _
def D0(H:PH):Prop:=∃te pe,aP H 1 0 [.iface te pe]
variable{I J:PH}
def D0.le(h:D0 I)(k:I.le J):D0 J:=let ⟨a,b,c⟩:=h;⟨a,b,aP.le c k⟩
def QD{H:PH}(hl:s.length<2^40)(h:Lib.atoiAll s=Lib.NumEnd.syntax)(hE:D0 H):bO Tryz.prog 267 #[.string ⟨⟨s⟩⟩] H fun r H2=>(∃p,r=.tuple #[.int .i64 0,.iface 386 p])/\H2=H:=by
 intro w hw;obtain⟨te,pe,cs,ty,fz,h1,h2,h3⟩:=hE;have hb:=hw 1 _ h1;have hv:w.cell? ⟨1,0,none⟩=some (.iface te pe):=by
  have hc:cs[0]?=some (.iface te pe):=by
   have:=congrArg (fun l:List Value=>l[0]?) h3;simpa using this
  simp[World.cell?,hb,hc]
 refine(Tryz.strconv_Atoi_syntax ⟨⟨s⟩⟩ (by (try simp only[bi]);omega) h _ w hv (.inr ⟨te,pe,rfl⟩)).mono ?_;rintro e w2 ⟨N,rfl,_,_,hW⟩;exact⟨H,dM.below hw hW,⟨_,rfl⟩,rfl⟩
def wR(H:PH):Prop:=∃te pe,aP H 2 0 [.iface te pe]
def wR.le(h:wR I)(k:I.le J):wR J:=let ⟨a,b,c⟩:=h;⟨a,b,aP.le c k⟩
def M7{H:PH}(hl:s.length<2^40)(h:Lib.atoiAll s=.range)(hE:wR H):bO Tryz.prog 267 #[.string ⟨⟨s⟩⟩] H fun r H2=>(∃p,r=.tuple #[.int .i64 (Lib.atoiSat s),.iface 386 p])/\H2=H:=by
 intro w hw;obtain⟨te,pe,cs,ty,fz,h1,h2,h3⟩:=hE;have hb:=hw 2 _ h1;have hv:w.cell? ⟨2,0,none⟩=some (.iface te pe):=by
  have hc:cs[0]?=some (.iface te pe):=by
   have:=congrArg (fun l:List Value=>l[0]?) h3;simpa using this
  simp[World.cell?,hb,hc]
 refine(Tryz.strconv_Atoi_range ⟨⟨s⟩⟩ (by (try simp only[bi]);omega) h _ w hv (.inr ⟨te,pe,rfl⟩)).mono ?_;rintro e w2 ⟨N,rfl,_,_,hW⟩;exact⟨H,dM.below hw hW,⟨_,rfl⟩,rfl⟩
def CT(H:PH):Prop:=∃ty fz,H 3=some (.cells (Lib.pow10Tab.map fun z=>Value.int .u64 z).toArray ty fz)
def CT.le(h:CT I)(k:I.le J):CT J:=let ⟨a,b,c⟩:=h;⟨a,b,k 3 _ c⟩
theorem Mh:Tryz.prog.globalNamed "internal/strconv.uint64pow10"=some 3:=by kernel_rfl
theorem T6{H:PH}(h0:-9223372036854775808<=v)(h1:v<=9223372036854775807)(hT:CT H):bO Tryz.prog 268 #[.int .i64 v] H fun r H2=>r=.string ⟨⟨Lib.itoa v⟩⟩/\H2=H:=by
 intro w hw;obtain⟨ty,fz,hb⟩:=hT;have hb:=hw 3 _ hb;have aa:Lib.TabIs Tryz.prog w "internal/strconv.uint64pow10" .u64 Lib.pow10Tab:=by
  unfold Lib.TabIs World.var?;rw[Mh];simp[hb]
 refine(Tryz.strconv_Itoa v h0 h1 w aa).mono ?_;rintro e w2 ⟨rfl,k,os,rfl⟩;refine⟨H,?_,rfl,rfl⟩;have hg:∀(b:Nat) (o:Obj),w.heap[b]?=some o->(w.heap++os)[b]?=some o:=by
  intro b o h;have:b<w.heap.size:=by
   rcases aaf b w.heap.size with h2|h2
   ·exact h2
   ·rw[aag h2]at h;cases h
  rw[Array.getElem?_append_left this];exact h
 exact{
     sub:=fun b o h=>hg b o (hw b o h)
     size:=by simp[Sort.grow,World.drewN]
     priv:=fun b ac _=>by simp only[Sort.grow,World.drewN];rw[Array.getElem?_append_left ac]
     dom:=fun _ _ h=>h
     os:=rfl
     tape:=rfl
     out:=rfl }
def pw(s:bq):Bool:=match Lib.atoiAll s with
 | .ok v=>decide (v<=2147483647) && decide (Lib.itoa v=s) && lw (bZ (s.getD 0 0))
 |_=>false
def ir(H:PH):Prop:=sX H/\D0 H/\wR H/\CT H
def ir.le(h:ir I)(k:I.le J):ir J:=⟨h.1.le k,h.2.1.le k,h.2.2.1.le k,h.2.2.2.le k⟩
def Mn:∀u,Lib.decDigits u≠[]:=by
 intro u h;have:=Lib.decDigits_length u;rw[h]at this;rw[Lib.decDigits]at h;split at h<;>simp at h
def Gi(v:Int):Lib.itoa v≠[]:=by
 unfold Lib.itoa;split
 ·simp
 ·exact Mn _
def Pt(h:Lib.atoiAll s=.ok v):-9223372036854775808<=v/\v<=9223372036854775807:=by
 unfold Lib.atoiAll at h;split at h
 ·cases h
 simp only at h;split at h
 ·cases h
 ·cases h
 split at h
 ·cases h
 split at h
 ·cases h
 cases h
 split<;>omega
def N5{a b:bq}:(a == b)=decide (a=b):=by
 by_cases h:a=b
 ·subst h;simp
 ·simp[h]
def FB{H:PH}(hl:s.length<2^40)(hV:ir H):bO Tryz.prog 216 #[.string ⟨⟨s⟩⟩] H fun v H2=>v=.bool (pw s)/\H2=H:=by
 obtain⟨_,hE,ac,hT⟩:=hV;refine ah 27 Tryz.func216 fun w0=>?_;refine aT ?_;cases h:Lib.atoiAll s with
 |ok v=>
  obtain⟨b0,b1⟩:=Pt h;refine WZ rfl Aq (QE hl h) fun r H2 hv=>?_;obtain⟨rfl,rfl⟩:=hv;cases aa:decide (v<=2147483647)
  ·apply RG;simp only[go_sem,aa];refine wh true rfl rfl zN.choose_spec rfl rfl (.inl ⟨rfl,rfl⟩) ?_;apply RG;simp only[go_sem,aa];exact aJ (r:=[_]) rfl ⟨by unfold pw;simp[h,aa];rfl,rfl⟩
  ·apply RG;simp only[go_sem,aa];refine wh true rfl rfl zN.choose_spec rfl rfl (.inl ⟨rfl,rfl⟩) ?_;apply RG;simp only[go_sem,aa];refine WZ rfl Qt (T6 b0 b1 hT) fun r H2 hv=>?_;obtain⟨rfl,rfl⟩:=hv;by_cases hi:Lib.itoa v=s
   ·subst hi;have hb:(Lib.itoa v == Lib.itoa v)=true:=by simp
    obtain⟨c,r,hc⟩:∃c r,Lib.itoa v=c::r:=by
     cases e:Lib.itoa v with
     |nil=>exact absurd e (Gi v)
     |cons c r=>exact⟨c,r,rfl⟩
    apply RG;simp only[go_sem,hb];refine⟨by rw[hc];simp,?_⟩;refine WZ rfl BS (Bc _ _) fun r H2 hv=>?_;obtain⟨rfl,rfl⟩:=hv;have h0:(Lib.itoa v)[0]?=some ((Lib.itoa v).getD 0 0):=by rw[hc];rfl
    rw[jn (i:=0) h0];refine aT ?_;exact aJ (r:=[_]) rfl ⟨by unfold pw;simp[h,aa];rfl,rfl⟩
   ·have hb:(Lib.itoa v == s)=false:=by simp[hi]
    apply RG;simp only[go_sem,hb];exact aJ (r:=[_]) rfl ⟨by unfold pw;simp[h,aa,hi];rfl,rfl⟩
 |range=>
  refine WZ rfl Aq (M7 hl h ac) fun v H2 hv=>?_;obtain⟨⟨p,rfl⟩,rfl⟩:=hv;refine aT ?_;refine wh false rfl rfl zN.choose_spec rfl rfl (.inr ⟨⟨_,_,rfl⟩,rfl⟩) ?_;refine aT ?_;exact aJ (r:=[_]) rfl ⟨by unfold pw;rw[h];rfl,rfl⟩
 |_=>
  refine WZ rfl Aq (QD hl h hE) fun v H2 hv=>?_;obtain⟨⟨p,rfl⟩,rfl⟩:=hv;refine aT ?_;refine wh false rfl rfl zN.choose_spec rfl rfl (.inr ⟨⟨_,_,rfl⟩,rfl⟩) ?_;refine aT ?_;exact aJ (r:=[_]) rfl ⟨by unfold pw;rw[h];rfl,rfl⟩
def M9{H:PH}{sb fb i:Nat}(hV:ir H)(hs:aP H sb 0 [.string ⟨⟨s⟩⟩])(hf:aP H fb 0 [.func (.func 211) #[] #[pt sb]])(hi:i<=s.length)(hl:s.length<2^40):
  bO Tryz.prog 215 #[iv i,pt fb] H fun v H2=>v=(if pw ((s.drop i).take (dE (s.drop i)))then .tuple #[.int .u8 2,.string ⟨⟨(s.drop i).take (dE (s.drop i))⟩⟩]else .tuple #[.int .u8 0,.string ⟨⟨[]⟩⟩])/\H2=H:=by
 refine ah 12 Tryz.func215 fun w0=>?_
 try simp only[iv,pt]
 refine aT ?_;refine XN (l:=[.func (.func 211) #[] #[pt sb]]) rfl hf (.inr ⟨Mm,rfl⟩) ?_;refine ll ?_;refine WZ rfl Hs (Rd hs hi ab) fun v H2 hv=>?_;obtain⟨rfl,rfl⟩:=hv;refine aT ?_;have aa:((s.drop i).take (dE (s.drop i))).length<2^40:=by
  simp only[abF,abD];omega
 refine WZ rfl Qy (FB aa hV) fun v H2 hv=>?_;obtain⟨rfl,rfl⟩:=hv;cases hb:pw ((s.drop i).take (dE (s.drop i)))
 ·refine aT ?_;exact aJ (r:=[_,_]) rfl ⟨rfl,rfl⟩
 ·refine aT ?_;exact aJ (r:=[_,_]) rfl ⟨rfl,rfl⟩
open Go Go.Sx Dg Syn
def fS(d:bq):Nat×bq:=
 if xJ (d.take (dE d))then (1,d.take (dE d))
 else if pw (d.take (dE d))then (2,d.take (dE d))
 else match f4.find? fun x=>x.isPrefixOf d with
  |some x=>(3,x)
  |none=>(0,[])
def TV:bq:=[47,47]
def Dv:Nat->bq->Option (List (Nat×bq))
 |0,_=>none
 |_+1,[]=>some []
 |n+1,c::s=>
  if yO (bZ c)then Dv n s
  else if TV.isPrefixOf (c::s)then some []
  else if (fS (c::s)).1=0 then none
  else (Dv n ((c::s).drop (fS (c::s)).2.length)).map (fS (c::s)::·)
def Gr{x:bq}(h:pw x=true):x≠[]:=by
 unfold pw at h;split at h
 ·rename_i v hv;simp only[aao,aaC]at h;intro e;exact Gi v (h.1.2.trans e)
 ·cases h
def JP{x:bq}(h:xJ x=true):x≠[]:=by
 intro e;subst e;revert h;decide
def Ci:∀x∈f4,x≠[]:=by decide
def og{d:bq}(h:(fS d).1≠0):0<(fS d).2.length/\(fS d).2.length<=d.length/\((fS d).2 <+: d)/\(fS d).1<=3:=by
 unfold fS at h |-;have hp:=List.take_prefix (dE d) d;split
 ·rename_i h1;exact⟨List.length_pos_iff.2 (JP h1),hp.length_le,hp,show 1<=3 by decide⟩
 ·split
  ·rename_i h1;exact⟨List.length_pos_iff.2 (Gr h1),hp.length_le,hp,show 2<=3 by decide⟩
  ·split
   ·rename_i x hx;have h2:=List.find?_some hx;have h3:=List.mem_of_find?_eq_some hx;have h4:=List.isPrefixOf_iff_prefix.1 h2;exact⟨List.length_pos_iff.2 (Ci x h3),h4.length_le,h4,show 3<=3 by decide⟩
   ·rename_i h1 h2 _ hx;rw[ZV h1,ZV h2,hx]at h;exact absurd rfl h
def Bq:∀(n m:Nat) (d:bq),d.length<n->d.length<m->Dv n d=Dv m d
 |0,_,_,h,_=>by omega
 |_+1,0,_,_,h=>by omega
 |n+1,m+1,[],_,_=>rfl
 |n+1,m+1,c::s,h1,h2=>by
  simp only[aaj]at h1 h2;rw[Dv,Dv,Bq n m s ab ab];split
  ·rfl
  ·split
   ·rfl
   ·split
    ·rfl
    ·rename_i h3;obtain⟨a,b,_⟩:=og h3;rw[Bq n m ((c::s).drop (fS (c::s)).2.length) (by simp only[abD,aaj]at b |-;omega) (by simp only[abD,aaj]at b |-;omega)]
def xZ(d:bq):Option (List (Nat×bq)):=Dv (d.length+1) d
theorem mP:xZ []=some []:=rfl
def mV(c:UInt8)(s:bq):xZ (c::s)=if yO (bZ c)then xZ s
  else if TV.isPrefixOf (c::s)then some []
  else if (fS (c::s)).1=0 then none
  else (xZ ((c::s).drop (fS (c::s)).2.length)).map (fS (c::s)::·):=by
 unfold xZ;rw[aaj,Dv];split
 ·rfl
 ·split
  ·rfl
  ·split
   ·rfl
   ·rename_i h3;obtain⟨a,b,_⟩:=og h3;rw[Bq (s.length+1) (((c::s).drop (fS (c::s)).2.length).length+1) _ (by simp only[abD,aaj]at b |-;omega) ab]
def rI(s:bq):Option (List (Nat×bq)):=if s.all fun c=>Er (bZ c)then xZ s else none
def lI(k:Nat)(x:bq):Bool:=decide (rI x=some [(k,x)])
def cY(x:Nat×bq):Tok:=⟨x.1,x.2,tt,true⟩
def refit(t:Tok):Tok:={ t with fits:=lI t.kind t.text }
def jj:aO Tryz.prog 138:=⟨_,Tryz.func138,rfl,rfl⟩
def QF:aO Tryz.prog 222:=⟨_,Tryz.func222,rfl,rfl⟩
def N6:aO Tryz.prog 223:=⟨_,Tryz.func223,rfl,rfl⟩
def HC:aO Tryz.prog 263:=⟨_,Tryz.func263,rfl,rfl⟩
def wv:aO Tryz.prog 291:=⟨_,Tryz.func291,rfl,rfl⟩
section
variable {C:Cx} {k:List Item} {σ:St} {α:Type} {R:PH->List Value->α->Prop}
variable{l:List PH}
def bl{ol rem:List Oper}{o:Oper}{t e:TypeId}{size bytes:Nat}{x y:Operand}{v vy:Value}{xs ys:List α}{I A:PH}(hd:Dj (I::A::l))(ht:jv C.P t e size bytes)(hA:Ow R e size I A v xs)(hS:Sl R I vy ys)(hR:∀{I J c a},R I c a->I.le J->R J c a)(hn:∀{I} c a,R I c a->c.length=size)(h1:∀{I} c a,R I c a->c.all Sx.one=true)
  (hw:aH ol σ o=some true) (ak:o.op=.call ⟨.builtin .append,#[x,y],#[t,t]⟩) (hx:ev σ x=.v v) (hy:ev σ y=.v vy) (hb:(xs.length+ys.length)*bytes<=140737488355328) (an:xs.length+ys.length<=maxLen)
  (hk:∀a c I2 A2,Dj (I2::A2::l)->I.le I2->Ow R e size I2 A2 (.slice a (xs++ys).length c) (xs++ys)->RC C (.op ol rem k) (σ.put o.dst (.v (.slice a (xs++ys).length c))) (U (I2::A2::l))):RC C (.op ol (o::rem) k) σ (U (I::A::l)):=by
 obtain⟨ya,yc,rfl,hS⟩:=hS;rcases hS with rfl|⟨b,off,zs,rfl,hc,hr⟩
 ·have ag:=hA.cap fun c a h=>hn c a h;obtain⟨va,vc,rfl⟩:=hA.shape;refine yq ht hw ak hx ag hy ?_;have:=hk va vc I A hd (abW _) (by simpa using hA);simpa using this
 ·obtain⟨bs,ac,al⟩:=hA;refine dZ hd ht ac hw ak hx hy (cellsU hd (.head _) hc) (hr.len fun c a h=>hn c a h) (hr.ones fun c a h=>h1 c a h) hb an fun v' I2 A2 am aa aj=>?_;obtain⟨a,c,rfl⟩:=aj.slice;have e:xs.length+ys.length=(xs++ys).length:=by simp
  have:=hk a c I2 A2 am aa ⟨bs++zs,by rw[e]at aj;exact aj,LR.app (al.mono fun _ _ h=>hR h aa) (hr.mono fun _ _ h=>hR h aa)⟩;rw[e];exact this
def fP{ol:List Oper}{fr:iK}{str:ip}{i:Nat}{lo:List (Nat×Oper)}{o:Oper}{t e:TypeId}{size bytes:Nat}{x y:Operand}{v vy:Value}{xs ys:List α}{I A:PH}(hd:Dj (I::A::l))(ht:jv C.P t e size bytes)(hA:Ow R e size I A v xs)(hS:Sl R I vy ys)(hR:∀{I J c a},R I c a->I.le J->R J c a)(hn:∀{I} c a,R I c a->c.length=size)(h1:∀{I} c a,R I c a->c.all Sx.one=true)
  (hs:str.h.contains i=false) (al:str.j.contains i=false) (hw:aH ol σ o=some true) (ag:o.op=.call ⟨.builtin .append,#[x,y],#[t,t]⟩) (hx:ev σ x=.v v) (hy:ev σ y=.v vy) (hb:(xs.length+ys.length)*bytes<=140737488355328) (ao:xs.length+ys.length<=maxLen)
  (hk:∀a c I2 A2,Dj (I2::A2::l)->I.le I2->Ow R e size I2 A2 (.slice a (xs++ys).length c) (xs++ys)->RD C ol fr str lo k (σ.put o.dst (.v (.slice a (xs++ys).length c))) (U (I2::A2::l))):RD C ol fr str ((i,o)::lo) k σ (U (I::A::l)):=by
 obtain⟨ya,yc,rfl,hS⟩:=hS;rcases hS with rfl|⟨b,off,zs,rfl,hc,hr⟩
 ·have aj:=hA.cap fun c a h=>hn c a h;obtain⟨va,vc,rfl⟩:=hA.shape;obtain⟨a,b⟩:=tE (H:=U (I::A::l)) ht ag hx aj hy;refine uB hw a (by rw[ag];rfl) (b.mono fun sv H2 ⟨e1,e2⟩=>⟨l9.non hs al,?_⟩);subst e1;subst e2;have:=hk va vc I A hd (abW _) (by simpa using hA);simpa using this
 ·obtain⟨bs,ac,am⟩:=hA;refine j3 hd ht ac hs al hw ag hx hy (cellsU hd (.head _) hc) (hr.len fun c a h=>hn c a h) (hr.ones fun c a h=>h1 c a h) hb ao fun v' I2 A2 an aa ak=>?_;obtain⟨a,c,rfl⟩:=ak.slice;have e:xs.length+ys.length=(xs++ys).length:=by simp
  have:=hk a c I2 A2 an aa ⟨bs++zs,by rw[e]at ak;exact ak,LR.app (am.mono fun _ _ h=>hR h aa) (hr.mono fun _ _ h=>hR h aa)⟩;rw[e];exact this
end
def ji{I:PH}{h:aB}{a:Option Addr}{k:Nat}(ak:h.at'<2^61)(hr:cX I (.agg #[sD a k h.cond,rD h.cond]) h.cond):
  aK Tryz.prog 138 #[yL a k h] I [] fun v I2 qs=>qs=[]/\eR I2 v (bv h):=by
 intro hd;have e1:=wrap64 (n:=h.at'+1) ab;have aj:IntKind.i64.wrap ((h.at':Int)+1)=((h.at'+1:Nat):Int):=by rw[<-e1];congr 1
 refine ah 10 Tryz.func138 fun w0=>?_
 try simp only[yL,iv,sD,rD]
 apply RG;simp only[go_sem,aj];refine ax hd (by exact jH) rfl rfl rfl rfl rfl bg fun nb I2 ag aa ac=>?_;refine aT ?_;refine af rfl ag (r:=[_]) rfl aa ⟨rfl,_,_,rfl,.inr ⟨nb,0,[iv (h.at'+1),sD a k h.cond,rD h.cond],rfl,az ac (by simp[aD,Value.cells]) (by simp[aD,Value.cells,iv,sD,rD]),.one ⟨_,_,rfl,hr.le aa⟩⟩⟩
def Hv{I:PH}{vf:Value}{f:ar}(hf:eR I vf f)(hl:f.length<=2^20):aK Tryz.prog 263 #[vf] I [] fun v I2 qs=>∃A,qs=[A]/\jy I2 A v f:=by
 intro hd;obtain⟨fa,fc,rfl,aj⟩:=id hf;refine ah 8 Tryz.func263 fun w0=>?_;cases fa with
 |none=>
  have ak:f=[]:=by
   rcases aj with h|⟨b,off,xs,e,_⟩
   ·exact h
   ·cases e
  subst ak;refine aT ?_;refine nG rfl rfl (by exact zG) rfl rfl ?_;apply RG;simp only[go_sem,Option.isNone];refine aR hd fun ag=>?_;exact af rfl ag (r:=[_]) rfl (abW _) ⟨_,rfl,Ow.nil _ _ _ _⟩
 |some a=>
  refine aT ?_;refine nG rfl rfl (by exact zG) rfl rfl ?_;apply RG;simp only[go_sem,Option.isNone];refine fx hd (by exact jH) rfl rfl rfl rfl rfl bg fun b A ag aa=>?_;refine aT ?_;refine bl ag (by exact jH) (xs:=([]:ar)) (R:=iD) ⟨[],aa,rfl⟩ hf (fun{I J c a} h k=>iD.le h k) (fun{I} c a h=>iD.len c a h) (fun{I} c a h=>iD.ones h) rfl rfl rfl rfl (by simp only[aaO];omega) (by simp only[aaO];unfold maxLen;omega) fun a2 c2 I2 A2 al ac am=>?_;apply RG;simp only[go_sem,aaA];exact af rfl al (r:=[_]) rfl ac ⟨_,rfl,am⟩
def Lm{H:PH}{s:bq}:bO Tryz.prog 223 #[.string ⟨⟨s⟩⟩] H fun v H2=>v=.int .i64 (if dX s=9 then -1 else (dX s:Int))/\H2=H:=by
 refine ah 22 Tryz.func223 fun w0=>?_;cases h0:(s == [124,124])
 rotate_left
 ·apply RG;simp only[go_sem,h0];exact aJ (r:=[.int .i64 0]) rfl ⟨by rw[show dX s=0 from by rw[eq_of_beq h0];decide];rfl,rfl⟩
 cases h1:(s == [38,38])
 rotate_left
 ·apply RG;simp only[go_sem,h0,h1];exact aJ (r:=[.int .i64 1]) rfl ⟨by rw[show dX s=1 from by rw[eq_of_beq h1];decide];rfl,rfl⟩
 cases h2:(s == [61,61])
 rotate_left
 ·apply RG;simp only[go_sem,h0,h1,h2];exact aJ (r:=[.int .i64 2]) rfl ⟨by rw[show dX s=2 from by rw[eq_of_beq h2];decide];rfl,rfl⟩
 cases h3:(s == [33,61])
 rotate_left
 ·apply RG;simp only[go_sem,h0,h1,h2,h3];exact aJ (r:=[.int .i64 2]) rfl ⟨by rw[show dX s=2 from by rw[eq_of_beq h3];decide];rfl,rfl⟩
 cases h4:(s == [60])
 rotate_left
 ·apply RG;simp only[go_sem,h0,h1,h2,h3,h4];exact aJ (r:=[.int .i64 2]) rfl ⟨by rw[show dX s=2 from by rw[eq_of_beq h4];decide];rfl,rfl⟩
 cases h5:(s == [60,61])
 rotate_left
 ·apply RG;simp only[go_sem,h0,h1,h2,h3,h4,h5];exact aJ (r:=[.int .i64 2]) rfl ⟨by rw[show dX s=2 from by rw[eq_of_beq h5];decide];rfl,rfl⟩
 cases h6:(s == [62])
 rotate_left
 ·apply RG;simp only[go_sem,h0,h1,h2,h3,h4,h5,h6];exact aJ (r:=[.int .i64 2]) rfl ⟨by rw[show dX s=2 from by rw[eq_of_beq h6];decide];rfl,rfl⟩
 cases h7:(s == [62,61])
 rotate_left
 ·apply RG;simp only[go_sem,h0,h1,h2,h3,h4,h5,h6,h7];exact aJ (r:=[.int .i64 2]) rfl ⟨by rw[show dX s=2 from by rw[eq_of_beq h7];decide];rfl,rfl⟩
 cases h8:(s == [43])
 rotate_left
 ·apply RG;simp only[go_sem,h0,h1,h2,h3,h4,h5,h6,h7,h8];exact aJ (r:=[.int .i64 3]) rfl ⟨by rw[show dX s=3 from by rw[eq_of_beq h8];decide];rfl,rfl⟩
 cases h9:(s == [45])
 rotate_left
 ·apply RG;simp only[go_sem,h0,h1,h2,h3,h4,h5,h6,h7,h8,h9];exact aJ (r:=[.int .i64 3]) rfl ⟨by rw[show dX s=3 from by rw[eq_of_beq h9];decide];rfl,rfl⟩
 cases aa:(s == [42])
 rotate_left
 ·apply RG;simp only[go_sem,h0,h1,h2,h3,h4,h5,h6,h7,h8,h9,aa];exact aJ (r:=[.int .i64 4]) rfl ⟨by rw[show dX s=4 from by rw[eq_of_beq aa];decide];rfl,rfl⟩
 cases ac:(s == [47])
 rotate_left
 ·apply RG;simp only[go_sem,h0,h1,h2,h3,h4,h5,h6,h7,h8,h9,aa,ac];exact aJ (r:=[.int .i64 4]) rfl ⟨by rw[show dX s=4 from by rw[eq_of_beq ac];decide];rfl,rfl⟩
 cases ag:(s == [37])
 rotate_left
 ·apply RG;simp only[go_sem,h0,h1,h2,h3,h4,h5,h6,h7,h8,h9,aa,ac,ag];exact aJ (r:=[.int .i64 4]) rfl ⟨by rw[show dX s=4 from by rw[eq_of_beq ag];decide];rfl,rfl⟩
 apply RG;simp only[go_sem,h0,h1,h2,h3,h4,h5,h6,h7,h8,h9,aa,ac,ag];have q0:s≠xU:=fun e=>by rw[e]at h0;exact absurd h0 bg
 have q1:s≠nK:=fun e=>by rw[e]at h1;exact absurd h1 bg
 have q2:s≠wT:=fun e=>by rw[e]at h2;exact absurd h2 bg
 have q3:s≠Si:=fun e=>by rw[e]at h3;exact absurd h3 bg
 have q4:s≠Uc:=fun e=>by rw[e]at h4;exact absurd h4 bg
 have q5:s≠TZ:=fun e=>by rw[e]at h5;exact absurd h5 bg
 have q6:s≠S1:=fun e=>by rw[e]at h6;exact absurd h6 bg
 have q7:s≠Ss:=fun e=>by rw[e]at h7;exact absurd h7 bg
 have q8:s≠ym:=fun e=>by rw[e]at h8;exact absurd h8 bg
 have q9:s≠jS:=fun e=>by rw[e]at h9;exact absurd h9 bg
 have q10:s≠Fi:=fun e=>by rw[e]at aa;exact absurd aa bg
 have q11:s≠EG:=fun e=>by rw[e]at ac;exact absurd ac bg
 have q12:s≠FM:=fun e=>by rw[e]at ag;exact absurd ag bg
 have q:dX s=9:=by
  unfold dX;rw[ZV q0,ZV q1,ZV (by simp[q2,q3,q4,q5,q6,q7]),ZV (by simp[q8,q9]),ZV (by simp[q10,q11,q12])]
 exact aJ (r:=[.int .i64 (-1)]) rfl ⟨by rw[q];rfl,rfl⟩
end Go.Proofs.YtfaclfkpnmcmlaaGreatDoor
namespace Go.Sx
open Go
section
variable {P:Program} {ol:List Oper} {fr:iK} {str:ip} {K:St->PH->Prop}
def zV:∀(l m:List Nat) {σ:St} {H:PH},VD P ol fr str K (l++m) σ H<->VD P ol fr str (VD P ol fr str K m) l σ H
 | [],m,σ,H=>Iff.rfl
 |i::l,m,σ,H=>by
  have e:VD P ol fr str K (l++m)=VD P ol fr str (VD P ol fr str K m) l:=by
   funext σ' H';exact propext (zV l m)
  simp only[aaz,VD];cases ol[i]? with
  |none=>simp only[e]
  |some o=>simp only[e]
structure Inv(ops:Array Oper)(κ:List Nat)(listed:Array Bool):Prop where
 size:listed.size=ops.size
 mem:∀i,i∈κ<->i<ops.size/\listed.getD i true=false
 closed:∀y o,ops.toList[y]?=some o->listed.getD y false=true->∀z∈kR o,listed.getD z false=true
variable{listed:Array Bool}{κ:List Nat}{ops:Array Oper}
def Inv.perm{κ':List Nat}(h:Inv ops κ listed)(hp:∀i,i∈κ'<->i∈κ):Inv ops κ' listed:=⟨h.size,fun i=>(hp i).trans (h.mem i),h.closed⟩
theorem Inv.step{l1 l2:List Nat}{i:Nat}(h:Inv ops (l1++i::l2) listed)(hi:i∉l1++l2){oi:Oper}(aa:ops.toList[i]?=some oi)(hd:∀z∈kR oi,listed.getD z false=true):Inv ops (l1++l2) (listed.setIfInBounds i true):=by
 have h1:=((h.mem i).1 (aav _ (.head _))).1;have aj:=h.size;have getset:∀(j:Nat) (d:Bool),(listed.setIfInBounds i true).getD j d=if i=j then (if i<listed.size then true else d)else listed.getD j d:=by
  intro j d;rw[ZU,aaF];by_cases e:i=j
  ·subst e;by_cases hl:i<listed.size<;>simp[hl]
  ·simp[e,ZU]
 refine⟨by simp[h.size],fun j=>?_,fun y o ho hl z hz=>?_⟩
 ·rw[getset];by_cases e:i=j
  ·subst e;simp only[ZT,aaq (show i<listed.size by omega)];exact⟨fun ac=>absurd ac hi,fun hh=>by cases hh.2⟩
  ·simp only[ZV e];rw[<-h.mem j];constructor
   ·intro hj;rcases List.mem_append.1 hj with hj|hj
    ·exact aau _ hj
    ·exact aav _ (.tail _ hj)
   ·intro hj;rcases List.mem_append.1 hj with hj|hj
    ·exact aau _ hj
    ·rcases List.mem_cons.1 hj with rfl|hj
     ·exact absurd rfl e
     ·exact aav _ hj
 ·rw[getset]at hl |-;have ag:i<listed.size:=by omega
  by_cases ez:i=z
  ·subst ez;simp[ag]
  ·simp only[ZV ez];by_cases ey:i=y
   ·subst ey;rw[aa]at ho;cases ho;exact hd z hz
   ·simp only[ZV ey]at hl;exact h.closed y o ho hl z hz
def Aj(listed:Array Bool)(i:Nat):i∈Region.ready .any ops listed<->i<ops.size/\listed.getD i true=false/\∃o,ops[i]?=some o/\∀z∈kR o,listed.getD z false=true:=by
 simp only[Region.ready,aaD,List.mem_range,aao,aay];constructor
 ·rintro⟨h1,h2,h3⟩;refine⟨h1,h2,?_⟩;cases ho:ops[i]? with
  |none=>rw[ho]at h3;cases h3
  |some o=>
   rw[ho]at h3;simp only[Z9,aam]at h3;refine⟨o,rfl,fun z hz=>?_⟩;simp only[kR,aaE,aaD]at hz;obtain⟨e,⟨he,hb⟩,rfl⟩:=hz;have:=Array.all_eq_true'.1 h3 e (by simpa using he);simpa[hb]using this
 ·rintro⟨h1,h2,o,ho,h3⟩;refine⟨h1,h2,?_⟩;rw[ho];simp only[Z9,aam];refine Array.all_eq_true'.2 fun e he=>?_;cases hb:Region.binds .any e with
  |false=>rfl
  |true=>
   have:=h3 e.on (by simp only[kR,aaE,aaD];exact⟨e,⟨by simpa using he,hb⟩,rfl⟩);simpa using this
variable{cl:List (List Nat)}
def Ji(aj:Ia ops.toList cl=true)(h:Inv ops κ listed)(hr:Region.ready .any ops listed=[]):κ=[]:=by
 have ak:=h.size;have sizeol:ops.size=ops.toList.length:=(hZ).symm;have getol:∀i:Nat,ops[i]?=ops.toList[i]?:=fun i=>by simp
 have key:∀n i,i<n->i<ops.size->listed.getD i true=true:=by
  intro n
  induction n with
  |zero=>intro i h;omega
  |succ n ih=>
   intro i hi ac;cases hl:listed.getD i true with
   |true=>rfl
   |false=>
    exfalso;have aa:ops[i]?=some ops[i]:=aab ac;have:i∈Region.ready .any ops listed:=(Aj listed i).2 ⟨ac,hl,ops[i],aa,fun z hz=>by
     have h1:=List.all_eq_true.1 aj i (List.mem_range.2 ab);rw[<-getol i,aa]at h1;simp only[aao]at h1;have ag:=List.all_eq_true.1 h1.1 z hz;simp only[aaC]at ag;have:=ih z ab ab;rw[ZU]at this |-;rw[aab ab]at this |-;simpa using this⟩
    rw[hr]at this;cases this
 cases κ with
 |nil=>rfl
 |cons i l=>
  exfalso;have:=(h.mem i).1 (.head _);rw[key (i+1) i ab this.1]at this;exact Bool.noConfusion this.2
def vt(ol:List Oper)(cl:List (List Nat))(fr:iK)(str:ip)(i:Nat)(l:List Nat):Bool:=
 l.all fun x=>(cl.getD i []).contains x || match ol[x]?,ol[i]? with
  |some ox,some oi=>Fl ol (fr.at' x) (str.at' x) (str.at' i) ox oi
  |_,_=>false
variable{w0:World}
def HZ{n0:Nat}{H0:PH}(hn:n0=w0.heap.size)(a4:Ia ops.toList cl=true){p q:Nat}{r1 r2:List Nat}(b7:p≠q)
  (b0:r1.all (fun i=>(cl.getD i []).contains p || (cl.getD i []).contains q)=true) (hr:∀i,i∈r2<->i∈r1) :
  ∀(iW:Nat) (κ:List Nat) (listed:Array Bool) {σ:St} {H:PH} {a:Act} {w:World},(κ++p::q::r1).length<=iW->(κ++q::p::r2).length<=iW->
   cN ops.toList cl fr str (κ++q::r1)=true->cN ops.toList cl fr str (κ++p::r2)=true->vt ops.toList cl fr str p κ=true->vt ops.toList cl fr str q κ=true->cN ops.toList cl fr str κ=true->p∉κ++q::r1->q∉κ++p::r2->
   Inv ops (κ++p::q::r1) listed->qN σ.bx->VD P ops.toList fr str (fun σ H=>VD P ops.toList fr str K (p::q::r1) σ H/\VD P ops.toList fr str K (q::p::r2) σ H) κ σ H->dM H0 w0 H w->G n0 σ H a w->wpAny P .any ops (QK n0 H0 w0 K) iW listed a w:=by
 have getol:∀i:Nat,ops[i]?=ops.toList[i]?:=fun i=>by simp
 have notl:∀{listed:Array Bool} {x:Nat},listed.getD x false=true->listed.getD x true=false->False:=by
  intro listed x h1 h2;rw[ZU]at h1 h2;cases hg:listed[x]? with
  |none=>rw[hg]at h1;cases h1
  |some b=>rw[hg]at h1 h2;simp only[aam]at h1 h2;rw[h1]at h2;cases h2
 intro iW
 induction iW with
 |zero=>intro κ listed σ H a w ac;simp at ac
 |succ iW ih=>
  intro κ listed σ H a w ac aj a9 a7 bd bc b1 a1 ba hI hs h st g;refine⟨fun hr=>?_,fun i hi=>?_⟩
  ·have:=Ji a4 hI hr;simp at this
  ·obtain⟨h1,h2,oi,aS,ag⟩:=(Aj listed i).1 hi;have aa:ops.toList[i]?=some oi:=by rw[<-getol];exact aS
   have b4:i∈κ++p::q::r1:=(hI.mem i).2 ⟨h1,h2⟩;have anc:=rJ a4 (L:=fun x=>listed.getD x false=true) hI.closed (i+1) i ab oi aa ag;have bub:∀(l:List Nat),(∀x∈l,x∈κ)->vt ops.toList cl fr str i l=true->∀x∈l,∃ox,ops.toList[x]?=some ox/\Fl ops.toList (fr.at' x) (str.at' x) (str.at' i) ox oi=true:=by
    intro l hl hb x hx;have:=List.all_eq_true.1 hb x hx;simp only[aax]at this;rcases this with hc|hc
    ·exact(notl (anc x (by simpa using hc)) ((hI.mem x).1 (aau _ (hl x hx))).2).elim
    ·split at hc
     ·rename_i ox oy e1 e2;rw[aa]at e2;cases e2;exact⟨ox,e1,hc⟩
     ·cases hc
   have fin:∀(u v:Nat) (rr:List Nat),i=u->(∀x,x∈κ++u::v::rr<->x∈κ++p::q::r1)->(κ++u::v::rr).length<=iW+1->cN ops.toList cl fr str (κ++v::rr)=true->vt ops.toList cl fr str u κ=true->u∉κ++v::rr->VD P ops.toList fr str (VD P ops.toList fr str K (u::v::rr)) κ σ H->
     wpOp P ops (QK n0 H0 w0 K) i (wpAny P .any ops (QK n0 H0 w0 K) iW (listed.setIfInBounds i true)) a w:=by
    intro u v rr e a3 ac hp hb a2 hv;subst e;have b5:=hI.perm a3;have bF:=(zV (K:=K) κ (i::v::rr)).2 hv;have bs:=Ay (K:=K) (P:=P) aa κ (v::rr) hs (bub κ (fun _ h=>h) hb) bF;simp only[VD,aa]at bs;have am:=(kC (K':=fun σ' H'=>qN σ'.bx/\VD P ops.toList fr str K (κ++v::rr) σ' H') (fun σ' H' an h'=>⟨an,h'⟩) hs bs).toV;have al:=b5.step a2 aa ag;refine mp aS hn (fun σ' H' a' w' hk st' g'=>?_) am st g;exact zF hn rfl a4 iW (κ++v::rr) _ (by simp at ac |-;omega) al.size hp al.mem al.closed hk.1 hk.2 st' g'
   have ak:∀x,x∈κ++q::p::r2<->x∈κ++p::q::r1:=fun x=>by
    simp only[aaX,aad,hr];constructor
    ·rintro(h|h|h|h)
     ·exact .inl h
     ·exact .inr (.inr (.inl h))
     ·exact .inr (.inl h)
     ·exact .inr (.inr (.inr h))
    ·rintro(h|h|h|h)
     ·exact .inl h
     ·exact .inr (.inr (.inl h))
     ·exact .inr (.inl h)
     ·exact .inr (.inr (.inr h))
   rcases List.mem_append.1 b4 with hk|hk
   ·obtain⟨l1,l2,rfl⟩:=List.append_of_mem hk;have aq:cN ops.toList cl fr str (l1++i::(l2++q::r1))=true:=by simpa using a9
    have ao:cN ops.toList cl fr str (l1++i::(l2++p::r2))=true:=by simpa using a7
    obtain⟨_,pb,pc⟩:=qi aq;obtain⟨_,pb2,pc2⟩:=qi ao;obtain⟨pk,pbk,pck⟩:=qi b1;have hb:=Ay (K:=fun σ H=>VD P ops.toList fr str K (p::q::r1) σ H/\VD P ops.toList fr str K (q::p::r2) σ H) (P:=P) aa l1 l2 hs (fun x hx=>by
     rcases pk x hx with bC|⟨ox,oy,e1,e2,e3⟩
     ·exact(notl (anc x bC) ((hI.mem x).1 (aau _ (aau _ hx))).2).elim
     ·rw[aa]at e2;cases e2;exact⟨ox,e1,e3⟩) h
    simp only[VD,aa]at hb;have am:=(kC (K':=fun σ' H'=>qN σ'.bx/\VD P ops.toList fr str (fun σ H=>VD P ops.toList fr str K (p::q::r1) σ H/\VD P ops.toList fr str K (q::p::r2) σ H) (l1++l2) σ' H') (fun σ' H' an h'=>⟨an,h'⟩) hs (by simpa only[VD]using hb)).toV;have b3:i≠p:=fun e=>by subst e;exact a1 (by simp)
    have b2:i∉(l1++l2)++p::q::r1:=by
     intro hm;simp only[aaT,aaX,aad]at hm pc;rcases hm with h|h|h|h|h
     ·exact pc (.inl h)
     ·exact pc (.inr (.inl h))
     ·exact b3 h
     ·exact pc (.inr (.inr (.inl h)))
     ·exact pc (.inr (.inr (.inr h)))
    have b6:Inv ops (l1++i::(l2++p::q::r1)) listed:=hI.perm fun x=>by simp
    have al:=b6.step (by simpa using b2) aa ag;have a6:vt ops.toList cl fr str p (l1++l2)=true:=List.all_eq_true.2 fun x hx=>List.all_eq_true.1 bd x (by
     rcases List.mem_append.1 hx with h|h
     ·exact aau _ h
     ·exact aav _ (.tail _ h))
    have a5:vt ops.toList cl fr str q (l1++l2)=true:=List.all_eq_true.2 fun x hx=>List.all_eq_true.1 bc x (by
     rcases List.mem_append.1 hx with h|h
     ·exact aau _ h
     ·exact aav _ (.tail _ h))
    refine mp aS hn (fun σ' H' a' w' bb st' g'=>?_) am st g;refine ih (l1++l2) _ (by simp at ac |-;omega) (by simp at aj |-;omega) (by simpa using pb) (by simpa using pb2) a6 a5 pbk (fun hm=>a1 ?_) (fun hm=>ba ?_) (by simpa using al) bb.1 bb.2 st' g'
    ·simp only[aaT,aaX,aad]at hm |-;rcases hm with h|h|h|h
     ·exact .inl h
     ·exact .inr (.inl (.inr h))
     ·exact .inr (.inr (.inl h))
     ·exact .inr (.inr (.inr h))
    ·simp only[aaT,aaX,aad]at hm |-;rcases hm with h|h|h|h
     ·exact .inl h
     ·exact .inr (.inl (.inr h))
     ·exact .inr (.inr (.inl h))
     ·exact .inr (.inr (.inr h))
   ·rcases List.mem_cons.1 hk with e|hk
    ·exact fin p q r1 e (fun x=>Iff.rfl) ac a9 bd a1 (wg (fun σ' H' _ h=>h.1) κ hs h)
    ·rcases List.mem_cons.1 hk with e|hk
     ·exact fin q p r2 e ak aj a7 bc ba (wg (fun σ' H' _ h=>h.2) κ hs h)
     ·exfalso;have:=List.all_eq_true.1 b0 i hk;simp only[aax]at this;rcases this with hc|hc
      ·exact notl (anc p (by simpa using hc)) ((hI.mem p).1 (by simp)).2
      ·exact notl (anc q (by simpa using hc)) ((hI.mem q).1 (by simp)).2
def Uw(ol:List Oper)(κ:List Nat)(p q:Nat)(r1 r2:List Nat)(fr:iK)(str:ip):Bool:=
 Ia ol (jr ol) && (List.range ol.length).all ((κ++p::q::r1).contains ·) && decide (p≠q) && decide (p<ol.length) && decide (q<ol.length) &&
 r1.all (fun i=>((jr ol).getD i []).contains p || ((jr ol).getD i []).contains q) && r1.all (r2.contains ·) && r2.all (r1.contains ·) &&
 cN ol (jr ol) fr str (κ++q::r1) && cN ol (jr ol) fr str (κ++p::r2) && vt ol (jr ol) fr str p κ && vt ol (jr ol) fr str q κ && cN ol (jr ol) fr str κ &&
 !(κ++q::r1).contains p && !(κ++p::r2).contains q
def vB{n0:Nat}{H0:PH}(hn:n0=w0.heap.size)(hm:P.follows .mixedOrders=true){id:Nat}{p q:Nat}{r1 r2:List Nat}(an:Uw ops.toList κ p q r1 r2 fr str=true){σ:St}{H:PH}{a:Act}{w:World}
  (hs:qN σ.bx) (h:VD P ops.toList fr str (fun σ H=>VD P ops.toList fr str K (p::q::r1) σ H/\VD P ops.toList fr str K (q::p::r2) σ H) κ σ H) (st:dM H0 w0 H w) (g:G n0 σ H a w):(Code.region id ops true).wp P (QK n0 H0 w0 K) a w:=by
 simp only[Uw,aao,aaC,aay]at an;obtain⟨⟨⟨⟨⟨⟨⟨⟨⟨⟨⟨⟨⟨⟨h1,h2⟩,a2⟩,a3⟩,a1⟩,aS⟩,aq⟩,ao⟩,ag⟩,al⟩,a9⟩,a7⟩,a4⟩,a6⟩,a5⟩:=an;have ak:p∉κ++q::r1:=by simpa using a6
 have aj:q∉κ++p::r2:=by simpa using a5
 have mem:∀(l:List Nat),cN ops.toList (jr ops.toList) fr str l=true->∀i∈l,i<ops.size:=by
  intro l
  induction l with
  |nil=>intro _ i hi;cases hi
  |cons x l ih=>
   intro hp i hi;simp only[cN,aao,aaC]at hp;rcases List.mem_cons.1 hi with rfl|hi
   ·simpa using hp.1.1.1
   ·exact ih hp.2 i hi
 have len:∀(l:List Nat),cN ops.toList (jr ops.toList) fr str l=true->l.Nodup:=by
  intro l
  induction l with
  |nil=>intro _;exact List.nodup_nil
  |cons x l ih=>
   intro hp;simp only[cN,aao]at hp;exact List.nodup_cons.2 ⟨by simpa using hp.1.1.2,ih hp.2⟩
 have ac:p<ops.size:=by simpa using a3
 have aa:q<ops.size:=by simpa using a1
 have l1:(κ++p::q::r1).length<=ops.size:=by
  have am:(p::(κ++q::r1)).Nodup:=List.nodup_cons.2 ⟨ak,len _ ag⟩;have:=tq ops.size _ am fun i hi=>by
   rcases List.mem_cons.1 hi with rfl|hi
   ·exact ac
   ·exact mem _ ag i hi
  simp at this |-;omega
 have l2:(κ++q::p::r2).length<=ops.size:=by
  have am:(q::(κ++p::r2)).Nodup:=List.nodup_cons.2 ⟨aj,len _ al⟩;have:=tq ops.size _ am fun i hi=>by
   rcases List.mem_cons.1 hi with rfl|hi
   ·exact aa
   ·exact mem _ al i hi
  simp at this |-;omega
 refine wp_region_any hm (HZ hn h1 a2 aS (fun i=>⟨fun hi=>by simpa using List.all_eq_true.1 ao i hi,fun hi=>by simpa using List.all_eq_true.1 aq i hi⟩) ops.size κ _ l1 l2 ag al a9 a7 a4 ak aj ⟨by simp,fun i=>?_,fun y o ho hl=>?_⟩ hs h (w:={ w with drawn:=w.drawn+1 }) ?_ ?_)
 ·constructor
  ·intro hi;have:i<ops.size:=by
    simp only[aaX,aad]at hi;rcases hi with hi|rfl|rfl|hi
    ·exact mem _ ag i (aau _ hi)
    ·exact ac
    ·exact aa
    ·exact mem _ ag i (aav _ (.tail _ hi))
   exact⟨this,by simp[ZU,this]⟩
  ·rintro⟨hi,_⟩;have:=List.all_eq_true.1 h2 i (List.mem_range.2 (by simpa using hi));simpa using this
 ·exfalso;rw[ZU,Array.getElem?_replicate]at hl;split at hl<;>cases hl
 ·exact⟨st.sub,st.size,st.priv,st.dom,st.os,st.tape,st.out⟩
 ·obtain⟨β,g⟩:=g;exact⟨β,g.defers,g.size,g.tm,g.bx,g.inj,g.lo,g.keys⟩
end
section
variable {C:Cx} {k:List Item} {σ:St} {H:PH}
def wJ{P:Program}{ol:List Oper}{fr:iK}{str:ip}{K K':St->PH->Prop}(k:∀σ' H',K σ' H'->K' σ' H'):∀(l:List (Nat×Oper)) {σ:St} {H:PH},Ut P ol fr str K l σ H->Ut P ol fr str K' l σ H
 | [],σ,H,h=>k _ _ h
 |(i,o)::l,σ,H,h=>xK (fun σ' H' h'=>wJ k l h') h
def NR(C:Cx)(ol:List Oper)(fr:iK)(str:ip)(r1 r2:List (Nat×Oper))(l:List (Nat×Oper))(k:List Item)(σ:St)(H:PH):Prop:=Ut C.P ol fr str (fun σ H=>RD C ol fr str r1 k σ H/\RD C ol fr str r2 k σ H) l σ H
def yC{ol:List Oper}{fr:iK}{str:ip}{r1 r2:List (Nat×Oper)}:∀(l:List (Nat×Oper)) (σ:St) (ps:List Prop),qS (my C.P ol fr.k str.k fr.kp l σ ps).1->NR C ol fr str r1 r2 (my C.P ol fr.k str.k fr.kp l σ ps).2.1 k (my C.P ol fr.k str.k fr.kp l σ ps).2.2 H->qS ps/\NR C ol fr str r1 r2 l k σ H
 | [],σ,ps,hp,h=>⟨hp,h⟩
 |(i,o)::l,σ,ps,hp,h=>by
  unfold my at hp h;cases ha:Ac C.P ol (lx fr.k i) (lx str.k i) fr.kp o σ with
  |none=>rw[ha]at hp h;exact⟨hp,h⟩
  |some x=>
   obtain⟨φ,σ'⟩:=x;rw[ha]at hp h;obtain⟨⟨a,b⟩,c⟩:=yC l _ _ hp h;exact⟨a,uD (f:=fr.at' i) (s:=str.at' i) ha b c⟩
def Wo(C:Cx)(ol:List Oper)(fr:iK)(str:ip)(r1 r2:List (Nat×Oper))(k:List Item)(H:PH)(r:List Prop×List (Nat×Oper)×St):Prop:=qS r.1/\NR C ol fr str r1 r2 r.2.1 k r.2.2 H
theorem Qz(C:Cx)(ol:List Oper)(fr:iK)(str:ip)(r1 r2:List (Nat×Oper))(k:List Item)(H:PH)(ps:List Prop)(l:List (Nat×Oper))(σ:St):Wo C ol fr str r1 r2 k H (ps,l,σ)=(qS ps/\NR C ol fr str r1 r2 l k σ H):=rfl
def mI{ol:List Oper}{fr:iK}{str:ip}{r1 r2 l:List (Nat×Oper)}(h:Wo C ol fr str r1 r2 k H (my C.P ol fr.k str.k fr.kp l σ [])):NR C ol fr str r1 r2 l k σ H:=(yC l σ [] h.1 h.2).2
def wC{ol:List Oper}{fr:iK}{str:ip}{r1 r2:List (Nat×Oper)}(h1:RD C ol fr str r1 k σ H)(h2:RD C ol fr str r2 k σ H):NR C ol fr str r1 r2 [] k σ H:=⟨h1,h2⟩
attribute [go_sem] Qz
def pV{ol:List Oper}{cl:List (List Nat)}{fr:iK}{str:ip}:∀{l:List Nat},cN ol cl fr str l=true->∀i∈l,i<ol.length
 | [],_,i,hi=>by cases hi
 |x::l,hp,i,hi=>by
  simp only[cN,aao,aaC]at hp;rcases List.mem_cons.1 hi with rfl|hi
  ·exact hp.1.1.1
  ·exact pV hp.2 i hi
def CS{id:Nat}{ops:Array Oper}(hm:C.P.follows .mixedOrders=true)(κ:List Nat)(p q:Nat)(r1 r2:List Nat)(fr str:List Nat)(aa:Uw ops.toList κ p q r1 r2 ⟨fr,[],PH.emp,[],[]⟩ ⟨str,[],[]⟩=true)(hs:yS σ.bx=true)
  (h:NR C ops.toList ⟨fr,[],PH.emp,[],[]⟩ ⟨str,[],[]⟩ (pick ops.toList (p::q::r1)) (pick ops.toList (q::p::r2)) (pick ops.toList κ) k σ H):RC C (.st (.code (.region id ops true)::k)) σ H:=by
 have hk:=aa;simp only[Uw,aao,aaC,aay]at hk;obtain⟨⟨⟨⟨⟨⟨⟨⟨⟨⟨⟨⟨⟨⟨h1,h2⟩,ao⟩,ag⟩,ac⟩,an⟩,am⟩,al⟩,ak⟩,aj⟩,a3⟩,a2⟩,aq⟩,a1⟩,aS⟩:=hk;have e1:=pV ak;have e2:=pV aj;refine(show R C (.code (.region id ops true)::k) σ H from wD fun _ _ s g=>vB rfl hm aa (FK hs) ?_ s g);refine uF κ (fun i hi=>e1 i (aau _ hi)) (wJ (fun σ' H' hh=>⟨uF _ (fun i hi=>?_) hh.1,uF _ (fun i hi=>?_) hh.2⟩) _ h)
 ·rcases List.mem_cons.1 hi with rfl|hi
  ·exact ag
  ·exact e1 i (aav _ hi)
 ·rcases List.mem_cons.1 hi with rfl|hi
  ·exact ac
  ·exact e2 i (aav _ hi)
end
open Go
section
variable {C:Cx} {P:Program} {k:List Item} {σ:St} {H:PH}
variable{n:Nat}
def yX{zs:Array Value}(h:zs.toList.all one=true):(Builtin.zeroCells zs n).toList.length=n*zs.size/\(Builtin.zeroCells zs n).toList.all one=true:=by
 constructor
 ·simp[Builtin.zeroCells]
 ·rw[aap];intro v hv;simp only[Builtin.zeroCells,Array.toList_map,aaE,Array.mem_toList_iff,Array.mem_range]at hv;obtain⟨i,hi,rfl⟩:=hv;have hz:0<zs.size:=by
   rcases abn zs.size with h0|h0
   ·rw[h0]at hi;simp at hi
   ·exact h0
  have hm:=Nat.mod_lt i hz;rw[getElem!_pos zs _ hm];exact List.all_eq_true.1 h _ (Array.mem_toList_iff.2 (Array.getElem_mem hm))
variable{cur:Array Value}{size:Nat}{z:Value}
def FY{t ty e:TypeId}(hu:P.underlying t=some (.slice e))(hz:aV P e=some z)(ac:z.cells.size=size)(h1:z.cells.toList.all one=true){g o c:Nat}
  (hg:H g=some (.cells cur e (0,0))) (aj:o+n*size<=cur.size) (w:World) (hw:Sub H w) :
  ∃w2 ys,ys.length=n*size/\(Builtin.clear_ #[t] ty #[.slice (some ⟨g,o,none⟩) n c]).run P w=.ok (.tuple #[]) w2/\dM H w (H.put g (.cells (br cur.toList o ys).toArray e (0,0))) w2:=by
 cases n with
 |zero=>
  refine⟨w,[],by simp,by simp[Builtin.clear_,run_underlying hu],?_⟩;have e0:H.put g (.cells (br cur.toList o []).toArray e (0,0))=H:=by
   funext b;by_cases eb:b=g
   ·subst eb;simp[PH.put,br,hg]
   ·simp[PH.put,eb]
  rw[e0];exact dM.refl hw
 |succ n=>
 have aa:=hw _ _ hg;rw[show cur=cur.toList.toArray from by simp]at aa;obtain⟨q1,q2⟩:=yX (n:=n+1) h1;rw[ac]at q1;have ag:(zeroValue e).run P w=.ok z w:=by
  unfold aV at hz;cases hi:P.info? e with
  |none=>rw[hi]at hz;cases hz
  |some i=>
   rw[hi]at hz;have hz:i.zero=some z:=hz;simp[zeroValue,typeInfo,program,Sem.run,hi,hz,Result.andThen]
 obtain⟨w2,r1,r2,r3,r4,r5,r6,r7⟩:=iu (P:=P) g e (Builtin.zeroCells z.cells (n+1)).toList 0 o cur.toList w aa (by simp only[hZ]at *;omega) fun v hv=>List.all_eq_true.1 q2 v hv;refine⟨w2,_,q1,?_,?_⟩
 ·simp[Builtin.clear_,run_underlying hu,ag,Result.andThen,r1]
 ·refine⟨fun c o' h=>?_,ab,fun c ak hn=>r3 c (fun e=>by subst e;rw[hg]at hn;cases hn),fun c ak hn=>?_,r5,r6,r7⟩
  ·by_cases e:c=g
   ·subst e;simp only[PH.put,ZT]at h;cases h;simpa using r2
   ·simp only[PH.put,ZV e]at h;rw[r3 c e];exact hw _ _ h
  ·have:c≠g:=fun e=>by subst e;rw[hg]at hn;cases hn
   simp[PH.put,this,hn]
variable{x:Operand}
def FO{o:Oper}{t e:TypeId}{g off c:Nat}(hu:P.underlying t=some (.slice e))(hz:aV P e=some z)(aj:z.cells.size=size)(h1:z.cells.toList.all one=true)(ag:o.op=.call ⟨.builtin .clear,#[x],#[t]⟩)
  (hx:ev σ x=.v (.slice (some ⟨g,off,none⟩) n c)) (hg:H g=some (.cells cur e (0,0))) (ac:off+n*size<=cur.size) :
  bh σ o.op=true/\de P (execOp (bN σ) o) H fun sv H2=>∃ys,sv=.v (.tuple #[])/\ys.length=n*size/\H2=H.put g (.cells (br cur.toList off ys).toArray e (0,0)):=by
 constructor
 ·simp[bh,ag,fT,Op.operands,Call.operands,hx,ul]
 ·intro w hw;obtain⟨w2,ys,hl,aa,st⟩:=FY (ty:=o.type) (c:=c) hu hz aj h1 hg ac w hw;have:(execOp (bN σ) o).run P w=.ok (.value (.tuple #[])) w2:=by
   simp[execOp,ag,resolve,bN,hx,invoke,builtin,Result.andThen,aa]
  rw[this];exact⟨_,st,ys,rfl,hl,rfl⟩
def Ir{ol rem:List Oper}{o:Oper}{t e:TypeId}{g off c:Nat}{I:PH}{l:List PH}(hd:Dj (I::sg g (.cells cur e (0,0))::l))(hu:C.P.underlying t=some (.slice e))(hz:aV C.P e=some z)(ac:z.cells.size=size)(h1:z.cells.toList.all one=true)
  (hw:aH ol σ o=some true) (ag:o.op=.call ⟨.builtin .clear,#[x],#[t]⟩) (hx:ev σ x=.v (.slice (some ⟨g,off,none⟩) n c)) (aa:off+n*size<=cur.size)
  (hk:∀ys,ys.length=n*size->Dj (I::sg g (.cells (br cur.toList off ys).toArray e (0,0))::l)->RC C (.op ol rem k) (σ.put o.dst (.v (.tuple #[]))) (U (I::sg g (.cells (br cur.toList off ys).toArray e (0,0))::l))):RC C (.op ol (o::rem) k) σ (U (I::sg g (.cells cur e (0,0))::l)):=by
 obtain⟨a,b⟩:=FO (σ:=σ) hu hz ac h1 ag hx (di hd _ _ (dL _ _)) aa;refine iU hw a (b.mono fun sv H2 ⟨ys,e1,e2,e3⟩=>?_);subst e1;subst e3;obtain⟨e1,aj⟩:=rR (o':=.cells (br cur.toList off ys).toArray e (0,0)) hd;rw[e1];exact hk ys e2 aj
def EQ{α:Type}(S:α->St)(Q:α->PH->Prop){p:Prop}(h1:(∀a σ' H,Q a H->nm (S a).tm σ'.tm->rN (S a).bx σ'.bx->RC C (.st k) σ' H)->p)(h2:∀a H,Q a H->RC C (.st k) (S a) H):p:=
 h1 fun a _ H hq ht hb=>fD ht hb (h2 a H hq)
end
def dF{C:Cx}{k kx:List Item}{σ:St}{H:PH}{α:Type}{c:Code}(μ:α->Nat)(S:α->St)(Q E:α->PH->Prop)(a0:α)(hs:nm (S a0).tm σ.tm)(hb:rN (S a0).bx σ.bx)(hq:Q a0 H)
  (h:∀a H,Q a H->(∀a' σ1 H',μ a'<μ a->nm (S a').tm σ1.tm->rN (S a').bx σ1.bx->Q a' H'->RC C (.st (.inLoop c::k)) σ1 H')->(∀a' σ1 H',nm (S a').tm σ1.tm->rN (S a').bx σ1.bx->E a' H'->RC C (.st kx) σ1 H')->RC C (.st (.code c::.inLoop c::k)) (S a) H)
  (rest:∀a H,E a H->RC C (.st kx) (S a) H):RC C (.st (.code (.loop c)::k)) σ H:=
 aA μ S Q a0 hs hb hq fun a H hq hn=>h a H hq hn fun a' σ1 H' h1 h2 h3=>fD h1 h2 (rest a' H' h3)
end Go.Sx
