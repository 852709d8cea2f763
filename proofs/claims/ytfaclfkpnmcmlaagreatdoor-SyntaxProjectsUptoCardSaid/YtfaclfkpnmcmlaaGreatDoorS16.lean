import Derived.Test.YtfaclfkpnmcmlaaGreatDoorS15
import Derived.MakeChecks
import Derived.OpenShut
set_option maxHeartbeats 8000000
set_option linter.all false
namespace Go.Proofs.YtfaclfkpnmcmlaaGreatDoor
open Go Go.Sx Dg Syn
theorem Bi{I:PH}{vl vw:Value}{l:List It}{w:List (Nat×Nat)}{c:Nat}(hV:fN I)(hS:KJ I vl l)(hW:uj I vw w)(hb:∀x∈l,Ql x)(hl:l.length<2^40)(hw:w.length<2^40)(hc:c<2^32):
  aO Tryz.prog 7 #[vl,vw,.int .u32 c] I [] fun r I2 qs=>qs=[]/\r=.bool true:=by
 obtain⟨la,lc,rfl,_⟩:=id hS;obtain⟨wa,wc,rfl,_⟩:=id hW;intro hd;refine ir 46 Tryz.func7 fun w0=>?_;refine Un ?_;refine V7 hd rfl MG (J6 hS hW hb hl hw) fun v I2 qs a7 aa hq=>?_;obtain⟨rfl,hq⟩:=hq;rcases hq with rfl|⟨lv,rfl,hL,_⟩
 ·refine Un ?_;refine V7 a7 rfl EZ (BE (hV.le aa)) fun v I3 qs a1 ac hq=>?_;obtain⟨rfl,rfl⟩:=hq;refine Un ?_;exact ai rfl a1 (r:=[_]) rfl (Ui aa ac) ⟨rfl,rfl⟩
 obtain⟨⟨tv,ga,gn,gc,rfl,hT⟩,h2,h3,h4⟩:=id hL;obtain⟨ta,tc,rfl,_⟩:=id hT;refine Un ?_;refine V7 a7 rfl EZ (BE (hV.le aa)) fun v I3 qs a1 ac hq=>?_;obtain⟨rfl,rfl⟩:=hq;have k3:=Ui aa ac;refine Un ?_;refine V8 [6,0,1,4,2,3,5,7] [] [] ?_;refine Ux ?_;refine IR a1 rfl Ab (Gv (uj.le hW k3) Vi) fun v1 I4 qs b1 aj hq=>?_;obtain⟨rfl,hD⟩:=hq;obtain⟨za,zk,rfl⟩:=hD.shape2;refine Ux ?_;refine IR b1 rfl Aw (su (hV.le (Ui k3 aj)) (hL.le (Ui ac aj)) hD) fun v2 I5 qs b0 aS hq=>?_;obtain⟨rfl,t,hF,hR,hB⟩:=hq;obtain⟨_,_,rfl,⟨xa,xc,rfl,_⟩,_,⟨xa',xc',rfl,_⟩,_⟩:=id hR;refine Ux ?_;refine IR b0 rfl Gs (vU hR hc hB.1 hB.2) fun v3 I6 qs a0 ap hq=>?_;obtain⟨rfl,a9⟩:=hq;obtain⟨yk,yd,rfl,bb,_,bc,_⟩:=id a9;obtain⟨ya,yc,rfl,_⟩:=id bb;obtain⟨ea,ec,rfl,_⟩:=id bc;have ba:=Ui aj (Ui aS ap);have ak:=Ui ac ba;refine Ux ?_;refine aw ?_;refine Un ?_;refine Pf rfl FF (NG (uj.le hW (Ui aa (Ui ak (cD a0)))) Vi hc) fun v H2 hv=>?_;obtain⟨rfl,rfl⟩:=hv;have a5:=j3 h2;have a4:=u8 w;have an:=DG w c;cases a6:KF w c
 ·rw[a6]at an;have hz:=IC a5 a4 hF an;have z1:((prj (dW c) t).kids.length:Int)=0:=by rw[hz];rfl
  have z2:((prj (dW c) t).diags.length:Int)=0:=by rw[hz];rfl
  have z3:IntKind.i64.wrap ((0:Int)+0)=0:=by decide
  apply RG;simp only[go_sem,z1,z2,z3];exact ai rfl a0 (r:=[_]) rfl (Ui aa ak) ⟨rfl,rfl⟩
 ·rw[a6]at an;refine Un ?_;refine V8 [0,1,2,3,4,5] [] [] ?_;refine Ux ?_;refine IR a0 rfl Ex (Cv (hV.le (Ui aa ak)) (hL.le ak) hc) fun v4 I7 qs bx am hq=>?_;obtain⟨rfl,u,hU,a2,a3⟩:=hq;have hx:4294967295 ^^^ c<2^32:=Nat.xor_lt_two_pow Vm hc;have e:=BH a5 a4 (ub _ _) hF hU an (vQ c);rw[<-e]at a2 a3;obtain⟨_,_,rfl,⟨va,vc,rfl,_⟩,_,⟨va',vc',rfl,_⟩,_⟩:=id a2;refine Ux ?_;refine IR bx rfl LM (K1 (a9.le am) a2 a3.1 a3.2) fun v5 I8 qs bd ao hq=>?_;obtain⟨rfl,rfl⟩:=hq;refine Ux ?_;refine aw ?_;refine Un ?_;exact ai rfl bd (r:=[_]) rfl (Ui aa (Ui ak (Ui am ao))) ⟨rfl,rfl⟩
open Go.ChangeShapes (trodAll_three trodVars_none trodAll_mk1 trodAll_mk3)
open Go.RowKit (shut_bool)
theorem mO{W:World}{n:String}{g:Nat}{cs:Array Value}(hg:Tryz.prog.globalNamed n=some g)(h:W.var? Tryz.prog n=some cs):∃ty fz,W.heap[g]?=some (.cells cs ty fz):=by
 unfold World.var? at h;rw[hg]at h;simp only[Sm]at h;cases hb:W.heap[g]? with
 |none=>rw[hb]at h;cases h
 |some o=>
  rw[hb]at h;cases o with
  |cells c ty fz=>simp only[Sc]at h;subst h;exact⟨ty,fz,rfl⟩
  |_=>cases h
theorem GE{H:Type}{enc:TypeId×Value->H}{W:World}{lO fR t n:Nat}{sp:Nat->Bool}{aa:Bool}{cs:List Value}{T:List bM}{p:List MemPlace}(ht:Tryz.prog.underlying t=some (.array n 9))(ak:Tryz.prog.cellsOf t=n)
  (h:DataW.trod enc Tryz.prog W lO sp aa fR t cs=some (.agg (T.map fun x=>.lit (.string x)),p)):cs=T.map fun x=>.string ⟨⟨x⟩⟩:=by
 obtain⟨xs,m,_,hx,hl,am,aj⟩:=DataW.trod_array ht h;simp only[S3,DataW.agg.injEq]at hx;obtain⟨hx,_⟩:=hx;rw[ak]at hl;have hT:T.length=n:=by
  have:=congrArg List.length hx;simp at this;omega
 apply List.ext_getElem?;intro i;rcases Sw i n with hi|hi
 ·have h1:=aj i hi;obtain⟨y,hy⟩:∃y,xs[i]?=some y:=⟨_,SC Vi⟩;rw[Bm,Nat.mul_one,hy]at h1;obtain⟨s,e1,e2,_⟩:=DataW.trod_string Pe h1;have h2:(xs.map (·.1))[i]?=some (.lit (.string s.data.toList)):=by rw[SA,hy,e2];rfl
  rw[<-hx,SA]at h2;obtain⟨x,ac⟩:∃x,T[i]?=some x:=⟨_,SC Vi⟩;rw[ac]at h2;simp only[So,Sc,DataW.lit.injEq,Lit.string.injEq]at h2;have h3:cs[i]?=some (.string s):=by
   have:=congrArg (fun l:List Value=>l[0]?) e1;simpa[Sg,Sh]using this
  rw[h3,SA,ac,h2];rfl
 ·rw[SF Vi,SF (by rw[Sz];omega)]
theorem OW:Tryz.prog.cellsOf 317=22:=by kernel_rfl
theorem Q1:Tryz.prog.globalNamed "motley/source.signs"=some 0:=by kernel_rfl
theorem QZ:Tryz.prog.globalNamed "strconv.ErrSyntax"=some 1:=by kernel_rfl
theorem Q9:Tryz.prog.globalNamed "strconv.ErrRange"=some 2:=by kernel_rfl
theorem Ri:(Tryz.prog.globals[0]?).map (·.type)=some 317:=by kernel_rfl
theorem RH:(Tryz.prog.globals[1]?).map (·.type)=some 284:=by kernel_rfl
theorem RB:(Tryz.prog.globals[2]?).map (·.type)=some 284:=by kernel_rfl
theorem Rz:(Tryz.prog.globals[3]?).map (·.type)=some 406:=by kernel_rfl
theorem Oc:Tryz.prog.underlying 406=some (.array 20 366):=by kernel_rfl
theorem Oj:Tryz.prog.underlying 366=some (.int .u64):=by kernel_rfl
theorem OV:Tryz.prog.cellsOf 366=1:=by kernel_rfl
theorem Nu:Tryz.prog.cellsOf 406=20:=by kernel_rfl
theorem IW{W:World}(hL:laidMetH Tryz.prog Rows.syntaxProjectsUptoRow.laid W):fN (uu W):=by
 rw[MakeChecks.laidMetH_plain _ _ _ (by kernel_rfl)]at hL;have r3:=Lib.laidMet.reads hL (.tail _ (.tail _ (.head _)));have r2:=Lib.laidMet.reads hL (.tail _ (.tail _ (.tail _ (.head _))));have r1:=Lib.laidMet.reads hL (.tail _ (.tail _ (.tail _ (.tail _ (.head _)))));have r0:=Lib.laidMet.reads hL (.tail _ (.tail _ (.tail _ (.tail _ (.tail _ (.head _))))));refine⟨?_,?_,?_,?_⟩
 ·obtain⟨g,t,cs,fR,p,hg,ht,hv,hd⟩:=r0;obtain rfl:=Tk (Q1.symm.trans hg);obtain rfl:=Tk (Ri.symm.trans ht);obtain⟨ty,fz,hb⟩:=mO Q1 hv;have aa:=GE (T:=gI) Kg OW hd;refine⟨cs,ty,fz,hb,?_,?_⟩
  ·have:=congrArg List.length aa;simp only[Sk]at this;rw[this];simp[lP]
  ·rw[Tm,aa];exact T3 (by simp[lP])
 ·obtain⟨g,t,cs,fR,p,hg,ht,hv,hd⟩:=r1;obtain rfl:=Tk (QZ.symm.trans hg);obtain rfl:=Tk (RH.symm.trans ht);obtain⟨ty,fz,hb⟩:=mO QZ hv;obtain⟨_,u,v,aa,_⟩:=iface_of_trod vt.choose_spec hd;exact⟨u,v,cs,ty,fz,hb,by have:=congrArg List.length aa;simp at this;simp[this],by simp[aa]⟩
 ·obtain⟨g,t,cs,fR,p,hg,ht,hv,hd⟩:=r2;obtain rfl:=Tk (Q9.symm.trans hg);obtain rfl:=Tk (RB.symm.trans ht);obtain⟨ty,fz,hb⟩:=mO Q9 hv;obtain⟨_,u,v,aa,_⟩:=iface_of_trod vt.choose_spec hd;exact⟨u,v,cs,ty,fz,hb,by have:=congrArg List.length aa;simp at this;simp[this],by simp[aa]⟩
 ·obtain⟨g,t,cs,fR,p,hg,ht,hv,hd⟩:=r3;obtain rfl:=Tk (Ew.symm.trans hg);obtain rfl:=Tk (Rz.symm.trans ht);obtain⟨ty,fz,hb⟩:=mO Ew hv;have aa:=Lib.cells_of_tab (zs:=Lib.pow10Tab) (k:=.u64) Oc Oj OV Nu hd;refine⟨ty,fz,?_⟩;show W.heap[3]?=_;rw[hb,<-aa]
theorem Nm:ownKnob Tryz.prog.godebug=none:=by kernel_rfl
theorem Cm:laidOutB Tryz.prog=true:=by kernel_rfl
theorem GM(os:Os)(args:Array Value):laidMetH Tryz.prog Rows.syntaxProjectsUptoRow.laid ((World.doorLaid Tryz.prog 67 os).forCall (fun _ _=>0) ⟨#[],args,[]⟩).memory:=
 (@laidMetH_of_parts3 _ _ _ 8 (laidMet_of_run' 8 (by kernel_rfl) (by kernel_rfl)) (by kernel_rfl) (by kernel_rfl))
def yl:Array Value:=#[.slice none 0 0,.slice none 0 0,.int .u32 0]
theorem ym(os:Os){H:Type}(enc:TypeId×Value->H):
  (Rows.OpenSpec.upto Rows.syntaxProjectsSpec).preRow enc Tryz.prog Tryz.f7 Rows.syntaxProjectsUptoRow.domain false Rows.syntaxProjectsUptoRow.laid ((World.doorLaid Tryz.prog 67 os).forCall (fun _ _=>0) ⟨#[],yl,[]⟩).memory yl:=by
 have hw:(DataW.whole enc Tryz.prog ((World.doorLaid Tryz.prog 67 os).forCall (fun _ _=>0) ⟨#[],yl,[]⟩).memory Tryz.f7.params.toList (Rows.OpenSpec.upto Rows.syntaxProjectsSpec).vars false yl.toList 8).map (fun x=>(x.1,x.2.1)) =
   some ([.nil,.nil,.lit (.int .u32 0)],[]):=by kernel_rfl
 obtain⟨⟨x1,x2,x3⟩,hx,aa⟩:=Option.map_eq_some_iff.1 hw;simp only[S3]at aa;obtain⟨rfl,rfl⟩:=aa;exact OpenSpec.preRow_of_cond 8 hx (by kernel_rfl) (fun k hk=>by cases hk;rfl) (by kernel_rfl) (GM os _)
set_option maxRecDepth 100000 in
theorem qQ(os:Os)(started:os.Started)(H:Type)(enc:TypeId×Value->H)(F:Stop.Interp):
  ReturnsInHanded {} Tryz.checked os 7 .any ((Rows.OpenSpec.upto Rows.syntaxProjectsSpec).preRow enc Tryz.prog Tryz.f7 Rows.syntaxProjectsUptoRow.domain false Rows.syntaxProjectsUptoRow.laid) (((Rows.OpenSpec.upto Rows.syntaxProjectsSpec).at F).post enc Tryz.prog Tryz.f7 false true false false):=by
 refine returnsInHanded_of_row (C:=Tryz.checked) (s:=Rows.OpenSpec.upto Rows.syntaxProjectsSpec) Nm started (by kernel_rfl) Tryz.func7
  (witness_row_atRef (enc:=enc) (C:=Tryz.checked) false (World.doorLaid Tryz.prog 67 os) yl rfl (by kernel_rfl) (by kernel_rfl) (by kernel_rfl) (ym os enc)) ?_
 intro W lO args ds gs before ac hW _ ak _ hL _ _;have aj:Rows.uptoSmall H (ds++gs)=true:=ak _ rfl;have aa:∀(j:Nat) t v,Tryz.f7.params[j]?=some t->args[j]?=some v->Value.okWide Tryz.prog W .any lO t v:=ac;have am:=hW;obtain⟨p,q,aS,ap,rfl,_,_⟩:=hW;have hA:DataW.TrodAll enc Tryz.prog W 0 (fun _=>true) true Tryz.f7.params.toList args.toList ds p:=aS;rw[Tryz.params7]at hA aa;obtain⟨v0,v1,v2,d0,d1,d2,p0,p1,p2,rfl,rfl,rfl,h0,h1,h2⟩:=trodAll_three hA;obtain⟨rfl,rfl⟩:=trodVars_none ap;have h0k:=h0;have h1k:=h1;have h2k:=h2;clear aS ap ac;simp only[Tq]at am aj;have an:∀x∈p0++p1++p2,x.block<W.heap.size:=fun x hx=>by simpa using am.lt x hx
 have ao:Rows.uptoBulk d0+(Rows.uptoBulk d1+(Rows.uptoBulk d2+0))<=1048576:=TG aj;obtain⟨a0,l0,c0,rfl⟩:=WideShapes.okWide_slice NN (aa 0 22 v0 rfl rfl);obtain⟨a1,l1,c1,rfl⟩:=WideShapes.okWide_slice NY (aa 1 46 v1 rfl rfl);obtain⟨f0,a4⟩:=h0;obtain⟨f1,a3⟩:=h1;obtain⟨l,a6,a9,a2⟩:=zS a4;obtain⟨w,a5,a7⟩:=sW a3;obtain⟨c,rfl,rfl,rfl,wc⟩:=ChangeShapes.open_int JZ (aa 2 23 v2 rfl rfl) h2;obtain⟨k,rfl,hk⟩:=zP wc;have hV:=IW hL;have main:=Bi hV a6 a5 (fun x hx=>by obtain⟨b1,b2⟩:=a2 x hx;exact⟨Vi,Vi⟩) Vi Vi hk;refine(aO.calls main).mono ?_;rintro e W' ⟨rfl,bel⟩;have e1:((Rows.OpenSpec.upto Rows.syntaxProjectsSpec).at F).fn H ([d0,d1,.lit (.int .u32 (k:Int))]++[])={ results:=[.lit (.bool true)],args:=[d0,d1,.lit (.int .u32 (k:Int))] }:=rfl;refine⟨_,rfl,_,_,_,[],p0++(p1++[]),[],am,?_,?_,?_,bel.frame _,fun h=>by cases h⟩
 ·rw[e1];exact trodAll_mk1 (shut_bool Tryz.underlying4 _)
 ·rw[e1];exact trodAll_mk3 (RowKit.Below.trod Cm (by kernel_rfl) (TG (by kernel_rfl)) h0k bel (fun x hx=>an x (by simp[hx]))) (RowKit.Below.trod Cm (by kernel_rfl) (TG (by kernel_rfl)) h1k bel (fun x hx=>an x (by simp[hx]))) (ChangeShapes.shut_int JZ wc)
 ·rw[e1];rfl
end Go.Proofs.YtfaclfkpnmcmlaaGreatDoor
