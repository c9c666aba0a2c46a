/- Part 16 of the proof. Conditions: what each theorem states. -/
import Derived.Test.YtaclfjjipnpboaaGreatDoorP04
import Derived.Test.YtaclfjjipnpboaaGreatDoorP01
import Derived.Test.YtaclfjjipnpboaaGreatDoorP05
import Derived.Ground.NamesProg
import Derived.Shelf.Strconv.Itoa0
import Derived.Shelf.Strconv.Itoa3
import Derived.Shelf.Strconv.ErrVarAll
import Derived.Shelf.Sort.Plain
import Derived.Test.YtaclfjjipnpboaaGreatDoorP15
import Derived.Test.YtaclfjjipnpboaaGreatDoorP07
import Derived.Test.YtaclfjjipnpboaaGreatDoorP03
set_option linter.all false
set_option maxHeartbeats 4000000
set_option maxRecDepth 4000
section
attribute [local irreducible] Go.Eng.WC Go.Eng.WL Go.Eng.WK Go.Eng.WQ Go.Eng.WX Go.Eng.Yld
namespace Go.Proofs.YtaclfjjipnpboaaGreatDoor
open Go Go.Eng Go.RowKit
def Tryz.lays66_ren:Go.Shelf.Ren:=⟨fun|171=>66|243=>120|246=>157|283=>183|284=>184|285=>185|286=>186|129=>205|317=>204|318=>206|319=>207|320=>208|337=>230|338=>231|n=>n,fun|3=>3|9=>9|2=>2|4=>4|171=>316|0=>0|53=>317|37=>147|5=>5|173=>320|212=>337|51=>338|20=>20|213=>339|46=>333|232=>380|233=>381|n=>n,fun|17=>1|18=>4|19=>5|n=>n⟩
theorem Tryz.lays66:Go.Proofs.LaysM.n171 Tryz.prog Tryz.lays66_ren:={
 mixed:=by kernel_rfl
 f129:=Tryz.func205.trans (congrArg some (by kernel_rfl))
 f171:=Tryz.func66.trans (congrArg some (by kernel_rfl))
 f243:=Tryz.func120.trans (congrArg some (by kernel_rfl))
 f246:=Tryz.func157.trans (congrArg some (by kernel_rfl))
 f283:=Tryz.func183.trans (congrArg some (by kernel_rfl))
 f284:=Tryz.func184.trans (congrArg some (by kernel_rfl))
 f285:=Tryz.func185.trans (congrArg some (by kernel_rfl))
 f286:=Tryz.func186.trans (congrArg some (by kernel_rfl))
 f317:=Tryz.func204.trans (congrArg some (by kernel_rfl))
 f318:=Tryz.func206.trans (congrArg some (by kernel_rfl))
 f319:=Tryz.func207.trans (congrArg some (by kernel_rfl))
 f320:=Tryz.func208.trans (congrArg some (by kernel_rfl))
 f337:=Tryz.func230.trans (congrArg some (by kernel_rfl))
 f338:=Tryz.func231.trans (congrArg some (by kernel_rfl))
 t0:=Tryz.underlying0
 a0:=Tryz.isAgg0
 z0:=Tryz.sizeOf0
 v0:=Tryz.zeroValue0
 t2:=Tryz.underlying2
 a2:=Tryz.isAgg2
 z2:=Tryz.sizeOf2
 v2:=Tryz.zeroValue2
 t3:=Tryz.underlying3
 a3:=Tryz.isAgg3
 z3:=Tryz.sizeOf3
 v3:=Tryz.zeroValue3
 t4:=Tryz.underlying4
 a4:=Tryz.isAgg4
 z4:=Tryz.sizeOf4
 v4:=Tryz.zeroValue4
 t5:=Tryz.underlying5
 a5:=Tryz.isAgg5
 z5:=Tryz.sizeOf5
 v5:=Tryz.zeroValue5
 t9:=Tryz.underlying9
 a9:=Tryz.isAgg9
 z9:=Tryz.sizeOf9
 v9:=Tryz.zeroValue9
 t20:=Tryz.underlying20
 a20:=Tryz.isAgg20
 z20:=Tryz.sizeOf20
 v20:=Tryz.zeroValue20
 t37:=Tryz.underlying147
 a37:=Tryz.isAgg147
 z37:=Tryz.sizeOf147
 v37:=Tryz.zeroValue147
 t46:=Tryz.underlying333
 a46:=Tryz.isAgg333
 z46:=Tryz.sizeOf333
 v46:=Tryz.zeroValue333
 t51:=Tryz.underlying338
 a51:=Tryz.isAgg338
 z51:=Tryz.sizeOf338
 v51:=Tryz.zeroValue338
 t53:=Tryz.underlying317
 a53:=Tryz.isAgg317
 z53:=Tryz.sizeOf317
 v53:=Tryz.zeroValue317
 t171:=Tryz.underlying316
 a171:=Tryz.isAgg316
 z171:=Tryz.sizeOf316
 v171:=Tryz.zeroValue316
 t173:=Tryz.underlying320
 a173:=Tryz.isAgg320
 z173:=Tryz.sizeOf320
 v173:=Tryz.zeroValue320
 t212:=Tryz.underlying337
 a212:=Tryz.isAgg337
 z212:=Tryz.sizeOf337
 v212:=Tryz.zeroValue337
 t213:=Tryz.underlying339
 a213:=Tryz.isAgg339
 z213:=Tryz.sizeOf339
 t232:=Tryz.underlying380
 a232:=Tryz.isAgg380
 z232:=Tryz.sizeOf380
 v232:=Tryz.zeroValue380
 t233:=Tryz.underlying381
 a233:=Tryz.isAgg381
 z233:=Tryz.sizeOf381
 v233:=Tryz.zeroValue381
 g17:=by kernel_rfl
 g18:=by kernel_rfl
 g19:=by kernel_rfl
 i0:=by kernel_rfl
 i2:=by kernel_rfl
 i3:=by kernel_rfl
 i4:=by kernel_rfl
 i5:=by kernel_rfl
 i9:=by kernel_rfl
 i20:=by kernel_rfl
 i37:=by kernel_rfl
 i46:=by kernel_rfl
 i51:=by kernel_rfl
 i53:=by kernel_rfl
 i171:=by kernel_rfl
 i173:=by kernel_rfl
 i212:=by kernel_rfl
 i232:=by kernel_rfl
 i233:=by kernel_rfl
 m17:=by kernel_rfl
 m18:=by kernel_rfl
 m19:=by kernel_rfl}
def Tryz.lays178_ren:Go.Shelf.Ren:=⟨fun|172=>178|244=>202|245=>203|247=>225|279=>226|280=>227|281=>228|282=>229|287=>243|316=>244|171=>66|205=>245|321=>261|322=>262|243=>120|246=>157|283=>183|284=>184|285=>185|286=>186|129=>205|317=>204|318=>206|319=>207|320=>208|337=>230|338=>231|n=>n,fun|9=>9|3=>3|75=>228|76=>229|4=>4|5=>5|167=>349|37=>147|0=>0|85=>350|2=>2|168=>352|53=>317|175=>374|46=>333|210=>378|127=>233|145=>398|143=>396|21=>21|171=>316|173=>320|212=>337|51=>338|20=>20|213=>339|232=>380|233=>381|80=>151|n=>n,fun|15=>2|16=>3|17=>1|18=>4|19=>5|n=>n⟩
theorem Tryz.lays178:Go.Proofs.LaysC.n172 Tryz.prog Tryz.lays178_ren:={
 mixed:=by kernel_rfl
 f129:=Tryz.func205.trans (congrArg some (by kernel_rfl))
 f171:=Tryz.func66.trans (congrArg some (by kernel_rfl))
 f172:=Tryz.func178.trans (congrArg some (by kernel_rfl))
 f205:=Tryz.func245.trans (congrArg some (by kernel_rfl))
 f243:=Tryz.func120.trans (congrArg some (by kernel_rfl))
 f244:=Tryz.func202.trans (congrArg some (by kernel_rfl))
 f245:=Tryz.func203.trans (congrArg some (by kernel_rfl))
 f246:=Tryz.func157.trans (congrArg some (by kernel_rfl))
 f247:=Tryz.func225.trans (congrArg some (by kernel_rfl))
 f279:=Tryz.func226.trans (congrArg some (by kernel_rfl))
 f280:=Tryz.func227.trans (congrArg some (by kernel_rfl))
 f281:=Tryz.func228.trans (congrArg some (by kernel_rfl))
 f282:=Tryz.func229.trans (congrArg some (by kernel_rfl))
 f283:=Tryz.func183.trans (congrArg some (by kernel_rfl))
 f284:=Tryz.func184.trans (congrArg some (by kernel_rfl))
 f285:=Tryz.func185.trans (congrArg some (by kernel_rfl))
 f286:=Tryz.func186.trans (congrArg some (by kernel_rfl))
 f287:=Tryz.func243.trans (congrArg some (by kernel_rfl))
 f316:=Tryz.func244.trans (congrArg some (by kernel_rfl))
 f317:=Tryz.func204.trans (congrArg some (by kernel_rfl))
 f318:=Tryz.func206.trans (congrArg some (by kernel_rfl))
 f319:=Tryz.func207.trans (congrArg some (by kernel_rfl))
 f320:=Tryz.func208.trans (congrArg some (by kernel_rfl))
 f321:=Tryz.func261.trans (congrArg some (by kernel_rfl))
 f322:=Tryz.func262.trans (congrArg some (by kernel_rfl))
 f337:=Tryz.func230.trans (congrArg some (by kernel_rfl))
 f338:=Tryz.func231.trans (congrArg some (by kernel_rfl))
 t0:=Tryz.underlying0
 a0:=Tryz.isAgg0
 z0:=Tryz.sizeOf0
 v0:=Tryz.zeroValue0
 t2:=Tryz.underlying2
 a2:=Tryz.isAgg2
 z2:=Tryz.sizeOf2
 v2:=Tryz.zeroValue2
 t3:=Tryz.underlying3
 a3:=Tryz.isAgg3
 z3:=Tryz.sizeOf3
 v3:=Tryz.zeroValue3
 t4:=Tryz.underlying4
 a4:=Tryz.isAgg4
 z4:=Tryz.sizeOf4
 v4:=Tryz.zeroValue4
 t5:=Tryz.underlying5
 a5:=Tryz.isAgg5
 z5:=Tryz.sizeOf5
 v5:=Tryz.zeroValue5
 t9:=Tryz.underlying9
 a9:=Tryz.isAgg9
 z9:=Tryz.sizeOf9
 v9:=Tryz.zeroValue9
 t20:=Tryz.underlying20
 a20:=Tryz.isAgg20
 z20:=Tryz.sizeOf20
 v20:=Tryz.zeroValue20
 t21:=Tryz.underlying21
 a21:=Tryz.isAgg21
 z21:=Tryz.sizeOf21
 v21:=Tryz.zeroValue21
 t37:=Tryz.underlying147
 a37:=Tryz.isAgg147
 z37:=Tryz.sizeOf147
 v37:=Tryz.zeroValue147
 t46:=Tryz.underlying333
 a46:=Tryz.isAgg333
 z46:=Tryz.sizeOf333
 v46:=Tryz.zeroValue333
 t51:=Tryz.underlying338
 a51:=Tryz.isAgg338
 z51:=Tryz.sizeOf338
 v51:=Tryz.zeroValue338
 t53:=Tryz.underlying317
 a53:=Tryz.isAgg317
 z53:=Tryz.sizeOf317
 v53:=Tryz.zeroValue317
 t75:=Tryz.underlying228
 a75:=Tryz.isAgg228
 z75:=Tryz.sizeOf228
 v75:=Tryz.zeroValue228
 t76:=Tryz.underlying229
 a76:=Tryz.isAgg229
 z76:=Tryz.sizeOf229
 v76:=Tryz.zeroValue229
 t85:=Tryz.underlying350
 a85:=Tryz.isAgg350
 z85:=Tryz.sizeOf350
 v85:=Tryz.zeroValue350
 t127:=Tryz.underlying233
 a127:=Tryz.isAgg233
 z127:=Tryz.sizeOf233
 v127:=Tryz.zeroValue233
 t143:=Tryz.underlying396
 a143:=Tryz.isAgg396
 z143:=Tryz.sizeOf396
 v143:=Tryz.zeroValue396
 t145:=Tryz.underlying398
 a145:=Tryz.isAgg398
 z145:=Tryz.sizeOf398
 v145:=Tryz.zeroValue398
 t167:=Tryz.underlying349
 a167:=Tryz.isAgg349
 z167:=Tryz.sizeOf349
 v167:=Tryz.zeroValue349
 t168:=Tryz.underlying352
 a168:=Tryz.isAgg352
 z168:=Tryz.sizeOf352
 v168:=Tryz.zeroValue352
 t171:=Tryz.underlying316
 a171:=Tryz.isAgg316
 z171:=Tryz.sizeOf316
 v171:=Tryz.zeroValue316
 t173:=Tryz.underlying320
 a173:=Tryz.isAgg320
 z173:=Tryz.sizeOf320
 v173:=Tryz.zeroValue320
 t175:=Tryz.underlying374
 a175:=Tryz.isAgg374
 z175:=Tryz.sizeOf374
 v175:=Tryz.zeroValue374
 t210:=Tryz.underlying378
 a210:=Tryz.isAgg378
 z210:=Tryz.sizeOf378
 v210:=Tryz.zeroValue378
 t212:=Tryz.underlying337
 a212:=Tryz.isAgg337
 z212:=Tryz.sizeOf337
 v212:=Tryz.zeroValue337
 t213:=Tryz.underlying339
 a213:=Tryz.isAgg339
 z213:=Tryz.sizeOf339
 t232:=Tryz.underlying380
 a232:=Tryz.isAgg380
 z232:=Tryz.sizeOf380
 v232:=Tryz.zeroValue380
 t233:=Tryz.underlying381
 a233:=Tryz.isAgg381
 z233:=Tryz.sizeOf381
 v233:=Tryz.zeroValue381
 g15:=by kernel_rfl
 g16:=by kernel_rfl
 g17:=by kernel_rfl
 g18:=by kernel_rfl
 g19:=by kernel_rfl
 t80:=Tryz.underlying151
 a80:=Tryz.isAgg151
 z80:=Tryz.sizeOf151
 v80:=Tryz.zeroValue151
 i0:=by kernel_rfl
 i2:=by kernel_rfl
 i3:=by kernel_rfl
 i4:=by kernel_rfl
 i5:=by kernel_rfl
 i9:=by kernel_rfl
 i20:=by kernel_rfl
 i21:=by kernel_rfl
 i37:=by kernel_rfl
 i46:=by kernel_rfl
 i51:=by kernel_rfl
 i53:=by kernel_rfl
 i75:=by kernel_rfl
 i76:=by kernel_rfl
 i80:=by kernel_rfl
 i85:=by kernel_rfl
 i127:=by kernel_rfl
 i143:=by kernel_rfl
 i145:=by kernel_rfl
 i167:=by kernel_rfl
 i168:=by kernel_rfl
 i171:=by kernel_rfl
 i173:=by kernel_rfl
 i175:=by kernel_rfl
 i210:=by kernel_rfl
 i212:=by kernel_rfl
 i232:=by kernel_rfl
 i233:=by kernel_rfl
 m15:=by kernel_rfl
 m16:=by kernel_rfl
 m17:=by kernel_rfl
 m18:=by kernel_rfl
 m19:=by kernel_rfl
 c0:=by kernel_rfl
 c2:=by kernel_rfl
 c3:=by kernel_rfl
 c4:=by kernel_rfl
 c5:=by kernel_rfl
 c9:=by kernel_rfl
 c20:=by kernel_rfl
 c21:=by kernel_rfl
 c37:=by kernel_rfl
 c46:=by kernel_rfl
 c51:=by kernel_rfl
 c53:=by kernel_rfl
 c75:=by kernel_rfl
 c76:=by kernel_rfl
 c80:=by kernel_rfl
 c85:=by kernel_rfl
 c127:=by kernel_rfl
 c143:=by kernel_rfl
 c145:=by kernel_rfl
 c167:=by kernel_rfl
 c168:=by kernel_rfl
 c171:=by kernel_rfl
 c173:=by kernel_rfl
 c175:=by kernel_rfl
 c210:=by kernel_rfl
 c212:=by kernel_rfl
 c213:=by kernel_rfl
 c232:=by kernel_rfl
 c233:=by kernel_rfl}
namespace TW
open Go.Shelf Go.Proofs
def Tabs(w:World):Prop:=Lib.TabIs Tryz.prog w "internal/strconv.uint64pow10" .u64 Lib.pow10Tab
theorem Tabs.ext{w w':World}(h:Tabs w)(x:Ext w w'):Tabs w':=by
 unfold Tabs Lib.TabIs World.var? at*;cases hg:Tryz.prog.globalNamed "internal/strconv.uint64pow10" with
 |none=>rw[hg]at h;cases h
 |some g=>
  rw[hg]at h;simp only[Option.bind_some]at h ⊢;have hlt:g<w.heap.size:=by
   rcases Nat.lt_or_ge g w.heap.size with h1|h1
   ·exact h1
   ·rw[Array.getElem?_eq_none h1]at h;cases h
  rw[x.block g hlt];exact h
theorem itoa_any(n:Int)(w:World)(hT:Tabs w)(h: -9223372036854775808≤n∧n≤9223372036854775807):Cr 66 #[.int .i64 n] w (.string (txt n)):=
 (Go.Proofs.Any.strconv_Itoa Tryz.lays66 n h.1 h.2 w hT).mono fun e w' ⟨he,k,os,hw⟩=>⟨he,by
  subst hw;refine Ext.of ⟨rfl,rfl,rfl,by simp[Sort.grow],fun j hj=> ?_⟩;exact Sort.heap_grow_old _ _ (by simpa using hj)⟩
theorem atoi_any(s:ByteArray)(v:Int)(w:World)(hs:s.size≤200)(h:Lib.atoiAll s.data.toList= .ok v):Cr 178 #[.string s] w (.tuple #[.int .i64 v,.nilIface]):=
 (Go.Proofs.Any.strconv_Atoi_ok Tryz.lays178 s Om v h w).mono fun e w' ⟨he,hw⟩=>⟨he,by
  rcases hw with rfl|⟨t,rfl⟩
  ·exact Ext.refl _
  ·exact Ext.of (Lib.bytesWorld_below w _ t)⟩
theorem text_any(n:Int)(w:World)(hT:Tabs w)(hn: -1000000000000000≤n∧n≤1000000000000000):
  Cr 20 #[.int .i64 n] w (.string (txt n)):=by
 have H:=(Hp.nil w);refine Wb Tryz.func20 ?_;refine go ?_;refine c1 H Fh (itoa_any n _ (hT.ext H.ext) Om) fun z H=> ?_;refine go ?_;refine Rt [_] ?_;exact⟨rfl,H.ext⟩
theorem inI_any(n:Int)(w:World):
  Cr 142 #[.int .i64 n] w (.bool (decide (n≥-1000000000000000)&&decide (n≤1000000000000000))):=by
 have H:=(Hp.nil w);refine Wb Tryz.func142 ?_;refine go ?_;refine Rt [_] ?_;exact⟨rfl,H.ext⟩
theorem inI_t(n:Int)(w:World)(hn: -1000000000000000≤n∧n≤1000000000000000):Cr 142 #[.int .i64 n] w (.bool true):=
 (inI_any n w).mono fun e w' ⟨he,x⟩=>⟨by rw[he,decide_eq_true hn.1,decide_eq_true hn.2];rfl,x⟩
theorem within_t(n:Int)(w:World)(hn: -1000000000000000≤n∧n≤1000000000000000):
  Cr 179 #[.int .i64 n,.bool true] w (.tuple #[.int .i64 n,.bool true]):=by
 have H:=(Hp.nil w);refine Wb Tryz.func179 ?_;refine G10 ?_;refine WL.guarded rfl rfl rfl ?_;refine c1 H Fh (inI_t n _ hn) fun z H=> ?_;refine G1 ?_;refine yy (Y.pickF rfl rfl rfl) ?_;refine go ?_;refine WC.condF rfl ?_;refine G7 ?_;refine sb [4,5] ?_;refine go ?_;refine Rt [_,_] ?_;exact⟨rfl,H.ext⟩
theorem nparse_any(s:ByteArray)(v:Int)(w:World)(hT:Tabs w)(hv2: -1000000000000000≤v∧v≤1000000000000000)(es:s=txt v):
  Cr 150 #[.string s] w (.tuple #[.int .i64 v,.bool true]):=by
 have H:=(Hp.nil w);have hv:Lib.atoiAll s.data.toList= .ok v:=by rw[es,txt_l];exact atoi_itoa Om
 have hs:s.size≤200:=by rw[es,txt_s];have:=Lib.itoa_length_le v Om Om;omega
 refine Wb Tryz.func150 ?_;refine go ?_;refine c1 H Fh (atoi_any _ v _ hs hv) fun z H=> ?_;refine G9 ?_;refine yy (Y.eqlNil rfl u228 rfl) ?_;refine G2 ?_;refine WL.guarded rfl rfl rfl ?_;refine c1 H Fh (text_any v _ (hT.ext H.ext) hv2) fun z H=> ?_;refine G1 ?_;refine WL.yldW rfl (blt rfl) rfl rfl rfl (Yld.cast (Y.eqlStr rfl rfl rfl) (vb (show(txt v==s)=true from by rw[es,beqB_eq]))) ?_;refine yy (Y.pickT rfl rfl rfl) ?_;refine c1 H Fh (within_t _ _ Om) fun z H=> ?_;refine go ?_;refine Rt [_,_] ?_;exact⟨rfl,H.ext⟩
end TW
end Go.Proofs.YtaclfjjipnpboaaGreatDoor
end
section
attribute [local irreducible] Go.Eng.WC Go.Eng.WL Go.Eng.WK Go.Eng.WQ Go.Eng.WX Go.Eng.Yld
namespace Go.Proofs.YtaclfjjipnpboaaGreatDoor
open Go Go.Eng Go.RowKit
namespace TW
def qtB(s:ByteArray):List UInt8:=34::s.data.toList++[34]
theorem qt_any(g:Nat)(q:Bool)(v:Value)(bs:List UInt8)(x:ByteArray)(W:World)(R:List Res)(w:World)(H:Hp W w (box g 149 [bA g q,v]::row 5 yc 1 v bs::R))(hc:Cln x)(hm:bs.length≤850000):
  Calls Tryz.prog 102 #[.pointer (some ⟨g,0,none⟩),.string x] w fun e w'=>∃v',e= .returned (resVal [])∧Hp W w' (box g 149 [bA g true,v']::row 5 yc 1 v' (bs++qtB x)::R):=by
 have hx:=hc.2.1;refine Wb Tryz.func102 ?_;refine go ?_;refine c3 Fh (wb_any _ _ _ _ _ 34 _ _ _ (H.front [0,0]) rfl (by(try simp only[List.length_append,List.length_cons,List.length_nil,List.length_take,toL_len]);omega)) ?_;rintro _ z ⟨v5,rfl,H⟩;refine⟨_,rfl,?_⟩;refine G4 ?_;refine yy (Y.lenStr rfl rfl rfl u9 rfl) ?_;refine go ?_;refine sb [10,0,1,9] ?_;refine WC.loopS 1 (fun mz Ed W'=>∃j:Nat,∃u:Value,mz=x.size-j∧Ed=[(10,.int .i64 ((j:Nat):Int))]∧Hp W W' (box g 149 [bA g true,u]::row 5 yc 1 u (bs++[34]++x.data.toList.take j)::R)∧(j≤x.size)) _ ⟨0,_,rfl,rfl,(by rw[show x.data.toList.take 0=[]from rfl,List.append_nil];exact H),(Nat.zero_le _)⟩ ?_;rintro _ _ z ⟨j,u,rfl,rfl,H,jl⟩;refine go ?_;refine Cd (fun p10=> ?_) fun p10=> ?_
 ·have b14:j<x.size:=Om;refine G11 ?_;refine yy (Y.indexStr j rfl u9 rfl rfl rfl b14) ?_;refine G8 ?_;refine yy (Yld.cast (Y.eql rfl rfl rfl) (vb (cB_34 (hc.2.2 j Om)))) ?_;refine go ?_;refine WC.condF rfl ?_;refine G1 ?_;refine yy (Yld.cast (Y.eql rfl rfl rfl) (vb (cB_92 (hc.2.2 j Om)))) ?_;refine go ?_;refine WC.condF rfl ?_;refine G1 ?_;refine yy (Yld.cast (Y.eql rfl rfl rfl) (vb (cB_10 (hc.2.2 j Om)))) ?_;refine go ?_;refine WC.condF rfl ?_;refine G1 ?_;refine yy (Yld.cast (Y.eql rfl rfl rfl) (vb (cB_9 (hc.2.2 j Om)))) ?_;refine go ?_;refine WC.condF rfl ?_;refine go ?_;refine c3 Fh (wb_any _ _ _ _ _ (x.data.toList[j]!) _ _ _ (H.front [0,0]) rfl (by(try simp only[List.length_append,List.length_cons,List.length_nil,List.length_take,toL_len]);omega)) ?_;rintro _ z ⟨v20,rfl,H⟩;refine⟨_,rfl,?_⟩;refine G4 ?_;refine sb [0,1,9,10] ?_;refine go ?_;exact Rs [(10,_)] Sx ⟨(j+1),v20,rfl,rfl,(by rw[take_toL Om,←List.append_assoc];exact H),Om⟩
 ·refine go ?_;refine c3 Fh (wb_any _ _ _ _ _ 34 _ _ _ (H.front [0,0]) rfl (by(try simp only[List.length_append,List.length_cons,List.length_nil,List.length_take,toL_len]);omega)) ?_;rintro _ z ⟨v21,rfl,H⟩;refine⟨_,rfl,?_⟩;refine go ?_;refine En ?_;exact⟨_,rfl,(by rw[show bs++qtB x=bs++[34]++x.data.toList.take j++[34]from by rw[take_all Om];unfold qtB;simp];exact H)⟩
def PrP(x:J):Prop:=∀(g:Nat) (q:Bool) (v:Value) (bs:List UInt8) (d:Nat) (W:World) (R:List Res) (w:World),Hp W w (box g 149 [bA g q,v]::row 5 yc 1 v bs::R)→Tabs W→Gm W x→Vd d x→bs≠[]∨5≤x.op→bs.length+(pr x).length≤800000→
 Calls Tryz.prog 54 #[.pointer (some ⟨g,0,none⟩),.agg #[.int .i64 x.op,.int .i64 x.n,.string x.s,.slice x.A x.k x.c,.slice x.B x.m x.d]] w fun e w'=>∃v',e= .returned (resVal [])∧Hp W w' (box g 149 [bA g true,v']::row 5 yc 1 v' (bs++pr x)::R)
theorem print_step(x:J)(ih:∀y∈x.kids,PrP y)(g:Nat)(q:Bool)(v:Value)(bs:List UInt8)(d:Nat)(W:World)(R:List Res)(w:World)(H:Hp W w (box g 149 [bA g q,v]::row 5 yc 1 v bs::R))(hT:Tabs W)(g_x:Gm W x)(vd:Vd d x)(hb:bs≠[]∨5≤x.op)(hm:bs.length+(pr x).length≤800000):
  Calls Tryz.prog 54 #[.pointer (some ⟨g,0,none⟩),.agg #[.int .i64 x.op,.int .i64 x.n,.string x.s,.slice x.A x.k x.c,.slice x.B x.m x.d]] w fun e w'=>∃v',e= .returned (resVal [])∧Hp W w' (box g 149 [bA g true,v']::row 5 yc 1 v' (bs++pr x)::R):=by
 obtain⟨d,rfl⟩:=vd.pos;have vd0:=vd;have e_k:=g_x.a.len;have e_b:=g_x.b.len;have z_b:=g_x.b.nle;refine Wb Tryz.func54 ?_;refine go ?_;refine bx H fun g5 z H=> ?_;refine G7 ?_;rcases vd0 with⟨ho,hn,hs,hk,hq⟩|⟨ho,hn,hs,hk,hq⟩|⟨ho,hn,hs,hk,hq⟩|⟨ho,hn,hs,hk,hkk,hq⟩
 ·have hbs:bs≠[]:=hb.resolve_right Om;have pl:=congrArg List.length (pr_3 ho);refine yy (Yld.cast (Y.eql rfl rfl rfl) (vb (beq_no (by rw[ho];decide)))) ?_;refine go ?_;refine WC.condF rfl ?_;refine G1 ?_;refine yy (Yld.cast (Y.eql rfl rfl rfl) (vb (beq_no (by rw[ho];decide)))) ?_;refine go ?_;refine WC.condF rfl ?_;refine G1 ?_;refine yy (Yld.cast (Y.eql rfl rfl rfl) (vb (beq_yes ho))) ?_;refine go ?_;refine WC.condT rfl ?_;refine go ?_;refine c1 H Fh (text_any x.n _ (hT.ext H.ext) hn) fun z H=> ?_;refine c3 Fh (ws_any _ _ _ _ (txt x.n) _ _ _ (H.front [1,1]) hbs (by rw[txt_s];omega)) ?_;rintro _ z ⟨v11,rfl,H⟩;refine⟨_,rfl,?_⟩;refine go ?_;refine En ?_;exact⟨_,rfl,(by rw[pr_3 ho,←txt_l];exact(H.drop [2]))⟩
 ·have pl:=congrArg List.length (pr_4 ho);refine yy (Yld.cast (Y.eql rfl rfl rfl) (vb (beq_no (by rw[ho];decide)))) ?_;refine go ?_;refine WC.condF rfl ?_;refine G1 ?_;refine yy (Yld.cast (Y.eql rfl rfl rfl) (vb (beq_no (by rw[ho];decide)))) ?_;refine go ?_;refine WC.condF rfl ?_;refine G1 ?_;refine yy (Yld.cast (Y.eql rfl rfl rfl) (vb (beq_no (by rw[ho];decide)))) ?_;refine go ?_;refine WC.condF rfl ?_;refine G1 ?_;refine yy (Yld.cast (Y.eql rfl rfl rfl) (vb (beq_yes ho))) ?_;refine go ?_;refine WC.condT rfl ?_;refine go ?_;refine c3 Fh (qt_any _ _ _ _ x.s _ _ _ (H.front [1,1]) hs Om) ?_;rintro _ z ⟨v15,rfl,H⟩;refine⟨_,rfl,?_⟩;refine go ?_;refine En ?_;exact⟨_,rfl,(by rw[pr_4 ho];exact(H.drop [2]))⟩
 ·have pl:=pr_len5 ho;refine yy (Yld.cast (Y.eql rfl rfl rfl) (vb (beq_no (by rw[ho];decide)))) ?_;refine G2 ?_;refine sb [0,3,8,48] ?_;refine WC.condF rfl ?_;refine G1 ?_;refine yy (Yld.cast (Y.eql rfl rfl rfl) (vb (beq_no (by rw[ho];decide)))) ?_;refine go ?_;refine WC.condF rfl ?_;refine G1 ?_;refine yy (Yld.cast (Y.eql rfl rfl rfl) (vb (beq_no (by rw[ho];decide)))) ?_;refine go ?_;refine WC.condF rfl ?_;refine G1 ?_;refine yy (Yld.cast (Y.eql rfl rfl rfl) (vb (beq_no (by rw[ho];decide)))) ?_;refine go ?_;refine WC.condF rfl ?_;refine G7 ?_;refine yy (Yld.cast (Y.eql rfl rfl rfl) (vb (beq_no (by rw[ho];decide)))) ?_;refine go ?_;refine WC.condF rfl ?_;refine G5 ?_;refine yy (Y.indexStr 0 rfl u9 rfl rfl rfl Dc) ?_;refine c3 Fh (wb_any _ _ _ _ _ 91 _ _ _ (H.front [1,1]) rfl (by(try simp only[List.length_append,List.length_cons,List.length_nil,List.length_take,toL_len]);omega)) ?_;rintro _ z ⟨v23,rfl,H⟩;refine⟨_,rfl,?_⟩;refine go ?_;refine sb [19,0,3,4,17,18] ?_;refine WC.loopS 1 (fun mz Ed W'=>∃j:Nat,∃u:Value,mz=x.m-j∧Ed=[(19,.int .i64 ((j:Nat):Int))]∧Hp W W' (box g 149 [bA g true,u]::row 5 yc 1 u (bs++[91]++bdB false x.ks (x.kids.map pr) j)::_::R)∧(j≤x.m)) _ ⟨0,_,rfl,rfl,(by rw[show bdB false x.ks (x.kids.map pr) 0=[]from rfl,List.append_nil];exact H),(Nat.zero_le _)⟩ ?_;rintro _ _ z ⟨j,u,rfl,rfl,H,jl⟩;have lj:=bdB_le (o:=false) (ks:=x.ks) (l:=x.kids.map pr) (show j≤x.kids.length from Om);refine go ?_;refine Cd (fun p28=> ?_) fun p28=> ?_
  ·have b31:j<x.m:=Om;refine G6 ?_;refine yy (Y.indexLs j (g_x.ext H.ext).b rfl u64 ti66 rfl rfl rfl b31) ?_;refine yy (Y.loadS (cs:=[_,_,_,_,_]) rfl u66 rfl ti66 rfl (Ls.part_eq (g_x.ext H.ext).b b31 rfl)) ?_;refine al H ti66 fun g32 z H=> ?_;refine go ?_;refine st H 0 ti66 fun z H=> ?_;refine go ?_;refine Cd (fun p36=> ?_) fun p36=> ?_
   ·refine go ?_;refine c3 Fh (wb_any _ _ _ _ _ 44 _ _ _ (H.front [1,1]) rfl (by(try simp only[List.length_append,List.length_cons,List.length_nil,List.length_take,toL_len]);omega)) ?_;rintro _ z ⟨v37,rfl,H⟩;refine⟨_,rfl,?_⟩;refine G5 ?_;refine yy (Yld.cast (Y.eql rfl rfl rfl) (vb (beq_no (by rw[ho];decide)))) ?_;refine go ?_;refine WC.condF rfl ?_;refine go ?_;refine c3 Fh (ih _ (mem_b (show j<x.kids.length from Om)) _ _ _ _ d _ _ _ (H.front [0,0]) hT (g_x.kid (show j<x.kids.length from Om)) (vd.kid (mem_b (show j<x.kids.length from Om))) (.inl (by simp)) (by have rm:=bd_room (o:=false) (ks:=x.ks) (show j<x.kids.length from Om);rw[hd_as (by have:=p36;omega)]at rm;(try simp only[qtB]);simp only[List.length_append,List.length_cons,List.length_nil]at rm ⊢;omega)) ?_;rintro _ z ⟨v40,rfl,H⟩;refine⟨_,rfl,?_⟩;refine go ?_;exact Rs [(19,_)] Sx ⟨(j+1),v40,rfl,rfl,(by rw[show bs++[91]++bdB false x.ks (x.kids.map pr) (j+1)=(((bs++[91]++bdB false x.ks (x.kids.map pr) j)++[44])++pr x.kids[j]!)from by rw[bd_step (show j<x.kids.length from Om),hd_as (by have:=p36;omega)];simp[qtB]];exact(H.drop [2])),Om⟩
   ·refine G2 ?_;refine sb [0,3,4,5,6,17,18,19] ?_;refine G4 ?_;refine yy (Yld.cast (Y.eql rfl rfl rfl) (vb (beq_no (by rw[ho];decide)))) ?_;refine go ?_;refine WC.condF rfl ?_;refine go ?_;refine c3 Fh (ih _ (mem_b (show j<x.kids.length from Om)) _ _ _ _ d _ _ _ (H.front [1,1]) hT (g_x.kid (show j<x.kids.length from Om)) (vd.kid (mem_b (show j<x.kids.length from Om))) (.inl (by simp)) (by have rm:=bd_room (o:=false) (ks:=x.ks) (show j<x.kids.length from Om);rw[show hdB false x.ks j=[]from by rw[show j=0 from by have:=p36;omega];rfl]at rm;(try simp only[qtB]);simp only[List.length_append,List.length_cons,List.length_nil]at rm ⊢;omega)) ?_;rintro _ z ⟨v43,rfl,H⟩;refine⟨_,rfl,?_⟩;refine go ?_;exact Rs [(19,_)] Sx ⟨(j+1),v43,rfl,rfl,(by rw[show bs++[91]++bdB false x.ks (x.kids.map pr) (j+1)=((bs++[91]++bdB false x.ks (x.kids.map pr) j)++pr x.kids[j]!)from by rw[bd_step (show j<x.kids.length from Om),show hdB false x.ks j=[]from by rw[show j=0 from by have:=p36;omega];rfl];simp[qtB]];exact(H.drop [2])),Om⟩
  ·refine G8 ?_;refine yy (Y.indexStr 1 rfl u9 rfl rfl rfl Dc) ?_;refine c3 Fh (wb_any _ _ _ _ _ 93 _ _ _ (H.front [0,0]) rfl (by(try simp only[List.length_append,List.length_cons,List.length_nil,List.length_take,toL_len]);omega)) ?_;rintro _ z ⟨v44,rfl,H⟩;refine⟨_,rfl,?_⟩;refine go ?_;refine En ?_;exact⟨_,rfl,(by rw[show bs++pr x=((bs++[91]++bdB false x.ks (x.kids.map pr) j)++[93])from by rw[pr_5 ho,show x.kids.length=j from Om];simp];exact(H.drop [2]))⟩
 ·have pl:=pr_len6 ho;have ekk:x.ks.length=x.kids.length:=hk;refine yy (Yld.cast (Y.eql rfl rfl rfl) (vb (beq_no (by rw[ho];decide)))) ?_;refine go ?_;refine WC.condF rfl ?_;refine G1 ?_;refine yy (Yld.cast (Y.eql rfl rfl rfl) (vb (beq_no (by rw[ho];decide)))) ?_;refine go ?_;refine WC.condF rfl ?_;refine G1 ?_;refine yy (Yld.cast (Y.eql rfl rfl rfl) (vb (beq_no (by rw[ho];decide)))) ?_;refine go ?_;refine WC.condF rfl ?_;refine G1 ?_;refine yy (Yld.cast (Y.eql rfl rfl rfl) (vb (beq_no (by rw[ho];decide)))) ?_;refine go ?_;refine WC.condF rfl ?_;refine G3 ?_;refine sb [0,3,4] ?_;refine G4 ?_;refine yy (Yld.cast (Y.eql rfl rfl rfl) (vb (beq_yes ho))) ?_;refine go ?_;refine WC.condT rfl ?_;refine G6 ?_;refine yy (Y.indexStr 0 rfl u9 rfl rfl rfl Dc) ?_;refine c3 Fh (wb_any _ _ _ _ _ 123 _ _ _ (H.front [1,1]) rfl (by(try simp only[List.length_append,List.length_cons,List.length_nil,List.length_take,toL_len]);omega)) ?_;rintro _ z ⟨v52,rfl,H⟩;refine⟨_,rfl,?_⟩;refine go ?_;refine sb [19,0,3,4,17,18] ?_;refine WC.loopS 1 (fun mz Ed W'=>∃j:Nat,∃u:Value,mz=x.m-j∧Ed=[(19,.int .i64 ((j:Nat):Int))]∧Hp W W' (box g 149 [bA g true,u]::row 5 yc 1 u (bs++[123]++bdB true x.ks (x.kids.map pr) j)::_::R)∧(j≤x.m)) _ ⟨0,_,rfl,rfl,(by rw[show bdB true x.ks (x.kids.map pr) 0=[]from rfl,List.append_nil];exact H),(Nat.zero_le _)⟩ ?_;rintro _ _ z ⟨j,u,rfl,rfl,H,jl⟩;have lj:=bdB_le (o:=true) (ks:=x.ks) (l:=x.kids.map pr) (show j≤x.kids.length from Om);refine go ?_;refine Cd (fun p57=> ?_) fun p57=> ?_
  ·have b60:j<x.m:=Om;refine G6 ?_;refine yy (Y.indexLs j (g_x.ext H.ext).b rfl u64 ti66 rfl rfl rfl b60) ?_;refine yy (Y.loadS (cs:=[_,_,_,_,_]) rfl u66 rfl ti66 rfl (Ls.part_eq (g_x.ext H.ext).b b60 rfl)) ?_;refine al H ti66 fun g61 z H=> ?_;refine go ?_;refine st H 0 ti66 fun z H=> ?_;refine go ?_;refine Cd (fun p65=> ?_) fun p65=> ?_
   ·refine go ?_;refine c3 Fh (wb_any _ _ _ _ _ 44 _ _ _ (H.front [1,1]) rfl (by(try simp only[List.length_append,List.length_cons,List.length_nil,List.length_take,toL_len]);omega)) ?_;rintro _ z ⟨v66,rfl,H⟩;refine⟨_,rfl,?_⟩;refine G5 ?_;refine yy (Yld.cast (Y.eql rfl rfl rfl) (vb (beq_yes ho))) ?_;refine go ?_;refine WC.condT rfl ?_;have b70:j<x.k:=Om;refine G5 ?_;refine yy (Y.indexLs j (g_x.ext H.ext).a rfl u63 ti9 rfl rfl rfl b70) ?_;refine yy (ld rfl u9 rfl (Ls.at_eq (g_x.ext H.ext).a b70 rfl)) ?_;refine c3 Fh (qt_any _ _ _ _ x.ks[j]! _ _ _ (H.front [0,0]) (hkk.2 _ (mem_b (show j<x.ks.length from Om))) (by(try simp only[List.length_append,List.length_cons,List.length_nil,List.length_take,toL_len]);omega)) ?_;rintro _ z ⟨v71,rfl,H⟩;refine⟨_,rfl,?_⟩;refine go ?_;refine c3 Fh (wb_any _ _ _ _ _ 58 _ _ _ (H.front [0,0]) rfl (by simp only[List.length_append,List.length_cons,List.length_nil,qtB,toL_len];have:=(hkk.2 _ (mem_b (show j<x.ks.length from Om))).2.1;omega)) ?_;rintro _ z ⟨v72,rfl,H⟩;refine⟨_,rfl,?_⟩;refine go ?_;refine c3 Fh (ih _ (mem_b (show j<x.kids.length from Om)) _ _ _ _ d _ _ _ (H.front [0,0]) hT (g_x.kid (show j<x.kids.length from Om)) (vd.kid (mem_b (show j<x.kids.length from Om))) (.inl (by simp)) (by have rm:=bd_room (o:=true) (ks:=x.ks) (show j<x.kids.length from Om);rw[hd_os (by have:=p65;omega)]at rm;(try simp only[qtB]);simp only[List.length_append,List.length_cons,List.length_nil]at rm ⊢;omega)) ?_;rintro _ z ⟨v73,rfl,H⟩;refine⟨_,rfl,?_⟩;refine G3 ?_;refine sb [0,3,4,17,18,19] ?_;refine go ?_;exact Rs [(19,_)] Sx ⟨(j+1),v73,rfl,rfl,(by rw[show bs++[123]++bdB true x.ks (x.kids.map pr) (j+1)=(((((bs++[123]++bdB true x.ks (x.kids.map pr) j)++[44])++qtB x.ks[j]!)++[58])++pr x.kids[j]!)from by rw[bd_step (show j<x.kids.length from Om),hd_os (by have:=p65;omega)];simp[qtB]];exact(H.drop [2])),Om⟩
   ·refine G6 ?_;refine yy (Yld.cast (Y.eql rfl rfl rfl) (vb (beq_yes ho))) ?_;refine go ?_;refine WC.condT rfl ?_;have b77:j<x.k:=Om;refine G5 ?_;refine yy (Y.indexLs j (g_x.ext H.ext).a rfl u63 ti9 rfl rfl rfl b77) ?_;refine yy (ld rfl u9 rfl (Ls.at_eq (g_x.ext H.ext).a b77 rfl)) ?_;refine c3 Fh (qt_any _ _ _ _ x.ks[j]! _ _ _ (H.front [1,1]) (hkk.2 _ (mem_b (show j<x.ks.length from Om))) (by(try simp only[List.length_append,List.length_cons,List.length_nil,List.length_take,toL_len]);omega)) ?_;rintro _ z ⟨v78,rfl,H⟩;refine⟨_,rfl,?_⟩;refine go ?_;refine c3 Fh (wb_any _ _ _ _ _ 58 _ _ _ (H.front [0,0]) rfl (by simp only[List.length_append,List.length_cons,List.length_nil,qtB,toL_len];have:=(hkk.2 _ (mem_b (show j<x.ks.length from Om))).2.1;omega)) ?_;rintro _ z ⟨v79,rfl,H⟩;refine⟨_,rfl,?_⟩;refine go ?_;refine c3 Fh (ih _ (mem_b (show j<x.kids.length from Om)) _ _ _ _ d _ _ _ (H.front [0,0]) hT (g_x.kid (show j<x.kids.length from Om)) (vd.kid (mem_b (show j<x.kids.length from Om))) (.inl (by simp)) (by have rm:=bd_room (o:=true) (ks:=x.ks) (show j<x.kids.length from Om);rw[show hdB true x.ks j=(34::x.ks[j]!.data.toList:List UInt8)++[34,58]from by rw[show j=0 from by have:=p65;omega];rfl]at rm;(try simp only[qtB]);simp only[List.length_append,List.length_cons,List.length_nil]at rm ⊢;omega)) ?_;rintro _ z ⟨v80,rfl,H⟩;refine⟨_,rfl,?_⟩;refine go ?_;exact Rs [(19,_)] Sx ⟨(j+1),v80,rfl,rfl,(by rw[show bs++[123]++bdB true x.ks (x.kids.map pr) (j+1)=((((bs++[123]++bdB true x.ks (x.kids.map pr) j)++qtB x.ks[j]!)++[58])++pr x.kids[j]!)from by rw[bd_step (show j<x.kids.length from Om),show hdB true x.ks j=(34::x.ks[j]!.data.toList:List UInt8)++[34,58]from by rw[show j=0 from by have:=p65;omega];rfl];simp[qtB]];exact(H.drop [2])),Om⟩
  ·refine G8 ?_;refine yy (Y.indexStr 1 rfl u9 rfl rfl rfl Dc) ?_;refine c3 Fh (wb_any _ _ _ _ _ 125 _ _ _ (H.front [0,0]) rfl (by(try simp only[List.length_append,List.length_cons,List.length_nil,List.length_take,toL_len]);omega)) ?_;rintro _ z ⟨v81,rfl,H⟩;refine⟨_,rfl,?_⟩;refine go ?_;refine En ?_;exact⟨_,rfl,(by rw[show bs++pr x=((bs++[123]++bdB true x.ks (x.kids.map pr) j)++[125])from by rw[pr_6 ho,show x.kids.length=j from Om];simp];exact(H.drop [2]))⟩
theorem print_any:∀x,PrP x:=J.ind print_step
end TW
end Go.Proofs.YtaclfjjipnpboaaGreatDoor
end
namespace Go.Eng
open Go Go.RowKit
def MpS(w:World)(g:Nat)(m:List (ByteArray×Value)):Prop:=∃es clock,w.heap[g]? =some (.map es clock)∧es.toList.map (fun e=>(e.key,e.val))=m.map (fun p=>(.string p.1,p.2))∧(∀x∈es.toList,x.born<clock)∧(es.toList.map (·.born)).Nodup∧(m.map (·.1)).Nodup
def sget:List (ByteArray×Value)→ByteArray→Option Value
 |[],_=>none
 |(k,v)::r,i=>if i=k then some v else sget r i
def sset:List (ByteArray×Value)→ByteArray→Value→List (ByteArray×Value)
 |[],i,u=>[(i,u)]
 |(k,v)::r,i,u=>if i=k then(k,u)::r else(k,v)::sset r i u
def sdel:List (ByteArray×Value)→ByteArray→List (ByteArray×Value)
 |[],_=>[]
 |(k,v)::r,i=>if i=k then r else(k,v)::sdel r i
theorem sget_none:∀(m:List (ByteArray×Value)) (i:ByteArray),sget m i=none→i∉m.map (·.1)
 |[],_,_=>by simp
 |(k,v)::r,i,h=>by
  simp only[sget]at h;by_cases hi:i=k
  ·grind
  ·simp only[hi,if_false]at h;have:=sget_none r i h;grind
theorem sset_keys_none:∀(m:List (ByteArray×Value)) (i:ByteArray) (u:Value),sget m i=none→(sset m i u).map (·.1)=m.map (·.1)++[i]
 |[],i,u,_=>rfl
 |(k,v)::r,i,u,h=>by
  simp only[sget]at h;by_cases hi:i=k
  ·grind
  ·simp only[hi,if_false]at h;simp only[sset,hi,if_false,List.map_cons,List.cons_append,sset_keys_none r i u h]
theorem sset_keys_some:∀(m:List (ByteArray×Value)) (i:ByteArray) (u v:Value),sget m i=some v→(sset m i u).map (·.1)=m.map (·.1)
 |[],i,u,v,h=>by cases h
 |(k,x)::r,i,u,v,h=>by
  simp only[sget]at h;by_cases hi:i=k
  ·simp[sset,hi]
  ·simp only[hi,if_false]at h;simp only[sset,hi,if_false,List.map_cons,sset_keys_some r i u v h]
section maps
variable{w w':World}{g:Nat}{m:List (ByteArray×Value)}
theorem MpS.lt(h:MpS w g m):g<w.heap.size:=by
 obtain⟨es,c,h1,_⟩:=h;grind
theorem MpS.of_block(h:MpS w g m)(hb:w'.heap[g]? =w.heap[g]?):MpS w' g m:=by
 obtain⟨es,c,h1,h2⟩:=h;exact⟨es,c,hb.trans h1,h2⟩
theorem findNow_s:∀(l:List MapEntry) (m:List (ByteArray×Value)) (i:ByteArray) (k:Nat),l.map (fun e=>(e.key,e.val))=m.map (fun p=>((.string p.1:Value),p.2))→
  ∃r,Instr.findNow .string (.string i) l k=some r∧(r.map (·.2))=sget m i∧∀j u,r=some (j,u)→∃j',j=k+j'∧j'<l.length∧(l[j']?).map (·.key)=some (.string i)∧(∀v,((l.modify j' fun e=>{e with key:=.string i,val:=v}).map fun e=>(e.key,e.val))=(sset m i v).map fun p=>(.string p.1,p.2))∧((l.eraseIdx j').map fun e=>(e.key,e.val))=(sdel m i).map fun p=>(.string p.1,p.2)
 |[],[],i,k,_=>⟨none,rfl,rfl,by simp⟩
 |[],_::_,_,_,h=>by simp at h
 |_::_,[],_,_,h=>by simp at h
 |e::l,(a,u)::m,i,k,h=>by
  simp only[List.map_cons,List.cons.injEq,Prod.mk.injEq]at h;obtain⟨⟨h1,h2⟩,h3⟩:=h;by_cases hi:i=a
  ·subst hi;refine⟨some (k,u),by grind [Instr.findNow,Instr.sameNow,beqB_self],by simp[sget],?_⟩;simp_all [Exists.intro,And.intro,sset,sdel]
  ·obtain⟨r,hr,hm,hj⟩:=findNow_s l m i (k+1) h3;refine⟨r,by simp[Instr.findNow,Instr.sameNow,h1,(show(i==a)=false from beqB_ne.2 hi),hr],by grind [sget],?_⟩;rintro j u' hju;obtain⟨j',e1,e2,e3,e4,e5⟩:=hj j u' hju;refine⟨j'+1,Om,by grind,by grind,fun v=> ?_,?_⟩
   ·simp_all [List.modify_succ_cons,List.map_cons,sset,if_false]
   simp_all [List.eraseIdx_cons_succ,List.map_cons,sdel,if_false]
theorem checkKey_str{P:Program}{t:TypeId}(hk:P.underlying t=some .string)(b:Bool)(n:Nat)(i:ByteArray)(w:World):(Instr.checkKey b (n+1) t (.string i)).run P w= .ok () w:=by
 simp[Instr.checkKey,run_underlying hk]
theorem findKey_s{P:Program}{t:TypeId}(hk:P.underlying t=some .string){es:Array MapEntry}(h:es.toList.map (fun e=>(e.key,e.val))=m.map fun p=>((.string p.1:Value),p.2))(i:ByteArray)(w:World):
  ∃r,(Instr.findKey t (.string i) es.toList).run P w= .ok r w∧(r.map (·.2))=sget m i∧∀j u,r=some (j,u)→j<es.size∧(es[j]?).map (·.key)=some (.string i)∧(∀v,((es.modify j fun e=>{e with key:=.string i,val:=v}).toList.map fun e=>(e.key,e.val))=(sset m i v).map fun p=>(.string p.1,p.2))∧((es.toList.eraseIdx j).map fun e=>(e.key,e.val))=(sdel m i).map fun p=>(.string p.1,p.2):=by
 obtain⟨r,h1,h2,h3⟩:=findNow_s es.toList m i 0 h;refine⟨r,by simp[Instr.findKey,run_underlying hk,h1],h2,fun j u hr=> ?_⟩;grind
theorem sset_none:∀(m:List (ByteArray×Value)) (i:ByteArray) (u:Value),sget m i=none→sset m i u=m++[(i,u)]
 |[],i,u,_=>rfl
 |(k,v)::r,i,u,h=>by
  simp only[sget]at h;by_cases hi:i=k
  ·grind
  ·simp only[hi,if_false]at h;simp[sset,hi,sset_none r i u h]
end maps
def sval(m:List (ByteArray×Value))(i:ByteArray)(z:Value):Value:=(sget m i).getD z
theorem Y.lookupS{P:Program}{o:Oper}{n:Nat}{E:Env}{C:World→Prop}{x y:Operand}{t kt e g:Nat}{i:ByteArray}{m:List (ByteArray×Value)}{z:Value}{sz by':Nat}(ho:o.op= .lookup t x y false)(hU:P.underlying t=some (.map kt e))(hk:P.underlying kt=some .string)(hT:TI P e z sz by')(hx:ev E x=some (.map (some g)))(hy:ev E y=some (.string i))(hm:∀w,C w→MpS w g m):
  Yld P o n E C (sval m i z):=by
 intro a w ha hC;obtain⟨es,c,h1,h2,_⟩:=hm w hC;obtain⟨r,hr,hg,_⟩:=findKey_s hk h2 i w;have h1':(getObj g).run P w= .ok (.map es c) w:=run_getObj_map' h1;have hc:=checkKey_str hk es.isEmpty 9999 i w;cases r with
 |none=>
  simp only[execOp,ho,ha.ev hx,ha.ev hy,Instr.lookup,run_underlying hU,Sem.run_bind,Result.andThen_ok,h1',Sem.run_pure,hc,hr,hT.zeroValue,sval,←hg];rfl
 |some p=>
  simp only[execOp,ho,ha.ev hx,ha.ev hy,Instr.lookup,run_underlying hU,Sem.run_bind,Result.andThen_ok,h1',Sem.run_pure,hc,hr,sval,←hg];rfl
theorem run_mapUpdate_s{P:Program}{t kt e g:Nat}{i:ByteArray}{u:Value}{m:List (ByteArray×Value)}{w:World}(hU:P.underlying t=some (.map kt e))(hk:P.underlying kt=some .string)(hm:MpS w g m):∃w',(Instr.mapUpdate t (.map (some g)) (.string i) u).run P w= .ok () w'∧Only g w w'∧MpS w' g (sset m i u):=by
 have hlt:=hm.lt;obtain⟨es,c,h1,h2,h6,h7,h8⟩:=hm;obtain⟨r,hr,hg,hs⟩:=findKey_s hk h2 i w;have h1':(getObj g).run P w= .ok (.map es c) w:=run_getObj_map' h1;have hc:=checkKey_str hk false 9999 i w;cases r with
 |none=>
  refine⟨{w with heap:=w.heap.setIfInBounds g (.map (es.push {key:=.string i,val:=u,born:=c}) (c+1))},?_,Only.setObj _ _ _,?_⟩
  ·simp_all [Instr.mapUpdate,Sem.run_bind,Result.andThen_ok,run_underlying,setObj,Sem.run]
  ·refine⟨_,_,Array.getElem?_setIfInBounds_self_of_lt hlt,?_,?_,?_,?_⟩
   ·grind [sset_none]
   ·grind
   ·grind
   ·rw[sset_keys_none m i u (by grind)];refine List.nodup_append.2 ⟨h8,by simp,fun a ha b hb=> ?_⟩;grind [sget_none]
 |some p=>
  obtain⟨j,v0⟩:=p;obtain⟨h3,h4,h5,h9⟩:=hs j v0 rfl;refine⟨{w with heap:=w.heap.setIfInBounds g (.map (es.modify j fun e=>{e with key:=.string i,val:=u}) c)},?_,Only.setObj _ _ _,?_⟩
  ·have hst:(Instr.keyThatStays (((es[j]?).map (·.key)).getD (.string i)) (.string i)).run P w= .ok (.string i) w:=by
    simp_all [Instr.keyThatStays,Instr.sameBits,beqB_self]
   simp_all [Instr.mapUpdate,Sem.run_bind,Result.andThen_ok,run_underlying,setObj,Sem.run]
  ·refine⟨_,_,Array.getElem?_setIfInBounds_self_of_lt hlt,h5 u,?_,?_,?_⟩
   ·intro x hx;have hb:x.born∈(es.modify j fun e=>{e with key:=.string i,val:=u}).toList.map (·.born):=List.mem_map_of_mem hx;rw[Array.toList_modify,map_modify (f:=fun e:MapEntry=>{e with key:=.string i,val:=u}) (g:=fun e:MapEntry=>e.born) (fun e=>rfl)]at hb;grind
   ·rw[Array.toList_modify,map_modify (f:=fun e:MapEntry=>{e with key:=.string i,val:=u}) (g:=fun e:MapEntry=>e.born) (fun e=>rfl)];exact h7
   grind [sset_keys_some]
section memory
variable{P:Program}{n:Nat}{ops:Array Oper}{Q:Exit→Act→World→Prop}{E:Env}{w:World}{o:Oper}{rest:List Oper}{d:Nat}
theorem WL.makeMapS{t:TypeId}(hd:o.dst=some d)(hn:d<n)(hg:o.guard=none)(ho:o.op= .makeMap t none)
  (h:∀g w',g=w.heap.size→Ext w w'→MpS w' g []→WL P n ops Q rest ((d,.map (some g))::E) w'):WL P n ops Q (o::rest) E w:=by
 intro a ha;have hr:(execOp a.eval o).run P w= .ok (.value (.map (some w.heap.size))) (w.alloc (.map #[] 0)):=by
  simp[execOp,ho,Instr.makeMap,run_newObj]
 refine wpList_plain hg fun K hK=>wp_of_run hr (hK _ _ ?_);rw[hd];exact h _ _ rfl ((Ext.refl w).alloc _) ⟨_,_,heap_alloc_new w _,rfl,by simp,by simp,by simp⟩ _ (ha.put hn _)
theorem WL.mapUpdateS{t kt e g:Nat}{x y z:Operand}{i:ByteArray}{u:Value}{m:List (ByteArray×Value)}(hd:o.dst=none)(hg:o.guard=none)(ho:o.op= .mapUpdate t x y z∨o.op= .insert t x y z)(hU:P.underlying t=some (.map kt e))(hk:P.underlying kt=some .string)(hx:ev E x=some (.map (some g)))(hy:ev E y=some (.string i))(hz:ev E z=some u)(hm:MpS w g m)
  (h:∀w',Only g w w'→MpS w' g (sset m i u)→WL P n ops Q rest E w'):WL P n ops Q (o::rest) E w:=by
 intro a ha;obtain⟨w',hr,h1,h2⟩:=run_mapUpdate_s (i:=i) (u:=u) hU hk hm;have hr:(execOp a.eval o).run P w= .ok .skip w':=by
  rcases ho with ho|ho<;>simp[execOp,ho,ha.ev hx,ha.ev hy,ha.ev hz,hr]
 refine wpList_plain hg fun K hK=> ?_;unfold Oper.wp;rw[hr];exact hK _ _ (by rw[hd];exact h w' h1 h2 _ ha)
end memory
def mps(g:Nat)(m:List (ByteArray×Value)):Res:=⟨fun b=>b=g,fun w=>MpS w g m,fun _ _ h e=>e▸h.lt,fun _ _ hb h=>h.of_block (hb g rfl)⟩
section
variable{P:Program}{n:Nat}{ops:Array Oper}{Q:Exit→Act→World→Prop}{E:Env}{W w w':World}{L L':List Res}{o:Oper}{rest:List Oper}{d:Nat}
theorem Hp.onlyS{k g:Nat}{m m':List (ByteArray×Value)}(H:Hp W w L)(p:Put (mps g m') k (mps g m) L L')(x:Only g w w')(h:MpS w' g m'):Hp W w' L':=
 H.putD p fun M K=>K.turn (Nat.le_of_eq x.size.symm) (fun b _ hb=>x.block b hb) (K.ext.only x (K.own _ List.mem_cons_self g rfl)) h fun b hb=>.inl hb
theorem mmS{t:TypeId}(H:Hp W w L)(h:∀g w',Hp W w' (mps g []::L)→WL P n ops Q rest ((d,.map (some g))::E) w')
  (hd:o.dst=some d:=by exact rfl) (hn:d<n:=by exact blt rfl) (hg:o.guard=none:=by exact rfl) (ho:o.op= .makeMap t none:=by exact rfl):WL P n ops Q (o::rest) E w:=
 WL.makeMapS hd hn hg ho fun g w' e x b=>h g w' (H.new x b fun b' hb=>by rw[show b'=g from hb,e];omega)
theorem muS{t kt e g:Nat}{x y z:Operand}{i:ByteArray}{u:Value}{m:List (ByteArray×Value)}(H:Hp W w L)(k:Nat)(hU:P.underlying t=some (.map kt e))(hK:P.underlying kt=some .string)(h:∀w',Hp W w' L'→WL P n ops Q rest E w')
  (hd:o.dst=none:=by exact rfl) (hg:o.guard=none:=by exact rfl) (ho:o.op= .mapUpdate t x y z∨o.op= .insert t x y z:=by first|exact .inl rfl|exact .inr rfl) (hx:ev E x=some (.map (some g)):=by exact rfl) (hy:ev E y=some (.string i):=by exact rfl) (hz:ev E z=some u:=by exact rfl)
  (hk:L[k]? =some (mps g m):=by exact rfl) (p:Put (mps g (sset m i u)) k (mps g m) L L':=by repeat (first|exact Put.here|apply Put.there)):WL P n ops Q (o::rest) E w:=
 WL.mapUpdateS hd hg ho hU hK hx hy hz (H.get hk) fun w' x b=>h w' (H.onlyS p x b)
theorem Hp.ms{g:Nat}{m:List (ByteArray×Value)}(H:Hp W w L)(k:Nat)(hk:L[k]? =some (mps g m):=by exact rfl):MpS w g m:=H.get hk
end
section
variable{P:Program}{n:Nat}{ops:Array Oper}{Q:Exit→Act→World→Prop}{E:Env}{W w:World}{L L':List Res}{o:Oper}{rest:List Oper}{d:Nat}
end
end Go.Eng
section
attribute [local irreducible] Go.Eng.WC Go.Eng.WL Go.Eng.WK Go.Eng.WQ Go.Eng.WX Go.Eng.Yld
namespace Go.Proofs.YtaclfjjipnpboaaGreatDoor
open Go Go.Eng Go.RowKit
namespace TW
theorem knw_any(c:Int)(w:World)(hc:cB c):
  Cr 175 #[.int .u8 c] w (.bool true):=by
 have H:=(Hp.nil w);refine Wb Tryz.func175 ?_;refine G5 ?_;refine yy (Yld.cast (Y.eql rfl rfl rfl) (vb (cB_9 hc))) ?_;refine G2 ?_;refine WL.yldW rfl (blt rfl) rfl rfl rfl (Yld.cast (Y.eql rfl rfl rfl) (vb (cB_10 hc))) ?_;refine yy (Y.pickF rfl rfl rfl) ?_;refine G2 ?_;refine WL.yldW rfl (blt rfl) rfl rfl rfl (Yld.cast (Y.geq rfl rfl rfl) (bt (by have:=hc.1;omega))) ?_;refine G2 ?_;refine WL.yldW rfl (blt rfl) rfl rfl rfl (Yld.cast (Y.leq rfl rfl rfl) (bt hc.2.1)) ?_;refine WL.yldW rfl (blt rfl) rfl rfl rfl (Y.pickT rfl rfl rfl) ?_;refine yy (Y.pickF rfl rfl rfl) ?_;refine go ?_;refine Rt [_] ?_;exact⟨rfl,H.ext⟩
theorem plain_any(x:ByteArray)(w:World)(hx:∀i,i<x.size→cB (bat x i))(hz:x.size≤40):
  Cr 143 #[.string x] w (.bool true):=by
 have H:=(Hp.nil w);refine Wb Tryz.func143 ?_;refine G6 ?_;refine yy (Y.lenStr rfl rfl rfl u9 rfl) ?_;refine go ?_;refine sb [6,0,5] ?_;refine WC.loopS 1 (fun mz Ed W'=>∃j:Nat,mz=x.size-j∧Ed=[(6,.int .i64 ((j:Nat):Int))]∧Hp w W' ([])∧(j≤x.size)) _ ⟨0,rfl,rfl,(H.pick []),(Nat.zero_le _)⟩ ?_;rintro _ _ z ⟨j,rfl,rfl,H,jl⟩;refine go ?_;refine Cd (fun p6=> ?_) fun p6=> ?_
 ·have b10:j<x.size:=Om;refine G11 ?_;refine yy (Y.indexStr j rfl u9 rfl rfl rfl b10) ?_;refine c1 H Fh (knw_any (bat x j) _ (hx j Om)) fun z H=> ?_;refine go ?_;refine WC.condF rfl ?_;refine go ?_;exact Rs [(6,_)] Sx ⟨(j+1),rfl,rfl,(H.pick []),Om⟩
 ·refine go ?_;refine Rt [_] ?_;exact⟨rfl,H.ext⟩
theorem ck1_any(x:ByteArray)(w:World)(hc:Cln x):
  Cr 144 #[.string x] w (.bool false):=by
 have H:=(Hp.nil w);refine Wb Tryz.func144 ?_;refine go ?_;refine c1 H Fh (plain_any x _ hc.2.2 hc.2.1) fun z H=> ?_;refine G3 ?_;refine sb [2] ?_;refine go ?_;refine Rt [_] ?_;exact⟨rfl,H.ext⟩
theorem ixfS_any(A_l:Option Addr)(n_l c_l:Nat)(l:List ByteArray)(f:FuncId)(cap:List Value)(pr:ByteArray→Bool)(w:World)(h_l:Ls w A_l n_l c_l sc 1 l)(hF:Has Tryz.prog f)(hp:∀k,k<l.length→∀w1,Ext w w1→Calls Tryz.prog f ([]++[Value.string l[k]!]++cap).toArray w1 fun e w2=>e= .returned (.bool (pr l[k]!))∧Ext w1 w2):
  Cr 156 #[.slice A_l n_l c_l,.func (.func f) #[] cap.toArray] w (.int .i64 (ixP pr l)):=by
 have H:=(Hp.nil w);have e_l:=h_l.len;have z_l:=h_l.nle;refine Wb Tryz.func156 ?_;refine go ?_;refine sb [8,0,1,7] ?_;refine WC.loopS 1 (fun mz Ed W'=>∃j:Nat,mz=n_l-j∧Ed=[(8,.int .i64 ((j:Nat):Int))]∧Hp w W' ([])∧(j≤n_l)∧(∀k,k<j→pr l[k]! =false)) _ ⟨0,rfl,rfl,(H.pick []),(Nat.zero_le _),(fun k h=>absurd h (Nat.not_lt_zero k))⟩ ?_;rintro _ _ z ⟨j,rfl,rfl,H,jl,hb⟩;refine go ?_;refine Cd (fun p6=> ?_) fun p6=> ?_
 ·have b10:j<n_l:=Om;refine go ?_;refine c1V rfl H hF (hp j Om _ H.ext) fun z H=> ?_;refine go ?_;refine WC.cond rfl (fun h11=> ?_) (fun h11=> ?_)
  ·refine go ?_;refine Rt [_] ?_;exact⟨ret1 (vi (ixP_at Om hb h11).symm),H.ext⟩
  ·refine go ?_;exact Rs [(8,_)] Sx ⟨(j+1),rfl,rfl,(H.pick []),Om,(fun k h=>(Nat.lt_succ_iff_lt_or_eq.1 h).elim (hb k) fun e=>e▸h11)⟩
 ·refine go ?_;refine Rt [_] ?_;exact⟨ret1 (vi (ixP_no (fun k hk=>hb k Om)).symm),H.ext⟩
theorem cfS_any(A_l:Option Addr)(n_l c_l:Nat)(l:List ByteArray)(f:FuncId)(cap:List Value)(pr:ByteArray→Bool)(w:World)(h_l:Ls w A_l n_l c_l sc 1 l)(hF:Has Tryz.prog f)(hp:∀k,k<l.length→∀w1,Ext w w1→Calls Tryz.prog f ([]++[Value.string l[k]!]++cap).toArray w1 fun e w2=>e= .returned (.bool (pr l[k]!))∧Ext w1 w2):
  Cr 116 #[.slice A_l n_l c_l,.func (.func f) #[] cap.toArray] w (.bool (decide (ixP pr l≥0))):=by
 have H:=(Hp.nil w);have e_l:=h_l.len;have z_l:=h_l.nle;refine Wb Tryz.func116 ?_;refine G3 ?_;refine sb [0,1] ?_;refine go ?_;refine c1 H Fh (ixfS_any _ _ _ _ f cap pr _ (h_l.ext H.ext) hF (fun k hk w1 x1=>hp k hk w1 (H.ext.trans x1))) fun z H=> ?_;refine go ?_;refine Rt [_] ?_;exact⟨rfl,H.ext⟩
theorem ixP_nn{α:Type}[Inhabited α]{pr:α→Bool}{l:List α}(h:∀k,k<l.length→pr l[k]! =false):decide (ixP pr l≥0)=false:=by rw[ixP_no h];rfl
theorem sget_map{l:List ByteArray}{k:ByteArray}(h:k∉l):sget (l.map fun k=>(k,Value.bool true)) k=none:=by
 cases e:sget (l.map fun k=>(k,Value.bool true)) k with
 |none=>rfl
 |some v=>
  exfalso
  induction l with
  |nil=>cases e
  |cons x r ih=>
   rw[List.mem_cons,not_or]at h;rw[List.map_cons]at e;unfold sget at e;split at e
   ·rename_i q;exact h.1 q
   ·exact ih h.2 e
theorem nodup_at{l:List ByteArray}(h:l.Nodup){j:Nat}(hj:j<l.length):l[j]!∉l.take j:=fun hm=>by
 rw[←List.take_append_drop j l]at h;refine(List.nodup_append.1 h).2.2 _ hm _ ?_ rfl;rw[drop_bang hj];exact List.mem_cons_self
theorem rep_any(A_l:Option Addr)(n_l c_l:Nat)(l:List ByteArray)(w:World)(h_l:Ls w A_l n_l c_l sc 1 l)(hd:l.Nodup):
  Cr 145 #[.slice A_l n_l c_l] w (.bool false):=by
 have H:=(Hp.nil w);have e_l:=h_l.len;have z_l:=h_l.nle;refine Wb Tryz.func145 ?_;refine G4 ?_;refine mmS H fun g3 z H=> ?_;refine go ?_;refine sb [9,3,7,8] ?_;refine WC.loopS 1 (fun mz Ed W'=>∃j:Nat,mz=n_l-j∧Ed=[(9,.int .i64 ((j:Nat):Int))]∧Hp w W' (mps g3 ((l.take j).map fun k=>(k,Value.bool true))::[])∧(j≤n_l)) _ ⟨0,rfl,rfl,(H.pick [0]),(Nat.zero_le _)⟩ ?_;rintro _ _ z ⟨j,rfl,rfl,H,jl⟩;refine go ?_;refine Cd (fun p9=> ?_) fun p9=> ?_
 ·have b12:j<n_l:=Om;refine G13 ?_;refine yy (Yld.cast (Y.lookupS rfl u275 u9 ti4 rfl rfl (fun _ h=>h▸(H.ms 0))) (show sval ((l.take j).map fun k=>(k,Value.bool true)) l[j]! (.bool false)= .bool false from by unfold sval;rw[sget_map (nodup_at hd Om)];rfl)) ?_;refine go ?_;refine WC.condF rfl ?_;refine G5 ?_;refine muS H 0 u275 u9 fun z H=> ?_;refine go ?_;exact Rs [(9,_)] Sx ⟨(j+1),rfl,rfl,(by rw[take_bang (show j<l.length from Om),List.map_append,show List.map (fun k=>(k,Value.bool true)) [l[j]!]=[(l[j]!,Value.bool true)]from rfl,←sset_none _ _ _ (sget_map (nodup_at hd Om))];exact(H.pick [0])),Om⟩
 ·refine go ?_;refine Rt [_] ?_;exact⟨rfl,H.ext⟩
theorem fields_any(u:J)(d:Nat)(w:World)(g_u:Gm w u)(vd:Vd d u):
  Cr 141 #[.agg #[.int .i64 u.op,.int .i64 u.n,.string u.s,.slice u.A u.k u.c,.slice u.B u.m u.d]] w (.bool true):=by
 have H:=(Hp.nil w);have e_k:=g_u.a.len;have e_b:=g_u.b.len;have z_b:=g_u.b.nle;have z_k:=g_u.a.nle;obtain⟨d,rfl⟩:=vd.pos;refine Wb Tryz.func141 ?_;refine go ?_;refine bx H fun g2 z H=> ?_;refine G9 ?_;rcases vd with⟨ho,hn,hs,hk,hq⟩|⟨ho,hn,hs,hk,hq⟩|⟨ho,hn,hs,hk,hq⟩|⟨ho,hn,hs,hk,hkk,hq⟩
 ·have ek:u.k=0:=by rw[←e_k,hk];rfl
  have eb:u.m=0:=by rw[←e_b,hq];rfl
  refine yy (Yld.cast (Y.eql rfl rfl rfl) (vb (beq_no (by rw[ho];decide)))) ?_;refine go ?_;refine WC.condF rfl ?_;refine G2 ?_;refine yy (Yld.cast (Y.eql rfl rfl rfl) (vb (beq_no (by rw[ho];decide)))) ?_;refine go ?_;refine WC.condF rfl ?_;refine G1 ?_;refine yy (Yld.cast (Y.eql rfl rfl rfl) (vb (beq_yes ho))) ?_;refine go ?_;refine WC.condT rfl ?_;refine G3 ?_;refine yy (Yld.cast (Y.eqlStr rfl rfl rfl) (vb (str_yes hs))) ?_;refine G3 ?_;refine WL.yldW rfl (blt rfl) rfl rfl rfl (Y.lenSl rfl rfl rfl u63 rfl) ?_;refine G2 ?_;refine WL.yldW rfl (blt rfl) rfl rfl rfl (Y.lenSl rfl rfl rfl u64 rfl) ?_;refine WL.yldW rfl (blt rfl) rfl rfl rfl (Y.add rfl rfl rfl Wo) ?_;refine WL.yldW rfl (blt rfl) rfl rfl rfl (Yld.cast (Y.eql rfl rfl rfl) (vb (beq_yes Om))) ?_;refine yy (Y.pickT rfl rfl rfl) ?_;refine go ?_;refine Rt [_] ?_;exact⟨rfl,H.ext⟩
 ·have ek:u.k=0:=by rw[←e_k,hk];rfl
  have eb:u.m=0:=by rw[←e_b,hq];rfl
  refine yy (Yld.cast (Y.eql rfl rfl rfl) (vb (beq_no (by rw[ho];decide)))) ?_;refine go ?_;refine WC.condF rfl ?_;refine G2 ?_;refine yy (Yld.cast (Y.eql rfl rfl rfl) (vb (beq_no (by rw[ho];decide)))) ?_;refine go ?_;refine WC.condF rfl ?_;refine G1 ?_;refine yy (Yld.cast (Y.eql rfl rfl rfl) (vb (beq_no (by rw[ho];decide)))) ?_;refine G2 ?_;refine sb [1,4,25] ?_;refine WC.condF rfl ?_;refine G1 ?_;refine yy (Yld.cast (Y.eql rfl rfl rfl) (vb (beq_yes ho))) ?_;refine go ?_;refine WC.condT rfl ?_;refine G3 ?_;refine yy (Yld.cast (Y.eql rfl rfl rfl) (vb (beq_yes hn))) ?_;refine G3 ?_;refine WL.yldW rfl (blt rfl) rfl rfl rfl (Y.lenSl rfl rfl rfl u63 rfl) ?_;refine G2 ?_;refine WL.yldW rfl (blt rfl) rfl rfl rfl (Y.lenSl rfl rfl rfl u64 rfl) ?_;refine WL.yldW rfl (blt rfl) rfl rfl rfl (Y.add rfl rfl rfl Wo) ?_;refine WL.yldW rfl (blt rfl) rfl rfl rfl (Yld.cast (Y.eql rfl rfl rfl) (vb (beq_yes Om))) ?_;refine yy (Y.pickT rfl rfl rfl) ?_;refine go ?_;refine Rt [_] ?_;exact⟨rfl,H.ext⟩
 ·have ek:u.k=0:=by rw[←e_k,hk];rfl
  refine yy (Yld.cast (Y.eql rfl rfl rfl) (vb (beq_no (by rw[ho];decide)))) ?_;refine go ?_;refine WC.condF rfl ?_;refine G2 ?_;refine yy (Yld.cast (Y.eql rfl rfl rfl) (vb (beq_no (by rw[ho];decide)))) ?_;refine go ?_;refine WC.condF rfl ?_;refine G1 ?_;refine yy (Yld.cast (Y.eql rfl rfl rfl) (vb (beq_no (by rw[ho];decide)))) ?_;refine go ?_;refine WC.condF rfl ?_;refine G1 ?_;refine yy (Yld.cast (Y.eql rfl rfl rfl) (vb (beq_no (by rw[ho];decide)))) ?_;refine go ?_;refine WC.condF rfl ?_;refine G1 ?_;refine yy (Yld.cast (Y.eql rfl rfl rfl) (vb (beq_yes ho))) ?_;refine go ?_;refine WC.condT rfl ?_;refine G3 ?_;refine yy (Yld.cast (Y.eql rfl rfl rfl) (vb (beq_yes hn))) ?_;refine G3 ?_;refine WL.yldW rfl (blt rfl) rfl rfl rfl (Yld.cast (Y.eqlStr rfl rfl rfl) (vb (str_yes hs))) ?_;refine yy (Y.pickT rfl rfl rfl) ?_;refine G3 ?_;refine WL.yldW rfl (blt rfl) rfl rfl rfl (Y.lenSl rfl rfl rfl u63 rfl) ?_;refine WL.yldW rfl (blt rfl) rfl rfl rfl (Yld.cast (Y.eql rfl rfl rfl) (vb (beq_yes Om))) ?_;refine yy (Y.pickT rfl rfl rfl) ?_;refine G2 ?_;refine sb [2] ?_;refine go ?_;refine Rt [_] ?_;exact⟨rfl,H.ext⟩
 ·refine yy (Yld.cast (Y.eql rfl rfl rfl) (vb (beq_no (by rw[ho];decide)))) ?_;refine go ?_;refine WC.condF rfl ?_;refine G2 ?_;refine yy (Yld.cast (Y.eql rfl rfl rfl) (vb (beq_no (by rw[ho];decide)))) ?_;refine go ?_;refine WC.condF rfl ?_;refine G1 ?_;refine yy (Yld.cast (Y.eql rfl rfl rfl) (vb (beq_no (by rw[ho];decide)))) ?_;refine go ?_;refine WC.condF rfl ?_;refine G1 ?_;refine yy (Yld.cast (Y.eql rfl rfl rfl) (vb (beq_no (by rw[ho];decide)))) ?_;refine go ?_;refine WC.condF rfl ?_;refine G1 ?_;refine yy (Yld.cast (Y.eql rfl rfl rfl) (vb (beq_no (by rw[ho];decide)))) ?_;refine go ?_;refine WC.condF rfl ?_;refine G1 ?_;refine yy (Yld.cast (Y.eql rfl rfl rfl) (vb (beq_yes ho))) ?_;refine go ?_;refine WC.condT rfl ?_;refine G3 ?_;refine yy (Yld.cast (Y.eql rfl rfl rfl) (vb (beq_yes hn))) ?_;refine G3 ?_;refine WL.yldW rfl (blt rfl) rfl rfl rfl (Yld.cast (Y.eqlStr rfl rfl rfl) (vb (str_yes hs))) ?_;refine yy (Y.pickT rfl rfl rfl) ?_;refine G3 ?_;refine WL.yldW rfl (blt rfl) rfl rfl rfl (Y.lenSl rfl rfl rfl u63 rfl) ?_;refine G2 ?_;refine WL.yldW rfl (blt rfl) rfl rfl rfl (Y.lenSl rfl rfl rfl u64 rfl) ?_;refine WL.yldW rfl (blt rfl) rfl rfl rfl (Yld.cast (Y.eql rfl rfl rfl) (vb (beq_yes Om))) ?_;refine yy (Y.pickT rfl rfl rfl) ?_;refine go ?_;refine Rt [_] ?_;exact⟨rfl,H.ext⟩
theorem cfS_no(A_l:Option Addr)(n_l c_l:Nat)(l:List ByteArray)(f:FuncId)(cap:List Value)(w:World)(h_l:Ls w A_l n_l c_l sc 1 l)(hF:Has Tryz.prog f)(hp:∀k,k<l.length→∀w1,Ext w w1→Calls Tryz.prog f ([]++[Value.string l[k]!]++cap).toArray w1 fun e w2=>e= .returned (.bool false)∧Ext w1 w2):
  Cr 116 #[.slice A_l n_l c_l,.func (.func f) #[] cap.toArray] w (.bool false):=
 (cfS_any A_l n_l c_l l f cap (fun _=>false) w h_l hF hp).mono fun e w' ⟨he,x⟩=>⟨he.trans (ret1 (vb (ixP_nn fun _ _=>rfl))),x⟩
def ChP(u:J):Prop:=∀(lv:Int) (d:Nat) (w:World),Gm w u→Vd d u→0≤lv∧lv+d≤17→Cr 100 #[.agg #[.int .i64 u.op,.int .i64 u.n,.string u.s,.slice u.A u.k u.c,.slice u.B u.m u.d],.int .i64 lv] w (.int .i64 0)
theorem check_step(u:J)(ih:∀y∈u.kids,ChP y)(lv:Int)(d:Nat)(w:World)(g_u:Gm w u)(vd:Vd d u)(hl:0≤lv∧lv+d≤17):
  Cr 100 #[.agg #[.int .i64 u.op,.int .i64 u.n,.string u.s,.slice u.A u.k u.c,.slice u.B u.m u.d],.int .i64 lv] w (.int .i64 0):=by
 have H:=(Hp.nil w);have e_k:=g_u.a.len;have e_b:=g_u.b.len;have z_b:=g_u.b.nle;have z_k:=g_u.a.nle;obtain⟨d,rfl⟩:=vd.pos;obtain⟨p1,p2,p3,p4,p5,p6⟩:=vd.parts;refine Wb Tryz.func100 ?_;refine go ?_;refine bx H fun g2 z H=> ?_;refine G2 ?_;refine sb [1,2] ?_;refine go ?_;refine c1 H Fh (fields_any u (d+1) _ (g_u.ext H.ext) vd) fun z H=> ?_;refine go ?_;refine WC.condF rfl ?_;refine G4 ?_;refine yy (Yld.cast (Y.eql rfl rfl rfl) (vb (beq_no p5))) ?_;refine G4 ?_;refine yy (Y.pickF rfl rfl rfl) ?_;refine G4 ?_;refine yy (Y.pickF rfl rfl rfl) ?_;refine go ?_;refine WC.condF rfl ?_;refine G7 ?_;refine WL.callG rfl (blt rfl) rfl rfl rfl rfl rfl Fh (fun hb=>(evs_cons (evg rfl hb) evs_nil)) (fun hb=>inI_any u.n _) (fun z x=> ?_);have H:=H.ex x;refine G1 ?_;refine yy (Yld.cast (Y.and rfl rfl rfl rfl) (vb (by cases q:(u.op==3)with|false=>rfl|true=>have r:=p6 (eq_t q);rw[decide_eq_true r.1,decide_eq_true r.2];rfl))) ?_;refine go ?_;refine WC.condF rfl ?_;refine go ?_;refine c1 H Fh (plain_any u.s _ p1 p2) fun z H=> ?_;refine go ?_;refine WC.condF rfl ?_;refine go ?_;refine c1 H Fh (cfS_no _ _ _ u.ks 144 [] _ (g_u.ext H.ext).a Fh (fun k hk w1 _=>ck1_any u.ks[k]! w1 (p3 _ (mem_b hk)))) fun z H=> ?_;refine G2 ?_;refine sb [1,2,35] ?_;refine WC.condF rfl ?_;refine go ?_;refine c1 H Fh (rep_any _ _ _ u.ks _ (g_u.ext H.ext).a p4) fun z H=> ?_;refine go ?_;refine WC.condF rfl ?_;refine G7 ?_;refine yy (Yld.cast (Y.and rfl rfl rfl rfl) (vb (by rw[show decide (16<lv)=false from decide_eq_false Om,Bool.and_false]))) ?_;refine go ?_;refine WC.condF rfl ?_;refine go ?_;refine sb [58,1,56,57] ?_;refine WC.loopS 1 (fun mz Ed W'=>∃j:Nat,mz=u.m-j∧Ed=[(58,.int .i64 ((j:Nat):Int))]∧Hp w W' (_::[])∧(j≤u.m)) _ ⟨0,rfl,rfl,(H.pick [0]),(Nat.zero_le _)⟩ ?_;rintro _ _ z ⟨j,rfl,rfl,H,jl⟩;refine go ?_;refine Cd (fun p16=> ?_) fun p16=> ?_
 ·have b19:j<u.m:=Om;refine G5 ?_;refine yy (Y.indexLs j (g_u.ext H.ext).b rfl u64 ti66 rfl rfl rfl b19) ?_;refine yy (Y.loadS (cs:=[_,_,_,_,_]) rfl u66 rfl ti66 rfl (Ls.part_eq (g_u.ext H.ext).b b19 rfl)) ?_;refine al H ti66 fun g20 z H=> ?_;refine st H 0 ti66 fun z H=> ?_;refine go ?_;refine c1 H Fh (ih _ (mem_b (show j<u.kids.length from Om)) (lv+1) d _ ((g_u.kid (show j<u.kids.length from Om)).ext H.ext) (vd.kid (mem_b (show j<u.kids.length from Om))) Om) fun z H=> ?_;refine G4 ?_;refine yy (Yld.cast (Y.neq rfl rfl rfl) (vb rfl)) ?_;refine go ?_;refine WC.condF rfl ?_;refine go ?_;exact Rs [(58,_)] Sx ⟨(j+1),rfl,rfl,(H.pick [1]),Om⟩
 ·refine go ?_;refine Rt [_] ?_;exact⟨rfl,H.ext⟩
theorem check_any:∀x,ChP x:=J.ind check_step
theorem Check_any(u:J)(d:Nat)(w:World)(g_u:Gm w u)(vd:Vd d u)(hd:d≤16):
  Cr 53 #[.agg #[.int .i64 u.op,.int .i64 u.n,.string u.s,.slice u.A u.k u.c,.slice u.B u.m u.d]] w (.int .i64 0):=by
 have H:=(Hp.nil w);have e_k:=g_u.a.len;have e_b:=g_u.b.len;have z_b:=g_u.b.nle;have z_k:=g_u.a.nle;refine Wb Tryz.func53 ?_;refine go ?_;refine bx H fun g2 z H=> ?_;refine go ?_;refine c1 H Fh (check_any u 1 d _ (g_u.ext H.ext) vd Om) fun z H=> ?_;refine G2 ?_;refine sb [2] ?_;refine go ?_;refine Rt [_] ?_;exact⟨rfl,H.ext⟩
theorem Print_any(u:J)(d:Nat)(w:World)(g_u:Gm w u)(vd:Vd d u)(hT:Tabs w)(hd:d≤16)(ho:5≤u.op)(hm:(pr u).length≤800000):
  Cr 17 #[.agg #[.int .i64 u.op,.int .i64 u.n,.string u.s,.slice u.A u.k u.c,.slice u.B u.m u.d]] w (.tuple #[.string ⟨(pr u).toArray⟩,.int .i64 0]):=by
 have H:=(Hp.nil w);have e_k:=g_u.a.len;have e_b:=g_u.b.len;have z_b:=g_u.b.nle;have z_k:=g_u.a.nle;refine Wb Tryz.func17 ?_;refine go ?_;refine bx H fun g2 z H=> ?_;refine go ?_;refine c1 H Fh (Check_any u d _ (g_u.ext H.ext) vd hd) fun z H=> ?_;refine G4 ?_;refine yy (Yld.cast (Y.neq rfl rfl rfl) (vb rfl)) ?_;refine go ?_;refine WC.condF rfl ?_;refine go ?_;refine al H ti149 fun g8 z H=> ?_;have H:=H.nilRow 5 yc 1;refine go ?_;refine c3 Fh (print_any u _ false _ [] d _ _ _ (H.front [1,0]) hT g_u vd (.inr ho) (by rw[List.length_nil];omega)) ?_;rintro _ z ⟨v12,rfl,H⟩;refine⟨_,rfl,?_⟩;refine go ?_;refine c3 Fh (bs_any _ true _ (pr u) _ _ _ (H.front [0,0]) (pr_ne vd ho)) ?_;rintro _ z ⟨rfl,H⟩;refine⟨_,rfl,?_⟩;refine go ?_;refine Rt [_,_] ?_;exact⟨rfl,H.ext⟩
theorem here_any(g:Nat)(s:ByteArray)(i:Nat)(w:World)(hg:Blk w g 157 [.string s,.int .i64 ((i:Nat):Int)])(hz:s.size≤100000):
  Cr 110 #[.pointer (some ⟨g,0,none⟩)] w (.int .u8 (hF s i)):=by
 have H:=(Hp.nil w);refine Wb Tryz.func110 ?_;refine go ?_;refine Qr ?_;refine G8 ?_;refine yq (Y.lenStr rfl rfl rfl u9 rfl) ?_;refine go ?_;refine Qd H fun z H=> ?_;refine go ?_;refine Cd (fun p4=> ?_) fun p4=> ?_
 ·refine go ?_;refine Rt [_] ?_;exact⟨ret1 (vi (show _=hF s i from(if_neg (by have:=p4;omega)).symm)),H.ext⟩
 ·refine go ?_;refine Qr ?_;have b7:i<s.size:=Om;refine G8 ?_;refine yq (Y.indexStr i rfl u9 rfl rfl rfl b7) ?_;refine go ?_;refine Qd H fun z H=> ?_;refine go ?_;refine Rt [_] ?_;exact⟨ret1 (vi (show _=hF s i from(if_pos (by have:=p4;omega)).symm)),H.ext⟩
def ixQ(c:Int):Int:=Lib.indexByte [32,9,10,13] c.toNat.toUInt8
theorem ixQ_all:∀c:Fin 256,33≤c.val→Lib.indexByte [32,9,10,13] c.val.toUInt8<0:=by decide+kernel
theorem ixQ_no{c:Int}(h:33≤c)(h2:c≤255):decide (0≤ixQ c)=false:=decide_eq_false (by
 have:=ixQ_all ⟨c.toNat,Om⟩ (by show 33≤c.toNat;omega);unfold ixQ;simp only at this;omega)
theorem ixw_any(c:Int)(w:World):Cr 109 #[.string ⟨#[32,9,10,13]⟩,.int .u8 c] w (.int .i64 (ixQ c)):=
 (Go.Proofs.Any.strings_IndexByte Tryz.lays109 ⟨#[32,9,10,13]⟩ c w).mono fun e w' ⟨he,hw⟩=>⟨he,by subst hw;exact Ext.refl _⟩
theorem peek_any(g:Nat)(s:ByteArray)(i:Nat)(w:World)(hg:Blk w g 157 [.string s,.int .i64 ((i:Nat):Int)])(hz:s.size≤100000)(hw:i<s.size→33≤bat s i):
  Cr 58 #[.pointer (some ⟨g,0,none⟩)] w (.int .u8 (hF s i)):=by
 have H:=(Hp.nil w);refine Wb Tryz.func58 ?_;refine go ?_;refine sb [0] ?_;refine WC.loopS 0 (fun mz Ed W'=>mz=0∧Ed=[]∧Hp w W' ([])) _ ⟨rfl,rfl,(H.pick [])⟩ ?_;rintro _ _ z ⟨rfl,rfl,H⟩;refine go ?_;refine Qr ?_;refine G8 ?_;refine yq (Y.lenStr rfl rfl rfl u9 rfl) ?_;refine G10 ?_;refine qg (fun hb=>Y.indexStr i rfl u9 (evg rfl hb) (evg rfl hb) rfl (by have q0:=(dec_t hb);omega)) ?_;refine WQ.callG rfl (blt rfl) rfl rfl rfl rfl rfl Fh (fun hb=>(evs_cons rfl (evs_cons (evg rfl hb) evs_nil))) (fun hb w hw=>calls_ext hw (ixw_any (bat s i) _)) ?_;refine G1 ?_;refine yq (Yld.cast (Y.and rfl rfl rfl rfl) (vb (show _=false from by by_cases q:i<s.size<;>simp[ixQ_no,hw,q,(bat_rng s i).2]))) ?_;refine Qd H fun z H=> ?_;refine go ?_;refine WC.condF rfl ?_;refine go ?_;refine c1 H Fh (here_any g s i _ (hg.ext H.ext) hz) fun z H=> ?_;refine go ?_;refine Rt [_] ?_;exact⟨rfl,H.ext⟩
theorem take_any(g:Nat)(s:ByteArray)(i:Nat)(c:Int)(W:World)(R:List Res)(w:World)(H:Hp W w (box g 157 [.string s,.int .i64 ((i:Nat):Int)]::R))(hz:s.size≤100000)(hi:i<s.size)(hc:bat s i=c):
  Calls Tryz.prog 147 #[.pointer (some ⟨g,0,none⟩),.int .u8 c] w fun e w'=>e= .returned (resVal [])∧Hp W w' (box g 157 [.string s,.int .i64 ((i+1:Nat):Int)]::R):=by
 refine Wb Tryz.func147 ?_;refine go ?_;refine Qr ?_;refine G8 ?_;refine yq (Y.lenStr rfl rfl rfl u9 rfl) ?_;refine G10 ?_;refine qg (fun hb=>Y.indexStr i rfl u9 (evg rfl hb) (evg rfl hb) rfl (by have q0:=(dec_f hb);omega)) ?_;refine G2 ?_;refine yq (Yld.cast (Y.or rfl rfl rfl rfl) (vb (show _=false from by simp[hc];omega))) ?_;refine Qd H fun z H=> ?_;refine go ?_;refine WC.condF rfl ?_;refine G7 ?_;refine yy (Yld.cast (Y.add rfl rfl rfl Wo) (vi (show(((i):Nat):Int)+1=((i+1:Nat):Int)from rfl))) ?_;refine go ?_;refine st H 0 ti3 fun z H=> ?_;refine go ?_;refine En ?_;exact⟨rfl,H⟩
theorem next_any(g:Nat)(s:ByteArray)(i:Nat)(en:Int)(b:Bool)(W:World)(R:List Res)(w:World)(H:Hp W w (box g 157 [.string s,.int .i64 ((i:Nat):Int)]::R))(hz:s.size≤100000)(hi:i<s.size)(h33:33≤en)(hb:(b=true∧bat s i=44)∨(b=false∧bat s i=en∧en≠44)):
  Calls Tryz.prog 149 #[.pointer (some ⟨g,0,none⟩),.int .u8 en] w fun e w'=>e= .returned (.bool b)∧Hp W w' (box g 157 [.string s,.int .i64 ((i+1:Nat):Int)]::R):=by
 refine Wb Tryz.func149 ?_;refine go ?_;refine c1 H Fh (peek_any g s i _ (H.b 0) hz (fun _=>by rcases hb with⟨_,h⟩|⟨_,h,_⟩<;>omega)) fun z H=> ?_;rcases hb with⟨rfl,hc⟩|⟨rfl,hc,hne⟩
 ·refine yy (Yld.cast (Y.eql rfl rfl rfl) (vb (beq_yes (hF_in hi▸hc)))) ?_;refine go ?_;refine WC.condT rfl ?_;refine G5 ?_;refine yy (Yld.cast (Y.add rfl rfl rfl Wo) (vi (show(((i):Nat):Int)+1=((i+1:Nat):Int)from rfl))) ?_;refine go ?_;refine st H 0 ti3 fun z H=> ?_;refine go ?_;refine Rt [_] ?_;exact⟨rfl,H⟩
 ·refine yy (Yld.cast (Y.eql rfl rfl rfl) (vb (beq_no (hF_in hi▸Om)))) ?_;refine G1 ?_;refine sb [0,1,7] ?_;refine WC.condF rfl ?_;refine go ?_;refine c3 Fh (take_any _ s i en _ _ _ (H.front [0]) hz hi hc) ?_;rintro _ z ⟨rfl,H⟩;refine⟨_,rfl,?_⟩;refine go ?_;refine Rt [_] ?_;exact⟨rfl,H⟩
theorem text2_any(g:Nat)(s:ByteArray)(i:Nat)(x:ByteArray)(r:List UInt8)(W:World)(R:List Res)(w:World)(H:Hp W w (box g 157 [.string s,.int .i64 ((i:Nat):Int)]::R))(hz:s.size≤100000)(hc:Cln x)(ha:At s i (34::x.data.toList++[34]) r):
  Calls Tryz.prog 105 #[.pointer (some ⟨g,0,none⟩)] w fun e w'=>e= .returned (.string x)∧Hp W w' (box g 157 [.string s,.int .i64 ((i+(x.size+2):Nat):Int)]::R):=by
 have hx:=hc.2.1;have h34:=ha.b0;refine Wb Tryz.func105 ?_;refine go ?_;refine c3 Fh (take_any _ s i 34 _ _ _ (H.front [0]) hz h34.1 h34.2) ?_;rintro _ z ⟨rfl,H⟩;refine⟨_,rfl,?_⟩;refine go ?_;refine al H ti149 fun g6 z H=> ?_;have H:=H.nilRow 5 yc 1;refine go ?_;refine sb [0,3] ?_;refine WC.loopS 0 (fun mz Ed W'=>∃j:Nat,∃qb:Bool,∃u:Value,mz=x.size-j∧Ed=[]∧Hp W W' (box g6 149 [bA g6 qb,u]::row 5 yc 1 u (x.data.toList.take j)::box g 157 [.string s,.int .i64 ((i+1+j:Nat):Int)]::R)∧(j≤x.size)) _ ⟨0,false,_,rfl,rfl,(H.front [1,0,0]),(Nat.zero_le _)⟩ ?_;rintro _ _ z ⟨j,qb,u,rfl,rfl,H,jl⟩;refine go ?_;refine c1 H Fh (here_any g s (i+1+j) _ (H.b 2) hz) fun z H=> ?_;refine G6 ?_;rcases Nat.lt_or_eq_of_le jl with q|q
 ·have hv:=ha.q_in q;have hcb:=hc.2.2 j q;refine yy (Yld.cast (Y.lss rfl rfl rfl) (bf (by have:=hcb.1;omega))) ?_;refine G2 ?_;refine WL.yldW rfl (blt rfl) rfl rfl rfl (Yld.cast (Y.gtr rfl rfl rfl) (bf (by have:=hcb.2.1;omega))) ?_;refine yy (Y.pickF rfl rfl rfl) ?_;refine go ?_;refine WC.condF rfl ?_;refine G2 ?_;refine yy (Yld.cast (Y.eql rfl rfl rfl) (vb (hv▸cB_34 hcb))) ?_;refine go ?_;refine WC.condF rfl ?_;refine G2 ?_;refine yy (Yld.cast (Y.eql rfl rfl rfl) (vb (hv▸cB_92 hcb))) ?_;refine go ?_;refine WC.condF rfl ?_;refine G5 ?_;refine yy (Yld.cast (Y.add rfl rfl rfl Wo) (vi (show((i+1+j:Nat):Int)+1=((i+1+j+1:Nat):Int)from rfl))) ?_;refine go ?_;refine st H 2 ti3 fun z H=> ?_;refine go ?_;refine c3 Fh (wb_any _ _ _ _ _ (x.data.toList[j]!) _ _ _ (H.front [0,0]) hv (by(try simp only[List.length_append,List.length_cons,List.length_nil,List.length_take,toL_len]);omega)) ?_;rintro _ z ⟨v14,rfl,H⟩;refine⟨_,rfl,?_⟩;refine go ?_;exact Rs [] Sx ⟨(j+1),true,v14,rfl,rfl,(by rw[take_toL Om];exact H),Om⟩
 ·have hv:hF s (i+1+j)=34:=by rw[q];exact ha.q_out
  have h0:=hc.1;refine yy (Yld.cast (Y.lss rfl rfl rfl) (bf Om)) ?_;refine G2 ?_;refine WL.yldW rfl (blt rfl) rfl rfl rfl (Yld.cast (Y.gtr rfl rfl rfl) (bf Om)) ?_;refine yy (Y.pickF rfl rfl rfl) ?_;refine go ?_;refine WC.condF rfl ?_;refine G2 ?_;refine yy (Yld.cast (Y.eql rfl rfl rfl) (vb (beq_yes hv))) ?_;refine G2 ?_;refine sb [0,3,4,28] ?_;refine WC.condT rfl ?_;refine G5 ?_;refine yy (Yld.cast (Y.add rfl rfl rfl Wo) (vi (show((i+1+j:Nat):Int)+1=((i+1+j+1:Nat):Int)from rfl))) ?_;refine go ?_;refine st H 2 ti3 fun z H=> ?_;refine go ?_;refine c3 Fh (bs_any _ _ _ (x.data.toList.take j) _ _ _ (H.front [0,0]) (by intro e;have e2:=congrArg List.length e;rw[List.length_take,toL_len,List.length_nil]at e2;omega)) ?_;rintro _ z ⟨rfl,H⟩;refine⟨_,rfl,?_⟩;refine go ?_;refine Rt [_] ?_;exact⟨(by rw[take_all (show x.size≤j by omega),bl_of];rfl),(by rw[show i+(x.size+2)=i+1+j+1 from Om];exact H)⟩
theorem num2_any(g:Nat)(s:ByteArray)(i:Nat)(n:Int)(r:List UInt8)(W:World)(R:List Res)(w:World)(H:Hp W w (box g 157 [.string s,.int .i64 ((i:Nat):Int)]::R))(hz:s.size≤100000)(hn: -1000000000000000≤n∧n≤1000000000000000)(hT:Tabs W)(ha:At s i (Lib.itoa n) r)(hr:Nd r):
  Calls Tryz.prog 108 #[.pointer (some ⟨g,0,none⟩)] w fun e w'=>e= .returned (.agg #[.int .i64 3,.int .i64 n,.string ⟨#[]⟩,.slice none 0 0,.slice none 0 0])∧Hp W w' (box g 157 [.string s,.int .i64 ((i+(Lib.itoa n).length:Nat):Int)]::R):=by
 have hi:=nu_lt ha;refine Wb Tryz.func108 ?_;refine go ?_;refine al H ti66 fun g4 z H=> ?_;refine G8 ?_;refine sb [0,2,3] ?_;refine jI (fun Ed w'=>Ed=[]∧Hp W w' (box g 157 [.string s,.int .i64 ((i+(sgn n).length:Nat):Int)]::box g4 66 [.int .i64 0,.int .i64 0,.string ⟨#[]⟩,.slice none 0 0,.slice none 0 0]::R)) ?_ ?_
 ·refine go ?_;refine c1 H Fh (here_any g s i _ (H.b 1) hz) fun z H=> ?_;rcases Int.lt_or_le n 0 with hneg|hneg
  ·have b0:=nu_neg ha hneg;refine yy (Yld.cast (Y.eql rfl rfl rfl) (vb (beq_yes b0))) ?_;refine go ?_;refine WC.condT rfl ?_;refine G5 ?_;refine yy (Yld.cast (Y.add rfl rfl rfl Wo) (vi (show(((i):Nat):Int)+1=((i+1:Nat):Int)from rfl))) ?_;refine go ?_;refine st H 1 ti3 fun z H=> ?_;refine G1 ?_;exact kI [] Sx ⟨rfl,(by rw[show i+(sgn n).length=i+1 from by rw[sg_neg hneg]];exact(H.front [1,0]))⟩
  ·have b0:=nu_pos ha hneg;refine yy (Yld.cast (Y.eql rfl rfl rfl) (vb (beq_no b0))) ?_;refine go ?_;refine WC.condF rfl ?_;refine G1 ?_;exact kI [] Sx ⟨rfl,(by rw[show i+(sgn n).length=i from by rw[sg_pos hneg];rfl];exact(H.front [1,0]))⟩
 ·rintro _ z ⟨rfl,H⟩;obtain⟨F,hF_,hd0⟩:∃F,i+(sgn n).length=F∧At s F (Lib.decDigits n.natAbs) r:=⟨_,rfl,nu_dig ha⟩;rw[hF_]at H;have dl:=List.length_pos_iff.2 (dec_ne n.natAbs);have dz:F+(Lib.decDigits n.natAbs).length≤s.size:=by have q:=hd0.lt (j:=(Lib.decDigits n.natAbs).length-1) Om;omega
  refine G7 ?_;refine sb [0,2,3,4] ?_;refine jI (fun Ed w'=>Ed=[]∧Hp W w' (box g 157 [.string s,.int .i64 ((F+(Lib.decDigits n.natAbs).length:Nat):Int)]::box g4 66 [.int .i64 0,.int .i64 0,.string ⟨#[]⟩,.slice none 0 0,.slice none 0 0]::R)) ?_ ?_
  ·refine go ?_;refine c1 H Fh (here_any g s F _ (H.b 0) hz) fun z H=> ?_;refine go ?_;refine sb [5,0,2,3,4] ?_;refine WC.loopS 1 (fun mz Ed W'=>∃k:Nat,mz=(Lib.decDigits n.natAbs).length-k∧Ed=[(5,.int .u8 (hF s (F+k)))]∧Hp W W' (box g 157 [.string s,.int .i64 ((F+k:Nat):Int)]::_::R)∧(k≤(Lib.decDigits n.natAbs).length)) _ ⟨0,rfl,rfl,H,(Nat.zero_le _)⟩ ?_;rintro _ _ z ⟨k,rfl,rfl,H,kl⟩;refine G3 ?_;rcases Nat.lt_or_eq_of_le kl with q|q
   ·have hc:=nu_at hd0 q;refine yy (Yld.cast (Y.geq rfl rfl rfl) (bt Om)) ?_;refine G2 ?_;refine WL.yldW rfl (blt rfl) rfl rfl rfl (Yld.cast (Y.leq rfl rfl rfl) (bt Om)) ?_;refine yy (Y.pickT rfl rfl rfl) ?_;refine go ?_;refine WC.condT rfl ?_;refine G9 ?_;refine yy (Yld.cast (Y.add rfl rfl rfl Wo) (vi (show(((F+k):Nat):Int)+1=((F+k+1:Nat):Int)from rfl))) ?_;refine go ?_;refine st H 0 ti3 fun z H=> ?_;have b15:F<s.size:=Om;refine G7 ?_;refine yy (Y.indexStr F rfl u9 rfl rfl rfl b15) ?_;by_cases q2:bat s F=48
    ·have h1:=(nu_zero hd0).1 q2;refine yy (Yld.cast (Y.eql rfl rfl rfl) (vb (beq_yes q2))) ?_;refine go ?_;refine WC.condT rfl ?_;refine go ?_;refine WK.in_other rfl ?_;refine G3 ?_;exact kI [] Sx ⟨rfl,(by rw[show F+(Lib.decDigits n.natAbs).length=(F+k+1)from Om];exact H)⟩
    ·refine yy (Yld.cast (Y.eql rfl rfl rfl) (vb (beq_no q2))) ?_;refine go ?_;refine WC.condF rfl ?_;refine go ?_;refine c1 H Fh (here_any g s (F+k+1) _ (H.b 0) hz) fun z H=> ?_;refine go ?_;exact Rs [(5,_)] Sx ⟨(k+1),rfl,rfl,H,Om⟩
   ·have hc:=nu_end hd0 hr q;refine G6 ?_;refine sb [0,2,3,4,34] ?_;refine Cd (fun p16=> ?_) fun p16=> ?_
    ·refine G9 ?_;refine yy (Yld.cast (Y.add rfl rfl rfl Wo) (vi (show(((F+k):Nat):Int)+1=((F+k+1:Nat):Int)from rfl))) ?_;refine go ?_;refine st H 0 ti3 fun z H=> ?_;have b20:F<s.size:=Om;refine G7 ?_;refine yy (Y.indexStr F rfl u9 rfl rfl rfl b20) ?_;by_cases q2:bat s F=48
     ·have h1:=(nu_zero hd0).1 q2;refine yy (Yld.cast (Y.eql rfl rfl rfl) (vb (beq_yes q2))) ?_;refine go ?_;refine WC.condT rfl ?_;refine go ?_;refine WK.in_other rfl ?_;refine G3 ?_;exact kI [] Sx ⟨rfl,(by rw[show F+(Lib.decDigits n.natAbs).length=(F+k+1)from Om];exact H)⟩
     ·refine yy (Yld.cast (Y.eql rfl rfl rfl) (vb (beq_no q2))) ?_;refine go ?_;refine WC.condF rfl ?_;refine go ?_;refine c1 H Fh (here_any g s (F+k+1) _ (H.b 0) hz) fun z H=> ?_;refine go ?_;exact Rs [(5,_)] Sx ⟨(k+1),rfl,rfl,H,Om⟩
    ·refine G4 ?_;exact kI [] Sx ⟨rfl,(by rw[show F+(Lib.decDigits n.natAbs).length=(F+k)from Om];exact H)⟩
  ·rintro _ z ⟨rfl,H⟩;refine sb [0,2,3,4] ?_;refine G7 ?_;refine yy (Yld.cast (Y.eql rfl rfl rfl) (vb (beq_no Om))) ?_;refine go ?_;refine WC.condF rfl ?_;refine go ?_;refine Qr ?_;refine G9 ?_;refine yq (Yld.cast (Y.sliceStr i (F+(Lib.decDigits n.natAbs).length) rfl u9 rfl rfl rfl rfl rfl Om Om) (congrArg Value.string (nu_txt ha hF_))) ?_;refine go ?_;refine Qd H fun z H=> ?_;refine G4 ?_;refine yy (Yld.cast (Y.eqlStr rfl rfl rfl) (vb (show _=false from nu_m0 n))) ?_;refine go ?_;refine WC.condF rfl ?_;refine go ?_;refine c1 H Fh (nparse_any (txt n) n _ (hT.ext H.ext) hn rfl) fun z H=> ?_;refine G11 ?_;refine sb [2,3,7,80] ?_;refine WC.condF rfl ?_;refine go ?_;refine st H 1 ti66 fun z H=> ?_;refine go ?_;refine WK.ret [_] rfl ⟨⟨_,rfl,run_loadVar_blk u66 rfl ti66 (H.b 1)⟩,trivial⟩ ?_;exact⟨rfl,(by rw[show i+(Lib.itoa n).length=F+(Lib.decDigits n.natAbs).length from by rw[itoa_sgn,List.length_append];omega];exact(H.drop [1]))⟩
end TW
end Go.Proofs.YtaclfjjipnpboaaGreatDoor
end
