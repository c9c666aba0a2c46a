/- Part 7 of the proof. Conditions: what each theorem states. -/
import Derived.Test.YtaclfjjipnpboaaGreatP04
import Derived.Test.YtaclfjjipnpboaaGreatP01
import Derived.Test.YtaclfjjipnpboaaGreatP06
import Derived.Test.YtaclfjjipnpboaaGreatProg
import Derived.Shelf.Sort.Plain
import Derived.Shelf.Slices.In.SortNone
import Derived.Shelf.Slices.CompactI
import Derived.Ground.NamesProg
import Derived.Ground.Names2Prog
import Derived.Sort.OwnSortedInts
import Derived.Test.YtaclfjjipnpboaaGreatP03
import Derived.Laws.IdiomRangeMap
import Derived.Test.YtaclfjjipnpboaaGreatP02
import Derived.Test.YtaclfjjipnpboaaGreatP05
import Derived.ProofKit
import Derived.OpenShut
import Derived.Carry
import Derived.Deep.Slices
import Derived.ChangeMaps5
import Derived.Lib.SlicesCompact
set_option linter.all false
set_option maxHeartbeats 4000000
set_option maxRecDepth 4000
section
attribute [local irreducible] Go.Eng.WC Go.Eng.WL Go.Eng.WK Go.Eng.WQ Go.Eng.WX Go.Eng.Yld
namespace Go.Proofs.YtaclfjjipnpboaaGreat
open Go Go.Eng Go.RowKit
namespace TW
theorem lgcheck_any(A_ta:Option Addr)(n_ta c_ta:Nat)(ta:List Th)(A_da:Option Addr)(n_da c_da:Nat)(da:List Dm)(A_na:Option Addr)(n_na c_na:Nat)(na:List Sn)(A_pa:Option Addr)(n_pa c_pa:Nat)(pa:List Pk)(w:World)(h_ta:Ls w A_ta n_ta c_ta Th.c 3 ta)(h_da:Ls w A_da n_da c_da Dm.c 2 da)(h_na:Ls w A_na n_na c_na Sn.c 5 na)(h_pa:Ls w A_pa n_pa c_pa Pk.c 4 pa)(g_pa:PksOk w pa)(hk:∀x∈pa,x.k≤1000000)(hl:n_pa≤1000)(ht:n_ta≤1000)(he:evsum pa pa.length≤1000):
  Cr 237 #[.agg #[.slice A_ta n_ta c_ta,.slice A_da n_da c_da,.slice A_na n_na c_na,.slice A_pa n_pa c_pa]] w (.int .i64 (lgE ta da na pa)):=by
 have H:=(Hp.nil w);have e_ta:=h_ta.len;have z_ta:=h_ta.nle;have e_da:=h_da.len;have z_da:=h_da.nle;have e_na:=h_na.len;have z_na:=h_na.nle;have e_pa:=h_pa.len;have z_pa:=h_pa.nle;refine Wb Tryz.func237 ?_;refine go ?_;refine bx H fun g2 z H=> ?_;refine go ?_;refine c3 Fh (lgOf_any _ _ _ _ _ _ _ _ _ _ _ _ _ _ _ _ _ (h_ta.ext H.ext) (h_da.ext H.ext) (h_na.ext H.ext) (h_pa.ext H.ext) (g_pa.ext H.ext) hk Om Om he) ?_;rintro _ w1 ⟨x1,x2,x3,x4,rfl,x,hof,hno⟩;have H:=H.ex x;have X0:=H.ext;have h_ta:=h_ta.ext X0;have h_da:=h_da.ext X0;have h_na:=h_na.ext X0;have h_pa:=h_pa.ext X0;have g_pa:=g_pa.ext X0;have B0:=H.b 0;have H:=Hp.nil w1;refine⟨_,rfl,?_⟩;refine G1 ?_;by_cases h0:ofE ta da na pa=0
 ·obtain⟨A9,n9,c9,ps,rfl,rfl,rfl,rfl,hL,hO,hps⟩:=hof h0;have e9:=hL.len;have z9:=hL.nle;refine go ?_;refine al H ti29 fun g5 z H=> ?_;refine st H 0 ti29 fun z H=> ?_;refine G5 ?_;refine yy (Yld.cast (Y.eql rfl rfl rfl) (vb (by rw[h0];first|done|rfl))) ?_;refine G1 ?_;refine WL.yldW rfl (blt rfl) rfl rfl rfl (Y.loadS rfl u29 rfl ti29 rfl (Blk.row_eq (H.b 0))) ?_;refine WL.yldW rfl (blt rfl) rfl rfl rfl (Y.loadS rfl u29 rfl ti29 rfl (Blk.row_eq (B0.ext H.ext))) ?_;refine WL.guarded rfl rfl rfl ?_;refine c1 H Fh (lgsame_any _ _ _ _ _ _ _ _ _ _ _ _ _ _ _ _ _ _ _ _ _ _ _ _ _ _ _ _ _ _ _ _ _ (h_ta.ext H.ext) (h_da.ext H.ext) (h_na.ext H.ext) (hL.ext H.ext) (hO.ext H.ext) (h_ta.ext H.ext) (h_da.ext H.ext) (h_na.ext H.ext) (h_pa.ext H.ext) (g_pa.ext H.ext)) fun z H=> ?_;refine G1 ?_;refine yy (Y.pickT rfl rfl rfl) ?_;refine go ?_;refine WC.cond rfl (fun h9=> ?_) (fun h9=> ?_)
  ·refine go ?_;refine Rt [_] ?_;exact⟨ret1 (vi (Eq.symm (if_pos ⟨h0,by rw[←hps,←lg_same];exact not_t h9⟩))),X0.trans H.ext⟩
  ·refine go ?_;refine Rt [_] ?_;exact⟨ret1 (vi (Eq.symm (if_neg fun q=>absurd q.2 (by rw[←hps,←lg_same,not_f h9];decide)))),X0.trans H.ext⟩
 ·obtain⟨rfl,rfl,rfl,rfl⟩:=hno h0;refine go ?_;refine al H ti29 fun g12 z H=> ?_;refine st H 0 ti29 fun z H=> ?_;refine G5 ?_;refine yy (Yld.cast (Y.eql rfl rfl rfl) (vb (beq_false_of_ne h0))) ?_;refine G5 ?_;refine yy (Y.pickF rfl rfl rfl) ?_;refine G1 ?_;refine sb [4,20] ?_;refine WC.condF rfl ?_;refine go ?_;refine Rt [_] ?_;exact⟨ret1 (vi (Eq.symm (if_neg fun q=>h0 q.1))),X0.trans H.ext⟩
theorem ids_any(A_ta:Option Addr)(n_ta c_ta:Nat)(ta:List Th)(A_da:Option Addr)(n_da c_da:Nat)(da:List Dm)(A_na:Option Addr)(n_na c_na:Nat)(na:List Sn)(A_pa:Option Addr)(n_pa c_pa:Nat)(pa:List Pk)(w:World)(h_ta:Ls w A_ta n_ta c_ta Th.c 3 ta)(h_da:Ls w A_da n_da c_da Dm.c 2 da)(h_na:Ls w A_na n_na c_na Sn.c 5 na)(h_pa:Ls w A_pa n_pa c_pa Pk.c 4 pa)(g_pa:PksOk w pa)(hk:∀x∈pa,x.k≤1000000)(hl:n_pa≤1000)(ht:n_ta≤1000)(he:evsum pa pa.length≤1000):
  Calls Tryz.prog 195 #[.agg #[.slice A_ta n_ta c_ta,.slice A_da n_da c_da,.slice A_na n_na c_na,.slice A_pa n_pa c_pa]] w fun e w'=>∃v,e= .returned v∧OwnL w' w.heap.size 78 Ix.c 2 v (idsF ta da na pa)∧Ext w w':=by
 have H:=(Hp.nil w);have e_ta:=h_ta.len;have z_ta:=h_ta.nle;have e_da:=h_da.len;have z_da:=h_da.nle;have e_na:=h_na.len;have z_na:=h_na.nle;have e_pa:=h_pa.len;have z_pa:=h_pa.nle;have hkl:∀p∈pa,p.es.length=p.k:=fun p hp=>(g_pa p hp).l.len;refine Wb Tryz.func195 ?_;refine go ?_;refine bx H fun g2 z H=> ?_;refine go ?_;refine c1 H Fh (lgcheck_any _ _ _ _ _ _ _ _ _ _ _ _ _ _ _ _ _ (h_ta.ext H.ext) (h_da.ext H.ext) (h_na.ext H.ext) (h_pa.ext H.ext) (g_pa.ext H.ext) hk Om Om he) fun z H=> ?_;refine go ?_;refine Cd (fun p6=> ?_) fun p6=> ?_
 ·refine go ?_;refine Rt [_] ?_;exact⟨_,rfl,(by rw[idsF_bad p6];exact OwnL.nil_),H.ext⟩
 ·have pkok:=lg_pkok (Decidable.of_not_not (fun q=>q p6));have H:=H.nilRow 78 Ix.c 2;refine go ?_;refine sb [13,3,11,12] ?_;refine WC.loopS 2 (fun mz Ed W'=>∃j:Nat,∃v:Value,mz=n_pa-j∧Ed=[(13,.int .i64 ((j:Nat):Int)),(3,v)]∧Hp w W' (row 78 Ix.c 2 v (idsN pa j)::_::[])∧(j≤n_pa)) _ ⟨0,_,rfl,rfl,(H.pick [0,0]),(Nat.zero_le _)⟩ ?_;rintro _ _ z ⟨j,v,rfl,rfl,H,jl⟩;have il:=idsN_len (l:=pa) j;refine go ?_;refine Cd (fun p15=> ?_) fun p15=> ?_
  ·have hmj:=mem_b (show j<pa.length by omega);have ok:=pkok _ hmj;have eu:=evsum_le_all pa j pa.length Om;have b18:j<n_pa:=Om;refine go ?_;refine al H ti70 fun g19 z H=> ?_;refine st H 0 ti70 fun z H=> ?_;refine go ?_;refine sb [20,3,5,11,12,13,19] ?_;refine WC.loopS 2 (fun mz Ed W'=>∃i:Nat,∃v':Value,mz=pa[j]!.k-i∧Ed=[(20,.int .i64 ((i:Nat):Int)),(3,v')]∧Hp w W' (_::row 78 Ix.c 2 v' (idsN pa j++idsK pa[j]! i)::_::[])∧(i≤pa[j]!.k)) _ ⟨0,_,rfl,rfl,(by rw[show idsK pa[j]! 0=[]from rfl,List.append_nil];exact(H.pick [0,0,0])),(Nat.zero_le _)⟩ ?_;rintro _ _ z ⟨i,v',rfl,rfl,H,il⟩;have kl:=idsK_len pa[j]! i;refine go ?_;refine Cd (fun p24=> ?_) fun p24=> ?_
   ·have eu2:=Nat.le_trans (evsum_le_all pa (j+1) pa.length Om) he;rw[evsum_mono]at eu2;have o1:=ok.sr;have o2:=ok.to;refine go ?_;refine bs1 H u269 ti78 fun g27 z H=> ?_;refine ap H 2 0 rfl [⟨pa[j]!.th,pa[j]!.sr+(i:Int)⟩] u269 ti78 rfl Ix.one (by simp only[List.length_append,List.length_cons,List.length_nil];omega) fun v29 z H=> ?_;refine go ?_;exact Rs [(20,_),(3,_)] Sx ⟨(i+1),v29,rfl,rfl,(by rw[idsK_next,←List.append_assoc];exact(H.pick [1,1,1])),Om⟩
   ·refine go ?_;exact Rs [(13,_),(3,_)] Sx ⟨(j+1),v',rfl,rfl,(by rw[show idsN pa (j+1)=idsN pa j++idsK pa[j]! i from by rw[idsN_next];congr 2;omega];exact(H.pick [1,1])),Om⟩
  ·refine G9 ?_;refine sb [2] ?_;refine go ?_;refine Rt [_] ?_;exact⟨_,rfl,(by rw[idsF_ok (Decidable.of_not_not (fun q=>q p6)),show idsOf pa=idsN pa j from by unfold idsOf;congr 1;omega];exact H.out 0),H.ext⟩
end TW
end Go.Proofs.YtaclfjjipnpboaaGreat
end
namespace Go.Proofs.YtaclfjjipnpboaaGreat
open Go Go.Shelf Go.RowKit Go.Lib Go.Sort Go.Proofs Go.Eng
def Tryz.lays47_ren:Go.Shelf.Ren:=⟨fun|189=>47|125=>88|257=>87|128=>149|129=>150|294=>140|295=>141|296=>142|297=>143|298=>144|299=>145|216=>146|300=>147|301=>148|328=>188|329=>189|330=>190|331=>191|332=>192|215=>86|343=>228|n=>n,fun|28=>65|3=>3|46=>199|0=>0|51=>259|53=>261|4=>4|183=>252|182=>251|131=>116|5=>5|9=>9|218=>297|222=>301|228=>327|229=>328|n=>n,fun|n=>n⟩
theorem Tryz.lays47:Go.Proofs.Lays.n189 Tryz.prog Tryz.lays47_ren:={
 mixed:=by rfl
 f125:=Tryz.func88.trans (congrArg some (by rfl))
 f128:=Tryz.func149.trans (congrArg some (by rfl))
 f129:=Tryz.func150.trans (congrArg some (by rfl))
 f189:=Tryz.func47.trans (congrArg some (by rfl))
 f215:=Tryz.func86.trans (congrArg some (by rfl))
 f216:=Tryz.func146.trans (congrArg some (by rfl))
 f257:=Tryz.func87.trans (congrArg some (by rfl))
 f294:=Tryz.func140.trans (congrArg some (by rfl))
 f295:=Tryz.func141.trans (congrArg some (by rfl))
 f296:=Tryz.func142.trans (congrArg some (by rfl))
 f297:=Tryz.func143.trans (congrArg some (by rfl))
 f298:=Tryz.func144.trans (congrArg some (by rfl))
 f299:=Tryz.func145.trans (congrArg some (by rfl))
 f300:=Tryz.func147.trans (congrArg some (by rfl))
 f301:=Tryz.func148.trans (congrArg some (by rfl))
 f328:=Tryz.func188.trans (congrArg some (by rfl))
 f329:=Tryz.func189.trans (congrArg some (by rfl))
 f330:=Tryz.func190.trans (congrArg some (by rfl))
 f331:=Tryz.func191.trans (congrArg some (by rfl))
 f332:=Tryz.func192.trans (congrArg some (by rfl))
 f343:=Tryz.func228.trans (congrArg some (by rfl))
 t0:=Tryz.underlying0
 a0:=Tryz.isAgg0
 z0:=Tryz.sizeOf0
 v0:=Tryz.zeroValue0
 t3:=Tryz.underlying3
 a3:=Tryz.isAgg3
 z3:=Tryz.sizeOf3
 v3:=Tryz.zeroValue3
 t4:=Tryz.underlying4
 a4:=Tryz.isAgg4
 z4:=Tryz.sizeOf4
 v4:=Tryz.zeroValue4
 t5:=Tryz.underlying5
 a5:=Tryz.isAgg5
 z5:=Tryz.sizeOf5
 v5:=Tryz.zeroValue5
 t9:=Tryz.underlying9
 a9:=Tryz.isAgg9
 z9:=Tryz.sizeOf9
 v9:=Tryz.zeroValue9
 t28:=Tryz.underlying65
 a28:=Tryz.isAgg65
 z28:=Tryz.sizeOf65
 v28:=Tryz.zeroValue65
 t46:=Tryz.underlying199
 a46:=Tryz.isAgg199
 z46:=Tryz.sizeOf199
 v46:=Tryz.zeroValue199
 t51:=Tryz.underlying259
 a51:=Tryz.isAgg259
 z51:=Tryz.sizeOf259
 v51:=Tryz.zeroValue259
 t53:=Tryz.underlying261
 a53:=Tryz.isAgg261
 z53:=Tryz.sizeOf261
 v53:=Tryz.zeroValue261
 t131:=Tryz.underlying116
 a131:=Tryz.isAgg116
 z131:=Tryz.sizeOf116
 v131:=Tryz.zeroValue116
 t182:=Tryz.underlying251
 a182:=Tryz.isAgg251
 z182:=Tryz.sizeOf251
 v182:=Tryz.zeroValue251
 t183:=Tryz.underlying252
 a183:=Tryz.isAgg252
 z183:=Tryz.sizeOf252
 v183:=Tryz.zeroValue252
 t218:=Tryz.underlying297
 a218:=Tryz.isAgg297
 z218:=Tryz.sizeOf297
 v218:=Tryz.zeroValue297
 t222:=Tryz.underlying301
 a222:=Tryz.isAgg301
 z222:=Tryz.sizeOf301
 v222:=Tryz.zeroValue301
 t228:=Tryz.underlying327
 a228:=Tryz.isAgg327
 z228:=Tryz.sizeOf327
 v228:=Tryz.zeroValue327
 t229:=Tryz.underlying328
 a229:=Tryz.isAgg328
 z229:=Tryz.sizeOf328
 v229:=Tryz.zeroValue328}
def Tryz.lays239_ren:Go.Shelf.Ren:=⟨fun|20=>239|n=>n,fun|22=>65|3=>3|4=>4|0=>0|n=>n,fun|n=>n⟩
theorem Tryz.lays239:Go.Proofs.Lays2.n20 Tryz.prog Tryz.lays239_ren:={
 mixed:=by rfl
 f20:=Tryz.func239.trans (congrArg some (by rfl))
 t0:=Tryz.underlying0
 a0:=Tryz.isAgg0
 z0:=Tryz.sizeOf0
 v0:=Tryz.zeroValue0
 t3:=Tryz.underlying3
 a3:=Tryz.isAgg3
 z3:=Tryz.sizeOf3
 v3:=Tryz.zeroValue3
 t4:=Tryz.underlying4
 a4:=Tryz.isAgg4
 z4:=Tryz.sizeOf4
 v4:=Tryz.zeroValue4
 t22:=Tryz.underlying65
 a22:=Tryz.isAgg65
 z22:=Tryz.sizeOf65
 v22:=Tryz.zeroValue65
 i3:=by kernel_rfl}
namespace TW
def srtI(zs:List Int):List Int:=zs.mergeSort fun x y=>decide (x≤y)
theorem srtI_len(zs:List Int):(srtI zs).length=zs.length:=List.length_mergeSort ..
theorem flat_ic(l:List Int):l.flatMap ic=l.map (Value.int .i64):=by
 induction l with
 |nil=>rfl
 |cons x r ih=>simp[ic,ih]
theorem sort_row(v:Value)(base:Nat)(l:List Int)(w:World)(ow:OwnL w base 3 ic 1 v l)(hl:l.length≤100000):Calls Tryz.prog 47 #[v] w fun e w'=>e= .returned (.tuple #[])∧OwnL w' base 3 ic 1 v (srtI l)∧Gr w w' v.ownBlock:=by
 have hs:srtI l=l.mergeSort fun x y=>decide (x≤y):=rfl;have hlen:=srtI_len l;have ow0:=ow;rcases ow.2 with⟨rfl,h0⟩|⟨g,cap,cur,rfl,h1,h2,h3,h4,h5,h6⟩
 ·refine(Any.slices_Sort_int_none Tryz.lays47 none 0 w).mono fun e w' ⟨he,hw⟩=> ?_;simp_all [List.nil,List.eq_nil_of_length_eq_zero,And.intro,srtI,Gr.refl]
 ·have h6':cur.toList.take l.length=l.map (Value.int .i64):=by simp_all [flat_ic,Nat.mul_one]
  have hg:g<w.heap.size:=(Array.getElem?_eq_some_iff.1 h2).1;refine(Any.slices_Sort_int Tryz.lays47 g 0 cap l w (holds_of_blockI h2 h6') hg Om).mono fun e w' hw=> ?_;obtain⟨he,n,os,rfl⟩:=hw;refine⟨he,?_,⟨grownBy_sortedI _,Dle.of (Nat.le_add_right _ _)⟩⟩;grind [ownsRow_sortedI,srtI,OwnL,flat_ic]
theorem compact_le(l:List Int):(Lib.compact l).length≤l.length:=by
 grind [Lib.compact,Lib.compactUpTo,List.length_map,Nat.le_trans,List.length_filter_le]
theorem compact_row(v:Value)(base:Nat)(l:List Int)(w:World)(ow:OwnL w base 3 ic 1 v l)(hl:l.length≤100000):Calls Tryz.prog 239 #[v] w fun e w'=>∃v',e= .returned v'∧OwnL w' base 3 ic 1 v' (Lib.compact l)∧Gr w w' v.ownBlock∧v'.ownBlock=v.ownBlock:=by
 have ow0:=ow;by_cases hn:l=[]
 ·subst hn;have hc:Lib.compact ([]:List Int)=[]:=rfl;rcases ow.2 with⟨rfl,h0⟩|⟨g,cap,cur,rfl,h1,h2,h3,h4,h5,h6⟩
  ·refine(Any.slices_Compact_int_empty Tryz.lays239 none 0 w).mono fun e w' ⟨he,hw⟩=> ?_;subst hw;exact⟨_,he,by grind,Gr.refl _ _,rfl⟩
  ·refine(Any.slices_Compact_int_empty Tryz.lays239 (some ⟨g,0,none⟩) cap w).mono fun e w' ⟨he,hw⟩=> ?_;subst hw;exact⟨_,he,by grind,Gr.refl _ _,rfl⟩
 ·have hp:0<l.length:=List.length_pos_iff.2 hn;rcases ow.2 with⟨rfl,h0⟩|⟨g,cap,cur,rfl,h1,h2,h3,h4,h5,h6⟩
  ·omega
  ·have h6':cur.toList.take l.length=l.map (Value.int .i64):=by simp_all [flat_ic,Nat.mul_one]
   have hle:=compact_le l;refine(Any.slices_Compact_int Tryz.lays239 g 0 cap l w (holds_of_blockI h2 h6') Om h3).mono fun e w' hw=> ?_;obtain⟨he,n,hw⟩:=hw;have hts:(Lib.compact l++List.replicate (l.length-(Lib.compact l).length) 0).length=l.length:=by grind
   have hg:=grownBy_sortedI (w:=w) (g:=g) (n:=n) (os:= #[]) (Lib.compact l++List.replicate (l.length-(Lib.compact l).length) 0).toArray;have ho:=ownsRow_sortedI (w:=w) (os:= #[]) (n:=n) (base:=base) (ss:=l) (ts:=Lib.compact l++List.replicate (l.length-(Lib.compact l).length) 0) hts h1 h2 h3 h4 (by rw[h5]);rw[grow_empty,←hw]at hg ho;refine⟨_,he,?_,⟨hg,by grind⟩,rfl⟩;have ho':=ho.2;rcases ho' with⟨hv,_⟩|⟨g',cap',cur',hv,e1,e2,e3,e4,e5,e6⟩
   ·cases hv
   ·cases hv;refine⟨by rw[flat_ic];simp,.inr ⟨g,cap,cur',rfl,e1,e2,Nat.le_trans hle e3,e4,e5,?_⟩⟩;rw[flat_ic,Nat.mul_one];rw[Nat.mul_one]at e6;have:cur'.toList.take (Lib.compact l).length=(cur'.toList.take l.length).take (Lib.compact l).length:=by grind
    grind
theorem sortI_any(v:Value)(l:List Int)(W:World)(R:List Res)(w:World)(H:Hp W w (row 3 ic 1 v l::R))(hl:l.length≤100000):Calls Tryz.prog 47 #[v] w fun e w'=>e= .returned (.tuple #[])∧Hp W w' (row 3 ic 1 v (srtI l)::R):=
 (sort_row v 0 l w H.head hl).mono fun e w' h=>⟨h.1,H.grown Put.here h.2.2 h.2.1 (.inl rfl)⟩
theorem compactI_any(v:Value)(l:List Int)(W:World)(R:List Res)(w:World)(H:Hp W w (row 3 ic 1 v l::R))(hl:l.length≤100000):Calls Tryz.prog 239 #[v] w fun e w'=>∃v',e= .returned v'∧Hp W w' (row 3 ic 1 v' (Lib.compact l)::R):=
 (compact_row v 0 l w H.head hl).mono fun e w' ⟨v',he,ow,gr,hb⟩=>⟨v',he,H.grown Put.here gr ow (.inl hb)⟩
end TW
end Go.Proofs.YtaclfjjipnpboaaGreat
namespace Go.Eng
open Go Go.RowKit
section
variable{P:Program}
theorem run_next_gen(w:World)(ty:TypeId)(it bm since c0:Nat)(seen:Array Nat)(es:Array MapEntry)(clock:Nat)(hi:w.heap[it]? =some (.mapIter (some bm) since seen c0))(hb:w.heap[bm]? =some (.map es clock))(hold:∀x∈es.toList,x.born<since)(hsc:since≤c0):
  ((leftOf es seen).size=0∧(Instr.next (.pointer (some ⟨it,0,none⟩)) false ty).run P w= .ok (.tuple #[.bool false]) w)∨
  ∃e∈(leftOf es seen).toList,∃w1:World,(w1=w∨w1=w.drew)∧(Instr.next (.pointer (some ⟨it,0,none⟩)) false ty).run P w= .ok (.tuple #[.bool true,e.key,e.val]) {w1 with heap:=w1.heap.setIfInBounds it (.mapIter (some bm) since (seen.push e.born) clock)}:=by
 simp only[Instr.next,getObj,Sem.run_bind,Sem.run,hi,hb,Result.andThen,next_test_false seen es since c0 hold hsc,Bool.false_eq_true,if_false];unfold leftOf;have hmem:∀x∈(Array.filter (fun e=> !seen.contains e.born) es).toList,x.born<since:=fun x hx=>hold x (by grind);generalize Array.filter (fun e=> !seen.contains e.born) es=L at hmem ⊢;have e1:L.filter (fun x=>decide (x.born<since))=L:=Array.filter_eq_self.2 (fun x hx=>by grind);have e2:L.filter (fun x=>decide (x.born≥since))= #[]:=by
  simp_all
 simp only[e1,e2,Array.append_empty];by_cases h0:L.size=0
 ·left
  have:L= #[]:=Array.eq_empty_of_size_eq_zero h0;subst this;refine⟨rfl,?_⟩;simp[choose,Sem.run,Question.forced]
 ·right
  have hne:L.isEmpty=false:=by grind
  simp only[hne,Bool.false_eq_true,if_false,Array.empty_append,Array.size_map];have hch:∃(j:Nat) (w1:World),j<L.size∧(w1=w∨w1=w.drew)∧(choose (Question.mapNext L.size)).run P w= .ok j w1:=by
   by_cases hf:L.size≤1
   ·exact⟨0,w,Om,.inl rfl,by simp[choose,Sem.run,Question.forced,hf]⟩
   ·exact⟨_,w.drew,Nat.mod_lt _ Om,.inr rfl,by
     simp only[choose,Sem.run,Question.forced,decide_eq_true_eq,hf,if_false,Question.cut];rfl⟩
  obtain⟨j,w1,hj,hal,hrun⟩:=hch;refine⟨L[j],by simp,w1,hal,?_⟩;have hi1:w1.heap[it]? =some (.mapIter (some bm) since seen c0):=by rcases hal with rfl|rfl<;>exact hi
  have hset:∀o':Obj,(setObj it o').run P w1= .ok () {w1 with heap:=w1.heap.setIfInBounds it o'}:=fun o'=>by
   grind [setObj,Sem.run]
  simp_all
theorem run_entry_gen(w:World)(it bm since:Nat)(seen:Array Nat)(es:Array MapEntry)(clock:Nat)(e:MapEntry)(hi:w.heap[it]? =some (.mapIter (some bm) since (seen.push e.born) clock))(hb:w.heap[bm]? =some (.map es clock))(he:e∈es.toList)(hn:(es.toList.map (·.born)).Nodup):
  (Instr.entry (.pointer (some ⟨it,0,none⟩))).run P w= .ok (.tuple #[e.key,e.val]) w:=by
 have hf:es.find? (·.born==e.born)=some e:=by rw[←Array.find?_toList];grind [find_born]
 simp only[Instr.entry,getObj,Sem.run_bind,Sem.run,hi,hb,Result.andThen,Array.back?_push,bne_self_eq_false,Bool.false_eq_true,if_false,hf];rfl
end
def mrg(it g:Nat)(m:List (Int×Value))(S:List Nat):Res where
 foot b:=b=it∨b=g
 holds w:=it≠g∧∃es clock since c0 seen,w.heap[g]? =some (.map es clock)∧es.toList.map (fun e=>(e.key,e.val))=m.map (fun p=>(.int .i64 p.1,p.2))∧(∀x∈es.toList,x.born<clock)∧(es.toList.map (·.born)).Nodup∧(m.map (·.1)).Nodup∧
  w.heap[it]? =some (.mapIter (some g) since seen c0)∧since≤c0∧(∀x∈es.toList,x.born<since)∧c0≤clock∧seen=(S.reverse.map fun i=>(es.toList[i]?.map (·.born)).getD 0).toArray∧(∀i∈S,i<m.length)∧S.Nodup∧(S≠[]→c0=clock)
 dom w b h hf:=by
  grind
 loc w w' hb h:=by
  simp_all
section
variable{P:Program}{n:Nat}{ops:Array Oper}{Q:Exit→Act→World→Prop}{E:Env}{W w:World}{L L':List Res}{o:Oper}{rest:List Oper}{d:Nat}
theorem drew_only(w:World)(it:Nat)(w1:World)(h:w1=w∨w1=w.drew)(o:Obj):Only it w {w1 with heap:=w1.heap.setIfInBounds it o}:=by
 have hb:∀k,k≠it→({w1 with heap:=w1.heap.setIfInBounds it o}:World).heap[k]? =w1.heap[k]? :=fun k hk=>by
  grind
 rcases h with rfl|rfl
 ·exact⟨rfl,rfl,rfl,by simp,hb,Dle.of Nl⟩
 ·exact⟨rfl,rfl,rfl,by simp_all,hb,Dle.of (Nat.le_add_right _ _)⟩
theorem rg{t kt e g:Nat}{x:Operand}{m:List (Int×Value)}{L':Nat→List Res}(H:Hp W w L)(k:Nat)(hU:P.underlying t=some (.map kt e))(h:∀it w',Hp W w' (L' it)→WL P n ops Q rest ((d,.pointer (some ⟨it,0,none⟩))::E) w')
  (hd:o.dst=some d:=by exact rfl) (hn:d<n:=by exact blt rfl) (hg:o.guard=none:=by exact rfl) (ho:o.op= .range t x:=by exact rfl) (hx:ev E x=some (.map (some g)):=by exact rfl)
  (hk:L[k]? =some (mpi g m):=by exact rfl) (p:∀it,Put (mrg it g m []) k (mpi g m) L (L' it):=by intro it;repeat (first|exact Put.here|apply Put.there)):WL P n ops Q (o::rest) E w:=by
 intro a ha;obtain⟨es,clock,h1,h2,h3,h4,h5⟩:=H.mi k hk;have hg':g<w.heap.size:=(Array.getElem?_eq_some_iff.1 h1).1;have hr:(execOp a.eval o).run P w= .ok (.value (.pointer (some ⟨w.heap.size,0,none⟩))) (w.alloc (.mapIter (some g) clock #[] clock)):=by
  simp[execOp,ho,ha.ev hx,run_range_map w t kt e g es clock hU h1]
 refine wpList_plain hg fun K hK=>wp_of_run hr (hK _ _ ?_);rw[hd];refine h _ _ (H.putD (p w.heap.size) fun M K=>K.turn (by simp_all) (fun b hb _=>heap_alloc_old w _ hb) (K.ext.alloc _) ?_ ?_) _ (ha.put hn _)
 ·refine⟨Om,es,clock,clock,clock,#[],?_,h2,h3,h4,h5,heap_alloc_new w _,Nat.le_refl _,h3,Nat.le_refl _,rfl,by simp,List.nodup_nil,fun h=>absurd rfl h⟩;grind [heap_alloc_old]
 ·rintro b (rfl|rfl)
  ·omega
  ·exact .inl rfl
theorem nx{it g:Nat}{x:Operand}{ty:TypeId}{m:List (Int×Value)}{S:List Nat}{L':Nat→List Res}(H:Hp W w L)(k:Nat)
  (h0:(∀i,i<m.length→i∈S)→∀w',Hp W w' L→WL P n ops Q rest ((d,.tuple #[.bool false])::E) w')
  (h:∀i w',i<m.length→i∉S→Hp W w' (L' i)→WL P n ops Q rest ((d,.tuple #[.bool true,.int .i64 (m[i]!).1,(m[i]!).2])::E) w')
  (hd:o.dst=some d:=by exact rfl) (hn:d<n:=by exact blt rfl) (hg:o.guard=none:=by exact rfl) (ho:o.op= .next x false:=by exact rfl) (hx:ev E x=some (.pointer (some ⟨it,0,none⟩)):=by exact rfl)
  (hk:L[k]? =some (mrg it g m S):=by exact rfl) (p:∀i,Put (mrg it g m (i::S)) k (mrg it g m S) L (L' i):=by intro i;repeat (first|exact Put.here|apply Put.there)):WL P n ops Q (o::rest) E w:=by
 intro a ha;obtain⟨hne,es,clock,since,c0,seen,h1,h2,h3,h4,h5,h6,h7,h8,h8',h9,hS,hSn,hcc⟩:=H.get hk;have hlen:es.toList.length=m.length:=by have:=congrArg List.length h2;grind
 have hborn:∀i,i<m.length→(es.toList[i]?.map (·.born)).getD 0=(es.toList.map (·.born))[i]! :=fun i hi=>by
  grind
 have hmem:∀i,i<m.length→(seen.contains (es.toList.map (·.born))[i]! =true↔i∈S):=by
  intro i hi;rw[h9,Array.contains_iff_mem,List.mem_toArray,List.mem_map];constructor
  ·rintro⟨j,hj,e⟩;have hj':=hS j (List.mem_reverse.1 hj);rw[hborn j hj']at e;rw[bang_eq (by grind),bang_eq (by grind)]at e;have:=(List.getElem_inj h4).1 e;grind
  grind
 rcases run_next_gen (P:=P) w o.type it g since c0 seen es clock h6 h1 h8 h7 with⟨hz,hr⟩|⟨e,he,w1,hw1,hr⟩
 ·have hr:(execOp a.eval o).run P w= .ok (.value (.tuple #[.bool false])) w:=by simp[execOp,ho,ha.ev hx,hr]
  refine wpList_plain hg fun K hK=>wp_of_run hr (hK _ _ ?_);rw[hd];refine h0 (fun i hi=> ?_) w H _ (ha.put hn _);refine(hmem i hi).1 ?_;have hi':i<es.toList.length:=Om;cases hc:seen.contains (es.toList.map (·.born))[i]! with
  |true=>rfl
  |false=>
   exfalso;have:es.toList[i]∈(leftOf es seen).toList:=by
    unfold leftOf;grind
   grind
 ·have hr:(execOp a.eval o).run P w= .ok (.value (.tuple #[.bool true,e.key,e.val])) {w1 with heap:=w1.heap.setIfInBounds it (.mapIter (some g) since (seen.push e.born) clock)}:=by simp[execOp,ho,ha.ev hx,hr]
  obtain⟨he1,he2⟩:=mem_left he;obtain⟨i,hi,hei⟩:=List.mem_iff_getElem.1 he1;have hi':i<m.length:=Om;have hbi:(es.toList.map (·.born))[i]! =e.born:=by grind
  have hiS:i∉S:=fun q=>by
   grind
  have hkv:(e.key,e.val)=(Value.int .i64 (m[i]!).1,(m[i]!).2):=by
   have:=congrArg (fun l=>l[i]?) h2;grind
  have ho':=drew_only w it w1 hw1 (.mapIter (some g) since (seen.push e.born) clock);refine wpList_plain hg fun K hK=>wp_of_run hr (hK _ _ ?_);rw[hd];have hv:=h i _ hi' hiS (H.putD (p i) fun M K=>K.turn (Nat.le_of_eq ho'.size.symm) (fun b _ hb=>ho'.block b fun e=>hb (.inl e)) (K.ext.only ho' (K.own _ List.mem_cons_self it (.inl rfl))) (R':=mrg it g m (i::S)) ?_ fun b hb=>.inl hb)
  ·rw[show e.key=(e.key,e.val).1 from rfl,show e.val=(e.key,e.val).2 from rfl,hkv];exact hv _ (ha.put hn _)
  ·have hit:it<w1.heap.size:=by
    have:=(Array.getElem?_eq_some_iff.1 h6).1;rcases hw1 with rfl|rfl<;>simp_all
   refine⟨hne,es,clock,since,clock,seen.push e.born,(ho'.block g fun q=>hne q.symm).trans h1,h2,h3,h4,h5,?_,Nat.le_trans h7 h8',h8,Nat.le_refl _,?_,?_,?_⟩<;>grind
theorem en{it g i:Nat}{x:Operand}{m:List (Int×Value)}{S:List Nat}(H:Hp W w L)(k:Nat)
  (h:WL P n ops Q rest ((d,.tuple #[.int .i64 (m[i]!).1,(m[i]!).2])::E) w)
  (hd:o.dst=some d:=by exact rfl) (hn:d<n:=by exact blt rfl) (hg:o.guard=none:=by exact rfl) (ho:o.op= .entry x:=by exact rfl) (hx:ev E x=some (.pointer (some ⟨it,0,none⟩)):=by exact rfl)
  (hk:L[k]? =some (mrg it g m (i::S)):=by exact rfl):WL P n ops Q (o::rest) E w:=by
 intro a ha;obtain⟨hne,es,clock,since,c0,seen,h1,h2,h3,h4,h5,h6,h7,h8,h8',h9,hS,hSn,hcc⟩:=H.get hk;have hlen:es.toList.length=m.length:=by have:=congrArg List.length h2;grind
 have hi':=hS i List.mem_cons_self;have hi:i<es.toList.length:=Om;have hsn:seen=((S.reverse.map fun i=>(es.toList[i]?.map (·.born)).getD 0).toArray).push es.toList[i].born:=by
  grind
 rw[hsn,hcc (List.cons_ne_nil _ _)]at h6;have hr:=run_entry_gen (P:=P) w it g since _ es clock es.toList[i] h6 h1 (List.getElem_mem hi) h4;have hkv:(es.toList[i].key,es.toList[i].val)=(Value.int .i64 (m[i]!).1,(m[i]!).2):=by
  have:=congrArg (fun l=>l[i]?) h2;grind
 have hr:(execOp a.eval o).run P w= .ok (.value (.tuple #[es.toList[i].key,es.toList[i].val])) w:=by simp[execOp,ho,ha.ev hx,hr]
 refine wpList_plain hg fun K hK=>wp_of_run hr (hK _ _ ?_);rw[hd,show es.toList[i].key=(es.toList[i].key,es.toList[i].val).1 from rfl,show es.toList[i].val=(es.toList[i].key,es.toList[i].val).2 from rfl,hkv];exact h _ (ha.put hn _)
theorem Hp.unrange{it g:Nat}{m:List (Int×Value)}{S:List Nat}(H:Hp W w (mrg it g m S::L)):Hp W w (mpi g m::L):=by
 refine H.turn Nl (fun _ _ _=>rfl) H.ext ?_ fun b hb=>.inl (.inr hb);obtain⟨hne,es,clock,since,c0,seen,h1,h2,h3,h4,h5,_⟩:=H.head;exact⟨es,clock,h1,h2,h3,h4,h5⟩
theorem nodup_bound:∀(N:Nat) (l:List Nat),l.Nodup→(∀j∈l,j<N)→l.length≤N
 |0,l,_,h=>by
  cases l with
  |nil=>decide
  |cons x r=>exact absurd (h x List.mem_cons_self) (Nat.not_lt_zero x)
 |N+1,l,hn,h=>by
  by_cases q:N∈l
  ·have h1:=nodup_bound N (l.erase N) (hn.erase N) fun j hj=>by
    grind
   grind
  ·have h1:=nodup_bound N l hn fun j hj=>by
    grind
   omega
theorem left_lt{S:List Nat}{i N:Nat}(hi:i<N)(h:i∉S)(hS:S.Nodup)(hb:∀j∈S,j<N):N-(i::S).length<N-S.length:=by
 have hn:(i::S).Nodup:=List.nodup_cons.2 ⟨h,hS⟩;have:(i::S).length≤N:=by
  exact nodup_bound N _ hn fun j hj=>(List.mem_cons.1 hj).elim (fun e=>e▸hi) (hb j)
 grind
end
theorem run_eqNilS{P:Program}{t e:TypeId}{A:Option Addr}{k c:Nat}(hU:P.underlying t=some (.slice e))(w:World):(Op.equal t (.slice A k c) (.slice none 0 0)).run P w= .ok A.isNone w:=by
 unfold Op.equal Op.maxDepth;rw[show(10000:Nat)=9999+1 from rfl];unfold Op.equalIn;cases A<;>simp[run_underlying hU]
namespace Y
variable{P:Program}{o:Oper}{n:Nat}{E:Env}{C:World→Prop}{x:Operand}{t:TypeId}
theorem eqlNilS{t' e:TypeId}{A:Option Addr}{k c:Nat}(ho:o.op= .binOp .eql t x (.const (.slice none 0 0)) t')(hU:P.underlying t=some (.slice e))(hx:ev E x=some (.slice A k c)):Yld P o n E C (.bool A.isNone):=by
 intro a w hA _;have hg:(eqGuard .eql t x (.const (.slice none 0 0)) (.slice A k c) (.slice none 0 0)).run P w= .ok () w:=by
  rfl
 have hb:binOp .eql t (.slice A k c) (.slice none 0 0)=(do pure (.bool ((←Op.equal t (.slice A k c) (.slice none 0 0))))):=rfl;have hc:a.eval (.const (.slice none 0 0))= .slice none 0 0:=rfl;simp only[execOp,ho,hA.ev hx,hc,Sem.run_bind,hg,hb,run_eqNilS hU,Result.andThen_ok,Sem.run_pure]
end Y
theorem none_nil{α:Type}{w:World}{n c sz:Nat}{f:α→List Value}{l:List α}(h:Ls w none n c f sz l):l=[]:=by
 cases l with
 |nil=>rfl
 |cons x r=>
  have:=h.isSome (k:=0) (by have:=h.len;simp at this;omega);cases this
end Go.Eng
namespace Go.Proofs.YtaclfjjipnpboaaGreat
open Go Go.Eng Go.RowKit
namespace TW
def im(m:List (Int×Int)):List (Int×Value):=m.map fun p=>(p.1,.int .i64 p.2)
def iget:List (Int×Int)→Int→Option Int
 |[],_=>none
 |(k,v)::r,i=>if i=k then some v else iget r i
def iset:List (Int×Int)→Int→Int→List (Int×Int)
 |[],i,u=>[(i,u)]
 |(k,v)::r,i,u=>if i=k then(k,u)::r else(k,v)::iset r i u
theorem mget_im:∀(m:List (Int×Int)) (i:Int),mget (im m) i=(iget m i).map (Value.int .i64)
 |[],_=>rfl
 |(k,v)::r,i=>by
  have ih:=mget_im r i;show(if i=k then some (Value.int .i64 v)else mget (im r) i)=(if i=k then some v else iget r i).map _;grind
theorem mset_im:∀(m:List (Int×Int)) (i u:Int),mset (im m) i (.int .i64 u)=im (iset m i u)
 |[],_,_=>rfl
 |(k,v)::r,i,u=>by
  have ih:=mset_im r i u;show(if i=k then(k,Value.int .i64 u)::im r else(k,Value.int .i64 v)::mset (im r) i _)=im (if i=k then(k,u)::r else(k,v)::iset r i u);split
  ·rfl
  ·rw[ih];rfl
theorem mval_im(m:List (Int×Int))(i:Int):mval (im m) i (.int .i64 0)= .int .i64 ((iget m i).getD 0):=by
 simp_all [mval,mget_im,iget]
theorem isSome_im(m:List (Int×Int))(i:Int):(mget (im m) i).isSome=(iget m i).isSome:=by grind [mget_im,iget]
theorem iget_iset:∀(m:List (Int×Int)) (i u j:Int),iget (iset m i u) j=if j=i then some u else iget m j
 |[],i,u,j=>by rfl
 |(k,v)::r,i,u,j=>by
  have ih:=iget_iset r i u j;by_cases h:i=k
  ·simp_all [iset,if_true,iget]
  ·simp only[iset,h,if_false,iget];grind
structure Nx where(A:Option Addr)(n cp:Nat)(l:List Int)
instance:Inhabited Nx:=⟨⟨none,0,0,[]⟩⟩
def Nx.c(x:Nx):List Value:=[.slice x.A x.n x.cp]
theorem Nx.one(x:Nx):∀u∈x.c,u.oneCell'=true:=by simp[Nx.c,Value.oneCell']
abbrev nxF:Nx→List Res:=fun x=>[row 3 ic 1 (.slice x.A x.n x.cp) x.l]
structure Cw where(g gm:Nat)(tA:Option Addr)(tN tC:Nat)(dA:Option Addr)(dN dC:Nat)(sA:Option Addr)(sN sC:Nat)(pA:Option Addr)(pN pC:Nat)(iA:Option Addr)(iN iC:Nat)(eA:Option Addr)(eN eC:Nat)(nA:Option Addr)(nN nC:Nat)
def Cw.cells(x:Cw):List Value:=[.slice x.tA x.tN x.tC,.slice x.dA x.dN x.dC,.slice x.sA x.sN x.sC,.slice x.pA x.pN x.pC,.slice x.iA x.iN x.iC,.map (some x.gm),.slice x.eA x.eN x.eC,.slice x.nA x.nN x.nC]
def atM(ids:List Ix):Nat→PM
 |0=>[]
 |j+1=>pset (atM ids j) (ids[j]!.th,ids[j]!.sr) (.int .i64 (j:Int))
structure Cw.ok(e1:TypeId)(w:World)(x:Cw)(ids:List Ix)(es:List Ev)(N:List (List Int)):Prop where
 b:Blk w x.g e1 x.cells
 i:Ls w x.iA x.iN x.iC Ix.c 2 ids
 e:Ls w x.eA x.eN x.eC Ev.c 6 es
 m:MpP w x.gm (atM ids ids.length)
 n:∃ns:List Nx,Ls w x.nA x.nN x.nC Nx.c 1 ns∧(∀y∈ns,Ls w y.A y.n y.cp ic 1 y.l)∧ns.map Nx.l=N
theorem Cw.ok.ext{e1:TypeId}{w w':World}{x:Cw}{ids:List Ix}{es:List Ev}{N:List (List Int)}(h:x.ok e1 w ids es N)(k:Ext w w'):x.ok e1 w' ids es N:=by
 obtain⟨ns,a,b,c⟩:=h.n;exact⟨h.b.ext k,h.i.ext k,h.e.ext k,h.m.ext k,ns,a.ext k,fun y hy=>(b y hy).ext k,c⟩
def domOf(ths:List Th)(th:Int):Int:=ths[(ixP (fun t=>t.id==th) ths).toNat]!.dom
theorem ixP_lt{α:Type}(p:α→Bool)(l:List α):ixP p l<l.length:=by
 grind [ixP]
def wgt(N:List (List Int))(todo:List Int)(seen:List Bool):Nat:=todo.length+((List.range N.length).map fun k=>if seen[k]! =true then 0 else N[k]!.length).sum
def dfs(N:List (List Int)):Nat→List Int→List Bool→List Bool
 |0,_,s=>s
 |f+1,t,s=>if(t.length:Int)>0 then(if¬s[t[t.length-1]!.toNat]! =true then dfs N f (t.take (t.length-1)++N[t[t.length-1]!.toNat]!) (s.set t[t.length-1]!.toNat true)else dfs N f (t.take (t.length-1)) s)else s
def aftF(N:List (List Int))(i:Nat):List Bool:=dfs N (wgt N N[i]! (List.replicate N.length false)) N[i]! (List.replicate N.length false)
def NOk(N:List (List Int)):Prop:=∀l∈N,(∀x∈l,0≤x∧x<(N.length:Int))∧l.length≤1000
theorem sum_set{N:List (List Int)}{s:List Bool}(k:Nat)(hk:k<N.length)(hs:s.length=N.length)(h:¬s[k]! =true):∀n,n≤N.length→((List.range n).map fun q=>if(s.set k true)[q]! =true then 0 else N[q]!.length).sum+(if k<n then N[k]!.length else 0)=((List.range n).map fun q=>if s[q]! =true then 0 else N[q]!.length).sum
 |0,_=>rfl
 |n+1,hn=>by
  have ih:=sum_set k hk hs h n Om;rw[List.range_succ,List.map_append,List.map_append,List.sum_append,List.sum_append,List.map_singleton,List.map_singleton,List.sum_singleton,List.sum_singleton];grind
theorem wgt_seen{N:List (List Int)}{t:List Int}{s:List Bool}(h:0<t.length):wgt N (t.take (t.length-1)) s+1=wgt N t s:=by
 grind [wgt,List.length_take]
theorem wgt_new{N:List (List Int)}{t:List Int}{s:List Bool}{k:Nat}(h:0<t.length)(hk:k<N.length)(hs:s.length=N.length)(hn:¬s[k]! =true):wgt N (t.take (t.length-1)++N[k]!) (s.set k true)+1=wgt N t s:=by
 have:=sum_set k hk hs hn N.length Nl;rw[if_pos hk]at this;grind [wgt,List.length_append,List.length_take]
theorem sum_le{N:List (List Int)}(s:List Bool)(hN:∀l∈N,l.length≤1000):∀n,n≤N.length→((List.range n).map fun q=>if s[q]! =true then 0 else N[q]!.length).sum≤1000*n
 |0,_=>Nat.le_refl _
 |n+1,hn=>by
  have ih:=sum_le s hN n Om;have:=hN _ (mem_b (show n<N.length from hn));rw[List.range_succ,List.map_append,List.sum_append,List.map_singleton,List.sum_singleton];grind
theorem wgt_le{N:List (List Int)}{t:List Int}(s:List Bool)(hN:∀l∈N,l.length≤1000)(ht:t.length≤1000)(h:N.length≤100):wgt N t s≤101000:=by
 have:=sum_le s hN N.length Nl;grind [wgt]
theorem shr1(i j:Nat):((i:Int)+(j:Int)).fdiv (2 ^ min (1:Int).toNat IntKind.u64.bits)=(((i+j)/2:Nat):Int):=by
 rw[show min (1:Int).toNat IntKind.u64.bits=1 from rfl,Int.fdiv_eq_ediv_of_nonneg _ Dc];omega
section
variable{α:Type}[Inhabited α](c:α→α→Int)
def swp(l:List α)(i j:Nat):List α:=(l.set i l[j]!).set j l[i]!
theorem swp_len(l:List α)(i j:Nat):(swp l i j).length=l.length:=by simp[swp]
theorem swp_mem{l:List α}{i j:Nat}(hi:i<l.length)(hj:j<l.length):∀x∈swp l i j,x∈l:=fun x hx=>by
 rcases List.mem_or_eq_of_mem_set hx with h|rfl<;>grind
def insJ(a:Nat):Nat→List α→List α
 |0,l=>l
 |j+1,l=>if((j+1:Nat):Int)>(a:Int)∧c l[j+1]! l[j]! <0 then insJ a j (swp l (j+1) j)else l
theorem insJ_len(a:Nat):∀(j:Nat) (l:List α),(insJ c a j l).length=l.length
 |0,_=>rfl
 |j+1,l=>by
  unfold insJ;split
  ·rw[insJ_len a j,swp_len]
  ·rfl
theorem insJ_mem(a:Nat):∀(j:Nat) (l:List α),j<l.length→∀x∈insJ c a j l,x∈l
 |0,_,_,x,hx=>hx
 |j+1,l,hj,x,hx=>by
  unfold insJ at hx;split at hx
  ·exact swp_mem hj Om x (insJ_mem a j _ (by rw[swp_len];omega) x hx)
  omega
theorem insJ_go{a j:Nat}{l:List α}(h1:(j:Int)>(a:Int))(h2:c l[j]! l[j-1]! <0):insJ c a j l=insJ c a (j-1) (swp l j (j-1)):=by
 obtain⟨k,rfl⟩:∃k,j=k+1:=⟨j-1,Om⟩;exact if_pos ⟨h1,h2⟩
theorem insJ_stop{a j:Nat}{l:List α}(h:¬(j:Int)>(a:Int)∨¬c l[j]! l[j-1]! <0):insJ c a j l=l:=by
 cases j with
 |zero=>rfl
 |succ k=>exact if_neg fun q=>h.elim (fun h=>h q.1) (fun h=>h q.2)
def insN(a:Nat):Nat→List α→List α
 |0,l=>l
 |k+1,l=>insJ c a (a+1+k) (insN a k l)
theorem insN_len(a:Nat):∀(k:Nat) (l:List α),(insN c a k l).length=l.length
 |0,_=>rfl
 |k+1,l=>by show(insJ c a _ _).length=_;rw[insJ_len,insN_len a k]
theorem insN_mem(a:Nat):∀(k:Nat) (l:List α),a+k<l.length∨k=0→∀x∈insN c a k l,x∈l
 |0,_,_,x,hx=>hx
 |k+1,l,h,x,hx=>by
  have hx':x∈insJ c a (a+1+k) (insN c a k l):=hx;exact insN_mem a k l Om x (insJ_mem c a _ _ (by rw[insN_len];omega) x hx')
def insF(a b:Nat)(l:List α):List α:=insN c a (b-(a+1)) l
theorem insF_len(a b:Nat)(l:List α):(insF c a b l).length=l.length:=insN_len c a _ l
theorem insF_mem{a b:Nat}{l:List α}(h:b≤l.length):∀x∈insF c a b l,x∈l:=insN_mem c a _ l Om
def swr(a b:Nat):Nat→List α→List α
 |0,l=>l
 |k+1,l=>swp (swr a b k l) (a+k) (b+k)
theorem swr_len(a b:Nat):∀(k:Nat) (l:List α),(swr a b k l).length=l.length
 |0,_=>rfl
 |k+1,l=>by show(swp _ _ _).length=_;rw[swp_len,swr_len a b k]
theorem swr_mem(a b:Nat):∀(k:Nat) (l:List α),a+k≤l.length→b+k≤l.length→∀x∈swr a b k l,x∈l
 |0,_,_,_,x,hx=>hx
 |k+1,l,h1,h2,x,hx=>by
  have hx':x∈swp (swr a b k l) (a+k) (b+k):=hx;exact swr_mem a b k l Om Om x (swp_mem (by rw[swr_len];omega) (by rw[swr_len];omega) x hx')
def rotL:Nat→Nat→Nat→Nat→List α→List α
 |0,_,_,_,l=>l
 |f+1,m,i,j,l=>if(i:Int)≠(j:Int)then(if(i:Int)>(j:Int)then rotL f m (i-j) j (swr (m-i) m j l)else rotL f m i (j-i) (swr (m-i) (m+j-i) i l))else swr (m-i) m i l
theorem rotL_len:∀(f m i j:Nat) (l:List α),(rotL f m i j l).length=l.length
 |0,_,_,_,_=>rfl
 |f+1,m,i,j,l=>by
  unfold rotL;split
  ·split
   ·rw[rotL_len f,swr_len]
   ·rw[rotL_len f,swr_len]
  ·rw[swr_len]
theorem rotL_mem:∀(f m i j:Nat) (l:List α),i≤m→m+j≤l.length→∀x∈rotL f m i j l,x∈l
 |0,_,_,_,_,_,_,x,hx=>hx
 |f+1,m,i,j,l,h1,h2,x,hx=>by
  unfold rotL at hx;split at hx
  ·split at hx
   ·exact swr_mem _ _ _ _ Om Om x (rotL_mem f m _ _ _ Om (by rw[swr_len];omega) x hx)
   ·exact swr_mem _ _ _ _ Om Om x (rotL_mem f m _ _ _ Om (by rw[swr_len];omega) x hx)
  ·exact swr_mem _ _ _ _ Om Om x hx
def rotF(a m b:Nat)(l:List α):List α:=rotL (b-a) m (m-a) (b-m) l
def bsF(p:Nat→Prop)[DecidablePred p]:Nat→Nat→Nat→Nat
 |0,i,_=>i
 |f+1,i,j=>if(i:Int)<(j:Int)then(if p ((i+j)/2)then bsF p f ((i+j)/2+1) j else bsF p f i ((i+j)/2))else i
theorem bsF_end{p:Nat→Prop}[DecidablePred p]{f i j:Nat}(h:¬(i:Int)<(j:Int)):bsF p f i j=i:=by
 cases f with
 |zero=>rfl
 |succ f=>exact if_neg h
theorem bsF_rng(p:Nat→Prop)[DecidablePred p]:∀(f i j:Nat),i≤j→i≤bsF p f i j∧bsF p f i j≤j
 |0,i,j,h=>⟨Nat.le_refl _,h⟩
 |f+1,i,j,h=>by
  unfold bsF;split
  ·split
   ·have:=bsF_rng p f ((i+j)/2+1) j Om;omega
   ·have:=bsF_rng p f i ((i+j)/2) Om;omega
  ·omega
def mvU(a:Nat):Nat→List α→List α
 |0,l=>l
 |k+1,l=>swp (mvU a k l) (a+k) (a+k+1)
def mvD(m:Nat):Nat→List α→List α
 |0,l=>l
 |k+1,l=>swp (mvD m k l) (m-k) (m-k-1)
theorem mvU_len(a:Nat):∀(k:Nat) (l:List α),(mvU a k l).length=l.length
 |0,_=>rfl
 |k+1,l=>by show(swp _ _ _).length=_;rw[swp_len,mvU_len a k]
theorem mvD_len(a:Nat):∀(k:Nat) (l:List α),(mvD a k l).length=l.length
 |0,_=>rfl
 |k+1,l=>by show(swp _ _ _).length=_;rw[swp_len,mvD_len a k]
theorem mvU_mem(a:Nat):∀(k:Nat) (l:List α),a+k<l.length→∀x∈mvU a k l,x∈l
 |0,_,_,x,hx=>hx
 |k+1,l,h,x,hx=>by
  have hx':x∈swp (mvU a k l) (a+k) (a+k+1):=hx;exact mvU_mem a k l Om x (swp_mem (by rw[mvU_len];omega) (by rw[mvU_len];omega) x hx')
theorem mvD_mem(m:Nat):∀(k:Nat) (l:List α),m<l.length→∀x∈mvD m k l,x∈l
 |0,_,_,x,hx=>hx
 |k+1,l,h,x,hx=>by
  have hx':x∈swp (mvD m k l) (m-k) (m-k-1):=hx;exact mvD_mem m k l h x (swp_mem (by rw[mvD_len];omega) (by rw[mvD_len];omega) x hx')
def symStart(a m b:Nat)(l:List α):Nat:=
 let mid:=(a+b)/2
 let n:=mid+m
 let start:=if(m:Int)>(mid:Int)then n-b else a
 let r:=if(m:Int)>(mid:Int)then mid else m
 bsF (fun h=>¬c l[n-1-h]! l[h]! <0) (r-start) start r
def sym3(rec:Nat→Nat→Nat→List α→List α)(a m b s:Nat)(l:List α):List α:=
 let mid:=(a+b)/2
 let e:=mid+m-s
 let l1:=if(s:Int)<(m:Int)∧(m:Int)<(e:Int)then rotF s m e l else l
 let l2:=if(a:Int)<(s:Int)∧(s:Int)<(mid:Int)then rec a s mid l1 else l1
 if(mid:Int)<(e:Int)∧(e:Int)<(b:Int)then rec mid e b l2 else l2
def symF:Nat→Nat→Nat→Nat→List α→List α
 |0,_,_,_,l=>l
 |f+1,a,m,b,l=>
  if(m:Int)-(a:Int)=1 then mvU a (bsF (fun h=>c l[h]! l[a]! <0) (b-m) m b-1-a) l
  else if(b:Int)-(m:Int)=1 then mvD m (m-bsF (fun h=>¬c l[m]! l[h]! <0) (m-a) a m) l
  else sym3 (symF f) a m b (symStart c a m b l) l
theorem rotF_len(a m b:Nat)(l:List α):(rotF a m b l).length=l.length:=rotL_len _ _ _ _ _
theorem rotF_mem{a m b:Nat}{l:List α}(h:m≤b)(hb:b≤l.length):∀x∈rotF a m b l,x∈l:=rotL_mem _ _ _ _ _ Om Om
theorem sym3_len{rec:Nat→Nat→Nat→List α→List α}(h:∀a m b l,(rec a m b l).length=l.length)(a m b s:Nat)(l:List α):(sym3 rec a m b s l).length=l.length:=by
 have h1:(if(s:Int)<(m:Int)∧(m:Int)<(((a+b)/2+m-s:Nat):Int)then rotF s m ((a+b)/2+m-s) l else l).length=l.length:=by
  grind [rotF_len]
 grind [sym3]
theorem symF_len:∀(f a m b:Nat) (l:List α),(symF c f a m b l).length=l.length
 |0,_,_,_,_=>rfl
 |f+1,a,m,b,l=>by
  unfold symF;split
  ·rw[mvU_len]
  ·split
   ·rw[mvD_len]
   ·exact sym3_len (fun a m b l=>symF_len f a m b l) _ _ _ _ _
theorem symStart_rng{a m b:Nat}{l:List α}(h1:a<m)(h2:m<b):(a+b)/2+m≤symStart c a m b l+b∧a≤symStart c a m b l∧symStart c a m b l≤(a+b)/2∧symStart c a m b l≤m:=by
 unfold symStart;dsimp only;by_cases q:(m:Int)>(((a+b)/2:Nat):Int)
 ·simp only[if_pos q];have:=bsF_rng (fun h=>¬c l[(a+b)/2+m-1-h]! l[h]! <0) ((a+b)/2-((a+b)/2+m-b)) ((a+b)/2+m-b) ((a+b)/2) Om;omega
 ·simp only[if_neg q];have:=bsF_rng (fun h=>¬c l[(a+b)/2+m-1-h]! l[h]! <0) (m-a) a m Om;omega
theorem symF_mem:∀(f a m b:Nat) (l:List α),a<m→m<b→b≤l.length→∀x∈symF c f a m b l,x∈l
 |0,_,_,_,_,_,_,_,x,hx=>hx
 |f+1,a,m,b,l,h1,h2,h3,x,hx=>by
  unfold symF at hx;split at hx
  ·have:=bsF_rng (fun h=>c l[h]! l[a]! <0) (b-m) m b Om;exact mvU_mem a _ l Om x hx
  ·split at hx
   ·exact mvD_mem m _ l Om x hx
   ·obtain⟨r1,r2,r3,r4⟩:=symStart_rng c (l:=l) h1 h2;generalize symStart c a m b l=s at hx r1 r2 r3 r4;unfold sym3 at hx;dsimp only at hx;have hs:∀x∈(if(s:Int)<(m:Int)∧(m:Int)<(((a+b)/2+m-s:Nat):Int)then rotF s m ((a+b)/2+m-s) l else l),x∈l:=by
     intro x hx;split at hx
     ·exact rotF_mem Om Om x hx
     omega
    have hl1:(if(s:Int)<(m:Int)∧(m:Int)<(((a+b)/2+m-s:Nat):Int)then rotF s m ((a+b)/2+m-s) l else l).length=l.length:=by
     grind [rotF_len]
    generalize (if(s:Int)<(m:Int)∧(m:Int)<(((a+b)/2+m-s:Nat):Int)then rotF s m ((a+b)/2+m-s) l else l)=L1 at hx hs hl1;have hs2:∀x∈(if(a:Int)<(s:Int)∧(s:Int)<(((a+b)/2:Nat):Int)then symF c f a s ((a+b)/2) L1 else L1),x∈l:=by
     intro x hx;split at hx
     ·exact hs x (symF_mem f a s _ L1 Om Om Om x hx)
     grind
    have hl2:(if(a:Int)<(s:Int)∧(s:Int)<(((a+b)/2:Nat):Int)then symF c f a s ((a+b)/2) L1 else L1).length=l.length:=by
     grind [symF_len]
    generalize (if(a:Int)<(s:Int)∧(s:Int)<(((a+b)/2:Nat):Int)then symF c f a s ((a+b)/2) L1 else L1)=L2 at hx hs2 hl2;split at hx
    ·exact hs2 x (symF_mem f _ _ b L2 Om Om Om x hx)
    grind
def stabF(l:List α):List α:=
 if 20≤l.length then
  let l2:=insF c 20 l.length (insF c 0 20 l)
  if 20<l.length then symF c l.length 0 20 l.length l2 else l2
 else insF c 0 l.length l
def st1(l:List α):Nat→List α
 |0=>l
 |k+1=>insF c (20*k) (20*(k+1)) (st1 l k)
theorem st1_len(l:List α):∀k,(st1 c l k).length=l.length
 |0=>rfl
 |k+1=>by show(insF c _ _ _).length=_;rw[insF_len,st1_len l k]
theorem st1_mem(l:List α):∀k,20*k≤l.length→∀x∈st1 c l k,x∈l
 |0,_,x,hx=>hx
 |k+1,h,x,hx=>st1_mem l k Om x (insF_mem c (by rw[st1_len];omega) x hx)
theorem stabF_eq{l:List α}{ph t:Nat}(h1:20*ph≤l.length)(h2:¬20*(ph+1)≤l.length)(h3:l.length≤39)(ht:t≤1)(hx:¬20+20*t<l.length)(h0:t=1→20<l.length):
  (if t=0 then insF c (20*ph) l.length (st1 c l ph)else symF c l.length 0 20 l.length (insF c (20*ph) l.length (st1 c l ph)))=stabF c l:=by
 unfold stabF;by_cases q:20≤l.length
 ·obtain rfl:ph=1:=Om;rw[if_pos q];dsimp only;by_cases q2:20<l.length
  ·rw[if_neg Om,if_pos q2];rfl
  ·rw[if_pos Om,if_neg q2];rfl
 ·obtain rfl:ph=0:=Om;rw[if_neg q,if_pos Om];rfl
theorem stabF_len{l:List α}:(stabF c l).length=l.length:=by
 grind [stabF,symF_len,insF_len]
end
end TW
end Go.Proofs.YtaclfjjipnpboaaGreat
namespace Go.Eng
open Go Go.RowKit Go.WideShapes Go.ChangeShapes Go.WideElems Go.Deep
section
variable{H:Type}{enc:TypeId×Value→H}{P:Program}
theorem trodAll_stays(hl:laidOutB P=true){W W':World}{sp:Nat→Bool}:∀{ts:List TypeId} {vs:List Value} {ds:List (DataW H)} {ps:List MemPlace},
  (ts.all fun t=>P.readableRec t&&decide (t<P.types.size))=true→DataW.TrodAll enc P W 0 (fun _=>true) true ts vs ds ps→(∀p∈ps,W.sameAt W' p)→(∀p∈ps,sp p.block=true)→DataW.TrodAll enc P W' 0 sp true ts vs ds ps
 |[],[],[],_,_,h,_,_=>h
 |t::ts,v::vs,d::ds,ps,hr,h,hs,hp=>by
  obtain⟨p,q,h1,h2,rfl⟩:=h;simp only[List.all_cons,Bool.and_eq_true,decide_eq_true_eq]at hr;exact⟨p,q,Trod_stays hl hr.1.1 hr.1.2 h1 (fun x hx=>hs x (List.mem_append_left _ hx)) (fun x hx=>hp x (List.mem_append_left _ hx)),
   trodAll_stays hl hr.2 h2 (fun x hx=>hs x (List.mem_append_right _ hx)) (fun x hx=>hp x (List.mem_append_right _ hx)),rfl⟩
theorem law_post{f:Func}{s:ChangeSpec}{W W':World}{args:Array Value}{ds gs:List (DataW H)}{before:List MemPlace}{tb:TypeId}(hvars:s.vars=[])(hl:laidOutB P=true)(hr:(f.params.toList.all fun t=>P.readableRec t&&decide (t<P.types.size))=true)
  (hres:f.resultTypes= #[tb]) (htb:P.underlying tb=some .bool) (hW:DataW.Whole enc P f.params.toList s.vars false W args.toList ds gs before)
  (hfn:s.fn H (ds++gs)={results:=[.lit (.bool true)],args:=ds}) (x:Ext W W'):s.post enc P f false true false false W args (.bool true) W':=by
 have hlt:∀p∈before,p.block<W.heap.size:=hW.lt;have hW0:=hW;obtain⟨p,q,hA,hV,rfl,hfz,hnd⟩:=hW;rw[hvars]at hV;have hq:q=[]:=by cases gs with
  |nil=>exact hV
  |cons g gs=>cases hV
 subst hq;have hsame:∀y∈p,W.sameAt W' y:=fun y hy=>Below.same x.toBelow (hlt y (by grind));have hold:∀y∈p,(fun b=>decide (b<W.heap.size)) y.block=true:=fun y hy=>by grind
 refine⟨ds,gs,p++[],[],p,[],hW0,?_,?_,?_,?_,fun h=>by cases h⟩
 ·rw[hfn,hres];exact⟨[],[],shut_bool htb true,rfl,rfl⟩
 ·grind [trodAll_stays]
 ·rw[hvars,hfn];rfl
 ·exact Below.frame x.toBelow _
end
inductive FK where
 |int (k:IntKind)
 |bool
 |str
 |sl
def FK.ok:FK→Value→Prop
 | .int k,v=>∃a,v= .int k a∧(Lit.int k a).wf=true
 | .bool,v=>∃b,v= .bool b
 | .str,v=>∃s,v= .string s∧s.size≤maxLen
 | .sl,v=>∃A n c,v= .slice A n c
def okAll:List FK→List Value→Prop
 |[],[]=>True
 |k::ks,v::vs=>k.ok v∧okAll ks vs
 |_,_=>False
theorem okAll_append:∀{ks kr:List FK} {vs vr:List Value},okAll ks vs→okAll kr vr→okAll (ks++kr) (vs++vr)
 |[],_,[],_,_,h=>h
 |_::_,_,_::_,_,h,h'=>⟨h.1,okAll_append h.2 h'⟩
theorem okAll_length:∀{ks:List FK} {vs:List Value},okAll ks vs→vs.length=ks.length
 |[],[],_=>rfl
 |_::_,_::_,h=>by simp[okAll_length h.2]
def flatFs(g:TypeId→Option (List FK))(cells:TypeId→Nat):Nat→List Field→Option (List FK)
 |_,[]=>some []
 |off,f::r=>match g f.type with
  |none=>none
  |some kf=>if f.offset=off∧cells f.type=kf.length then(flatFs g cells (off+kf.length) r).map (kf++·)else none
def flatK(P:Program):Nat→TypeId→Option (List FK)
 |0,_=>none
 |n+1,t=>match P.underlying t with
  |some (.int k)=>some [.int k]
  |some .bool=>some [.bool]
  |some .string=>some [.str]
  |some (.slice _)=>some [.sl]
  |some (.struct fs)=>(flatFs (flatK P n) P.cellsOf 0 fs.toList).bind fun ks=>if P.cellsOf t=ks.length then some ks else none
  |some (.array m e)=>(flatK P n e).bind fun ks=>if P.cellsOf e=ks.length∧P.cellsOf t=m*ks.length then some (List.replicate m ks).flatten else none
  |_=>none
theorem flatFs_ok{g:TypeId→Option (List FK)}{cells:TypeId→Nat}{cs:List Value}:∀(l:List Field) (off:Nat) (ks:List FK),flatFs g cells off l=some ks→
  (∀f∈l,∀kf,g f.type=some kf→okAll kf ((cs.drop f.offset).take (cells f.type)))→okAll ks ((cs.drop off).take ks.length)
 |[],off,ks,h,_=>by grind [flatFs,okAll]
 |f::r,off,ks,h,hf=>by
  simp only[flatFs]at h;cases hg:g f.type with
  |none=>grind
  |some kf=>
   rw[hg]at h;dsimp only at h;split at h
   ·rename_i hc;cases hr:flatFs g cells (off+kf.length) r with
    |none=>grind
    |some kr=>
     rw[hr]at h;simp at h;subst h;have h1:=hf f (by simp) kf hg;rw[hc.1,hc.2]at h1;have h2:=flatFs_ok r _ kr hr (fun f' hf'=>hf f' (by simp[hf']));simp_all [List.length_append,List.take_add,List.drop_drop,okAll_append]
   ·cases h
section
variable{H:Type}{enc:TypeId×Value→H}{P:Program}{w:World}{base:Nat}{spare:Nat→Bool}{held:Bool}
theorem flat_array{ks:List FK}:∀(m:Nat) (cs:List Value),cs.length=m*ks.length→(∀i,i<m→okAll ks ((cs.drop (i*ks.length)).take ks.length))→okAll (List.replicate m ks).flatten cs
 |0,cs,hl,_=>by
  simp_all [List.nil,List.eq_nil_of_length_eq_zero,okAll]
 |m+1,cs,hl,h=>by
  rw[List.replicate_succ,List.flatten_cons];have h0:=h 0 Om;simp only[Nat.zero_mul,List.drop_zero]at h0;have h1:=flat_array (ks:=ks) m (cs.drop ks.length) (by grind) (fun i hi=>by
   grind [List.drop_drop,Nat.succ_mul,Nat.add_comm])
  grind [okAll_append,List.take_append_drop]
theorem flat_ok:∀(n:Nat) {t:TypeId} {ks:List FK} {fuel:Nat} {cs:List Value} {x:DataW H×List MemPlace},flatK P n t=some ks→DataW.trod enc P w base spare held fuel t cs=some x→okAll ks cs
 |0,_,_,_,_,_,h,_=>by cases h
 |n+1,t,ks,fuel,cs,x,h,hx=>by
  unfold flatK at h;split at h
  ·rename_i k hU;injection h with h;subst h
   obtain⟨a,rfl,_,hw⟩:=DataW.trod_int hU hx;exact⟨⟨a,rfl,hw⟩,trivial⟩
  ·rename_i hU;injection h with h;subst h
   obtain⟨b,rfl,_⟩:=DataW.trod_bool hU hx;exact⟨⟨b,rfl⟩,trivial⟩
  ·rename_i hU;injection h with h;subst h
   obtain⟨s,rfl,_,hs⟩:=DataW.trod_string hU hx;exact⟨⟨s,rfl,hs⟩,trivial⟩
  ·rename_i e hU;injection h with h;subst h
   rcases open_slice hU hx with⟨rfl,_⟩|⟨a,len,cap,_,_,_,_,rfl,_⟩
   ·exact⟨⟨_,_,_,rfl⟩,trivial⟩
   ·exact⟨⟨_,_,_,rfl⟩,trivial⟩
  ·rename_i fs hU;cases hfs:flatFs (flatK P n) P.cellsOf 0 fs.toList with
   |none=>rw[hfs]at h;cases h
   |some kk=>
    rw[hfs]at h;simp only[Option.bind_some]at h;split at h
    ·rename_i hc;injection h with h;subst h
     obtain⟨xs,m,_,_,hl,hxl,hg⟩:=DataW.trod_struct hU hx;have:=flatFs_ok (cs:=cs) fs.toList 0 kk hfs (fun f hf kf hk=>by
      obtain⟨i,hi⟩:=List.mem_iff_getElem?.1 hf;have hi':fs[i]? =some f:=by simpa using hi
      have h1:=hg i f hi';have hlt:i<xs.length:=by rw[hxl];exact(Array.getElem?_eq_some_iff.1 hi').1
      rw[List.getElem?_eq_getElem hlt]at h1;exact flat_ok n hk h1)
     rw[List.drop_zero,List.take_of_length_le Om]at this;exact this
    ·cases h
  ·rename_i m e hU;cases hk:flatK P n e with
   |none=>rw[hk]at h;cases h
   |some kk=>
    rw[hk]at h;simp only[Option.bind_some]at h;split at h
    ·rename_i hc;injection h with h;subst h
     obtain⟨xs,m',_,_,hl,hxl,hg⟩:=DataW.trod_array hU hx;refine flat_array m cs (by rw[hl,hc.2]) (fun i hi=> ?_);have h1:=hg i hi;have hlt:i<xs.length:=by rw[hxl];exact hi
     rw[List.getElem?_eq_getElem hlt,hc.1]at h1;exact flat_ok n hk h1
    ·cases h
  ·cases h
end
theorem okAll_1{k0:FK}{vs:List Value}(h:okAll [k0] vs):∃v0,vs=[v0]∧k0.ok v0:=by
 have hl:=okAll_length h
 match vs,hl with
 |[v0],_=>exact⟨v0,rfl,h.1⟩
theorem okAll_2{k0 k1:FK}{vs:List Value}(h:okAll [k0,k1] vs):∃v0 v1,vs=[v0,v1]∧k0.ok v0∧k1.ok v1:=by
 have hl:=okAll_length h
 match vs,hl with
 |[v0,v1],_=>exact⟨v0,v1,rfl,h.1,h.2.1⟩
theorem okAll_3{k0 k1 k2:FK}{vs:List Value}(h:okAll [k0,k1,k2] vs):∃v0 v1 v2,vs=[v0,v1,v2]∧k0.ok v0∧k1.ok v1∧k2.ok v2:=by
 have hl:=okAll_length h
 match vs,hl with
 |[v0,v1,v2],_=>exact⟨v0,v1,v2,rfl,h.1,h.2.1,h.2.2.1⟩
theorem okAll_5{k0 k1 k2 k3 k4:FK}{vs:List Value}(h:okAll [k0,k1,k2,k3,k4] vs):∃v0 v1 v2 v3 v4,vs=[v0,v1,v2,v3,v4]∧k0.ok v0∧k1.ok v1∧k2.ok v2∧k3.ok v3∧k4.ok v4:=by
 have hl:=okAll_length h
 match vs,hl with
 |[v0,v1,v2,v3,v4],_=>exact⟨v0,v1,v2,v3,v4,rfl,h.1,h.2.1,h.2.2.1,h.2.2.2.1,h.2.2.2.2.1⟩
end Go.Eng
namespace Go.Eng
open Go Go.RowKit Go.WideShapes Go.ChangeShapes Go.WideElems Go.Deep
section
variable{H:Type}{enc:TypeId×Value→H}{P:Program}{w:World}{base:Nat}{spare:Nat→Bool}{held:Bool}
end
end Go.Eng
namespace Go.Proofs.YtaclfjjipnpboaaGreat
open Go Go.Eng
namespace Ck
end Ck
end Go.Proofs.YtaclfjjipnpboaaGreat
namespace Go.Proofs.YtaclfjjipnpboaaGreat
open Go Go.Eng
namespace Ck
theorem mem_compact(zs:List Int)(q:Int):q∈Lib.compact zs↔q∈zs:=by
 unfold Lib.compact Lib.compactUpTo;rw[List.mem_map];constructor
 ·grind
 ·intro hq;obtain⟨j,hj,rfl⟩:=List.mem_iff_getElem.1 hq;have key:∀j,(hj:j<zs.length)→∃a,a∈(List.range zs.length).filter (Lib.keeps zs.toArray)∧zs.toArray[a]! =zs[j]:=by
   intro j
   induction j with
   |zero=>intro hj;exact⟨0,List.mem_filter.2 ⟨by grind,by rfl⟩,by grind⟩
   |succ j ih=>
    intro hj;by_cases hk:Lib.keeps zs.toArray (j+1)=true
    ·exact⟨j+1,List.mem_filter.2 ⟨by grind,hk⟩,by grind⟩
    ·obtain⟨a,ha,he⟩:=ih Om;refine⟨a,ha,?_⟩;rw[he];have hk':=of_decide_eq_false (by unfold Lib.keeps at hk;grind:decide (j+1=0∨zs.toArray[j+1]!≠zs.toArray[j+1-1]!)=false);grind
  grind
end Ck
end Go.Proofs.YtaclfjjipnpboaaGreat
namespace Go.Proofs.YtaclfjjipnpboaaGreat
open Go Go.Eng Go.RowKit
namespace TW
theorem set_at{α:Type}[Inhabited α](l:List α)(i p:Nat)(x:α)(hp:p<l.length):(l.set i x)[p]! =if i=p then x else l[p]! :=by
 rw[bang_eq (by grind),List.getElem_set,bang_eq hp]
theorem mem_at{α:Type}[Inhabited α]{l:List α}{x:α}(h:x∈l):∃i,i<l.length∧l[i]! =x:=by
 obtain⟨i,hi,e⟩:=List.mem_iff_getElem.1 h;exact⟨i,hi,by grind⟩
def evsN(l:List Pk)(j:Nat):List Ev:=fN (fun out p=>out++p.es) [] l j
def evsOf(l:List Pk):List Ev:=evsN l l.length
theorem evsN_len{l:List Pk}(h:∀p∈l,p.es.length=p.k):∀j,j≤l.length→(evsN l j).length=evsum l j
 |0,_=>rfl
 |j+1,hj=>by
  show(evsN l j++l[j]!.es).length=evsum l j+l[j]!.k;rw[List.length_append,evsN_len h j Om,h _ (mem_b hj)]
def sntN(es:List Ev):Nat→List (Int×Int)
 |0=>[]
 |j+1=>if es[j]!.kd=6 then iset (sntN es j) es[j]!.n 1 else sntN es j
def exq(es:List Ev)(j:Nat):Int:=if es[j]!.kd=6∧(iget (sntN es j) es[j]!.n).getD 0>0 then 4 else 0
def exE(ths:List Th)(d:List Dm)(s:List Sn)(l:List Pk):Int:=if lgE ths d s l≠0 then lgE ths d s l else fE (exq (evsOf l)) (idsOf l).length
def sndN(es:List Ev):Nat→List (Int×Int)
 |0=>[]
 |j+1=>if es[j]!.kd=6 then iset (sndN es j) es[j]!.n (j:Int)else sndN es j
theorem sndN_rng(es:List Ev):∀(j:Nat) (x v:Int),iget (sndN es j) x=some v→0≤v∧v<(j:Int)
 |0,_,_,h=>by cases h
 |j+1,x,v,h=>by
  have h:iget (if es[j]!.kd=6 then iset (sndN es j) es[j]!.n (j:Int)else sndN es j) x=some v:=h;split at h
  ·rw[iget_iset]at h;split at h
   ·grind
   ·have:=sndN_rng es j x v h;omega
  ·have:=sndN_rng es j x v h;omega
def nxt1(ids:List Ix)(N:List (List Int))(i:Nat):List (List Int):=if(i:Int)>0∧ids[i-1]!.th=ids[i]!.th then N.set (i-1) (N[i-1]! ++[(i:Int)])else N
def nxt2(es:List Ev)(m:List (Int×Int))(N:List (List Int))(i:Nat):List (List Int):=
 if(iget m es[i]!.n).isSome=true∧es[i]!.kd=7 then N.set ((iget m es[i]!.n).getD 0).toNat (N[((iget m es[i]!.n).getD 0).toNat]! ++[(i:Int)])else N
def nxtN(ids:List Ix)(es:List Ev)(m:List (Int×Int)):Nat→List (List Int)
 |0=>List.replicate ids.length []
 |i+1=>nxt2 es m (nxt1 ids (nxtN ids es m i) i) i
def LB(N:List (List Int))(n:Nat)(B:Nat):Prop:=N.length=n∧∀l∈N,(∀x∈l,0≤x∧x<(n:Int))∧l.length≤B
theorem LB.up{N:List (List Int)}{n B B':Nat}(h:LB N n B)(hB:B≤B'):LB N n B':=⟨h.1,fun l hl=>⟨(h.2 l hl).1,Nat.le_trans (h.2 l hl).2 hB⟩⟩
theorem LB.at_{N:List (List Int)}{n B k:Nat}(h:LB N n B)(hk:k<n):(∀x∈N[k]!,0≤x∧x<(n:Int))∧N[k]!.length≤B:=h.2 _ (mem_b (by rw[h.1];exact hk))
theorem LB.set_{N:List (List Int)}{n B k:Nat}{l:List Int}(h:LB N n B)(hl:(∀x∈l,0≤x∧x<(n:Int))∧l.length≤B):LB (N.set k l) n B:=
 ⟨by rw[List.length_set];exact h.1,fun y hy=>(List.mem_or_eq_of_mem_set hy).elim (h.2 y) fun e=>e▸hl⟩
theorem LB.add{N:List (List Int)}{n B k:Nat}{l:List Int}(h:LB N n B)(hk:k<n)(hl:∀x∈l,0≤x∧x<(n:Int)):LB (N.set k (N[k]! ++l)) n (B+l.length):=
 (h.up Om).set_ ⟨fun x hx=>(List.mem_append.1 hx).elim ((h.at_ hk).1 x) (hl x),by rw[List.length_append];have:=(h.at_ hk).2;omega⟩
theorem nxt1_ok{ids:List Ix}{N:List (List Int)}{n B i:Nat}(h:LB N n B)(hi:i<n):LB (nxt1 ids N i) n (B+1):=by
 unfold nxt1;split
 ·exact h.add (l:=[(i:Int)]) Om fun x hx=>by grind
 ·exact h.up (Nat.le_succ _)
theorem nxt2_ok{es:List Ev}{m:List (Int×Int)}{N:List (List Int)}{n B i:Nat}(h:LB N n B)(hi:i<n)(hm:∀x v,iget m x=some v→0≤v∧v<(n:Int)):LB (nxt2 es m N i) n (B+1):=by
 unfold nxt2;split
 ·rename_i q;obtain⟨v,hv⟩:=Option.isSome_iff_exists.1 q.1;have:=hm _ _ hv;rw[hv];exact h.add (l:=[(i:Int)]) (by grind) fun x hx=>by grind
 ·exact h.up (Nat.le_succ _)
theorem nxtN_ok{ids:List Ix}{es:List Ev}{m:List (Int×Int)}(hm:∀x v,iget m x=some v→0≤v∧v<(ids.length:Int)):∀i,i≤ids.length→LB (nxtN ids es m i) ids.length (2*i)
 |0,_=>⟨List.length_replicate,fun l hl=>by rw[(List.mem_replicate.1 hl).2];grind⟩
 |i+1,hi=>nxt2_ok (nxt1_ok (nxtN_ok hm i Om) Om) Om hm
def csF(l:List Int):List Int:=Lib.compact (srtI l)
theorem csF_len(l:List Int):(csF l).length≤l.length:=by
 unfold csF Lib.compact Lib.compactUpTo;rw[List.length_map];refine Nat.le_trans (List.length_filter_le _ _) ?_;rw[List.length_range,srtI_len];omega
theorem csF_mem{l:List Int}{x:Int}:x∈csF l↔x∈l:=by
 grind [csF,Ck.mem_compact,srtI,List.mem_mergeSort]
def edK(N:List (List Int)):Nat→List (List Int)
 |0=>N
 |i+1=>(edK N i).set i (csF (edK N i)[i]!)
theorem edK_ok{N:List (List Int)}{n B:Nat}(h:LB N n B):∀i,i≤n→LB (edK N i) n B
 |0,_=>h
 |i+1,hi=>by
  have ih:=edK_ok h i Om;have:=ih.at_ (show i<n by omega);exact ih.set_ ⟨fun x hx=>this.1 x (csF_mem.1 hx),Nat.le_trans (csF_len _) this.2⟩
theorem edK_at{N:List (List Int)}:∀i,i≤N.length→(edK N i).length=N.length∧∀p,p<N.length→(edK N i)[p]! =if p<i then csF N[p]! else N[p]!
 |0,_=>⟨rfl,fun p _=>by rfl⟩
 |i+1,hi=>by
  obtain⟨h1,h2⟩:=edK_at (N:=N) i Om;refine⟨by show(List.set _ _ _).length=_;grind,fun p hp=> ?_⟩;show(List.set _ _ _)[p]! =_;grind
def edF(ids:List Ix)(es:List Ev):List (List Int):=edK (nxtN ids es (sndN es es.length) es.length) ids.length
theorem edF_ok{ids:List Ix}{es:List Ev}(h:es.length=ids.length):LB (edF ids es) ids.length (2*ids.length):=by
 unfold edF;rw[h];exact edK_ok (nxtN_ok (fun x v hv=>by have:=sndN_rng es _ x v hv;omega) _ Nl) _ Nl
def lget:List (Int×List Int)→Int→List Int
 |[],_=>[]
 |(k,v)::r,x=>if x=k then v else lget r x
def lset:List (Int×List Int)→Int→List Int→List (Int×List Int)
 |[],x,u=>[(x,u)]
 |(k,v)::r,x,u=>if x=k then(k,u)::r else(k,v)::lset r x u
def dmA(ths:List Th)(ids:List Ix)(i:Nat):Int:=domOf ths ids[i]!.th
def gpN(ths:List Th)(ids:List Ix):Nat→List (Int×List Int)
 |0=>[]
 |i+1=>lset (gpN ths ids i) (dmA ths ids i) (lget (gpN ths ids i) (dmA ths ids i)++[(i:Int)])
def cmpS(a b:ByteArray):Int:=if Y.lt a b=true then-1 else if Y.gt a b=true then 1 else 0
def orF(l:List Int):Int:=fE (fun i=>l[i]!) l.length
def cmpI(a b:Int):Int:=if a<b then-1 else if a>b then 1 else 0
def cmA(es:List Ev)(a b:Int):Int:=cmpI es[a.toNat]!.at_ es[b.toNat]!.at_
def blkF(es:List Ev)(s:List Int)(k:Nat):Nat→Nat→Nat
 |0,n=>n
 |f+1,n=>if(n:Int)<(s.length:Int)∧es[s[n]!.toNat]!.at_=es[s[k]!.toNat]!.at_ then blkF es s k f (n+1)else n
def blkE(es:List Ev)(s:List Int)(k:Nat):Nat:=blkF es s k (s.length-k) k
theorem blkF_rng(es:List Ev)(s:List Int)(k:Nat):∀f n,n≤blkF es s k f n∧(n≤s.length→blkF es s k f n≤s.length)
 |0,n=>⟨Nat.le_refl _,fun h=>h⟩
 |f+1,n=>by
  unfold blkF;split
  ·rename_i q;have:=blkF_rng es s k f (n+1);omega
  omega
theorem blkE_rng(es:List Ev){s:List Int}{k:Nat}(h:k<s.length):k<blkE es s k∧blkE es s k≤s.length:=by
 unfold blkE;obtain⟨f,hf⟩:∃f,s.length-k=f+1:=⟨s.length-k-1,Om⟩;rw[hf];unfold blkF;rw[if_pos ⟨Om,rfl⟩];have:=blkF_rng es s k f (k+1);omega
def putA(N:List (List Int))(bef blk:List Int):Nat→List (List Int)
 |0=>N
 |j+1=>(putA N bef blk j).set bef[j]!.toNat ((putA N bef blk j)[bef[j]!.toNat]! ++blk)
theorem putA_len(N:List (List Int))(bef blk:List Int):∀j,(putA N bef blk j).length=N.length
 |0=>rfl
 |j+1=>by show(List.set _ _ _).length=_;rw[List.length_set];exact putA_len N bef blk j
def rgB(es:List Ev)(s:List Int):Nat→Nat→Nat→List (List Int)→List (List Int)
 |0,_,_,N=>N
 |f+1,k0,k,N=>if(k:Int)<(s.length:Int)then rgB es s f k (blkE es s k) (putA N ((s.take k).drop k0) ((s.take (blkE es s k)).drop k) ((s.take k).drop k0).length)else N
theorem rgB_end{es:List Ev}{s:List Int}{f k0 k:Nat}{N:List (List Int)}(h:¬(k:Int)<(s.length:Int)):rgB es s f k0 k N=N:=by
 cases f with
 |zero=>rfl
 |succ f=>exact if_neg h
theorem rgB_len(es:List Ev)(s:List Int):∀(f k0 k:Nat) (N:List (List Int)),(rgB es s f k0 k N).length=N.length
 |0,_,_,_=>rfl
 |f+1,k0,k,N=>by
  unfold rgB;split
  ·rw[rgB_len es s f,putA_len]
  ·rfl
theorem putA_at(N:List (List Int))(bef blk:List Int)(hb:∀x∈bef,x.toNat<N.length):∀j,j≤bef.length→∀a,a<N.length→(putA N bef blk j)[a]! =N[a]! ++(putA (List.replicate N.length []) bef blk j)[a]!
 |0,_,a,ha=>by
  show N[a]! =N[a]! ++(List.replicate N.length [])[a]!;grind
 |j+1,hj,a,ha=>by
  have ih:=putA_at N bef blk hb j Om;have hk:=hb _ (mem_b (show j<bef.length from hj));show(List.set _ _ _)[a]! =N[a]! ++(List.set _ _ _)[a]!;rw[set_at _ _ _ _ (by grind [putA_len]),set_at _ _ _ _ (by grind [putA_len,List.length_replicate])];grind
theorem rgB_at(es:List Ev)(s:List Int):∀(f k0 k:Nat) (N:List (List Int)),(∀x∈s,x.toNat<N.length)→∀a,a<N.length→(rgB es s f k0 k N)[a]! =N[a]! ++(rgB es s f k0 k (List.replicate N.length []))[a]!
 |0,_,_,N,_,a,ha=>by
  show N[a]! =N[a]! ++(List.replicate N.length [])[a]!;grind
 |f+1,k0,k,N,hs,a,ha=>by
  unfold rgB;have hb:∀x∈(s.take k).drop k0,x.toNat<N.length:=fun x hx=>hs x (List.mem_of_mem_take (List.mem_of_mem_drop hx));split
  ·rw[rgB_at es s f _ _ _ (by grind [putA_len]) a (by grind [putA_len]),putA_at N _ _ hb _ Nl a ha];rw[rgB_at es s f _ _ (putA (List.replicate N.length []) _ _ _) (by grind [putA_len,List.length_replicate]) a (by grind [putA_len,List.length_replicate])];grind [putA_len,List.length_replicate,List.append_assoc]
  grind
def rdS(es:List Ev)(s:List Int)(n a:Nat):List Int:=(rgB es s s.length 0 0 (List.replicate n []))[a]!
theorem rgB_S{es:List Ev}{s:List Int}{N:List (List Int)}(hs:∀x∈s,x.toNat<N.length){a:Nat}(ha:a<N.length):(rgB es s s.length 0 0 N)[a]! =N[a]! ++rdS es s N.length a:=rgB_at es s _ _ _ N hs a ha
theorem putA_mem{N:List (List Int)}{bef blk:List Int}:∀j,j≤bef.length→∀a,a<N.length→(∀i,i<j→bef[i]!.toNat≠a)→(putA N bef blk j)[a]! =N[a]!
 |0,_,_,_,_=>rfl
 |j+1,hj,a,ha,h=>by
  show(List.set _ _ _)[a]! =_;rw[set_at _ _ _ _ (by grind [putA_len]),if_neg (h j Om)];exact putA_mem j Om a ha fun i hi=>h i Om
theorem rgB_mem{es:List Ev}{s:List Int}:∀(f k0 k:Nat) (N:List (List Int)) (a:Nat),a<N.length→(∀x∈s,x.toNat≠a)→(rgB es s f k0 k N)[a]! =N[a]!
 |0,_,_,_,_,_,_=>rfl
 |f+1,k0,k,N,a,ha,h=>by
  unfold rgB;split
  ·rw[rgB_mem f _ _ _ a (by grind [putA_len]) h,putA_mem _ Nl a ha fun i hi=>h _ (List.mem_of_mem_take (List.mem_of_mem_drop (mem_b hi)))]
  ·rfl
theorem rdS_none{es:List Ev}{s:List Int}{n a:Nat}(ha:a<n)(h:∀x∈s,x.toNat≠a):rdS es s n a=[]:=by
 grind [rdS,rgB_mem,bang_eq]
theorem putA_LB{N:List (List Int)}{n B:Nat}{bef blk:List Int}(h:LB N n B)(hn:bef.Nodup)(hb:∀x∈bef,0≤x∧x<(n:Int))(hk:∀x∈blk,0≤x∧x<(n:Int)):∀j,j≤bef.length→LB (putA N bef blk j) n (B+blk.length)
 |0,_=>h.up Om
 |j+1,hj=>by
  have ih:=putA_LB h hn hb hk j Om;have hx:=hb _ (mem_b (show j<bef.length from hj));refine ih.set_ ⟨fun x hx'=>(List.mem_append.1 hx').elim ((ih.at_ Om).1 x) (hk x),?_⟩;rw[putA_mem j Om _ (by rw[h.1];omega) fun i hi e=> ?_]
  ·rw[List.length_append];have:=(h.at_ (show bef[j]!.toNat<n by omega)).2;omega
  grind [mem_b,getElem!,bang_eq,List.getElem_inj]
theorem take_drop_len{s:List Int}{k n:Nat}(h1:k≤n)(h2:n≤s.length):((s.take n).drop k).length=n-k:=by
 grind
theorem rgB_LB{es:List Ev}{s:List Int}{n:Nat}(hn:s.Nodup)(hs:∀x∈s,0≤x∧x<(n:Int)):∀(f k0 k:Nat) (N:List (List Int)) (B:Nat),LB N n B→k≤s.length→LB (rgB es s f k0 k N) n (B+(s.length-k))
 |0,_,_,_,_,h,_=>h.up Om
 |f+1,k0,k,N,B,h,hk=>by
  unfold rgB;split
  ·obtain⟨r1,r2⟩:=blkE_rng es (s:=s) (k:=k) Om;have hp:=putA_LB (blk:=(s.take (blkE es s k)).drop k) h (hn.sublist ((List.drop_sublist _ _).trans (List.take_sublist _ _)):((s.take k).drop k0).Nodup) (fun x hx=>hs x (List.mem_of_mem_take (List.mem_of_mem_drop hx))) (fun x hx=>hs x (List.mem_of_mem_take (List.mem_of_mem_drop hx))) _ Nl;rw[take_drop_len Om r2]at hp;exact(rgB_LB hn hs f _ _ _ _ hp r2).up Om
  grind
structure GpOk(ths:List Th)(ids:List Ix)(G:List (Int×List Int))(i:Nat):Prop where
 keys:(G.map (·.1)).Nodup
 el:∀g∈G,g.2.Nodup∧g.2.length≤i∧∀x∈g.2,0≤x∧x<(i:Int)∧dmA ths ids x.toNat=g.1
theorem lget_mem:∀(G:List (Int×List Int)) (x:Int),lget G x=[]∨(x,lget G x)∈G
 |[],_=>.inl rfl
 |(k,v)::r,x=>by
  by_cases q:x=k
  ·simp_all [lget,List.cons,Prod.mk,if_pos,List.mem_cons_self]
  ·rw[show lget ((k,v)::r) x=lget r x from if_neg q];exact(lget_mem r x).imp id fun h=>List.mem_cons_of_mem _ h
theorem lset_mem:∀{G:List (Int×List Int)} {x:Int} {u:List Int} {y:Int×List Int},y∈lset G x u→y∈G∨y=(x,u)
 |[],x,u,y,h=>.inr (List.mem_singleton.1 h)
 |(k,v)::r,x,u,y,h=>by
  by_cases q:x=k
  ·have e:lset ((k,v)::r) x u=(k,u)::r:=if_pos q;grind
  ·have e:lset ((k,v)::r) x u=(k,v)::lset r x u:=if_neg q;rw[e]at h;rcases List.mem_cons.1 h with h|h
   ·grind
   ·exact(lset_mem h).imp (List.mem_cons_of_mem _) id
theorem lset_keys:∀(G:List (Int×List Int)) (x:Int) (u:List Int),(G.map (·.1)).Nodup→((lset G x u).map (·.1)).Nodup∧∀y,y∈(lset G x u).map (·.1)→y=x∨y∈G.map (·.1)
 |[],x,u,_=>⟨by simp[lset],fun y hy=>.inl (by grind [lset])⟩
 |(k,v)::r,x,u,h=>by
  rw[List.map_cons,List.nodup_cons]at h;by_cases q:x=k
  ·simp_all [lset,List.cons,Prod.mk,if_pos,And.intro,List.map_cons,List.nodup_cons]
  ·have e:lset ((k,v)::r) x u=(k,v)::lset r x u:=if_neg q;obtain⟨a,b⟩:=lset_keys r x u h.2;grind
theorem gpN_ok(ths:List Th)(ids:List Ix):∀i,GpOk ths ids (gpN ths ids i) i
 |0=>⟨List.nodup_nil,fun g hg=>by cases hg⟩
 |i+1=>by
  have ih:=gpN_ok ths ids i;refine⟨(lset_keys _ _ _ ih.keys).1,fun g hg=> ?_⟩;rcases lset_mem hg with h|rfl
  ·obtain⟨a,b,c⟩:=ih.el g h;grind
  ·have key:(lget (gpN ths ids i) (dmA ths ids i)).Nodup∧(lget (gpN ths ids i) (dmA ths ids i)).length≤i∧∀x∈lget (gpN ths ids i) (dmA ths ids i),0≤x∧x<(i:Int)∧dmA ths ids x.toNat=dmA ths ids i:=by
    rcases lget_mem (gpN ths ids i) (dmA ths ids i)with h|h
    ·grind
    ·exact ih.el _ h
   grind
def srtG(es:List Ev)(l:List Int):List Int:=stabF (cmA es) l
def rdF(ths:List Th)(ids:List Ix)(es:List Ev)(N:List (List Int)):List (List Int):=(List.range N.length).map fun a=>N[a]! ++rdS es (srtG es (lget (gpN ths ids ids.length) (dmA ths ids a))) N.length a
def wtI(w:List Int)(l:List Int)(j:Nat):List Int:=fN (fun w k=>w.set k.toNat (w[k.toNat]! +1)) w l j
def wtN(N:List (List Int))(i:Nat):List Int:=fN (fun w l=>wtI w l l.length) (List.replicate N.length 0) N i
def rdyN(w:List Int):Nat→List Int
 |0=>[]
 |i+1=>if w[i]! =0 then rdyN w i++[(i:Int)]else rdyN w i
def kaI(s:List Int×List Int)(k:Int):List Int×List Int:=
 (if s.2[k.toNat]! -1=0 then s.1++[k]else s.1,s.2.set k.toNat (s.2[k.toNat]! -1))
def kaR(s:List Int×List Int)(l:List Int)(j:Nat):List Int×List Int:=fN kaI s l j
def kaF(N:List (List Int)):Nat→List Int→List Int→Nat→Nat
 |0,_,_,d=>d
 |f+1,r,w,d=>if(r.length:Int)>0 then kaF N f (kaR (r.drop 1,w) N[r[0]!.toNat]! N[r[0]!.toNat]!.length).1 (kaR (r.drop 1,w) N[r[0]!.toNat]! N[r[0]!.toNat]!.length).2 (d+1)else d
def wS(w:List Int):Nat:=(w.map Int.toNat).sum
def kaM(r w:List Int):Nat:=r.length+wS w
def kahn(N:List (List Int)):Nat:=kaF N (kaM (rdyN (wtN N N.length) N.length) (wtN N N.length)) (rdyN (wtN N N.length) N.length) (wtN N N.length) 0
theorem wS_set:∀(w:List Int) (k:Nat) (v:Int),k<w.length→wS (w.set k v)+w[k]!.toNat=wS w+v.toNat
 |[],k,v,h=>by simp at h
 |x::r,0,v,h=>by grind [wS]
 |x::r,k+1,v,h=>by
  have ih:=wS_set r k v (by grind);unfold wS at ih ⊢;grind
theorem kaI_M{r w:List Int}{k:Int}(hk:k.toNat<w.length):kaM (kaI (r,w) k).1 (kaI (r,w) k).2≤kaM r w:=by
 grind [wS_set,getElem!,kaI,kaM,List.length_append,List.length_cons,List.length_nil]
theorem kaI_len(s:List Int×List Int)(k:Int):(kaI s k).2.length=s.2.length:=List.length_set
theorem kaF_end{N:List (List Int)}{f d:Nat}{w:List Int}:kaF N f [] w d=d:=by
 cases f with
 |zero=>rfl
 |succ f=>rfl
def soE(ths:List Th)(d:List Dm)(s:List Sn)(l:List Pk):Int:=
 if exE ths d s l≠0 then exE ths d s l
 else if(kahn (rdF ths (idsOf l) (evsOf l) (edF (idsOf l) (evsOf l))):Int)<((idsOf l).length:Int)then 13 else 0
def caN(ths:List Th)(l:List Pk):List (List Int):=rdF ths (idsOf l) (evsOf l) (edF (idsOf l) (evsOf l))
def vcI(ids:List Ix)(N:List (List Int))(th:Int)(at_:Nat):Nat→Int
 |0=>0
 |i+1=>if ids[i]!.th=th∧(i=at_∨(aftF N i)[at_]! =true)then ids[i]!.sr+1 else vcI ids N th at_ i
def vcF(ths:List Th)(ids:List Ix)(N:List (List Int))(at_:Nat)(j:Nat):List Int:=(ths.take j).map fun t=>vcI ids N t.id at_ ids.length
end TW
end Go.Proofs.YtaclfjjipnpboaaGreat
section
attribute [local irreducible] Go.Eng.WC Go.Eng.WL Go.Eng.WK Go.Eng.WQ Go.Eng.WX Go.Eng.Yld
namespace Go.Proofs.YtaclfjjipnpboaaGreat
open Go Go.Eng Go.RowKit
namespace TW
theorem A_l_none{A:Option Addr}{w:World}{n c:Nat}{l:List Int}(h:A.isNone=true)(hl:Ls w A n c ic 1 l):Ls w none n c ic 1 l:=by cases A with|none=>exact hl|some a=>cases h
theorem af_done{N:List (List Int)}{m:Nat}{sn:List Bool}{w:World}{b e:Nat}{v:Value}(h:OwnL w b e bc 1 v sn):OwnL w b e bc 1 v (dfs N m [] sn):=by cases m<;>exact h
theorem cloneI_any(A_l:Option Addr)(n_l c_l:Nat)(l:List Int)(w:World)(h_l:Ls w A_l n_l c_l ic 1 l)(hn:n_l≤100000):
  Calls Tryz.prog 202 #[.slice A_l n_l c_l] w fun e w'=>∃v,e= .returned v∧OwnL w' w.heap.size 3 ic 1 v (l)∧Ext w w':=by
 have H:=(Hp.nil w);have e_l:=h_l.len;have z_l:=h_l.nle;refine Wb Tryz.func202 ?_;refine G6 ?_;refine yy (Y.eqlNilS rfl u65 rfl) ?_;refine go ?_;refine WC.cond rfl (fun h4=> ?_) (fun h4=> ?_)
 ·refine go ?_;refine Rt [_] ?_;have e:l=[]:=none_nil (A_l_none h4 h_l);subst e;exact⟨_,rfl,OwnL.nil_,H.ext⟩
 ·refine go ?_;refine bs0 ic H u65 ti3 fun v7 z H=> ?_;refine go ?_;refine apl H 0 rfl (h_l.ext H.ext) u65 ti3 ic_one (by simp only[List.length_nil];omega) fun v9 z H=> ?_;refine go ?_;refine Rt [_] ?_;exact⟨_,rfl,H.out 0,H.ext⟩
theorem ixfT_any(A_l:Option Addr)(n_l c_l:Nat)(l:List Th)(f:FuncId)(cap:List Value)(pr:Th→Bool)(w:World)(h_l:Ls w A_l n_l c_l Th.c 3 l)(hF:Has Tryz.prog f)(hp:∀k,k<l.length→∀w1,Ext w w1→Calls Tryz.prog f ([]++[Value.agg (Th.c l[k]!).toArray]++cap).toArray w1 fun e w2=>e= .returned (.bool (pr l[k]!))∧Ext w1 w2):
  Cr 179 #[.slice A_l n_l c_l,.func (.func f) #[] cap.toArray] w (.int .i64 (ixP pr l)):=by
 have H:=(Hp.nil w);have e_l:=h_l.len;have z_l:=h_l.nle;refine Wb Tryz.func179 ?_;refine go ?_;refine sb [8,0,1,7] ?_;refine WC.loopS 1 (fun mz Ed W'=>∃j:Nat,mz=n_l-j∧Ed=[(8,.int .i64 ((j:Nat):Int))]∧Hp w W' ([])∧(j≤n_l)∧(∀k,k<j→pr l[k]! =false)) _ ⟨0,rfl,rfl,(H.pick []),(Nat.zero_le _),(fun k h=>absurd h (Nat.not_lt_zero k))⟩ ?_;rintro _ _ z ⟨j,rfl,rfl,H,jl,hb⟩;refine go ?_;refine Cd (fun p6=> ?_) fun p6=> ?_
 ·have b10:j<n_l:=Om;refine go ?_;refine c1V rfl H hF (hp j Om _ H.ext) fun z H=> ?_;refine go ?_;refine WC.cond rfl (fun h11=> ?_) (fun h11=> ?_)
  ·refine go ?_;refine Rt [_] ?_;exact⟨ret1 (vi (ixP_at Om hb h11).symm),H.ext⟩
  ·refine go ?_;exact Rs [(8,_)] Sx ⟨(j+1),rfl,rfl,(H.pick []),Om,(fun k h=>(Nat.lt_succ_iff_lt_or_eq.1 h).elim (hb k) fun e=>e▸h11)⟩
 ·refine go ?_;refine Rt [_] ?_;exact⟨ret1 (vi (ixP_no (fun k hk=>hb k Om)).symm),H.ext⟩
theorem cfT_any(A_l:Option Addr)(n_l c_l:Nat)(l:List Th)(f:FuncId)(cap:List Value)(pr:Th→Bool)(w:World)(h_l:Ls w A_l n_l c_l Th.c 3 l)(hF:Has Tryz.prog f)(hp:∀k,k<l.length→∀w1,Ext w w1→Calls Tryz.prog f ([]++[Value.agg (Th.c l[k]!).toArray]++cap).toArray w1 fun e w2=>e= .returned (.bool (pr l[k]!))∧Ext w1 w2):
  Cr 136 #[.slice A_l n_l c_l,.func (.func f) #[] cap.toArray] w (.bool (decide (ixP pr l≥0))):=by
 have H:=(Hp.nil w);have e_l:=h_l.len;have z_l:=h_l.nle;refine Wb Tryz.func136 ?_;refine G3 ?_;refine sb [0,1] ?_;refine go ?_;refine c1 H Fh (ixfT_any _ _ _ _ f cap pr _ (h_l.ext H.ext) hF (fun k hk w1 x1=>hp k hk w1 (H.ext.trans x1))) fun z H=> ?_;refine go ?_;refine Rt [_] ?_;exact⟨rfl,H.ext⟩
theorem after_any(x:Cw)(ids:List Ix)(es:List Ev)(N:List (List Int))(i:Nat)(w:World)(hw:x.ok 272 w ids es N)(hN:NOk N)(hi:i<N.length)(hnl:ids.length=N.length)(h1:N.length≤100):
  Calls Tryz.prog 156 #[.pointer (some ⟨x.g,0,none⟩),.int .i64 (i:Int)] w fun e w'=>∃v,e= .returned v∧OwnL w' w.heap.size 4 bc 1 v (aftF N i)∧Ext w w':=by
 have H:=(Hp.nil w);obtain⟨hwb,hwi,hwe,hwm,ns,hn1,hn2,rfl⟩:=hw;rw[List.length_map]at hi hnl h1;have e_i:=hwi.len;have e_n:=hn1.len;have hni:=(hn2 _ (mem_b (show i<ns.length by omega))).len;have hnb:=(hN _ (List.mem_map_of_mem (mem_b (show i<ns.length by omega)))).2;refine Wb Tryz.func156 ?_;refine go ?_;refine ms (f:=bc) (m:=x.iN) false H u191 ti4 Om fun v3 z H=> ?_;have b6:i<x.nN:=Om;refine go ?_;refine c2 H Fh (cloneI_any _ _ _ _ _ ((hn2 _ (mem_b (show i<ns.length from Om))).ext H.ext) Om) fun v7 z H=> ?_;refine go ?_;refine sb [6,5,0] ?_;refine WC.loopS 2 (fun mz Ed W'=>∃m:Nat,∃v:Value,∃u:Value,∃t:List Int,∃sn:List Bool,mz=2*m∧Ed=[(6,v),(5,u)]∧Hp w W' (row 3 ic 1 v (t)::row 4 bc 1 u (sn)::[])∧(m=wgt (ns.map Nx.l) t sn)∧(dfs (ns.map Nx.l) m t sn=aftF (ns.map Nx.l) i)∧(∀x∈t,0≤x∧x<((ns.map Nx.l).length:Int))∧(sn.length=(ns.map Nx.l).length)∧(m≤101000)) _ ⟨(wgt (ns.map Nx.l) (ns.map Nx.l)[i]! (List.replicate (ns.map Nx.l).length false)),_,_,(ns.map Nx.l)[i]!,(List.replicate (ns.map Nx.l).length false),rfl,rfl,(by rw[map_b Nx.l Om,List.length_map,←hnl,e_i];exact(H.pick [0,0])),rfl,rfl,(hN _ (mem_b (by rw[List.length_map];omega))).1,(List.length_replicate),(wgt_le _ (fun l hl=>(hN l hl).2) (hN _ (mem_b (by rw[List.length_map];omega))).2 (by rw[List.length_map];omega))⟩ ?_;rintro _ _ z ⟨m,v,u,t,sn,rfl,rfl,H,hm,hd,ht,hsl,hmb⟩;have sl:=sum_le (N:=ns.map Nx.l) sn (fun l hl=>(hN l hl).2) _ Nl;have wl:t.length≤m:=by rw[hm];unfold wgt;omega
 have nl2:(ns.map Nx.l).length=ns.length:=List.length_map _;obtain⟨A10,n11,c12,rfl,e_n11,_,_⟩:=H.op 0;subst e_n11;refine go ?_;refine Cd (fun p15=> ?_) fun p15=> ?_
 ·have hkx:=ht _ (mem_b (show t.length-1<t.length by omega));have hkn:t[t.length-1]!.toNat<(ns.map Nx.l).length:=Om;have b17:(t.length-1)<t.length:=Om;refine G8 ?_;refine yy (Y.indexLs (t.length-1) (H.l 0) rfl u65 ti3 rfl rfl Om b17) ?_;have b19:(t.length-1)≤t.length:=Om;refine G8 ?_;refine yy (Y.sliceH (t.length-1) rfl u65 ti3 rfl rfl Om Om) ?_;have H:=H.cut 0 ((t.length-1)) rfl Om;obtain⟨A21,n22,c23,rfl,_,_,_⟩:=H.op 1;have b24:t[t.length-1]!.toNat<n22:=Om;refine G5 ?_;refine yy (Y.indexLs t[t.length-1]!.toNat (H.l 1) rfl u191 ti4 rfl rfl Om b24) ?_;refine go ?_;refine WC.cond rfl (fun h25=> ?_) (fun h25=> ?_)
  ·have b27:t[t.length-1]!.toNat<n22:=Om;refine G3 ?_;refine yy (Y.indexLs t[t.length-1]!.toNat (H.l 1) rfl u191 ti4 rfl rfl Om b27) ?_;refine ste H 1 rfl true b27 ti4 rfl fun z H=> ?_;have b28:t[t.length-1]!.toNat<x.nN:=Om;refine G1 ?_;refine sb [0,5,6,7] ?_;refine G7 ?_;refine yy (Y.indexLs t[t.length-1]!.toNat (hn1.ext H.ext) rfl u135 ti65 rfl rfl Om b28) ?_;refine go ?_;refine apl H 0 rfl ((hn2 _ (mem_b (show t[t.length-1]!.toNat<ns.length from Om))).ext H.ext) u65 ti3 ic_one (by have hq:=(hN _ (mem_b hkn)).2;rw[map_b Nx.l Om]at hq;rw[List.length_take];omega) fun v29 z H=> ?_;have hg:=wgt_new (N:=ns.map Nx.l) (t:=t) Om hkn hsl (nt_f (not_t h25));rw[map_b Nx.l (by rw[List.length_map]at hkn;exact hkn)]at hg;refine go ?_;exact Rs [(6,_),(5,_)] Sx ⟨(m-1),v29,(.slice A21 n22 c23),((t.take (t.length-1))++ns[t[t.length-1]!.toNat]!.l),(sn.set t[t.length-1]!.toNat true),rfl,rfl,(H.pick [0,0]),Om,(hd.symm.trans (by rw[show m=(m-1)+1 from Om];exact ite_to Om (ite_to (nt_f (not_t h25)) (by rw[map_b Nx.l (by rw[List.length_map]at hkn;exact hkn)];rfl)))).symm,(by intro x hx;rcases List.mem_append.1 hx with h|h;exact ht x (List.mem_of_mem_take h);exact(hN _ (List.mem_map_of_mem (mem_b (by rw[List.length_map]at hkn;exact hkn)))).1 x h),(by rw[List.length_set];exact hsl),Om⟩
  ·have hg:=wgt_seen (N:=ns.map Nx.l) (t:=t) (s:=sn) Om;refine go ?_;exact Rs [(6,_),(5,_)] Sx ⟨(m-1),(.slice A10 ((t.length-1)) c12),(.slice A21 n22 c23),(t.take (t.length-1)),sn,rfl,rfl,(H.pick [0,0]),Om,(hd.symm.trans (by rw[show m=(m-1)+1 from Om];exact ite_to Om (ite_no (not_not_intro (not_f h25)) rfl))).symm,(fun x hx=>ht x (List.mem_of_mem_take hx)),hsl,Om⟩
 ·refine go ?_;refine Rt [_] ?_;have e0:t=[]:=List.length_eq_zero_iff.1 Om;subst e0;exact⟨_,rfl,(by rw[←hd];exact af_done (H.out 1)),H.ext⟩
theorem dom1_any(t:Th)(ga:Nat)(gb:Nat)(i:Nat)(x:Cw)(ids:List Ix)(w:World)(h2:Blk w ga 266 [.pointer (some ⟨x.g,0,none⟩)])(h3:Blk w gb 3 [.int .i64 (i:Int)])(hb:Blk w x.g 272 x.cells)(hids:Ls w x.iA x.iN x.iC Ix.c 2 ids)(hi:i<ids.length):
  Cr 266 #[.agg #[.int .i64 t.id,.string t.nm,.int .i64 t.dom],.pointer (some ⟨ga,0,none⟩),.pointer (some ⟨gb,0,none⟩)] w (.bool (t.id==ids[i]!.th)):=by
 have H:=(Hp.nil w);have e_i:=hids.len;have z_i:=hids.nle;refine Wb Tryz.func266 ?_;refine go ?_;refine bx H fun g2 z H=> ?_;refine go ?_;refine Qr ?_;have b5:i<x.iN:=Om;refine go ?_;refine Qd H fun z H=> ?_;refine go ?_;refine Rt [_] ?_;exact⟨rfl,H.ext⟩
theorem domain_any(x:Cw)(ids:List Ix)(i:Nat)(ths:List Th)(w:World)(hb:Blk w x.g 272 x.cells)(hids:Ls w x.iA x.iN x.iC Ix.c 2 ids)(hths:Ls w x.tA x.tN x.tC Th.c 3 ths)(hi:i<ids.length)(hk:ixP (fun t=>t.id==ids[i]!.th) ths≥0):
  Cr 240 #[.pointer (some ⟨x.g,0,none⟩),.int .i64 (i:Int)] w (.int .i64 (domOf ths ids[i]!.th)):=by
 have H:=(Hp.nil w);have e_i:=hids.len;have z_i:=hids.nle;have e_t:=hths.len;have z_t:=hths.nle;have hl:=ixP_lt (fun t=>t.id==ids[i]!.th) ths;refine Wb Tryz.func240 ?_;refine go ?_;refine bx H fun g2 z H=> ?_;refine bx H fun g4 z H=> ?_;refine G9 ?_;refine yy (Y.func rfl rfl rfl) ?_;refine c1 H Fh (ixfT_any _ _ _ _ 266 [.pointer (some ⟨g2,0,none⟩),.pointer (some ⟨g4,0,none⟩)] (fun t=>t.id==ids[i]!.th) _ (hths.ext H.ext) Fh (fun k hk w1 x1=>dom1_any ths[k]! g2 g4 i x ids w1 (Blk.ext (H.b 1) x1) (Blk.ext (H.b 0) x1) (hb.ext (H.ext.trans x1)) (hids.ext (H.ext.trans x1)) hi)) fun z H=> ?_;have b8:(ixP (fun t=>t.id==ids[i]!.th) ths).toNat<x.tN:=Om;refine G10 ?_;refine yy (Y.indexLs (ixP (fun t=>t.id==ids[i]!.th) ths).toNat (hths.ext H.ext) rfl u22 ti57 rfl rfl Om b8) ?_;refine G4 ?_;refine sb [4] ?_;refine go ?_;refine Rt [_] ?_;exact⟨rfl,H.ext⟩
end TW
end Go.Proofs.YtaclfjjipnpboaaGreat
end
