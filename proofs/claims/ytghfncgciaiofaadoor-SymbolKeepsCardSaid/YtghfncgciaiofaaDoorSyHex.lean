/- Contracts: addresses. Conditions: what each theorem states. -/
import Derived.Test.YtghfncgciaiofaaDoorSyRef
import Derived.Test.YtghfncgciaiofaaDoorSyAdr
namespace Go.Proofs.YtghfncgciaiofaaDoor
open Go Go.Eng Go.RowKit
set_option linter.unusedVariables false
namespace SyW
open R
namespace X
theorem ti5 : TI Tryd.prog 5 (.int .u8 0) 1 1 := TI.mk (by kernel_rfl)
theorem has46 : Has Tryd.prog 46 := ⟨_, Tryd.func46, rfl, by kernel_rfl⟩
theorem has48 : Has Tryd.prog 48 := ⟨_, Tryd.func48, rfl, by kernel_rfl⟩
theorem has51 : Has Tryd.prog 51 := ⟨_, Tryd.func51, rfl, by kernel_rfl⟩
theorem has57 : Has Tryd.prog 57 := ⟨_, Tryd.func57, rfl, by kernel_rfl⟩
theorem lower_any (c : Int) (w : World) (hc : 97 ≤ c ∧ c ≤ 102) :
    Calls Tryd.prog 57 #[.int .u8 c] w fun e w' => e = .returned (.int .u8 c) ∧ Ext w w' := by
  have xW := Ext.refl w
  refine calls_of_WC (args := [.int .u8 c]) Tryd.func57 rfl rfl (ble rfl) ?_
  refine WC.seq (fun K1 k1 => ?_)
  refine WC.region rfl ?_
  refine WL.yld rfl (blt rfl) rfl (Y.assign rfl rfl) ?_
  refine WL.nil ?_
  refine WK.then_normal (k1 _ _ ?_)
  refine WC.sub [(0, _)] ⟨rfl, trivial⟩ ?_
  refine WC.seq (fun K2 k2 => ?_)
  refine WC.region rfl ?_
  refine WL.yld rfl (blt rfl) rfl (Y.move rfl rfl) ?_
  refine WL.yld rfl (blt rfl) rfl (Y.orK rfl rfl rfl (Sy.lower_at hc)) ?_
  refine WL.yld rfl (blt rfl) rfl (Y.assign rfl rfl) ?_
  refine WL.nil ?_
  refine WK.then_normal (k2 _ _ ?_)
  refine WC.sub [(2, _)] ⟨rfl, trivial⟩ ?_
  refine WC.ret ?_
  clear k1 k2
  refine WK.ret [_] rfl ⟨rfl, trivial⟩ ?_
  exact ⟨rfl, xW⟩
theorem puint_any (t : ByteArray)   (w : World) (hx : Sy.AllHex t t.size) (hs : 1 ≤ t.size ∧ t.size ≤ 12) :
    Calls Tryd.prog 51 #[.string t, .int .i64 16, .int .i64 64] w fun e w' => e = .returned (.tuple #[.int .u64 (Sy.hv t t.size), .nilIface]) ∧ Ext w w' := by
  have xW := Ext.refl w
  refine calls_of_WC (args := [.string t, .int .i64 16, .int .i64 64]) Tryd.func51 rfl rfl (ble rfl) ?_
  refine WC.seq (fun K1 k1 => ?_)
  refine WC.region rfl ?_
  refine WL.yld rfl (blt rfl) rfl (Y.assign rfl rfl) ?_
  refine WL.yld rfl (blt rfl) rfl (Y.assign rfl rfl) ?_
  refine WL.nil ?_
  refine WK.then_normal (k1 _ _ ?_)
  refine WC.sub [(0, _), (1, _), (2, _)] ⟨rfl, rfl, rfl, trivial⟩ ?_
  refine WC.seq (fun K2 k2 => ?_)
  refine WC.seq (fun K3 k3 => ?_)
  refine WC.region rfl ?_
  refine WL.yld rfl (blt rfl) rfl (Y.move rfl rfl) ?_
  refine WL.yld rfl (blt rfl) rfl (Yld.cast (Y.eqlStr rfl rfl rfl) (vb (b := false) (Sy.ne_empty (by omega)))) ?_
  refine WL.nil ?_
  refine WK.then_normal (k3 _ _ ?_)
  refine WC.sub [(0, _), (1, _), (2, _), (19, _)] ⟨rfl, rfl, rfl, rfl, trivial⟩ ?_
  refine WC.condF rfl ?_
  refine WC.skip ?_
  refine WK.then_normal (k2 _ _ ?_)
  refine WC.sub [(0, _), (1, _), (2, _)] ⟨rfl, rfl, rfl, trivial⟩ ?_
  refine WC.seq (fun K4 k4 => ?_)
  refine WC.region rfl ?_
  refine WL.yld rfl (blt rfl) rfl (Y.move rfl rfl) ?_
  refine WL.yld rfl (blt rfl) rfl (Yld.cast (Y.eql rfl rfl rfl) (vb (b := false) (by decide))) ?_
  refine WL.yld rfl (blt rfl) rfl (Y.assign rfl rfl) ?_
  refine WL.nil ?_
  refine WK.then_normal (k4 _ _ ?_)
  refine WC.sub [(0, _), (1, _), (2, _), (8, _)] ⟨rfl, rfl, rfl, rfl, trivial⟩ ?_
  refine WC.seq (fun K5 k5 => ?_)
  refine WC.region rfl ?_
  refine WL.yld rfl (blt rfl) rfl (Y.move rfl rfl) ?_
  refine WL.yld rfl (blt rfl) rfl (Y.assign rfl rfl) ?_
  refine WL.nil ?_
  refine WK.then_normal (k5 _ _ ?_)
  refine WC.sub [(0, _), (1, _), (2, _), (8, _), (9, _)] ⟨rfl, rfl, rfl, rfl, rfl, trivial⟩ ?_
  refine WC.seq (fun K6 k6 => ?_)
  refine WC.block ?_
  refine WC.seq (fun K7 k7 => ?_)
  refine WC.region rfl ?_
  refine WL.yld rfl (blt rfl) rfl (Y.move rfl rfl) ?_
  refine WL.yld rfl (blt rfl) rfl (Yld.cast (Y.leq rfl rfl rfl) (vb (b := true) (by decide))) ?_
  refine WL.yld rfl (blt rfl) rfl (Y.move rfl rfl) ?_
  refine WL.yldW rfl (blt rfl) rfl rfl rfl (Y.move rfl rfl) ?_
  refine WL.yldW rfl (blt rfl) rfl rfl rfl (Yld.cast (Y.leq rfl rfl rfl) (vb (b := true) (by decide))) ?_
  refine WL.yld rfl (blt rfl) rfl (Y.pickT rfl rfl rfl) ?_
  refine WL.yld rfl (blt rfl) rfl (Y.assign rfl rfl) ?_
  refine WL.nil ?_
  refine WK.then_normal (k7 _ _ ?_)
  refine WC.sub [(0, _), (1, _), (2, _), (8, _), (9, _), (25, _)] ⟨rfl, rfl, rfl, rfl, rfl, rfl, trivial⟩ ?_
  refine WC.condT rfl ?_
  refine WC.skip ?_
  refine WK.in_normal ?_
  refine WK.then_normal (k6 _ _ ?_)
  refine WC.sub [(0, _), (1, _), (2, _), (8, _), (9, _)] ⟨rfl, rfl, rfl, rfl, rfl, trivial⟩ ?_
  refine WC.seq (fun K8 k8 => ?_)
  refine WC.seq (fun K9 k9 => ?_)
  refine WC.region rfl ?_
  refine WL.yld rfl (blt rfl) rfl (Y.move rfl rfl) ?_
  refine WL.yld rfl (blt rfl) rfl (Yld.cast (Y.eql rfl rfl rfl) (vb (b := false) (by decide))) ?_
  refine WL.nil ?_
  refine WK.then_normal (k9 _ _ ?_)
  refine WC.sub [(0, _), (1, _), (2, _), (8, _), (9, _), (77, _)] ⟨rfl, rfl, rfl, rfl, rfl, rfl, trivial⟩ ?_
  refine WC.condF rfl ?_
  refine WC.seq (fun K10 k10 => ?_)
  refine WC.region rfl ?_
  refine WL.yld rfl (blt rfl) rfl (Y.move rfl rfl) ?_
  refine WL.yld rfl (blt rfl) rfl (Yld.cast (Y.lss rfl rfl rfl) (vb (b := false) (by decide))) ?_
  refine WL.yld rfl (blt rfl) rfl (Y.move rfl rfl) ?_
  refine WL.yldW rfl (blt rfl) rfl rfl rfl (Y.move rfl rfl) ?_
  refine WL.yldW rfl (blt rfl) rfl rfl rfl (Yld.cast (Y.gtr rfl rfl rfl) (vb (b := false) (by decide))) ?_
  refine WL.yld rfl (blt rfl) rfl (Y.pickF rfl rfl rfl) ?_
  refine WL.nil ?_
  refine WK.then_normal (k10 _ _ ?_)
  refine WC.sub [(0, _), (1, _), (2, _), (8, _), (9, _), (83, _)] ⟨rfl, rfl, rfl, rfl, rfl, rfl, trivial⟩ ?_
  refine WC.condF rfl ?_
  refine WC.skip ?_
  refine WK.then_normal (k8 _ _ ?_)
  refine WC.sub [(0, _), (1, _), (2, _), (8, _), (9, _)] ⟨rfl, rfl, rfl, rfl, rfl, trivial⟩ ?_
  refine WC.seq (fun K11 k11 => ?_)
  refine WC.region rfl ?_
  refine WL.yld rfl (blt rfl) rfl (Y.assign rfl rfl) ?_
  refine WL.nil ?_
  refine WK.then_normal (k11 _ _ ?_)
  refine WC.sub [(0, _), (1, _), (2, _), (8, _), (9, _)] ⟨rfl, rfl, rfl, rfl, rfl, trivial⟩ ?_
  refine WC.seq (fun K12 k12 => ?_)
  refine WC.seq (fun K13 k13 => ?_)
  refine WC.region rfl ?_
  refine WL.yld rfl (blt rfl) rfl (Y.move rfl rfl) ?_
  refine WL.nil ?_
  refine WK.then_normal (k13 _ _ ?_)
  refine WC.block ?_
  refine WC.seq (fun K14 k14 => ?_)
  refine WC.region rfl ?_
  refine WL.yld rfl (blt rfl) rfl (Yld.cast (Y.eql rfl rfl rfl) (vb (b := false) (by decide))) ?_
  refine WL.yld rfl (blt rfl) rfl (Y.assign rfl rfl) ?_
  refine WL.nil ?_
  refine WK.then_normal (k14 _ _ ?_)
  refine WC.sub [(0, _), (1, _), (2, _), (8, _), (9, _), (85, _), (90, _)] ⟨rfl, rfl, rfl, rfl, rfl, rfl, rfl, trivial⟩ ?_
  refine WC.condF rfl ?_
  refine WC.seq (fun K15 k15 => ?_)
  refine WC.region rfl ?_
  refine WL.yld rfl (blt rfl) rfl (Yld.cast (Y.eql rfl rfl rfl) (vb (b := true) (by decide))) ?_
  refine WL.yld rfl (blt rfl) rfl (Y.assign rfl rfl) ?_
  refine WL.nil ?_
  refine WK.then_normal (k15 _ _ ?_)
  refine WC.sub [(0, _), (1, _), (2, _), (8, _), (9, _), (92, _)] ⟨rfl, rfl, rfl, rfl, rfl, rfl, trivial⟩ ?_
  refine WC.condT rfl ?_
  refine WC.region rfl ?_
  refine WL.yld rfl (blt rfl) rfl (Y.assign rfl rfl) ?_
  refine WL.nil ?_
  refine WK.in_normal ?_
  refine WK.then_normal (k12 _ _ ?_)
  refine WC.sub [(0, _), (1, _), (2, _), (8, _), (9, _), (10, _)] ⟨rfl, rfl, rfl, rfl, rfl, rfl, trivial⟩ ?_
  refine WC.seq (fun K16 k16 => ?_)
  refine WC.region rfl ?_
  refine WL.yld rfl (blt rfl) rfl (Y.move rfl rfl) ?_
  refine WL.yld rfl (blt rfl) rfl (Y.convInt rfl Tryd.underlying3 Tryd.underlying80 rfl (wrap_u64 (by first | omega | (dsimp only; omega)))) ?_
  refine WL.yld rfl (blt rfl) rfl (Y.shl rfl rfl rfl (by omega) (show _ = (0 : Int) from by decide)) ?_
  refine WL.yld rfl (blt rfl) rfl (Y.sub rfl rfl rfl (show _ = (18446744073709551615 : Int) from by decide)) ?_
  refine WL.yld rfl (blt rfl) rfl (Y.assign rfl rfl) ?_
  refine WL.nil ?_
  refine WK.then_normal (k16 _ _ ?_)
  refine WC.sub [(0, _), (1, _), (8, _), (9, _), (10, _), (11, _)] ⟨rfl, rfl, rfl, rfl, rfl, rfl, trivial⟩ ?_
  refine WC.seq (fun K17 k17 => ?_)
  refine WC.region rfl ?_
  refine WL.yld rfl (blt rfl) rfl (Y.assign rfl rfl) ?_
  refine WL.nil ?_
  refine WK.then_normal (k17 _ _ ?_)
  refine WC.seq (fun K18 k18 => ?_)
  refine WC.region rfl ?_
  refine WL.yld rfl (blt rfl) rfl (Y.assign rfl rfl) ?_
  refine WL.nil ?_
  refine WK.then_normal (k18 _ _ ?_)
  refine WC.seq (fun K19 k19 => ?_)
  refine WC.seq (fun K20 k20 => ?_)
  refine WC.region rfl ?_
  refine WL.yld rfl (blt rfl) rfl (Y.move rfl rfl) ?_
  refine WL.bytes rfl (blt rfl) rfl rfl Tryd.underlying9 Tryd.underlying85 Tryd.underlying5 rfl (by omega) (fun A21 c22 w23 x24 hl25 => ?_)
  have xW := Ext.trans xW x24
  refine WL.yld rfl (blt rfl) rfl (Y.lenSl rfl rfl rfl Tryd.underlying85 rfl) ?_
  refine WL.yld rfl (blt rfl) rfl (Y.move rfl rfl) ?_
  refine WL.nil ?_
  refine WK.then_normal (k20 _ _ ?_)
  refine WC.sub [(1, _), (8, _), (9, _), (10, _), (11, _), (12, _), (13, _), (99, _), (100, _), (101, _)] ⟨rfl, rfl, rfl, rfl, rfl, rfl, rfl, rfl, rfl, rfl, trivial⟩ ?_
  refine WC.block ?_
  refine WC.sub [(101, _), (13, _), (1, _), (8, _), (9, _), (10, _), (11, _), (12, _), (99, _), (100, _)] ⟨rfl, rfl, rfl, rfl, rfl, rfl, rfl, rfl, rfl, rfl, trivial⟩ ?_
  refine WC.loopS 2 (fun mz Ed W' => ∃ i : Nat, ∃ z : Int, mz = t.size - i ∧ Ed = [(101, .int .i64 ((i : Nat) : Int)), (13, .int .u64 z)] ∧ Ext w W' ∧ Ls W' A21 t.size c22 uc 1 (bytesL t) ∧ (i ≤ t.size) ∧ (z = Sy.hv t i)) _ ⟨0, 0, rfl, rfl, xW, hl25, (Nat.zero_le _), rfl⟩ ?_
  rintro _ _ w26 ⟨i, z, rfl, rfl, xW, hl25, le_i, zi⟩
  refine WC.sub [(101, _), (13, _), (1, _), (8, _), (9, _), (10, _), (11, _), (12, _), (99, _), (100, _)] ⟨rfl, rfl, rfl, rfl, rfl, rfl, rfl, rfl, rfl, rfl, trivial⟩ ?_
  refine WC.seq (fun K27 k27 => ?_)
  refine WC.region rfl ?_
  refine WL.yld rfl (blt rfl) rfl (Y.lss rfl rfl rfl) ?_
  refine WL.nil ?_
  refine WK.then_normal (k27 _ _ ?_)
  refine WC.seq (fun K28 k28 => ?_)
  refine WC.cond rfl (fun h29 => ?_) (fun h29 => ?_)
  ·
    have p29 := (dec_t h29)
    have hh := (Sy.hexB_iff _).1 (hx i (by omega))
    have hr := Sy.hv_rng (t := t) (n := i) (fun j hj => hx j (by omega)) (by omega)
    refine WC.skip ?_
    refine WK.then_normal (k28 _ _ ?_)
    refine WC.sub [(1, _), (8, _), (9, _), (10, _), (11, _), (12, _), (13, _), (99, _), (100, _), (101, _)] ⟨rfl, rfl, rfl, rfl, rfl, rfl, rfl, rfl, rfl, rfl, trivial⟩ ?_
    refine WC.seq (fun K30 k30 => ?_)
    refine WC.block ?_
    refine WC.seq (fun K31 k31 => ?_)
    refine WC.region rfl ?_
    have b32 : i < t.size := by omega
    refine WL.yld rfl (blt rfl) rfl (Y.indexLs i hl25 rfl Tryd.underlying85 ti5 rfl rfl rfl b32) ?_
    refine WL.yld rfl (blt rfl) rfl (Yld.cast (Y.load1 rfl Tryd.underlying5 rfl rfl (Ls.at_eq hl25 b32 rfl)) (vi (b := bat t i) (bytesL_at (by omega)))) ?_
    refine WL.yld rfl (blt rfl) rfl (Y.assign rfl rfl) ?_
    refine WL.nil ?_
    refine WK.then_normal (k31 _ _ ?_)
    refine WC.sub [(1, _), (8, _), (9, _), (10, _), (11, _), (12, _), (13, _), (15, _), (99, _), (100, _), (101, _)] ⟨rfl, rfl, rfl, rfl, rfl, rfl, rfl, rfl, rfl, rfl, rfl, trivial⟩ ?_
    refine WC.seq (fun K33 k33 => ?_)
    refine WC.region rfl ?_
    refine WL.yld rfl (blt rfl) rfl (Y.assign rfl rfl) ?_
    refine WL.nil ?_
    refine WK.then_normal (k33 _ _ ?_)
    refine WC.sub [(1, _), (8, _), (9, _), (10, _), (11, _), (12, _), (13, _), (15, _), (99, _), (100, _), (101, _)] ⟨rfl, rfl, rfl, rfl, rfl, rfl, rfl, rfl, rfl, rfl, rfl, trivial⟩ ?_
    refine WC.seq (fun K34 k34 => ?_)
    refine WC.block ?_
    refine WC.seq (fun K35 k35 => ?_)
    refine WC.region rfl ?_
    refine WL.yld rfl (blt rfl) rfl (Y.move rfl rfl) ?_
    refine WL.yld rfl (blt rfl) rfl (Y.eql rfl rfl rfl) ?_
    refine WL.yld rfl (blt rfl) rfl (Y.move rfl rfl) ?_
    refine WL.yldG rfl (blt rfl) rfl rfl rfl (fun hb => Y.move rfl rfl) ?_
    refine WL.yld rfl (blt rfl) rfl (Yld.cast (Y.and rfl rfl rfl rfl) (vb (b := false) (Bool.and_false _))) ?_
    refine WL.yld rfl (blt rfl) rfl (Y.assign rfl rfl) ?_
    refine WL.nil ?_
    refine WK.then_normal (k35 _ _ ?_)
    refine WC.sub [(1, _), (8, _), (9, _), (10, _), (11, _), (12, _), (13, _), (15, _), (99, _), (100, _), (101, _), (106, _)] ⟨rfl, rfl, rfl, rfl, rfl, rfl, rfl, rfl, rfl, rfl, rfl, rfl, trivial⟩ ?_
    refine WC.condF rfl ?_
    refine WC.seq (fun K36 k36 => ?_)
    refine WC.region rfl ?_
    refine WL.yld rfl (blt rfl) rfl (Y.move rfl rfl) ?_
    refine WL.yld rfl (blt rfl) rfl (Y.leq rfl rfl rfl) ?_
    refine WL.yld rfl (blt rfl) rfl (Y.move rfl rfl) ?_
    refine WL.yldG rfl (blt rfl) rfl rfl rfl (fun hb => Y.move rfl rfl) ?_
    refine WL.yldG rfl (blt rfl) rfl rfl rfl (fun hb => Y.leq rfl (evg rfl hb) rfl) ?_
    refine WL.yld rfl (blt rfl) rfl (Y.and rfl rfl rfl rfl) ?_
    refine WL.yld rfl (blt rfl) rfl (Y.assign rfl rfl) ?_
    refine WL.nil ?_
    refine WK.then_normal (k36 _ _ ?_)
    refine WC.sub [(1, _), (8, _), (9, _), (10, _), (11, _), (12, _), (13, _), (15, _), (99, _), (100, _), (101, _), (112, _)] ⟨rfl, rfl, rfl, rfl, rfl, rfl, rfl, rfl, rfl, rfl, rfl, rfl, trivial⟩ ?_
    refine WC.cond rfl (fun h37 => ?_) (fun h37 => ?_)
    ·
      have p37 := (And.intro (dec_t (and_t h37).1) (dec_t (and_t h37).2))
      refine WC.region rfl ?_
      refine WL.yld rfl (blt rfl) rfl (Y.move rfl rfl) ?_
      refine WL.yld rfl (blt rfl) rfl (Y.sub rfl rfl rfl (wrap_u8 (by first | omega | (dsimp only; omega)))) ?_
      refine WL.yld rfl (blt rfl) rfl (Y.assign rfl rfl) ?_
      refine WL.nil ?_
      refine WK.in_normal ?_
      refine WK.then_normal (k34 _ _ ?_)
      refine WC.sub [(1, _), (8, _), (9, _), (10, _), (11, _), (12, _), (13, _), (16, _), (99, _), (100, _), (101, _)] ⟨rfl, rfl, rfl, rfl, rfl, rfl, rfl, rfl, rfl, rfl, rfl, trivial⟩ ?_
      refine WC.seq (fun K38 k38 => ?_)
      refine WC.seq (fun K39 k39 => ?_)
      refine WC.region rfl ?_
      refine WL.yld rfl (blt rfl) rfl (Y.move rfl rfl) ?_
      refine WL.yld rfl (blt rfl) rfl (Y.move rfl rfl) ?_
      refine WL.yld rfl (blt rfl) rfl (Y.convInt rfl Tryd.underlying3 Tryd.underlying5 rfl (wrap_u8 (by first | omega | (dsimp only; omega)))) ?_
      refine WL.yld rfl (blt rfl) rfl (Yld.cast (Y.geq rfl rfl rfl) (vb (b := false) (decide_eq_false (by omega)))) ?_
      refine WL.nil ?_
      refine WK.then_normal (k39 _ _ ?_)
      refine WC.sub [(1, _), (8, _), (9, _), (10, _), (11, _), (12, _), (13, _), (16, _), (99, _), (100, _), (101, _), (137, _)] ⟨rfl, rfl, rfl, rfl, rfl, rfl, rfl, rfl, rfl, rfl, rfl, rfl, trivial⟩ ?_
      refine WC.condF rfl ?_
      refine WC.skip ?_
      refine WK.then_normal (k38 _ _ ?_)
      refine WC.sub [(1, _), (8, _), (9, _), (10, _), (11, _), (12, _), (13, _), (16, _), (99, _), (100, _), (101, _)] ⟨rfl, rfl, rfl, rfl, rfl, rfl, rfl, rfl, rfl, rfl, rfl, trivial⟩ ?_
      refine WC.seq (fun K40 k40 => ?_)
      refine WC.seq (fun K41 k41 => ?_)
      refine WC.region rfl ?_
      refine WL.yld rfl (blt rfl) rfl (Y.move rfl rfl) ?_
      refine WL.yld rfl (blt rfl) rfl (Y.move rfl rfl) ?_
      refine WL.yld rfl (blt rfl) rfl (Yld.cast (Y.geq rfl rfl rfl) (vb (b := false) (decide_eq_false (by omega)))) ?_
      refine WL.nil ?_
      refine WK.then_normal (k41 _ _ ?_)
      refine WC.sub [(1, _), (8, _), (9, _), (10, _), (11, _), (12, _), (13, _), (16, _), (99, _), (100, _), (101, _), (141, _)] ⟨rfl, rfl, rfl, rfl, rfl, rfl, rfl, rfl, rfl, rfl, rfl, rfl, trivial⟩ ?_
      refine WC.condF rfl ?_
      refine WC.skip ?_
      refine WK.then_normal (k40 _ _ ?_)
      refine WC.sub [(1, _), (8, _), (9, _), (10, _), (11, _), (12, _), (13, _), (16, _), (99, _), (100, _), (101, _)] ⟨rfl, rfl, rfl, rfl, rfl, rfl, rfl, rfl, rfl, rfl, rfl, trivial⟩ ?_
      refine WC.seq (fun K42 k42 => ?_)
      refine WC.region rfl ?_
      refine WL.yld rfl (blt rfl) rfl (Y.move rfl rfl) ?_
      refine WL.yld rfl (blt rfl) rfl (Y.move rfl rfl) ?_
      refine WL.yld rfl (blt rfl) rfl (Y.convInt rfl Tryd.underlying3 Tryd.underlying77 rfl (wrap_u64 (by first | omega | (dsimp only; omega)))) ?_
      refine WL.yld rfl (blt rfl) rfl (Y.mul rfl rfl rfl (wrap_u64 (by first | omega | (dsimp only; omega)))) ?_
      refine WL.yld rfl (blt rfl) rfl (Y.assign rfl rfl) ?_
      refine WL.nil ?_
      refine WK.then_normal (k42 _ _ ?_)
      refine WC.sub [(1, _), (8, _), (9, _), (10, _), (11, _), (12, _), (13, _), (16, _), (99, _), (100, _), (101, _)] ⟨rfl, rfl, rfl, rfl, rfl, rfl, rfl, rfl, rfl, rfl, rfl, trivial⟩ ?_
      refine WC.seq (fun K43 k43 => ?_)
      refine WC.region rfl ?_
      refine WL.yld rfl (blt rfl) rfl (Y.move rfl rfl) ?_
      refine WL.yld rfl (blt rfl) rfl (Y.move rfl rfl) ?_
      refine WL.yld rfl (blt rfl) rfl (Y.convInt rfl Tryd.underlying5 Tryd.underlying77 rfl (wrap_u64 (by first | omega | (dsimp only; omega)))) ?_
      refine WL.yld rfl (blt rfl) rfl (Y.add rfl rfl rfl (wrap_u64 (by first | omega | (dsimp only; omega)))) ?_
      refine WL.yld rfl (blt rfl) rfl (Y.assign rfl rfl) ?_
      refine WL.nil ?_
      refine WK.then_normal (k43 _ _ ?_)
      refine WC.sub [(1, _), (8, _), (9, _), (10, _), (11, _), (12, _), (13, _), (17, _), (99, _), (100, _), (101, _)] ⟨rfl, rfl, rfl, rfl, rfl, rfl, rfl, rfl, rfl, rfl, rfl, trivial⟩ ?_
      refine WC.seq (fun K44 k44 => ?_)
      refine WC.seq (fun K45 k45 => ?_)
      refine WC.region rfl ?_
      refine WL.yld rfl (blt rfl) rfl (Y.move rfl rfl) ?_
      refine WL.yld rfl (blt rfl) rfl (Y.move rfl rfl) ?_
      refine WL.yld rfl (blt rfl) rfl (Yld.cast (Y.lss rfl rfl rfl) (vb (b := false) (decide_eq_false (by omega)))) ?_
      refine WL.yld rfl (blt rfl) rfl (Y.move rfl rfl) ?_
      refine WL.yldW rfl (blt rfl) rfl rfl rfl (Y.move rfl rfl) ?_
      refine WL.yldW rfl (blt rfl) rfl rfl rfl (Y.move rfl rfl) ?_
      refine WL.yldW rfl (blt rfl) rfl rfl rfl (Yld.cast (Y.gtr rfl rfl rfl) (vb (b := false) (decide_eq_false (by omega)))) ?_
      refine WL.yld rfl (blt rfl) rfl (Y.pickF rfl rfl rfl) ?_
      refine WL.nil ?_
      refine WK.then_normal (k45 _ _ ?_)
      refine WC.sub [(1, _), (8, _), (9, _), (10, _), (11, _), (12, _), (17, _), (99, _), (100, _), (101, _), (159, _)] ⟨rfl, rfl, rfl, rfl, rfl, rfl, rfl, rfl, rfl, rfl, rfl, trivial⟩ ?_
      refine WC.condF rfl ?_
      refine WC.skip ?_
      refine WK.then_normal (k44 _ _ ?_)
      refine WC.sub [(1, _), (8, _), (9, _), (10, _), (11, _), (12, _), (17, _), (99, _), (100, _), (101, _)] ⟨rfl, rfl, rfl, rfl, rfl, rfl, rfl, rfl, rfl, rfl, trivial⟩ ?_
      refine WC.region rfl ?_
      refine WL.yld rfl (blt rfl) rfl (Y.move rfl rfl) ?_
      refine WL.yld rfl (blt rfl) rfl (Y.assign rfl rfl) ?_
      refine WL.nil ?_
      refine WK.in_normal ?_
      refine WK.then_normal (k30 _ _ ?_)
      refine WC.sub [(1, _), (8, _), (9, _), (10, _), (11, _), (12, _), (13, _), (99, _), (100, _), (101, _)] ⟨rfl, rfl, rfl, rfl, rfl, rfl, rfl, rfl, rfl, rfl, trivial⟩ ?_
      refine WC.region rfl ?_
      refine WL.yld rfl (blt rfl) rfl (Y.add rfl rfl rfl (wrap_i64 (by first | omega | (dsimp only; omega)))) ?_
      refine WL.yld rfl (blt rfl) rfl (Y.move rfl rfl) ?_
      refine WL.nil ?_
      refine WK.roundS _ [(101, .int .i64 (((i + 1) : Nat) : Int)), (13, .int .u64 _)] ⟨rfl, rfl, rfl, rfl, rfl, rfl, rfl, rfl, rfl, rfl, trivial⟩ ?_ ⟨(i + 1), _, rfl, rfl, xW, hl25, (by omega), (Sy.hv_dig' zi (by omega) (by omega))⟩
      show _ - (i + 1) < _ - i; omega
    ·
      have p37 := ((and_f h37).imp (fun h => (dec_f h)) (fun h => (dec_f h)))
      refine WC.seq (fun K46 k46 => ?_)
      refine WC.region rfl ?_
      refine WL.yld rfl (blt rfl) rfl (Y.move rfl rfl) ?_
      refine WL.call rfl (blt rfl) rfl rfl rfl has57 rfl (lower_any _ _ (by omega)) ?_
      rintro _ w47 ⟨rfl, x48⟩
      refine ⟨_, rfl, ?_⟩
      have hl25 := hl25.ext x48
      have xW := Ext.trans xW x48
      refine WL.yld rfl (blt rfl) rfl (Yld.cast (Y.leq rfl rfl rfl) (vb (b := true) (decide_eq_true (by omega)))) ?_
      refine WL.yld rfl (blt rfl) rfl (Y.move rfl rfl) ?_
      refine WL.yldW rfl (blt rfl) rfl rfl rfl (Y.move rfl rfl) ?_
      refine WL.callW rfl (blt rfl) rfl rfl rfl rfl rfl has57 rfl (lower_any _ _ (by omega)) ?_
      rintro _ w49 ⟨rfl, x50⟩
      refine ⟨_, rfl, ?_⟩
      have hl25 := hl25.ext x50
      have xW := Ext.trans xW x50
      refine WL.yldW rfl (blt rfl) rfl rfl rfl (Yld.cast (Y.leq rfl rfl rfl) (vb (b := true) (decide_eq_true (by omega)))) ?_
      refine WL.yld rfl (blt rfl) rfl (Y.pickT rfl rfl rfl) ?_
      refine WL.yld rfl (blt rfl) rfl (Y.assign rfl rfl) ?_
      refine WL.nil ?_
      refine WK.then_normal (k46 _ _ ?_)
      refine WC.sub [(1, _), (8, _), (9, _), (10, _), (11, _), (12, _), (13, _), (15, _), (99, _), (100, _), (101, _), (121, _)] ⟨rfl, rfl, rfl, rfl, rfl, rfl, rfl, rfl, rfl, rfl, rfl, rfl, trivial⟩ ?_
      refine WC.condT rfl ?_
      refine WC.region rfl ?_
      refine WL.yld rfl (blt rfl) rfl (Y.move rfl rfl) ?_
      refine WL.call rfl (blt rfl) rfl rfl rfl has57 rfl (lower_any _ _ (by omega)) ?_
      rintro _ w51 ⟨rfl, x52⟩
      refine ⟨_, rfl, ?_⟩
      have hl25 := hl25.ext x52
      have xW := Ext.trans xW x52
      refine WL.yld rfl (blt rfl) rfl (Y.sub rfl rfl rfl (wrap_u8 (by first | omega | (dsimp only; omega)))) ?_
      refine WL.yld rfl (blt rfl) rfl (Y.add rfl rfl rfl (wrap_u8 (by first | omega | (dsimp only; omega)))) ?_
      refine WL.yld rfl (blt rfl) rfl (Y.assign rfl rfl) ?_
      refine WL.nil ?_
      refine WK.in_normal ?_
      refine WK.then_normal (k34 _ _ ?_)
      refine WC.sub [(1, _), (8, _), (9, _), (10, _), (11, _), (12, _), (13, _), (16, _), (99, _), (100, _), (101, _)] ⟨rfl, rfl, rfl, rfl, rfl, rfl, rfl, rfl, rfl, rfl, rfl, trivial⟩ ?_
      refine WC.seq (fun K53 k53 => ?_)
      refine WC.seq (fun K54 k54 => ?_)
      refine WC.region rfl ?_
      refine WL.yld rfl (blt rfl) rfl (Y.move rfl rfl) ?_
      refine WL.yld rfl (blt rfl) rfl (Y.move rfl rfl) ?_
      refine WL.yld rfl (blt rfl) rfl (Y.convInt rfl Tryd.underlying3 Tryd.underlying5 rfl (wrap_u8 (by first | omega | (dsimp only; omega)))) ?_
      refine WL.yld rfl (blt rfl) rfl (Yld.cast (Y.geq rfl rfl rfl) (vb (b := false) (decide_eq_false (by omega)))) ?_
      refine WL.nil ?_
      refine WK.then_normal (k54 _ _ ?_)
      refine WC.sub [(1, _), (8, _), (9, _), (10, _), (11, _), (12, _), (13, _), (16, _), (99, _), (100, _), (101, _), (137, _)] ⟨rfl, rfl, rfl, rfl, rfl, rfl, rfl, rfl, rfl, rfl, rfl, rfl, trivial⟩ ?_
      refine WC.condF rfl ?_
      refine WC.skip ?_
      refine WK.then_normal (k53 _ _ ?_)
      refine WC.sub [(1, _), (8, _), (9, _), (10, _), (11, _), (12, _), (13, _), (16, _), (99, _), (100, _), (101, _)] ⟨rfl, rfl, rfl, rfl, rfl, rfl, rfl, rfl, rfl, rfl, rfl, trivial⟩ ?_
      refine WC.seq (fun K55 k55 => ?_)
      refine WC.seq (fun K56 k56 => ?_)
      refine WC.region rfl ?_
      refine WL.yld rfl (blt rfl) rfl (Y.move rfl rfl) ?_
      refine WL.yld rfl (blt rfl) rfl (Y.move rfl rfl) ?_
      refine WL.yld rfl (blt rfl) rfl (Yld.cast (Y.geq rfl rfl rfl) (vb (b := false) (decide_eq_false (by omega)))) ?_
      refine WL.nil ?_
      refine WK.then_normal (k56 _ _ ?_)
      refine WC.sub [(1, _), (8, _), (9, _), (10, _), (11, _), (12, _), (13, _), (16, _), (99, _), (100, _), (101, _), (141, _)] ⟨rfl, rfl, rfl, rfl, rfl, rfl, rfl, rfl, rfl, rfl, rfl, rfl, trivial⟩ ?_
      refine WC.condF rfl ?_
      refine WC.skip ?_
      refine WK.then_normal (k55 _ _ ?_)
      refine WC.sub [(1, _), (8, _), (9, _), (10, _), (11, _), (12, _), (13, _), (16, _), (99, _), (100, _), (101, _)] ⟨rfl, rfl, rfl, rfl, rfl, rfl, rfl, rfl, rfl, rfl, rfl, trivial⟩ ?_
      refine WC.seq (fun K57 k57 => ?_)
      refine WC.region rfl ?_
      refine WL.yld rfl (blt rfl) rfl (Y.move rfl rfl) ?_
      refine WL.yld rfl (blt rfl) rfl (Y.move rfl rfl) ?_
      refine WL.yld rfl (blt rfl) rfl (Y.convInt rfl Tryd.underlying3 Tryd.underlying77 rfl (wrap_u64 (by first | omega | (dsimp only; omega)))) ?_
      refine WL.yld rfl (blt rfl) rfl (Y.mul rfl rfl rfl (wrap_u64 (by first | omega | (dsimp only; omega)))) ?_
      refine WL.yld rfl (blt rfl) rfl (Y.assign rfl rfl) ?_
      refine WL.nil ?_
      refine WK.then_normal (k57 _ _ ?_)
      refine WC.sub [(1, _), (8, _), (9, _), (10, _), (11, _), (12, _), (13, _), (16, _), (99, _), (100, _), (101, _)] ⟨rfl, rfl, rfl, rfl, rfl, rfl, rfl, rfl, rfl, rfl, rfl, trivial⟩ ?_
      refine WC.seq (fun K58 k58 => ?_)
      refine WC.region rfl ?_
      refine WL.yld rfl (blt rfl) rfl (Y.move rfl rfl) ?_
      refine WL.yld rfl (blt rfl) rfl (Y.move rfl rfl) ?_
      refine WL.yld rfl (blt rfl) rfl (Y.convInt rfl Tryd.underlying5 Tryd.underlying77 rfl (wrap_u64 (by first | omega | (dsimp only; omega)))) ?_
      refine WL.yld rfl (blt rfl) rfl (Y.add rfl rfl rfl (wrap_u64 (by first | omega | (dsimp only; omega)))) ?_
      refine WL.yld rfl (blt rfl) rfl (Y.assign rfl rfl) ?_
      refine WL.nil ?_
      refine WK.then_normal (k58 _ _ ?_)
      refine WC.sub [(1, _), (8, _), (9, _), (10, _), (11, _), (12, _), (13, _), (17, _), (99, _), (100, _), (101, _)] ⟨rfl, rfl, rfl, rfl, rfl, rfl, rfl, rfl, rfl, rfl, rfl, trivial⟩ ?_
      refine WC.seq (fun K59 k59 => ?_)
      refine WC.seq (fun K60 k60 => ?_)
      refine WC.region rfl ?_
      refine WL.yld rfl (blt rfl) rfl (Y.move rfl rfl) ?_
      refine WL.yld rfl (blt rfl) rfl (Y.move rfl rfl) ?_
      refine WL.yld rfl (blt rfl) rfl (Yld.cast (Y.lss rfl rfl rfl) (vb (b := false) (decide_eq_false (by omega)))) ?_
      refine WL.yld rfl (blt rfl) rfl (Y.move rfl rfl) ?_
      refine WL.yldW rfl (blt rfl) rfl rfl rfl (Y.move rfl rfl) ?_
      refine WL.yldW rfl (blt rfl) rfl rfl rfl (Y.move rfl rfl) ?_
      refine WL.yldW rfl (blt rfl) rfl rfl rfl (Yld.cast (Y.gtr rfl rfl rfl) (vb (b := false) (decide_eq_false (by omega)))) ?_
      refine WL.yld rfl (blt rfl) rfl (Y.pickF rfl rfl rfl) ?_
      refine WL.nil ?_
      refine WK.then_normal (k60 _ _ ?_)
      refine WC.sub [(1, _), (8, _), (9, _), (10, _), (11, _), (12, _), (17, _), (99, _), (100, _), (101, _), (159, _)] ⟨rfl, rfl, rfl, rfl, rfl, rfl, rfl, rfl, rfl, rfl, rfl, trivial⟩ ?_
      refine WC.condF rfl ?_
      refine WC.skip ?_
      refine WK.then_normal (k59 _ _ ?_)
      refine WC.sub [(1, _), (8, _), (9, _), (10, _), (11, _), (12, _), (17, _), (99, _), (100, _), (101, _)] ⟨rfl, rfl, rfl, rfl, rfl, rfl, rfl, rfl, rfl, rfl, trivial⟩ ?_
      refine WC.region rfl ?_
      refine WL.yld rfl (blt rfl) rfl (Y.move rfl rfl) ?_
      refine WL.yld rfl (blt rfl) rfl (Y.assign rfl rfl) ?_
      refine WL.nil ?_
      refine WK.in_normal ?_
      refine WK.then_normal (k30 _ _ ?_)
      refine WC.sub [(1, _), (8, _), (9, _), (10, _), (11, _), (12, _), (13, _), (99, _), (100, _), (101, _)] ⟨rfl, rfl, rfl, rfl, rfl, rfl, rfl, rfl, rfl, rfl, trivial⟩ ?_
      refine WC.region rfl ?_
      refine WL.yld rfl (blt rfl) rfl (Y.add rfl rfl rfl (wrap_i64 (by first | omega | (dsimp only; omega)))) ?_
      refine WL.yld rfl (blt rfl) rfl (Y.move rfl rfl) ?_
      refine WL.nil ?_
      refine WK.roundS _ [(101, .int .i64 (((i + 1) : Nat) : Int)), (13, .int .u64 _)] ⟨rfl, rfl, rfl, rfl, rfl, rfl, rfl, rfl, rfl, rfl, trivial⟩ ?_ ⟨(i + 1), _, rfl, rfl, xW, hl25, (by omega), (Sy.hv_let' zi (by omega) )⟩
      show _ - (i + 1) < _ - i; omega
  ·
    have p29 := (dec_f h29)
    have hr := Sy.hv_rng (t := t) (n := t.size) hx (by omega)
    refine WC.exit ?_
    refine WK.then_exit ?_
    refine WK.then_exit ?_
    refine WK.in_exit ?_
    refine WK.then_normal (k19 _ _ ?_)
    refine WC.sub [(9, _), (12, _), (13, _)] ⟨rfl, rfl, rfl, trivial⟩ ?_
    refine WC.seq (fun K61 k61 => ?_)
    refine WC.seq (fun K62 k62 => ?_)
    refine WC.region rfl ?_
    refine WL.yld rfl (blt rfl) rfl (Y.move rfl rfl) ?_
    refine WL.yld rfl (blt rfl) rfl (Y.move rfl rfl) ?_
    refine WL.skip rfl (blt rfl) rfl rfl rfl rfl ?_
    refine WL.skip rfl (blt rfl) rfl rfl rfl rfl ?_
    refine WL.skip rfl (blt rfl) rfl rfl rfl rfl ?_
    refine WL.yld rfl (blt rfl) rfl (Y.pickF rfl rfl rfl) ?_
    refine WL.nil ?_
    refine WK.then_normal (k62 _ _ ?_)
    refine WC.sub [(13, _), (169, _)] ⟨rfl, rfl, trivial⟩ ?_
    refine WC.condF rfl ?_
    refine WC.skip ?_
    refine WK.then_normal (k61 _ _ ?_)
    refine WC.sub [(13, _)] ⟨rfl, trivial⟩ ?_
    refine WC.seq (fun K63 k63 => ?_)
    refine WC.region rfl ?_
    refine WL.yld rfl (blt rfl) rfl (Y.move rfl rfl) ?_
    refine WL.yld rfl (blt rfl) rfl (Y.assign rfl rfl) ?_
    refine WL.yld rfl (blt rfl) rfl (Y.assign rfl rfl) ?_
    refine WL.nil ?_
    refine WK.then_normal (k63 _ _ ?_)
    refine WC.sub [(6, _), (7, _)] ⟨rfl, rfl, trivial⟩ ?_
    refine WC.ret ?_
    clear k1 k2 k3 k4 k5 k6 k7 k8 k9 k10 k11 k12 k13 k14 k15 k16 k17 k18 k19 k20 k27 k28 k61 k62 k63
    refine WK.ret [_, _] rfl ⟨rfl, rfl, trivial⟩ ?_
    exact ⟨ret2 (vi (by rw [zi, show i = t.size by omega])) rfl, xW⟩
theorem pint_any (t : ByteArray)   (w : World) (hx : Sy.AllHex t t.size) (hs : 1 ≤ t.size ∧ t.size ≤ 12) :
    Calls Tryd.prog 48 #[.string t, .int .i64 16, .int .i64 64] w fun e w' => e = .returned (.tuple #[.int .i64 (Sy.hv t t.size), .nilIface]) ∧ Ext w w' := by
  have xW := Ext.refl w
  have hh := (Sy.hexB_iff _).1 (hx 0 (by omega))
  have hr := Sy.hv_rng (t := t) (n := t.size) hx (by omega)
  refine calls_of_WC (args := [.string t, .int .i64 16, .int .i64 64]) Tryd.func48 rfl rfl (ble rfl) ?_
  refine WC.seq (fun K1 k1 => ?_)
  refine WC.region rfl ?_
  refine WL.yld rfl (blt rfl) rfl (Y.assign rfl rfl) ?_
  refine WL.yld rfl (blt rfl) rfl (Y.assign rfl rfl) ?_
  refine WL.nil ?_
  refine WK.then_normal (k1 _ _ ?_)
  refine WC.sub [(0, _), (1, _), (2, _)] ⟨rfl, rfl, rfl, trivial⟩ ?_
  refine WC.seq (fun K2 k2 => ?_)
  refine WC.seq (fun K3 k3 => ?_)
  refine WC.region rfl ?_
  refine WL.yld rfl (blt rfl) rfl (Y.move rfl rfl) ?_
  refine WL.yld rfl (blt rfl) rfl (Yld.cast (Y.eqlStr rfl rfl rfl) (vb (b := false) (Sy.ne_empty (by omega)))) ?_
  refine WL.nil ?_
  refine WK.then_normal (k3 _ _ ?_)
  refine WC.sub [(0, _), (1, _), (2, _), (13, _)] ⟨rfl, rfl, rfl, rfl, trivial⟩ ?_
  refine WC.condF rfl ?_
  refine WC.skip ?_
  refine WK.then_normal (k2 _ _ ?_)
  refine WC.sub [(0, _), (1, _), (2, _)] ⟨rfl, rfl, rfl, trivial⟩ ?_
  refine WC.seq (fun K4 k4 => ?_)
  refine WC.region rfl ?_
  refine WL.yld rfl (blt rfl) rfl (Y.assign rfl rfl) ?_
  refine WL.nil ?_
  refine WK.then_normal (k4 _ _ ?_)
  refine WC.seq (fun K5 k5 => ?_)
  refine WC.seq (fun K6 k6 => ?_)
  refine WC.region rfl ?_
  refine WL.yld rfl (blt rfl) rfl (Y.move rfl rfl) ?_
  have b7 : 0 < t.size := by omega
  refine WL.yld rfl (blt rfl) rfl (Y.indexStr 0 rfl Tryd.underlying9 rfl rfl rfl b7) ?_
  refine WL.nil ?_
  refine WK.then_normal (k6 _ _ ?_)
  refine WC.sub [(0, _), (1, _), (2, _), (8, _), (16, _)] ⟨rfl, rfl, rfl, rfl, rfl, trivial⟩ ?_
  refine WC.block ?_
  refine WC.seq (fun K8 k8 => ?_)
  refine WC.region rfl ?_
  refine WL.yld rfl (blt rfl) rfl (Yld.cast (Y.eql rfl rfl rfl) (vb (b := false) (Sy.eqI_no (by omega)))) ?_
  refine WL.yld rfl (blt rfl) rfl (Y.assign rfl rfl) ?_
  refine WL.nil ?_
  refine WK.then_normal (k8 _ _ ?_)
  refine WC.sub [(0, _), (1, _), (2, _), (8, _), (16, _), (17, _)] ⟨rfl, rfl, rfl, rfl, rfl, rfl, trivial⟩ ?_
  refine WC.condF rfl ?_
  refine WC.seq (fun K9 k9 => ?_)
  refine WC.region rfl ?_
  refine WL.yld rfl (blt rfl) rfl (Yld.cast (Y.eql rfl rfl rfl) (vb (b := false) (Sy.eqI_no (by omega)))) ?_
  refine WL.yld rfl (blt rfl) rfl (Y.assign rfl rfl) ?_
  refine WL.nil ?_
  refine WK.then_normal (k9 _ _ ?_)
  refine WC.sub [(0, _), (1, _), (2, _), (8, _), (21, _)] ⟨rfl, rfl, rfl, rfl, rfl, trivial⟩ ?_
  refine WC.condF rfl ?_
  refine WC.skip ?_
  refine WK.in_normal ?_
  refine WK.then_normal (k5 _ _ ?_)
  refine WC.sub [(0, _), (1, _), (2, _), (8, _)] ⟨rfl, rfl, rfl, rfl, trivial⟩ ?_
  refine WC.seq (fun K10 k10 => ?_)
  refine WC.region rfl ?_
  refine WL.yld rfl (blt rfl) rfl (Y.assign rfl rfl) ?_
  refine WL.nil ?_
  refine WK.then_normal (k10 _ _ ?_)
  refine WC.sub [(0, _), (1, _), (2, _), (8, _)] ⟨rfl, rfl, rfl, rfl, trivial⟩ ?_
  refine WC.seq (fun K11 k11 => ?_)
  refine WC.region rfl ?_
  refine WL.yld rfl (blt rfl) rfl (Y.move rfl rfl) ?_
  refine WL.yld rfl (blt rfl) rfl (Y.move rfl rfl) ?_
  refine WL.yld rfl (blt rfl) rfl (Y.move rfl rfl) ?_
  refine WL.call rfl (blt rfl) rfl rfl rfl has51 rfl (puint_any _ _ hx hs) ?_
  rintro _ w12 ⟨rfl, x13⟩
  refine ⟨_, rfl, ?_⟩
  have xW := Ext.trans xW x13
  refine WL.yld rfl (blt rfl) rfl (Y.move rfl rfl) ?_
  refine WL.yld rfl (blt rfl) rfl (Y.extract rfl rfl rfl) ?_
  refine WL.yld rfl (blt rfl) rfl (Y.extract rfl rfl rfl) ?_
  refine WL.yld rfl (blt rfl) rfl (Y.assign rfl rfl) ?_
  refine WL.yld rfl (blt rfl) rfl (Y.assign rfl rfl) ?_
  refine WL.nil ?_
  refine WK.then_normal (k11 _ _ ?_)
  refine WC.sub [(2, _), (7, _), (8, _), (9, _)] ⟨rfl, rfl, rfl, rfl, trivial⟩ ?_
  refine WC.seq (fun K14 k14 => ?_)
  refine WC.seq (fun K15 k15 => ?_)
  refine WC.region rfl ?_
  refine WL.yld rfl (blt rfl) rfl (Y.move rfl rfl) ?_
  refine WL.yld rfl (blt rfl) rfl (Y.neqNil rfl Tryd.underlying71 rfl) ?_
  refine WL.yld rfl (blt rfl) rfl (Y.move rfl rfl) ?_
  refine WL.skip rfl (blt rfl) rfl rfl rfl rfl ?_
  refine WL.skip rfl (blt rfl) rfl rfl rfl rfl ?_
  refine WL.skip rfl (blt rfl) rfl rfl rfl rfl ?_
  refine WL.yld rfl (blt rfl) rfl (Y.pickF rfl rfl rfl) ?_
  refine WL.nil ?_
  refine WK.then_normal (k15 _ _ ?_)
  refine WC.sub [(2, _), (7, _), (8, _), (9, _), (38, _)] ⟨rfl, rfl, rfl, rfl, rfl, trivial⟩ ?_
  refine WC.condF rfl ?_
  refine WC.skip ?_
  refine WK.then_normal (k14 _ _ ?_)
  refine WC.sub [(2, _), (8, _), (9, _)] ⟨rfl, rfl, rfl, trivial⟩ ?_
  refine WC.seq (fun K16 k16 => ?_)
  refine WC.seq (fun K17 k17 => ?_)
  refine WC.region rfl ?_
  refine WL.yld rfl (blt rfl) rfl (Y.move rfl rfl) ?_
  refine WL.yld rfl (blt rfl) rfl (Yld.cast (Y.eql rfl rfl rfl) (vb (b := false) (by decide))) ?_
  refine WL.nil ?_
  refine WK.then_normal (k17 _ _ ?_)
  refine WC.sub [(2, _), (8, _), (9, _), (41, _)] ⟨rfl, rfl, rfl, rfl, trivial⟩ ?_
  refine WC.condF rfl ?_
  refine WC.skip ?_
  refine WK.then_normal (k16 _ _ ?_)
  refine WC.sub [(2, _), (8, _), (9, _)] ⟨rfl, rfl, rfl, trivial⟩ ?_
  refine WC.seq (fun K18 k18 => ?_)
  refine WC.region rfl ?_
  refine WL.yld rfl (blt rfl) rfl (Y.move rfl rfl) ?_
  refine WL.yld rfl (blt rfl) rfl (Y.sub rfl rfl rfl (wrap_i64 (by first | omega | (dsimp only; omega)))) ?_
  refine WL.yld rfl (blt rfl) rfl (Y.convInt rfl Tryd.underlying3 Tryd.underlying80 rfl (wrap_u64 (by first | omega | (dsimp only; omega)))) ?_
  refine WL.yld rfl (blt rfl) rfl (Y.shl rfl rfl rfl (by omega) (show _ = (9223372036854775808 : Int) from by decide)) ?_
  refine WL.yld rfl (blt rfl) rfl (Y.assign rfl rfl) ?_
  refine WL.nil ?_
  refine WK.then_normal (k18 _ _ ?_)
  refine WC.sub [(8, _), (9, _), (10, _)] ⟨rfl, rfl, rfl, trivial⟩ ?_
  refine WC.seq (fun K19 k19 => ?_)
  refine WC.seq (fun K20 k20 => ?_)
  refine WC.region rfl ?_
  refine WL.yld rfl (blt rfl) rfl (Y.move rfl rfl) ?_
  refine WL.yld rfl (blt rfl) rfl (Y.not rfl rfl) ?_
  refine WL.yld rfl (blt rfl) rfl (Y.move rfl rfl) ?_
  refine WL.yldW rfl (blt rfl) rfl rfl rfl (Y.move rfl rfl) ?_
  refine WL.yldW rfl (blt rfl) rfl rfl rfl (Y.move rfl rfl) ?_
  refine WL.yldW rfl (blt rfl) rfl rfl rfl (Yld.cast (Y.geq rfl rfl rfl) (vb (b := false) (decide_eq_false (by omega)))) ?_
  refine WL.yld rfl (blt rfl) rfl (Y.pickT rfl rfl rfl) ?_
  refine WL.nil ?_
  refine WK.then_normal (k20 _ _ ?_)
  refine WC.sub [(8, _), (9, _), (10, _), (52, _)] ⟨rfl, rfl, rfl, rfl, trivial⟩ ?_
  refine WC.condF rfl ?_
  refine WC.skip ?_
  refine WK.then_normal (k19 _ _ ?_)
  refine WC.sub [(8, _), (9, _), (10, _)] ⟨rfl, rfl, rfl, trivial⟩ ?_
  refine WC.seq (fun K21 k21 => ?_)
  refine WC.seq (fun K22 k22 => ?_)
  refine WC.region rfl ?_
  refine WL.yld rfl (blt rfl) rfl (Y.move rfl rfl) ?_
  refine WL.yld rfl (blt rfl) rfl (Y.move rfl rfl) ?_
  refine WL.skip rfl (blt rfl) rfl rfl rfl rfl ?_
  refine WL.skip rfl (blt rfl) rfl rfl rfl rfl ?_
  refine WL.skip rfl (blt rfl) rfl rfl rfl rfl ?_
  refine WL.yld rfl (blt rfl) rfl (Y.pickF rfl rfl rfl) ?_
  refine WL.nil ?_
  refine WK.then_normal (k22 _ _ ?_)
  refine WC.sub [(8, _), (9, _), (10, _), (62, _)] ⟨rfl, rfl, rfl, rfl, trivial⟩ ?_
  refine WC.condF rfl ?_
  refine WC.skip ?_
  refine WK.then_normal (k21 _ _ ?_)
  refine WC.sub [(8, _), (9, _)] ⟨rfl, rfl, trivial⟩ ?_
  refine WC.seq (fun K23 k23 => ?_)
  refine WC.region rfl ?_
  refine WL.yld rfl (blt rfl) rfl (Y.move rfl rfl) ?_
  refine WL.yld rfl (blt rfl) rfl (Y.convInt rfl Tryd.underlying77 Tryd.underlying2 rfl (wrap_i64 (by first | omega | (dsimp only; omega)))) ?_
  refine WL.yld rfl (blt rfl) rfl (Y.assign rfl rfl) ?_
  refine WL.nil ?_
  refine WK.then_normal (k23 _ _ ?_)
  refine WC.sub [(8, _), (11, _)] ⟨rfl, rfl, trivial⟩ ?_
  refine WC.seq (fun K24 k24 => ?_)
  refine WC.seq (fun K25 k25 => ?_)
  refine WC.region rfl ?_
  refine WL.yld rfl (blt rfl) rfl (Y.move rfl rfl) ?_
  refine WL.nil ?_
  refine WK.then_normal (k25 _ _ ?_)
  refine WC.sub [(11, _), (69, _)] ⟨rfl, rfl, trivial⟩ ?_
  refine WC.condF rfl ?_
  refine WC.skip ?_
  refine WK.then_normal (k24 _ _ ?_)
  refine WC.sub [(11, _)] ⟨rfl, trivial⟩ ?_
  refine WC.seq (fun K26 k26 => ?_)
  refine WC.region rfl ?_
  refine WL.yld rfl (blt rfl) rfl (Y.move rfl rfl) ?_
  refine WL.yld rfl (blt rfl) rfl (Y.assign rfl rfl) ?_
  refine WL.yld rfl (blt rfl) rfl (Y.assign rfl rfl) ?_
  refine WL.nil ?_
  refine WK.then_normal (k26 _ _ ?_)
  refine WC.sub [(6, _), (7, _)] ⟨rfl, rfl, trivial⟩ ?_
  refine WC.ret ?_
  clear k1 k2 k3 k4 k5 k6 k8 k9 k10 k11 k14 k15 k16 k17 k18 k19 k20 k21 k22 k23 k24 k25 k26
  refine WK.ret [_, _] rfl ⟨rfl, rfl, trivial⟩ ?_
  exact ⟨rfl, xW⟩
theorem parse_any (t : ByteArray)   (w : World) (hx : Sy.AllHex t t.size) (hs : 1 ≤ t.size ∧ t.size ≤ 12) :
    Calls Tryd.prog 46 #[.string t, .int .i64 16, .int .i64 64] w fun e w' => e = .returned (.tuple #[.int .i64 (Sy.hv t t.size), .nilIface]) ∧ Ext w w' := by
  have xW := Ext.refl w
  refine calls_of_WC (args := [.string t, .int .i64 16, .int .i64 64]) Tryd.func46 rfl rfl (ble rfl) ?_
  refine WC.seq (fun K1 k1 => ?_)
  refine WC.region rfl ?_
  refine WL.yld rfl (blt rfl) rfl (Y.assign rfl rfl) ?_
  refine WL.yld rfl (blt rfl) rfl (Y.assign rfl rfl) ?_
  refine WL.nil ?_
  refine WK.then_normal (k1 _ _ ?_)
  refine WC.sub [(0, _), (1, _), (2, _)] ⟨rfl, rfl, rfl, trivial⟩ ?_
  refine WC.seq (fun K2 k2 => ?_)
  refine WC.region rfl ?_
  refine WL.yld rfl (blt rfl) rfl (Y.move rfl rfl) ?_
  refine WL.yld rfl (blt rfl) rfl (Y.move rfl rfl) ?_
  refine WL.yld rfl (blt rfl) rfl (Y.move rfl rfl) ?_
  refine WL.call rfl (blt rfl) rfl rfl rfl has48 rfl (pint_any _ _ hx hs) ?_
  rintro _ w3 ⟨rfl, x4⟩
  refine ⟨_, rfl, ?_⟩
  have xW := Ext.trans xW x4
  refine WL.yld rfl (blt rfl) rfl (Y.move rfl rfl) ?_
  refine WL.yld rfl (blt rfl) rfl (Y.extract rfl rfl rfl) ?_
  refine WL.yld rfl (blt rfl) rfl (Y.extract rfl rfl rfl) ?_
  refine WL.yld rfl (blt rfl) rfl (Y.assign rfl rfl) ?_
  refine WL.yld rfl (blt rfl) rfl (Y.assign rfl rfl) ?_
  refine WL.nil ?_
  refine WK.then_normal (k2 _ _ ?_)
  refine WC.sub [(0, _), (1, _), (2, _), (7, _), (8, _)] ⟨rfl, rfl, rfl, rfl, rfl, trivial⟩ ?_
  refine WC.seq (fun K5 k5 => ?_)
  refine WC.seq (fun K6 k6 => ?_)
  refine WC.region rfl ?_
  refine WL.yld rfl (blt rfl) rfl (Y.move rfl rfl) ?_
  refine WL.yld rfl (blt rfl) rfl (Y.neqNil rfl Tryd.underlying71 rfl) ?_
  refine WL.nil ?_
  refine WK.then_normal (k6 _ _ ?_)
  refine WC.sub [(0, _), (1, _), (2, _), (7, _), (8, _), (17, _)] ⟨rfl, rfl, rfl, rfl, rfl, rfl, trivial⟩ ?_
  refine WC.condF rfl ?_
  refine WC.skip ?_
  refine WK.then_normal (k5 _ _ ?_)
  refine WC.sub [(8, _)] ⟨rfl, trivial⟩ ?_
  refine WC.seq (fun K7 k7 => ?_)
  refine WC.region rfl ?_
  refine WL.yld rfl (blt rfl) rfl (Y.move rfl rfl) ?_
  refine WL.yld rfl (blt rfl) rfl (Y.assign rfl rfl) ?_
  refine WL.yld rfl (blt rfl) rfl (Y.assign rfl rfl) ?_
  refine WL.nil ?_
  refine WK.then_normal (k7 _ _ ?_)
  refine WC.sub [(6, _), (7, _)] ⟨rfl, rfl, trivial⟩ ?_
  refine WC.ret ?_
  clear k1 k2 k5 k6 k7
  refine WK.ret [_, _] rfl ⟨rfl, rfl, trivial⟩ ?_
  exact ⟨rfl, xW⟩
theorem addr_any (s : ByteArray) (w : World) :
    Calls Tryd.prog 41 #[.string s] w fun e w' => e = .returned (.tuple #[.int .i64 (Sy.adr s).1, .bool (Sy.adr s).2]) ∧ Ext w w' := by
  have xW := Ext.refl w
  refine calls_of_WC (args := [.string s]) Tryd.func41 rfl rfl (ble rfl) ?_
  refine WC.seq (fun K1 k1 => ?_)
  refine WC.region rfl ?_
  refine WL.yld rfl (blt rfl) rfl (Y.assign rfl rfl) ?_
  refine WL.yld rfl (blt rfl) rfl (Y.assign rfl rfl) ?_
  refine WL.nil ?_
  refine WK.then_normal (k1 _ _ ?_)
  refine WC.sub [(0, _)] ⟨rfl, trivial⟩ ?_
  refine WC.seq (fun K2 k2 => ?_)
  refine WC.seq (fun K3 k3 => ?_)
  refine WC.region rfl ?_
  refine WL.yld rfl (blt rfl) rfl (Y.move rfl rfl) ?_
  refine WL.yld rfl (blt rfl) rfl (Y.lenStr rfl rfl rfl Tryd.underlying9 rfl) ?_
  refine WL.yld rfl (blt rfl) rfl (Y.lss rfl rfl rfl) ?_
  refine WL.yld rfl (blt rfl) rfl (Y.move rfl rfl) ?_
  refine WL.yldG rfl (blt rfl) rfl rfl rfl (fun hb => Y.move rfl rfl) ?_
  refine WL.yldG rfl (blt rfl) rfl rfl rfl (fun hb => Y.lenStr rfl rfl rfl Tryd.underlying9 (evs_cons (evg rfl hb) evs_nil)) ?_
  refine WL.yldG rfl (blt rfl) rfl rfl rfl (fun hb => Y.gtr rfl (evg rfl hb) rfl) ?_
  refine WL.yld rfl (blt rfl) rfl (Y.or rfl rfl rfl rfl) ?_
  refine WL.yld rfl (blt rfl) rfl (Y.move rfl rfl) ?_
  refine WL.yldG rfl (blt rfl) rfl rfl rfl (fun hb => Y.move rfl rfl) ?_
  refine WL.yldG rfl (blt rfl) rfl rfl rfl (fun hb => Y.sliceStrH 2 rfl Tryd.underlying9 (evg rfl hb) rfl rfl (by have q0 := (And.intro (dec_f (or_f hb).1) (dec_f (or_f hb).2)); omega)) ?_
  refine WL.yldG rfl (blt rfl) rfl rfl rfl (fun hb => Y.neqStr rfl (evg rfl hb) rfl) ?_
  refine WL.yld rfl (blt rfl) rfl (Y.or rfl rfl rfl rfl) ?_
  refine WL.nil ?_
  refine WK.then_normal (k3 _ _ ?_)
  refine WC.sub [(0, _), (20, _)] ⟨rfl, rfl, trivial⟩ ?_
  refine WC.cond rfl (fun h4 => ?_) (fun h4 => ?_)
  ·
    have p4 := ((or_t h4).imp (fun h => ((or_t h).imp (fun h => (dec_t h)) (fun h => (dec_t h)))) (fun h => h))
    refine WC.seq (fun K5 k5 => ?_)
    refine WC.region rfl ?_
    refine WL.yld rfl (blt rfl) rfl (Y.assign rfl rfl) ?_
    refine WL.yld rfl (blt rfl) rfl (Y.assign rfl rfl) ?_
    refine WL.nil ?_
    refine WK.then_normal (k5 _ _ ?_)
    refine WC.sub [(2, _), (3, _)] ⟨rfl, rfl, trivial⟩ ?_
    refine WC.ret ?_
    refine WK.then_ret ?_
    clear k1 k2 k3 k5
    refine WK.ret [_, _] rfl ⟨rfl, rfl, trivial⟩ ?_
    refine ⟨?_, xW⟩
    rw [Sy.adr_pre h4]; rfl
  ·
    have p4 := (And.intro (dec_f (or_f (or_f h4).1).1) (dec_f (or_f (or_f h4).1).2))
    have hp : Sy.preB s = false := h4
    have sz := Sy.pre_size hp
    refine WC.skip ?_
    refine WK.then_normal (k2 _ _ ?_)
    refine WC.sub [(0, _)] ⟨rfl, trivial⟩ ?_
    refine WC.seq (fun K6 k6 => ?_)
    refine WC.seq (fun K7 k7 => ?_)
    refine WC.region rfl ?_
    refine WL.yld rfl (blt rfl) rfl (Y.assign rfl rfl) ?_
    refine WL.nil ?_
    refine WK.then_normal (k7 _ _ ?_)
    refine WC.block ?_
    refine WC.sub [(4, _), (0, _)] ⟨rfl, rfl, trivial⟩ ?_
    refine WC.loopS 1 (fun mz Ed W' => ∃ i : Nat, mz = s.size - i ∧ Ed = [(4, .int .i64 ((i : Nat) : Int))] ∧ Ext w W' ∧ (2 ≤ i ∧ i ≤ s.size) ∧ (∀ j, j < i - 2 → Sy.hexB (bat (Sy.tl s) j) = true)) _ ⟨2, rfl, rfl, xW, (by omega), (fun j hj => by omega)⟩ ?_
    rintro _ _ w8 ⟨i, rfl, rfl, xW, le_i, inv_i⟩
    refine WC.sub [(4, _), (0, _)] ⟨rfl, rfl, trivial⟩ ?_
    refine WC.seq (fun K9 k9 => ?_)
    refine WC.seq (fun K10 k10 => ?_)
    refine WC.region rfl ?_
    refine WL.yld rfl (blt rfl) rfl (Y.move rfl rfl) ?_
    refine WL.yld rfl (blt rfl) rfl (Y.move rfl rfl) ?_
    refine WL.yld rfl (blt rfl) rfl (Y.lenStr rfl rfl rfl Tryd.underlying9 rfl) ?_
    refine WL.yld rfl (blt rfl) rfl (Y.lss rfl rfl rfl) ?_
    refine WL.nil ?_
    refine WK.then_normal (k10 _ _ ?_)
    refine WC.sub [(0, _), (4, _), (24, _)] ⟨rfl, rfl, rfl, trivial⟩ ?_
    refine WC.cond rfl (fun h11 => ?_) (fun h11 => ?_)
    ·
      have p11 := (dec_t h11)
      refine WC.skip ?_
      refine WK.then_normal (k9 _ _ ?_)
      refine WC.sub [(0, _), (4, _)] ⟨rfl, rfl, trivial⟩ ?_
      refine WC.seq (fun K12 k12 => ?_)
      refine WC.block ?_
      refine WC.seq (fun K13 k13 => ?_)
      refine WC.region rfl ?_
      refine WL.yld rfl (blt rfl) rfl (Y.move rfl rfl) ?_
      refine WL.yld rfl (blt rfl) rfl (Y.move rfl rfl) ?_
      have b14 : i < s.size := by omega
      refine WL.yld rfl (blt rfl) rfl (Y.indexStr i rfl Tryd.underlying9 rfl rfl rfl b14) ?_
      refine WL.yld rfl (blt rfl) rfl (Y.assign rfl rfl) ?_
      refine WL.nil ?_
      refine WK.then_normal (k13 _ _ ?_)
      refine WC.sub [(0, _), (4, _), (5, _)] ⟨rfl, rfl, rfl, trivial⟩ ?_
      refine WC.seq (fun K15 k15 => ?_)
      refine WC.region rfl ?_
      refine WL.yld rfl (blt rfl) rfl (Y.move rfl rfl) ?_
      refine WL.yld rfl (blt rfl) rfl (Y.lss rfl rfl rfl) ?_
      refine WL.yld rfl (blt rfl) rfl (Y.move rfl rfl) ?_
      refine WL.yldG rfl (blt rfl) rfl rfl rfl (fun hb => Y.move rfl rfl) ?_
      refine WL.yldG rfl (blt rfl) rfl rfl rfl (fun hb => Y.gtr rfl (evg rfl hb) rfl) ?_
      refine WL.yld rfl (blt rfl) rfl (Y.or rfl rfl rfl rfl) ?_
      refine WL.yld rfl (blt rfl) rfl (Y.move rfl rfl) ?_
      refine WL.yldG rfl (blt rfl) rfl rfl rfl (fun hb => Y.move rfl rfl) ?_
      refine WL.yldG rfl (blt rfl) rfl rfl rfl (fun hb => Y.lss rfl (evg rfl hb) rfl) ?_
      refine WL.yldG rfl (blt rfl) rfl rfl rfl (fun hb => Y.move rfl (evg rfl hb)) ?_
      refine WL.yldGs [(_, _)] rfl (blt rfl) rfl rfl rfl (fun hb => Y.move rfl rfl) ?_
      refine WL.yldGs [(_, _)] rfl (blt rfl) rfl rfl rfl (fun hb => Y.gtr rfl (evg (evg rfl hb.1) hb.2.1) rfl) ?_
      refine WL.yldG rfl (blt rfl) rfl rfl rfl (fun hb => Y.or rfl (evg rfl hb) rfl (evg rfl hb)) ?_
      refine WL.yld rfl (blt rfl) rfl (Y.and rfl rfl rfl rfl) ?_
      refine WL.nil ?_
      refine WK.then_normal (k15 _ _ ?_)
      refine WC.sub [(0, _), (4, _), (43, _)] ⟨rfl, rfl, rfl, trivial⟩ ?_
      refine WC.cond rfl (fun h16 => ?_) (fun h16 => ?_)
      ·
        have p16 := (And.intro ((or_t (and_t h16).1).imp (fun h => (dec_t h)) (fun h => (dec_t h))) ((or_t (and_t h16).2).imp (fun h => (dec_t h)) (fun h => (dec_t h))))
        have hbad : Sy.hexB (bat s i) = false := by have q := h16; simp only [Bool.and_eq_true, Bool.or_eq_true, decide_eq_true_eq] at q; unfold Sy.hexB; simp only [Bool.or_eq_false_iff, Bool.and_eq_false_iff, decide_eq_false_iff_not]; omega
        refine WC.seq (fun K17 k17 => ?_)
        refine WC.region rfl ?_
        refine WL.yld rfl (blt rfl) rfl (Y.assign rfl rfl) ?_
        refine WL.yld rfl (blt rfl) rfl (Y.assign rfl rfl) ?_
        refine WL.nil ?_
        refine WK.then_normal (k17 _ _ ?_)
        refine WC.sub [(2, _), (3, _)] ⟨rfl, rfl, trivial⟩ ?_
        refine WC.ret ?_
        refine WK.in_ret ?_
        refine WK.then_ret ?_
        refine WK.then_ret ?_
        refine WK.in_ret ?_
        refine WK.then_ret ?_
        clear k1 k2 k3 k6 k7 k9 k10 k12 k13 k15 k17
        refine WK.ret [_, _] rfl ⟨rfl, rfl, trivial⟩ ?_
        refine ⟨?_, xW⟩
        rw [Sy.adr_bad (s := s) (i := i - 2) (by omega) (by rw [Sy.tl_bat (by omega), show i - 2 + 2 = i by omega]; exact hbad)]; rfl
      ·
        have p16 := ((and_f h16).imp (fun h => (And.intro (dec_f (or_f h).1) (dec_f (or_f h).2))) (fun h => (And.intro (dec_f (or_f h).1) (dec_f (or_f h).2))))
        refine WC.skip ?_
        refine WK.in_normal ?_
        refine WK.then_normal (k12 _ _ ?_)
        refine WC.sub [(0, _), (4, _)] ⟨rfl, rfl, trivial⟩ ?_
        refine WC.region rfl ?_
        refine WL.yld rfl (blt rfl) rfl (Y.move rfl rfl) ?_
        refine WL.yld rfl (blt rfl) rfl (Y.add rfl rfl rfl (wrap_i64 (by first | omega | (dsimp only; omega)))) ?_
        refine WL.yld rfl (blt rfl) rfl (Y.assign rfl rfl) ?_
        refine WL.nil ?_
        refine WK.roundS _ [(4, .int .i64 (((i + 1) : Nat) : Int))] ⟨rfl, rfl, trivial⟩ ?_ ⟨(i + 1), rfl, rfl, xW, (by omega), (fun j hj => by by_cases h : j < i - 2; exact inv_i j h; rw [show j = i - 2 by omega, Sy.tl_bat (by omega), show i - 2 + 2 = i by omega]; exact ((Sy.hexB_iff _).2 (by have q := h16; simp only [Bool.and_eq_false_iff, Bool.or_eq_false_iff, decide_eq_false_iff_not] at q; omega)))⟩
        show _ - (i + 1) < _ - i; omega
    ·
      have p11 := (dec_f h11)
      refine WC.exit ?_
      refine WK.then_exit ?_
      refine WK.then_exit ?_
      refine WK.in_exit ?_
      refine WK.then_normal (k6 _ _ ?_)
      refine WC.sub [(0, _)] ⟨rfl, trivial⟩ ?_
      refine WC.seq (fun K18 k18 => ?_)
      refine WC.region rfl ?_
      refine WL.yld rfl (blt rfl) rfl (Y.move rfl rfl) ?_
      refine WL.yld rfl (blt rfl) rfl (Y.sliceStrL 2 rfl Tryd.underlying9 rfl rfl rfl (by omega)) ?_
      refine WL.call rfl (blt rfl) rfl rfl rfl has46 rfl (parse_any (Sy.tl s) _ (by rw [Sy.tl_size]; exact fun j hj => inv_i j (by omega)) (by rw [Sy.tl_size]; omega)) ?_
      rintro _ w19 ⟨rfl, x20⟩
      refine ⟨_, rfl, ?_⟩
      have xW := Ext.trans xW x20
      refine WL.yld rfl (blt rfl) rfl (Y.move rfl rfl) ?_
      refine WL.yld rfl (blt rfl) rfl (Y.extract rfl rfl rfl) ?_
      refine WL.yld rfl (blt rfl) rfl (Y.extract rfl rfl rfl) ?_
      refine WL.yld rfl (blt rfl) rfl (Y.assign rfl rfl) ?_
      refine WL.yld rfl (blt rfl) rfl (Y.assign rfl rfl) ?_
      refine WL.nil ?_
      refine WK.then_normal (k18 _ _ ?_)
      refine WC.sub [(6, _), (7, _)] ⟨rfl, rfl, trivial⟩ ?_
      refine WC.seq (fun K21 k21 => ?_)
      refine WC.regionDq (by kernel_rfl) (by kernel_rfl) rfl ?_
      refine WQ.yld rfl (blt rfl) rfl (Y.move rfl rfl) ?_
      refine WQ.yld rfl (blt rfl) rfl (Y.move rfl rfl) ?_
      refine WQ.yld rfl (blt rfl) rfl (Y.eqlNil rfl Tryd.underlying71 rfl) ?_
      refine WQ.yld rfl (blt rfl) rfl (Y.assign rfl rfl) ?_
      refine WQ.yld rfl (blt rfl) rfl (Y.assign rfl rfl) ?_
      refine WQ.done (fun w22 x23 => ?_)
      have xW := Ext.trans xW x23
      refine WK.then_normal (k21 _ _ ?_)
      refine WC.sub [(2, _), (3, _)] ⟨rfl, rfl, trivial⟩ ?_
      refine WC.ret ?_
      clear k1 k2 k3 k6 k7 k9 k10 k18 k21
      refine WK.ret [_, _] rfl ⟨rfl, rfl, trivial⟩ ?_
      refine ⟨?_, xW⟩
      rw [Sy.adr_ok hp (fun j hj => inv_i j (by omega)), ← Sy.tl_size]; rfl
theorem raddr_any (s : ByteArray) (w : World) :
    Calls Tryd.prog 27 #[.string s] w fun e w' => e = .returned (.tuple #[.int .i64 (Sy.adr s).1, .bool (Sy.adr s).2]) ∧ Ext w w' := by
  have xW := Ext.refl w
  refine calls_of_WC (args := [.string s]) Tryd.func27 rfl rfl (ble rfl) ?_
  refine WC.seq (fun K1 k1 => ?_)
  refine WC.region rfl ?_
  refine WL.yld rfl (blt rfl) rfl (Y.assign rfl rfl) ?_
  refine WL.yld rfl (blt rfl) rfl (Y.assign rfl rfl) ?_
  refine WL.nil ?_
  refine WK.then_normal (k1 _ _ ?_)
  refine WC.sub [(0, _)] ⟨rfl, trivial⟩ ?_
  refine WC.seq (fun K2 k2 => ?_)
  refine WC.seq (fun K3 k3 => ?_)
  refine WC.region rfl ?_
  refine WL.yld rfl (blt rfl) rfl (Y.move rfl rfl) ?_
  refine WL.yld rfl (blt rfl) rfl (Y.lenStr rfl rfl rfl Tryd.underlying9 rfl) ?_
  refine WL.yld rfl (blt rfl) rfl (Y.lss rfl rfl rfl) ?_
  refine WL.yld rfl (blt rfl) rfl (Y.move rfl rfl) ?_
  refine WL.yldG rfl (blt rfl) rfl rfl rfl (fun hb => Y.move rfl rfl) ?_
  refine WL.yldG rfl (blt rfl) rfl rfl rfl (fun hb => Y.lenStr rfl rfl rfl Tryd.underlying9 (evs_cons (evg rfl hb) evs_nil)) ?_
  refine WL.yldG rfl (blt rfl) rfl rfl rfl (fun hb => Y.gtr rfl (evg rfl hb) rfl) ?_
  refine WL.yld rfl (blt rfl) rfl (Y.or rfl rfl rfl rfl) ?_
  refine WL.yld rfl (blt rfl) rfl (Y.move rfl rfl) ?_
  refine WL.yldG rfl (blt rfl) rfl rfl rfl (fun hb => Y.move rfl rfl) ?_
  refine WL.yldG rfl (blt rfl) rfl rfl rfl (fun hb => Y.sliceStrH 2 rfl Tryd.underlying9 (evg rfl hb) rfl rfl (by have q0 := (And.intro (dec_f (or_f hb).1) (dec_f (or_f hb).2)); omega)) ?_
  refine WL.yldG rfl (blt rfl) rfl rfl rfl (fun hb => Y.neqStr rfl (evg rfl hb) rfl) ?_
  refine WL.yld rfl (blt rfl) rfl (Y.or rfl rfl rfl rfl) ?_
  refine WL.nil ?_
  refine WK.then_normal (k3 _ _ ?_)
  refine WC.sub [(0, _), (19, _)] ⟨rfl, rfl, trivial⟩ ?_
  refine WC.cond rfl (fun h4 => ?_) (fun h4 => ?_)
  ·
    have p4 := ((or_t h4).imp (fun h => ((or_t h).imp (fun h => (dec_t h)) (fun h => (dec_t h)))) (fun h => h))
    refine WC.seq (fun K5 k5 => ?_)
    refine WC.region rfl ?_
    refine WL.yld rfl (blt rfl) rfl (Y.assign rfl rfl) ?_
    refine WL.yld rfl (blt rfl) rfl (Y.assign rfl rfl) ?_
    refine WL.nil ?_
    refine WK.then_normal (k5 _ _ ?_)
    refine WC.sub [(2, _), (3, _)] ⟨rfl, rfl, trivial⟩ ?_
    refine WC.ret ?_
    refine WK.then_ret ?_
    clear k1 k2 k3 k5
    refine WK.ret [_, _] rfl ⟨rfl, rfl, trivial⟩ ?_
    refine ⟨?_, xW⟩
    rw [Sy.adr_pre h4]; rfl
  ·
    have p4 := (And.intro (dec_f (or_f (or_f h4).1).1) (dec_f (or_f (or_f h4).1).2))
    have hp : Sy.preB s = false := h4
    have sz := Sy.pre_size hp
    refine WC.skip ?_
    refine WK.then_normal (k2 _ _ ?_)
    refine WC.sub [(0, _)] ⟨rfl, trivial⟩ ?_
    refine WC.seq (fun K6 k6 => ?_)
    refine WC.region rfl ?_
    refine WL.yld rfl (blt rfl) rfl (Y.assign rfl rfl) ?_
    refine WL.nil ?_
    refine WK.then_normal (k6 _ _ ?_)
    refine WC.seq (fun K7 k7 => ?_)
    refine WC.seq (fun K8 k8 => ?_)
    refine WC.region rfl ?_
    refine WL.yld rfl (blt rfl) rfl (Y.assign rfl rfl) ?_
    refine WL.nil ?_
    refine WK.then_normal (k8 _ _ ?_)
    refine WC.block ?_
    refine WC.sub [(5, _), (4, _), (0, _)] ⟨rfl, rfl, rfl, trivial⟩ ?_
    refine WC.loopS 2 (fun mz Ed W' => ∃ i : Nat, ∃ z : Int, mz = s.size - i ∧ Ed = [(5, .int .i64 ((i : Nat) : Int)), (4, .int .i64 z)] ∧ Ext w W' ∧ (2 ≤ i ∧ i ≤ s.size) ∧ (∀ j, j < i - 2 → Sy.hexB (bat (Sy.tl s) j) = true) ∧ (z = Sy.hv (Sy.tl s) (i - 2))) _ ⟨2, 0, rfl, rfl, xW, (by omega), (fun j hj => by omega), rfl⟩ ?_
    rintro _ _ w9 ⟨i, z, rfl, rfl, xW, le_i, inv_i, zi⟩
    refine WC.sub [(5, _), (4, _), (0, _)] ⟨rfl, rfl, rfl, trivial⟩ ?_
    refine WC.seq (fun K10 k10 => ?_)
    refine WC.seq (fun K11 k11 => ?_)
    refine WC.region rfl ?_
    refine WL.yld rfl (blt rfl) rfl (Y.move rfl rfl) ?_
    refine WL.yld rfl (blt rfl) rfl (Y.move rfl rfl) ?_
    refine WL.yld rfl (blt rfl) rfl (Y.lenStr rfl rfl rfl Tryd.underlying9 rfl) ?_
    refine WL.yld rfl (blt rfl) rfl (Y.lss rfl rfl rfl) ?_
    refine WL.nil ?_
    refine WK.then_normal (k11 _ _ ?_)
    refine WC.sub [(0, _), (4, _), (5, _), (23, _)] ⟨rfl, rfl, rfl, rfl, trivial⟩ ?_
    refine WC.cond rfl (fun h12 => ?_) (fun h12 => ?_)
    ·
      have p12 := (dec_t h12)
      have br := bat_rng s i
      have tb : bat (Sy.tl s) (i - 2) = bat s i := by rw [Sy.tl_bat (by omega), show i - 2 + 2 = i by omega]
      have hr := Sy.hv_rng (t := Sy.tl s) (n := i - 2) inv_i (by omega)
      refine WC.skip ?_
      refine WK.then_normal (k10 _ _ ?_)
      refine WC.sub [(0, _), (4, _), (5, _)] ⟨rfl, rfl, rfl, trivial⟩ ?_
      refine WC.seq (fun K13 k13 => ?_)
      refine WC.block ?_
      refine WC.seq (fun K14 k14 => ?_)
      refine WC.region rfl ?_
      refine WL.yld rfl (blt rfl) rfl (Y.move rfl rfl) ?_
      refine WL.yld rfl (blt rfl) rfl (Y.move rfl rfl) ?_
      have b15 : i < s.size := by omega
      refine WL.yld rfl (blt rfl) rfl (Y.indexStr i rfl Tryd.underlying9 rfl rfl rfl b15) ?_
      refine WL.yld rfl (blt rfl) rfl (Y.assign rfl rfl) ?_
      refine WL.nil ?_
      refine WK.then_normal (k14 _ _ ?_)
      refine WC.sub [(0, _), (4, _), (5, _), (6, _)] ⟨rfl, rfl, rfl, rfl, trivial⟩ ?_
      refine WC.seq (fun K16 k16 => ?_)
      refine WC.region rfl ?_
      refine WL.yld rfl (blt rfl) rfl (Y.move rfl rfl) ?_
      refine WL.yld rfl (blt rfl) rfl (Y.geq rfl rfl rfl) ?_
      refine WL.yld rfl (blt rfl) rfl (Y.move rfl rfl) ?_
      refine WL.yldG rfl (blt rfl) rfl rfl rfl (fun hb => Y.move rfl rfl) ?_
      refine WL.yldG rfl (blt rfl) rfl rfl rfl (fun hb => Y.leq rfl (evg rfl hb) rfl) ?_
      refine WL.yld rfl (blt rfl) rfl (Y.and rfl rfl rfl rfl) ?_
      refine WL.nil ?_
      refine WK.then_normal (k16 _ _ ?_)
      refine WC.sub [(0, _), (4, _), (5, _), (6, _), (34, _)] ⟨rfl, rfl, rfl, rfl, rfl, trivial⟩ ?_
      refine WC.cond rfl (fun h17 => ?_) (fun h17 => ?_)
      ·
        have p17 := (And.intro (dec_t (and_t h17).1) (dec_t (and_t h17).2))
        refine WC.region rfl ?_
        refine WL.yld rfl (blt rfl) rfl (Y.move rfl rfl) ?_
        refine WL.yld rfl (blt rfl) rfl (Y.mul rfl rfl rfl (wrap_i64 (by first | omega | (dsimp only; omega)))) ?_
        refine WL.yld rfl (blt rfl) rfl (Y.move rfl rfl) ?_
        refine WL.yld rfl (blt rfl) rfl (Y.sub rfl rfl rfl (wrap_u8 (by first | omega | (dsimp only; omega)))) ?_
        refine WL.yld rfl (blt rfl) rfl (Y.convInt rfl Tryd.underlying5 Tryd.underlying3 rfl (wrap_i64 (by first | omega | (dsimp only; omega)))) ?_
        refine WL.yld rfl (blt rfl) rfl (Y.add rfl rfl rfl (wrap_i64 (by first | omega | (dsimp only; omega)))) ?_
        refine WL.yld rfl (blt rfl) rfl (Y.assign rfl rfl) ?_
        refine WL.nil ?_
        refine WK.in_normal ?_
        refine WK.then_normal (k13 _ _ ?_)
        refine WC.sub [(0, _), (4, _), (5, _)] ⟨rfl, rfl, rfl, trivial⟩ ?_
        refine WC.region rfl ?_
        refine WL.yld rfl (blt rfl) rfl (Y.move rfl rfl) ?_
        refine WL.yld rfl (blt rfl) rfl (Y.add rfl rfl rfl (wrap_i64 (by first | omega | (dsimp only; omega)))) ?_
        refine WL.yld rfl (blt rfl) rfl (Y.assign rfl rfl) ?_
        refine WL.nil ?_
        refine WK.roundS _ [(5, .int .i64 (((i + 1) : Nat) : Int)), (4, .int .i64 _)] ⟨rfl, rfl, rfl, trivial⟩ ?_ ⟨(i + 1), _, rfl, rfl, xW, (by omega), (fun j hj => by by_cases h : j < i - 2; exact inv_i j h; rw [show j = i - 2 by omega, Sy.tl_bat (by omega), show i - 2 + 2 = i by omega]; exact ((Sy.hexB_iff _).2 (by have q := h17; simp only [Bool.and_eq_true, decide_eq_true_eq] at q; omega))), (by rw [show i + 1 - 2 = (i - 2) + 1 by omega, ← Sy.hv_dig zi (by rw [tb]; have q := h17; simp only [Bool.and_eq_true, decide_eq_true_eq] at q; omega) (by rw [tb]; have q := h17; simp only [Bool.and_eq_true, decide_eq_true_eq] at q; omega), tb])⟩
        show _ - (i + 1) < _ - i; omega
      ·
        have p17 := ((and_f h17).imp (fun h => (dec_f h)) (fun h => (dec_f h)))
        refine WC.seq (fun K18 k18 => ?_)
        refine WC.region rfl ?_
        refine WL.yld rfl (blt rfl) rfl (Y.move rfl rfl) ?_
        refine WL.yld rfl (blt rfl) rfl (Y.geq rfl rfl rfl) ?_
        refine WL.yld rfl (blt rfl) rfl (Y.move rfl rfl) ?_
        refine WL.yldG rfl (blt rfl) rfl rfl rfl (fun hb => Y.move rfl rfl) ?_
        refine WL.yldG rfl (blt rfl) rfl rfl rfl (fun hb => Y.leq rfl (evg rfl hb) rfl) ?_
        refine WL.yld rfl (blt rfl) rfl (Y.and rfl rfl rfl rfl) ?_
        refine WL.nil ?_
        refine WK.then_normal (k18 _ _ ?_)
        refine WC.sub [(0, _), (4, _), (5, _), (6, _), (46, _)] ⟨rfl, rfl, rfl, rfl, rfl, trivial⟩ ?_
        refine WC.cond rfl (fun h19 => ?_) (fun h19 => ?_)
        ·
          have p19 := (And.intro (dec_t (and_t h19).1) (dec_t (and_t h19).2))
          refine WC.region rfl ?_
          refine WL.yld rfl (blt rfl) rfl (Y.move rfl rfl) ?_
          refine WL.yld rfl (blt rfl) rfl (Y.mul rfl rfl rfl (wrap_i64 (by first | omega | (dsimp only; omega)))) ?_
          refine WL.yld rfl (blt rfl) rfl (Y.add rfl rfl rfl (wrap_i64 (by first | omega | (dsimp only; omega)))) ?_
          refine WL.yld rfl (blt rfl) rfl (Y.move rfl rfl) ?_
          refine WL.yld rfl (blt rfl) rfl (Y.sub rfl rfl rfl (wrap_u8 (by first | omega | (dsimp only; omega)))) ?_
          refine WL.yld rfl (blt rfl) rfl (Y.convInt rfl Tryd.underlying5 Tryd.underlying3 rfl (wrap_i64 (by first | omega | (dsimp only; omega)))) ?_
          refine WL.yld rfl (blt rfl) rfl (Y.add rfl rfl rfl (wrap_i64 (by first | omega | (dsimp only; omega)))) ?_
          refine WL.yld rfl (blt rfl) rfl (Y.assign rfl rfl) ?_
          refine WL.nil ?_
          refine WK.in_normal ?_
          refine WK.then_normal (k13 _ _ ?_)
          refine WC.sub [(0, _), (4, _), (5, _)] ⟨rfl, rfl, rfl, trivial⟩ ?_
          refine WC.region rfl ?_
          refine WL.yld rfl (blt rfl) rfl (Y.move rfl rfl) ?_
          refine WL.yld rfl (blt rfl) rfl (Y.add rfl rfl rfl (wrap_i64 (by first | omega | (dsimp only; omega)))) ?_
          refine WL.yld rfl (blt rfl) rfl (Y.assign rfl rfl) ?_
          refine WL.nil ?_
          refine WK.roundS _ [(5, .int .i64 (((i + 1) : Nat) : Int)), (4, .int .i64 _)] ⟨rfl, rfl, rfl, trivial⟩ ?_ ⟨(i + 1), _, rfl, rfl, xW, (by omega), (fun j hj => by by_cases h : j < i - 2; exact inv_i j h; rw [show j = i - 2 by omega, Sy.tl_bat (by omega), show i - 2 + 2 = i by omega]; exact ((Sy.hexB_iff _).2 (by have q := h19; simp only [Bool.and_eq_true, decide_eq_true_eq] at q; omega))), (by rw [show i + 1 - 2 = (i - 2) + 1 by omega, ← Sy.hv_let zi (by rw [tb]; have q := h19; simp only [Bool.and_eq_true, decide_eq_true_eq] at q; omega), tb])⟩
          show _ - (i + 1) < _ - i; omega
        ·
          have p19 := ((and_f h19).imp (fun h => (dec_f h)) (fun h => (dec_f h)))
          have hbad : Sy.hexB (bat s i) = false := by have q := h19; have q2 := h17; unfold Sy.hexB; simp only [Bool.or_eq_false_iff]; exact ⟨q2, q⟩
          refine WC.seq (fun K20 k20 => ?_)
          refine WC.region rfl ?_
          refine WL.yld rfl (blt rfl) rfl (Y.assign rfl rfl) ?_
          refine WL.yld rfl (blt rfl) rfl (Y.assign rfl rfl) ?_
          refine WL.nil ?_
          refine WK.then_normal (k20 _ _ ?_)
          refine WC.sub [(2, _), (3, _)] ⟨rfl, rfl, trivial⟩ ?_
          refine WC.ret ?_
          refine WK.in_ret ?_
          refine WK.then_ret ?_
          refine WK.then_ret ?_
          refine WK.in_ret ?_
          refine WK.then_ret ?_
          clear k1 k2 k3 k6 k7 k8 k10 k11 k13 k14 k16 k18 k20
          refine WK.ret [_, _] rfl ⟨rfl, rfl, trivial⟩ ?_
          refine ⟨?_, xW⟩
          rw [Sy.adr_bad (s := s) (i := i - 2) (by omega) (by rw [Sy.tl_bat (by omega), show i - 2 + 2 = i by omega]; exact hbad)]; rfl
    ·
      have p12 := (dec_f h12)
      refine WC.exit ?_
      refine WK.then_exit ?_
      refine WK.then_exit ?_
      refine WK.in_exit ?_
      refine WK.then_normal (k7 _ _ ?_)
      refine WC.sub [(4, _)] ⟨rfl, trivial⟩ ?_
      refine WC.seq (fun K21 k21 => ?_)
      refine WC.region rfl ?_
      refine WL.yld rfl (blt rfl) rfl (Y.move rfl rfl) ?_
      refine WL.yld rfl (blt rfl) rfl (Y.assign rfl rfl) ?_
      refine WL.yld rfl (blt rfl) rfl (Y.assign rfl rfl) ?_
      refine WL.nil ?_
      refine WK.then_normal (k21 _ _ ?_)
      refine WC.sub [(2, _), (3, _)] ⟨rfl, rfl, trivial⟩ ?_
      refine WC.ret ?_
      clear k1 k2 k3 k6 k7 k8 k10 k11 k21
      refine WK.ret [_, _] rfl ⟨rfl, rfl, trivial⟩ ?_
      refine ⟨?_, xW⟩
      rw [Sy.adr_ok hp (fun j hj => inv_i j (by omega)), ← show i - 2 = s.size - 2 by omega, ← zi]; rfl
end X
end SyW

end Go.Proofs.YtghfncgciaiofaaDoor
