/- Contracts: texts written and read. Conditions: what each theorem states. -/
import Derived.Test.YteaalclidffjgaaDoorNqQuan
import Derived.Test.YteaalclidffjgaaDoorNqTx
namespace Go.Proofs.YteaalclidffjgaaDoor
open Go Go.Eng Go.RowKit
set_option linter.unusedVariables false
namespace NqW
open D Q R T S G
namespace H
theorem has15 : Has Tryd.prog 15 := ⟨_, Tryd.func15, rfl, by kernel_rfl⟩
theorem has23 : Has Tryd.prog 23 := ⟨_, Tryd.func23, rfl, by kernel_rfl⟩
theorem has26 : Has Tryd.prog 26 := ⟨_, Tryd.func26, rfl, by kernel_rfl⟩
theorem has27 : Has Tryd.prog 27 := ⟨_, Tryd.func27, rfl, by kernel_rfl⟩
theorem has35 : Has Tryd.prog 35 := ⟨_, Tryd.func35, rfl, by kernel_rfl⟩
theorem rtext_any : ∀ (D : Nat) (n : Int) (w : World), Nq.tm n = D → -9223372036854775808 ≤ n ∧ n ≤ 9223372036854775807 →
    Calls Tryd.prog 26 #[.int .i64 n] w fun e w' => e = .returned (.string (Nq.txt n)) ∧ Ext w w' := by
  intro D
  induction D using Nat.strongRecOn
  rename_i D ih
  intro n w hD hn
  subst hD
  have xW := Ext.refl w
  refine calls_of_WC (args := [.int .i64 n]) Tryd.func26 rfl rfl (ble rfl) ?_
  refine WC.seq (fun K1 k1 => ?_)
  refine WC.region rfl ?_
  refine WL.yld rfl (blt rfl) rfl (Y.assign rfl rfl) ?_
  refine WL.nil ?_
  refine WK.then_normal (k1 _ _ ?_)
  refine WC.sub [(0, _)] ⟨rfl, trivial⟩ ?_
  refine WC.seq (fun K2 k2 => ?_)
  refine WC.seq (fun K3 k3 => ?_)
  refine WC.region rfl ?_
  refine WL.yld rfl (blt rfl) rfl (Y.move rfl rfl) ?_
  refine WL.yld rfl (blt rfl) rfl (Y.lss rfl rfl rfl) ?_
  refine WL.yld rfl (blt rfl) rfl (Y.move rfl rfl) ?_
  refine WL.yldG rfl (blt rfl) rfl rfl rfl (fun hb => Y.move rfl rfl) ?_
  refine WL.yldG rfl (blt rfl) rfl rfl rfl (fun hb => Y.gtr rfl (evg rfl hb) rfl) ?_
  refine WL.yld rfl (blt rfl) rfl (Y.and rfl rfl rfl rfl) ?_
  refine WL.nil ?_
  refine WK.then_normal (k3 _ _ ?_)
  refine WC.sub [(0, _), (9, _)] ⟨rfl, rfl, trivial⟩ ?_
  refine WC.cond rfl (fun h4 => ?_) (fun h4 => ?_)
  ·
    have p4 := (And.intro (dec_t (and_t h4).1) (dec_t (and_t h4).2))
    refine WC.seq (fun K5 k5 => ?_)
    refine WC.region rfl ?_
    refine WL.yld rfl (blt rfl) rfl (Y.move rfl rfl) ?_
    refine WL.yld rfl (blt rfl) rfl (Y.neg rfl rfl (wrap_i64 (by have q := dec_t (and_t h4).1; have q2 := dec_t (and_t h4).2; omega))) ?_
    refine WL.call rfl (blt rfl) rfl rfl rfl has26 rfl (ih _ (Nq.tm_neg (dec_t (and_t h4).1)) _ _ rfl (by omega)) ?_
    rintro _ w6 ⟨rfl, x7⟩
    refine ⟨_, rfl, ?_⟩
    have xW := Ext.trans xW x7
    refine WL.yld rfl (blt rfl) rfl (Y.addStr rfl rfl rfl (Nat.le_trans (Nat.add_le_add (show _ ≤ 10 from by decide) (Nq.txt_room (by omega))) (by decide))) ?_
    refine WL.yld rfl (blt rfl) rfl (Y.assign rfl rfl) ?_
    refine WL.nil ?_
    refine WK.then_normal (k5 _ _ ?_)
    refine WC.sub [(2, _)] ⟨rfl, trivial⟩ ?_
    refine WC.ret ?_
    refine WK.then_ret ?_
    clear k1 k2 k3 k5
    refine WK.ret [_] rfl ⟨rfl, trivial⟩ ?_
    exact ⟨ret1 (congrArg Value.string (Nq.txt_minus (dec_t (and_t h4).1))), xW⟩
  ·
    have p4 := ((and_f h4).imp (fun h => (dec_f h)) (fun h => (dec_f h)))
    refine WC.skip ?_
    refine WK.then_normal (k2 _ _ ?_)
    refine WC.sub [(0, _)] ⟨rfl, trivial⟩ ?_
    refine WC.seq (fun K8 k8 => ?_)
    refine WC.seq (fun K9 k9 => ?_)
    refine WC.region rfl ?_
    refine WL.yld rfl (blt rfl) rfl (Y.move rfl rfl) ?_
    refine WL.yld rfl (blt rfl) rfl (Y.geq rfl rfl rfl) ?_
    refine WL.yld rfl (blt rfl) rfl (Y.move rfl rfl) ?_
    refine WL.yldG rfl (blt rfl) rfl rfl rfl (fun hb => Y.move rfl rfl) ?_
    refine WL.yldG rfl (blt rfl) rfl rfl rfl (fun hb => Y.lss rfl (evg rfl hb) rfl) ?_
    refine WL.yld rfl (blt rfl) rfl (Y.and rfl rfl rfl rfl) ?_
    refine WL.nil ?_
    refine WK.then_normal (k9 _ _ ?_)
    refine WC.sub [(0, _), (19, _)] ⟨rfl, rfl, trivial⟩ ?_
    refine WC.cond rfl (fun h10 => ?_) (fun h10 => ?_)
    ·
      have p10 := (And.intro (dec_t (and_t h10).1) (dec_t (and_t h10).2))
      refine WC.seq (fun K11 k11 => ?_)
      refine WC.region rfl ?_
      refine WL.yld rfl (blt rfl) rfl (Yld.cast (Y.move rfl rfl) (vi (b := ((n.toNat : Nat) : Int)) (by have q := dec_t (and_t h10).1; omega))) ?_
      refine WL.yld rfl (blt rfl) rfl (Yld.cast (Y.move rfl rfl) (vi (b := ((n.toNat : Nat) : Int)) (by have q := dec_t (and_t h10).1; omega))) ?_
      refine WL.yld rfl (blt rfl) rfl (Y.add rfl rfl rfl (wrap_i64 (by have q := dec_t (and_t h10).2; omega))) ?_
      refine WL.yld rfl (blt rfl) rfl (Y.sliceStr n.toNat (n.toNat + 1) rfl Tryd.underlying9 rfl rfl rfl rfl rfl (Nat.le_succ _) (show _ ≤ 10 from by have q := dec_t (and_t h10).2; omega)) ?_
      refine WL.yld rfl (blt rfl) rfl (Y.assign rfl rfl) ?_
      refine WL.nil ?_
      refine WK.then_normal (k11 _ _ ?_)
      refine WC.sub [(2, _)] ⟨rfl, trivial⟩ ?_
      refine WC.ret ?_
      refine WK.then_ret ?_
      clear k1 k2 k3 k8 k9 k11
      refine WK.ret [_] rfl ⟨rfl, trivial⟩ ?_
      exact ⟨ret1 (congrArg Value.string (Nq.txt_dig' (dec_t (and_t h10).1) (dec_t (and_t h10).2))), xW⟩
    ·
      have p10 := ((and_f h10).imp (fun h => (dec_f h)) (fun h => (dec_f h)))
      have hbig : 10 ≤ n ∨ n ≤ -10 := by rcases and_f h4 with q | q <;> rcases and_f h10 with q2 | q2 <;> (have q3 := dec_f q; have q4 := dec_f q2; omega)
      refine WC.skip ?_
      refine WK.then_normal (k8 _ _ ?_)
      refine WC.sub [(0, _)] ⟨rfl, trivial⟩ ?_
      refine WC.seq (fun K12 k12 => ?_)
      refine WC.region rfl ?_
      refine WL.yld rfl (blt rfl) rfl (Y.move rfl rfl) ?_
      refine WL.yld rfl (blt rfl) rfl (Y.rem rfl rfl rfl (by decide) rfl) ?_
      refine WL.yld rfl (blt rfl) rfl (Y.assign rfl rfl) ?_
      refine WL.nil ?_
      refine WK.then_normal (k12 _ _ ?_)
      refine WC.sub [(0, _), (3, _)] ⟨rfl, rfl, trivial⟩ ?_
      refine WC.seq (fun K13 k13 => ?_)
      refine WC.seq (fun K14 k14 => ?_)
      refine WC.region rfl ?_
      refine WL.yld rfl (blt rfl) rfl (Y.move rfl rfl) ?_
      refine WL.yld rfl (blt rfl) rfl (Y.lss rfl rfl rfl) ?_
      refine WL.nil ?_
      refine WK.then_normal (k14 _ _ ?_)
      refine WC.sub [(0, _), (3, _), (27, _)] ⟨rfl, rfl, rfl, trivial⟩ ?_
      refine WC.cond rfl (fun h15 => ?_) (fun h15 => ?_)
      ·
        have p15 := (dec_t h15)
        refine WC.region rfl ?_
        refine WL.yld rfl (blt rfl) rfl (Y.move rfl rfl) ?_
        refine WL.yld rfl (blt rfl) rfl (Yld.cast (Y.neg rfl rfl (Nq.ld_neg (dec_t h15))) (vi rfl)) ?_
        refine WL.yld rfl (blt rfl) rfl (Y.assign rfl rfl) ?_
        refine WL.nil ?_
        refine WK.then_normal (k13 _ _ ?_)
        refine WC.sub [(0, _), (3, _)] ⟨rfl, rfl, trivial⟩ ?_
        refine WC.seq (fun K16 k16 => ?_)
        refine WC.regionDq (by kernel_rfl) (by kernel_rfl) rfl ?_
        refine WQ.yld rfl (blt rfl) rfl (Y.move rfl rfl) ?_
        refine WQ.yld rfl (blt rfl) rfl (Y.quo rfl rfl rfl (by decide) (wrap_i64 (Nq.td_rng hn))) ?_
        refine WQ.call rfl (blt rfl) rfl rfl rfl has26 rfl (fun w hw => calls_ext hw (ih _ (Nq.tm_div hbig) _ _ rfl (Nq.td_rng hn))) ?_
        refine WQ.yld rfl (blt rfl) rfl (Yld.cast (Y.move rfl rfl) (vi rfl)) ?_
        refine WQ.yld rfl (blt rfl) rfl (Yld.cast (Y.move rfl rfl) (vi rfl)) ?_
        refine WQ.yld rfl (blt rfl) rfl (Y.add rfl rfl rfl (wrap_i64 (by have q := Nq.ld_lt n; omega))) ?_
        refine WQ.yld rfl (blt rfl) rfl (Y.sliceStr (Nq.ld n) ((Nq.ld n) + 1) rfl Tryd.underlying9 rfl rfl rfl rfl rfl (Nat.le_succ _) (show _ ≤ 10 from by have q := Nq.ld_lt n; omega)) ?_
        refine WQ.yld rfl (blt rfl) rfl (Y.addStr rfl rfl rfl (Nat.le_trans (Nat.add_le_add (Nq.txt_room (Nq.td_rng hn)) Nq.part_le) (by decide))) ?_
        refine WQ.yld rfl (blt rfl) rfl (Y.assign rfl rfl) ?_
        refine WQ.done (fun w17 x18 => ?_)
        have xW := Ext.trans xW x18
        refine WK.then_normal (k16 _ _ ?_)
        refine WC.sub [(2, _)] ⟨rfl, trivial⟩ ?_
        refine WC.ret ?_
        clear k1 k2 k3 k8 k9 k12 k13 k14 k16
        refine WK.ret [_] rfl ⟨rfl, trivial⟩ ?_
        exact ⟨ret1 (congrArg Value.string (Nq.txt_step hbig)), xW⟩
      ·
        have p15 := (dec_f h15)
        refine WC.skip ?_
        refine WK.then_normal (k13 _ _ ?_)
        refine WC.sub [(0, _), (3, _)] ⟨rfl, rfl, trivial⟩ ?_
        refine WC.seq (fun K19 k19 => ?_)
        refine WC.regionDq (by kernel_rfl) (by kernel_rfl) rfl ?_
        refine WQ.yld rfl (blt rfl) rfl (Y.move rfl rfl) ?_
        refine WQ.yld rfl (blt rfl) rfl (Y.quo rfl rfl rfl (by decide) (wrap_i64 (Nq.td_rng hn))) ?_
        refine WQ.call rfl (blt rfl) rfl rfl rfl has26 rfl (fun w hw => calls_ext hw (ih _ (Nq.tm_div hbig) _ _ rfl (Nq.td_rng hn))) ?_
        refine WQ.yld rfl (blt rfl) rfl (Yld.cast (Y.move rfl rfl) (vi (b := ((Nq.ld n : Nat) : Int)) (Nq.ld_pos (dec_f h15)))) ?_
        refine WQ.yld rfl (blt rfl) rfl (Yld.cast (Y.move rfl rfl) (vi (b := ((Nq.ld n : Nat) : Int)) (Nq.ld_pos (dec_f h15)))) ?_
        refine WQ.yld rfl (blt rfl) rfl (Y.add rfl rfl rfl (wrap_i64 (by have q := Nq.ld_lt n; omega))) ?_
        refine WQ.yld rfl (blt rfl) rfl (Y.sliceStr (Nq.ld n) ((Nq.ld n) + 1) rfl Tryd.underlying9 rfl rfl rfl rfl rfl (Nat.le_succ _) (show _ ≤ 10 from by have q := Nq.ld_lt n; omega)) ?_
        refine WQ.yld rfl (blt rfl) rfl (Y.addStr rfl rfl rfl (Nat.le_trans (Nat.add_le_add (Nq.txt_room (Nq.td_rng hn)) Nq.part_le) (by decide))) ?_
        refine WQ.yld rfl (blt rfl) rfl (Y.assign rfl rfl) ?_
        refine WQ.done (fun w20 x21 => ?_)
        have xW := Ext.trans xW x21
        refine WK.then_normal (k19 _ _ ?_)
        refine WC.sub [(2, _)] ⟨rfl, trivial⟩ ?_
        refine WC.ret ?_
        clear k1 k2 k3 k8 k9 k12 k13 k14 k19
        refine WK.ret [_] rfl ⟨rfl, trivial⟩ ?_
        exact ⟨ret1 (congrArg Value.string (Nq.txt_step hbig)), xW⟩
theorem parse_ok (v : Int) (s : ByteArray) (w : World) (hT : Nq.Tabs w) (hs : s.size ≤ 200) (hv : Lib.atoiAll s.data.toList = .ok v) (hr : -9223372036854775808 ≤ v ∧ v ≤ 9223372036854775807) :
    Calls Tryd.prog 24 #[.string s] w fun e w' => e = .returned (.tuple #[.int .i64 (Nq.ps s).1, .bool (Nq.ps s).2]) ∧ Ext w w' := by
  have xW := Ext.refl w
  refine calls_of_WC (args := [.string s]) Tryd.func24 rfl rfl (ble rfl) ?_
  refine WC.seq (fun K1 k1 => ?_)
  refine WC.region rfl ?_
  refine WL.yld rfl (blt rfl) rfl (Y.assign rfl rfl) ?_
  refine WL.yld rfl (blt rfl) rfl (Y.assign rfl rfl) ?_
  refine WL.nil ?_
  refine WK.then_normal (k1 _ _ ?_)
  refine WC.sub [(0, _)] ⟨rfl, trivial⟩ ?_
  refine WC.seq (fun K2 k2 => ?_)
  refine WC.region rfl ?_
  refine WL.yld rfl (blt rfl) rfl (Y.move rfl rfl) ?_
  refine WL.call rfl (blt rfl) rfl rfl rfl has35 rfl (atoi_ok _ _ _ hs hv) ?_
  rintro _ w3 ⟨rfl, x4⟩
  refine ⟨_, rfl, ?_⟩
  have xW := Ext.trans xW x4
  refine WL.yld rfl (blt rfl) rfl (Y.move rfl rfl) ?_
  refine WL.yld rfl (blt rfl) rfl (Y.extract rfl rfl rfl) ?_
  refine WL.yld rfl (blt rfl) rfl (Y.extract rfl rfl rfl) ?_
  refine WL.yld rfl (blt rfl) rfl (Y.assign rfl rfl) ?_
  refine WL.yld rfl (blt rfl) rfl (Y.assign rfl rfl) ?_
  refine WL.nil ?_
  refine WK.then_normal (k2 _ _ ?_)
  refine WC.sub [(0, _), (4, _), (5, _)] ⟨rfl, rfl, rfl, trivial⟩ ?_
  refine WC.seq (fun K5 k5 => ?_)
  refine WC.region rfl ?_
  refine WL.yld rfl (blt rfl) rfl (Y.move rfl rfl) ?_
  refine WL.yld rfl (blt rfl) rfl (Y.move rfl rfl) ?_
  refine WL.yld rfl (blt rfl) rfl (Y.eqlNil rfl Tryd.underlying49 rfl) ?_
  refine WL.yld rfl (blt rfl) rfl (Y.move rfl rfl) ?_
  refine WL.yldW rfl (blt rfl) rfl rfl rfl (Y.move rfl rfl) ?_
  refine WL.callW rfl (blt rfl) rfl rfl rfl rfl rfl has23 rfl (text_any _ _ (hT.ext xW) (by omega)) ?_
  rintro _ w6 ⟨rfl, x7⟩
  refine ⟨_, rfl, ?_⟩
  have xW := Ext.trans xW x7
  refine WL.yldW rfl (blt rfl) rfl rfl rfl (Y.move rfl rfl) ?_
  refine WL.yldW rfl (blt rfl) rfl rfl rfl (Y.eqlStr rfl rfl rfl) ?_
  refine WL.yld rfl (blt rfl) rfl (Y.pickT rfl rfl rfl) ?_
  refine WL.call rfl (blt rfl) rfl rfl rfl has27 rfl (within_any _ _ _ ) ?_
  rintro _ w8 ⟨rfl, x9⟩
  refine ⟨_, rfl, ?_⟩
  have xW := Ext.trans xW x9
  refine WL.yld rfl (blt rfl) rfl (Y.extract rfl rfl rfl) ?_
  refine WL.yld rfl (blt rfl) rfl (Y.extract rfl rfl rfl) ?_
  refine WL.yld rfl (blt rfl) rfl (Y.assign rfl rfl) ?_
  refine WL.yld rfl (blt rfl) rfl (Y.assign rfl rfl) ?_
  refine WL.nil ?_
  refine WK.then_normal (k5 _ _ ?_)
  refine WC.sub [(2, _), (3, _)] ⟨rfl, rfl, trivial⟩ ?_
  refine WC.ret ?_
  clear k1 k2 k5
  refine WK.ret [_, _] rfl ⟨rfl, rfl, trivial⟩ ?_
  refine ⟨?_, xW⟩
  rw [Nq.ps_ok hv]; rfl
theorem parse_bad (s : ByteArray) (w : World) (hT : Nq.Tabs w) (hs : s.size ≤ 200) (hv : ∀ v, Lib.atoiAll s.data.toList ≠ .ok v) :
    Calls Tryd.prog 24 #[.string s] w fun e w' => e = .returned (.tuple #[.int .i64 (Nq.ps s).1, .bool (Nq.ps s).2]) ∧ Ext w w' := by
  have xW := Ext.refl w
  refine calls_of_WC (args := [.string s]) Tryd.func24 rfl rfl (ble rfl) ?_
  refine WC.seq (fun K1 k1 => ?_)
  refine WC.region rfl ?_
  refine WL.yld rfl (blt rfl) rfl (Y.assign rfl rfl) ?_
  refine WL.yld rfl (blt rfl) rfl (Y.assign rfl rfl) ?_
  refine WL.nil ?_
  refine WK.then_normal (k1 _ _ ?_)
  refine WC.sub [(0, _)] ⟨rfl, trivial⟩ ?_
  refine WC.seq (fun K2 k2 => ?_)
  refine WC.region rfl ?_
  refine WL.yld rfl (blt rfl) rfl (Y.move rfl rfl) ?_
  refine WL.call rfl (blt rfl) rfl rfl rfl has35 rfl (atoi_bad _ _ (hT.ext xW) hs hv) ?_
  rintro _ w3 ⟨v5, tp6, pp7, rfl, x4⟩
  refine ⟨_, rfl, ?_⟩
  have xW := Ext.trans xW x4
  refine WL.yld rfl (blt rfl) rfl (Y.move rfl rfl) ?_
  refine WL.yld rfl (blt rfl) rfl (Y.extract rfl rfl rfl) ?_
  refine WL.yld rfl (blt rfl) rfl (Y.extract rfl rfl rfl) ?_
  refine WL.yld rfl (blt rfl) rfl (Y.assign rfl rfl) ?_
  refine WL.yld rfl (blt rfl) rfl (Y.assign rfl rfl) ?_
  refine WL.nil ?_
  refine WK.then_normal (k2 _ _ ?_)
  refine WC.sub [(0, _), (4, _), (5, _)] ⟨rfl, rfl, rfl, trivial⟩ ?_
  refine WC.seq (fun K8 k8 => ?_)
  refine WC.region rfl ?_
  refine WL.yld rfl (blt rfl) rfl (Y.move rfl rfl) ?_
  refine WL.yld rfl (blt rfl) rfl (Y.move rfl rfl) ?_
  refine WL.yld rfl (blt rfl) rfl (Y.eqlNot rfl Tryd.underlying49 rfl) ?_
  refine WL.yld rfl (blt rfl) rfl (Y.move rfl rfl) ?_
  refine WL.skip rfl (blt rfl) rfl rfl rfl rfl ?_
  refine WL.skip rfl (blt rfl) rfl rfl rfl rfl ?_
  refine WL.skip rfl (blt rfl) rfl rfl rfl rfl ?_
  refine WL.skip rfl (blt rfl) rfl rfl rfl rfl ?_
  refine WL.yld rfl (blt rfl) rfl (Y.pickF rfl rfl rfl) ?_
  refine WL.call rfl (blt rfl) rfl rfl rfl has27 rfl (within_any _ _ _ ) ?_
  rintro _ w9 ⟨rfl, x10⟩
  refine ⟨_, rfl, ?_⟩
  have xW := Ext.trans xW x10
  refine WL.yld rfl (blt rfl) rfl (Y.extract rfl rfl rfl) ?_
  refine WL.yld rfl (blt rfl) rfl (Y.extract rfl rfl rfl) ?_
  refine WL.yld rfl (blt rfl) rfl (Y.assign rfl rfl) ?_
  refine WL.yld rfl (blt rfl) rfl (Y.assign rfl rfl) ?_
  refine WL.nil ?_
  refine WK.then_normal (k8 _ _ ?_)
  refine WC.sub [(2, _), (3, _)] ⟨rfl, rfl, trivial⟩ ?_
  refine WC.ret ?_
  clear k1 k2 k8
  refine WK.ret [_, _] rfl ⟨rfl, rfl, trivial⟩ ?_
  refine ⟨?_, xW⟩
  rw [Nq.ps_bad hv]; rfl
theorem parse_any (s : ByteArray) (w : World) (hT : Nq.Tabs w) (hs : s.size ≤ 200) : Calls Tryd.prog 24 #[.string s] w fun e w' => e = .returned (.tuple #[.int .i64 (Nq.ps s).1, .bool (Nq.ps s).2]) ∧ Ext w w' := by
  by_cases h : ∃ v, Lib.atoiAll s.data.toList = .ok v
  · obtain ⟨v, hv⟩ := h
    exact parse_ok v s w hT hs hv (Nq.ok_rng hv)
  · exact parse_bad s w hT hs fun v hv => h ⟨v, hv⟩
theorem rparse_any (s : ByteArray) (w : World) :
    Calls Tryd.prog 25 #[.string s] w fun e w' => e = .returned (.tuple #[.int .i64 (Nq.ps s).1, .bool (Nq.ps s).2]) ∧ Ext w w' := by
  have xW := Ext.refl w
  refine calls_of_WC (args := [.string s]) Tryd.func25 rfl rfl (ble rfl) ?_
  refine WC.seq (fun K1 k1 => ?_)
  refine WC.region rfl ?_
  refine WL.yld rfl (blt rfl) rfl (Y.assign rfl rfl) ?_
  refine WL.yld rfl (blt rfl) rfl (Y.assign rfl rfl) ?_
  refine WL.nil ?_
  refine WK.then_normal (k1 _ _ ?_)
  refine WC.sub [(0, _)] ⟨rfl, trivial⟩ ?_
  refine WC.seq (fun K2 k2 => ?_)
  refine WC.seq (fun K3 k3 => ?_)
  refine WC.region rfl ?_
  refine WL.yld rfl (blt rfl) rfl (Y.move rfl rfl) ?_
  refine WL.yld rfl (blt rfl) rfl (Y.lenStr rfl rfl rfl Tryd.underlying9 rfl) ?_
  refine WL.yld rfl (blt rfl) rfl (Y.gtr rfl rfl rfl) ?_
  refine WL.nil ?_
  refine WK.then_normal (k3 _ _ ?_)
  refine WC.sub [(0, _), (8, _)] ⟨rfl, rfl, trivial⟩ ?_
  refine WC.cond rfl (fun h4 => ?_) (fun h4 => ?_)
  ·
    have p4 := (dec_t h4)
    refine WC.seq (fun K5 k5 => ?_)
    refine WC.region rfl ?_
    refine WL.yld rfl (blt rfl) rfl (Y.assign rfl rfl) ?_
    refine WL.yld rfl (blt rfl) rfl (Y.assign rfl rfl) ?_
    refine WL.nil ?_
    refine WK.then_normal (k5 _ _ ?_)
    refine WC.sub [(2, _), (3, _)] ⟨rfl, rfl, trivial⟩ ?_
    refine WC.ret ?_
    refine WK.then_ret ?_
    clear k1 k2 k3 k5
    refine WK.ret [_, _] rfl ⟨rfl, rfl, trivial⟩ ?_
    refine ⟨?_, xW⟩
    rw [Nq.rps_long (dec_t h4)]; rfl
  ·
    have p4 := (dec_f h4)
    refine WC.skip ?_
    refine WK.then_normal (k2 _ _ ?_)
    refine WC.sub [(0, _)] ⟨rfl, trivial⟩ ?_
    refine WC.seq (fun K6 k6 => ?_)
    refine WC.region rfl ?_
    refine WL.yld rfl (blt rfl) rfl (Y.assign rfl rfl) ?_
    refine WL.nil ?_
    refine WK.then_normal (k6 _ _ ?_)
    refine WC.seq (fun K7 k7 => ?_)
    refine WC.seq (fun K8 k8 => ?_)
    refine WC.region rfl ?_
    refine WL.yld rfl (blt rfl) rfl (Y.assign rfl rfl) ?_
    refine WL.nil ?_
    refine WK.then_normal (k8 _ _ ?_)
    refine WC.block ?_
    refine WC.sub [(5, _), (4, _), (0, _)] ⟨rfl, rfl, rfl, trivial⟩ ?_
    refine WC.loopS 2 (fun mz Ed W' => ∃ i : Nat, ∃ z : Int, mz = s.size - i ∧ Ed = [(5, .int .i64 ((i : Nat) : Int)), (4, .int .i64 z)] ∧ Ext w W' ∧ (i ≤ s.size) ∧ (z = ((Nq.dig s i : Nat) : Int))) _ ⟨0, 0, rfl, rfl, xW, (Nat.zero_le _), rfl⟩ ?_
    rintro _ _ w9 ⟨i, z, rfl, rfl, xW, le_i, zi⟩
    refine WC.sub [(5, _), (4, _), (0, _)] ⟨rfl, rfl, rfl, trivial⟩ ?_
    refine WC.seq (fun K10 k10 => ?_)
    refine WC.seq (fun K11 k11 => ?_)
    refine WC.region rfl ?_
    refine WL.yld rfl (blt rfl) rfl (Y.move rfl rfl) ?_
    refine WL.yld rfl (blt rfl) rfl (Y.move rfl rfl) ?_
    refine WL.yld rfl (blt rfl) rfl (Y.lenStr rfl rfl rfl Tryd.underlying9 rfl) ?_
    refine WL.yld rfl (blt rfl) rfl (Y.lss rfl rfl rfl) ?_
    refine WL.nil ?_
    refine WK.then_normal (k11 _ _ ?_)
    refine WC.sub [(0, _), (4, _), (5, _), (12, _)] ⟨rfl, rfl, rfl, rfl, trivial⟩ ?_
    refine WC.cond rfl (fun h12 => ?_) (fun h12 => ?_)
    ·
      have p12 := (dec_t h12)
      have br := bat_rng s i
      have dl := Nq.dig_lt s i (by omega)
      refine WC.skip ?_
      refine WK.then_normal (k10 _ _ ?_)
      refine WC.sub [(0, _), (4, _), (5, _)] ⟨rfl, rfl, rfl, trivial⟩ ?_
      refine WC.seq (fun K13 k13 => ?_)
      refine WC.block ?_
      refine WC.seq (fun K14 k14 => ?_)
      refine WC.region rfl ?_
      refine WL.yld rfl (blt rfl) rfl (Y.move rfl rfl) ?_
      refine WL.yld rfl (blt rfl) rfl (Y.move rfl rfl) ?_
      have b15 : i < s.size := by omega
      refine WL.yld rfl (blt rfl) rfl (Y.indexStr i rfl Tryd.underlying9 rfl rfl rfl b15) ?_
      refine WL.yld rfl (blt rfl) rfl (Y.geq rfl rfl rfl) ?_
      refine WL.yld rfl (blt rfl) rfl (Y.move rfl rfl) ?_
      refine WL.yldG rfl (blt rfl) rfl rfl rfl (fun hb => Y.move rfl rfl) ?_
      refine WL.yldG rfl (blt rfl) rfl rfl rfl (fun hb => Y.move rfl rfl) ?_
      refine WL.yldG rfl (blt rfl) rfl rfl rfl (fun hb => Y.indexStr i rfl Tryd.underlying9 (evg rfl hb) (evg rfl hb) rfl (by have q0 := (dec_t hb); omega)) ?_
      refine WL.yldG rfl (blt rfl) rfl rfl rfl (fun hb => Y.leq rfl (evg rfl hb) rfl) ?_
      refine WL.yld rfl (blt rfl) rfl (Y.and rfl rfl rfl rfl) ?_
      refine WL.nil ?_
      refine WK.then_normal (k14 _ _ ?_)
      refine WC.sub [(0, _), (4, _), (5, _), (24, _)] ⟨rfl, rfl, rfl, rfl, trivial⟩ ?_
      refine WC.cond rfl (fun h16 => ?_) (fun h16 => ?_)
      ·
        have p16 := (And.intro (dec_t (and_t h16).1) (dec_t (and_t h16).2))
        refine WC.region rfl ?_
        refine WL.yld rfl (blt rfl) rfl (Y.move rfl rfl) ?_
        refine WL.yld rfl (blt rfl) rfl (Y.mul rfl rfl rfl (wrap_i64 (by first | omega | (dsimp only; omega)))) ?_
        refine WL.yld rfl (blt rfl) rfl (Y.move rfl rfl) ?_
        refine WL.yld rfl (blt rfl) rfl (Y.move rfl rfl) ?_
        have b17 : i < s.size := by omega
        refine WL.yld rfl (blt rfl) rfl (Y.indexStr i rfl Tryd.underlying9 rfl rfl rfl b17) ?_
        refine WL.yld rfl (blt rfl) rfl (Y.sub rfl rfl rfl (wrap_u8 (by first | omega | (dsimp only; omega)))) ?_
        refine WL.yld rfl (blt rfl) rfl (Y.convInt rfl Tryd.underlying5 Tryd.underlying3 rfl (wrap_i64 (by first | omega | (dsimp only; omega)))) ?_
        refine WL.yld rfl (blt rfl) rfl (Y.add rfl rfl rfl (wrap_i64 (by first | omega | (dsimp only; omega)))) ?_
        refine WL.yld rfl (blt rfl) rfl (Y.assign rfl rfl) ?_
        refine WL.nil ?_
        refine WK.in_normal ?_
        refine WK.then_normal (k13 _ _ ?_)
        refine WC.sub [(0, _), (4, _), (5, _)] ⟨rfl, rfl, rfl, trivial⟩ ?_
        refine WC.region rfl ?_
        refine WL.yld rfl (blt rfl) rfl (Y.move rfl rfl) ?_
        refine WL.yld rfl (blt rfl) rfl (Y.add rfl rfl rfl (wrap_i64 (by first | omega | (dsimp only; omega)))) ?_
        refine WL.yld rfl (blt rfl) rfl (Y.assign rfl rfl) ?_
        refine WL.nil ?_
        refine WK.roundS _ [(5, .int .i64 (((i + 1) : Nat) : Int)), (4, .int .i64 _)] ⟨rfl, rfl, rfl, trivial⟩ ?_ ⟨(i + 1), _, rfl, rfl, xW, (by omega), (Nq.dig_yes (by omega) zi (dec_t (and_t h16).1) (dec_t (and_t h16).2))⟩
        show _ - (i + 1) < _ - i; omega
      ·
        have p16 := ((and_f h16).imp (fun h => (dec_f h)) (fun h => (dec_f h)))
        refine WC.skip ?_
        refine WK.in_normal ?_
        refine WK.then_normal (k13 _ _ ?_)
        refine WC.sub [(0, _), (4, _), (5, _)] ⟨rfl, rfl, rfl, trivial⟩ ?_
        refine WC.region rfl ?_
        refine WL.yld rfl (blt rfl) rfl (Y.move rfl rfl) ?_
        refine WL.yld rfl (blt rfl) rfl (Y.add rfl rfl rfl (wrap_i64 (by first | omega | (dsimp only; omega)))) ?_
        refine WL.yld rfl (blt rfl) rfl (Y.assign rfl rfl) ?_
        refine WL.nil ?_
        refine WK.roundS _ [(5, .int .i64 (((i + 1) : Nat) : Int)), (4, .int .i64 z)] ⟨rfl, rfl, rfl, trivial⟩ ?_ ⟨(i + 1), z, rfl, rfl, xW, (by omega), (Nq.dig_no (by omega) zi (fun q => by rcases and_f h16 with q2 | q2 <;> (have q3 := dec_f q2; omega)))⟩
        show _ - (i + 1) < _ - i; omega
    ·
      have p12 := (dec_f h12)
      have dl := Nq.dig_lt s i (by omega)
      refine WC.exit ?_
      refine WK.then_exit ?_
      refine WK.then_exit ?_
      refine WK.in_exit ?_
      refine WK.then_normal (k7 _ _ ?_)
      refine WC.sub [(0, _), (4, _)] ⟨rfl, rfl, trivial⟩ ?_
      refine WC.seq (fun K18 k18 => ?_)
      refine WC.seq (fun K19 k19 => ?_)
      refine WC.region rfl ?_
      refine WL.yld rfl (blt rfl) rfl (Y.move rfl rfl) ?_
      refine WL.call rfl (blt rfl) rfl rfl rfl has15 rfl (rin_any _ _ ) ?_
      rintro _ w20 ⟨rfl, x21⟩
      refine ⟨_, rfl, ?_⟩
      have xW := Ext.trans xW x21
      refine WL.yld rfl (blt rfl) rfl (Y.move rfl rfl) ?_
      refine WL.yldG rfl (blt rfl) rfl rfl rfl (fun hb => Y.move rfl rfl) ?_
      refine WL.callG rfl (blt rfl) rfl rfl rfl rfl rfl has26 (fun hb => (evs_cons (evg rfl hb) evs_nil)) (fun hb => rtext_any _ _ _ rfl (by omega)) (fun w22 x23 => ?_)
      have xW := Ext.trans xW x23
      refine WL.yldG rfl (blt rfl) rfl rfl rfl (fun hb => Y.move rfl rfl) ?_
      refine WL.yldG rfl (blt rfl) rfl rfl rfl (fun hb => Y.eqlStr rfl (evg rfl hb) (evg rfl hb)) ?_
      refine WL.yld rfl (blt rfl) rfl (Y.and rfl rfl rfl rfl) ?_
      refine WL.nil ?_
      refine WK.then_normal (k19 _ _ ?_)
      refine WC.sub [(0, _), (4, _), (40, _)] ⟨rfl, rfl, rfl, trivial⟩ ?_
      refine WC.cond rfl (fun h24 => ?_) (fun h24 => ?_)
      ·
        refine WC.seq (fun K25 k25 => ?_)
        refine WC.region rfl ?_
        refine WL.yld rfl (blt rfl) rfl (Y.move rfl rfl) ?_
        refine WL.yld rfl (blt rfl) rfl (Y.assign rfl rfl) ?_
        refine WL.yld rfl (blt rfl) rfl (Y.assign rfl rfl) ?_
        refine WL.nil ?_
        refine WK.then_normal (k25 _ _ ?_)
        refine WC.sub [(2, _), (3, _)] ⟨rfl, rfl, trivial⟩ ?_
        refine WC.ret ?_
        refine WK.then_ret ?_
        clear k1 k2 k3 k6 k7 k8 k10 k11 k18 k19 k25
        refine WK.ret [_, _] rfl ⟨rfl, rfl, trivial⟩ ?_
        refine ⟨?_, xW⟩
        rw [Nq.rps_pos h24]; rfl
      ·
        refine WC.skip ?_
        refine WK.then_normal (k18 _ _ ?_)
        refine WC.sub [(0, _), (4, _)] ⟨rfl, rfl, trivial⟩ ?_
        refine WC.seq (fun K26 k26 => ?_)
        refine WC.seq (fun K27 k27 => ?_)
        refine WC.region rfl ?_
        refine WL.yld rfl (blt rfl) rfl (Y.move rfl rfl) ?_
        refine WL.call rfl (blt rfl) rfl rfl rfl has15 rfl (rin_any _ _ ) ?_
        rintro _ w28 ⟨rfl, x29⟩
        refine ⟨_, rfl, ?_⟩
        have xW := Ext.trans xW x29
        refine WL.yld rfl (blt rfl) rfl (Y.move rfl rfl) ?_
        refine WL.yldG rfl (blt rfl) rfl rfl rfl (fun hb => Y.move rfl rfl) ?_
        refine WL.yldG rfl (blt rfl) rfl rfl rfl (fun hb => Y.neg rfl (evg rfl hb) (wrap_i64 (by first | omega | (dsimp only; omega)))) ?_
        refine WL.callG rfl (blt rfl) rfl rfl rfl rfl rfl has26 (fun hb => (evs_cons (evg rfl hb) evs_nil)) (fun hb => rtext_any _ _ _ rfl (by omega)) (fun w30 x31 => ?_)
        have xW := Ext.trans xW x31
        refine WL.yldG rfl (blt rfl) rfl rfl rfl (fun hb => Y.move rfl rfl) ?_
        refine WL.yldG rfl (blt rfl) rfl rfl rfl (fun hb => Y.eqlStr rfl (evg rfl hb) (evg rfl hb)) ?_
        refine WL.yld rfl (blt rfl) rfl (Y.and rfl rfl rfl rfl) ?_
        refine WL.nil ?_
        refine WK.then_normal (k27 _ _ ?_)
        refine WC.sub [(4, _), (50, _)] ⟨rfl, rfl, trivial⟩ ?_
        refine WC.cond rfl (fun h32 => ?_) (fun h32 => ?_)
        ·
          refine WC.seq (fun K33 k33 => ?_)
          refine WC.region rfl ?_
          refine WL.yld rfl (blt rfl) rfl (Y.move rfl rfl) ?_
          refine WL.yld rfl (blt rfl) rfl (Y.neg rfl rfl (wrap_i64 (by first | omega | (dsimp only; omega)))) ?_
          refine WL.yld rfl (blt rfl) rfl (Y.assign rfl rfl) ?_
          refine WL.yld rfl (blt rfl) rfl (Y.assign rfl rfl) ?_
          refine WL.nil ?_
          refine WK.then_normal (k33 _ _ ?_)
          refine WC.sub [(2, _), (3, _)] ⟨rfl, rfl, trivial⟩ ?_
          refine WC.ret ?_
          refine WK.then_ret ?_
          clear k1 k2 k3 k6 k7 k8 k10 k11 k18 k19 k26 k27 k33
          refine WK.ret [_, _] rfl ⟨rfl, rfl, trivial⟩ ?_
          refine ⟨?_, xW⟩
          rw [Nq.rps_neg h32]; rfl
        ·
          refine WC.skip ?_
          refine WK.then_normal (k26 _ _ ?_)
          refine WC.sub [] trivial ?_
          refine WC.seq (fun K34 k34 => ?_)
          refine WC.region rfl ?_
          refine WL.yld rfl (blt rfl) rfl (Y.assign rfl rfl) ?_
          refine WL.yld rfl (blt rfl) rfl (Y.assign rfl rfl) ?_
          refine WL.nil ?_
          refine WK.then_normal (k34 _ _ ?_)
          refine WC.ret ?_
          clear k1 k2 k3 k6 k7 k8 k10 k11 k18 k19 k26 k27 k34
          refine WK.ret [_, _] rfl ⟨rfl, rfl, trivial⟩ ?_
          refine ⟨?_, xW⟩
          rw [Nq.rps_no (show z = _ by rw [zi, show i = s.size by omega]) h24 h32]; rfl
end H
end NqW

end Go.Proofs.YteaalclidffjgaaDoor
