/- slices.Backward over symbols, ranged over: the iterator's contract (after a worked text of the guide). Conditions: what each theorem states. -/
import Derived.RangeFuncBox
import Derived.RangeFuncLeaves
import Derived.RangeFuncKeeps
import Derived.Shelf.Abstract
import Derived.WalkKit
import Derived.OwnWalkIn
import Derived.TacticsInMore
import Derived.LoopNIn
import Derived.LoopIn
import Derived.Test.YtghfncgciaiofaaDoorProg
import Derived.Test.YtghfncgciaiofaaDoorSyLay
namespace Go.Proofs.YtghfncgciaiofaaDoor
open Go Go.RowKit Go.Shelf Go.Proofs
attribute [local go_sem] Oper.semAt_some
namespace SyB
theorem addb (ad : Addr) (k : Nat) : (ad.add k).block = ad.block := by unfold Addr.add; split <;> rfl
/-- The places visited first. -/
def down (n m : Nat) : List Nat := (List.range m).map fun j => n - 1 - j
theorem down_succ (n m : Nat) : down n (m + 1) = down n m ++ [n - 1 - m] := by simp [down, List.range_succ]
theorem down_length (n m : Nat) : (down n m).length = m := by simp [down]
def e1 (k : Nat) : Value := .int .i64 k
def e2 (zs : List Sy.S) (k : Nat) : Value := .agg #[.int .i64 zs[k]!.o, .string zs[k]!.nm]
set_option maxRecDepth 100000 in
set_option maxHeartbeats 2000000 in
theorem back1 (F : Fence) (n : Nat) (h7 : F.fn 44) (hro : F.round = none) (hn : 1 ≤ n) (l Bs n₀ len cap : Nat) (ad : Addr) (zs : List Sy.S) (hreach : len ≤ 100000) (hb : ad.block < n₀) (J Jx : List Nat → World → Prop)
    (hY : ∀ pre x W, J pre W → pre.length < len → YieldAt F (n - 1) Tryd.prog l #[e1 x, e2 zs x] W fun e W' =>
      (e = .returned (.bool true) ∧ J (pre ++ [x]) W' ∧ Below n₀ W W') ∨ (e = .returned (.bool false) ∧ Jx (pre ++ [x]) W'))
    (W : World) (hBb : Bs < n₀) (hBs : W.cell? ⟨Bs, 0, none⟩ = some (.slice (some ad) len cap)) (hc : ∀ j, j < len → W.cell? (ad.add (j * 2)) = some (.int .i64 zs[j]!.o) ∧ W.cell? (ad.add (j * 2 + 1)) = some (.string zs[j]!.nm)) (h0 : J [] W) :
    CallsIn F n Tryd.prog 44 #[.func (.yield l) #[] #[], .pointer (some ⟨Bs, 0, none⟩)] W fun e W' => (∃ v, e = .returned v) ∧
      (J (down len len) W' ∨ (∃ k, k ≤ len ∧ Jx (down len k) W')) := by
  refine callsIn_of_wp Tryd.func44 rfl h7 ?_ hro
  simp only [Tryd.ntmps44, List.size_toArray, List.length_cons, List.length_nil, Nat.reduceAdd, Nat.reduceSub, Array.replicate_succ, Array.replicate_zero, List.push_toArray, List.append_toArray, List.nil_append, List.cons_append]
  gi_wp2
  gi_loopw [3] (fun i wr => ∃ m : Nat, m ≤ len ∧ i = .int .i64 ((len : Int) - 1 - m) ∧ J (down len m) wr ∧ Below n₀ W wr)
    (fun i _ => (intOf i + 1).toNat)
  case atStart => exact ⟨0, Nat.zero_le _, by simp, h0, Below.refl _ _⟩
  case round =>
    obtain ⟨m, hm, rfl, hJs, hnx⟩ := hrel
    have hBx : wr.cell? ⟨Bs, 0, none⟩ = some (.slice (some ad) len cap) := (hnx.cell (p := ⟨Bs, 0, none⟩) hBb).trans hBs
    by_cases hlt : m < len
    · obtain ⟨fn, tmps, assign, body, hy, hR⟩ := hY _ (len - 1 - m) wr hJs (by rw [down_length]; exact hlt)
      have hk : len - 1 - m < len := by omega
      obtain ⟨s0, hs0⟩ : ∃ s0, zs[len - 1 - m]! = s0 := ⟨_, rfl⟩
      have hc0 : wr.cell? (ad.add ((len - 1 - m) * 2)) = some (.int .i64 s0.o) := by rw [← hs0]; exact (hnx.cell (by rw [addb]; exact hb)).trans (hc _ hk).1
      have hc1 : wr.cell? ⟨(ad.add ((len - 1 - m) * 2)).block, (ad.add ((len - 1 - m) * 2)).off + 1, none⟩ = some (.string s0.nm) := by
        rw [show (⟨(ad.add ((len - 1 - m) * 2)).block, (ad.add ((len - 1 - m) * 2)).off + 1, none⟩ : Addr) = (ad.add ((len - 1 - m) * 2)).add 1 from rfl, ← hs0, Eng.add_assoc_addr]; exact (hnx.cell (by rw [addb]; exact hb)).trans (hc _ hk).2
      have hge : (0 : Int) ≤ (len : Int) - 1 - m := by omega
      have h11 : e1 (len - 1 - m) = .int .i64 ((len : Int) - 1 - m) := by unfold e1; congr 1; omega
      have h12 : e2 zs (len - 1 - m) = .agg #[.int .i64 s0.o, .string s0.nm] := by unfold e2; rw [hs0]
      rw [h11, h12] at hy
      gi_wp2
      refine hR.mono ?_
      rintro e W3 (⟨rfl, hJ3, hk3⟩ | ⟨rfl, hJx3⟩)
      · gi_wp2
        go_roundw
        case rel => exact ⟨m + 1, by omega, by simp; omega, by rw [down_succ]; exact hJ3, hnx.trans hk3⟩
        case measure => simp [intOf]; omega
      · gi_wp2
        refine bodyPost_ret (results_none rfl _ _ _) rfl ?_
        exact ⟨⟨_, rfl⟩, .inr ⟨m + 1, by omega, by rw [down_succ]; exact hJx3⟩⟩
    · obtain rfl : m = len := by omega
      have hge : ¬ (0 : Int) ≤ (m : Int) - 1 - m := by omega
      gi_wp2
      go_end0
      exact ⟨⟨_, rfl⟩, .inl hJs⟩
set_option maxRecDepth 100000 in
set_option maxHeartbeats 1000000 in
theorem back_nil (F : Fence) (n : Nat) (h7 : F.fn 44) (hro : F.round = none) (l Bs : Nat) (J : List Nat → World → Prop) (W : World) (A : Option Addr) (cap : Nat) (hBs : W.cell? ⟨Bs, 0, none⟩ = some (.slice A 0 cap)) (h0 : J [] W) :
    CallsIn F n Tryd.prog 44 #[.func (.yield l) #[] #[], .pointer (some ⟨Bs, 0, none⟩)] W fun e W' => (∃ v, e = .returned v) ∧ J [] W' := by
  refine callsIn_of_wp Tryd.func44 rfl h7 ?_ hro
  simp only [Tryd.ntmps44, List.size_toArray, List.length_cons, List.length_nil, Nat.reduceAdd, Nat.reduceSub, Array.replicate_succ, Array.replicate_zero, List.push_toArray, List.append_toArray, List.nil_append, List.cons_append]
  gi_wp2
  gi_loopw [3] (fun i wr => i = .int .i64 (-1) ∧ J [] wr) (fun _ _ => 0)
  case atStart => exact ⟨rfl, h0⟩
  case round =>
    obtain ⟨rfl, hJs⟩ := hrel
    gi_wp2
    go_end0
    exact ⟨⟨_, rfl⟩, hJs⟩
theorem stops (F : Fence) (n : Nat) (h7 : F.fn 44) (hro : F.round = none) (hn : 1 ≤ n) (Bs : Nat) (A : Option Addr) (m c : Nat) (zs : List Sy.S) (hreach : zs.length ≤ 100000) (w : World) (hb : Eng.Blk w Bs 32 [.slice A m c]) (hL : Eng.Ls w A m c Sy.S.c 2 zs) :
    SeqStopsK F n Tryd.prog 44 #[.pointer (some ⟨Bs, 0, none⟩)] (fun x => #[e1 x, e2 zs x]) (Below w.heap.size) (fun ys => ys = down zs.length zs.length) (fun pre => ∃ k, k ≤ zs.length ∧ pre = down zs.length k) zs.length w := fun l J Jx W hW _ _ hY h0 => by
  have hlen := hL.len
  have hBs : W.cell? ⟨Bs, 0, none⟩ = some (.slice A m c) := (hW.cell (p := ⟨Bs, 0, none⟩) hb.lt).trans (hb.cell rfl)
  rcases Nat.eq_zero_or_pos m with h | h
  · subst h
    have hz : zs = [] := List.eq_nil_of_length_eq_zero hlen
    subst hz
    exact (back_nil F n h7 hro l Bs J W A c hBs h0).mono fun e W' ⟨he, hj⟩ => ⟨he, .inl ⟨_, rfl, hj⟩⟩
  · obtain ⟨ad, rfl, _, hlt, _⟩ := hL.rd 0 _ (Eng.get_bang (by omega))
    refine (back1 F n h7 hro hn l Bs w.heap.size m c ad zs (by omega) hlt J Jx (by rw [← hlen]; exact hY) W hb.lt hBs (fun j hj => ?_) h0).mono ?_
    · obtain ⟨ad', he, _, _, hc⟩ := hL.rd j _ (Eng.get_bang (by omega))
      injection he with he
      subst he
      exact ⟨(hW.cell (by rw [addb]; exact hlt)).trans (hc 0 _ rfl), (hW.cell (by rw [addb]; exact hlt)).trans (hc 1 _ rfl)⟩
    · rintro e W' ⟨he, hj | ⟨k, hk, hj⟩⟩
      · exact ⟨he, .inl ⟨_, by rw [hlen], hj⟩⟩
      · exact ⟨he, .inr ⟨_, ⟨k, by omega, by rw [hlen]⟩, hj⟩⟩
/-- The last symbol, by the places visited from the end. -/
theorem last_none {zs : List Sy.S} {d : Int} (h : ∀ k ∈ down zs.length zs.length, ¬ zs[k]!.o ≤ d) : Sy.lastT zs d zs.length = none :=
  Sy.lastT_none fun j hj => h j (List.mem_map.2 ⟨zs.length - 1 - j, List.mem_range.2 (by omega), by omega⟩)
theorem last_some {zs : List Sy.S} {d : Int} {pre : List Nat} {x k : Nat} (hk : k ≤ zs.length) (e : pre ++ [x] = down zs.length k) (h : ∀ j ∈ pre, ¬ zs[j]!.o ≤ d) (hx : zs[x]!.o ≤ d) : x < zs.length ∧ Sy.lastT zs d zs.length = some zs[x]! := by
  have hl := congrArg List.length e
  rw [List.length_append, down_length] at hl
  simp at hl
  obtain ⟨m, rfl⟩ : ∃ m, k = m + 1 := ⟨k - 1, by omega⟩
  rw [down_succ] at e
  obtain ⟨e1', e2'⟩ := List.append_inj e (by rw [down_length]; omega)
  simp at e2'
  subst e2'
  refine ⟨by omega, Sy.lastT_hit hx (by omega) fun j h1 h2 => h j ?_⟩
  rw [e1']
  exact List.mem_map.2 ⟨zs.length - 1 - j, List.mem_range.2 (by omega), by omega⟩
end SyB
theorem backward_any (A : Option Addr) (n c : Nat) (w : World) : Calls Tryd.prog 38 #[.slice A n c] w fun e w' => ∃ g, e = .returned (.func (.func 44) #[] #[.pointer (some ⟨g, 0, none⟩)]) ∧ Eng.Blk w' g 32 [.slice A n c] ∧ w.heap.size ≤ g ∧ Eng.Ext w w' := by
  refine (callsIn_wide (n := 2)).1 ?_
  refine callsIn_of_wp Tryd.func38 rfl trivial ?_ rfl
  simp only [Tryd.ntmps38, List.size_toArray, List.length_cons, List.length_nil, Nat.reduceAdd, Nat.reduceSub, Array.replicate_succ, Array.replicate_zero, List.push_toArray, List.append_toArray, List.nil_append, List.cons_append]
  gi_wp2
  go_ret
  exact ⟨_, rfl, Eng.Blk.new w 32 _, Nat.le_refl _, (Eng.Ext.refl w).alloc _⟩
end Go.Proofs.YtghfncgciaiofaaDoor
