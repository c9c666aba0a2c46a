/- The examples of chapter 36, in plain terms. Conditions: none. -/
import Derived.Test.YtklccakoblibmaaSxPutA
namespace Go.Proofs.Ytklccakoblibmaa
open Go Go.Eng
set_option linter.unusedSimpArgs false
theorem calls_cast {P : Program} {f : FuncId} {args : Array Value} {w : World} {v v' : Value} (h : v = v') (c : Calls P f args w fun e w' => e = .returned v ∧ Ext w w') : Calls P f args w fun e w' => e = .returned v' ∧ Ext w w' := h ▸ c
namespace Sx
def ck (k : Nat) : E := .mk 1 ⟨#[]⟩ 2 k ⟨#[]⟩ none 0 0 []
def cks (m : Nat) : List E := (List.range m).map ck
theorem cks_len (m : Nat) : (cks m).length = m := by unfold cks; rw [List.length_map, List.length_range]
theorem cks_next (m : Nat) : cks (m + 1) = cks m ++ [ck m] := by unfold cks; rw [List.range_succ, List.map_append]; rfl
def cal (s : ByteArray) (A : Option Addr) (n c m : Nat) : E := .mk 16 s 0 0 ⟨#[]⟩ A n c (cks m)
theorem ln {α : Type} {w : World} {A : Option Addr} {f : α → List Value} {sz : Nat} : Ls w A 0 0 f sz [] := Ls.nil (Nat.zero_le _)
theorem leaf {w : World} {o vk vn : Int} {s vs : ByteArray} : Good 1 w (.mk o s vk vn vs none 0 0 []) := ⟨ln, fun k hk => by cases hk⟩
theorem cal_good {w : World} {s : ByteArray} {A : Option Addr} {n c m : Nat} (h : Ls w A n c E.v 6 (cks m)) : Good 2 w (cal s A n c m) := ⟨h, fun k hk => by
  obtain ⟨j, _, rfl⟩ := List.mem_map.1 hk
  exact leaf⟩
def sMin : ByteArray := ⟨#[109, 105, 110]⟩
def sSin : ByteArray := ⟨#[115, 105, 110]⟩
def sSIn : ByteArray := ⟨#[83, 105, 110]⟩
section
variable {A : Option Addr} {n c : Nat}
theorem aw_1 : exE (cal sMin A n c 1) = 1 := by rfl
theorem aw_2 : exE (cal sSin A n c 1) = 5 := by rfl
theorem aw_3 : exE (cal sSIn A n c 1) = 3 := by rfl
theorem aw_4 : exE (cal sMin A n c 2) = 0 := by rfl
theorem aw_sh {s : ByteArray} {m : Nat} (h : s.size ≤ 300) (hm : m ≤ 2) : short (cal s A n c m) = true := by
  rcases (show m = 0 ∨ m = 1 ∨ m = 2 by omega) with rfl | rfl | rfl
  all_goals
    rw [short_eq]
    show ((decide (s.size ≤ 300) && decide ((ByteArray.mk #[]).size ≤ 300)) && shortL (cks _)) = true
    rw [decide_eq_true h]
    rfl
theorem aw_ct {s : ByteArray} {m : Nat} (hm : m ≤ 2) : cnt (cal s A n c m) ≤ 300 := by
  rcases (show m = 0 ∨ m = 1 ∨ m = 2 by omega) with rfl | rfl | rfl <;> exact Nat.le_of_ble_eq_true rfl
end
def zE : E := .mk 0 ⟨#[]⟩ 0 0 ⟨#[]⟩ none 0 0 []
def st3 : St := ⟨3, zE, none, 0, 0, [], none, 0, 0, [], none, 0, 0, [], none, 0, 0, [], 0, ⟨#[]⟩⟩
def kL : List ByteArray := [⟨#[107]⟩]
def agL : List Ag := [⟨⟨#[99, 111, 117, 110, 116]⟩, ⟨#[]⟩, ⟨#[107]⟩⟩]
def st4 (b g : Nat) : St := ⟨3, zE, none, 0, 0, [], some ⟨b, 0, none⟩, 1, 1, kL, some ⟨g, 0, none⟩, 1, 1, agL, none, 0, 0, [], 0, ⟨#[]⟩⟩
theorem st3_good {w : World} : GoodS 1 w st3 := ⟨leaf, ln, (fun x hx => by cases hx), ln, ln, ln, (fun x hx => by cases hx)⟩
theorem st3_few : FewS st3 := ⟨⟨rfl, Nat.le_of_ble_eq_true rfl⟩, Nat.zero_le _, (fun x hx => by cases hx), Nat.zero_le _, (fun x hx => by cases hx), Nat.zero_le _, (fun x hx => by cases hx), Nat.zero_le _, (fun x hx => by cases hx), Nat.zero_le _⟩
theorem st4_good {w : World} {b g : Nat} (h1 : Ls w (some ⟨b, 0, none⟩) 1 1 sc 1 kL) (h2 : Ls w (some ⟨g, 0, none⟩) 1 1 Ag.v 3 agL) : GoodS 1 w (st4 b g) := ⟨leaf, ln, (fun x hx => by cases hx), h1, h2, ln, (fun x hx => by cases hx)⟩
theorem st4_few {b g : Nat} : FewS (st4 b g) := ⟨⟨rfl, Nat.le_of_ble_eq_true rfl⟩, Nat.zero_le _, (fun x hx => by cases hx), Nat.le_of_ble_eq_true rfl, (by intro x hx; rcases List.mem_singleton.1 hx with rfl; decide), Nat.le_of_ble_eq_true rfl, (fun x hx => by rcases List.mem_singleton.1 hx with rfl; decide), Nat.zero_le _, (fun x hx => by cases hx), Nat.zero_le _⟩
theorem aw_5 : stpE st3 = 8 := by rfl
theorem aw_6 {b g : Nat} : stpE (st4 b g) = 4 := by rfl
def fB : E := .mk 2 ⟨#[98]⟩ 0 0 ⟨#[]⟩ none 0 0 []
def fA : E := .mk 2 ⟨#[97]⟩ 0 0 ⟨#[]⟩ none 0 0 []
def sumE (g : Nat) : E := .mk 5 ⟨#[]⟩ 0 0 ⟨#[]⟩ (some ⟨g, 0, none⟩) 2 2 [fB, fA]
def abL : List ByteArray := [⟨#[97]⟩, ⟨#[98]⟩]
theorem sum_good {w : World} {g : Nat} (h : Ls w (some ⟨g, 0, none⟩) 2 2 E.v 6 [fB, fA]) : Good 2 w (sumE g) := ⟨h, fun k hk => by
  have hk : k ∈ [fB, fA] := hk
  simp only [List.mem_cons, List.not_mem_nil, or_false] at hk
  rcases hk with rfl | rfl <;> exact leaf⟩
theorem sum_sh {g : Nat} : short (sumE g) = true := by rfl
theorem sum_ct {g : Nat} : cnt (sumE g) ≤ 300 := Nat.le_of_ble_eq_true rfl
theorem aw_7 {g : Nat} : alB beS (colR (sumE g)) abL = true := by
  rw [← colP_eq, colP_ok (by rfl)]
  show alB beS (putA [] [⟨#[98]⟩, ⟨#[97]⟩]) abL = true
  decide +kernel
def qOf (s : ByteArray) : Q := ⟨s, none, 0, 0, []⟩
theorem q_good {w : World} {s : ByteArray} : GoodQ 1 w (qOf s) := ⟨ln, fun x hx => by cases hx⟩
theorem q_few {s : ByteArray} (h : s.size ≤ 300) : FewQ (qOf s) := ⟨Nat.zero_le _, h, fun x hx => by cases hx⟩
theorem aw_8 : qryE (qOf ⟨#[115, 108, 105, 99, 101, 115]⟩) = 0 := by rfl
theorem aw_9 : qS (qOf ⟨#[97]⟩) (qOf ⟨#[97]⟩) = true := by rfl
theorem aw_10 : qS (qOf ⟨#[97]⟩) (qOf ⟨#[98]⟩) = false := by rfl
end Sx
end Go.Proofs.Ytklccakoblibmaa
