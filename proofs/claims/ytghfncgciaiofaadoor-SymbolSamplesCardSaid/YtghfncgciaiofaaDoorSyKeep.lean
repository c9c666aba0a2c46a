/- What naming keeps, in plain terms. Conditions: none. -/
import Derived.Test.YtghfncgciaiofaaDoorSyOut
namespace Go.Proofs.YtghfncgciaiofaaDoor
open Go Go.Eng
namespace Sy
variable {l : List M} {t : ByteArray}
theorem bat_app (a b : ByteArray) (j : Nat) (h : j < a.size + b.size) : bat (a ++ b) j = if j < a.size then bat a j else bat b (j - a.size) := by
  unfold bat
  have e : (a ++ b).data.toList = a.data.toList ++ b.data.toList := by rw [ByteArray.data_append, Array.toList_append]
  have ea : a.data.toList.length = a.size := rfl
  have eb : b.data.toList.length = b.size := rfl
  rw [e]
  split
  · rename_i hj
    rw [getElem!_pos _ j (by rw [List.length_append]; omega), getElem!_pos _ j (by omega), List.getElem_append_left (by omega)]
  · rename_i hj
    rw [getElem!_pos _ j (by rw [List.length_append]; omega), getElem!_pos _ (j - a.size) (by omega), List.getElem_append_right (by omega)]
    congr 1
theorem bat_pre {s : ByteArray} {j : Nat} (h : j < 2) (hs : 2 ≤ s.size) : bat (s.extract 0 2) j = bat s j := by
  unfold bat
  rw [ByteArray.data_extract, Array.toList_extract]
  have h1 : j < s.data.toList.length := by have : s.data.toList.length = s.size := rfl; omega
  simp [List.getElem!_eq_getElem?_getD, List.getElem?_take, h]
theorem nm2_size (m : M) (s : S) : (nm2 m s).size = m.nm.size + 1 + s.nm.size := by
  unfold nm2; rw [app_size, app_size]; rfl
theorem nm2_colon (m : M) (s : S) : bat (nm2 m s) m.nm.size = 58 := by
  unfold nm2
  rw [bat_app _ _ _ (by rw [app_size]; show m.nm.size < m.nm.size + 1 + _; omega), if_pos (by rw [app_size]; show m.nm.size < m.nm.size + 1; omega), bat_app _ _ _ (by show m.nm.size < m.nm.size + 1; omega), if_neg (by omega), Nat.sub_self]
  rfl
theorem nm2_ok {m : M} {s : S} (hm : okN m.nm) (hs : okN s.nm) (h : (nm2 m s).size ≤ 40) : okN (nm2 m s) := by
  have hz := nm2_size m s
  refine ⟨by have := hm.1; omega, h, fun j hj => ?_⟩
  have e1 : (m.nm ++ (⟨#[58]⟩ : ByteArray)).size = m.nm.size + 1 := app_size _ _
  unfold nm2
  rw [bat_app _ _ _ (by rw [e1]; omega)]
  split
  · rename_i h1
    rw [e1] at h1
    rw [bat_app _ _ _ h1]
    split
    · rename_i h2; exact hm.2.2 j h2
    · rename_i h2
      rw [show j - m.nm.size = 0 by omega]; rfl
  · rename_i h1
    rw [e1] at h1
    rw [e1]
    exact hs.2.2 _ (by omega)
theorem nm2_adr {m : M} {s : S} (hm : okN m.nm) : (adr (nm2 m s)).2 = false := by
  cases hp : preB (nm2 m s) with
  | true => rw [adr_pre hp]
  | false =>
    have hz := nm2_size m s
    have hc := nm2_colon m s
    have h3 := pre_size hp
    have h1 := hm.1
    rcases Nat.lt_or_eq_of_le h1 with h2 | h2
    · rw [adr_bad (i := m.nm.size - 2) (by omega) (by rw [tl_bat (by omega), show m.nm.size - 2 + 2 = m.nm.size by omega, hc]; rfl)]
    · exfalso
      unfold preB at hp
      simp only [Bool.or_eq_false_iff, Bool.not_eq_false'] at hp
      have e : (nm2 m s).extract 0 2 = ⟨#[48, 120]⟩ := beqB_eq.1 hp.2
      have h4 := bat_pre (s := nm2 m s) (j := 1) (by omega) (by omega)
      rw [← h2] at hc
      rw [e, hc] at h4
      exact absurd h4 (by decide)
theorem modT_mem {a : Int} {x : M × S} : ∀ {n : Nat}, modT l a n = some x → ∃ i k, i < n ∧ k < l[i]!.l.length ∧ x = (l[i]!, l[i]!.l[k]!)
  | n + 1, h => by
    cases hi : inM l[n]! a with
    | false =>
      rw [modT_out hi] at h
      obtain ⟨i, k, h1, h2⟩ := modT_mem h
      exact ⟨i, k, by omega, h2⟩
    | true =>
      rw [modT_in hi] at h
      cases hl : lastT l[n]!.l (a - l[n]!.b) l[n]!.l.length with
      | none =>
        rw [hl] at h
        obtain ⟨i, k, h1, h2⟩ := modT_mem h
        exact ⟨i, k, by omega, h2⟩
      | some s =>
        rw [hl] at h
        injection h with h
        obtain ⟨k, h1, h2, _⟩ := lastT_mem (Nat.le_refl _) hl
        exact ⟨n, k, by omega, h1, by rw [← h, h2]⟩
theorem frm_cases (l : List M) (t : ByteArray) : frm l t = t ∨ (chkE l = 0 ∧ (adr t).2 = true ∧ ∃ i k, i < l.length ∧ k < l[i]!.l.length ∧ frm l t = nm2 l[i]! l[i]!.l[k]! ∧ (nm2 l[i]! l[i]!.l[k]!).size ≤ 40) := by
  by_cases hc : chkE l = 0
  · cases ha : (adr t).2 with
    | false => exact .inl (frm_no ha)
    | true =>
      rw [frm_ok hc]
      cases hf : ((fr (adr t).1 (modT l (adr t).1 l.length)).2.2 && decide ((((fr (adr t).1 (modT l (adr t).1 l.length)).1.size : Nat) : Int) ≤ 40)) with
      | false => exact .inl (frm1_not hf)
      | true =>
        rw [frm1_yes ha hf]
        simp only [Bool.and_eq_true, decide_eq_true_eq] at hf
        cases hm : modT l (adr t).1 l.length with
        | none => rw [hm] at hf; exact absurd hf.1 (by simp [fr])
        | some x =>
          obtain ⟨i, k, h1, h2, rfl⟩ := modT_mem hm
          rw [hm] at hf
          refine .inr ⟨hc, rfl, i, k, h1, h2, rfl, ?_⟩
          have := hf.2
          simp only [fr] at this
          omega
  · exact .inl (frm_bad hc)
theorem frm_nm {l : List M} {t : ByteArray} (h : okN t) : okN (frm l t) := by
  rcases frm_cases l t with e | ⟨hc, _, i, k, h1, h2, e, h3⟩
  · rw [e]; exact h
  · rw [e]
    have hv := chk_vals hc i h1
    exact nm2_ok hv.nm (hv.sym k h2).1 h3
theorem frm_size {l : List M} {t : ByteArray} (h : t.size ≤ 200) : (frm l t).size ≤ 200 := by
  rcases frm_cases l t with e | ⟨hc, _, i, k, h1, h2, e, h3⟩
  · rw [e]; exact h
  · rw [e]; omega
theorem frm_idem (l : List M) (t : ByteArray) : frm l (frm l t) = frm l t := by
  rcases frm_cases l t with e | ⟨hc, _, i, k, h1, h2, e, h3⟩
  · rw [e, e]
  · rw [e]; exact frm_no (nm2_adr (chk_vals hc i h1).nm)
theorem frm_dead {l : List M} {t : ByteArray} (h : frm l t ≠ t) : 3 ≤ t.size ∧ (t.extract 0 2 == (⟨#[48, 120]⟩ : ByteArray)) = true := by
  rcases frm_cases l t with e | ⟨_, ha, _⟩
  · exact absurd e h
  · cases hp : preB t with
    | true => rw [adr_pre hp] at ha; cases ha
    | false =>
      have := pre_size hp
      unfold preB at hp
      simp only [Bool.or_eq_false_iff, Bool.not_eq_false'] at hp
      exact ⟨by omega, hp.2⟩
/-! ### Lists of samples -/
theorem res_nil {s b : List P} (h : Res l s b) (hz : sE l s ≠ 0) : b = [] := by
  unfold Res at h; rw [if_pos hz] at h; simpa using h
theorem res_keys {s b : List P} (h : Res l s b) (hz : sE l s = 0) : b.map P.key = s.map (out l) := by
  unfold Res at h; rwa [if_neg (by rw [hz]; simp)] at h
theorem out_at {s b : List P} (h : b.map P.key = s.map (out l)) {i : Nat} (hi : i < s.length) : b[i]!.th = s[i]!.th ∧ b[i]!.at_ = s[i]!.at_ ∧ b[i]!.wt = s[i]!.wt ∧ b[i]!.l = s[i]!.l.map (frm l) := by
  have hl : b.length = s.length := by simpa using congrArg List.length h
  have h1 : (b.map P.key)[i]? = (s.map (out l))[i]? := by rw [h]
  rw [List.getElem?_map, List.getElem?_map, List.getElem?_eq_getElem hi, List.getElem?_eq_getElem (by omega)] at h1
  rw [getElem!_pos b i (by omega), getElem!_pos s i hi]
  simp only [Option.map_some, Option.some.injEq, P.key, out, Prod.mk.injEq] at h1
  exact h1
theorem out_len {s b : List P} (h : b.map P.key = s.map (out l)) : b.length = s.length := by simpa using congrArg List.length h
theorem sE_zero {s : List P} (h : sE l s = 0) : chkE l = 0 ∧ smpE s = 0 := by
  unfold sE at h
  split at h
  · rename_i h1; exact absurd h h1
  · rename_i h1; exact ⟨Classical.not_not.1 h1, h⟩
theorem bang_map {t : List ByteArray} {j : Nat} (h : j < t.length) : (t.map (frm l))[j]! = frm l t[j]! := by
  rw [getElem!_pos _ j (by simpa using h), getElem!_pos t j h, List.getElem_map]
theorem frs_map {t : List ByteArray} (h : frsE t = 0) : frsE (t.map (frm l)) = 0 := by
  by_cases hl : 32 < t.length
  · rw [frs_long hl] at h; cases h
  · rw [frs_at hl] at h
    refine frs_ok (by simpa using hl) fun j hj => ?_
    have hj2 : j < t.length := by simpa using hj
    rw [bang_map hj2]
    exact nmE_ok (frm_nm (nmE_zero (fst_zero h j hj2)))
theorem smp_res {s b : List P} (h : b.map P.key = s.map (out l)) (hz : smpE s = 0) : smpE b = 0 := by
  have hl := out_len h
  refine smp_ok fun j hj => ?_
  have h1 := smp1_zero (fst_zero hz j (by omega))
  have e := out_at h (show j < s.length by omega)
  have ek : okP b[j]! = okP s[j]! := by unfold okP; rw [e.1, e.2.1, e.2.2.1]
  refine smp1_ok (by rw [ek]; exact h1.1) (by rw [e.2.2.2]; exact frs_map h1.2.1) ?_
  rintro ⟨h0, h2⟩
  have e2 := out_at h (show j - 1 < s.length by omega)
  rw [e.2.1, e2.2.1] at h2
  exact h1.2.2 ⟨h0, h2⟩
theorem tot_res {s b : List P} (h : b.map P.key = s.map (out l)) : totP b b.length = totP s s.length := by
  rw [out_len h]
  exact totP_congr _ fun j hj => let e := out_at h hj; ⟨e.1, e.2.1, e.2.2.1⟩
theorem few_res {w : World} {s b : List P} (h : b.map P.key = s.map (out l)) (hf : FewP s) (hg : GoodP w b) : FewP b := by
  have hl := out_len h
  refine fewP_of (by rw [hl]; exact hf.n) fun i hi => ?_
  have e := out_at h (show i < s.length by omega)
  have m := hf.m s[i]! (bang_mem (by omega))
  have hln := (hg b[i]! (bang_mem hi)).len
  have hq : b[i]!.l.length = s[i]!.l.length := by rw [e.2.2.2, List.length_map]
  refine ⟨by omega, hln, fun k hk => ?_⟩
  rw [e.2.2.2, bang_map (by omega)]
  exact frm_size (hf.s s[i]! (bang_mem (by omega)) _ (bang_mem (by omega)))
theorem out_idem {x y : P} (h : y.key = out l x) : out l y = y.key := by
  simp only [P.key, out, Prod.mk.injEq] at h ⊢
  refine ⟨trivial, trivial, trivial, ?_⟩
  rw [h.2.2.2, List.map_map]
  exact List.map_congr_left fun t _ => frm_idem l t
theorem res_again {s b b' : List P} (h : b.map P.key = s.map (out l)) (h' : b'.map P.key = b.map (out l)) : b.map P.key = b'.map P.key := by
  rw [h']
  apply List.ext_getElem
  · simp
  · intro j h1 h2
    have hb : j < b.length := by simpa using h1
    have hs : j < s.length := by have := out_len h; omega
    have e : (b.map P.key)[j]? = (s.map (out l))[j]? := by rw [h]
    rw [List.getElem?_map, List.getElem?_map, List.getElem?_eq_getElem hb, List.getElem?_eq_getElem hs] at e
    simp only [Option.map_some, Option.some.injEq] at e
    rw [List.getElem_map, List.getElem_map]
    exact (out_idem e).symm
end Sy
end Go.Proofs.YtghfncgciaiofaaDoor
