/- From a law's contract to its row, over any program: what the arguments' readings give, and that they read afterwards as before.
   Conditions: none; nothing here speaks of a given program. -/
import Derived.Test.YtaglpampidlbmaaOps
import Derived.ProofKit
import Derived.OpenShut
import Derived.Carry
import Derived.Deep.Slices
import Derived.ChangeMaps5
namespace Go.Eng
open Go Go.RowKit Go.WideShapes Go.ChangeShapes Go.WideElems Go.Deep

/-! ### The arguments read on -/
section
variable {H : Type} {enc : TypeId × Value → H} {P : Program}
theorem trodAll_stays (hl : laidOutB P = true) {W W' : World} {sp : Nat → Bool} : ∀ {ts : List TypeId} {vs : List Value} {ds : List (DataW H)} {ps : List MemPlace},
    (ts.all fun t => P.readableRec t && decide (t < P.types.size)) = true → DataW.TrodAll enc P W 0 (fun _ => true) true ts vs ds ps → (∀ p ∈ ps, W.sameAt W' p) → (∀ p ∈ ps, sp p.block = true) → DataW.TrodAll enc P W' 0 sp true ts vs ds ps
  | [], [], [], _, _, h, _, _ => h
  | t :: ts, v :: vs, d :: ds, ps, hr, h, hs, hp => by
    obtain ⟨p, q, h1, h2, rfl⟩ := h
    simp only [List.all_cons, Bool.and_eq_true, decide_eq_true_eq] at hr
    exact ⟨p, q, Trod_stays hl hr.1.1 hr.1.2 h1 (fun x hx => hs x (List.mem_append_left _ hx)) (fun x hx => hp x (List.mem_append_left _ hx)),
      trodAll_stays hl hr.2 h2 (fun x hx => hs x (List.mem_append_right _ hx)) (fun x hx => hp x (List.mem_append_right _ hx)), rfl⟩
/-- A law: it returns true, nothing that was there has turned. -/
theorem law_post {f : Func} {s : ChangeSpec} {W W' : World} {args : Array Value} {ds gs : List (DataW H)} {before : List MemPlace} {tb : TypeId} (hvars : s.vars = []) (hl : laidOutB P = true) (hr : (f.params.toList.all fun t => P.readableRec t && decide (t < P.types.size)) = true)
    (hres : f.resultTypes = #[tb]) (htb : P.underlying tb = some .bool) (hW : DataW.Whole enc P f.params.toList s.vars false W args.toList ds gs before)
    (hfn : s.fn H (ds ++ gs) = { results := [.lit (.bool true)], args := ds }) (x : Ext W W') : s.post enc P f false true false false W args (.bool true) W' := by
  have hlt : ∀ p ∈ before, p.block < W.heap.size := hW.lt
  have hW0 := hW
  obtain ⟨p, q, hA, hV, rfl, hfz, hnd⟩ := hW
  rw [hvars] at hV
  have hq : q = [] := by cases gs with
    | nil => exact hV
    | cons g gs => cases hV
  subst hq
  have hsame : ∀ y ∈ p, W.sameAt W' y := fun y hy => Below.same x.toBelow (hlt y (by simpa using hy))
  have hold : ∀ y ∈ p, (fun b => decide (b < W.heap.size)) y.block = true := fun y hy => by simpa using hlt y (by simpa using hy)
  refine ⟨ds, gs, p ++ [], [], p, [], hW0, ?_, ?_, ?_, ?_, fun h => by cases h⟩
  · rw [hfn, hres]
    exact ⟨[], [], shut_bool htb true, rfl, rfl⟩
  · rw [hfn]
    exact trodAll_stays hl hr hA hsame hold
  · rw [hvars, hfn]
    rfl
  · exact Below.frame x.toBelow _
end

/-! ### What a reading says of a value's cells -/
inductive FK where
  | int (k : IntKind)
  | bool
  | str
  | sl
def FK.ok : FK → Value → Prop
  | .int k, v => ∃ a, v = .int k a ∧ (Lit.int k a).wf = true
  | .bool, v => ∃ b, v = .bool b
  | .str, v => ∃ s, v = .string s ∧ s.size ≤ maxLen
  | .sl, v => ∃ A n c, v = .slice A n c
def okAll : List FK → List Value → Prop
  | [], [] => True
  | k :: ks, v :: vs => k.ok v ∧ okAll ks vs
  | _, _ => False
theorem okAll_append : ∀ {ks kr : List FK} {vs vr : List Value}, okAll ks vs → okAll kr vr → okAll (ks ++ kr) (vs ++ vr)
  | [], _, [], _, _, h => h
  | _ :: _, _, _ :: _, _, h, h' => ⟨h.1, okAll_append h.2 h'⟩
theorem okAll_length : ∀ {ks : List FK} {vs : List Value}, okAll ks vs → vs.length = ks.length
  | [], [], _ => rfl
  | _ :: _, _ :: _, h => by simp [okAll_length h.2]
def flatFs (g : TypeId → Option (List FK)) (cells : TypeId → Nat) : Nat → List Field → Option (List FK)
  | _, [] => some []
  | off, f :: r => match g f.type with
    | none => none
    | some kf => if f.offset = off ∧ cells f.type = kf.length then (flatFs g cells (off + kf.length) r).map (kf ++ ·) else none
def flatK (P : Program) : Nat → TypeId → Option (List FK)
  | 0, _ => none
  | n + 1, t => match P.underlying t with
    | some (.int k) => some [.int k]
    | some .bool => some [.bool]
    | some .string => some [.str]
    | some (.slice _) => some [.sl]
    | some (.struct fs) => (flatFs (flatK P n) P.cellsOf 0 fs.toList).bind fun ks => if P.cellsOf t = ks.length then some ks else none
    | some (.array m e) => (flatK P n e).bind fun ks => if P.cellsOf e = ks.length ∧ P.cellsOf t = m * ks.length then some (List.replicate m ks).flatten else none
    | _ => none
theorem flatFs_ok {g : TypeId → Option (List FK)} {cells : TypeId → Nat} {cs : List Value} : ∀ (l : List Field) (off : Nat) (ks : List FK), flatFs g cells off l = some ks →
    (∀ f ∈ l, ∀ kf, g f.type = some kf → okAll kf ((cs.drop f.offset).take (cells f.type))) → okAll ks ((cs.drop off).take ks.length)
  | [], off, ks, h, _ => by simp [flatFs] at h; subst h; simp [okAll]
  | f :: r, off, ks, h, hf => by
    simp only [flatFs] at h
    cases hg : g f.type with
    | none => rw [hg] at h; cases h
    | some kf =>
      rw [hg] at h
      dsimp only at h
      split at h
      · rename_i hc
        cases hr : flatFs g cells (off + kf.length) r with
        | none => rw [hr] at h; cases h
        | some kr =>
          rw [hr] at h
          simp at h
          subst h
          have h1 := hf f (by simp) kf hg
          rw [hc.1, hc.2] at h1
          have h2 := flatFs_ok r _ kr hr (fun f' hf' => hf f' (by simp [hf']))
          rw [List.length_append, List.take_add, List.drop_drop]
          exact okAll_append h1 h2
      · cases h
section
variable {H : Type} {enc : TypeId × Value → H} {P : Program} {w : World} {base : Nat} {spare : Nat → Bool} {held : Bool}
theorem flat_array {ks : List FK} : ∀ (m : Nat) (cs : List Value), cs.length = m * ks.length → (∀ i, i < m → okAll ks ((cs.drop (i * ks.length)).take ks.length)) → okAll (List.replicate m ks).flatten cs
  | 0, cs, hl, _ => by
    have : cs = [] := List.eq_nil_of_length_eq_zero (by simpa using hl)
    subst this; simp [okAll]
  | m + 1, cs, hl, h => by
    rw [List.replicate_succ, List.flatten_cons]
    have h0 := h 0 (by omega)
    simp only [Nat.zero_mul, List.drop_zero] at h0
    have h1 := flat_array (ks := ks) m (cs.drop ks.length) (by rw [List.length_drop, hl, Nat.succ_mul]; omega) (fun i hi => by
      have := h (i + 1) (by omega)
      rw [List.drop_drop]
      rwa [Nat.succ_mul, Nat.add_comm] at this)
    have := okAll_append h0 h1
    rwa [List.take_append_drop] at this
theorem flat_ok : ∀ (n : Nat) {t : TypeId} {ks : List FK} {fuel : Nat} {cs : List Value} {x : DataW H × List MemPlace}, flatK P n t = some ks → DataW.trod enc P w base spare held fuel t cs = some x → okAll ks cs
  | 0, _, _, _, _, _, h, _ => by cases h
  | n + 1, t, ks, fuel, cs, x, h, hx => by
    unfold flatK at h
    split at h
    · rename_i k hU
      injection h with h; subst h
      obtain ⟨a, rfl, _, hw⟩ := DataW.trod_int hU hx
      exact ⟨⟨a, rfl, hw⟩, trivial⟩
    · rename_i hU
      injection h with h; subst h
      obtain ⟨b, rfl, _⟩ := DataW.trod_bool hU hx
      exact ⟨⟨b, rfl⟩, trivial⟩
    · rename_i hU
      injection h with h; subst h
      obtain ⟨s, rfl, _, hs⟩ := DataW.trod_string hU hx
      exact ⟨⟨s, rfl, hs⟩, trivial⟩
    · rename_i e hU
      injection h with h; subst h
      rcases open_slice hU hx with ⟨rfl, _⟩ | ⟨a, len, cap, _, _, _, _, rfl, _⟩
      · exact ⟨⟨_, _, _, rfl⟩, trivial⟩
      · exact ⟨⟨_, _, _, rfl⟩, trivial⟩
    · rename_i fs hU
      cases hfs : flatFs (flatK P n) P.cellsOf 0 fs.toList with
      | none => rw [hfs] at h; cases h
      | some kk =>
        rw [hfs] at h
        simp only [Option.bind_some] at h
        split at h
        · rename_i hc
          injection h with h; subst h
          obtain ⟨xs, m, _, _, hl, hxl, hg⟩ := DataW.trod_struct hU hx
          have := flatFs_ok (cs := cs) fs.toList 0 kk hfs (fun f hf kf hk => by
            obtain ⟨i, hi⟩ := List.mem_iff_getElem?.1 hf
            have hi' : fs[i]? = some f := by simpa using hi
            have h1 := hg i f hi'
            have hlt : i < xs.length := by rw [hxl]; exact (Array.getElem?_eq_some_iff.1 hi').1
            rw [List.getElem?_eq_getElem hlt] at h1
            exact flat_ok n hk h1)
          rw [List.drop_zero, List.take_of_length_le (by omega)] at this
          exact this
        · cases h
    · rename_i m e hU
      cases hk : flatK P n e with
      | none => rw [hk] at h; cases h
      | some kk =>
        rw [hk] at h
        simp only [Option.bind_some] at h
        split at h
        · rename_i hc
          injection h with h; subst h
          obtain ⟨xs, m', _, _, hl, hxl, hg⟩ := DataW.trod_array hU hx
          refine flat_array m cs (by rw [hl, hc.2]) (fun i hi => ?_)
          have h1 := hg i hi
          have hlt : i < xs.length := by rw [hxl]; exact hi
          rw [List.getElem?_eq_getElem hlt, hc.1] at h1
          exact flat_ok n hk h1
        · cases h
    · cases h
/-- A parameter of a flat type: its value. -/
theorem open_flatS {r : Reach} {b0 : Nat} {t : TypeId} {D : TypeDesc} {n : Nat} {ks : List FK} {v : Value} {d : DataW H} {p : List MemPlace} (hU : P.underlying t = some D) (hD : aggD D = true) (hk : flatK P n t = some ks) (hv : Value.okWide P w r b0 t v) (h : DataW.Trod enc P w base spare held t v d p) :
    ∃ vs : List Value, v = .agg vs.toArray ∧ okAll ks vs := by
  obtain ⟨fuel, hf⟩ := h
  cases D <;> simp only [aggD] at hD <;> try (cases hD)
  case struct fs =>
    obtain ⟨cs, rfl, _⟩ := okWide_struct hU hv
    exact ⟨cs.toList, by simp, by simpa [Value.cells] using flat_ok n hk hf⟩
  case array m e =>
    have : ∃ cs, v = .agg cs := by
      simp only [Value.okWide, hU] at hv
      obtain ⟨cs, h1, _⟩ := hv
      exact ⟨cs, h1⟩
    obtain ⟨cs, rfl⟩ := this
    exact ⟨cs.toList, by simp, by simpa [Value.cells] using flat_ok n hk hf⟩
end
theorem okAll_1 {k0 : FK} {vs : List Value} (h : okAll [k0] vs) : ∃ v0, vs = [v0] ∧ k0.ok v0 := by
  have hl := okAll_length h
  match vs, hl with
  | [v0], _ => exact ⟨v0, rfl, h.1⟩
theorem okAll_2 {k0 k1 : FK} {vs : List Value} (h : okAll [k0, k1] vs) : ∃ v0 v1, vs = [v0, v1] ∧ k0.ok v0 ∧ k1.ok v1 := by
  have hl := okAll_length h
  match vs, hl with
  | [v0, v1], _ => exact ⟨v0, v1, rfl, h.1, h.2.1⟩
theorem okAll_3 {k0 k1 k2 : FK} {vs : List Value} (h : okAll [k0, k1, k2] vs) : ∃ v0 v1 v2, vs = [v0, v1, v2] ∧ k0.ok v0 ∧ k1.ok v1 ∧ k2.ok v2 := by
  have hl := okAll_length h
  match vs, hl with
  | [v0, v1, v2], _ => exact ⟨v0, v1, v2, rfl, h.1, h.2.1, h.2.2.1⟩
theorem okAll_4 {k0 k1 k2 k3 : FK} {vs : List Value} (h : okAll [k0, k1, k2, k3] vs) : ∃ v0 v1 v2 v3, vs = [v0, v1, v2, v3] ∧ k0.ok v0 ∧ k1.ok v1 ∧ k2.ok v2 ∧ k3.ok v3 := by
  have hl := okAll_length h
  match vs, hl with
  | [v0, v1, v2, v3], _ => exact ⟨v0, v1, v2, v3, rfl, h.1, h.2.1, h.2.2.1, h.2.2.2.1⟩
theorem okAll_5 {k0 k1 k2 k3 k4 : FK} {vs : List Value} (h : okAll [k0, k1, k2, k3, k4] vs) : ∃ v0 v1 v2 v3 v4, vs = [v0, v1, v2, v3, v4] ∧ k0.ok v0 ∧ k1.ok v1 ∧ k2.ok v2 ∧ k3.ok v3 ∧ k4.ok v4 := by
  have hl := okAll_length h
  match vs, hl with
  | [v0, v1, v2, v3, v4], _ => exact ⟨v0, v1, v2, v3, v4, rfl, h.1, h.2.1, h.2.2.1, h.2.2.2.1, h.2.2.2.2.1⟩
theorem okAll_6 {k0 k1 k2 k3 k4 k5 : FK} {vs : List Value} (h : okAll [k0, k1, k2, k3, k4, k5] vs) : ∃ v0 v1 v2 v3 v4 v5, vs = [v0, v1, v2, v3, v4, v5] ∧ k0.ok v0 ∧ k1.ok v1 ∧ k2.ok v2 ∧ k3.ok v3 ∧ k4.ok v4 ∧ k5.ok v5 := by
  have hl := okAll_length h
  match vs, hl with
  | [v0, v1, v2, v3, v4, v5], _ => exact ⟨v0, v1, v2, v3, v4, v5, rfl, h.1, h.2.1, h.2.2.1, h.2.2.2.1, h.2.2.2.2.1, h.2.2.2.2.2.1⟩
theorem okAll_7 {k0 k1 k2 k3 k4 k5 k6 : FK} {vs : List Value} (h : okAll [k0, k1, k2, k3, k4, k5, k6] vs) : ∃ v0 v1 v2 v3 v4 v5 v6, vs = [v0, v1, v2, v3, v4, v5, v6] ∧ k0.ok v0 ∧ k1.ok v1 ∧ k2.ok v2 ∧ k3.ok v3 ∧ k4.ok v4 ∧ k5.ok v5 ∧ k6.ok v6 := by
  have hl := okAll_length h
  match vs, hl with
  | [v0, v1, v2, v3, v4, v5, v6], _ => exact ⟨v0, v1, v2, v3, v4, v5, v6, rfl, h.1, h.2.1, h.2.2.1, h.2.2.2.1, h.2.2.2.2.1, h.2.2.2.2.2.1, h.2.2.2.2.2.2.1⟩
theorem okAll_8 {k0 k1 k2 k3 k4 k5 k6 k7 : FK} {vs : List Value} (h : okAll [k0, k1, k2, k3, k4, k5, k6, k7] vs) : ∃ v0 v1 v2 v3 v4 v5 v6 v7, vs = [v0, v1, v2, v3, v4, v5, v6, v7] ∧ k0.ok v0 ∧ k1.ok v1 ∧ k2.ok v2 ∧ k3.ok v3 ∧ k4.ok v4 ∧ k5.ok v5 ∧ k6.ok v6 ∧ k7.ok v7 := by
  have hl := okAll_length h
  match vs, hl with
  | [v0, v1, v2, v3, v4, v5, v6, v7], _ => exact ⟨v0, v1, v2, v3, v4, v5, v6, v7, rfl, h.1, h.2.1, h.2.2.1, h.2.2.2.1, h.2.2.2.2.1, h.2.2.2.2.2.1, h.2.2.2.2.2.2.1, h.2.2.2.2.2.2.2.1⟩
theorem okAll_9 {k0 k1 k2 k3 k4 k5 k6 k7 k8 : FK} {vs : List Value} (h : okAll [k0, k1, k2, k3, k4, k5, k6, k7, k8] vs) : ∃ v0 v1 v2 v3 v4 v5 v6 v7 v8, vs = [v0, v1, v2, v3, v4, v5, v6, v7, v8] ∧ k0.ok v0 ∧ k1.ok v1 ∧ k2.ok v2 ∧ k3.ok v3 ∧ k4.ok v4 ∧ k5.ok v5 ∧ k6.ok v6 ∧ k7.ok v7 ∧ k8.ok v8 := by
  have hl := okAll_length h
  match vs, hl with
  | [v0, v1, v2, v3, v4, v5, v6, v7, v8], _ => exact ⟨v0, v1, v2, v3, v4, v5, v6, v7, v8, rfl, h.1, h.2.1, h.2.2.1, h.2.2.2.1, h.2.2.2.2.1, h.2.2.2.2.2.1, h.2.2.2.2.2.2.1, h.2.2.2.2.2.2.2.1, h.2.2.2.2.2.2.2.2.1⟩
theorem okAll_10 {k0 k1 k2 k3 k4 k5 k6 k7 k8 k9 : FK} {vs : List Value} (h : okAll [k0, k1, k2, k3, k4, k5, k6, k7, k8, k9] vs) : ∃ v0 v1 v2 v3 v4 v5 v6 v7 v8 v9, vs = [v0, v1, v2, v3, v4, v5, v6, v7, v8, v9] ∧ k0.ok v0 ∧ k1.ok v1 ∧ k2.ok v2 ∧ k3.ok v3 ∧ k4.ok v4 ∧ k5.ok v5 ∧ k6.ok v6 ∧ k7.ok v7 ∧ k8.ok v8 ∧ k9.ok v9 := by
  have hl := okAll_length h
  match vs, hl with
  | [v0, v1, v2, v3, v4, v5, v6, v7, v8, v9], _ => exact ⟨v0, v1, v2, v3, v4, v5, v6, v7, v8, v9, rfl, h.1, h.2.1, h.2.2.1, h.2.2.2.1, h.2.2.2.2.1, h.2.2.2.2.2.1, h.2.2.2.2.2.2.1, h.2.2.2.2.2.2.2.1, h.2.2.2.2.2.2.2.2.1, h.2.2.2.2.2.2.2.2.2.1⟩
theorem okAll_11 {k0 k1 k2 k3 k4 k5 k6 k7 k8 k9 k10 : FK} {vs : List Value} (h : okAll [k0, k1, k2, k3, k4, k5, k6, k7, k8, k9, k10] vs) : ∃ v0 v1 v2 v3 v4 v5 v6 v7 v8 v9 v10, vs = [v0, v1, v2, v3, v4, v5, v6, v7, v8, v9, v10] ∧ k0.ok v0 ∧ k1.ok v1 ∧ k2.ok v2 ∧ k3.ok v3 ∧ k4.ok v4 ∧ k5.ok v5 ∧ k6.ok v6 ∧ k7.ok v7 ∧ k8.ok v8 ∧ k9.ok v9 ∧ k10.ok v10 := by
  have hl := okAll_length h
  match vs, hl with
  | [v0, v1, v2, v3, v4, v5, v6, v7, v8, v9, v10], _ => exact ⟨v0, v1, v2, v3, v4, v5, v6, v7, v8, v9, v10, rfl, h.1, h.2.1, h.2.2.1, h.2.2.2.1, h.2.2.2.2.1, h.2.2.2.2.2.1, h.2.2.2.2.2.2.1, h.2.2.2.2.2.2.2.1, h.2.2.2.2.2.2.2.2.1, h.2.2.2.2.2.2.2.2.2.1, h.2.2.2.2.2.2.2.2.2.2.1⟩
theorem okAll_12 {k0 k1 k2 k3 k4 k5 k6 k7 k8 k9 k10 k11 : FK} {vs : List Value} (h : okAll [k0, k1, k2, k3, k4, k5, k6, k7, k8, k9, k10, k11] vs) : ∃ v0 v1 v2 v3 v4 v5 v6 v7 v8 v9 v10 v11, vs = [v0, v1, v2, v3, v4, v5, v6, v7, v8, v9, v10, v11] ∧ k0.ok v0 ∧ k1.ok v1 ∧ k2.ok v2 ∧ k3.ok v3 ∧ k4.ok v4 ∧ k5.ok v5 ∧ k6.ok v6 ∧ k7.ok v7 ∧ k8.ok v8 ∧ k9.ok v9 ∧ k10.ok v10 ∧ k11.ok v11 := by
  have hl := okAll_length h
  match vs, hl with
  | [v0, v1, v2, v3, v4, v5, v6, v7, v8, v9, v10, v11], _ => exact ⟨v0, v1, v2, v3, v4, v5, v6, v7, v8, v9, v10, v11, rfl, h.1, h.2.1, h.2.2.1, h.2.2.2.1, h.2.2.2.2.1, h.2.2.2.2.2.1, h.2.2.2.2.2.2.1, h.2.2.2.2.2.2.2.1, h.2.2.2.2.2.2.2.2.1, h.2.2.2.2.2.2.2.2.2.1, h.2.2.2.2.2.2.2.2.2.2.1, h.2.2.2.2.2.2.2.2.2.2.2.1⟩
/-! ### What a well formed number says -/
theorem wf_rng {k : IntKind} {n : Int} (h : (Lit.int k n).wf = true) : k.min ≤ n ∧ n ≤ k.max := by simpa [Lit.wf] using h
theorem wf_i64 {n : Int} (h : (Lit.int .i64 n).wf = true) : -9223372036854775808 ≤ n ∧ n ≤ 9223372036854775807 := wf_rng h
theorem wf_i32 {n : Int} (h : (Lit.int .i32 n).wf = true) : -2147483648 ≤ n ∧ n ≤ 2147483647 := wf_rng h
theorem wf_u64 {n : Int} (h : (Lit.int .u64 n).wf = true) : 0 ≤ n ∧ n ≤ 18446744073709551615 := wf_rng h
theorem wf_u16 {n : Int} (h : (Lit.int .u16 n).wf = true) : 0 ≤ n ∧ n ≤ 65535 := wf_rng h
theorem wf_u8 {n : Int} (h : (Lit.int .u8 n).wf = true) : 0 ≤ n ∧ n ≤ 255 := wf_rng h
end Go.Eng
