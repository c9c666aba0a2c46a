/- No operation takes back a draw. Over any program. Conditions: none. -/
import GoSem.Step
namespace Go.Eng
open Go
theorem view_drawn {p : Program} {w : World} {a : Addr} {u : TypeId} {k : Addr} {v : Value} {b : Bool} {r : World × List Addr} (h : w.viewStore p a u k v b = .ok r) : r.1.drawn = w.drawn := by
  unfold World.viewStore at h
  simp only [bind, Except.bind, pure, Except.pure, throw, throwThe, MonadExceptOf.throw] at h
  repeat' split at h
  all_goals first
    | (cases h; done)
    | (injection h with h; subst h; rfl)
theorem far_drawn {p : Program} {w : World} {a : Addr} {v : Value} {b : Bool} {r : World × List Addr} (h : w.farStore p a v b = .ok r) : r.1.drawn = w.drawn := by
  unfold World.farStore at h
  split at h
  · split at h
    · rename_i hv
      injection h with h; subst h
      exact view_drawn hv
    · cases h
  · cases h
theorem ask_drawn {α : Type} : ∀ (x : Ask α) (w : World), w.drawn ≤ (w.ask x).2.drawn := by
  intro x
  induction x with
  | done a => intro w; simp only [World.ask]; exact Nat.le_refl _
  | ask what range k ih =>
    intro w
    simp only [World.ask]
    split
    · exact ih _ _
    · exact Nat.le_trans (Nat.le_succ _) (ih _ { w with drawn := w.drawn + 1 })
theorem sys_drawn (w : World) (c : Sys) : w.drawn ≤ (w.sys c).2.drawn := by
  have h := ask_drawn (Kernel.perform c w.os) w
  unfold World.sys
  split
  · exact Nat.le_refl _
  · rename_i he
    rw [he] at h
    exact h
theorem run_drawn {α : Type} (p : Program) : ∀ (s : Sem α) (w w' : World) (v : α), s.run p w = .ok v w' → w.drawn ≤ w'.drawn := by
  intro s
  induction s with
  | pure a => intro w w' v h; simp only [Sem.run] at h; injection h with _ h; subst h; exact Nat.le_refl _
  | load m a k ih =>
    intro w w' v h
    simp only [Sem.run] at h
    split at h
    · have := ih _ _ _ _ h; exact this
    · split at h
      · have := ih _ _ _ _ h; exact this
      · cases h
  | store m a u k ih =>
    intro w w' v h
    cases u <;> simp only [Sem.run] at h
    case agg => cases h
    case tuple => cases h
    all_goals
      split at h
      · split at h
        · cases h
        · have := ih _ _ _ h
          exact this
      · split at h
        · rename_i hf
          have := ih _ _ _ h
          have e := far_drawn hf
          simp only at e
          omega
        · cases h
  | new o k ih => intro w w' v h; simp only [Sem.run] at h; have := ih _ _ _ _ h; exact this
  | shape r k ih => intro w w' v h; simp only [Sem.run] at h; have := ih _ _ _ _ h; exact this
  | freeze a n k ih =>
    intro w w' v h
    simp only [Sem.run] at h
    have := ih _ _ _ h
    have e : (w.freeze a n).drawn = w.drawn := by unfold World.freeze; split <;> rfl
    omega
  | frozen a k ih => intro w w' v h; simp only [Sem.run] at h; have := ih _ _ _ _ h; exact this
  | getObj r k ih =>
    intro w w' v h
    simp only [Sem.run] at h
    split at h
    · cases h
    · have := ih _ _ _ _ h; exact this
    · cases h
  | setObj r o k ih =>
    intro w w' v h
    simp only [Sem.run] at h
    split at h
    · cases h
    · have := ih _ _ _ h; exact this
    · cases h
  | choose q k ih =>
    intro w w' v h
    simp only [Sem.run] at h
    split at h
    · have := ih _ _ _ _ h; exact this
    · have := ih _ _ _ _ h
      simp only at this
      omega
  | sys c k ih =>
    intro w w' v h
    simp only [Sem.run] at h
    have := ih _ _ _ _ h
    have e := sys_drawn w c
    omega
  | program k ih => intro w w' v h; simp only [Sem.run] at h; have := ih _ _ _ _ h; exact this
  | mark m k ih => intro w w' v h; simp only [Sem.run] at h; have := ih _ _ _ h; exact this
  | halt h' => intro w w' v h; simp only [Sem.run] at h; cases h
end Go.Eng
