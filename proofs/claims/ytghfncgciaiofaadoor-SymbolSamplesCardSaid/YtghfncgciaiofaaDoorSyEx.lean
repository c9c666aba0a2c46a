/- The chapter's examples, in plain terms. Conditions: none. -/
import Derived.Test.YtghfncgciaiofaaDoorSyFr
namespace Go.Proofs.YtghfncgciaiofaaDoor
open Go Go.Eng
namespace Sy
def awS : List S := [⟨0, ⟨#[105, 110, 105, 116]⟩⟩, ⟨16, ⟨#[114, 117, 110]⟩⟩]
def awL (g : Nat) : List M := [⟨⟨#[108, 105, 98]⟩, 4096, 256, some ⟨g, 0, none⟩, 2, 2, awS⟩]
instance (s : ByteArray) : Decidable (okN s) := by unfold okN; infer_instance
theorem aw_init : okN ⟨#[105, 110, 105, 116]⟩ := by decide +kernel
theorem aw_run : okN ⟨#[114, 117, 110]⟩ := by decide +kernel
theorem aw_lib : okN ⟨#[108, 105, 98]⟩ := by decide +kernel
theorem aw_chk (g : Nat) : chkE (awL g) = 0 := by
  rw [chk_few (by rfl)]
  refine fst_none fun j hj => ?_
  obtain rfl : j = 0 := by have : (awL g).length = 1 := rfl; omega
  show modE ⟨⟨#[108, 105, 98]⟩, 4096, 256, some ⟨g, 0, none⟩, 2, 2, awS⟩ 0 = 0
  rw [modE_sym (nmE_ok aw_lib) (by rfl) (show ¬ (4096 : Int) < 0 by decide)]
  refine fst_none fun j hj => ?_
  have hj2 : j < 2 := hj
  match j, hj2 with
  | 0, _ => exact symE_ok (sz := 256) (l := awS) (nmE_ok aw_init) (by decide) (by decide)
  | 1, _ => exact symE_ok (sz := 256) (l := awS) (nmE_ok aw_run) (by decide) (by decide)
theorem aw_few (g : Nat) : Few (awL g) where
  n := (show (1 : Nat) ≤ 70 by decide)
  m := by
    intro x hx
    obtain rfl := List.mem_singleton.1 hx
    exact ⟨(show (2 : Nat) ≤ 60 by decide), (show (3 : Nat) ≤ 100 by decide), rfl⟩
  s := by
    intro x hx y hy
    obtain rfl := List.mem_singleton.1 hx
    have hy2 : y ∈ awS := hy
    rcases List.mem_cons.1 hy2 with rfl | hy3
    · decide
    · obtain rfl := List.mem_singleton.1 hy3
      decide
theorem aw_good {w : World} {g : Nat} (h : Ls w (some ⟨g, 0, none⟩) 2 2 S.c 2 awS) : Good w (awL g) := by
  intro x hx
  obtain rfl := List.mem_singleton.1 hx
  exact h
theorem aw_f1 (g : Nat) : fnd (awL g) 4112 = (⟨#[108, 105, 98, 58, 114, 117, 110]⟩, 0, true) := by
  rw [fnd_ok (aw_chk g)]; rfl
theorem aw_f2 (g : Nat) : fnd (awL g) 4120 = (⟨#[108, 105, 98, 58, 114, 117, 110]⟩, 8, true) := by
  rw [fnd_ok (aw_chk g)]; rfl
theorem aw_f3 (g : Nat) : fnd (awL g) 4352 = (⟨#[]⟩, 0, false) := by
  rw [fnd_ok (aw_chk g)]; rfl
theorem aw_a1 : adr ⟨#[48, 120, 49, 48, 49, 56]⟩ = (4120, true) := by
  rw [adr_ok (by decide +kernel) (by intro j hj; have hj2 : j < 4 := hj; match j, hj2 with | 0, _ => decide +kernel | 1, _ => decide +kernel | 2, _ => decide +kernel | 3, _ => decide +kernel)]
  have : hv (tl ⟨#[48, 120, 49, 48, 49, 56]⟩) (ByteArray.size ⟨#[48, 120, 49, 48, 49, 56]⟩ - 2) = 4120 := by decide +kernel
  rw [this]
theorem aw_a2 : adr ⟨#[48, 88, 49, 48, 49, 56]⟩ = (0, false) := adr_pre (by decide +kernel)
theorem aw_f4 (g : Nat) : frm (awL g) ⟨#[48, 120, 49, 48, 49, 56]⟩ = ⟨#[108, 105, 98, 58, 114, 117, 110]⟩ := by
  rw [frm_ok (aw_chk g)]
  unfold frm1
  rw [aw_a1]
  rfl
theorem aw_f5 (g : Nat) : frm (awL g) ⟨#[48, 88, 49, 48, 49, 56]⟩ = ⟨#[48, 88, 49, 48, 49, 56]⟩ := frm_no (by rw [aw_a2])
end Sy
end Go.Proofs.YtghfncgciaiofaaDoor
