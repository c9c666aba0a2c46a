/- From a law's parameters to the expressions, steps and queries that they hold. Conditions: none. -/
import Derived.Test.YtklccakoblibmaaRowN
import Derived.Test.YtklccakoblibmaaSxQry
import Derived.Test.YtklccakoblibmaaRows
namespace Go.Proofs.Ytklccakoblibmaa
open Go Go.Eng Go.RowKit Go.WideShapes Go.ChangeShapes Go.WideElems Go.Deep
set_option linter.unusedSimpArgs false
section
variable {H : Type} {enc : TypeId × Value → H} {P : Program} {w : World} {base : Nat} {spare : Nat → Bool} {held : Bool}
/-- What reads as a type in so many steps is of this form. -/
def OpF (H : Type) (enc : TypeId × Value → H) (P : Program) (w : World) (base : Nat) (spare : Nat → Bool) (held : Bool) (n : Nat) (t : TypeId) {α : Type} (f : α → List Value) (Wf : α → Prop) : Prop :=
  ∀ (cs : List Value) (x : DataW H × List MemPlace), DataW.trod enc P w base spare held n t cs = some x → ∃ y, cs = f y ∧ Wf y
theorem opF_flat {α : Type} {f : α → List Value} {Wf : α → Prop} {t : TypeId} {ks : List FK} {n m : Nat} (hk : flatK P m t = some ks) (hf : ∀ cs, okAll ks cs → ∃ x, cs = f x ∧ Wf x) : OpF H enc P w base spare held n t f Wf :=
  fun _ _ hx => hf _ (flat_ok m hk hx)
theorem opF_list {α : Type} [Inhabited α] {f : α → List Value} {Wf : α → Prop} {sz : Nat} {t e : TypeId} {fuel : Nat} {cs : List Value} {x : DataW H × List MemPlace} (hU : P.underlying t = some (.slice e)) (hc : P.cellsOf e = sz) (hp : 0 < sz)
    (hf : ∀ n, fuel = n + 1 → OpF H enc P w base spare held n e f Wf) (hlen : ∀ x, (f x).length = sz) (hx : DataW.trod enc P w base spare held fuel t cs = some x) :
    ∃ A n cap, ∃ l : List α, cs = [.slice A n cap] ∧ Ls w A n cap f sz l ∧ ∀ x ∈ l, Wf x := by
  subst hc
  rcases DataW.trod_slice hU hx with ⟨hcs, _⟩ | ⟨a, n, cap, el, rest, m, hfu, hcs, _, _, hl, hm, hel, hat, _, _⟩
  · exact ⟨none, 0, 0, [], hcs, Ls.nil (Nat.zero_le _), by simp⟩
  · obtain ⟨g, hg⟩ := choose_lt (α := α) (n := n) (p := fun i x => w.cells? base (a.add (i * P.cellsOf e)) (P.cellsOf e) = some (f x) ∧ Wf x) (fun i hi => by
      have h1 := hat i hi
      rw [List.getElem?_eq_getElem (by omega)] at h1
      obtain ⟨cs', h2, h3⟩ := Option.bind_eq_some_iff.1 h1
      obtain ⟨x, rfl, hw⟩ := hf m hfu _ _ h3
      exact ⟨x, h2, hw⟩)
    refine ⟨some a, n, cap, (List.range n).map g, hcs, ⟨by simp, hl, hm, ?_⟩, ?_⟩
    · intro i x hix
      have hi : i < n := by
        have := (List.getElem?_eq_some_iff.1 hix).1
        simpa using this
      have hxg : x = g i := by
        rw [List.getElem?_map, List.getElem?_range hi] at hix
        simpa using hix.symm
      subst hxg
      obtain ⟨_, _, hcell⟩ := World.cells?_some (hg i hi).1
      have hone : ∀ j u, (f (g i))[j]? = some u → w.cell? (a.add (i * P.cellsOf e + j)) = some u := fun j u hu => by
        have hj : j < P.cellsOf e := by
          have := (List.getElem?_eq_some_iff.1 hu).1
          rwa [hlen] at this
        rw [← add_assoc_addr, hcell j hj]; exact hu
      refine ⟨a, rfl, Nat.zero_le _, ?_, hone⟩
      have h0 := hone 0 _ (List.getElem?_eq_getElem (by rw [hlen]; exact hp))
      have := cell_lt h0
      rwa [Eng.block_add] at this
    · intro x hx
      obtain ⟨i, hi, rfl⟩ := List.mem_map.1 hx
      exact (hg i (by simpa using hi)).2
theorem opF_int {k : IntKind} {t : TypeId} {n : Nat} {fuel : Nat} {cs : List Value} {x : DataW H × List MemPlace} (hk : flatK P n t = some [.int k]) (hx : DataW.trod enc P w base spare held fuel t cs = some x) : ∃ a, cs = [.int k a] ∧ (Lit.int k a).wf = true := by
  obtain ⟨v, rfl, a, rfl, h⟩ := okAll_1 (flat_ok n hk hx)
  exact ⟨a, rfl, h⟩
theorem opF_str {t : TypeId} {n : Nat} {fuel : Nat} {cs : List Value} {x : DataW H × List MemPlace} (hk : flatK P n t = some [.str]) (hx : DataW.trod enc P w base spare held fuel t cs = some x) : ∃ a : ByteArray, cs = [.string a] ∧ a.size ≤ maxLen := by
  obtain ⟨v, rfl, a, rfl, h⟩ := okAll_1 (flat_ok n hk hx)
  exact ⟨a, rfl, h⟩
theorem opF_field {t : TypeId} {fs : Array Field} {fuel : Nat} {cs : List Value} {x : DataW H × List MemPlace} (hU : P.underlying t = some (.struct fs)) (hx : DataW.trod enc P w base spare held fuel t cs = some x) :
    cs.length = P.cellsOf t ∧ ∃ n, fuel = n + 1 ∧ ∀ (i : Nat) (f : Field) (o k u : Nat), fs[i]? = some f → f.offset = o → f.type = u → P.cellsOf u = k → ∃ y, DataW.trod enc P w base spare held n u ((cs.drop o).take k) = some y := by
  obtain ⟨xs, m, hm, _, hl, hxl, hg⟩ := DataW.trod_struct hU hx
  refine ⟨hl, m, hm, fun i f o k u hf ho hu hk => ?_⟩
  have h := hg i f hf
  have hi := (Array.getElem?_eq_some_iff.1 hf).1
  rw [List.getElem?_eq_getElem (by omega)] at h
  subst ho; subst hu; subst hk
  exact ⟨_, h⟩
theorem agg_of {cs : Array Value} {l : List Value} (h : cs.toList = l) : Value.agg cs = .agg l.toArray := by rw [← h]
theorem opF_param {t : TypeId} {fs : Array Field} {r : Reach} {b0 : Nat} {v : Value} {d : DataW H} {p : List MemPlace} {α : Type} {f : α → List Value} {Wf : Nat → α → Prop} (hU : P.underlying t = some (.struct fs)) (hf : ∀ n, OpF H enc P w base spare held n t f (Wf n))
    (hv : Value.okWide P w r b0 t v) (h : DataW.Trod enc P w base spare held t v d p) : ∃ n x, v = .agg (f x).toArray ∧ Wf n x := by
  obtain ⟨cs, rfl, _⟩ := okWide_struct hU hv
  obtain ⟨fuel, hx⟩ := h
  obtain ⟨y, h1, h2⟩ := hf fuel _ _ hx
  exact ⟨fuel, y, agg_of h1, h2⟩
end
section
variable {H : Type} {enc : TypeId × Value → H} {w : World} {base : Nat} {spare : Nat → Bool} {held : Bool}
theorem six_cells {cs : List Value} {a b c d e f : Value} (hl : cs.length = 6) (h0 : (cs.drop 0).take 1 = [a]) (h1 : (cs.drop 1).take 1 = [b]) (h2 : (cs.drop 2).take 3 = [c, d, e]) (h5 : (cs.drop 5).take 1 = [f]) : cs = [a, b, c, d, e, f] := by
  match cs, hl with
  | [_, _, _, _, _, _], _ =>
    simp only [List.drop_succ_cons, List.drop_zero, List.take_succ_cons, List.take_zero, List.cons.injEq, and_true] at h0 h1 h2 h5
    obtain ⟨h2, h3, h4⟩ := h2
    rw [h0, h1, h2, h3, h4, h5]
theorem val_of : ∀ cs, okAll [.int .i64, .int .i64, .str] cs → ∃ k n s, cs = [Value.int .i64 k, .int .i64 n, .string s] := fun cs h => by
  obtain ⟨v0, v1, v2, rfl, ⟨a, rfl, _⟩, ⟨b, rfl, _⟩, ⟨c, rfl, _⟩⟩ := okAll_3 h
  exact ⟨a, b, c, rfl⟩
theorem E_op : ∀ n, OpF H enc Try.prog w base spare held n 28 Sx.E.v (Sx.Good n w) := by
  intro n
  induction n using Nat.strongRecOn
  rename_i fuel ih
  intro cs x hx
  obtain ⟨hl, n, rfl, hg⟩ := opF_field Try.underlying28 hx
  rw [show Try.prog.cellsOf 28 = 6 by kernel_rfl] at hl
  obtain ⟨y0, g0⟩ := hg 0 _ 0 1 22 rfl rfl rfl (by kernel_rfl)
  obtain ⟨y1, g1⟩ := hg 1 _ 1 1 9 rfl rfl rfl (by kernel_rfl)
  obtain ⟨y2, g2⟩ := hg 2 _ 2 3 25 rfl rfl rfl (by kernel_rfl)
  obtain ⟨y3, g3⟩ := hg 3 _ 5 1 26 rfl rfl rfl (by kernel_rfl)
  obtain ⟨o, e0, _⟩ := opF_int (k := .i64) (n := 6) (by kernel_rfl) g0
  obtain ⟨s, e1, _⟩ := opF_str (n := 6) (by kernel_rfl) g1
  obtain ⟨k, v, t, e2⟩ := val_of _ (flat_ok 6 (by kernel_rfl) g2)
  obtain ⟨A, m, c, l, e3, hL, hW⟩ := opF_list (f := Sx.E.v) (Wf := Sx.Good n w) (sz := 6) Try.underlying26 (by kernel_rfl) (by decide) (fun k hk cs x hx => by
    obtain ⟨y, h1, h2⟩ := ih k (by omega) cs x hx
    exact ⟨y, h1, h2.le (by omega)⟩) (fun _ => rfl) g3
  refine ⟨.mk o s k v t A m c l, six_cells hl e0 e1 e2 e3, hL, hW⟩
theorem seven_cells {cs r : List Value} {f : Value} (hl : cs.length = 7) (h0 : (cs.drop 0).take 6 = r) (h6 : (cs.drop 6).take 1 = [f]) : cs = r ++ [f] := by
  rw [← h0, ← h6, List.drop_zero]
  have : (cs.drop 6).take 1 = cs.drop 6 := List.take_of_length_le (by rw [List.length_drop]; omega)
  rw [this, List.take_append_drop]
theorem It_op : ∀ n, OpF H enc Try.prog w base spare held n 65 Sx.It.v (fun x => Sx.Good n w x.e) := by
  intro n cs x hx
  obtain ⟨hl, n, rfl, hg⟩ := opF_field Try.underlying65 hx
  rw [show Try.prog.cellsOf 65 = 7 by kernel_rfl] at hl
  obtain ⟨y0, g0⟩ := hg 0 _ 0 6 28 rfl rfl rfl (by kernel_rfl)
  obtain ⟨y1, g1⟩ := hg 1 _ 6 1 9 rfl rfl rfl (by kernel_rfl)
  obtain ⟨e, e0, hE⟩ := E_op n _ _ g0
  obtain ⟨s, e1, _⟩ := opF_str (n := 6) (by kernel_rfl) g1
  exact ⟨⟨e, s⟩, seven_cells hl e0 e1, hE.up⟩
theorem sc_of : ∀ cs, okAll [.str] cs → ∃ x, cs = Sx.sc x ∧ True := fun cs h => by
  obtain ⟨v0, rfl, ⟨a, rfl, _⟩⟩ := okAll_1 h
  exact ⟨a, rfl, trivial⟩
theorem Ag_of : ∀ cs, okAll [.str, .str, .str] cs → ∃ x, cs = Sx.Ag.v x ∧ True := fun cs h => by
  obtain ⟨v0, v1, v2, rfl, ⟨a, rfl, _⟩, ⟨b, rfl, _⟩, ⟨c, rfl, _⟩⟩ := okAll_3 h
  exact ⟨⟨a, b, c⟩, rfl, trivial⟩
theorem So_of : ∀ cs, okAll [.str, .bool] cs → ∃ x, cs = Sx.So.v x ∧ x.col.size ≤ 9223372036854775807 := fun cs h => by
  obtain ⟨v0, v1, rfl, ⟨a, rfl, ha⟩, ⟨b, rfl⟩⟩ := okAll_2 h
  exact ⟨⟨a, b⟩, rfl, ha⟩
theorem step_cells {cs r : List Value} {a b c d e f g : Value} (hr : r.length = 6) (hl : cs.length = 13) (h0 : (cs.drop 0).take 1 = [a]) (h1 : (cs.drop 1).take 6 = r) (h2 : (cs.drop 7).take 1 = [b]) (h3 : (cs.drop 8).take 1 = [c]) (h4 : (cs.drop 9).take 1 = [d]) (h5 : (cs.drop 10).take 1 = [e]) (h6 : (cs.drop 11).take 1 = [f]) (h7 : (cs.drop 12).take 1 = [g]) : cs = a :: (r ++ [b, c, d, e, f, g]) := by
  subst h1
  match cs, hl with
  | [_, _, _, _, _, _, _, _, _, _, _, _, _], _ =>
    simp only [List.drop_succ_cons, List.drop_zero, List.take_succ_cons, List.take_zero, List.cons.injEq, and_true] at h0 h2 h3 h4 h5 h6 h7
    rw [h0, h2, h3, h4, h5, h6, h7]; rfl
theorem St_op : ∀ n, OpF H enc Try.prog w base spare held n 41 Sx.St.v (Sx.GoodS n w) := by
  intro n cs x hx
  obtain ⟨hl, n, rfl, hg⟩ := opF_field Try.underlying41 hx
  rw [show Try.prog.cellsOf 41 = 13 by kernel_rfl] at hl
  obtain ⟨y0, g0⟩ := hg 0 _ 0 1 36 rfl rfl rfl (by kernel_rfl)
  obtain ⟨y1, g1⟩ := hg 1 _ 1 6 28 rfl rfl rfl (by kernel_rfl)
  obtain ⟨y2, g2⟩ := hg 2 _ 7 1 37 rfl rfl rfl (by kernel_rfl)
  obtain ⟨y3, g3⟩ := hg 3 _ 8 1 34 rfl rfl rfl (by kernel_rfl)
  obtain ⟨y4, g4⟩ := hg 4 _ 9 1 38 rfl rfl rfl (by kernel_rfl)
  obtain ⟨y5, g5⟩ := hg 5 _ 10 1 39 rfl rfl rfl (by kernel_rfl)
  obtain ⟨y6, g6⟩ := hg 6 _ 11 1 3 rfl rfl rfl (by kernel_rfl)
  obtain ⟨y7, g7⟩ := hg 7 _ 12 1 9 rfl rfl rfl (by kernel_rfl)
  obtain ⟨o, e0, _⟩ := opF_int (k := .i64) (n := 6) (by kernel_rfl) g0
  obtain ⟨e, e1, hE⟩ := E_op n _ _ g1
  obtain ⟨iA, iN, iC, il, e2, hil, hie⟩ := opF_list (f := Sx.It.v) (Wf := fun x => Sx.Good n w x.e) (sz := 7) Try.underlying37 (by kernel_rfl) (by decide) (fun k hk cs x hx => by
    obtain ⟨y, h1, h2⟩ := It_op k cs x hx
    exact ⟨y, h1, h2.le (by omega)⟩) (fun _ => rfl) g2
  obtain ⟨cA, cN, cC, cl, e3, hcl, _⟩ := opF_list (f := Sx.sc) (Wf := fun _ => True) (sz := 1) Try.underlying34 (by kernel_rfl) (by decide) (fun k hk => opF_flat (m := 6) (by kernel_rfl) sc_of) (fun _ => rfl) g3
  obtain ⟨aA, aN, aC, al, e4, hal, _⟩ := opF_list (f := Sx.Ag.v) (Wf := fun _ => True) (sz := 3) Try.underlying38 (by kernel_rfl) (by decide) (fun k hk => opF_flat (m := 6) (by kernel_rfl) Ag_of) (fun _ => rfl) g4
  obtain ⟨sA, sN, sC, sl, e5, hsl, hss⟩ := opF_list (f := Sx.So.v) (Wf := fun x => x.col.size ≤ 9223372036854775807) (sz := 2) Try.underlying39 (by kernel_rfl) (by decide) (fun k hk => opF_flat (m := 6) (by kernel_rfl) So_of) (fun _ => rfl) g5
  obtain ⟨N, e6, _⟩ := opF_int (k := .i64) (n := 6) (by kernel_rfl) g6
  obtain ⟨tb, e7, _⟩ := opF_str (n := 6) (by kernel_rfl) g7
  exact ⟨⟨o, e, iA, iN, iC, il, cA, cN, cC, cl, aA, aN, aC, al, sA, sN, sC, sl, N, tb⟩, step_cells rfl hl e0 e1 e2 e3 e4 e5 e6 e7, hE.up, hil, fun x hx => (hie x hx).up, hcl, hal, hsl, hss⟩
theorem two_cellsF {cs : List Value} {u v : Value} (hl : cs.length = 2) (h0 : (cs.drop 0).take 1 = [u]) (h1 : (cs.drop 1).take 1 = [v]) : cs = [u, v] := two_cells hl h0 h1
section
variable {r : Reach} {b0 : Nat} {v : Value} {d : DataW H} {p : List MemPlace}
def qv (x : Sx.Q) : List Value := [.string x.fr, .slice x.A x.n x.c]
theorem Q_op : ∀ n, OpF H enc Try.prog w base spare held n 46 qv (Sx.GoodQ n w) := by
  intro n cs x hx
  obtain ⟨hl, n, rfl, hg⟩ := opF_field Try.underlying46 hx
  rw [show Try.prog.cellsOf 46 = 2 by kernel_rfl] at hl
  obtain ⟨y0, g0⟩ := hg 0 _ 0 1 9 rfl rfl rfl (by kernel_rfl)
  obtain ⟨y1, g1⟩ := hg 1 _ 1 1 44 rfl rfl rfl (by kernel_rfl)
  obtain ⟨s, e0, _⟩ := opF_str (n := 6) (by kernel_rfl) g0
  obtain ⟨A, m, c, l, e1, hL, hW⟩ := opF_list (f := Sx.St.v) (Wf := Sx.GoodS (n + 1) w) (sz := 13) Try.underlying44 (by kernel_rfl) (by decide) (fun k hk cs x hx => by
    obtain ⟨y, h1, h2⟩ := St_op k cs x hx
    exact ⟨y, h1, ⟨h2.cd.le (by omega), h2.il, fun z hz => (h2.ie z hz).le (by omega), h2.cl, h2.al, h2.sl, h2.ss⟩⟩) (fun _ => rfl) g1
  exact ⟨⟨s, A, m, c, l⟩, two_cells hl e0 e1, hL, hW⟩
end
end
end Go.Proofs.Ytklccakoblibmaa
