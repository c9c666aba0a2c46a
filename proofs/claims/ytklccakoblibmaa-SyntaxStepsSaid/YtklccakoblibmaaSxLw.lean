/- What the laws of chapter 36 say, in plain terms. Conditions: what each theorem states. -/
import Derived.Test.YtklccakoblibmaaSxAw
import Derived.Test.YtklccakoblibmaaSxRs
namespace Go.Proofs.Ytklccakoblibmaa
open Go Go.Eng
set_option linter.unusedSimpArgs false
namespace Sx
section
variable {α : Type} [Inhabited α] {p : α → α → Bool} {a b : List α}
theorem al_self (h : ∀ x ∈ a, p x x = true) : alB p a a = true := al_ok rfl fun _ hj => h _ (bang_mem hj)
theorem al_iff : alB p a b = true ↔ a.length = b.length ∧ ∀ j, j < a.length → p a[j]! b[j]! = true := by
  unfold alB
  rw [Bool.and_eq_true, decide_eq_true_eq, List.all_eq_true]
  exact ⟨fun h => ⟨h.1, fun j hj => h.2 j (List.mem_range.2 hj)⟩, fun h => ⟨h.1, fun j hj => h.2 j (List.mem_range.1 hj)⟩⟩
theorem al_symm (h : ∀ x ∈ a, ∀ y, p x y = p y x) : alB p a b = alB p b a := by
  rw [Bool.eq_iff_iff, al_iff, al_iff]
  constructor
  · rintro ⟨h1, h2⟩
    exact ⟨h1.symm, fun j hj => by rw [← h _ (bang_mem (by omega))]; exact h2 j (by omega)⟩
  · rintro ⟨h1, h2⟩
    exact ⟨h1.symm, fun j hj => by rw [h _ (bang_mem hj)]; exact h2 j (by omega)⟩
theorem al_eq (h : ∀ x y, p x y = true → x = y) (e : alB p a b = true) : a = b := by
  obtain ⟨h1, h2⟩ := al_iff.1 e
  refine List.ext_getElem h1 fun j hj hk => ?_
  have := h _ _ (h2 j hj)
  rwa [getElem!_pos a j hj, getElem!_pos b j hk] at this
end
theorem al_refl (a : List ByteArray) : alB beS a a = true := al_self fun x _ => beqB_self x
theorem beqB_symm (a b : ByteArray) : (a == b) = (b == a) := by rw [beqB, beqB]; exact decide_eq_decide.2 eq_comm
theorem beqI_symm (a b : Int) : (a == b) = (b == a) := by rw [Bool.eq_iff_iff, beq_iff_eq, beq_iff_eq]; exact eq_comm
theorem beqb_symm (a b : Bool) : (a == b) = (b == a) := by cases a <;> cases b <;> rfl
theorem same_symm (a : E) : ∀ b, same a b = same b a := E.ind (p := fun a => ∀ b, same a b = same b a) (fun a h b => by
  rw [same_eq, same_eq, sameL_al, sameL_al, al_symm h, beqI_symm a.op, beqB_symm a.nm, beqI_symm a.vk, beqI_symm a.vn, beqB_symm a.vs]) a
theorem same_self (a : E) : same a a = true := E.ind (p := fun a => same a a = true) (fun a h => by
  rw [same_eq, sameL_al, al_self h, beqB_self, beqB_self]
  simp) a
theorem it_symm (a b : It) : itS a b = itS b a := by unfold itS; rw [same_symm, beqB_symm]
theorem ag_symm (a b : Ag) : agS a b = agS b a := by unfold agS; rw [beqB_symm a.fn, beqB_symm a.col, beqB_symm a.as_]
theorem so_symm (a b : So) : soS a b = soS b a := by unfold soS; rw [beqB_symm a.col, beqb_symm a.d]
theorem st_symm (a b : St) : stS a b = stS b a := by
  unfold stS
  rw [beqI_symm a.op, beqI_symm a.N, beqB_symm a.tb, same_symm a.cd, al_symm (p := itS) fun x _ y => it_symm x y, al_symm (p := beS) fun x _ y => beqB_symm x y, al_symm (p := agS) fun x _ y => ag_symm x y, al_symm (p := soS) fun x _ y => so_symm x y]
theorem q_symm (a b : Q) : qS a b = qS b a := by unfold qS; rw [beqB_symm, al_symm fun x _ y => st_symm x y]
theorem st_self (a : St) : stS a a = true := by
  unfold stS
  rw [beqB_self, same_self, al_self (p := itS) fun x _ => by unfold itS; rw [beqB_self, same_self]; rfl, al_self (p := beS) fun x _ => beqB_self x, al_self (p := agS) fun x _ => by unfold agS; rw [beqB_self, beqB_self, beqB_self]; rfl, al_self (p := soS) fun x _ => by unfold soS; rw [beqB_self]; simp]
  simp
theorem q_self (a : Q) : qS a a = true := by unfold qS; rw [beqB_self, al_self fun x _ => st_self x]; rfl
/-! ### Equal ones are both valid or both not -/
structure Alike (x y : E) : Prop where
  op : x.op = y.op
  nm : x.nm = y.nm
  vk : x.vk = y.vk
  vn : x.vn = y.vn
  vs : x.vs = y.vs
  len : x.kids.length = y.kids.length
theorem same_alike {x y : E} (h : same x y = true) : Alike x y ∧ sameL x.kids y.kids = true := by
  rw [same_eq] at h
  simp only [Bool.and_eq_true, beq_iff_eq] at h
  have hl := h.2
  rw [sameL_al] at hl
  refine ⟨⟨h.1.1.1, beqB_eq.1 h.1.1.2, h.1.2.1.1, h.1.2.1.2, beqB_eq.1 h.1.2.2, (al_iff.1 hl).1⟩, h.2⟩
theorem alike_nod {x y : E} (h : Alike x y) : nodE x = nodE y := by
  unfold nodE callE
  rw [h.op, h.nm, h.vk, h.vn, h.vs, h.len]
theorem alike_zer {x y : E} (h : Alike x y) : zN x = zN y := by
  unfold zN zerB
  rw [h.op, h.nm, h.vk, h.vn, h.vs, h.len]
theorem same_meas (x : E) : ∀ y, same x y = true → cnt x = cnt y ∧ lev x = lev y ∧ ndE x = ndE y := E.ind (p := fun x => ∀ y, same x y = true → cnt x = cnt y ∧ lev x = lev y ∧ ndE x = ndE y) (fun x h y hs => by
  obtain ⟨ha, hl⟩ := same_alike hs
  have key : ∀ (l : List E), (∀ k ∈ l, ∀ y, same k y = true → cnt k = cnt y ∧ lev k = lev y ∧ ndE k = ndE y) → ∀ r, sameL l r = true → cntL l = cntL r ∧ levL l = levL r ∧ ndL l = ndL r := by
    intro l
    induction l with
    | nil => intro _ r hr; cases r with
      | nil => exact ⟨rfl, rfl, rfl⟩
      | cons _ _ => rw [sameL_al, al_len (by simp)] at hr; cases hr
    | cons k l ih => intro hk r hr; cases r with
      | nil => rw [sameL_al, al_len (by simp)] at hr; cases hr
      | cons k' r =>
        rw [sameL, Bool.and_eq_true] at hr
        obtain ⟨h1, h2, h3⟩ := hk k (by simp) k' hr.1
        obtain ⟨h4, h5, h6⟩ := ih (fun z hz => hk z (by simp [hz])) r hr.2
        rw [cntL, cntL, levL, levL, ndL, ndL, h1, h2, h3, h4, h5, h6]
        exact ⟨rfl, rfl, rfl⟩
  obtain ⟨h1, h2, h3⟩ := key x.kids h y.kids hl
  rw [cnt_eq, cnt_eq y, lev_eq, lev_eq y, ndE_eq, ndE_eq y, h1, h2, h3, alike_nod ha]
  exact ⟨rfl, rfl, rfl⟩) x
theorem same_ex {x y : E} (h : same x y = true) : exE x = exE y := by
  obtain ⟨h1, h2, h3⟩ := same_meas x y h
  unfold exE
  rw [h1, h2, h3]
theorem fst_congr {g g' : Nat → Int} : ∀ {n : Nat}, (∀ j, j < n → g j = g' j) → fst g n = fst g' n
  | 0, _ => rfl
  | n + 1, h => by
    have e := fst_congr (n := n) fun j hj => h j (by omega)
    rw [fst, fst, e, h n (by omega)]
theorem it_same {a b : It} (h : itS a b = true) : a.as_ = b.as_ ∧ exE a.e = exE b.e := by
  unfold itS at h
  rw [Bool.and_eq_true] at h
  exact ⟨beqB_eq.1 h.1, same_ex h.2⟩
theorem map_al {α β : Type} [Inhabited α] {a b : List α} {f : α → β} (hl : a.length = b.length) (h : ∀ j, j < a.length → f a[j]! = f b[j]!) : a.map f = b.map f := by
  refine List.ext_getElem (by simpa using hl) fun j hj hk => ?_
  rw [List.getElem_map, List.getElem_map]
  have := h j (by simpa using hj)
  rwa [getElem!_pos a j (by simpa using hj), getElem!_pos b j (by simpa using hk)] at this
theorem itm_same {a b : List It} (h : alB itS a b = true) : itmE a = itmE b := by
  obtain ⟨h1, h2⟩ := al_iff.1 h
  unfold itmE
  rw [← h1]
  refine fst_congr fun j hj => ?_
  have hm : a.map It.as_ = b.map It.as_ := map_al h1 fun j hj => (it_same (h2 j hj)).1
  have ht : (a.take j).map It.as_ = (b.take j).map It.as_ := by rw [List.map_take, List.map_take, hm]
  unfold itm1
  rw [(it_same (h2 j hj)).1, (it_same (h2 j hj)).2, ht]
theorem stp_same {a b : St} (h : stS a b = true) : stpE a = stpE b := by
  unfold stS at h
  simp only [Bool.and_eq_true, beq_iff_eq] at h
  obtain ⟨⟨⟨⟨⟨⟨⟨h1, h2⟩, h3⟩, h4⟩, h5⟩, h6⟩, h7⟩, h8⟩ := h
  have h3 : a.tb = b.tb := by first | exact h3 | exact beqB_eq.1 h3
  have e6 : a.cl = b.cl := al_eq (p := beS) (fun x y z => beqB_eq.1 z) h6
  have e7 : a.al = b.al := al_eq (p := agS) (fun x y z => by
    unfold agS at z
    rw [Bool.and_eq_true, Bool.and_eq_true] at z
    cases x; cases y
    simp only [Ag.mk.injEq]
    exact ⟨beqB_eq.1 z.1.1, beqB_eq.1 z.1.2, beqB_eq.1 z.2⟩) h7
  have e8 : a.sl = b.sl := al_eq (p := soS) (fun x y z => by
    unfold soS at z
    rw [Bool.and_eq_true] at z
    cases x; cases y
    simp only [So.mk.injEq]
    exact ⟨beqB_eq.1 z.1, by simpa using z.2⟩) h8
  have e5 := (al_iff.1 h5).1
  unfold stpE usB unB grpE
  rw [alike_zer (same_alike h4).1, same_ex h4, itm_same h5, h1, h2, h3, e5, e6, e7, e8]
theorem qry_same {a b : Q} (h : qS a b = true) : qryE a = qryE b := by
  unfold qS at h
  rw [Bool.and_eq_true] at h
  obtain ⟨h1, h2⟩ := al_iff.1 h.2
  unfold qryE
  rw [beqB_eq.1 h.1, h1]
  rw [fst_congr (n := b.l.length) (g := qst a.l) (g' := qst b.l) fun j hj => stp_same (h2 j (by omega))]
/-! ### Parts of queries -/
theorem fst_at {g : Nat → Int} {n j : Nat} (h : fst g n = 0) (hj : j < n) : g j = 0 := by
  induction n with
  | zero => omega
  | succ n ih =>
    rw [fst] at h
    by_cases h0 : fst g n = 0
    · rw [if_neg (by rw [h0]; simp)] at h
      rcases Nat.lt_succ_iff_lt_or_eq.1 hj with z | rfl
      · exact ih h0 z
      · exact h
    · rw [if_pos h0] at h
      exact absurd h h0
theorem qry_zero {q : Q} (h : qryE q = 0) : idB q.fr = true ∧ ¬ 16 < q.l.length ∧ ∀ j, j < q.l.length → stpE q.l[j]! = 0 := by
  unfold qryE at h
  split at h
  · cases h
  · rename_i h1
    split at h
    · cases h
    · exact ⟨by simpa using h1, by assumption, fun j hj => fst_at h hj⟩
theorem bang_drop {α : Type} [Inhabited α] {l : List α} {i j : Nat} (h : i + j < l.length) : (l.drop i)[j]! = l[i + j]! := by
  rw [getElem!_pos _ j (by rw [List.length_drop]; omega), getElem!_pos l (i + j) h, List.getElem_drop]
theorem bang_take {α : Type} [Inhabited α] {l : List α} {i j : Nat} (h : j < i) (h2 : j < l.length) : (l.take i)[j]! = l[j]! := by
  rw [getElem!_pos _ j (by rw [List.length_take]; omega), getElem!_pos l j h2, List.getElem_take]
def qTo (q : Q) (i : Nat) : Q := ⟨q.fr, q.A, i, q.c, q.l.take i⟩
theorem qto_zero {q : Q} (h : qryE q = 0) (i : Nat) : qryE (qTo q i) = 0 := by
  obtain ⟨h1, h2, h3⟩ := qry_zero h
  have hl : (q.l.take i).length ≤ q.l.length := by rw [List.length_take]; omega
  refine qry_ok (q := qTo q i) h1 (by show ¬ 16 < (q.l.take i).length; omega) fun j hj => ?_
  have hj : j < (q.l.take i).length := hj
  show stpE (q.l.take i)[j]! = 0
  have hj' : j < i := by rw [List.length_take] at hj; omega
  rw [bang_take hj' (by omega)]
  exact h3 j (by omega)
theorem qto_few {q : Q} (h : FewQ q) (i : Nat) : FewQ (qTo q i) := ⟨by show (q.l.take i).length ≤ 30; have := h.n; rw [List.length_take]; omega, h.fr, fun x hx => h.s x (List.mem_of_mem_take hx)⟩
theorem qfrom_zero {q : Q} (h : qryE q = 0) (i : Nat) (A : Option Addr) (n c : Nat) : qryE ⟨q.fr, A, n, c, q.l.drop i⟩ = 0 := by
  obtain ⟨h1, h2, h3⟩ := qry_zero h
  have hl : (q.l.drop i).length ≤ q.l.length := by rw [List.length_drop]; omega
  refine qry_ok (q := ⟨q.fr, A, n, c, q.l.drop i⟩) h1 (by show ¬ 16 < (q.l.drop i).length; omega) fun j hj => ?_
  have hj : j < (q.l.drop i).length := hj
  show stpE (q.l.drop i)[j]! = 0
  rw [List.length_drop] at hj
  rw [bang_drop (by omega)]
  exact h3 _ (by omega)
theorem qfrom_few {q : Q} (h : FewQ q) (i : Nat) (A : Option Addr) (n c : Nat) : FewQ ⟨q.fr, A, n, c, q.l.drop i⟩ := ⟨by show (q.l.drop i).length ≤ 30; have := h.n; rw [List.length_drop]; omega, h.fr, fun x hx => h.s x (List.mem_of_mem_drop hx)⟩
/-! ### Negations -/
def Nots : Nat → E → Prop
  | 0, x => x = .mk 1 ⟨#[]⟩ 1 1 ⟨#[]⟩ none 0 0 []
  | i + 1, x => ∃ (A : Option Addr) (n c : Nat) (k : E), x = .mk 3 ⟨#[]⟩ 0 0 ⟨#[]⟩ A n c [k] ∧ Nots i k
theorem nots : ∀ {i : Nat} {x : E}, Nots i x → cnt x = i + 1 ∧ lev x = i + 1 ∧ ndE x = 0 ∧ short x = true
  | 0, x, h => by
    rw [show x = _ from h]
    exact ⟨rfl, rfl, rfl, rfl⟩
  | i + 1, x, h => by
    obtain ⟨A, n, c, k, rfl, hk⟩ := h
    obtain ⟨h1, h2, h3, h4⟩ := nots hk
    refine ⟨?_, ?_, ?_, ?_⟩
    · rw [cnt, cntL, cntL, h1]
    · rw [lev, levL, levL, h2]; omega
    · have e : nodE (.mk 3 ⟨#[]⟩ 0 0 ⟨#[]⟩ A n c [k]) = 0 := rfl
      rw [ndE, e, if_neg (by simp), ndL, h3, if_neg (by simp), ndL]
    · rw [short, shortL, shortL, h4]; rfl
theorem nots_ex {i : Nat} {x : E} (h : Nots i x) (hi : i ≤ 100) : exE x = if 16 < i + 1 then 20 else 0 := by
  obtain ⟨h1, h2, h3, _⟩ := nots h
  unfold exE
  rw [h1, h2, h3, if_neg (by omega)]
/-- Negations that lie apart from the block g. -/
def NG (g : Nat) (w : World) : Nat → E → Prop
  | 0, x => x = .mk 1 ⟨#[]⟩ 1 1 ⟨#[]⟩ none 0 0 []
  | i + 1, x => ∃ (b : Nat) (k : E), x = .mk 3 ⟨#[]⟩ 0 0 ⟨#[]⟩ (some ⟨b, 0, none⟩) 1 1 [k] ∧ b ≠ g ∧ Blk w b 28 k.v ∧ NG g w i k
theorem NG.ext {g : Nat} {w w' : World} : ∀ {i : Nat} {x : E}, NG g w i x → Ext w w' → NG g w' i x
  | 0, _, h, _ => h
  | _ + 1, _, ⟨b, k, h1, h2, h3, h4⟩, x => ⟨b, k, h1, h2, h3.ext x, NG.ext h4 x⟩
theorem NG.only {g : Nat} {w w' : World} : ∀ {i : Nat} {x : E}, NG g w i x → Only g w w' → NG g w' i x
  | 0, _, h, _ => h
  | _ + 1, _, ⟨b, k, h1, h2, h3, h4⟩, x => ⟨b, k, h1, h2, h3.only h2 x, NG.only h4 x⟩
theorem NG.nots {g : Nat} {w : World} : ∀ {i : Nat} {x : E}, NG g w i x → Nots i x
  | 0, _, h => h
  | _ + 1, _, ⟨_, k, h1, _, _, h4⟩ => ⟨_, _, _, k, h1, NG.nots h4⟩
theorem NG.good {g : Nat} {w : World} : ∀ {i : Nat} {x : E}, NG g w i x → Good (i + 1) w x
  | 0, x, h => by rw [show x = _ from h]; exact leaf
  | i + 1, x, ⟨b, k, h1, _, h3, h4⟩ => by
    rw [h1]
    exact ⟨Ls.lit (f := E.v) (sz := 6) (l := [k]) h3 (fun _ => rfl) rfl (Nat.le_of_ble_eq_true rfl) rfl, fun z hz => by
      rcases List.mem_singleton.1 hz with rfl
      exact NG.good h4⟩
/-! ### Parts and sums of expressions -/
theorem ex_zero {x : E} (h : exE x = 0) : cnt x ≤ 200 ∧ lev x ≤ 16 ∧ ndE x = 0 := by
  unfold exE at h
  split at h
  · cases h
  · split at h
    · cases h
    · exact ⟨by omega, by omega, h⟩
theorem ex_of {x : E} (h1 : cnt x ≤ 200) (h2 : lev x ≤ 16) (h3 : ndE x = 0) : exE x = 0 := by
  unfold exE
  rw [if_neg (by omega), if_neg (by omega), h3]
theorem ndL_at {k : E} : ∀ {l : List E}, ndL l = 0 → k ∈ l → ndE k = 0
  | [], _, h => by cases h
  | x :: r, h, hk => by
    rw [ndL] at h
    by_cases h0 : ndE x = 0
    · rw [if_neg (by rw [h0]; simp)] at h
      rcases List.mem_cons.1 hk with rfl | hk
      · exact h0
      · exact ndL_at h hk
    · rw [if_pos h0] at h
      exact absurd h h0
theorem levL_at {k : E} : ∀ {l : List E}, k ∈ l → lev k ≤ levL l
  | [], h => by cases h
  | x :: r, hk => by
    rw [levL]
    rcases List.mem_cons.1 hk with rfl | hk
    · omega
    · have := levL_at hk; omega
theorem ex_kid {x k : E} (h : exE x = 0) (hk : k ∈ x.kids) : exE k = 0 := by
  obtain ⟨h1, h2, h3⟩ := ex_zero h
  rw [lev_eq] at h2
  have := levL_at hk
  refine ex_of (cnt_kid h1 hk) (by omega) ?_
  rw [ndE_eq] at h3
  by_cases h0 : nodE x = 0
  · rw [if_neg (by rw [h0]; simp)] at h3
    exact ndL_at h3 hk
  · rw [if_pos h0] at h3
    exact absurd h3 h0
def both (n : Int) (g : Nat) (x y : E) : E := .mk (5 + n % 11) ⟨#[]⟩ 0 0 ⟨#[]⟩ (some ⟨g, 0, none⟩) 2 2 [x, y]
section
variable {n : Int} {g : Nat} {x y : E}
theorem both_good {w : World} {d d' : Nat} (h : Good d w x) (h' : Good d' w y) (hl : Ls w (some ⟨g, 0, none⟩) 2 2 E.v 6 [x, y]) : Good (d + d' + 1) w (both n g x y) := ⟨hl, fun k hk => by
  have hk : k ∈ [x, y] := hk
  simp only [List.mem_cons, List.not_mem_nil, or_false] at hk
  rcases hk with rfl | rfl
  · exact h.le (by omega)
  · exact h'.le (by omega)⟩
theorem both_sh (h : short x = true) (h' : short y = true) : short (both n g x y) = true := by
  unfold both
  rw [short, shortL, shortL, shortL, h, h']; rfl
theorem both_ct : cnt (both n g x y) = cnt x + cnt y + 1 := by
  unfold both
  rw [cnt, cntL, cntL, cntL]; omega
theorem both_lv : lev (both n g x y) = max (lev x) (lev y) + 1 := by
  unfold both
  rw [lev, levL, levL, levL]; omega
theorem both_ex (h : exE x = 0) (h' : exE y = 0) (hl : lev x ≤ 15) (hl' : lev y ≤ 15) (hc : cnt x + cnt y ≤ 199) : exE (both n g x y) = 0 := by
  refine ex_of (by rw [both_ct]; omega) (by rw [both_lv]; omega) ?_
  have hn : nodE (both n g x y) = 0 := by
    have e1 : (both n g x y).op = 5 + n % 11 := rfl
    have e2 : (both n g x y).kids.length = 2 := rfl
    have m1 := Int.emod_nonneg n (b := 11) (by omega)
    have m2 := Int.emod_lt_of_pos n (b := 11) (by omega)
    unfold nodE kidN
    rw [e1, e2]
    have e3 : (both n g x y).nm.size = 0 := rfl
    have e4 : (both n g x y).vk = 0 := rfl
    have e5 : (both n g x y).vn = 0 := rfl
    have e6 : (both n g x y).vs.size = 0 := rfl
    rw [if_neg (by omega), if_neg (by rw [e3, e4, e5, e6, if_neg (by omega), if_neg (by omega), if_neg (by omega)]; omega), if_neg (by omega), if_neg (by omega), if_neg (by omega)]
  rw [ndE_eq, hn, if_neg (by simp)]
  show ndL [x, y] = 0
  rw [ndL, ndL, ndL, (ex_zero h).2.2, (ex_zero h').2.2]; rfl
theorem both_flds : flds (both n g x y) = flds x ++ flds y := by
  have m1 := Int.emod_nonneg n (b := 11) (by omega)
  unfold both
  rw [flds, if_neg (by omega), fldsL, fldsL, fldsL, List.nil_append, List.append_nil]
theorem mem_colR (h : exE x = 0) (q : ByteArray) : q ∈ colR x ↔ q ∈ flds x := by rw [colR_ok h]; exact (cmp_srt _).2 q
theorem both_mem (h : exE x = 0) (h' : exE y = 0) (hb : exE (both n g x y) = 0) (q : ByteArray) : q ∈ colR (both n g x y) ↔ q ∈ colR x ∨ q ∈ colR y := by
  rw [mem_colR hb, mem_colR h, mem_colR h', both_flds, List.mem_append]
end
theorem colR_ris (x : E) : Ris (toL (colR x)) := by
  unfold colR
  split
  · exact List.Pairwise.nil
  · exact (cmp_srt _).1
theorem colR_lt {x : E} {i j : Nat} (h : i < j) (hj : j < (colR x).length) : Y.lt (colR x)[i]! (colR x)[j]! = true := by
  have hr := List.pairwise_iff_getElem.1 (colR_ris x) i j (by rw [toL_len]; omega) (by rw [toL_len]; omega) h
  unfold toL at hr
  rw [List.getElem_map, List.getElem_map] at hr
  rw [getElem!_pos _ i (by omega), getElem!_pos _ j hj]
  exact lt_iff.2 hr
theorem colR_nodup (x : E) : (colR x).Nodup := by
  have h := colR_ris x
  unfold Ris toL at h
  rw [List.pairwise_map] at h
  exact h.imp fun {a b} z (e : a = b) => List.lt_irrefl _ (e ▸ z)
theorem lawB : LawfulBEq ByteArray := { eq_of_beq := fun h => beqB_eq.1 h, rfl := beqB_self _ }
theorem sub_len : ∀ {l r : List ByteArray}, l.Nodup → (∀ q ∈ l, q ∈ r) → l.length ≤ r.length
  | [], _, _, _ => Nat.zero_le _
  | x :: l, r, hn, hs => by
    have := lawB
    have hn' := List.nodup_cons.1 hn
    have hx := hs x (by simp)
    have h1 := List.length_erase_of_mem hx
    have h2 := List.length_pos_of_mem hx
    have h3 := sub_len (l := l) (r := r.erase x) hn'.2 fun q hq => (List.mem_erase_of_ne (by rintro rfl; exact hn'.1 hq)).2 (hs q (by simp [hq]))
    rw [List.length_cons]
    omega
theorem colR_len {x : E} (h : exE x = 0) : (colR x).length ≤ cnt x := Nat.le_trans (sub_len (colR_nodup x) fun q hq => (mem_colR h q).1 hq) (flds_cnt x)
theorem both_len {n : Int} {g : Nat} {x y : E} (h : exE x = 0) (h' : exE y = 0) (hb : exE (both n g x y) = 0) : (colR x).length ≤ (colR (both n g x y)).length ∧ (colR y).length ≤ (colR (both n g x y)).length ∧ (colR (both n g x y)).length ≤ (colR x).length + (colR y).length := by
  have hm := both_mem h h' hb
  refine ⟨sub_len (colR_nodup x) fun q hq => (hm q).2 (.inl hq), sub_len (colR_nodup y) fun q hq => (hm q).2 (.inr hq), ?_⟩
  have := sub_len (colR_nodup (both n g x y)) (r := colR x ++ colR y) fun q hq => List.mem_append.2 ((hm q).1 hq)
  rw [List.length_append] at this
  exact this
/-- What is in the sum's columns is found in one list or the other. -/
theorem both_found {n : Int} {g : Nat} {x y : E} (h : exE x = 0) (h' : exE y = 0) (hb : exE (both n g x y) = 0) {i : Nat} (hi : i < (colR (both n g x y)).length) {b : Bool}
    (h1 : ∀ j, j < (colR x).length → ((colR x)[j]! == (colR (both n g x y))[i]!) = true → b = true) (h2 : ∀ j, j < (colR y).length → ((colR y)[j]! == (colR (both n g x y))[i]!) = true → b = true) : b = true := by
  rcases (both_mem h h' hb _).1 (bang_mem hi) with hq | hq
  · obtain ⟨j, hj, e⟩ := List.mem_iff_getElem.1 hq
    exact h1 j hj (by rw [getElem!_pos _ j hj, e]; exact beqB_self _)
  · obtain ⟨j, hj, e⟩ := List.mem_iff_getElem.1 hq
    exact h2 j hj (by rw [getElem!_pos _ j hj, e]; exact beqB_self _)
end Sx
end Go.Proofs.Ytklccakoblibmaa
