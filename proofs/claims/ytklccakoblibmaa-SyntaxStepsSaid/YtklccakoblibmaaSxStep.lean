/- Steps of queries in plain terms. Conditions: none. -/
import Derived.Test.YtklccakoblibmaaSxList
namespace Go.Proofs.Ytklccakoblibmaa
open Go Go.Eng
set_option linter.unusedSimpArgs false
namespace Sx
structure It where
  e : E
  as_ : ByteArray
instance : Inhabited It := ⟨⟨default, ⟨#[]⟩⟩⟩
def It.v (x : It) : List Value := [.int .i64 x.e.op, .string x.e.nm, .int .i64 x.e.vk, .int .i64 x.e.vn, .string x.e.vs, .slice x.e.A x.e.n x.e.c, .string x.as_]
theorem It.one (x : It) : ∀ u ∈ x.v, u.oneCell' = true := by simp [It.v, Value.oneCell']
structure Ag where
  fn : ByteArray
  col : ByteArray
  as_ : ByteArray
instance : Inhabited Ag := ⟨⟨⟨#[]⟩, ⟨#[]⟩, ⟨#[]⟩⟩⟩
def Ag.v (x : Ag) : List Value := [.string x.fn, .string x.col, .string x.as_]
theorem Ag.one (x : Ag) : ∀ u ∈ x.v, u.oneCell' = true := by simp [Ag.v, Value.oneCell']
structure So where
  col : ByteArray
  d : Bool
instance : Inhabited So := ⟨⟨⟨#[]⟩, false⟩⟩
def So.v (x : So) : List Value := [.string x.col, .bool x.d]
theorem So.one (x : So) : ∀ u ∈ x.v, u.oneCell' = true := by simp [So.v, Value.oneCell']
structure St where
  op : Int
  cd : E
  iA : Option Addr
  iN : Nat
  iC : Nat
  il : List It
  cA : Option Addr
  cN : Nat
  cC : Nat
  cl : List ByteArray
  aA : Option Addr
  aN : Nat
  aC : Nat
  al : List Ag
  sA : Option Addr
  sN : Nat
  sC : Nat
  sl : List So
  N : Int
  tb : ByteArray
instance : Inhabited St := ⟨⟨0, default, none, 0, 0, [], none, 0, 0, [], none, 0, 0, [], none, 0, 0, [], 0, ⟨#[]⟩⟩⟩
def St.v (s : St) : List Value := [.int .i64 s.op, .int .i64 s.cd.op, .string s.cd.nm, .int .i64 s.cd.vk, .int .i64 s.cd.vn, .string s.cd.vs, .slice s.cd.A s.cd.n s.cd.c, .slice s.iA s.iN s.iC, .slice s.cA s.cN s.cC, .slice s.aA s.aN s.aC, .slice s.sA s.sN s.sC, .int .i64 s.N, .string s.tb]
theorem St.one (x : St) : ∀ u ∈ x.v, u.oneCell' = true := by simp [St.v, Value.oneCell']
/-- A step lies in memory. -/
structure GoodS (d : Nat) (w : World) (s : St) : Prop where
  cd : Good d w s.cd
  il : Ls w s.iA s.iN s.iC It.v 7 s.il
  ie : ∀ x ∈ s.il, Good d w x.e
  cl : Ls w s.cA s.cN s.cC sc 1 s.cl
  al : Ls w s.aA s.aN s.aC Ag.v 3 s.al
  sl : Ls w s.sA s.sN s.sC So.v 2 s.sl
  ss : ∀ x ∈ s.sl, x.col.size ≤ 9223372036854775807
theorem GoodS.ext {d : Nat} {w w' : World} {s : St} (h : GoodS d w s) (x : Ext w w') : GoodS d w' s := ⟨h.cd.ext x, h.il.ext x, fun y hy => (h.ie y hy).ext x, h.cl.ext x, h.al.ext x, h.sl.ext x, h.ss⟩
structure FewS (s : St) : Prop where
  cd : short s.cd = true ∧ cnt s.cd ≤ 300
  il : s.il.length ≤ 30
  ie : ∀ x ∈ s.il, short x.e = true ∧ cnt x.e ≤ 300 ∧ x.as_.size ≤ 300
  cl : s.cl.length ≤ 30
  cs : shortN s.cl
  al : s.al.length ≤ 30
  as_ : ∀ x ∈ s.al, x.col.size ≤ 300 ∧ x.as_.size ≤ 300
  sl : s.sl.length ≤ 30
  ss : ∀ x ∈ s.sl, x.col.size ≤ 9223372036854775807
  tb : s.tb.size ≤ 300
/-! ### Items -/
def itm1 (l : List It) (i : Nat) : Int := if exE l[i]!.e ≠ 0 then exE l[i]!.e else addE ((l.take i).map It.as_) l[i]!.as_
def itmE (l : List It) : Int := fst (itm1 l) l.length
theorem itm_ex {l : List It} {i : Nat} (h : exE l[i]!.e ≠ 0) : itm1 l i = exE l[i]!.e := by unfold itm1; rw [if_pos h]
theorem itm_add {l : List It} {i : Nat} (h : exE l[i]!.e = 0) : itm1 l i = addE ((l.take i).map It.as_) l[i]!.as_ := by unfold itm1; rw [if_neg (by rw [h]; simp)]
theorem itm_hit {l : List It} {i : Nat} (hi : i < l.length) (hb : ∀ j, j < i → itm1 l j = 0) {z : Int} (h : itm1 l i = z) (hz : z ≠ 0) : itmE l = z := by unfold itmE; rw [fst_hit hi hb (by rw [h]; exact hz), h]
theorem itm_ok {l : List It} (hb : ∀ j, j < l.length → itm1 l j = 0) : itmE l = 0 := fst_none hb
theorem map_next {α : Type} [Inhabited α] {f : α → ByteArray} {l : List α} {i : Nat} (h : i < l.length) : (l.take (i + 1)).map f = (l.take i).map f ++ [f l[i]!] := by rw [take_next h, List.map_append]; rfl
theorem map_len {α : Type} {f : α → ByteArray} {l : List α} {i : Nat} (h : i ≤ l.length) : ((l.take i).map f).length = i := by rw [List.length_map, List.length_take]; omega
/-! ### Groups -/
def known : List ByteArray := [⟨#[115, 117, 109]⟩, ⟨#[109, 105, 110]⟩, ⟨#[109, 97, 120]⟩, ⟨#[102, 105, 114, 115, 116]⟩]
def cntB (a : Ag) : Bool := a.fn == (⟨#[99, 111, 117, 110, 116]⟩ : ByteArray)
def badA (a : Ag) : Bool := (!cntB a && !inS known a.fn) || (cntB a == !(a.col == (⟨#[]⟩ : ByteArray)))
theorem bad_1 {a : Ag} {b : Bool} (h1 : (!(a.fn == (⟨#[99, 111, 117, 110, 116]⟩ : ByteArray))) = true) (h : (!inS known a.fn || ((a.fn == (⟨#[99, 111, 117, 110, 116]⟩ : ByteArray)) == !(a.col == (⟨#[]⟩ : ByteArray)))) = b) : badA a = b := by
  unfold badA cntB
  rw [h1]; exact h
theorem bad_2 {a : Ag} {b : Bool} (h1 : (!(a.fn == (⟨#[99, 111, 117, 110, 116]⟩ : ByteArray))) = false) (h : ((a.fn == (⟨#[99, 111, 117, 110, 116]⟩ : ByteArray)) == !(a.col == (⟨#[]⟩ : ByteArray))) = b) : badA a = b := by
  unfold badA cntB
  rw [h1]; exact h
def agg1 (c : List ByteArray) (l : List Ag) (i : Nat) : Int := if badA l[i]! = true then 5 else if (!(l[i]!.col == (⟨#[]⟩ : ByteArray)) && !idB l[i]!.col) = true then 3 else addE (c ++ (l.take i).map Ag.as_) l[i]!.as_
theorem agg_5 {c : List ByteArray} {l : List Ag} {i : Nat} (h : badA l[i]! = true) : agg1 c l i = 5 := by unfold agg1; rw [if_pos h]
theorem agg_3 {c : List ByteArray} {l : List Ag} {i : Nat} (h : badA l[i]! = false) (h2 : (!(l[i]!.col == (⟨#[]⟩ : ByteArray)) && !idB l[i]!.col) = true) : agg1 c l i = 3 := by unfold agg1; rw [if_neg (by rw [h]; simp), if_pos h2]
theorem agg_add {c : List ByteArray} {l : List Ag} {i : Nat} (h : badA l[i]! = false) (h2 : (!(l[i]!.col == (⟨#[]⟩ : ByteArray)) && !idB l[i]!.col) = false) : agg1 c l i = addE (c ++ (l.take i).map Ag.as_) l[i]!.as_ := by unfold agg1; rw [if_neg (by rw [h]; simp), if_neg (by rw [h2]; simp)]
def aggE (c : List ByteArray) (l : List Ag) : Int := fst (agg1 c l) l.length
theorem agg_hit {c : List ByteArray} {l : List Ag} {i : Nat} (hi : i < l.length) (hb : ∀ j, j < i → agg1 c l j = 0) {z : Int} (h : agg1 c l i = z) (hz : z ≠ 0) : aggE c l = z := by unfold aggE; rw [fst_hit hi hb (by rw [h]; exact hz), h]
theorem agg_ok {c : List ByteArray} {l : List Ag} (hb : ∀ j, j < l.length → agg1 c l j = 0) : aggE c l = 0 := fst_none hb
def grpE (s : St) : Int := if s.cl.length + s.al.length = 0 then 8 else if 16 < s.cl.length ∨ 16 < s.al.length then 7 else if allE [] s.cl ≠ 0 then allE [] s.cl else aggE s.cl s.al
theorem grp_8 {s : St} (h : s.cl.length + s.al.length = 0) : grpE s = 8 := by unfold grpE; rw [if_pos h]
theorem grp_7 {s : St} (h : ¬ s.cl.length + s.al.length = 0) (h2 : 16 < s.cl.length ∨ 16 < s.al.length) : grpE s = 7 := by unfold grpE; rw [if_neg h, if_pos h2]
theorem grp_all {s : St} (h : ¬ s.cl.length + s.al.length = 0) (h2 : ¬ (16 < s.cl.length ∨ 16 < s.al.length)) (h3 : allE [] s.cl ≠ 0) : grpE s = allE [] s.cl := by unfold grpE; rw [if_neg h, if_neg h2, if_pos h3]
theorem grp_agg {s : St} (h : ¬ s.cl.length + s.al.length = 0) (h2 : ¬ (16 < s.cl.length ∨ 16 < s.al.length)) (h3 : allE [] s.cl = 0) : grpE s = aggE s.cl s.al := by unfold grpE; rw [if_neg h, if_neg h2, if_neg (by rw [h3]; simp)]
/-! ### Steps -/
def zN (e : E) : Int := if zerB e = true then 0 else 1
theorem zerT {e : E} : zerB e = true ↔ zN e = 0 := by unfold zN; cases zerB e <;> simp
theorem zerF {e : E} : zerB e = false ↔ ¬ zN e = 0 := by unfold zN; cases zerB e <;> simp
def unB (s : St) : Bool := decide ((s.op = 1 ∨ zN s.cd = 0) ∧ (s.op = 2 ∨ s.il.length = 0) ∧ (s.op = 3 ∨ s.al.length = 0) ∧ (s.op = 4 ∨ s.sl.length = 0) ∧ (s.op = 5 ∨ s.N = 0) ∧ ((s.op = 6 ∨ s.op = 7 ∨ s.op = 8) ∨ s.tb.size = 0) ∧ ((s.op = 3 ∨ s.op = 6 ∨ s.op = 7 ∨ s.op = 8 ∨ s.op = 9) ∨ s.cl.length = 0))
def usB (s : St) : Bool := decide (1 ≤ s.op ∧ s.op ≤ 9) && unB s
def szE (s : St) : Int := if (s.op = 2 ∧ s.il.length = 0) ∨ (s.op = 3 ∧ s.cl.length + s.al.length = 0) ∨ (s.op = 4 ∧ s.sl.length = 0) ∨ (s.op = 6 ∧ s.cl.length = 0) then 8 else if 16 < s.il.length ∨ 16 < s.cl.length ∨ 16 < s.al.length ∨ 16 < s.sl.length then 7 else 0
def srt (l : List So) : List ByteArray := l.map So.col
def stpE (s : St) : Int :=
  if usB s = false then 1
  else if s.op = 1 then exE s.cd
  else if s.op = 2 then (if sizE (s.il.length : Int) 1 ≠ 0 then sizE (s.il.length : Int) 1 else itmE s.il)
  else if s.op = 3 then grpE s
  else if s.op = 4 then colE (srt s.sl) 1
  else if s.op = 5 then (if s.N < 0 ∨ 20000 < s.N then 2 else 0)
  else if s.op = 9 then colE s.cl 0
  else if idB s.tb = false then 3
  else colE s.cl (if s.op = 6 then 1 else 0)
theorem short_map {α : Type} [Inhabited α] {f : α → ByteArray} {l : List α} {i m : Nat} (h : ∀ x ∈ l, (f x).size ≤ m) (hm : m ≤ 9223372036854775807) (hi : i < l.length) : shortN ((l.take i).map f ++ [f l[i]!]) := by
  intro x hx
  rcases List.mem_append.1 hx with h1 | h1
  · obtain ⟨y, hy, rfl⟩ := List.mem_map.1 h1
    exact Nat.le_trans (h y (List.mem_of_mem_take hy)) hm
  · rw [List.mem_singleton.1 h1]
    exact Nat.le_trans (h _ (bang_mem hi)) hm
/-! ### The reference's groups and steps -/
def gxE (s : St) (i : Nat) : Int := if allE [] s.cl ≠ 0 then allE [] s.cl else fst (agg1 s.cl s.al) i
theorem gx_zero (s : St) : allE [] s.cl = gxE s 0 := by
  unfold gxE
  split
  · rfl
  · rename_i h; exact Classical.not_not.1 h
theorem gx_node {s : St} {i : Nat} (h : gxE s i = 0) : allE [] s.cl = 0 ∧ fst (agg1 s.cl s.al) i = 0 := by
  unfold gxE at h
  split at h
  · rename_i h1; exact absurd h h1
  · rename_i h1; exact ⟨Classical.not_not.1 h1, h⟩
theorem gx_step {s : St} {i : Nat} (h : gxE s i = 0) : agg1 s.cl s.al i = gxE s (i + 1) := by
  obtain ⟨h1, h2⟩ := gx_node h
  unfold gxE
  rw [if_neg (by rw [h1]; simp)]
  simp only [fst]
  rw [if_neg (by rw [h2]; simp)]
theorem gx_hit {s : St} {i : Nat} (h : gxE s i = 0) (hi : i < s.al.length) {z : Int} (h1 : agg1 s.cl s.al i = z) (hz : z ≠ 0) : gxE s s.al.length = z := by
  obtain ⟨h2, h3⟩ := gx_node h
  unfold gxE
  rw [if_neg (by rw [h2]; simp), fst_hit hi (fst_zero h3) (by rw [h1]; exact hz), h1]
theorem gx_end {s : St} {i : Nat} (hi : i ≤ s.al.length) (h : s.al.length ≤ i ∨ gxE s i ≠ 0) : gxE s i = gxE s s.al.length := by
  rcases h with h | h
  · rw [show i = s.al.length by omega]
  · unfold gxE at h ⊢
    split
    · rfl
    · rename_i h1
      rw [if_neg h1] at h
      exact (fst_keep hi h).symm
theorem known_r {f : ByteArray} : ((((f == (⟨#[115, 117, 109]⟩ : ByteArray)) || (f == (⟨#[109, 105, 110]⟩ : ByteArray))) || (f == (⟨#[109, 97, 120]⟩ : ByteArray))) || (f == (⟨#[102, 105, 114, 115, 116]⟩ : ByteArray))) = inS known f := by
  unfold inS known
  simp only [List.any_cons, List.any_nil, Bool.or_false, Bool.or_assoc]
theorem known_cnt {a : Ag} (h : cntB a = true) : inS known a.fn = false := by
  unfold cntB at h
  rw [beqB_eq.1 h]
  decide +kernel
theorem bad_r {a : Ag} {b k : Bool} (hk : k = inS known a.fn) (h : ((!(a.fn == (⟨#[99, 111, 117, 110, 116]⟩ : ByteArray)) || !(a.col == (⟨#[]⟩ : ByteArray))) && (!k || (a.col == (⟨#[]⟩ : ByteArray)))) = b) : badA a = b := by
  have hc := known_cnt (a := a)
  unfold badA
  subst hk
  change ((!cntB a || !(a.col == (⟨#[]⟩ : ByteArray))) && _) = b at h
  cases h1 : cntB a <;> cases h2 : inS known a.fn <;> cases h3 : (a.col == (⟨#[]⟩ : ByteArray)) <;> rw [h1, h2, h3] at h <;> simp_all
theorem shortN_app {a b c : List ByteArray} (h : shortN a) (h2 : shortN (b ++ c)) : shortN (a ++ b ++ c) := by
  intro x hx
  rw [List.append_assoc] at hx
  rcases List.mem_append.1 hx with h1 | h1
  · exact h x h1
  · exact h2 x h1
def uN (s : St) : Int := if unB s = true then 0 else 1
theorem unT {s : St} : unB s = true ↔ uN s = 0 := by unfold uN; cases unB s <;> simp
theorem unF {s : St} : unB s = false ↔ ¬ uN s = 0 := by unfold uN; cases unB s <;> simp
def rstpE (s : St) : Int :=
  if s.op < 1 ∨ 9 < s.op ∨ ¬ uN s = 0 then 1
  else if (s.op = 6 ∨ s.op = 7 ∨ s.op = 8) ∧ ¬ idN s.tb = 0 then 3
  else if ¬ szE s = 0 then szE s
  else if s.op = 1 then exE s.cd
  else if s.op = 2 then itmE s.il
  else if s.op = 3 then gxE s s.al.length
  else if s.op = 4 then allE [] (srt s.sl)
  else if s.op = 5 then (if s.N < 0 ∨ 20000 < s.N then 2 else 0)
  else allE [] s.cl
theorem shortN_srt {l : List So} (h : ∀ x ∈ l, x.col.size ≤ 9223372036854775807) : shortN (srt l) := by
  intro x hx
  obtain ⟨y, hy, rfl⟩ := List.mem_map.1 hx
  exact h y hy
end Sx
end Go.Proofs.Ytklccakoblibmaa
