/- Ranges over functions: code within a round, the statement, the function's way out. Over any program. Conditions: none. -/
import Derived.Test.YtghfncgciaiofaaDoorMix
import Derived.RangeFuncNested
import Derived.RangeFuncLeaves
import Derived.OrdersIn
import Derived.TacticsIn
namespace Go.Eng
open Go Go.RowKit

/-! ### Operations that neither call nor defer -/
def plainO (o : Oper) : Bool := match o.op with
  | .move _ | .assign _ | .pick .. | .alloc _ | .box .. | .build .. | .load .. | .store .. | .binOp .. | .unOp .. | .fieldAddr .. | .indexAddr .. | .extract .. | .slice .. | .index .. => true
  | _ => false
section plain
variable {P : Program}
theorem val_run {s : Sem Value} {w w' : World} {r : Next} (h : (do pure (Next.value (← s)) : Sem Next).run P w = .ok r w') : ∃ v, r = .value v := by
  rw [Sem.run_bind] at h
  cases hs : s.run P w with
  | ok v w1 => rw [hs] at h; simp [Result.andThen] at h; exact ⟨v, h.1.symm⟩
  | halt x w1 => rw [hs] at h; simp [Result.andThen] at h
theorem skip_run {s : Sem Unit} {w w' : World} {r : Next} (h : (do s; pure Next.skip : Sem Next).run P w = .ok r w') : r = .skip := by
  rw [Sem.run_bind] at h
  cases hs : s.run P w with
  | ok v w1 => rw [hs] at h; simp [Result.andThen] at h; exact h.1.symm
  | halt x w1 => rw [hs] at h; simp [Result.andThen] at h
theorem pure_run {w w' : World} {v : Value} {r : Next} (h : (pure (Next.value v) : Sem Next).run P w = .ok r w') : ∃ v, r = .value v := by
  simp at h; exact ⟨v, h.1.symm⟩
theorem pick_run {s : Sem Bool} {x y : Value} {w w' : World} {r : Next} (h : (do pure (Next.value (if (← s) then x else y)) : Sem Next).run P w = .ok r w') : ∃ v, r = .value v := by
  rw [Sem.run_bind] at h
  cases hs : s.run P w with
  | ok v w1 => rw [hs] at h; simp [Result.andThen] at h; exact ⟨_, h.1.symm⟩
  | halt x w1 => rw [hs] at h; simp [Result.andThen] at h
theorem plain_result {o : Oper} (h : plainO o = true) {ρ : Operand → Value} {w w' : World} {r : Next} (hr : (execOp ρ o).run P w = .ok r w') : (∃ v, r = .value v) ∨ r = .skip := by
  unfold execOp at hr
  unfold plainO at h
  cases ho : o.op <;> rw [ho] at h hr <;> first
    | exact .inl (pure_run hr)
    | exact .inl (val_run hr)
    | exact .inl (pick_run hr)
    | exact .inr (skip_run hr)
    | exact absurd h (by simp)
theorem plain_nodefer {o : Oper} (h : plainO o = true) : ∀ c, o.op ≠ .defer c := by
  intro c e
  unfold plainO at h
  rw [e] at h; cases h
section into
variable {F : Fence} {m : Nat} {Q : Exit → Act → World → Prop}
theorem opIn_of (hf : ∀ f, F.fn f) (hQ : ∀ a w, ¬ Q .outgrown a w) {o : Oper} (hp : plainO o = true) {a : Act} {w : World} {K : Act → World → Prop} (h : o.wp P a w K Q ∨ (o.asks P a w ∧ LetsOut Q)) : o.wpIn F m P a w K Q := by
  rcases h with h | ⟨_, a', w', hq⟩
  · refine ⟨fun f _ => hf f, ?_⟩
    rw [Oper.semAt_eq _ _ _ (plain_nodefer hp)]
    unfold Oper.wp at h
    cases hr : (execOp a.eval o).run P w with
    | ok r w1 =>
      rw [hr] at h
      rcases plain_result hp hr with ⟨v, rfl⟩ | rfl <;> exact h
    | halt x w1 =>
      rw [hr] at h
      cases x <;> exact h
  · exact absurd hq (hQ _ _)
theorem listIn_of (hf : ∀ f, F.fn f) (hQ : ∀ a w, ¬ Q .outgrown a w) {ops : Array Oper} : ∀ {l : List Oper} (a : Act) (w : World), (l.all plainO) = true → wpList P ops Q l a w → wpListIn F m P ops Q l a w
  | [], _, _, _, h => h
  | o :: r, a, w, hp, h => by
    simp only [List.all_cons, Bool.and_eq_true] at hp
    unfold wpList at h
    unfold wpListIn
    split
    · rename_i hw
      rw [if_pos hw] at h
      refine Oper.wpIn_mono (fun a w => listIn_of hf hQ a w hp.2) (opIn_of hf hQ hp.1 h)
    · rename_i hw
      rw [if_neg hw] at h
      exact ⟨fun f _ => hf f, listIn_of hf hQ _ _ hp.2 h⟩
theorem anyIn_of (hf : ∀ f, F.fn f) (hQ : ∀ a w, ¬ Q .outgrown a w) {ops : Array Oper} (hp : ∀ (i : Nat) (o : Oper), ops[i]? = some o → plainO o = true) : ∀ (k : Nat) (listed : Array Bool) (a : Act) (w : World), wpAny P .any ops Q k listed a w → wpAnyIn F m P .any ops Q k listed a w
  | 0, _, _, _, h => h
  | k + 1, listed, a, w, h => by
    refine ⟨h.1, fun i hi => ?_⟩
    have h1 := h.2 i hi
    unfold wpOp at h1
    unfold wpOpIn
    cases ho : ops[i]? with
    | none =>
      simp only [ho] at h1 ⊢
      exact anyIn_of hf hQ hp k _ a w h1
    | some o =>
      simp only [ho] at h1 ⊢
      split
      · rename_i hw
        rw [if_pos hw] at h1
        exact Oper.wpIn_mono (fun a w => anyIn_of hf hQ hp k _ a w) (opIn_of hf hQ (hp i o ho) h1)
      · rename_i hw
        rw [if_neg hw] at h1
        exact ⟨fun f _ => hf f, anyIn_of hf hQ hp k _ _ _ h1⟩
end into
/-! The same, with deferred calls beside. -/
theorem wpList_defers {ops : Array Oper} {Q : Exit → Act → World → Prop} (D : List Deferred) : ∀ {l : List Oper} (a : Act) (w : World), (l.all plainO) = true → wpList P ops (fun e a w => Q e { a with defers := D } w) l a w → wpList P ops Q l { a with defers := D } w
  | [], _, _, _, h => h
  | o :: r, a, w, hp, h => by
    simp only [List.all_cons, Bool.and_eq_true] at hp
    unfold wpList at h ⊢
    have hput : ∀ v, ({ a with defers := D } : Act).put o.dst v = { (a.put o.dst v) with defers := D } := fun v => by unfold Act.put; cases o.dst <;> rfl
    have heval : ({ a with defers := D } : Act).eval = a.eval := by funext x; cases x <;> rfl
    split
    · rename_i hw
      rw [if_pos hw] at h
      rcases h with h | ⟨h, a', w', hq⟩
      · refine .inl ?_
        unfold Oper.wp at h ⊢
        rw [heval]
        cases hr : (execOp a.eval o).run P w with
        | ok r' w1 =>
          rw [hr] at h
          rcases plain_result hp.1 hr with ⟨v, rfl⟩ | rfl
          · show wpList P ops Q r (({ a with defers := D } : Act).put o.dst v) w1
            rw [hput]; exact wpList_defers D _ _ hp.2 h
          · show wpList P ops Q r (({ a with defers := D } : Act).put o.dst undef) w1
            rw [hput]; exact wpList_defers D _ _ hp.2 h
        | halt x w1 =>
          rw [hr] at h
          cases x <;> exact h
      · exact .inr ⟨by unfold Oper.asks at h ⊢; rw [heval]; exact h, _, _, hq⟩
    · rename_i hw
      rw [if_neg hw] at h
      rw [hput]; exact wpList_defers D _ _ hp.2 h
end plain

/-! ### Code within a round -/
def WCi (l : Nat) (P : Program) (n : Nat) (c : Code) (Q : Exit → Act → World → Prop) (E : Env) (w : World) : Prop := ∀ a, Ok n E a → c.wpIn (Fence.wide.inRound l) 1 P Q a w
section code
variable {l : Nat} {P : Program} {n : Nat} {Q : Exit → Act → World → Prop} {E : Env} {w : World}
theorem WCi.seq {x y : Code} (h : ∀ K : Act → World → Prop, (∀ E w, WCi l P n y Q E w → WK n K E w) → WCi l P n x (Exit.then K Q) E w) : WCi l P n (.seq x y) Q E w := by
  intro a ha
  refine wpIn_seq ?_
  exact h (fun a w => y.wpIn (Fence.wide.inRound l) 1 P Q a w) (fun E w hc a ha => hc a ha) a ha
theorem WCi.skip (h : WK n (Q .normal) E w) : WCi l P n .skip Q E w := fun a ha => wpIn_skip (h a ha)
theorem WCi.ret (h : WK n (Q .ret) E w) : WCi l P n .ret Q E w := fun a ha => wpIn_ret (h a ha)
theorem WCi.exit {id : Nat} (h : WK n (Q (.exit id)) E w) : WCi l P n (.exit id) Q E w := fun a ha => wpIn_exit (h a ha)
theorem WCi.block {id : Nat} {c : Code} (h : WCi l P n c (Exit.inBlock id Q) E w) : WCi l P n (.block id c) Q E w := fun a ha => wpIn_block (h a ha)
theorem WCi.cond {c : Operand} {x y : Code} {b : Bool} (hc : ev E c = some (.bool b)) (ht : b = true → WCi l P n x Q E w) (hf : b = false → WCi l P n y Q E w) : WCi l P n (.cond c x y) Q E w := by
  intro a ha
  cases b with
  | true => exact wpIn_cond_true (ha.ev hc) (ht rfl a ha)
  | false => exact wpIn_cond_false (ha.ev hc) (hf rfl a ha)
theorem WCi.sub {c : Code} (E' : Env) (hs : Sub E' E) (h : WCi l P n c Q E' w) : WCi l P n c Q E w := fun a ha => h a (ha.sub hs)
theorem WCi.region {id : Nat} {q q' : List Oper} (hQ : ∀ a w, ¬ Q .outgrown a w) (hp : (q.all plainO) = true) (hl : q = q') (h : WL P n q.toArray Q q' E w) : WCi l P n (.region id q.toArray false) Q E w := by
  subst hl
  exact fun a ha => wpIn_region_lit (listIn_of (fun _ => trivial) hQ a w hp (h a ha))
theorem WCi.regionT {id : Nat} {q : List Oper} (m : Nat) (hQ : ∀ a w, ¬ Q .outgrown a w) (hp : (q.all plainO) = true) (hm : P.follows .mixedOrders = true) (hB : tailB q m = true)
    (h : WQ P n (q.take m).toArray (Ext w) (fun a' => ∀ w', Ext w w' → wpList P q.toArray Q (q.drop m) a' w') (q.take m) E) : WCi l P n (.region id q.toArray true) Q E w := fun a ha =>
  wpIn_region_any hm (anyIn_of (fun _ => trivial) hQ (fun i o ho => List.all_eq_true.1 hp o (by simpa using Array.mem_of_getElem? ho)) _ _ a _ (any_region_tail hB ((Ext.refl w).drawn (Nat.le_succ _)) (h a ha)))
theorem WCi.regionX {id : Nat} {q : List Oper} (hQ : ∀ a w, ¬ Q .outgrown a w) (hp : (q.all plainO) = true) (C : World → Prop) (seq : Ord) (_hC : C w) (hm : P.follows .mixedOrders = true) (hB : mixQ q seq = true)
    (h : ∀ w1, Ext w w1 → WX P n q.toArray C (Q .normal) seq E w1) : WCi l P n (.region id q.toArray true) Q E w := fun a ha =>
  wpIn_region_any hm (anyIn_of (fun _ => trivial) hQ (fun i o ho => List.all_eq_true.1 hp o (by simpa using Array.mem_of_getElem? ho)) _ _ a _ (any_region_mix seq (mixB_of hB) (h _ ((Ext.refl w).drawn (Nat.le_succ _)) a ha)))
end code

/-! ### What is no cells stays -/
theorem Ext.others {w w' : World} (x : Ext w w') : KeepsOthers w w' := ⟨x.size, fun k o hk _ => (x.block k (Array.getElem?_eq_some_iff.1 hk).1).trans hk⟩
theorem Only.others {g : Nat} {w w' : World} {t : TypeId} {cs : List Value} (x : Only g w w') (h : Blk w g t cs) : KeepsOthers w w' := ⟨by rw [x.size]; exact Nat.le_refl _, fun k o hk ho => by
  by_cases e : k = g
  · subst e
    unfold Blk at h
    rw [h] at hk; cases hk; cases ho
  · exact (x.block k e).trans hk⟩

/-! ### The statement -/
def mrk (D : Nat) : List Deferred := [{ target := .collected D, args := #[] }]
/-- How a round's body may be left: off its end, or by 'ret'. -/
def roundQ {α : Type} (I : List α → World → Prop) (X : List α → World → Prop) (xs : List α) (W : World) : Exit → Act → World → Prop
  | .normal, _, W' => Ext W W' ∧ I xs W'
  | .ret, _, W' => KeepsOthers W W' ∧ X xs W'
  | _, _, _ => False
theorem roundQ_out {α : Type} {I X : List α → World → Prop} {xs : List α} {W : World} : ∀ a w, ¬ roundQ I X xs W .outgrown a w := fun _ _ h => h
section stmt
variable {P : Program} {n : Nat} {Q : Exit → Act → World → Prop} {E : Env} {w : World}
theorem Ok.set2 {a : Act} (h : Ok n E a) {p q : Nat} (hp : p < n) (hq : q < n) (u v : Value) : Ok n ((q, v) :: (p, u) :: E) { tmps := (#[p, q].zip #[u, v]).foldl (fun t (x : Nat × Value) => t.setIfInBounds x.1 x.2) a.tmps, defers := [] } := by
  have h1 := (h.put hp u).put hq v
  have e : ((a.put (some p) u).put (some q) v) = { tmps := (#[p, q].zip #[u, v]).foldl (fun t (x : Nat × Value) => t.setIfInBounds x.1 x.2) a.tmps, defers := [] } := by
    unfold Act.put
    simp [h.defers]
  rw [← e]; exact h1
theorem WC.seqT {x y : Code} (h : WC P n x (Exit.then (fun a w => y.wp P Q a w) Q) E w) : WC P n (.seq x y) Q E w := fun a ha => wp_seq (h a ha)
/-- 'for p, q := range g { .. }', over an iterator of two values. -/
theorem WC.range2 {α : Type} {id p q : Nat} {g : Operand} {assign body : Code} {gf : Nat} {lb : Array Value} (hg : ev E g = some (.func (.func gf) #[] lb)) (eg : ∀ args w, (callFunc gf args).run P w = .ok (.enter gf args) w) (hp : p < n) (hq : q < n)
    {e1 e2 : α → Value} {S Sp : List α → Prop} {N : Nat} (hseq : SeqStopsK Fence.wide 2 P gf lb (fun x => #[e1 x, e2 x]) (Below w.heap.size) S Sp N w)
    (I X : List α → World → Prop) (R : α → Env → World → Prop) (hI : OwnFrom w.heap.size I) (hX : OwnFrom w.heap.size X) (hR : ∀ x E', OwnFrom w.heap.size (fun (_ : Unit) W => R x E' W)) (h0 : I [] w) (hw : ∀ pre W, I pre W → w.heap.size ≤ W.heap.size)
    (hIe : ∀ pre W W', I pre W → Ext W W' → I pre W')
    (hassign : ∀ l pre x W, I pre W → WCi l P n assign (Exit.then (fun a' W' => ∃ E', R x E' W' ∧ Ext W W' ∧ Ok n E' a') (fun _ _ _ => False)) ((q, e2 x) :: (p, e1 x) :: E) W)
    (hbody : ∀ l pre x E' W, I pre W → R x E' W → pre.length < N → WCi l P n body (roundQ I X (pre ++ [x]) W) E' W)
    (hdone : ∀ D xs W, w.heap.size ≤ D → S xs → I xs W → W.heap[D]? = some (.deferred (some [])) → ∀ a, Ok n E a → Q .normal { a with defers := mrk D } W)
    (hstop : ∀ D pre W, w.heap.size ≤ D → Sp pre → X pre W → W.heap[D]? = some (.deferred (some [])) → ∀ a, Ok n E a → Q .ret { a with defers := mrk D } W) :
    WC P n (.block id (.rangeFunc g #[p, q] assign body)) Q E w := by
  intro a ha
  refine wpIn_wide (n := 3) |>.1 (wpIn_block ?_)
  refine wpIn_rangeFunc_ownH (F := Fence.wide) rfl (by decide) (ha.ev hg) trivial eg hseq belowK_t (belowK_b (Nat.le_refl _)) (Below.refl _ _) (fun _ => rfl) I (fun c xs W => c = .ret ∧ X xs W) hI
    (fun c s W W' row hs hg hr => ⟨hs.1, hX s W W' row hs.2 hg hr⟩) h0 (fun x a' W => ∃ E', R x E' W ∧ Ok n E' a') (fun x a' s W W' row hs hg hr => by obtain ⟨E', h1, h2⟩ := hs; exact ⟨E', hR x E' () W W' row h1 hg hr, h2⟩) ?_ ?_ ?_ ?_
  · intro l pre x W K hi hK
    have h1 := hassign l pre x W hi _ (ha.set2 hp hq (e1 x) (e2 x))
    refine Code.wpIn_mono (fun e a' W' hq' => ?_) h1
    cases e with
    | normal =>
      obtain ⟨E', h2, h3, h4⟩ := hq'
      exact hK a' W' (h3.others.from _) (Below.mono h3.toBelow (hw pre W hi)) (hIe pre W W' hi h3) ⟨E', h2, h4⟩
    | exit id => exact hq'.elim
    | goto t => exact hq'.elim
    | ret => exact hq'.elim
    | panic ch => exact hq'.elim
    | outgrown => exact hq'.elim
  · intro l pre x a' W _ _ hi hA hlt
    obtain ⟨E', h1, h2⟩ := hA
    refine Code.wpIn_mono (fun e a' W' hq' => ?_) (hbody l pre x E' W hi h1 hlt a' h2)
    cases e with
    | normal => exact ⟨hq'.1.others.from _, Below.mono hq'.1.toBelow (hw pre W hi), hq'.2⟩
    | ret => exact ⟨hq'.1.from _, rfl, hq'.2⟩
    | exit id => exact hq'.elim
    | goto t => exact hq'.elim
    | panic ch => exact hq'.elim
    | outgrown => exact hq'.elim
  · intro D xs W hD hS hi hd
    have := hdone D xs W hD hS hi hd a ha
    rw [show ({ a with defers := mrk D } : Act) = { a with defers := { target := .collected D, args := #[] } :: a.defers } by rw [ha.defers]; rfl] at this
    exact this
  · rintro D c pre W hD hS ⟨rfl, hx⟩ hd
    have := hstop D pre W hD hS hx hd a ha
    rw [show ({ a with defers := mrk D } : Act) = { a with defers := { target := .collected D, args := #[] } :: a.defers } by rw [ha.defers]; rfl] at this
    exact wpIn_ret this
/-- A region and a return behind the statement. -/
theorem wp_tail_ret {id : Nat} {q q' : List Oper} {D : Nat} (hp : (q.all plainO) = true) (hl : q = q') (h : WL P n q.toArray (fun e a w => Exit.then (fun a w => Code.ret.wp P Q a w) Q e { a with defers := mrk D } w) q' E w) : ∀ a, Ok n E a → (Code.seq (.region id q.toArray false) .ret).wp P Q { a with defers := mrk D } w := by
  subst hl
  exact fun a ha => wp_seq (wp_region_lit (wpList_defers _ a w hp (h a ha)))
/-- A region behind the statement. -/
theorem wp_tail {id : Nat} {q q' : List Oper} {D : Nat} (hp : (q.all plainO) = true) (hl : q = q') (h : WL P n q.toArray (fun e a w => Q e { a with defers := mrk D } w) q' E w) : ∀ a, Ok n E a → (Code.region id q.toArray false).wp P Q { a with defers := mrk D } w := by
  subst hl
  exact fun a ha => wp_region_lit (wpList_defers _ a w hp (h a ha))

/-! ### The function's way out -/
theorem calls_of_WCm {m : Nat} {f : FuncId} {fn : Func} {c : Code} {args : List Value} {R : Ending → World → Prop} (hf : P.funcs[f]? = some fn) (hb : fn.body = some c) (hn : fn.ntmps = n) (hl : args.length ≤ n)
    (h : WC P n c (bodyPostM Fence.wide m P fn R) (params 0 args) w) : Calls P f args.toArray w R :=
  callsIn_wide.1 (callsIn_of_wp_marks hf hb trivial (wpIn_wide.2 (by rw [hn]; exact h _ (ok_params args hl))))
theorem WK.retM {m : Nat} {fn : Func} {R : Ending → World → Prop} {rs : List ResultVar} (vs : List Value) (hr : fn.results = rs.toArray) (h : resOk P w E rs vs) (hR : R (.returned (resVal vs)) w) : WK n (bodyPostM Fence.wide m P fn R .ret) E w := fun a ha => by
  show LeavesInM Fence.wide m P fn a.tmps R a.defers .returning w
  rw [ha.defers]
  exact ⟨_, run_results ha hr h, hR⟩
theorem leave_mark {m D : Nat} {fn : Func} {R : Ending → World → Prop} {rs : List ResultVar} {a : Act} (vs : List Value) (hd : w.heap[D]? = some (.deferred (some []))) (hr : fn.results = rs.toArray) (ha : Ok n E a) (h : resOk P (w.putObj D (.deferred none)) E rs vs) (hR : R (.returned (resVal vs)) (w.putObj D (.deferred none))) :
    LeavesInM Fence.wide m P fn a.tmps R (mrk D) .returning w :=
  ⟨by simp, .inl ⟨D, _, rfl, run_takeDeferred hd, ⟨_, run_results ha hr h, hR⟩⟩⟩
theorem Blk.put_ {g D : Nat} {t : TypeId} {cs : List Value} {o : Obj} (h : Blk w g t cs) (hd : w.heap[D]? = some (.deferred (some []))) : Blk (w.putObj D o) g t cs := by
  have hne : g ≠ D := by rintro rfl; unfold Blk at h; rw [h] at hd; cases hd
  exact (World.putObj_heap_other hne).trans h
theorem Ext.put_ {w0 : World} {D : Nat} {o : Obj} (h : Ext w0 w) (hD : w0.heap.size ≤ D) : Ext w0 (w.putObj D o) :=
  Ext.of (h.toBelow.grown (grownBy_putObj' w D o) h.size fun k e => by cases e; exact hD)
end stmt
/-! ### What the caller's words abide -/
theorem own_ext {w0 : World} {B : Nat} (h : w0.heap.size ≤ B) {W W' : World} {row : Option Nat} (hs : Ext w0 W) (hg : W.grownBy W' row) (hr : ∀ r, row = some r → B ≤ r ∧ ∃ o : Obj, W.heap[r]? = some o ∧ o.isCells = false) : Ext w0 W' :=
  Ext.of (hs.toBelow.grown hg hs.size fun k e => Nat.le_trans h (hr k e).1)
theorem own_blk {B g : Nat} {t : TypeId} {cs : List Value} {W W' : World} {row : Option Nat} (hs : Blk W g t cs) (hg : W.grownBy W' row) (hr : ∀ r, row = some r → B ≤ r ∧ ∃ o : Obj, W.heap[r]? = some o ∧ o.isCells = false) : Blk W' g t cs := by
  refine (hg.block g hs.lt fun e => ?_).trans hs
  obtain ⟨_, o, ho, hc⟩ := hr g e.symm
  unfold Blk at hs
  rw [hs] at ho; cases ho; cases hc
theorem ne_obj {w : World} {D b : Nat} {d : Option (List Deferred)} {t : TypeId} {cs : List Value} (hd : w.heap[D]? = some (.deferred d)) (m : Blk w b t cs) : D ≠ b := by
  rintro rfl
  unfold Blk at m
  rw [m] at hd; cases hd
theorem obj_only {w w' : World} {D b : Nat} {d : Option (List Deferred)} {t : TypeId} {cs : List Value} (hd : w.heap[D]? = some (.deferred d)) (m : Blk w b t cs) (x : Only b w w') : w'.heap[D]? = some (.deferred d) := (x.block D (ne_obj hd m)).trans hd
section ends
variable {n : Nat} {E : Env} {w W : World} {α : Type}
theorem WK.assigned {R : Env → World → Prop} (E' : Env) (hs : Sub E' E) (hR : R E' w) (hx : Ext W w) : WK n (fun a' W' => ∃ E', R E' W' ∧ Ext W W' ∧ Ok n E' a') E w := fun _ ha => ⟨E', hR, hx, ha.sub hs⟩
theorem WK.rnd_normal {I X : List α → World → Prop} {xs : List α} (hx : Ext W w) (h : I xs w) : WK n (roundQ I X xs W .normal) E w := fun _ _ => ⟨hx, h⟩
theorem WK.rnd_ret {I X : List α → World → Prop} {xs : List α} (hx : KeepsOthers W w) (h : X xs w) : WK n (roundQ I X xs W .ret) E w := fun _ _ => ⟨hx, h⟩
theorem no_snoc {p : α → Prop} {pre : List α} {x : α} (h : ∀ k ∈ pre, ¬ p k) (hx : ¬ p x) : ∀ k ∈ pre ++ [x], ¬ p k := fun k hk => by
  rcases List.mem_append.1 hk with hk | hk
  · exact h k hk
  · rw [List.mem_singleton.1 hk]; exact hx
end ends
end Go.Eng
