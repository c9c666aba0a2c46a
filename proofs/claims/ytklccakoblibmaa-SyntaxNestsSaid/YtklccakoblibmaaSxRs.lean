/- Contracts: the reference of sameness. Conditions: what each theorem states. -/
import Derived.Test.YtklccakoblibmaaSxAl
namespace Go.Proofs.Ytklccakoblibmaa
open Go Go.Eng Go.RowKit
set_option linter.unusedVariables false
set_option linter.unusedSimpArgs false
namespace SxW
open B C D E G S T U V
namespace W
theorem ti3 : TI Try.prog 3 (.int .i64 0) 1 8 := TI.mk (by kernel_rfl)
theorem ti9 : TI Try.prog 9 (.string ⟨#[]⟩) 1 16 := TI.mk (by kernel_rfl)
theorem ti22 : TI Try.prog 22 (.int .i64 0) 1 8 := TI.mk (by kernel_rfl)
theorem ti25 : TI Try.prog 25 (.agg #[.int .i64 0, .int .i64 0, .string ⟨#[]⟩]) 3 32 := TI.mk (by kernel_rfl)
theorem ti26 : TI Try.prog 26 (.slice none 0 0) 1 24 := TI.mk (by kernel_rfl)
theorem ti28 : TI Try.prog 28 (.agg #[.int .i64 0, .string ⟨#[]⟩, .int .i64 0, .int .i64 0, .string ⟨#[]⟩, .slice none 0 0]) 6 80 := TI.mk (by kernel_rfl)
theorem ti34 : TI Try.prog 34 (.slice none 0 0) 1 24 := TI.mk (by kernel_rfl)
theorem ti36 : TI Try.prog 36 (.int .i64 0) 1 8 := TI.mk (by kernel_rfl)
theorem ti37 : TI Try.prog 37 (.slice none 0 0) 1 24 := TI.mk (by kernel_rfl)
theorem ti38 : TI Try.prog 38 (.slice none 0 0) 1 24 := TI.mk (by kernel_rfl)
theorem ti39 : TI Try.prog 39 (.slice none 0 0) 1 24 := TI.mk (by kernel_rfl)
theorem ti41 : TI Try.prog 41 (.agg #[.int .i64 0, .int .i64 0, .string ⟨#[]⟩, .int .i64 0, .int .i64 0, .string ⟨#[]⟩, .slice none 0 0, .slice none 0 0, .slice none 0 0, .slice none 0 0, .slice none 0 0, .int .i64 0, .string ⟨#[]⟩]) 13 208 := TI.mk (by kernel_rfl)
theorem ti44 : TI Try.prog 44 (.slice none 0 0) 1 24 := TI.mk (by kernel_rfl)
theorem ti55 : TI Try.prog 55 (.agg #[.string ⟨#[]⟩, .string ⟨#[]⟩, .string ⟨#[]⟩]) 3 48 := TI.mk (by kernel_rfl)
theorem ti65 : TI Try.prog 65 (.agg #[.int .i64 0, .string ⟨#[]⟩, .int .i64 0, .int .i64 0, .string ⟨#[]⟩, .slice none 0 0, .string ⟨#[]⟩]) 7 96 := TI.mk (by kernel_rfl)
theorem ti69 : TI Try.prog 69 (.agg #[.string ⟨#[]⟩, .bool false]) 2 24 := TI.mk (by kernel_rfl)
theorem has13 : Has Try.prog 13 := ⟨_, Try.func13, rfl, by kernel_rfl⟩
theorem has50 : Has Try.prog 50 := ⟨_, Try.func50, rfl, by kernel_rfl⟩
theorem has69 : Has Try.prog 69 := ⟨_, Try.func69, rfl, by kernel_rfl⟩
theorem eqg25 : Try.prog.eqGuardType Try.prog.depth 25 = false := by kernel_rfl
theorem eq25 (a0 : Int) (a1 : Int) (a2 : ByteArray) (b0 : Int) (b1 : Int) (b2 : ByteArray) (w : World) : (Op.equalIn 10000 25 (.agg #[.int .i64 a0, .int .i64 a1, .string a2]) (.agg #[.int .i64 b0, .int .i64 b1, .string b2])).run Try.prog w = .ok ((a0 == b0) && (a1 == b1) && (a2 == b2)) w := by
  go_simp
  (repeat' split) <;> simp_all [beq_toListBytes]
theorem eqg55 : Try.prog.eqGuardType Try.prog.depth 55 = false := by kernel_rfl
theorem eq55 (a0 : ByteArray) (a1 : ByteArray) (a2 : ByteArray) (b0 : ByteArray) (b1 : ByteArray) (b2 : ByteArray) (w : World) : (Op.equalIn 10000 55 (.agg #[.string a0, .string a1, .string a2]) (.agg #[.string b0, .string b1, .string b2])).run Try.prog w = .ok ((a0 == b0) && (a1 == b1) && (a2 == b2)) w := by
  go_simp
  (repeat' split) <;> simp_all [beq_toListBytes]
theorem eqg69 : Try.prog.eqGuardType Try.prog.depth 69 = false := by kernel_rfl
theorem eq69 (a0 : ByteArray) (a1 : Bool) (b0 : ByteArray) (b1 : Bool) (w : World) : (Op.equalIn 10000 69 (.agg #[.string a0, .bool a1]) (.agg #[.string b0, .bool b1])).run Try.prog w = .ok ((a0 == b0) && (a1 == b1)) w := by
  go_simp
  (repeat' split) <;> simp_all [beq_toListBytes]
theorem rsameE_any : ∀ (d_x : Nat) (d_y : Nat) (x y : Sx.E) (w : World), Sx.Good d_x w x → Sx.Good d_y w y → 
    Calls Try.prog 69 #[.agg #[.int .i64 x.op, .string x.nm, .int .i64 x.vk, .int .i64 x.vn, .string x.vs, .slice x.A x.n x.c], .agg #[.int .i64 y.op, .string y.nm, .int .i64 y.vk, .int .i64 y.vn, .string y.vs, .slice y.A y.n y.c]] w fun e w' => e = .returned (.bool (Sx.same x y)) ∧ Ext w w' := by
  intro d_x
  induction d_x using Nat.strongRecOn
  rename_i d_x ih
  intro d_y x y w g_x g_y
  have xW := Ext.refl w
  have h_x := g_x.ls
  have e_x := h_x.len
  have z_x := h_x.nle
  have h_y := g_y.ls
  have e_y := h_y.len
  have z_y := h_y.nle
  refine calls_of_WC (args := [.agg #[.int .i64 x.op, .string x.nm, .int .i64 x.vk, .int .i64 x.vn, .string x.vs, .slice x.A x.n x.c], .agg #[.int .i64 y.op, .string y.nm, .int .i64 y.vk, .int .i64 y.vn, .string y.vs, .slice y.A y.n y.c]]) Try.func69 rfl rfl (ble rfl) ?_
  refine WC.seq (fun K1 k1 => ?_)
  refine WC.region rfl ?_
  refine WL.box rfl (blt rfl) rfl rfl rfl rfl ?_
  intro g2 w3 e4 x5 m6
  have o_g2 := own_new xW e4
  have xW := Ext.trans xW x5
  refine WL.box rfl (blt rfl) rfl rfl rfl rfl ?_
  intro g7 w8 e9 x10 m11
  have n_g2_g7 := ne_new m6 e9
  have o_g7 := own_new xW e9
  have m6 := m6.ext x10
  have xW := Ext.trans xW x10
  refine WL.yld rfl (blt rfl) rfl (Y.assign rfl rfl) ?_
  refine WL.nil ?_
  refine WK.then_normal (k1 _ _ ?_)
  refine WC.sub [(2, _), (3, _)] ⟨rfl, rfl, trivial⟩ ?_
  refine WC.seq (fun K12 k12 => ?_)
  refine WC.seq (fun K13 k13 => ?_)
  refine WC.region rfl ?_
  refine WL.yld rfl (blt rfl) rfl (Y.fieldAddr rfl Try.underlying28 rfl ti22 (by decide) rfl) ?_
  refine WL.yld rfl (blt rfl) rfl (Y.load1 rfl Try.underlying22 rfl rfl (Blk.at_eq m6 rfl)) ?_
  refine WL.yld rfl (blt rfl) rfl (Y.fieldAddr rfl Try.underlying28 rfl ti22 (by decide) rfl) ?_
  refine WL.yld rfl (blt rfl) rfl (Y.load1 rfl Try.underlying22 rfl rfl (Blk.at_eq m11 rfl)) ?_
  refine WL.yld rfl (blt rfl) rfl (Y.neq rfl rfl rfl) ?_
  refine WL.yld rfl (blt rfl) rfl (Y.move rfl rfl) ?_
  refine WL.yldG rfl (blt rfl) rfl rfl rfl (fun hb => Y.fieldAddr rfl Try.underlying28 rfl ti9 (by decide) rfl) ?_
  refine WL.yldG rfl (blt rfl) rfl rfl rfl (fun hb => Y.load1 rfl Try.underlying9 rfl (evg rfl hb) (Blk.at_eq m6 rfl)) ?_
  refine WL.yldG rfl (blt rfl) rfl rfl rfl (fun hb => Y.fieldAddr rfl Try.underlying28 rfl ti9 (by decide) rfl) ?_
  refine WL.yldG rfl (blt rfl) rfl rfl rfl (fun hb => Y.load1 rfl Try.underlying9 rfl (evg rfl hb) (Blk.at_eq m11 rfl)) ?_
  refine WL.yldG rfl (blt rfl) rfl rfl rfl (fun hb => Y.neqStr rfl (evg rfl hb) (evg rfl hb)) ?_
  refine WL.yld rfl (blt rfl) rfl (Y.or rfl rfl rfl rfl) ?_
  refine WL.yld rfl (blt rfl) rfl (Y.move rfl rfl) ?_
  refine WL.yldG rfl (blt rfl) rfl rfl rfl (fun hb => Y.fieldAddr rfl Try.underlying28 rfl ti25 (by decide) rfl) ?_
  refine WL.yldG rfl (blt rfl) rfl rfl rfl (fun hb => Y.loadS (cs := [_, _, _]) rfl Try.underlying25 rfl ti25 (evg rfl hb) (Blk.part_eq m6 rfl)) ?_
  refine WL.yldG rfl (blt rfl) rfl rfl rfl (fun hb => Y.fieldAddr rfl Try.underlying28 rfl ti25 (by decide) rfl) ?_
  refine WL.yldG rfl (blt rfl) rfl rfl rfl (fun hb => Y.loadS (cs := [_, _, _]) rfl Try.underlying25 rfl ti25 (evg rfl hb) (Blk.part_eq m11 rfl)) ?_
  refine WL.yldG rfl (blt rfl) rfl rfl rfl (fun hb => Y.neqS rfl eqg25 (eq25 _ _ _ _ _ _) (evg rfl hb) (evg rfl hb)) ?_
  refine WL.yld rfl (blt rfl) rfl (Y.or rfl rfl rfl rfl) ?_
  refine WL.yld rfl (blt rfl) rfl (Y.move rfl rfl) ?_
  refine WL.yldG rfl (blt rfl) rfl rfl rfl (fun hb => Y.fieldAddr rfl Try.underlying28 rfl ti26 (by decide) rfl) ?_
  refine WL.yldG rfl (blt rfl) rfl rfl rfl (fun hb => Y.load1 rfl Try.underlying26 rfl (evg rfl hb) (Blk.at_eq m6 rfl)) ?_
  refine WL.yldG rfl (blt rfl) rfl rfl rfl (fun hb => Y.lenSl rfl rfl rfl Try.underlying26 (evs_cons (evg rfl hb) evs_nil)) ?_
  refine WL.yldG rfl (blt rfl) rfl rfl rfl (fun hb => Y.fieldAddr rfl Try.underlying28 rfl ti26 (by decide) rfl) ?_
  refine WL.yldG rfl (blt rfl) rfl rfl rfl (fun hb => Y.load1 rfl Try.underlying26 rfl (evg rfl hb) (Blk.at_eq m11 rfl)) ?_
  refine WL.yldG rfl (blt rfl) rfl rfl rfl (fun hb => Y.lenSl rfl rfl rfl Try.underlying26 (evs_cons (evg rfl hb) evs_nil)) ?_
  refine WL.yldG rfl (blt rfl) rfl rfl rfl (fun hb => Y.neq rfl (evg rfl hb) (evg rfl hb)) ?_
  refine WL.yld rfl (blt rfl) rfl (Y.or rfl rfl rfl rfl) ?_
  refine WL.nil ?_
  refine WK.then_normal (k13 _ _ ?_)
  refine WC.sub [(2, _), (3, _), (33, _)] ⟨rfl, rfl, rfl, trivial⟩ ?_
  refine WC.cond rfl (fun h14 => ?_) (fun h14 => ?_)
  ·
    have p14 := ((or_t h14).imp (fun h => ((or_t h).imp (fun h => ((or_t h).imp (fun h => (eq_f (not_t h))) (fun h => h))) (fun h => h))) (fun h => (eq_f (not_t h))))
    refine WC.seq (fun K15 k15 => ?_)
    refine WC.region rfl ?_
    refine WL.yld rfl (blt rfl) rfl (Y.assign rfl rfl) ?_
    refine WL.nil ?_
    refine WK.then_normal (k15 _ _ ?_)
    refine WC.sub [(4, _)] ⟨rfl, trivial⟩ ?_
    refine WC.ret ?_
    refine WK.then_ret ?_
    clear k1 k12 k13 k15
    refine WK.ret [_] rfl ⟨rfl, trivial⟩ ?_
    exact ⟨ret1 (vb (Sx.same_no h14 e_x e_y).symm), xW⟩
  ·
    have p14 := (And.intro (eq_t (not_f (or_f (or_f (or_f h14).1).1).1)) (eq_t (not_f (or_f h14).2)))
    have sy := Sx.same_yes h14 e_x e_y
    have sy1 := sy.1
    refine WC.skip ?_
    refine WK.then_normal (k12 _ _ ?_)
    refine WC.sub [(2, _), (3, _)] ⟨rfl, rfl, trivial⟩ ?_
    refine WC.seq (fun K16 k16 => ?_)
    refine WC.seq (fun K17 k17 => ?_)
    refine WC.region rfl ?_
    refine WL.yld rfl (blt rfl) rfl (Y.assign rfl rfl) ?_
    refine WL.nil ?_
    refine WK.then_normal (k17 _ _ ?_)
    refine WC.block ?_
    refine WC.sub [(5, _), (2, _), (3, _)] ⟨rfl, rfl, rfl, trivial⟩ ?_
    refine WC.loopS 1 (fun mz Ed W' => ∃ i : Nat, mz = x.n - i ∧ Ed = [(5, .int .i64 ((i : Nat) : Int))] ∧ Ext w W' ∧ Blk W' g2 28 _ ∧ Blk W' g7 28 _ ∧ (i ≤ x.n) ∧ (∀ j, j < i → Sx.same x.kids[j]! y.kids[j]! = true)) _ ⟨0, rfl, rfl, xW, m6, m11, (Nat.zero_le _), (fun j hj => absurd hj (Nat.not_lt_zero j))⟩ ?_
    rintro _ _ w18 ⟨i, rfl, rfl, xW, m6, m11, le_i, inv_i⟩
    refine WC.sub [(5, _), (2, _), (3, _)] ⟨rfl, rfl, rfl, trivial⟩ ?_
    refine WC.seq (fun K19 k19 => ?_)
    refine WC.seq (fun K20 k20 => ?_)
    refine WC.region rfl ?_
    refine WL.yld rfl (blt rfl) rfl (Y.move rfl rfl) ?_
    refine WL.yld rfl (blt rfl) rfl (Y.fieldAddr rfl Try.underlying28 rfl ti26 (by decide) rfl) ?_
    refine WL.yld rfl (blt rfl) rfl (Y.load1 rfl Try.underlying26 rfl rfl (Blk.at_eq m6 rfl)) ?_
    refine WL.yld rfl (blt rfl) rfl (Y.lenSl rfl rfl rfl Try.underlying26 rfl) ?_
    refine WL.yld rfl (blt rfl) rfl (Y.lss rfl rfl rfl) ?_
    refine WL.nil ?_
    refine WK.then_normal (k20 _ _ ?_)
    refine WC.sub [(2, _), (3, _), (5, _), (38, _)] ⟨rfl, rfl, rfl, rfl, trivial⟩ ?_
    refine WC.cond rfl (fun h21 => ?_) (fun h21 => ?_)
    ·
      have p21 := (dec_t h21)
      refine WC.skip ?_
      refine WK.then_normal (k19 _ _ ?_)
      refine WC.sub [(2, _), (3, _), (5, _)] ⟨rfl, rfl, rfl, trivial⟩ ?_
      refine WC.seq (fun K22 k22 => ?_)
      refine WC.block ?_
      refine WC.seq (fun K23 k23 => ?_)
      refine WC.regionDq (by kernel_rfl) (by kernel_rfl) rfl ?_
      refine WQ.yld rfl (blt rfl) rfl (Y.fieldAddr rfl Try.underlying28 rfl ti26 (by decide) rfl) ?_
      refine WQ.yld rfl (blt rfl) rfl (Y.load1 rfl Try.underlying26 rfl rfl (Blk.at_ext m6 rfl)) ?_
      refine WQ.yld rfl (blt rfl) rfl (Y.move rfl rfl) ?_
      have b24 : i < x.n := by omega
      refine WQ.yld rfl (blt rfl) rfl (Y.indexLs i (g_x.ls.ext xW) rfl Try.underlying26 ti28 rfl rfl rfl b24) ?_
      refine WQ.yld rfl (blt rfl) rfl (Y.loadS (cs := [_, _, _, _, _, _]) rfl Try.underlying28 rfl ti28 rfl (Ls.part_ext (g_x.ls.ext xW) b24 rfl)) ?_
      refine WQ.yld rfl (blt rfl) rfl (Y.fieldAddr rfl Try.underlying28 rfl ti26 (by decide) rfl) ?_
      refine WQ.yld rfl (blt rfl) rfl (Y.load1 rfl Try.underlying26 rfl rfl (Blk.at_ext m11 rfl)) ?_
      refine WQ.yld rfl (blt rfl) rfl (Y.move rfl rfl) ?_
      have b25 : i < y.n := by omega
      refine WQ.yld rfl (blt rfl) rfl (Y.indexLs i (g_y.ls.ext xW) rfl Try.underlying26 ti28 rfl rfl rfl b25) ?_
      refine WQ.yld rfl (blt rfl) rfl (Y.loadS (cs := [_, _, _, _, _, _]) rfl Try.underlying28 rfl ti28 rfl (Ls.part_ext (g_y.ls.ext xW) b25 rfl)) ?_
      refine WQ.call rfl (blt rfl) rfl rfl rfl has69 rfl (fun w hw => calls_ext hw (ih (d_x - 1) (by have := g_x.pos; omega) _ _ _ _ ((g_x.kid (bang_mem (show i < x.kids.length from by omega))).ext (Ext.trans xW hw)) ((g_y.kid (bang_mem (show i < y.kids.length from by omega))).ext (Ext.trans xW hw)))) ?_
      refine WQ.yld rfl (blt rfl) rfl (Y.not rfl rfl) ?_
      refine WQ.done (fun w26 x27 => ?_)
      have m6 := m6.ext x27
      have m11 := m11.ext x27
      have xW := Ext.trans xW x27
      refine WK.then_normal (k23 _ _ ?_)
      refine WC.sub [(2, _), (3, _), (5, _), (52, _)] ⟨rfl, rfl, rfl, rfl, trivial⟩ ?_
      refine WC.cond rfl (fun h28 => ?_) (fun h28 => ?_)
      ·
        refine WC.seq (fun K29 k29 => ?_)
        refine WC.region rfl ?_
        refine WL.yld rfl (blt rfl) rfl (Y.assign rfl rfl) ?_
        refine WL.nil ?_
        refine WK.then_normal (k29 _ _ ?_)
        refine WC.sub [(4, _)] ⟨rfl, trivial⟩ ?_
        refine WC.ret ?_
        refine WK.in_ret ?_
        refine WK.then_ret ?_
        refine WK.then_ret ?_
        refine WK.in_ret ?_
        refine WK.then_ret ?_
        clear k1 k12 k13 k16 k17 k19 k20 k22 k23 k29
        refine WK.ret [_] rfl ⟨rfl, trivial⟩ ?_
        refine ⟨ret1 (vb ?_), xW⟩
        rw [sy.2, Sx.al_hit (show i < x.kids.length from by omega) (by have q := h28; rw [Bool.not_eq_true'] at q; exact q)]
      ·
        refine WC.skip ?_
        refine WK.in_normal ?_
        refine WK.then_normal (k22 _ _ ?_)
        refine WC.sub [(2, _), (3, _), (5, _)] ⟨rfl, rfl, rfl, trivial⟩ ?_
        refine WC.region rfl ?_
        refine WL.yld rfl (blt rfl) rfl (Y.move rfl rfl) ?_
        refine WL.yld rfl (blt rfl) rfl (Y.add rfl rfl rfl (wrap_i64 (by first | omega | (dsimp only; omega)))) ?_
        refine WL.yld rfl (blt rfl) rfl (Y.assign rfl rfl) ?_
        refine WL.nil ?_
        refine WK.roundS _ [(5, .int .i64 (((i + 1) : Nat) : Int))] ⟨rfl, rfl, rfl, trivial⟩ ?_ ⟨(i + 1), rfl, rfl, xW, m6, m11, (by omega), (fun j hj => by rcases Nat.lt_succ_iff_lt_or_eq.1 hj with h | h; exact inv_i j h; rw [h]; exact (by have q := h28; rw [Bool.not_eq_false'] at q; exact q))⟩
        show _ - (i + 1) < _ - i; omega
    ·
      have p21 := (dec_f h21)
      refine WC.exit ?_
      refine WK.then_exit ?_
      refine WK.then_exit ?_
      refine WK.in_exit ?_
      refine WK.then_normal (k16 _ _ ?_)
      refine WC.sub [] trivial ?_
      refine WC.seq (fun K30 k30 => ?_)
      refine WC.region rfl ?_
      refine WL.yld rfl (blt rfl) rfl (Y.assign rfl rfl) ?_
      refine WL.nil ?_
      refine WK.then_normal (k30 _ _ ?_)
      refine WC.ret ?_
      clear k1 k12 k13 k16 k17 k19 k20 k30
      refine WK.ret [_] rfl ⟨rfl, trivial⟩ ?_
      refine ⟨ret1 (vb ?_), xW⟩
      rw [sy.2, Sx.al_ok (by omega) fun j hj => inv_i j (by omega)]
theorem rsameS_any (d_x : Nat) (x : Sx.St) (d_y : Nat) (y : Sx.St) (w : World) (g_x : Sx.GoodS d_x w x) (g_y : Sx.GoodS d_y w y) :
    Calls Try.prog 50 #[.agg #[.int .i64 x.op, .int .i64 x.cd.op, .string x.cd.nm, .int .i64 x.cd.vk, .int .i64 x.cd.vn, .string x.cd.vs, .slice x.cd.A x.cd.n x.cd.c, .slice x.iA x.iN x.iC, .slice x.cA x.cN x.cC, .slice x.aA x.aN x.aC, .slice x.sA x.sN x.sC, .int .i64 x.N, .string x.tb], .agg #[.int .i64 y.op, .int .i64 y.cd.op, .string y.cd.nm, .int .i64 y.cd.vk, .int .i64 y.cd.vn, .string y.cd.vs, .slice y.cd.A y.cd.n y.cd.c, .slice y.iA y.iN y.iC, .slice y.cA y.cN y.cC, .slice y.aA y.aN y.aC, .slice y.sA y.sN y.sC, .int .i64 y.N, .string y.tb]] w fun e w' => e = .returned (.bool (Sx.stS x y)) ∧ Ext w w' := by
  have xW := Ext.refl w
  have e_ilx := g_x.il.len
  have e_clx := g_x.cl.len
  have e_alx := g_x.al.len
  have e_slx := g_x.sl.len
  have e_ily := g_y.il.len
  have e_cly := g_y.cl.len
  have e_aly := g_y.al.len
  have e_sly := g_y.sl.len
  have n_il := g_x.il.nle
  have n_al := g_x.al.nle
  have n_sl := g_x.sl.nle
  refine calls_of_WC (args := [.agg #[.int .i64 x.op, .int .i64 x.cd.op, .string x.cd.nm, .int .i64 x.cd.vk, .int .i64 x.cd.vn, .string x.cd.vs, .slice x.cd.A x.cd.n x.cd.c, .slice x.iA x.iN x.iC, .slice x.cA x.cN x.cC, .slice x.aA x.aN x.aC, .slice x.sA x.sN x.sC, .int .i64 x.N, .string x.tb], .agg #[.int .i64 y.op, .int .i64 y.cd.op, .string y.cd.nm, .int .i64 y.cd.vk, .int .i64 y.cd.vn, .string y.cd.vs, .slice y.cd.A y.cd.n y.cd.c, .slice y.iA y.iN y.iC, .slice y.cA y.cN y.cC, .slice y.aA y.aN y.aC, .slice y.sA y.sN y.sC, .int .i64 y.N, .string y.tb]]) Try.func50 rfl rfl (ble rfl) ?_
  refine WC.seq (fun K1 k1 => ?_)
  refine WC.region rfl ?_
  refine WL.box rfl (blt rfl) rfl rfl rfl rfl ?_
  intro g2 w3 e4 x5 m6
  have o_g2 := own_new xW e4
  have xW := Ext.trans xW x5
  refine WL.box rfl (blt rfl) rfl rfl rfl rfl ?_
  intro g7 w8 e9 x10 m11
  have n_g2_g7 := ne_new m6 e9
  have o_g7 := own_new xW e9
  have m6 := m6.ext x10
  have xW := Ext.trans xW x10
  refine WL.yld rfl (blt rfl) rfl (Y.assign rfl rfl) ?_
  refine WL.nil ?_
  refine WK.then_normal (k1 _ _ ?_)
  refine WC.sub [(2, _), (3, _)] ⟨rfl, rfl, trivial⟩ ?_
  refine WC.seq (fun K12 k12 => ?_)
  refine WC.seq (fun K13 k13 => ?_)
  refine WC.region rfl ?_
  refine WL.yld rfl (blt rfl) rfl (Y.fieldAddr rfl Try.underlying41 rfl ti36 (by decide) rfl) ?_
  refine WL.yld rfl (blt rfl) rfl (Y.load1 rfl Try.underlying36 rfl rfl (Blk.at_eq m6 rfl)) ?_
  refine WL.yld rfl (blt rfl) rfl (Y.fieldAddr rfl Try.underlying41 rfl ti36 (by decide) rfl) ?_
  refine WL.yld rfl (blt rfl) rfl (Y.load1 rfl Try.underlying36 rfl rfl (Blk.at_eq m11 rfl)) ?_
  refine WL.yld rfl (blt rfl) rfl (Y.neq rfl rfl rfl) ?_
  refine WL.yld rfl (blt rfl) rfl (Y.move rfl rfl) ?_
  refine WL.yldG rfl (blt rfl) rfl rfl rfl (fun hb => Y.fieldAddr rfl Try.underlying41 rfl ti28 (by decide) rfl) ?_
  refine WL.yldG rfl (blt rfl) rfl rfl rfl (fun hb => Y.loadS (cs := [_, _, _, _, _, _]) rfl Try.underlying28 rfl ti28 (evg rfl hb) (Blk.part_eq m6 rfl)) ?_
  refine WL.yldG rfl (blt rfl) rfl rfl rfl (fun hb => Y.fieldAddr rfl Try.underlying41 rfl ti28 (by decide) rfl) ?_
  refine WL.yldG rfl (blt rfl) rfl rfl rfl (fun hb => Y.loadS (cs := [_, _, _, _, _, _]) rfl Try.underlying28 rfl ti28 (evg rfl hb) (Blk.part_eq m11 rfl)) ?_
  refine WL.callG rfl (blt rfl) rfl rfl rfl rfl rfl has69 (fun hb => (evs_cons (evg rfl hb) (evs_cons (evg rfl hb) evs_nil))) (fun hb => rsameE_any _ _ _ _ _ (g_x.cd.ext xW) (g_y.cd.ext xW)) (fun w14 x15 => ?_)
  have m6 := m6.ext x15
  have m11 := m11.ext x15
  have xW := Ext.trans xW x15
  refine WL.yldG rfl (blt rfl) rfl rfl rfl (fun hb => Y.not rfl (evg rfl hb)) ?_
  refine WL.yld rfl (blt rfl) rfl (Y.or rfl rfl rfl rfl) ?_
  refine WL.yld rfl (blt rfl) rfl (Y.move rfl rfl) ?_
  refine WL.yldG rfl (blt rfl) rfl rfl rfl (fun hb => Y.fieldAddr rfl Try.underlying41 rfl ti34 (by decide) rfl) ?_
  refine WL.yldG rfl (blt rfl) rfl rfl rfl (fun hb => Y.load1 rfl Try.underlying34 rfl (evg rfl hb) (Blk.at_eq m6 rfl)) ?_
  refine WL.yldG rfl (blt rfl) rfl rfl rfl (fun hb => Y.fieldAddr rfl Try.underlying41 rfl ti34 (by decide) rfl) ?_
  refine WL.yldG rfl (blt rfl) rfl rfl rfl (fun hb => Y.load1 rfl Try.underlying34 rfl (evg rfl hb) (Blk.at_eq m11 rfl)) ?_
  refine WL.callG rfl (blt rfl) rfl rfl rfl rfl rfl has13 (fun hb => (evs_cons (evg rfl hb) (evs_cons (evg rfl hb) evs_nil))) (fun hb => texts_any _ _ _ _ _ _ _ _ _ (g_x.cl.ext xW) (g_y.cl.ext xW)) (fun w16 x17 => ?_)
  have m6 := m6.ext x17
  have m11 := m11.ext x17
  have xW := Ext.trans xW x17
  refine WL.yldG rfl (blt rfl) rfl rfl rfl (fun hb => Y.not rfl (evg rfl hb)) ?_
  refine WL.yld rfl (blt rfl) rfl (Y.or rfl rfl rfl rfl) ?_
  refine WL.yld rfl (blt rfl) rfl (Y.move rfl rfl) ?_
  refine WL.yldG rfl (blt rfl) rfl rfl rfl (fun hb => Y.fieldAddr rfl Try.underlying41 rfl ti3 (by decide) rfl) ?_
  refine WL.yldG rfl (blt rfl) rfl rfl rfl (fun hb => Y.load1 rfl Try.underlying3 rfl (evg rfl hb) (Blk.at_eq m6 rfl)) ?_
  refine WL.yldG rfl (blt rfl) rfl rfl rfl (fun hb => Y.fieldAddr rfl Try.underlying41 rfl ti3 (by decide) rfl) ?_
  refine WL.yldG rfl (blt rfl) rfl rfl rfl (fun hb => Y.load1 rfl Try.underlying3 rfl (evg rfl hb) (Blk.at_eq m11 rfl)) ?_
  refine WL.yldG rfl (blt rfl) rfl rfl rfl (fun hb => Y.neq rfl (evg rfl hb) (evg rfl hb)) ?_
  refine WL.yld rfl (blt rfl) rfl (Y.or rfl rfl rfl rfl) ?_
  refine WL.yld rfl (blt rfl) rfl (Y.move rfl rfl) ?_
  refine WL.yldG rfl (blt rfl) rfl rfl rfl (fun hb => Y.fieldAddr rfl Try.underlying41 rfl ti9 (by decide) rfl) ?_
  refine WL.yldG rfl (blt rfl) rfl rfl rfl (fun hb => Y.load1 rfl Try.underlying9 rfl (evg rfl hb) (Blk.at_eq m6 rfl)) ?_
  refine WL.yldG rfl (blt rfl) rfl rfl rfl (fun hb => Y.fieldAddr rfl Try.underlying41 rfl ti9 (by decide) rfl) ?_
  refine WL.yldG rfl (blt rfl) rfl rfl rfl (fun hb => Y.load1 rfl Try.underlying9 rfl (evg rfl hb) (Blk.at_eq m11 rfl)) ?_
  refine WL.yldG rfl (blt rfl) rfl rfl rfl (fun hb => Y.neqStr rfl (evg rfl hb) (evg rfl hb)) ?_
  refine WL.yld rfl (blt rfl) rfl (Y.or rfl rfl rfl rfl) ?_
  refine WL.nil ?_
  refine WK.then_normal (k13 _ _ ?_)
  refine WC.sub [(2, _), (3, _), (42, _)] ⟨rfl, rfl, rfl, trivial⟩ ?_
  refine WC.cond rfl (fun h18 => ?_) (fun h18 => ?_)
  ·
    have p18 := ((or_t h18).imp (fun h => ((or_t h).imp (fun h => ((or_t h).imp (fun h => ((or_t h).imp (fun h => (eq_f (not_t h))) (fun h => h))) (fun h => h))) (fun h => (eq_f (not_t h))))) (fun h => h))
    refine WC.seq (fun K19 k19 => ?_)
    refine WC.region rfl ?_
    refine WL.yld rfl (blt rfl) rfl (Y.assign rfl rfl) ?_
    refine WL.nil ?_
    refine WK.then_normal (k19 _ _ ?_)
    refine WC.sub [(4, _)] ⟨rfl, trivial⟩ ?_
    refine WC.ret ?_
    refine WK.then_ret ?_
    clear k1 k12 k13 k19
    refine WK.ret [_] rfl ⟨rfl, trivial⟩ ?_
    exact ⟨ret1 (vb (Sx.st_no1 h18).symm), xW⟩
  ·
    have p18 := (And.intro (eq_t (not_f (or_f (or_f (or_f (or_f h18).1).1).1).1)) (eq_t (not_f (or_f (or_f h18).1).2)))
    refine WC.skip ?_
    refine WK.then_normal (k12 _ _ ?_)
    refine WC.sub [(2, _), (3, _)] ⟨rfl, rfl, trivial⟩ ?_
    refine WC.seq (fun K20 k20 => ?_)
    refine WC.seq (fun K21 k21 => ?_)
    refine WC.region rfl ?_
    refine WL.yld rfl (blt rfl) rfl (Y.fieldAddr rfl Try.underlying41 rfl ti37 (by decide) rfl) ?_
    refine WL.yld rfl (blt rfl) rfl (Y.load1 rfl Try.underlying37 rfl rfl (Blk.at_eq m6 rfl)) ?_
    refine WL.yld rfl (blt rfl) rfl (Y.lenSl rfl rfl rfl Try.underlying37 rfl) ?_
    refine WL.yld rfl (blt rfl) rfl (Y.fieldAddr rfl Try.underlying41 rfl ti37 (by decide) rfl) ?_
    refine WL.yld rfl (blt rfl) rfl (Y.load1 rfl Try.underlying37 rfl rfl (Blk.at_eq m11 rfl)) ?_
    refine WL.yld rfl (blt rfl) rfl (Y.lenSl rfl rfl rfl Try.underlying37 rfl) ?_
    refine WL.yld rfl (blt rfl) rfl (Y.neq rfl rfl rfl) ?_
    refine WL.yld rfl (blt rfl) rfl (Y.move rfl rfl) ?_
    refine WL.yldG rfl (blt rfl) rfl rfl rfl (fun hb => Y.fieldAddr rfl Try.underlying41 rfl ti38 (by decide) rfl) ?_
    refine WL.yldG rfl (blt rfl) rfl rfl rfl (fun hb => Y.load1 rfl Try.underlying38 rfl (evg rfl hb) (Blk.at_eq m6 rfl)) ?_
    refine WL.yldG rfl (blt rfl) rfl rfl rfl (fun hb => Y.lenSl rfl rfl rfl Try.underlying38 (evs_cons (evg rfl hb) evs_nil)) ?_
    refine WL.yldG rfl (blt rfl) rfl rfl rfl (fun hb => Y.fieldAddr rfl Try.underlying41 rfl ti38 (by decide) rfl) ?_
    refine WL.yldG rfl (blt rfl) rfl rfl rfl (fun hb => Y.load1 rfl Try.underlying38 rfl (evg rfl hb) (Blk.at_eq m11 rfl)) ?_
    refine WL.yldG rfl (blt rfl) rfl rfl rfl (fun hb => Y.lenSl rfl rfl rfl Try.underlying38 (evs_cons (evg rfl hb) evs_nil)) ?_
    refine WL.yldG rfl (blt rfl) rfl rfl rfl (fun hb => Y.neq rfl (evg rfl hb) (evg rfl hb)) ?_
    refine WL.yld rfl (blt rfl) rfl (Y.or rfl rfl rfl rfl) ?_
    refine WL.yld rfl (blt rfl) rfl (Y.move rfl rfl) ?_
    refine WL.yldG rfl (blt rfl) rfl rfl rfl (fun hb => Y.fieldAddr rfl Try.underlying41 rfl ti39 (by decide) rfl) ?_
    refine WL.yldG rfl (blt rfl) rfl rfl rfl (fun hb => Y.load1 rfl Try.underlying39 rfl (evg rfl hb) (Blk.at_eq m6 rfl)) ?_
    refine WL.yldG rfl (blt rfl) rfl rfl rfl (fun hb => Y.lenSl rfl rfl rfl Try.underlying39 (evs_cons (evg rfl hb) evs_nil)) ?_
    refine WL.yldG rfl (blt rfl) rfl rfl rfl (fun hb => Y.fieldAddr rfl Try.underlying41 rfl ti39 (by decide) rfl) ?_
    refine WL.yldG rfl (blt rfl) rfl rfl rfl (fun hb => Y.load1 rfl Try.underlying39 rfl (evg rfl hb) (Blk.at_eq m11 rfl)) ?_
    refine WL.yldG rfl (blt rfl) rfl rfl rfl (fun hb => Y.lenSl rfl rfl rfl Try.underlying39 (evs_cons (evg rfl hb) evs_nil)) ?_
    refine WL.yldG rfl (blt rfl) rfl rfl rfl (fun hb => Y.neq rfl (evg rfl hb) (evg rfl hb)) ?_
    refine WL.yld rfl (blt rfl) rfl (Y.or rfl rfl rfl rfl) ?_
    refine WL.nil ?_
    refine WK.then_normal (k21 _ _ ?_)
    refine WC.sub [(2, _), (3, _), (67, _)] ⟨rfl, rfl, rfl, trivial⟩ ?_
    refine WC.cond rfl (fun h22 => ?_) (fun h22 => ?_)
    ·
      have p22 := ((or_t h22).imp (fun h => ((or_t h).imp (fun h => (eq_f (not_t h))) (fun h => (eq_f (not_t h))))) (fun h => (eq_f (not_t h))))
      refine WC.seq (fun K23 k23 => ?_)
      refine WC.region rfl ?_
      refine WL.yld rfl (blt rfl) rfl (Y.assign rfl rfl) ?_
      refine WL.nil ?_
      refine WK.then_normal (k23 _ _ ?_)
      refine WC.sub [(4, _)] ⟨rfl, trivial⟩ ?_
      refine WC.ret ?_
      refine WK.then_ret ?_
      clear k1 k12 k13 k20 k21 k23
      refine WK.ret [_] rfl ⟨rfl, trivial⟩ ?_
      refine ⟨ret1 (vb ?_), xW⟩
      rw [Sx.st_yes h18]
      have q := h22
      simp only [Bool.and_eq_true, Bool.or_eq_true, Bool.not_eq_true', Bool.and_eq_false_iff, Bool.or_eq_false_iff, Bool.not_eq_false', decide_eq_true_eq, decide_eq_false_iff_not, beq_iff_eq, beq_eq_false_iff_ne, ne_eq] at q
      refine Eq.symm ?_
      rcases q with (q | q) | q
      · exact Sx.st_1 (Sx.al_len (by omega))
      · exact Sx.st_2 (Sx.al_len (by omega))
      · exact Sx.st_3 (Sx.al_len (by omega))
    ·
      have p22 := (And.intro (And.intro (eq_t (not_f (or_f (or_f h22).1).1)) (eq_t (not_f (or_f (or_f h22).1).2))) (eq_t (not_f (or_f h22).2)))
      have c67 := h22
      simp only [Bool.and_eq_true, Bool.or_eq_true, Bool.not_eq_true', Bool.and_eq_false_iff, Bool.or_eq_false_iff, Bool.not_eq_false', decide_eq_true_eq, decide_eq_false_iff_not, beq_iff_eq, beq_eq_false_iff_ne, ne_eq] at c67
      have l67 : x.iN = y.iN ∧ x.aN = y.aN ∧ x.sN = y.sN := by omega
      refine WC.skip ?_
      refine WK.then_normal (k20 _ _ ?_)
      refine WC.sub [(2, _), (3, _)] ⟨rfl, rfl, trivial⟩ ?_
      refine WC.seq (fun K24 k24 => ?_)
      refine WC.seq (fun K25 k25 => ?_)
      refine WC.region rfl ?_
      refine WL.yld rfl (blt rfl) rfl (Y.assign rfl rfl) ?_
      refine WL.nil ?_
      refine WK.then_normal (k25 _ _ ?_)
      refine WC.block ?_
      refine WC.sub [(5, _), (2, _), (3, _)] ⟨rfl, rfl, rfl, trivial⟩ ?_
      refine WC.loopS 1 (fun mz Ed W' => ∃ i : Nat, mz = x.iN - i ∧ Ed = [(5, .int .i64 ((i : Nat) : Int))] ∧ Ext w W' ∧ Blk W' g2 41 _ ∧ Blk W' g7 41 _ ∧ (i ≤ x.iN) ∧ (∀ j, j < i → Sx.itS x.il[j]! y.il[j]! = true)) _ ⟨0, rfl, rfl, xW, m6, m11, (Nat.zero_le _), (fun j hj => absurd hj (Nat.not_lt_zero j))⟩ ?_
      rintro _ _ w26 ⟨i, rfl, rfl, xW, m6, m11, le_i, inv_i⟩
      refine WC.sub [(5, _), (2, _), (3, _)] ⟨rfl, rfl, rfl, trivial⟩ ?_
      refine WC.seq (fun K27 k27 => ?_)
      refine WC.seq (fun K28 k28 => ?_)
      refine WC.region rfl ?_
      refine WL.yld rfl (blt rfl) rfl (Y.move rfl rfl) ?_
      refine WL.yld rfl (blt rfl) rfl (Y.fieldAddr rfl Try.underlying41 rfl ti37 (by decide) rfl) ?_
      refine WL.yld rfl (blt rfl) rfl (Y.load1 rfl Try.underlying37 rfl rfl (Blk.at_eq m6 rfl)) ?_
      refine WL.yld rfl (blt rfl) rfl (Y.lenSl rfl rfl rfl Try.underlying37 rfl) ?_
      refine WL.yld rfl (blt rfl) rfl (Y.lss rfl rfl rfl) ?_
      refine WL.nil ?_
      refine WK.then_normal (k28 _ _ ?_)
      refine WC.sub [(2, _), (3, _), (5, _), (72, _)] ⟨rfl, rfl, rfl, rfl, trivial⟩ ?_
      refine WC.cond rfl (fun h29 => ?_) (fun h29 => ?_)
      ·
        have p29 := (dec_t h29)
        refine WC.skip ?_
        refine WK.then_normal (k27 _ _ ?_)
        refine WC.sub [(2, _), (3, _), (5, _)] ⟨rfl, rfl, rfl, trivial⟩ ?_
        refine WC.seq (fun K30 k30 => ?_)
        refine WC.block ?_
        refine WC.seq (fun K31 k31 => ?_)
        refine WC.regionDq (by kernel_rfl) (by kernel_rfl) rfl ?_
        refine WQ.yld rfl (blt rfl) rfl (Y.fieldAddr rfl Try.underlying41 rfl ti37 (by decide) rfl) ?_
        refine WQ.yld rfl (blt rfl) rfl (Y.load1 rfl Try.underlying37 rfl rfl (Blk.at_ext m6 rfl)) ?_
        refine WQ.yld rfl (blt rfl) rfl (Y.move rfl rfl) ?_
        have b32 : i < x.iN := by omega
        refine WQ.yld rfl (blt rfl) rfl (Y.indexLs i (g_x.il.ext xW) rfl Try.underlying37 ti65 rfl rfl rfl b32) ?_
        refine WQ.yld rfl (blt rfl) rfl (Y.fieldE rfl Try.underlying65 rfl ti9 (by decide) rfl) ?_
        refine WQ.yld rfl (blt rfl) rfl (Y.load1 rfl Try.underlying9 rfl rfl (Ls.at_ext (g_x.il.ext xW) b32 rfl)) ?_
        refine WQ.yld rfl (blt rfl) rfl (Y.fieldAddr rfl Try.underlying41 rfl ti37 (by decide) rfl) ?_
        refine WQ.yld rfl (blt rfl) rfl (Y.load1 rfl Try.underlying37 rfl rfl (Blk.at_ext m11 rfl)) ?_
        refine WQ.yld rfl (blt rfl) rfl (Y.move rfl rfl) ?_
        have b33 : i < y.iN := by omega
        refine WQ.yld rfl (blt rfl) rfl (Y.indexLs i (g_y.il.ext xW) rfl Try.underlying37 ti65 rfl rfl rfl b33) ?_
        refine WQ.yld rfl (blt rfl) rfl (Y.fieldE rfl Try.underlying65 rfl ti9 (by decide) rfl) ?_
        refine WQ.yld rfl (blt rfl) rfl (Y.load1 rfl Try.underlying9 rfl rfl (Ls.at_ext (g_y.il.ext xW) b33 rfl)) ?_
        refine WQ.yld rfl (blt rfl) rfl (Y.neqStr rfl rfl rfl) ?_
        refine WQ.yld rfl (blt rfl) rfl (Y.move rfl rfl) ?_
        refine WQ.yldG rfl (blt rfl) rfl rfl rfl (fun hb => Y.fieldAddr rfl Try.underlying41 rfl ti37 (by decide) rfl) ?_
        refine WQ.yldG rfl (blt rfl) rfl rfl rfl (fun hb => Y.load1 rfl Try.underlying37 rfl (evg rfl hb) (Blk.at_ext m6 rfl)) ?_
        refine WQ.yldG rfl (blt rfl) rfl rfl rfl (fun hb => Y.move rfl rfl) ?_
        refine WQ.yldG rfl (blt rfl) rfl rfl rfl (fun hb => Y.indexLs i (g_x.il.ext xW) rfl Try.underlying37 ti65 (evg rfl hb) (evg rfl hb) rfl (by omega)) ?_
        refine WQ.yldG rfl (blt rfl) rfl rfl rfl (fun hb => Y.fieldE rfl Try.underlying65 rfl ti28 (by decide) (evg rfl hb)) ?_
        refine WQ.yldG rfl (blt rfl) rfl rfl rfl (fun hb => Y.loadS (cs := [_, _, _, _, _, _]) rfl Try.underlying28 rfl ti28 (evg rfl hb) (Ls.part_ext (g_x.il.ext xW) (by omega) rfl)) ?_
        refine WQ.yldG rfl (blt rfl) rfl rfl rfl (fun hb => Y.fieldAddr rfl Try.underlying41 rfl ti37 (by decide) rfl) ?_
        refine WQ.yldG rfl (blt rfl) rfl rfl rfl (fun hb => Y.load1 rfl Try.underlying37 rfl (evg rfl hb) (Blk.at_ext m11 rfl)) ?_
        refine WQ.yldG rfl (blt rfl) rfl rfl rfl (fun hb => Y.move rfl rfl) ?_
        refine WQ.yldG rfl (blt rfl) rfl rfl rfl (fun hb => Y.indexLs i (g_y.il.ext xW) rfl Try.underlying37 ti65 (evg rfl hb) (evg rfl hb) rfl (by omega)) ?_
        refine WQ.yldG rfl (blt rfl) rfl rfl rfl (fun hb => Y.fieldE rfl Try.underlying65 rfl ti28 (by decide) (evg rfl hb)) ?_
        refine WQ.yldG rfl (blt rfl) rfl rfl rfl (fun hb => Y.loadS (cs := [_, _, _, _, _, _]) rfl Try.underlying28 rfl ti28 (evg rfl hb) (Ls.part_ext (g_y.il.ext xW) (by omega) rfl)) ?_
        refine WQ.callG rfl (blt rfl) rfl rfl rfl rfl rfl has69 (fun hb => (evs_cons (evg rfl hb) (evs_cons (evg rfl hb) evs_nil))) (fun hb w hw => calls_ext hw (rsameE_any _ _ _ _ _ ((g_x.ie _ (bang_mem (show i < x.il.length from by omega))).ext (Ext.trans xW hw)) ((g_y.ie _ (bang_mem (show i < y.il.length from by omega))).ext (Ext.trans xW hw)))) ?_
        refine WQ.yldG rfl (blt rfl) rfl rfl rfl (fun hb => Y.not rfl (evg rfl hb)) ?_
        refine WQ.yld rfl (blt rfl) rfl (Y.or rfl rfl rfl rfl) ?_
        refine WQ.done (fun w34 x35 => ?_)
        have m6 := m6.ext x35
        have m11 := m11.ext x35
        have xW := Ext.trans xW x35
        refine WK.then_normal (k31 _ _ ?_)
        refine WC.sub [(2, _), (3, _), (5, _), (103, _)] ⟨rfl, rfl, rfl, rfl, trivial⟩ ?_
        refine WC.cond rfl (fun h36 => ?_) (fun h36 => ?_)
        ·
          refine WC.seq (fun K37 k37 => ?_)
          refine WC.region rfl ?_
          refine WL.yld rfl (blt rfl) rfl (Y.assign rfl rfl) ?_
          refine WL.nil ?_
          refine WK.then_normal (k37 _ _ ?_)
          refine WC.sub [(4, _)] ⟨rfl, trivial⟩ ?_
          refine WC.ret ?_
          refine WK.in_ret ?_
          refine WK.then_ret ?_
          refine WK.then_ret ?_
          refine WK.in_ret ?_
          refine WK.then_ret ?_
          clear k1 k12 k13 k20 k21 k24 k25 k27 k28 k30 k31 k37
          refine WK.ret [_] rfl ⟨rfl, trivial⟩ ?_
          refine ⟨ret1 (vb ?_), xW⟩
          rw [Sx.st_yes h18]
          exact (Sx.st_1 (Sx.al_hit (show i < x.il.length from by omega) (Sx.it_no h36))).symm
        ·
          refine WC.skip ?_
          refine WK.in_normal ?_
          refine WK.then_normal (k30 _ _ ?_)
          refine WC.sub [(2, _), (3, _), (5, _)] ⟨rfl, rfl, rfl, trivial⟩ ?_
          refine WC.region rfl ?_
          refine WL.yld rfl (blt rfl) rfl (Y.move rfl rfl) ?_
          refine WL.yld rfl (blt rfl) rfl (Y.add rfl rfl rfl (wrap_i64 (by first | omega | (dsimp only; omega)))) ?_
          refine WL.yld rfl (blt rfl) rfl (Y.assign rfl rfl) ?_
          refine WL.nil ?_
          refine WK.roundS _ [(5, .int .i64 (((i + 1) : Nat) : Int))] ⟨rfl, rfl, rfl, trivial⟩ ?_ ⟨(i + 1), rfl, rfl, xW, m6, m11, (by omega), (fun j hj => by rcases Nat.lt_succ_iff_lt_or_eq.1 hj with h | h; exact inv_i j h; rw [h]; exact (Sx.it_yes h36))⟩
          show _ - (i + 1) < _ - i; omega
      ·
        have p29 := (dec_f h29)
        refine WC.exit ?_
        refine WK.then_exit ?_
        refine WK.then_exit ?_
        refine WK.in_exit ?_
        refine WK.then_normal (k24 _ _ ?_)
        refine WC.sub [(2, _), (3, _)] ⟨rfl, rfl, trivial⟩ ?_
        refine WC.seq (fun K38 k38 => ?_)
        refine WC.seq (fun K39 k39 => ?_)
        refine WC.region rfl ?_
        refine WL.yld rfl (blt rfl) rfl (Y.assign rfl rfl) ?_
        refine WL.nil ?_
        refine WK.then_normal (k39 _ _ ?_)
        refine WC.block ?_
        refine WC.sub [(6, _), (2, _), (3, _)] ⟨rfl, rfl, rfl, trivial⟩ ?_
        refine WC.loopS 1 (fun mz Ed W' => ∃ k : Nat, mz = x.aN - k ∧ Ed = [(6, .int .i64 ((k : Nat) : Int))] ∧ Ext w W' ∧ Blk W' g2 41 _ ∧ Blk W' g7 41 _ ∧ (k ≤ x.aN) ∧ (∀ j, j < k → Sx.agS x.al[j]! y.al[j]! = true)) _ ⟨0, rfl, rfl, xW, m6, m11, (Nat.zero_le _), (fun j hj => absurd hj (Nat.not_lt_zero j))⟩ ?_
        rintro _ _ w40 ⟨k, rfl, rfl, xW, m6, m11, le_k, inv_k⟩
        refine WC.sub [(6, _), (2, _), (3, _)] ⟨rfl, rfl, rfl, trivial⟩ ?_
        refine WC.seq (fun K41 k41 => ?_)
        refine WC.seq (fun K42 k42 => ?_)
        refine WC.region rfl ?_
        refine WL.yld rfl (blt rfl) rfl (Y.move rfl rfl) ?_
        refine WL.yld rfl (blt rfl) rfl (Y.fieldAddr rfl Try.underlying41 rfl ti38 (by decide) rfl) ?_
        refine WL.yld rfl (blt rfl) rfl (Y.load1 rfl Try.underlying38 rfl rfl (Blk.at_eq m6 rfl)) ?_
        refine WL.yld rfl (blt rfl) rfl (Y.lenSl rfl rfl rfl Try.underlying38 rfl) ?_
        refine WL.yld rfl (blt rfl) rfl (Y.lss rfl rfl rfl) ?_
        refine WL.nil ?_
        refine WK.then_normal (k42 _ _ ?_)
        refine WC.sub [(2, _), (3, _), (6, _), (108, _)] ⟨rfl, rfl, rfl, rfl, trivial⟩ ?_
        refine WC.cond rfl (fun h43 => ?_) (fun h43 => ?_)
        ·
          have p43 := (dec_t h43)
          refine WC.skip ?_
          refine WK.then_normal (k41 _ _ ?_)
          refine WC.sub [(2, _), (3, _), (6, _)] ⟨rfl, rfl, rfl, trivial⟩ ?_
          refine WC.seq (fun K44 k44 => ?_)
          refine WC.block ?_
          refine WC.seq (fun K45 k45 => ?_)
          refine WC.regionDq (by kernel_rfl) (by kernel_rfl) rfl ?_
          refine WQ.yld rfl (blt rfl) rfl (Y.fieldAddr rfl Try.underlying41 rfl ti38 (by decide) rfl) ?_
          refine WQ.yld rfl (blt rfl) rfl (Y.load1 rfl Try.underlying38 rfl rfl (Blk.at_ext m6 rfl)) ?_
          refine WQ.yld rfl (blt rfl) rfl (Y.move rfl rfl) ?_
          have b46 : k < x.aN := by omega
          refine WQ.yld rfl (blt rfl) rfl (Y.indexLs k (g_x.al.ext xW) rfl Try.underlying38 ti55 rfl rfl rfl b46) ?_
          refine WQ.yld rfl (blt rfl) rfl (Y.loadS (cs := [_, _, _]) rfl Try.underlying55 rfl ti55 rfl (Ls.part_ext (g_x.al.ext xW) b46 rfl)) ?_
          refine WQ.yld rfl (blt rfl) rfl (Y.fieldAddr rfl Try.underlying41 rfl ti38 (by decide) rfl) ?_
          refine WQ.yld rfl (blt rfl) rfl (Y.load1 rfl Try.underlying38 rfl rfl (Blk.at_ext m11 rfl)) ?_
          refine WQ.yld rfl (blt rfl) rfl (Y.move rfl rfl) ?_
          have b47 : k < y.aN := by omega
          refine WQ.yld rfl (blt rfl) rfl (Y.indexLs k (g_y.al.ext xW) rfl Try.underlying38 ti55 rfl rfl rfl b47) ?_
          refine WQ.yld rfl (blt rfl) rfl (Y.loadS (cs := [_, _, _]) rfl Try.underlying55 rfl ti55 rfl (Ls.part_ext (g_y.al.ext xW) b47 rfl)) ?_
          refine WQ.yld rfl (blt rfl) rfl (Y.neqS rfl eqg55 (eq55 _ _ _ _ _ _) rfl rfl) ?_
          refine WQ.done (fun w48 x49 => ?_)
          have m6 := m6.ext x49
          have m11 := m11.ext x49
          have xW := Ext.trans xW x49
          refine WK.then_normal (k45 _ _ ?_)
          refine WC.sub [(2, _), (3, _), (6, _), (121, _)] ⟨rfl, rfl, rfl, rfl, trivial⟩ ?_
          refine WC.cond rfl (fun h50 => ?_) (fun h50 => ?_)
          ·
            refine WC.seq (fun K51 k51 => ?_)
            refine WC.region rfl ?_
            refine WL.yld rfl (blt rfl) rfl (Y.assign rfl rfl) ?_
            refine WL.nil ?_
            refine WK.then_normal (k51 _ _ ?_)
            refine WC.sub [(4, _)] ⟨rfl, trivial⟩ ?_
            refine WC.ret ?_
            refine WK.in_ret ?_
            refine WK.then_ret ?_
            refine WK.then_ret ?_
            refine WK.in_ret ?_
            refine WK.then_ret ?_
            clear k1 k12 k13 k20 k21 k24 k25 k27 k28 k38 k39 k41 k42 k44 k45 k51
            refine WK.ret [_] rfl ⟨rfl, trivial⟩ ?_
            refine ⟨ret1 (vb ?_), xW⟩
            rw [Sx.st_yes h18]
            exact (Sx.st_2 (Sx.al_hit (show k < x.al.length from by omega) (by have q := h50; rw [Bool.not_eq_true'] at q; exact q))).symm
          ·
            refine WC.skip ?_
            refine WK.in_normal ?_
            refine WK.then_normal (k44 _ _ ?_)
            refine WC.sub [(2, _), (3, _), (6, _)] ⟨rfl, rfl, rfl, trivial⟩ ?_
            refine WC.region rfl ?_
            refine WL.yld rfl (blt rfl) rfl (Y.move rfl rfl) ?_
            refine WL.yld rfl (blt rfl) rfl (Y.add rfl rfl rfl (wrap_i64 (by first | omega | (dsimp only; omega)))) ?_
            refine WL.yld rfl (blt rfl) rfl (Y.assign rfl rfl) ?_
            refine WL.nil ?_
            refine WK.roundS _ [(6, .int .i64 (((k + 1) : Nat) : Int))] ⟨rfl, rfl, rfl, trivial⟩ ?_ ⟨(k + 1), rfl, rfl, xW, m6, m11, (by omega), (fun j hj => by rcases Nat.lt_succ_iff_lt_or_eq.1 hj with h | h; exact inv_k j h; rw [h]; exact (by have q := h50; rw [Bool.not_eq_false'] at q; exact q))⟩
            show _ - (k + 1) < _ - k; omega
        ·
          have p43 := (dec_f h43)
          refine WC.exit ?_
          refine WK.then_exit ?_
          refine WK.then_exit ?_
          refine WK.in_exit ?_
          refine WK.then_normal (k38 _ _ ?_)
          refine WC.sub [(2, _), (3, _)] ⟨rfl, rfl, trivial⟩ ?_
          refine WC.seq (fun K52 k52 => ?_)
          refine WC.seq (fun K53 k53 => ?_)
          refine WC.region rfl ?_
          refine WL.yld rfl (blt rfl) rfl (Y.assign rfl rfl) ?_
          refine WL.nil ?_
          refine WK.then_normal (k53 _ _ ?_)
          refine WC.block ?_
          refine WC.sub [(7, _), (2, _), (3, _)] ⟨rfl, rfl, rfl, trivial⟩ ?_
          refine WC.loopS 1 (fun mz Ed W' => ∃ m : Nat, mz = x.sN - m ∧ Ed = [(7, .int .i64 ((m : Nat) : Int))] ∧ Ext w W' ∧ Blk W' g2 41 _ ∧ Blk W' g7 41 _ ∧ (m ≤ x.sN) ∧ (∀ j, j < m → Sx.soS x.sl[j]! y.sl[j]! = true)) _ ⟨0, rfl, rfl, xW, m6, m11, (Nat.zero_le _), (fun j hj => absurd hj (Nat.not_lt_zero j))⟩ ?_
          rintro _ _ w54 ⟨m, rfl, rfl, xW, m6, m11, le_m, inv_m⟩
          refine WC.sub [(7, _), (2, _), (3, _)] ⟨rfl, rfl, rfl, trivial⟩ ?_
          refine WC.seq (fun K55 k55 => ?_)
          refine WC.seq (fun K56 k56 => ?_)
          refine WC.region rfl ?_
          refine WL.yld rfl (blt rfl) rfl (Y.move rfl rfl) ?_
          refine WL.yld rfl (blt rfl) rfl (Y.fieldAddr rfl Try.underlying41 rfl ti39 (by decide) rfl) ?_
          refine WL.yld rfl (blt rfl) rfl (Y.load1 rfl Try.underlying39 rfl rfl (Blk.at_eq m6 rfl)) ?_
          refine WL.yld rfl (blt rfl) rfl (Y.lenSl rfl rfl rfl Try.underlying39 rfl) ?_
          refine WL.yld rfl (blt rfl) rfl (Y.lss rfl rfl rfl) ?_
          refine WL.nil ?_
          refine WK.then_normal (k56 _ _ ?_)
          refine WC.sub [(2, _), (3, _), (7, _), (126, _)] ⟨rfl, rfl, rfl, rfl, trivial⟩ ?_
          refine WC.cond rfl (fun h57 => ?_) (fun h57 => ?_)
          ·
            have p57 := (dec_t h57)
            refine WC.skip ?_
            refine WK.then_normal (k55 _ _ ?_)
            refine WC.sub [(2, _), (3, _), (7, _)] ⟨rfl, rfl, rfl, trivial⟩ ?_
            refine WC.seq (fun K58 k58 => ?_)
            refine WC.block ?_
            refine WC.seq (fun K59 k59 => ?_)
            refine WC.regionDq (by kernel_rfl) (by kernel_rfl) rfl ?_
            refine WQ.yld rfl (blt rfl) rfl (Y.fieldAddr rfl Try.underlying41 rfl ti39 (by decide) rfl) ?_
            refine WQ.yld rfl (blt rfl) rfl (Y.load1 rfl Try.underlying39 rfl rfl (Blk.at_ext m6 rfl)) ?_
            refine WQ.yld rfl (blt rfl) rfl (Y.move rfl rfl) ?_
            have b60 : m < x.sN := by omega
            refine WQ.yld rfl (blt rfl) rfl (Y.indexLs m (g_x.sl.ext xW) rfl Try.underlying39 ti69 rfl rfl rfl b60) ?_
            refine WQ.yld rfl (blt rfl) rfl (Y.loadS (cs := [_, _]) rfl Try.underlying69 rfl ti69 rfl (Ls.part_ext (g_x.sl.ext xW) b60 rfl)) ?_
            refine WQ.yld rfl (blt rfl) rfl (Y.fieldAddr rfl Try.underlying41 rfl ti39 (by decide) rfl) ?_
            refine WQ.yld rfl (blt rfl) rfl (Y.load1 rfl Try.underlying39 rfl rfl (Blk.at_ext m11 rfl)) ?_
            refine WQ.yld rfl (blt rfl) rfl (Y.move rfl rfl) ?_
            have b61 : m < y.sN := by omega
            refine WQ.yld rfl (blt rfl) rfl (Y.indexLs m (g_y.sl.ext xW) rfl Try.underlying39 ti69 rfl rfl rfl b61) ?_
            refine WQ.yld rfl (blt rfl) rfl (Y.loadS (cs := [_, _]) rfl Try.underlying69 rfl ti69 rfl (Ls.part_ext (g_y.sl.ext xW) b61 rfl)) ?_
            refine WQ.yld rfl (blt rfl) rfl (Y.neqS rfl eqg69 (eq69 _ _ _ _) rfl rfl) ?_
            refine WQ.done (fun w62 x63 => ?_)
            have m6 := m6.ext x63
            have m11 := m11.ext x63
            have xW := Ext.trans xW x63
            refine WK.then_normal (k59 _ _ ?_)
            refine WC.sub [(2, _), (3, _), (7, _), (139, _)] ⟨rfl, rfl, rfl, rfl, trivial⟩ ?_
            refine WC.cond rfl (fun h64 => ?_) (fun h64 => ?_)
            ·
              refine WC.seq (fun K65 k65 => ?_)
              refine WC.region rfl ?_
              refine WL.yld rfl (blt rfl) rfl (Y.assign rfl rfl) ?_
              refine WL.nil ?_
              refine WK.then_normal (k65 _ _ ?_)
              refine WC.sub [(4, _)] ⟨rfl, trivial⟩ ?_
              refine WC.ret ?_
              refine WK.in_ret ?_
              refine WK.then_ret ?_
              refine WK.then_ret ?_
              refine WK.in_ret ?_
              refine WK.then_ret ?_
              clear k1 k12 k13 k20 k21 k24 k25 k27 k28 k38 k39 k41 k42 k52 k53 k55 k56 k58 k59 k65
              refine WK.ret [_] rfl ⟨rfl, trivial⟩ ?_
              refine ⟨ret1 (vb ?_), xW⟩
              rw [Sx.st_yes h18]
              exact (Sx.st_3 (Sx.al_hit (show m < x.sl.length from by omega) (by have q := h64; rw [Bool.not_eq_true'] at q; exact q))).symm
            ·
              refine WC.skip ?_
              refine WK.in_normal ?_
              refine WK.then_normal (k58 _ _ ?_)
              refine WC.sub [(2, _), (3, _), (7, _)] ⟨rfl, rfl, rfl, trivial⟩ ?_
              refine WC.region rfl ?_
              refine WL.yld rfl (blt rfl) rfl (Y.move rfl rfl) ?_
              refine WL.yld rfl (blt rfl) rfl (Y.add rfl rfl rfl (wrap_i64 (by first | omega | (dsimp only; omega)))) ?_
              refine WL.yld rfl (blt rfl) rfl (Y.assign rfl rfl) ?_
              refine WL.nil ?_
              refine WK.roundS _ [(7, .int .i64 (((m + 1) : Nat) : Int))] ⟨rfl, rfl, rfl, trivial⟩ ?_ ⟨(m + 1), rfl, rfl, xW, m6, m11, (by omega), (fun j hj => by rcases Nat.lt_succ_iff_lt_or_eq.1 hj with h | h; exact inv_m j h; rw [h]; exact (by have q := h64; rw [Bool.not_eq_false'] at q; exact q))⟩
              show _ - (m + 1) < _ - m; omega
          ·
            have p57 := (dec_f h57)
            refine WC.exit ?_
            refine WK.then_exit ?_
            refine WK.then_exit ?_
            refine WK.in_exit ?_
            refine WK.then_normal (k52 _ _ ?_)
            refine WC.sub [] trivial ?_
            refine WC.seq (fun K66 k66 => ?_)
            refine WC.region rfl ?_
            refine WL.yld rfl (blt rfl) rfl (Y.assign rfl rfl) ?_
            refine WL.nil ?_
            refine WK.then_normal (k66 _ _ ?_)
            refine WC.ret ?_
            clear k1 k12 k13 k20 k21 k24 k25 k27 k28 k38 k39 k41 k42 k52 k53 k55 k56 k66
            refine WK.ret [_] rfl ⟨rfl, trivial⟩ ?_
            refine ⟨ret1 (vb ?_), xW⟩
            rw [Sx.st_yes h18]
            exact (Sx.st_t (Sx.al_ok (by omega) fun j hj => inv_i j (by omega)) (Sx.al_ok (by omega) fun j hj => inv_k j (by omega)) (Sx.al_ok (by omega) fun j hj => inv_m j (by omega))).symm
theorem rsame_any (d_x : Nat) (x : Sx.Q) (d_y : Nat) (y : Sx.Q) (w : World) (g_x : Sx.GoodQ d_x w x) (g_y : Sx.GoodQ d_y w y) :
    Calls Try.prog 24 #[.agg #[.string x.fr, .slice x.A x.n x.c], .agg #[.string y.fr, .slice y.A y.n y.c]] w fun e w' => e = .returned (.bool (Sx.qS x y)) ∧ Ext w w' := by
  have xW := Ext.refl w
  have e_x := g_x.l.len
  have z_x := g_x.l.nle
  have e_y := g_y.l.len
  have z_y := g_y.l.nle
  refine calls_of_WC (args := [.agg #[.string x.fr, .slice x.A x.n x.c], .agg #[.string y.fr, .slice y.A y.n y.c]]) Try.func24 rfl rfl (ble rfl) ?_
  refine WC.seq (fun K1 k1 => ?_)
  refine WC.region rfl ?_
  refine WL.box rfl (blt rfl) rfl rfl rfl rfl ?_
  intro g2 w3 e4 x5 m6
  have o_g2 := own_new xW e4
  have xW := Ext.trans xW x5
  refine WL.box rfl (blt rfl) rfl rfl rfl rfl ?_
  intro g7 w8 e9 x10 m11
  have n_g2_g7 := ne_new m6 e9
  have o_g7 := own_new xW e9
  have m6 := m6.ext x10
  have xW := Ext.trans xW x10
  refine WL.yld rfl (blt rfl) rfl (Y.assign rfl rfl) ?_
  refine WL.nil ?_
  refine WK.then_normal (k1 _ _ ?_)
  refine WC.sub [(2, _), (3, _)] ⟨rfl, rfl, trivial⟩ ?_
  refine WC.seq (fun K12 k12 => ?_)
  refine WC.seq (fun K13 k13 => ?_)
  refine WC.region rfl ?_
  refine WL.yld rfl (blt rfl) rfl (Y.fieldAddr rfl Try.underlying46 rfl ti9 (by decide) rfl) ?_
  refine WL.yld rfl (blt rfl) rfl (Y.load1 rfl Try.underlying9 rfl rfl (Blk.at_eq m6 rfl)) ?_
  refine WL.yld rfl (blt rfl) rfl (Y.fieldAddr rfl Try.underlying46 rfl ti9 (by decide) rfl) ?_
  refine WL.yld rfl (blt rfl) rfl (Y.load1 rfl Try.underlying9 rfl rfl (Blk.at_eq m11 rfl)) ?_
  refine WL.yld rfl (blt rfl) rfl (Y.neqStr rfl rfl rfl) ?_
  refine WL.yld rfl (blt rfl) rfl (Y.move rfl rfl) ?_
  refine WL.yldG rfl (blt rfl) rfl rfl rfl (fun hb => Y.fieldAddr rfl Try.underlying46 rfl ti44 (by decide) rfl) ?_
  refine WL.yldG rfl (blt rfl) rfl rfl rfl (fun hb => Y.load1 rfl Try.underlying44 rfl (evg rfl hb) (Blk.at_eq m6 rfl)) ?_
  refine WL.yldG rfl (blt rfl) rfl rfl rfl (fun hb => Y.lenSl rfl rfl rfl Try.underlying44 (evs_cons (evg rfl hb) evs_nil)) ?_
  refine WL.yldG rfl (blt rfl) rfl rfl rfl (fun hb => Y.fieldAddr rfl Try.underlying46 rfl ti44 (by decide) rfl) ?_
  refine WL.yldG rfl (blt rfl) rfl rfl rfl (fun hb => Y.load1 rfl Try.underlying44 rfl (evg rfl hb) (Blk.at_eq m11 rfl)) ?_
  refine WL.yldG rfl (blt rfl) rfl rfl rfl (fun hb => Y.lenSl rfl rfl rfl Try.underlying44 (evs_cons (evg rfl hb) evs_nil)) ?_
  refine WL.yldG rfl (blt rfl) rfl rfl rfl (fun hb => Y.neq rfl (evg rfl hb) (evg rfl hb)) ?_
  refine WL.yld rfl (blt rfl) rfl (Y.or rfl rfl rfl rfl) ?_
  refine WL.nil ?_
  refine WK.then_normal (k13 _ _ ?_)
  refine WC.sub [(2, _), (3, _), (19, _)] ⟨rfl, rfl, rfl, trivial⟩ ?_
  refine WC.cond rfl (fun h14 => ?_) (fun h14 => ?_)
  ·
    have p14 := ((or_t h14).imp (fun h => h) (fun h => (eq_f (not_t h))))
    refine WC.seq (fun K15 k15 => ?_)
    refine WC.region rfl ?_
    refine WL.yld rfl (blt rfl) rfl (Y.assign rfl rfl) ?_
    refine WL.nil ?_
    refine WK.then_normal (k15 _ _ ?_)
    refine WC.sub [(4, _)] ⟨rfl, trivial⟩ ?_
    refine WC.ret ?_
    refine WK.then_ret ?_
    clear k1 k12 k13 k15
    refine WK.ret [_] rfl ⟨rfl, trivial⟩ ?_
    exact ⟨ret1 (vb (Sx.q_no h14 e_x e_y).symm), xW⟩
  ·
    have p14 := (eq_t (not_f (or_f h14).2))
    have qy := Sx.q_yes h14
    have qy1 := qy.1
    refine WC.skip ?_
    refine WK.then_normal (k12 _ _ ?_)
    refine WC.sub [(2, _), (3, _)] ⟨rfl, rfl, trivial⟩ ?_
    refine WC.seq (fun K16 k16 => ?_)
    refine WC.seq (fun K17 k17 => ?_)
    refine WC.region rfl ?_
    refine WL.yld rfl (blt rfl) rfl (Y.assign rfl rfl) ?_
    refine WL.nil ?_
    refine WK.then_normal (k17 _ _ ?_)
    refine WC.block ?_
    refine WC.sub [(5, _), (2, _), (3, _)] ⟨rfl, rfl, rfl, trivial⟩ ?_
    refine WC.loopS 1 (fun mz Ed W' => ∃ i : Nat, mz = x.n - i ∧ Ed = [(5, .int .i64 ((i : Nat) : Int))] ∧ Ext w W' ∧ Blk W' g2 46 _ ∧ Blk W' g7 46 _ ∧ (i ≤ x.n) ∧ (∀ j, j < i → Sx.stS x.l[j]! y.l[j]! = true)) _ ⟨0, rfl, rfl, xW, m6, m11, (Nat.zero_le _), (fun j hj => absurd hj (Nat.not_lt_zero j))⟩ ?_
    rintro _ _ w18 ⟨i, rfl, rfl, xW, m6, m11, le_i, inv_i⟩
    refine WC.sub [(5, _), (2, _), (3, _)] ⟨rfl, rfl, rfl, trivial⟩ ?_
    refine WC.seq (fun K19 k19 => ?_)
    refine WC.seq (fun K20 k20 => ?_)
    refine WC.region rfl ?_
    refine WL.yld rfl (blt rfl) rfl (Y.move rfl rfl) ?_
    refine WL.yld rfl (blt rfl) rfl (Y.fieldAddr rfl Try.underlying46 rfl ti44 (by decide) rfl) ?_
    refine WL.yld rfl (blt rfl) rfl (Y.load1 rfl Try.underlying44 rfl rfl (Blk.at_eq m6 rfl)) ?_
    refine WL.yld rfl (blt rfl) rfl (Y.lenSl rfl rfl rfl Try.underlying44 rfl) ?_
    refine WL.yld rfl (blt rfl) rfl (Y.lss rfl rfl rfl) ?_
    refine WL.nil ?_
    refine WK.then_normal (k20 _ _ ?_)
    refine WC.sub [(2, _), (3, _), (5, _), (24, _)] ⟨rfl, rfl, rfl, rfl, trivial⟩ ?_
    refine WC.cond rfl (fun h21 => ?_) (fun h21 => ?_)
    ·
      have p21 := (dec_t h21)
      refine WC.skip ?_
      refine WK.then_normal (k19 _ _ ?_)
      refine WC.sub [(2, _), (3, _), (5, _)] ⟨rfl, rfl, rfl, trivial⟩ ?_
      refine WC.seq (fun K22 k22 => ?_)
      refine WC.block ?_
      refine WC.seq (fun K23 k23 => ?_)
      refine WC.regionDq (by kernel_rfl) (by kernel_rfl) rfl ?_
      refine WQ.yld rfl (blt rfl) rfl (Y.fieldAddr rfl Try.underlying46 rfl ti44 (by decide) rfl) ?_
      refine WQ.yld rfl (blt rfl) rfl (Y.load1 rfl Try.underlying44 rfl rfl (Blk.at_ext m6 rfl)) ?_
      refine WQ.yld rfl (blt rfl) rfl (Y.move rfl rfl) ?_
      have b24 : i < x.n := by omega
      refine WQ.yld rfl (blt rfl) rfl (Y.indexLs i (g_x.l.ext xW) rfl Try.underlying44 ti41 rfl rfl rfl b24) ?_
      refine WQ.yld rfl (blt rfl) rfl (Y.loadS (cs := [_, _, _, _, _, _, _, _, _, _, _, _, _]) rfl Try.underlying41 rfl ti41 rfl (Ls.part_ext (g_x.l.ext xW) b24 rfl)) ?_
      refine WQ.yld rfl (blt rfl) rfl (Y.fieldAddr rfl Try.underlying46 rfl ti44 (by decide) rfl) ?_
      refine WQ.yld rfl (blt rfl) rfl (Y.load1 rfl Try.underlying44 rfl rfl (Blk.at_ext m11 rfl)) ?_
      refine WQ.yld rfl (blt rfl) rfl (Y.move rfl rfl) ?_
      have b25 : i < y.n := by omega
      refine WQ.yld rfl (blt rfl) rfl (Y.indexLs i (g_y.l.ext xW) rfl Try.underlying44 ti41 rfl rfl rfl b25) ?_
      refine WQ.yld rfl (blt rfl) rfl (Y.loadS (cs := [_, _, _, _, _, _, _, _, _, _, _, _, _]) rfl Try.underlying41 rfl ti41 rfl (Ls.part_ext (g_y.l.ext xW) b25 rfl)) ?_
      refine WQ.call rfl (blt rfl) rfl rfl rfl has50 rfl (fun w hw => calls_ext hw (rsameS_any _ _ _ _ _ ((g_x.s _ (bang_mem (show i < x.l.length from by omega))).ext (Ext.trans xW hw)) ((g_y.s _ (bang_mem (show i < y.l.length from by omega))).ext (Ext.trans xW hw)))) ?_
      refine WQ.yld rfl (blt rfl) rfl (Y.not rfl rfl) ?_
      refine WQ.done (fun w26 x27 => ?_)
      have m6 := m6.ext x27
      have m11 := m11.ext x27
      have xW := Ext.trans xW x27
      refine WK.then_normal (k23 _ _ ?_)
      refine WC.sub [(2, _), (3, _), (5, _), (38, _)] ⟨rfl, rfl, rfl, rfl, trivial⟩ ?_
      refine WC.cond rfl (fun h28 => ?_) (fun h28 => ?_)
      ·
        refine WC.seq (fun K29 k29 => ?_)
        refine WC.region rfl ?_
        refine WL.yld rfl (blt rfl) rfl (Y.assign rfl rfl) ?_
        refine WL.nil ?_
        refine WK.then_normal (k29 _ _ ?_)
        refine WC.sub [(4, _)] ⟨rfl, trivial⟩ ?_
        refine WC.ret ?_
        refine WK.in_ret ?_
        refine WK.then_ret ?_
        refine WK.then_ret ?_
        refine WK.in_ret ?_
        refine WK.then_ret ?_
        clear k1 k12 k13 k16 k17 k19 k20 k22 k23 k29
        refine WK.ret [_] rfl ⟨rfl, trivial⟩ ?_
        refine ⟨ret1 (vb ?_), xW⟩
        rw [qy.2, Sx.al_hit (show i < x.l.length from by omega) (by have q := h28; rw [Bool.not_eq_true'] at q; exact q)]
      ·
        refine WC.skip ?_
        refine WK.in_normal ?_
        refine WK.then_normal (k22 _ _ ?_)
        refine WC.sub [(2, _), (3, _), (5, _)] ⟨rfl, rfl, rfl, trivial⟩ ?_
        refine WC.region rfl ?_
        refine WL.yld rfl (blt rfl) rfl (Y.move rfl rfl) ?_
        refine WL.yld rfl (blt rfl) rfl (Y.add rfl rfl rfl (wrap_i64 (by first | omega | (dsimp only; omega)))) ?_
        refine WL.yld rfl (blt rfl) rfl (Y.assign rfl rfl) ?_
        refine WL.nil ?_
        refine WK.roundS _ [(5, .int .i64 (((i + 1) : Nat) : Int))] ⟨rfl, rfl, rfl, trivial⟩ ?_ ⟨(i + 1), rfl, rfl, xW, m6, m11, (by omega), (fun j hj => by rcases Nat.lt_succ_iff_lt_or_eq.1 hj with h | h; exact inv_i j h; rw [h]; exact (by have q := h28; rw [Bool.not_eq_false'] at q; exact q))⟩
        show _ - (i + 1) < _ - i; omega
    ·
      have p21 := (dec_f h21)
      refine WC.exit ?_
      refine WK.then_exit ?_
      refine WK.then_exit ?_
      refine WK.in_exit ?_
      refine WK.then_normal (k16 _ _ ?_)
      refine WC.sub [] trivial ?_
      refine WC.seq (fun K30 k30 => ?_)
      refine WC.region rfl ?_
      refine WL.yld rfl (blt rfl) rfl (Y.assign rfl rfl) ?_
      refine WL.nil ?_
      refine WK.then_normal (k30 _ _ ?_)
      refine WC.ret ?_
      clear k1 k12 k13 k16 k17 k19 k20 k30
      refine WK.ret [_] rfl ⟨rfl, trivial⟩ ?_
      refine ⟨ret1 (vb ?_), xW⟩
      rw [qy.2, Sx.al_ok (by omega) fun j hj => inv_i j (by omega)]
end W
end SxW

end Go.Proofs.Ytklccakoblibmaa
