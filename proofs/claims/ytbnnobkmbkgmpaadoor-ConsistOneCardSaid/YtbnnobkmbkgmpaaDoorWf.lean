/-
  Both checks, the examples of layer 12.
-/
import Derived.Test.YtbnnobkmbkgmpaaDoorWe
import Derived.Test.YtbnnobkmbkgmpaaDoorWz
namespace Go.Proofs.YtbnnobkmbkgmpaaDoor.L
open Go
set_option linter.unusedSectionVars false
variable [Globs] [Has_sha_table] [Has_sha_begin]
theorem okC_all {m n : Nat} (h1 : 1 ≤ m) (hm : m ≤ n) (u v : Hash) (pr : List Hash) : okC m n u v pr = ((leadsR pr.reverse m n true u).2 && decide ((leadsR pr.reverse m n true u).1 = (u, v))) := by
  by_cases he : m = n
  · subst he
    rw [leadsR_yes, List.length_reverse]
    unfold okC
    rw [if_pos rfl]
    cases pr <;> simp
  · exact okC_ref h1 (by omega) u v pr
/-- What a check tells. -/
def chkC (m n : Int) (u v : Hash) (pr : List Hash) : Int := if m < 1 ∨ n < m then 2 else if okC m.toNat n.toNat u v pr = true then 0 else 110
theorem chkC_bad {m n : Int} (h : m < 1 ∨ n < m) (u v : Hash) (pr : List Hash) : chkC m n u v pr = 2 := if_pos h
theorem chkC_ok {m n : Nat} (h1 : 1 ≤ m) (hm : m ≤ n) (u v : Hash) (pr : List Hash) : chkC m n u v pr = if okC m n u v pr = true then 0 else 110 := by
  unfold chkC
  rw [if_neg (by omega), Int.toNat_natCast, Int.toNat_natCast]
theorem check_fn (m n : Int) (u v : Hash) (pr : List Hash) (hn : n ≤ 9223372036854775807) (hl : pr.length ≤ 80000) : Fn Tryd.prog 14 [is (.int .i64 m), is (.int .i64 n), hashT.val u, hashT.val v, sl hashT.toTy pr] (is (.int .i64 (chkC m n u v pr))) := by
  by_cases h : m < 1 ∨ n < m
  · rw [chkC_bad h]
    exact check_bad m n u v pr h
  · obtain ⟨a, rfl⟩ : ∃ a : Nat, m = a := ⟨m.toNat, by omega⟩
    obtain ⟨c, rfl⟩ : ∃ c : Nat, n = c := ⟨n.toNat, by omega⟩
    rw [chkC_ok (by omega) (by omega)]
    by_cases he : a = c
    · subst he
      have : okC a a u v pr = (pr.isEmpty && decide (u = v)) := by unfold okC; rw [if_pos rfl]
      rw [this]
      exact check_same a u v pr (by omega)
    · exact check_lt a c u v pr (by omega) (by omega) (by omega) hl
theorem tup3_eq {x y x' y' : Hash} : ((x, y) = (x', y')) ↔ (x = x' ∧ y = y') := Prod.mk.injEq x y x' y' ▸ Iff.rfl
theorem cprove_fn (l : List Hash) (m : Nat) (hl : l.length ≤ 90000) (h1 : 1 ≤ m) (hm : m ≤ l.length) : Fn Tryd.prog 10 [sl hashT.toTy l, is (.int .i64 (m : Int))] (tup [sl hashT.toTy (cpart l m true), is (.int .i64 0)]) := (cprove_fnR l m hl h1 hm).frz2
set_option linter.unusedVariables false
set_option linter.unusedSimpArgs false
attribute [local irreducible] J Lq E OpP PRun is any agg tup ptr sl PRunW OpE
attribute [local irreducible] up2 mroot nodeH leafH emptyH shaH ownAt row someL leafOf splitZ split rv ways pairT cpart leadsR okC chkC
variable [Has_ref02_k]
set_option maxHeartbeats 1000000 in
theorem refcheck_fn (m n : Int) (u v : Hash) (pr : List Hash) (hn : n ≤ 9223372036854775807) (hl : pr.length ≤ 80000) : Fn Tryd.prog 15 [is (.int .i64 m), is (.int .i64 n), hashT.val u, hashT.val v, sl hashT.toTy pr] (is (.int .i64 (chkC m n u v pr))) := by
  by_cases h : m < 1 ∨ n < m
  · rw [chkC_bad h]
    by_cases h1 : m < 1
    · refine Fn.mk' 42 Tryd.func15 rfl rfl rfl rfl fun w0 H0 => ?_
      repeat (first | ((first | (apply Lq.s; rfl) | apply PRun.s | (apply Lq.run; rfl; rfl; rfl; exact bsB) | (apply PRun.run; rfl; rfl; exact bsB)); first | (apply op_box hashT; rfl) | (exact bsO)) | apply J.seq | apply E.next | apply J.lq | apply Lq.nil | apply PRun.nil | apply J.block | apply E.in_normal | apply J.skip | (apply Lq.store; rfl; rfl; exact bsP; exact bsS; rfl; rfl) | (apply PRun.al; rfl) | (apply Lq.al; rfl; rfl; intro b) | (apply Open.cons; intro b) | apply Open.nil | (apply Lq.pass; rfl; rfl; rfl) | (apply PRun.pass; rfl; rfl) | (apply Lq.skip; rfl; rfl; rfl; exact bsB) | (apply PRun.skip; rfl; rfl; exact bsB) | (apply J.cond_t; rfl) | (apply J.cond_f; rfl) | apply J.exit | apply E.then_exit | apply E.in_exit | (apply E.in_other; rfl))
      (refine J.ret ?_; (repeat (first | refine E.then_ret ?_ | refine E.in_ret ?_)))
      exact E.ret1 rfl rfl
    · have h2 : n < m := by omega
      refine Fn.mk' 42 Tryd.func15 rfl rfl rfl rfl fun w0 H0 => ?_
      repeat (first | ((first | (apply Lq.s; rfl) | apply PRun.s | (apply Lq.run; rfl; rfl; rfl; exact bsB) | (apply PRun.run; rfl; rfl; exact bsB)); first | (apply op_box hashT; rfl) | (exact bsO)) | apply J.seq | apply E.next | apply J.lq | apply Lq.nil | apply PRun.nil | apply J.block | apply E.in_normal | apply J.skip | (apply Lq.store; rfl; rfl; exact bsP; exact bsS; rfl; rfl) | (apply PRun.al; rfl) | (apply Lq.al; rfl; rfl; intro b) | (apply Open.cons; intro b) | apply Open.nil | (apply Lq.pass; rfl; rfl; rfl) | (apply PRun.pass; rfl; rfl) | (apply Lq.skip; rfl; rfl; rfl; exact bsB) | (apply PRun.skip; rfl; rfl; exact bsB) | (apply J.cond_t; rfl) | (apply J.cond_f; rfl) | apply J.exit | apply E.then_exit | apply E.in_exit | (apply E.in_other; rfl))
      (refine J.ret ?_; (repeat (first | refine E.then_ret ?_ | refine E.in_ret ?_)))
      exact E.ret1 rfl rfl
  · obtain ⟨a, rfl⟩ : ∃ a : Nat, m = a := ⟨m.toNat, by omega⟩
    obtain ⟨c, rfl⟩ : ∃ c : Nat, n = c := ⟨n.toNat, by omega⟩
    rw [chkC_ok (by omega) (by omega), okC_all (by omega) (by omega)]
    have hlead := leads_fn pr.length pr a c true u rfl (by omega) (by omega) (by omega) (by omega)
    generalize leadsR pr.reverse a c true u = R at *
    obtain ⟨⟨x, y⟩, ok⟩ := R
    dsimp only at hlead ⊢
    cases ok with
    | false =>
      rw [Bool.false_and, if_neg (by decide)]
      refine Fn.mk' 42 Tryd.func15 rfl rfl rfl rfl fun w0 H0 => ?_
      repeat (first | ((first | (apply Lq.s; rfl) | apply PRun.s | (apply Lq.run; rfl; rfl; rfl; exact bsB) | (apply PRun.run; rfl; rfl; exact bsB)); first | (apply op_box hashT; rfl) | (apply op_load hashT; rfl) | (apply op_call hlead; exact bsD) | (exact bsO)) | apply J.seq | apply E.next | apply J.lq | apply Lq.nil | apply PRun.nil | apply J.block | apply E.in_normal | apply J.skip | (apply Lq.store; rfl; rfl; exact bsP; exact bsS; rfl; rfl) | (apply PRun.al; rfl) | (apply Lq.al; rfl; rfl; intro b) | (apply Open.cons; intro b) | apply Open.nil | (apply Lq.pass; rfl; rfl; rfl) | (apply PRun.pass; rfl; rfl) | (apply Lq.skip; rfl; rfl; rfl; exact bsB) | (apply PRun.skip; rfl; rfl; exact bsB) | (apply J.cond_t; rfl) | (apply J.cond_f; rfl) | apply J.exit | apply E.then_exit | apply E.in_exit | (apply E.in_other; rfl))
      (apply Lq.storeE (φs' := hashT.cells x); rfl; rfl; exact List.Perm.swap _ _ _; exact Seg.val _ _; exact hashT.len _; exact Nat.le_refl 32; exact splice_all (by rw [hashT.len]; rfl)); (apply Lq.storeE (φs' := hashT.cells y); rfl; rfl; exact List.Perm.swap _ _ _; exact Seg.val _ _; exact hashT.len _; exact Nat.le_refl 32; exact splice_all (by rw [hashT.len]; rfl))
      repeat (first | ((first | (apply Lq.s; rfl) | apply PRun.s | (apply Lq.run; rfl; rfl; rfl; exact bsB) | (apply PRun.run; rfl; rfl; exact bsB)); first | (exact bsO)) | apply J.seq | apply E.next | apply J.lq | apply Lq.nil | apply PRun.nil | apply J.block | apply E.in_normal | apply J.skip | (apply Lq.store; rfl; rfl; exact bsP; exact bsS; rfl; rfl) | (apply PRun.al; rfl) | (apply Lq.al; rfl; rfl; intro b) | (apply Open.cons; intro b) | apply Open.nil | (apply Lq.pass; rfl; rfl; rfl) | (apply PRun.pass; rfl; rfl) | (apply Lq.skip; rfl; rfl; rfl; exact bsB) | (apply PRun.skip; rfl; rfl; exact bsB) | (apply J.cond_t; rfl) | (apply J.cond_f; rfl) | apply J.exit | apply E.then_exit | apply E.in_exit | (apply E.in_other; rfl))
      (refine J.ret ?_; (repeat (first | refine E.then_ret ?_ | refine E.in_ret ?_)))
      exact E.ret1 rfl rfl
    | true =>
      rw [Bool.true_and]
      by_cases hx : x = u
      · by_cases hy : y = v
        · rw [if_pos (decide_eq_true (by rw [hx, hy]))]
          refine Fn.mk' 42 Tryd.func15 rfl rfl rfl rfl fun w0 H0 => ?_
          repeat (first | ((first | (apply Lq.s; rfl) | apply PRun.s | (apply Lq.run; rfl; rfl; rfl; exact bsB) | (apply PRun.run; rfl; rfl; exact bsB)); first | (apply op_box hashT; rfl) | (apply op_load hashT; rfl) | (apply op_call hlead; exact bsD) | (exact bsO)) | apply J.seq | apply E.next | apply J.lq | apply Lq.nil | apply PRun.nil | apply J.block | apply E.in_normal | apply J.skip | (apply Lq.store; rfl; rfl; exact bsP; exact bsS; rfl; rfl) | (apply PRun.al; rfl) | (apply Lq.al; rfl; rfl; intro b) | (apply Open.cons; intro b) | apply Open.nil | (apply Lq.pass; rfl; rfl; rfl) | (apply PRun.pass; rfl; rfl) | (apply Lq.skip; rfl; rfl; rfl; exact bsB) | (apply PRun.skip; rfl; rfl; exact bsB) | (apply J.cond_t; rfl) | (apply J.cond_f; rfl) | apply J.exit | apply E.then_exit | apply E.in_exit | (apply E.in_other; rfl))
          (apply Lq.storeE (φs' := hashT.cells x); rfl; rfl; exact List.Perm.swap _ _ _; exact Seg.val _ _; exact hashT.len _; exact Nat.le_refl 32; exact splice_all (by rw [hashT.len]; rfl)); (apply Lq.storeE (φs' := hashT.cells y); rfl; rfl; exact List.Perm.swap _ _ _; exact Seg.val _ _; exact hashT.len _; exact Nat.le_refl 32; exact splice_all (by rw [hashT.len]; rfl))
          repeat (first | ((first | (apply Lq.s; rfl) | apply PRun.s | (apply Lq.run; rfl; rfl; rfl; exact bsB) | (apply PRun.run; rfl; rfl; exact bsB)); first | (apply op_oload hashT (x := x); rfl; exact bsM; exact at_hash x) | (apply op_oload hashT (x := y); rfl; exact bsM; exact at_hash y) | (apply op_load hashT; rfl) | (apply op_neA_f (T := hashT) (m := 2) (eqd_arr eqd_u8) rfl rfl; rfl; rfl; first | exact hx | exact hy) | (apply op_neA_t (T := hashT) (m := 2) (eqd_arr eqd_u8) rfl rfl; rfl; rfl; first | exact hx | exact hy) | (exact bsO)) | apply J.seq | apply E.next | apply J.lq | apply Lq.nil | apply PRun.nil | apply J.block | apply E.in_normal | apply J.skip | (apply Lq.store; rfl; rfl; exact bsP; exact bsS; rfl; rfl) | (apply PRun.al; rfl) | (apply Lq.al; rfl; rfl; intro b) | (apply Open.cons; intro b) | apply Open.nil | (apply Lq.pass; rfl; rfl; rfl) | (apply PRun.pass; rfl; rfl) | (apply Lq.skip; rfl; rfl; rfl; exact bsB) | (apply PRun.skip; rfl; rfl; exact bsB) | (apply J.cond_t; rfl) | (apply J.cond_f; rfl) | apply J.exit | apply E.then_exit | apply E.in_exit | (apply E.in_other; rfl))
          (refine J.ret ?_; (repeat (first | refine E.then_ret ?_ | refine E.in_ret ?_)))
          exact E.ret1 rfl rfl
        · rw [if_neg (by rw [decide_eq_true_iff, tup3_eq]; exact fun h => hy h.2)]
          refine Fn.mk' 42 Tryd.func15 rfl rfl rfl rfl fun w0 H0 => ?_
          repeat (first | ((first | (apply Lq.s; rfl) | apply PRun.s | (apply Lq.run; rfl; rfl; rfl; exact bsB) | (apply PRun.run; rfl; rfl; exact bsB)); first | (apply op_box hashT; rfl) | (apply op_load hashT; rfl) | (apply op_call hlead; exact bsD) | (exact bsO)) | apply J.seq | apply E.next | apply J.lq | apply Lq.nil | apply PRun.nil | apply J.block | apply E.in_normal | apply J.skip | (apply Lq.store; rfl; rfl; exact bsP; exact bsS; rfl; rfl) | (apply PRun.al; rfl) | (apply Lq.al; rfl; rfl; intro b) | (apply Open.cons; intro b) | apply Open.nil | (apply Lq.pass; rfl; rfl; rfl) | (apply PRun.pass; rfl; rfl) | (apply Lq.skip; rfl; rfl; rfl; exact bsB) | (apply PRun.skip; rfl; rfl; exact bsB) | (apply J.cond_t; rfl) | (apply J.cond_f; rfl) | apply J.exit | apply E.then_exit | apply E.in_exit | (apply E.in_other; rfl))
          (apply Lq.storeE (φs' := hashT.cells x); rfl; rfl; exact List.Perm.swap _ _ _; exact Seg.val _ _; exact hashT.len _; exact Nat.le_refl 32; exact splice_all (by rw [hashT.len]; rfl)); (apply Lq.storeE (φs' := hashT.cells y); rfl; rfl; exact List.Perm.swap _ _ _; exact Seg.val _ _; exact hashT.len _; exact Nat.le_refl 32; exact splice_all (by rw [hashT.len]; rfl))
          repeat (first | ((first | (apply Lq.s; rfl) | apply PRun.s | (apply Lq.run; rfl; rfl; rfl; exact bsB) | (apply PRun.run; rfl; rfl; exact bsB)); first | (apply op_oload hashT (x := x); rfl; exact bsM; exact at_hash x) | (apply op_oload hashT (x := y); rfl; exact bsM; exact at_hash y) | (apply op_load hashT; rfl) | (apply op_neA_f (T := hashT) (m := 2) (eqd_arr eqd_u8) rfl rfl; rfl; rfl; first | exact hx | exact hy) | (apply op_neA_t (T := hashT) (m := 2) (eqd_arr eqd_u8) rfl rfl; rfl; rfl; first | exact hx | exact hy) | (exact bsO)) | apply J.seq | apply E.next | apply J.lq | apply Lq.nil | apply PRun.nil | apply J.block | apply E.in_normal | apply J.skip | (apply Lq.store; rfl; rfl; exact bsP; exact bsS; rfl; rfl) | (apply PRun.al; rfl) | (apply Lq.al; rfl; rfl; intro b) | (apply Open.cons; intro b) | apply Open.nil | (apply Lq.pass; rfl; rfl; rfl) | (apply PRun.pass; rfl; rfl) | (apply Lq.skip; rfl; rfl; rfl; exact bsB) | (apply PRun.skip; rfl; rfl; exact bsB) | (apply J.cond_t; rfl) | (apply J.cond_f; rfl) | apply J.exit | apply E.then_exit | apply E.in_exit | (apply E.in_other; rfl))
          (refine J.ret ?_; (repeat (first | refine E.then_ret ?_ | refine E.in_ret ?_)))
          exact E.ret1 rfl rfl
      · rw [if_neg (by rw [decide_eq_true_iff, tup3_eq]; exact fun h => hx h.1)]
        refine Fn.mk' 42 Tryd.func15 rfl rfl rfl rfl fun w0 H0 => ?_
        repeat (first | ((first | (apply Lq.s; rfl) | apply PRun.s | (apply Lq.run; rfl; rfl; rfl; exact bsB) | (apply PRun.run; rfl; rfl; exact bsB)); first | (apply op_box hashT; rfl) | (apply op_load hashT; rfl) | (apply op_call hlead; exact bsD) | (exact bsO)) | apply J.seq | apply E.next | apply J.lq | apply Lq.nil | apply PRun.nil | apply J.block | apply E.in_normal | apply J.skip | (apply Lq.store; rfl; rfl; exact bsP; exact bsS; rfl; rfl) | (apply PRun.al; rfl) | (apply Lq.al; rfl; rfl; intro b) | (apply Open.cons; intro b) | apply Open.nil | (apply Lq.pass; rfl; rfl; rfl) | (apply PRun.pass; rfl; rfl) | (apply Lq.skip; rfl; rfl; rfl; exact bsB) | (apply PRun.skip; rfl; rfl; exact bsB) | (apply J.cond_t; rfl) | (apply J.cond_f; rfl) | apply J.exit | apply E.then_exit | apply E.in_exit | (apply E.in_other; rfl))
        (apply Lq.storeE (φs' := hashT.cells x); rfl; rfl; exact List.Perm.swap _ _ _; exact Seg.val _ _; exact hashT.len _; exact Nat.le_refl 32; exact splice_all (by rw [hashT.len]; rfl)); (apply Lq.storeE (φs' := hashT.cells y); rfl; rfl; exact List.Perm.swap _ _ _; exact Seg.val _ _; exact hashT.len _; exact Nat.le_refl 32; exact splice_all (by rw [hashT.len]; rfl))
        repeat (first | ((first | (apply Lq.s; rfl) | apply PRun.s | (apply Lq.run; rfl; rfl; rfl; exact bsB) | (apply PRun.run; rfl; rfl; exact bsB)); first | (apply op_oload hashT (x := x); rfl; exact bsM; exact at_hash x) | (apply op_oload hashT (x := y); rfl; exact bsM; exact at_hash y) | (apply op_load hashT; rfl) | (apply op_neA_f (T := hashT) (m := 2) (eqd_arr eqd_u8) rfl rfl; rfl; rfl; first | exact hx | exact hy) | (apply op_neA_t (T := hashT) (m := 2) (eqd_arr eqd_u8) rfl rfl; rfl; rfl; first | exact hx | exact hy) | (exact bsO)) | apply J.seq | apply E.next | apply J.lq | apply Lq.nil | apply PRun.nil | apply J.block | apply E.in_normal | apply J.skip | (apply Lq.store; rfl; rfl; exact bsP; exact bsS; rfl; rfl) | (apply PRun.al; rfl) | (apply Lq.al; rfl; rfl; intro b) | (apply Open.cons; intro b) | apply Open.nil | (apply Lq.pass; rfl; rfl; rfl) | (apply PRun.pass; rfl; rfl) | (apply Lq.skip; rfl; rfl; rfl; exact bsB) | (apply PRun.skip; rfl; rfl; exact bsB) | (apply J.cond_t; rfl) | (apply J.cond_f; rfl) | apply J.exit | apply E.then_exit | apply E.in_exit | (apply E.in_other; rfl))
        (refine J.ret ?_; (repeat (first | refine E.then_ret ?_ | refine E.in_ret ?_)))
        exact E.ret1 rfl rfl
end Go.Proofs.YtbnnobkmbkgmpaaDoor.L
