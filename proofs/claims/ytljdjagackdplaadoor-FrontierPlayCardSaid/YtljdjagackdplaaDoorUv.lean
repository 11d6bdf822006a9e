/-
  The document's edges that are loaded, walked.
-/
import Derived.Test.YtljdjagackdplaaDoorUn
namespace Go.Proofs.YtljdjagackdplaaDoor.L
open Go
set_option linter.unusedSectionVars false
variable [Globs] [Has_sha_table] [Has_sha_begin]
set_option linter.unusedVariables false
def rfL (b : Nat) (ss : List Nat) (hs : List Hash) (A1 : Option Addr) (c1 : Nat) (A2 : Option Addr) (c2 : Nat) : List Res :=
  [own b 50 [is (.slice A1 (nums ss).length c1), is (.slice A2 hs.length c2)], row (.slice A1 (nums ss).length c1) 3 (intT .i64).toTy (nums ss), row (.slice A2 hs.length c2) 23 hashT.toTy hs]
theorem nums_snoc (ss : List Nat) (s : Nat) : nums ss ++ [(s : Int)] = nums (ss ++ [s]) := by unfold nums; rw [List.map_append]; rfl
theorem nums_nil : nums [] = [] := rfl
set_option linter.unusedVariables false
set_option linter.unusedSimpArgs false
attribute [local irreducible] J Lq E OpP PRun is any agg tup ptr sl PRunW OpE PRunV OpV star
attribute [local irreducible] up2 mroot nodeH leafH emptyH shaH ownAt row someL leafOf splitZ split rv join2 edge rootE o1 o2 o3 frV fre nums szs
theorem rload_bad (n : Int) (hs : List Hash) (hl : hs.length ≤ 100000) (h0 : -9223372036854775808 ≤ n ∧ n ≤ 9223372036854775807) (h : n < 0 ∨ pop n.toNat ≠ hs.length) : Fn Tryd.prog 24 [is (.int .i64 n), sl hashT.toTy hs] (tup [is (.pointer none), is (.int .i64 2)]) := by
  by_cases h1 : n < 0
  · refine Fn.mk' 43 Tryd.func24 rfl rfl rfl rfl fun w0 H0 => ?_
    repeat (first | ((first | (apply Lq.s; rfl) | apply PRun.s | (apply Lq.run; rfl; rfl; rfl; exact bsB) | (apply PRun.run; rfl; rfl; exact bsB)); first | (exact bsO)) | apply J.seq | apply E.next | apply J.lq | apply Lq.nil | apply PRun.nil | apply J.block | apply E.in_normal | apply J.skip | (apply Lq.store; rfl; rfl; exact bsP; exact bsS; rfl; rfl) | (apply PRun.al; rfl) | (apply Lq.al; rfl; rfl; intro b) | (apply Open.cons; intro b) | apply Open.nil | (apply Lq.pass; rfl; rfl; rfl) | (apply PRun.pass; rfl; rfl) | (apply Lq.skip; rfl; rfl; rfl; exact bsB) | (apply PRun.skip; rfl; rfl; exact bsB) | (apply J.drawN; exact mixed; kernel_rfl) | (apply J.cond_t; rfl) | (apply J.cond_f; rfl) | apply J.exit | apply E.then_exit | apply E.in_exit | (apply E.in_other; rfl))
    (refine J.ret ?_; (repeat (first | refine E.then_ret ?_ | refine E.in_ret ?_)))
    exact E.ret2 rfl rfl rfl
  · obtain ⟨m, rfl⟩ : ∃ m : Nat, n = m := ⟨n.toNat, by omega⟩
    rw [Int.toNat_natCast] at h
    have ho := rones_fn m (by omega)
    have hne : pop m ≠ hs.length := by
      rcases h with h | h
      · omega
      · exact h
    generalize pop m = r at *
    refine Fn.mk' 43 Tryd.func24 rfl rfl rfl rfl fun w0 H0 => ?_
    repeat (first | ((first | (apply Lq.s; rfl) | apply PRun.s | (apply Lq.run; rfl; rfl; rfl; exact bsB) | (apply PRun.run; rfl; rfl; exact bsB)); first | (apply op_call ho; exact bsD) | (apply op_len (xs := hs); rfl) | (exact bsO)) | apply J.seq | apply E.next | apply J.lq | apply Lq.nil | apply PRun.nil | apply J.block | apply E.in_normal | apply J.skip | (apply Lq.store; rfl; rfl; exact bsP; exact bsS; rfl; rfl) | (apply PRun.al; rfl) | (apply Lq.al; rfl; rfl; intro b) | (apply Open.cons; intro b) | apply Open.nil | (apply Lq.pass; rfl; rfl; rfl) | (apply PRun.pass; rfl; rfl) | (apply Lq.skip; rfl; rfl; rfl; exact bsB) | (apply PRun.skip; rfl; rfl; exact bsB) | (apply J.drawN; exact mixed; kernel_rfl) | (apply J.cond_t; rfl) | (apply J.cond_f; rfl) | apply J.exit | apply E.then_exit | apply E.in_exit | (apply E.in_other; rfl))
    (refine J.ret ?_; (repeat (first | refine E.then_ret ?_ | refine E.in_ret ?_)))
    exact E.ret2 rfl rfl rfl
set_option maxHeartbeats 1000000 in
theorem rload_fnR (n : Nat) (hs : List Hash) (hl : hs.length ≤ 90000) (hn : n ≤ 9223372036854775807) (hp : hs.length = pop n) : FnR Tryd.prog 24 [is (.int .i64 (n : Int)), sl hashT.toTy hs] []
    (fun ψ Δ => ∃ fb A1 c1 A2 c2, ψ = tup [is (.pointer (some ⟨fb, 0, none⟩)), is (.int .i64 0)] ∧ Δ = rfL fb (szs n) hs A1 c1 A2 c2) := by
  have ho := rones_fn n hn
  rw [← hp] at ho
  have hsl := szs_len n
  refine FnR.mk' 43 Tryd.func24 rfl rfl rfl rfl fun w0 H0 => ?_
  refine J.nilrow 3 (intT .i64).toTy ?_
  repeat (first | ((first | (apply Lq.s; rfl) | apply PRun.s | (apply Lq.run; rfl; rfl; rfl; exact bsB) | (apply PRun.run; rfl; rfl; exact bsB)); first | (apply op_call ho; exact bsD) | (apply op_len (xs := hs); rfl) | (exact bsO)) | apply J.seq | apply E.next | apply J.lq | apply Lq.nil | apply PRun.nil | apply J.block | apply E.in_normal | apply J.skip | (apply Lq.store; rfl; rfl; exact bsP; exact bsS; rfl; rfl) | (apply PRun.al; rfl) | (apply Lq.al; rfl; rfl; intro b) | (apply Open.cons; intro b) | apply Open.nil | (apply Lq.pass; rfl; rfl; rfl) | (apply PRun.pass; rfl; rfl) | (apply Lq.skip; rfl; rfl; rfl; exact bsB) | (apply PRun.skip; rfl; rfl; exact bsB) | (apply J.cond_t; rfl) | (apply J.cond_f; rfl) | apply J.exit | apply E.then_exit | apply E.in_exit | (apply E.in_other; rfl))
  (apply Lq.bsl (T := hashT) (xs := []); rfl; (repeat (first | exact PO.nil _ | (apply PO.cons; rfl))); rfl; rfl; rfl)
  intro A1 c1
  repeat (first | ((first | (apply Lq.s; rfl) | apply PRun.s | (apply Lq.run; rfl; rfl; rfl; exact bsB) | (apply PRun.run; rfl; rfl; exact bsB)); first | (exact bsO)) | apply J.seq | apply E.next | apply J.lq | apply Lq.nil | apply PRun.nil | apply J.block | apply E.in_normal | apply J.skip | (apply Lq.store; rfl; rfl; exact bsP; exact bsS; rfl; rfl) | (apply PRun.al; rfl) | (apply Lq.al; rfl; rfl; intro b) | (apply Open.cons; intro b) | apply Open.nil | (apply Lq.pass; rfl; rfl; rfl) | (apply PRun.pass; rfl; rfl) | (apply Lq.skip; rfl; rfl; rfl; exact bsB) | (apply PRun.skip; rfl; rfl; exact bsB) | (apply J.cond_t; rfl) | (apply J.cond_f; rfl) | apply J.exit | apply E.then_exit | apply E.in_exit | (apply E.in_other; rfl))
  (apply Lq.append (T := hashT) (xs := []) (ys := hs); rfl; exact List.Perm.refl _; (apply From.sl; rfl); rfl; rfl; rfl; (show 0 + _ ≤ maxLen; unfold maxLen; omega); (show (0 + _) * 32 ≤ _; omega))
  intro A2 c2
  rw [List.nil_append]
  repeat (first | ((first | (apply Lq.s; rfl) | apply PRun.s | (apply Lq.run; rfl; rfl; rfl; exact bsB) | (apply PRun.run; rfl; rfl; exact bsB)); first | (exact bsO)) | apply J.seq | apply E.next | apply J.lq | apply Lq.nil | apply PRun.nil | apply J.block | apply E.in_normal | apply J.skip | (apply Lq.store; rfl; rfl; exact bsP; exact bsS; rfl; rfl) | (apply PRun.al; rfl) | (apply Lq.al; rfl; rfl; intro b) | (apply Open.cons; intro b) | apply Open.nil | (apply Lq.pass; rfl; rfl; rfl) | (apply PRun.pass; rfl; rfl) | (apply Lq.skip; rfl; rfl; rfl; exact bsB) | (apply PRun.skip; rfl; rfl; exact bsB) | (apply J.cond_t; rfl) | (apply J.cond_f; rfl) | apply J.exit | apply E.then_exit | apply E.in_exit | (apply E.in_other; rfl))
  refine Lq.box rfl rfl Seg.agg ?_
  intro fb
  repeat (first | ((first | (apply Lq.s; rfl) | apply PRun.s | (apply Lq.run; rfl; rfl; rfl; exact bsB) | (apply PRun.run; rfl; rfl; exact bsB)); first | (exact bsO)) | apply J.seq | apply E.next | apply J.lq | apply Lq.nil | apply PRun.nil | apply J.block | apply E.in_normal | apply J.skip | (apply Lq.store; rfl; rfl; exact bsP; exact bsS; rfl; rfl) | (apply PRun.al; rfl) | (apply Lq.al; rfl; rfl; intro b) | (apply Open.cons; intro b) | apply Open.nil | (apply Lq.pass; rfl; rfl; rfl) | (apply PRun.pass; rfl; rfl) | (apply Lq.skip; rfl; rfl; rfl; exact bsB) | (apply PRun.skip; rfl; rfl; exact bsB) | (apply J.cond_t; rfl) | (apply J.cond_f; rfl) | apply J.exit | apply E.then_exit | apply E.in_exit | (apply E.in_other; rfl))
  refine J.loop (fun p : Nat × Nat × List Nat × Option Addr × Nat => p.1 ≤ 63 ∧ p.2.1 < 2 ^ p.1 ∧ p.2.2.1 ++ szs p.2.1 = szs n)
    (fun p => [(0, is (.int .i64 (p.2.1 : Int))), (6, is (.pointer (some ⟨fb, 0, none⟩))), (7, is (.int .i64 ((2 ^ p.1 / 2 : Nat) : Int)))]) (fun p => rfL fb p.2.2.1 hs p.2.2.2.1 p.2.2.2.2 A2 c2) (fun p => p.1) (63, n, [], none, 0) ⟨Nat.le_refl _, by dsimp only; omega, rfl⟩ ?_ ?_
  · dsimp only
    unfold rfL
    rw [nums_nil]
    exact ⟨(by repeat' (first | exact trivial | refine ⟨rfl, ?_⟩)), [], List.Perm.cons _ (List.Perm.swap _ _ _)⟩
  rintro ⟨j, m, ss, A, c⟩ ⟨hj, hm, hss⟩
  dsimp only at hj hm hss ⊢
  have hlen := congrArg List.length hss
  rw [List.length_append] at hlen
  have hnl := nums_len ss
  cases j with
  | zero =>
    have hm0 : m = 0 := by omega
    subst hm0
    rw [szs_0, List.append_nil] at hss
    rw [hss, show 2 ^ 0 / 2 = 0 from rfl]
    repeat (first | ((first | (apply Lq.s; rfl) | apply PRun.s | (apply Lq.run; rfl; rfl; rfl; exact bsB) | (apply PRun.run; rfl; rfl; exact bsB)); first | (exact bsO)) | apply J.seq | apply E.next | apply J.lq | apply Lq.nil | apply PRun.nil | apply J.block | apply E.in_normal | apply J.skip | (apply Lq.store; rfl; rfl; exact bsP; exact bsS; rfl; rfl) | (apply PRun.al; rfl) | (apply Lq.al; rfl; rfl; intro b) | (apply Open.cons; intro b) | apply Open.nil | (apply Lq.pass; rfl; rfl; rfl) | (apply PRun.pass; rfl; rfl) | (apply Lq.skip; rfl; rfl; rfl; exact bsB) | (apply PRun.skip; rfl; rfl; exact bsB) | (apply J.cond_t; rfl) | (apply J.cond_f; rfl) | apply J.exit | apply E.then_exit | apply E.in_exit | (apply E.in_other; rfl))
    (refine J.ret ?_; (repeat (first | refine E.then_ret ?_ | refine E.in_ret ?_)))
    exact E.retR2 (Δ' := rfL fb (szs n) hs A c A2 c2) (G := []) rfl rfl rfl ⟨fb, A, c, A2, c2, rfl, rfl⟩ (by rw [List.append_nil])
  | succ i =>
    have hpj : 2 ^ (i + 1) / 2 = 2 ^ i := by rw [Nat.pow_succ]; omega
    have hp2 : 2 ^ i ≤ 2 ^ 62 := Nat.pow_le_pow_right (by decide) (by omega)
    have hp2 : 2 ^ i ≤ 4611686018427387904 := hp2
    have hps : 2 ^ (i + 1) = 2 * 2 ^ i := by rw [Nat.pow_succ]; omega
    rw [hpj]
    by_cases hq : 2 ^ i ≤ m
    · have htop := szs_top hq hm
      rw [hps] at hm
      generalize hqq : 2 ^ i = q at *
      unfold rfL
      repeat (first | ((first | (apply Lq.s; rfl) | apply PRun.s | (apply Lq.run; rfl; rfl; rfl; exact bsB) | (apply PRun.run; rfl; rfl; exact bsB)); first | (apply op_ocell; rfl; exact bsM; rfl) | (apply op_bslice (intT .i64) (xs := [(q : Int)]); (repeat (first | exact PO.nil _ | (apply PO.cons; rfl))); rfl; rfl; rfl) | (exact bsO)) | apply J.seq | apply E.next | apply J.lq | apply Lq.nil | apply PRun.nil | apply J.block | apply E.in_normal | apply J.skip | (apply Lq.store; rfl; rfl; exact bsP; exact bsS; rfl; rfl) | (apply PRun.al; rfl) | (apply Lq.al; rfl; rfl; intro b) | (apply Open.cons; intro b) | apply Open.nil | (apply Lq.pass; rfl; rfl; rfl) | (apply PRun.pass; rfl; rfl) | (apply Lq.skip; rfl; rfl; rfl; exact bsB) | (apply PRun.skip; rfl; rfl; exact bsB) | (apply J.cond_t; rfl) | (apply J.cond_f; rfl) | apply J.exit | apply E.then_exit | apply E.in_exit | (apply E.in_other; rfl))
      (apply Lq.append (T := intT .i64) (xs := nums ss) (ys := [(q : Int)]); rfl; exact List.Perm.swap _ _ _; (apply From.sl; rfl); rfl; rfl; rfl; (show _ + 1 ≤ maxLen; unfold maxLen; omega); (show (_ + 1) * 8 ≤ _; omega))
      intro A3 c3
      rw [nums_snoc]
      repeat (first | ((first | (apply Lq.s; rfl) | apply PRun.s | (apply Lq.run; rfl; rfl; rfl; exact bsB) | (apply PRun.run; rfl; rfl; exact bsB)); first | (apply op_sub (c := ((m - q : Nat) : Int)); rfl; rfl; (rw [show (m : Int) - (q : Int) = ((m - q : Nat) : Int) by omega]; apply wrapi <;> omega)) | (apply op_quon (m := q) (n := 2); rfl; rfl; decide; omega) | (exact bsO)) | apply J.seq | apply E.next | apply J.lq | apply Lq.nil | apply PRun.nil | apply J.block | apply E.in_normal | apply J.skip | (apply Lq.store; rfl; rfl; exact bsP; exact bsS; rfl; rfl) | (apply PRun.al; rfl) | (apply Lq.al; rfl; rfl; intro b) | (apply Open.cons; intro b) | apply Open.nil | (apply Lq.pass; rfl; rfl; rfl) | (apply PRun.pass; rfl; rfl) | (apply Lq.skip; rfl; rfl; rfl; exact bsB) | (apply PRun.skip; rfl; rfl; exact bsB) | (apply J.cond_t; rfl) | (apply J.cond_f; rfl) | apply J.exit | apply E.then_exit | apply E.in_exit | (apply E.in_other; rfl))
      exact E.again (i, m - q, ss ++ [q], A3, c3) (by dsimp only; omega) ⟨by dsimp only; omega, by dsimp only; rw [hqq]; omega, by dsimp only; rw [List.append_assoc]; show ss ++ (q :: szs (m - q)) = _; rw [← htop]; exact hss⟩ (by dsimp only; rw [hqq]; exact ⟨(by repeat' (first | exact trivial | refine ⟨rfl, ?_⟩)), [], List.Perm.refl _⟩)
    · generalize hqq : 2 ^ i = q at *
      repeat (first | ((first | (apply Lq.s; rfl) | apply PRun.s | (apply Lq.run; rfl; rfl; rfl; exact bsB) | (apply PRun.run; rfl; rfl; exact bsB)); first | (apply op_quon (m := q) (n := 2); rfl; rfl; decide; omega) | (exact bsO)) | apply J.seq | apply E.next | apply J.lq | apply Lq.nil | apply PRun.nil | apply J.block | apply E.in_normal | apply J.skip | (apply Lq.store; rfl; rfl; exact bsP; exact bsS; rfl; rfl) | (apply PRun.al; rfl) | (apply Lq.al; rfl; rfl; intro b) | (apply Open.cons; intro b) | apply Open.nil | (apply Lq.pass; rfl; rfl; rfl) | (apply PRun.pass; rfl; rfl) | (apply Lq.skip; rfl; rfl; rfl; exact bsB) | (apply PRun.skip; rfl; rfl; exact bsB) | (apply J.cond_t; rfl) | (apply J.cond_f; rfl) | apply J.exit | apply E.then_exit | apply E.in_exit | (apply E.in_other; rfl))
      exact E.again (i, m, ss, A, c) (by dsimp only; omega) ⟨by dsimp only; omega, by dsimp only; rw [hqq]; omega, hss⟩ (by dsimp only; rw [hqq]; exact (Sub.same (by repeat' (first | exact trivial | refine ⟨rfl, ?_⟩))))
end Go.Proofs.YtljdjagackdplaaDoor.L
