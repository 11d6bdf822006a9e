/-
  The document's proofs of inclusion, walked.
-/
import Derived.Test.YtkhgebacgkgpcaaDoorWl
import Derived.Test.YtkhgebacgkgpcaaDoorLu
import Derived.Test.YtkhgebacgkgpcaaDoorWz
namespace Go.Proofs.YtkhgebacgkgpcaaDoor.L
open Go
set_option linter.unusedSectionVars false
variable [Globs] [Has_sha_table] [Has_sha_begin]
theorem inc_le : ∀ (n : Nat) (l : List Hash) (i : Nat), l.length = n → (inc l i).length ≤ n := by
  intro n
  induction n using Nat.strongRecOn with
  | _ n ih =>
    intro l i hn
    by_cases h1 : n ≤ 1
    · rw [inc_one (by omega)]; exact Nat.zero_le _
    · obtain ⟨s1, s2, s3⟩ := split_lt (n := l.length) (by omega)
      have l1 : (l.take (split l.length)).length = split l.length := by rw [List.length_take]; omega
      have l2 : (l.drop (split l.length)).length = l.length - split l.length := List.length_drop
      by_cases hk : i < split l.length
      · rw [inc_left (by omega) hk, List.length_append]
        have := ih (split l.length) (by omega) _ i l1
        show _ + 1 ≤ n
        omega
      · rw [inc_right (by omega) (by omega), List.length_append]
        have := ih (l.length - split l.length) (by omega) _ (i - split l.length) l2
        show _ + 1 ≤ n
        omega
variable [Has_ref02_k]
set_option linter.unusedVariables false
set_option linter.unusedSimpArgs false
attribute [local irreducible] J Lq E OpP PRun is any agg tup ptr sl PRunW OpE
attribute [local irreducible] up2 mroot nodeH leafH emptyH shaH ownAt row someL leafOf splitZ split rv ways inc okI leadsI
set_option maxHeartbeats 1000000 in
theorem iref_fnR : ∀ (n : Nat) (l : List Hash) (i : Nat), l.length = n → n ≤ 90000 → i < n → FnR Tryd.prog 26 [sl hashT.toTy l, is (.int .i64 (i : Int))] [] (fun ψ Δ => ∃ A c, ψ = tup [is (.slice A (inc l i).length c), is (.int .i64 0)] ∧ Δ = [row (.slice A (inc l i).length c) 27 hashT.toTy (inc l i)]) := by
  intro n
  induction n using Nat.strongRecOn with
  | _ n ih =>
    intro l i hn hle hi
    refine FnR.mk' 60 Tryd.func26 rfl rfl rfl rfl fun w0 H0 => ?_
    by_cases h1 : l.length = 1
    · rw [inc_one (by omega)]
      refine J.nilrow 27 hashT.toTy ?_
      repeat (first | ((first | (apply Lq.s; rfl) | apply PRun.s | (apply Lq.run; rfl; rfl; rfl; exact bsB) | (apply PRun.run; rfl; rfl; exact bsB)); first | (exact bsO)) | apply J.seq | apply E.next | apply J.lq | apply Lq.nil | apply PRun.nil | apply J.block | apply E.in_normal | apply J.skip | (apply Lq.store; rfl; rfl; exact bsP; exact bsS; rfl; rfl) | (apply PRun.al; rfl) | (apply Lq.al; rfl; rfl; intro b) | (apply Open.cons; intro b) | apply Open.nil | (apply Lq.pass; rfl; rfl; rfl) | (apply PRun.pass; rfl; rfl) | (apply Lq.skip; rfl; rfl; rfl; exact bsB) | (apply PRun.skip; rfl; rfl; exact bsB) | (apply J.drawN; exact mixed; kernel_rfl) | (apply J.cond_t; rfl) | (apply J.cond_f; rfl) | apply J.exit | apply E.then_exit | apply E.in_exit | (apply E.in_other; rfl))
      (refine J.ret ?_; (repeat (first | refine E.then_ret ?_ | refine E.in_ret ?_)))
      exact E.retR2 (G := []) rfl rfl rfl ⟨none, 0, rfl, rfl⟩ (List.Perm.refl _)
    · obtain ⟨s1, s2, s3⟩ := split_lt (n := l.length) (by omega)
      have hsp := refsplitN_fn l.length (by omega)
      have l1 : (l.take (split l.length)).length = split l.length := by rw [List.length_take]; omega
      have l2 : (l.drop (split l.length)).length = l.length - split l.length := List.length_drop
      by_cases hk : i < split l.length
      · have hc := inc_left (by omega) hk
        have hql := inc_le (split l.length) (l.take (split l.length)) i l1
        generalize split l.length = s at *
        have hroot := refroot_fn _ (l.drop s) rfl (by omega)
        have hrec := ih s (by omega) (l.take s) i l1 (by omega) hk
        rw [hc]
        generalize mroot (l.drop s) = r at *
        generalize inc (l.take s) i = q at *
        repeat (first | ((first | (apply Lq.s; rfl) | apply PRun.s | (apply Lq.run; rfl; rfl; rfl; exact bsB) | (apply PRun.run; rfl; rfl; exact bsB)); first | (apply op_call hsp; exact bsD) | (apply op_ksl_hi (T := hashT.toTy) (hi := s); rfl; rfl; omega) | (exact bsO)) | apply J.seq | apply E.next | apply J.lq | apply Lq.nil | apply PRun.nil | apply J.block | apply E.in_normal | apply J.skip | (apply Lq.store; rfl; rfl; exact bsP; exact bsS; rfl; rfl) | (apply PRun.al; rfl) | (apply Lq.al; rfl; rfl; intro b) | (apply Open.cons; intro b) | apply Open.nil | (apply Lq.pass; rfl; rfl; rfl) | (apply PRun.pass; rfl; rfl) | (apply Lq.skip; rfl; rfl; rfl; exact bsB) | (apply PRun.skip; rfl; rfl; exact bsB) | (apply J.drawN; exact mixed; kernel_rfl) | (apply J.cond_t; rfl) | (apply J.cond_f; rfl) | apply J.exit | apply E.then_exit | apply E.in_exit | (apply E.in_other; rfl))
        refine Lq.callS (Δ0 := []) (Δf := []) hrec rfl bsD (List.Perm.refl _) ?_
        rintro _ _ ⟨A, c, rfl, rfl⟩
        repeat (first | ((first | (apply Lq.s; rfl) | apply PRun.s | (apply Lq.run; rfl; rfl; rfl; exact bsB) | (apply PRun.run; rfl; rfl; exact bsB)); first | (apply op_ksl_lo (T := hashT.toTy) (lo := s); rfl; rfl; omega) | (apply op_call hroot; exact bsD) | (apply op_bslice hashT (xs := [r]); (repeat (first | exact PO.nil _ | (apply PO.cons; rfl))); rfl; rfl; rfl) | (exact bsO)) | apply J.seq | apply E.next | apply J.lq | apply Lq.nil | apply PRun.nil | apply J.block | apply E.in_normal | apply J.skip | (apply Lq.store; rfl; rfl; exact bsP; exact bsS; rfl; rfl) | (apply PRun.al; rfl) | (apply Lq.al; rfl; rfl; intro b) | (apply Open.cons; intro b) | apply Open.nil | (apply Lq.pass; rfl; rfl; rfl) | (apply PRun.pass; rfl; rfl) | (apply Lq.skip; rfl; rfl; rfl; exact bsB) | (apply PRun.skip; rfl; rfl; exact bsB) | (apply J.drawN; exact mixed; kernel_rfl) | (apply J.cond_t; rfl) | (apply J.cond_f; rfl) | apply J.exit | apply E.then_exit | apply E.in_exit | (apply E.in_other; rfl))
        (apply Lq.append (T := hashT) (xs := q) (ys := [r]); rfl; exact List.Perm.refl _; (apply From.sl; rfl); rfl; rfl; rfl; (show _ + 1 ≤ maxLen; unfold maxLen; omega); (show (_ + 1) * 32 ≤ _; omega))
        intro A1 c1
        repeat (first | ((first | (apply Lq.s; rfl) | apply PRun.s | (apply Lq.run; rfl; rfl; rfl; exact bsB) | (apply PRun.run; rfl; rfl; exact bsB)); first | (exact bsO)) | apply J.seq | apply E.next | apply J.lq | apply Lq.nil | apply PRun.nil | apply J.block | apply E.in_normal | apply J.skip | (apply Lq.store; rfl; rfl; exact bsP; exact bsS; rfl; rfl) | (apply PRun.al; rfl) | (apply Lq.al; rfl; rfl; intro b) | (apply Open.cons; intro b) | apply Open.nil | (apply Lq.pass; rfl; rfl; rfl) | (apply PRun.pass; rfl; rfl) | (apply Lq.skip; rfl; rfl; rfl; exact bsB) | (apply PRun.skip; rfl; rfl; exact bsB) | (apply J.drawN; exact mixed; kernel_rfl) | (apply J.cond_t; rfl) | (apply J.cond_f; rfl) | apply J.exit | apply E.then_exit | apply E.in_exit | (apply E.in_other; rfl))
        (refine J.ret ?_; (repeat (first | refine E.then_ret ?_ | refine E.in_ret ?_)))
        exact E.retR2 (G := []) rfl rfl rfl ⟨A1, c1, rfl, rfl⟩ (List.Perm.refl _)
      · have hc := inc_right (l := l) (i := i) (by omega) (by omega)
        have hql := inc_le (l.length - split l.length) (l.drop (split l.length)) (i - split l.length) l2
        generalize split l.length = s at *
        have hroot := refroot_fn _ (l.take s) rfl (by omega)
        have hrec := ih (l.length - s) (by omega) (l.drop s) (i - s) l2 (by omega) (by omega)
        rw [hc]
        generalize mroot (l.take s) = r at *
        generalize inc (l.drop s) (i - s) = q at *
        repeat (first | ((first | (apply Lq.s; rfl) | apply PRun.s | (apply Lq.run; rfl; rfl; rfl; exact bsB) | (apply PRun.run; rfl; rfl; exact bsB)); first | (apply op_call hsp; exact bsD) | (apply op_ksl_lo (T := hashT.toTy) (lo := s); rfl; rfl; omega) | (apply op_sub (c := ((i - s : Nat) : Int)); rfl; rfl; (rw [show (i : Int) - (s : Int) = ((i - s : Nat) : Int) by omega]; apply wrapi <;> omega)) | (exact bsO)) | apply J.seq | apply E.next | apply J.lq | apply Lq.nil | apply PRun.nil | apply J.block | apply E.in_normal | apply J.skip | (apply Lq.store; rfl; rfl; exact bsP; exact bsS; rfl; rfl) | (apply PRun.al; rfl) | (apply Lq.al; rfl; rfl; intro b) | (apply Open.cons; intro b) | apply Open.nil | (apply Lq.pass; rfl; rfl; rfl) | (apply PRun.pass; rfl; rfl) | (apply Lq.skip; rfl; rfl; rfl; exact bsB) | (apply PRun.skip; rfl; rfl; exact bsB) | (apply J.drawN; exact mixed; kernel_rfl) | (apply J.cond_t; rfl) | (apply J.cond_f; rfl) | apply J.exit | apply E.then_exit | apply E.in_exit | (apply E.in_other; rfl))
        refine Lq.callS (Δ0 := []) (Δf := []) hrec rfl bsD (List.Perm.refl _) ?_
        rintro _ _ ⟨A, c, rfl, rfl⟩
        repeat (first | ((first | (apply Lq.s; rfl) | apply PRun.s | (apply Lq.run; rfl; rfl; rfl; exact bsB) | (apply PRun.run; rfl; rfl; exact bsB)); first | (apply op_ksl_hi (T := hashT.toTy) (hi := s); rfl; rfl; omega) | (apply op_call hroot; exact bsD) | (apply op_bslice hashT (xs := [r]); (repeat (first | exact PO.nil _ | (apply PO.cons; rfl))); rfl; rfl; rfl) | (exact bsO)) | apply J.seq | apply E.next | apply J.lq | apply Lq.nil | apply PRun.nil | apply J.block | apply E.in_normal | apply J.skip | (apply Lq.store; rfl; rfl; exact bsP; exact bsS; rfl; rfl) | (apply PRun.al; rfl) | (apply Lq.al; rfl; rfl; intro b) | (apply Open.cons; intro b) | apply Open.nil | (apply Lq.pass; rfl; rfl; rfl) | (apply PRun.pass; rfl; rfl) | (apply Lq.skip; rfl; rfl; rfl; exact bsB) | (apply PRun.skip; rfl; rfl; exact bsB) | (apply J.drawN; exact mixed; kernel_rfl) | (apply J.cond_t; rfl) | (apply J.cond_f; rfl) | apply J.exit | apply E.then_exit | apply E.in_exit | (apply E.in_other; rfl))
        (apply Lq.append (T := hashT) (xs := q) (ys := [r]); rfl; exact List.Perm.refl _; (apply From.sl; rfl); rfl; rfl; rfl; (show _ + 1 ≤ maxLen; unfold maxLen; omega); (show (_ + 1) * 32 ≤ _; omega))
        intro A1 c1
        repeat (first | ((first | (apply Lq.s; rfl) | apply PRun.s | (apply Lq.run; rfl; rfl; rfl; exact bsB) | (apply PRun.run; rfl; rfl; exact bsB)); first | (exact bsO)) | apply J.seq | apply E.next | apply J.lq | apply Lq.nil | apply PRun.nil | apply J.block | apply E.in_normal | apply J.skip | (apply Lq.store; rfl; rfl; exact bsP; exact bsS; rfl; rfl) | (apply PRun.al; rfl) | (apply Lq.al; rfl; rfl; intro b) | (apply Open.cons; intro b) | apply Open.nil | (apply Lq.pass; rfl; rfl; rfl) | (apply PRun.pass; rfl; rfl) | (apply Lq.skip; rfl; rfl; rfl; exact bsB) | (apply PRun.skip; rfl; rfl; exact bsB) | (apply J.drawN; exact mixed; kernel_rfl) | (apply J.cond_t; rfl) | (apply J.cond_f; rfl) | apply J.exit | apply E.then_exit | apply E.in_exit | (apply E.in_other; rfl))
        (refine J.ret ?_; (repeat (first | refine E.then_ret ?_ | refine E.in_ret ?_)))
        exact E.retR2 (G := []) rfl rfl rfl ⟨A1, c1, rfl, rfl⟩ (List.Perm.refl _)
theorem iref_bad (l : List Hash) (i : Int) (hl : l.length ≤ 100000) (hi : i < 0 ∨ (l.length : Int) ≤ i) : Fn Tryd.prog 26 [sl hashT.toTy l, is (.int .i64 i)] (tup [is (.slice none 0 0), is (.int .i64 2)]) := by
  by_cases h1 : i < 0
  · refine Fn.mk' 60 Tryd.func26 rfl rfl rfl rfl fun w0 H0 => ?_
    repeat (first | ((first | (apply Lq.s; rfl) | apply PRun.s | (apply Lq.run; rfl; rfl; rfl; exact bsB) | (apply PRun.run; rfl; rfl; exact bsB)); first | (exact bsO)) | apply J.seq | apply E.next | apply J.lq | apply Lq.nil | apply PRun.nil | apply J.block | apply E.in_normal | apply J.skip | (apply Lq.store; rfl; rfl; exact bsP; exact bsS; rfl; rfl) | (apply PRun.al; rfl) | (apply Lq.al; rfl; rfl; intro b) | (apply Open.cons; intro b) | apply Open.nil | (apply Lq.pass; rfl; rfl; rfl) | (apply PRun.pass; rfl; rfl) | (apply Lq.skip; rfl; rfl; rfl; exact bsB) | (apply PRun.skip; rfl; rfl; exact bsB) | (apply J.drawN; exact mixed; kernel_rfl) | (apply J.cond_t; rfl) | (apply J.cond_f; rfl) | apply J.exit | apply E.then_exit | apply E.in_exit | (apply E.in_other; rfl))
    (refine J.ret ?_; (repeat (first | refine E.then_ret ?_ | refine E.in_ret ?_)))
    exact E.ret2 rfl rfl rfl
  · have h2 : (l.length : Int) ≤ i := by omega
    refine Fn.mk' 60 Tryd.func26 rfl rfl rfl rfl fun w0 H0 => ?_
    repeat (first | ((first | (apply Lq.s; rfl) | apply PRun.s | (apply Lq.run; rfl; rfl; rfl; exact bsB) | (apply PRun.run; rfl; rfl; exact bsB)); first | (exact bsO)) | apply J.seq | apply E.next | apply J.lq | apply Lq.nil | apply PRun.nil | apply J.block | apply E.in_normal | apply J.skip | (apply Lq.store; rfl; rfl; exact bsP; exact bsS; rfl; rfl) | (apply PRun.al; rfl) | (apply Lq.al; rfl; rfl; intro b) | (apply Open.cons; intro b) | apply Open.nil | (apply Lq.pass; rfl; rfl; rfl) | (apply PRun.pass; rfl; rfl) | (apply Lq.skip; rfl; rfl; rfl; exact bsB) | (apply PRun.skip; rfl; rfl; exact bsB) | (apply J.drawN; exact mixed; kernel_rfl) | (apply J.cond_t; rfl) | (apply J.cond_f; rfl) | apply J.exit | apply E.then_exit | apply E.in_exit | (apply E.in_other; rfl))
    (refine J.ret ?_; (repeat (first | refine E.then_ret ?_ | refine E.in_ret ?_)))
    exact E.ret2 rfl rfl rfl
end Go.Proofs.YtkhgebacgkgpcaaDoor.L
