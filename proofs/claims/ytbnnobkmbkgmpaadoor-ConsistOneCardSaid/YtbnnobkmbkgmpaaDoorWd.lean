/-
  The document's proofs of consistency, walked.
-/
import Derived.Test.YtbnnobkmbkgmpaaDoorWc
import Derived.Test.YtbnnobkmbkgmpaaDoorLu
namespace Go.Proofs.YtbnnobkmbkgmpaaDoor.L
open Go
set_option linter.unusedSectionVars false
variable [Globs] [Has_sha_table] [Has_sha_begin]
theorem cpart_len : ∀ (n : Nat) (l : List Hash) (m : Nat) (yes : Bool), l.length = n → 1 ≤ m → m ≤ n → (cpart l m yes).length ≤ n := by
  intro n
  induction n using Nat.strongRecOn with
  | _ n ih =>
    intro l m yes hn h1 hm
    by_cases he : m = l.length
    · rw [cpart_all h1 he]
      split
      · exact Nat.zero_le _
      · show 1 ≤ n; omega
    · obtain ⟨s1, s2, s3⟩ := split_lt (n := l.length) (by omega)
      have l1 : (l.take (split l.length)).length = split l.length := by rw [List.length_take]; omega
      have l2 : (l.drop (split l.length)).length = l.length - split l.length := List.length_drop
      by_cases hk : m ≤ split l.length
      · rw [cpart_left h1 (by omega) hk yes, List.length_append]
        have := ih (split l.length) (by omega) _ m yes l1 h1 hk
        show _ + 1 ≤ n
        omega
      · rw [cpart_right (by omega) (by omega) yes, List.length_append]
        have := ih (l.length - split l.length) (by omega) _ (m - split l.length) false l2 (by omega) (by omega)
        show _ + 1 ≤ n
        omega
variable [Has_ref02_k]
set_option linter.unusedVariables false
set_option linter.unusedSimpArgs false
attribute [local irreducible] J Lq E OpP PRun is any agg tup ptr sl PRunW OpE
attribute [local irreducible] up2 mroot nodeH leafH emptyH shaH ownAt row someL leafOf splitZ split rv ways pairT cpart leadsR
set_option maxHeartbeats 1000000 in
theorem part_fnR : ∀ (n : Nat) (l : List Hash) (m : Nat) (yes : Bool), l.length = n → n ≤ 90000 → 1 ≤ m → m ≤ n → FnR Tryd.prog 22 [sl hashT.toTy l, is (.int .i64 (m : Int)), is (.bool yes)] [] (fun ψ Δ => ∃ A c, ψ = is (.slice A (cpart l m yes).length c) ∧ Δ = [row (.slice A (cpart l m yes).length c) 23 hashT.toTy (cpart l m yes)]) := by
  intro n
  induction n using Nat.strongRecOn with
  | _ n ih =>
    intro l m yes hn hle h1 hm
    refine FnR.mk' 47 Tryd.func22 rfl rfl rfl rfl fun w0 H0 => ?_
    by_cases he : m = l.length
    · rw [cpart_all h1 he]
      cases yes with
      | true =>
        rw [if_pos rfl]
        refine J.nilrow 23 hashT.toTy ?_
        repeat (first | ((first | (apply Lq.s; rfl) | apply PRun.s | (apply Lq.run; rfl; rfl; rfl; exact bsB) | (apply PRun.run; rfl; rfl; exact bsB)); first | (exact bsO)) | apply J.seq | apply E.next | apply J.lq | apply Lq.nil | apply PRun.nil | apply J.block | apply E.in_normal | apply J.skip | (apply Lq.store; rfl; rfl; exact bsP; exact bsS; rfl; rfl) | (apply PRun.al; rfl) | (apply Lq.al; rfl; rfl; intro b) | (apply Open.cons; intro b) | apply Open.nil | (apply Lq.pass; rfl; rfl; rfl) | (apply PRun.pass; rfl; rfl) | (apply Lq.skip; rfl; rfl; rfl; exact bsB) | (apply PRun.skip; rfl; rfl; exact bsB) | (apply J.drawN; exact mixed; kernel_rfl) | (apply J.cond_t; rfl) | (apply J.cond_f; rfl) | apply J.exit | apply E.then_exit | apply E.in_exit | (apply E.in_other; rfl))
        (refine J.ret ?_; (repeat (first | refine E.then_ret ?_ | refine E.in_ret ?_)))
        exact E.retR1 (G := []) rfl rfl ⟨none, 0, rfl, rfl⟩ (List.Perm.refl _)
      | false =>
        rw [if_neg (by decide)]
        have hroot := refroot_fn l.length l rfl (by omega)
        generalize mroot l = r at *
        repeat (first | ((first | (apply Lq.s; rfl) | apply PRun.s | (apply Lq.run; rfl; rfl; rfl; exact bsB) | (apply PRun.run; rfl; rfl; exact bsB)); first | (apply op_call hroot; exact bsD) | (exact bsO)) | apply J.seq | apply E.next | apply J.lq | apply Lq.nil | apply PRun.nil | apply J.block | apply E.in_normal | apply J.skip | (apply Lq.store; rfl; rfl; exact bsP; exact bsS; rfl; rfl) | (apply PRun.al; rfl) | (apply Lq.al; rfl; rfl; intro b) | (apply Open.cons; intro b) | apply Open.nil | (apply Lq.pass; rfl; rfl; rfl) | (apply PRun.pass; rfl; rfl) | (apply Lq.skip; rfl; rfl; rfl; exact bsB) | (apply PRun.skip; rfl; rfl; exact bsB) | (apply J.drawN; exact mixed; kernel_rfl) | (apply J.cond_t; rfl) | (apply J.cond_f; rfl) | apply J.exit | apply E.then_exit | apply E.in_exit | (apply E.in_other; rfl))
        (apply Lq.bsl (T := hashT) (xs := [r]); rfl; (repeat (first | exact PO.nil _ | (apply PO.cons; rfl))); rfl; rfl; rfl)
        intro A1 c1
        repeat (first | ((first | (apply Lq.s; rfl) | apply PRun.s | (apply Lq.run; rfl; rfl; rfl; exact bsB) | (apply PRun.run; rfl; rfl; exact bsB)); first | (exact bsO)) | apply J.seq | apply E.next | apply J.lq | apply Lq.nil | apply PRun.nil | apply J.block | apply E.in_normal | apply J.skip | (apply Lq.store; rfl; rfl; exact bsP; exact bsS; rfl; rfl) | (apply PRun.al; rfl) | (apply Lq.al; rfl; rfl; intro b) | (apply Open.cons; intro b) | apply Open.nil | (apply Lq.pass; rfl; rfl; rfl) | (apply PRun.pass; rfl; rfl) | (apply Lq.skip; rfl; rfl; rfl; exact bsB) | (apply PRun.skip; rfl; rfl; exact bsB) | (apply J.drawN; exact mixed; kernel_rfl) | (apply J.cond_t; rfl) | (apply J.cond_f; rfl) | apply J.exit | apply E.then_exit | apply E.in_exit | (apply E.in_other; rfl))
        (refine J.ret ?_; (repeat (first | refine E.then_ret ?_ | refine E.in_ret ?_)))
        exact E.retR1 (G := []) rfl rfl ⟨A1, c1, rfl, rfl⟩ (List.Perm.refl _)
    · obtain ⟨s1, s2, s3⟩ := split_lt (n := l.length) (by omega)
      have hsp := refsplitN_fn l.length (by omega)
      have l1 : (l.take (split l.length)).length = split l.length := by rw [List.length_take]; omega
      have l2 : (l.drop (split l.length)).length = l.length - split l.length := List.length_drop
      by_cases hk : m ≤ split l.length
      · have hc := cpart_left h1 (by omega) hk yes
        have hql := cpart_len (split l.length) (l.take (split l.length)) m yes l1 h1 hk
        generalize split l.length = s at *
        have hroot := refroot_fn _ (l.drop s) rfl (by omega)
        have hrec := ih s (by omega) (l.take s) m yes l1 (by omega) h1 hk
        rw [hc]
        generalize mroot (l.drop s) = r at *
        generalize cpart (l.take s) m yes = q at *
        repeat (first | ((first | (apply Lq.s; rfl) | apply PRun.s | (apply Lq.run; rfl; rfl; rfl; exact bsB) | (apply PRun.run; rfl; rfl; exact bsB)); first | (apply op_call hsp; exact bsD) | (exact bsO)) | apply J.seq | apply E.next | apply J.lq | apply Lq.nil | apply PRun.nil | apply J.block | apply E.in_normal | apply J.skip | (apply Lq.store; rfl; rfl; exact bsP; exact bsS; rfl; rfl) | (apply PRun.al; rfl) | (apply Lq.al; rfl; rfl; intro b) | (apply Open.cons; intro b) | apply Open.nil | (apply Lq.pass; rfl; rfl; rfl) | (apply PRun.pass; rfl; rfl) | (apply Lq.skip; rfl; rfl; rfl; exact bsB) | (apply PRun.skip; rfl; rfl; exact bsB) | (apply J.cond_t; rfl) | (apply J.cond_f; rfl) | apply J.exit | apply E.then_exit | apply E.in_exit | (apply E.in_other; rfl))
        refine J.drawW 10 [(none, none), (none, none), (none, none), (none, none), (none, none), (none, some 27), (none, none), (none, none), (none, none), (none, none)] mixed (by kernel_rfl) ?_
        repeat (first | ((first | apply PRunW.s | (apply PRunW.run; rfl; rfl; exact bsB) | (apply Lq.s; rfl) | apply PRun.s | (apply Lq.run; rfl; rfl; rfl; exact bsB) | (apply PRun.run; rfl; rfl; exact bsB)); first | (apply op_ksl_hi (T := hashT.toTy) (hi := s); rfl; rfl; omega) | (exact bsO)) | apply J.seq | apply E.next | apply J.lq | apply Lq.nil | apply PRun.nil | apply J.block | apply E.in_normal | apply J.skip | (apply Lq.store; rfl; rfl; exact bsP; exact bsS; rfl; rfl) | (apply PRun.al; rfl) | (apply Lq.al; rfl; rfl; intro b) | (apply Open.cons; intro b) | apply Open.nil | (apply Lq.pass; rfl; rfl; rfl) | (apply PRun.pass; rfl; rfl) | (apply Lq.skip; rfl; rfl; rfl; exact bsB) | (apply PRun.skip; rfl; rfl; exact bsB) | (apply J.cond_t; rfl) | (apply J.cond_f; rfl) | apply J.exit | apply E.then_exit | apply E.in_exit | (apply E.in_other; rfl) | apply PRunW.nil | (apply PRunW.al; rfl) | (apply PRunW.pass; rfl; rfl) | (apply PRunW.skip; rfl; rfl; exact bsB) | (apply Open.pv; intro b) | apply Open.av | (apply Open.rv; intro A c))
        (apply PRunW.mk (R := fun v => row v 23 hashT.toTy q) anySl_row (opR_call hrec bsD))
        repeat (first | ((first | apply PRunW.s | (apply PRunW.run; rfl; rfl; exact bsB) | (apply Lq.s; rfl) | apply PRun.s | (apply Lq.run; rfl; rfl; rfl; exact bsB) | (apply PRun.run; rfl; rfl; exact bsB)); first | (apply op_ksl_lo (T := hashT.toTy) (lo := s); rfl; rfl; omega) | (apply op_call hroot; exact bsD) | (apply op_bslice hashT (xs := [r]); (repeat (first | exact PO.nil _ | (apply PO.cons; rfl))); rfl; rfl; rfl) | (exact bsO)) | apply J.seq | apply E.next | apply J.lq | apply Lq.nil | apply PRun.nil | apply J.block | apply E.in_normal | apply J.skip | (apply Lq.store; rfl; rfl; exact bsP; exact bsS; rfl; rfl) | (apply PRun.al; rfl) | (apply Lq.al; rfl; rfl; intro b) | (apply Open.cons; intro b) | apply Open.nil | (apply Lq.pass; rfl; rfl; rfl) | (apply PRun.pass; rfl; rfl) | (apply Lq.skip; rfl; rfl; rfl; exact bsB) | (apply PRun.skip; rfl; rfl; exact bsB) | (apply J.cond_t; rfl) | (apply J.cond_f; rfl) | apply J.exit | apply E.then_exit | apply E.in_exit | (apply E.in_other; rfl) | apply PRunW.nil | (apply PRunW.al; rfl) | (apply PRunW.pass; rfl; rfl) | (apply PRunW.skip; rfl; rfl; exact bsB) | (apply Open.pv; intro b) | apply Open.av | (apply Open.rv; intro A c))
        (apply Lq.append (T := hashT) (xs := q) (ys := [r]); rfl; exact List.Perm.refl _; (apply From.sl; rfl); rfl; rfl; rfl; (show _ + 1 ≤ maxLen; unfold maxLen; omega); (show (_ + 1) * 32 ≤ _; omega))
        intro A1 c1
        repeat (first | ((first | (apply Lq.s; rfl) | apply PRun.s | (apply Lq.run; rfl; rfl; rfl; exact bsB) | (apply PRun.run; rfl; rfl; exact bsB)); first | (exact bsO)) | apply J.seq | apply E.next | apply J.lq | apply Lq.nil | apply PRun.nil | apply J.block | apply E.in_normal | apply J.skip | (apply Lq.store; rfl; rfl; exact bsP; exact bsS; rfl; rfl) | (apply PRun.al; rfl) | (apply Lq.al; rfl; rfl; intro b) | (apply Open.cons; intro b) | apply Open.nil | (apply Lq.pass; rfl; rfl; rfl) | (apply PRun.pass; rfl; rfl) | (apply Lq.skip; rfl; rfl; rfl; exact bsB) | (apply PRun.skip; rfl; rfl; exact bsB) | (apply J.drawN; exact mixed; kernel_rfl) | (apply J.cond_t; rfl) | (apply J.cond_f; rfl) | apply J.exit | apply E.then_exit | apply E.in_exit | (apply E.in_other; rfl))
        (refine J.ret ?_; (repeat (first | refine E.then_ret ?_ | refine E.in_ret ?_)))
        exact E.retR1 (G := []) rfl rfl ⟨A1, c1, rfl, rfl⟩ (List.Perm.refl _)
      · have hc := cpart_right (l := l) (m := m) (by omega) (by omega) yes
        have hql := cpart_len (l.length - split l.length) (l.drop (split l.length)) (m - split l.length) false l2 (by omega) (by omega)
        generalize split l.length = s at *
        have hroot := refroot_fn _ (l.take s) rfl (by omega)
        have hrec := ih (l.length - s) (by omega) (l.drop s) (m - s) false l2 (by omega) (by omega) (by omega)
        rw [hc]
        generalize mroot (l.take s) = r at *
        generalize cpart (l.drop s) (m - s) false = q at *
        repeat (first | ((first | (apply Lq.s; rfl) | apply PRun.s | (apply Lq.run; rfl; rfl; rfl; exact bsB) | (apply PRun.run; rfl; rfl; exact bsB)); first | (apply op_call hsp; exact bsD) | (exact bsO)) | apply J.seq | apply E.next | apply J.lq | apply Lq.nil | apply PRun.nil | apply J.block | apply E.in_normal | apply J.skip | (apply Lq.store; rfl; rfl; exact bsP; exact bsS; rfl; rfl) | (apply PRun.al; rfl) | (apply Lq.al; rfl; rfl; intro b) | (apply Open.cons; intro b) | apply Open.nil | (apply Lq.pass; rfl; rfl; rfl) | (apply PRun.pass; rfl; rfl) | (apply Lq.skip; rfl; rfl; rfl; exact bsB) | (apply PRun.skip; rfl; rfl; exact bsB) | (apply J.cond_t; rfl) | (apply J.cond_f; rfl) | apply J.exit | apply E.then_exit | apply E.in_exit | (apply E.in_other; rfl))
        refine J.drawW 11 [(none, none), (none, none), (none, none), (none, none), (none, none), (none, none), (none, some 40), (none, none), (none, none), (none, none), (none, none)] mixed (by kernel_rfl) ?_
        repeat (first | ((first | apply PRunW.s | (apply PRunW.run; rfl; rfl; exact bsB) | (apply Lq.s; rfl) | apply PRun.s | (apply Lq.run; rfl; rfl; rfl; exact bsB) | (apply PRun.run; rfl; rfl; exact bsB)); first | (apply op_ksl_lo (T := hashT.toTy) (lo := s); rfl; rfl; omega) | (apply op_sub (c := ((m - s : Nat) : Int)); rfl; rfl; (rw [show (m : Int) - (s : Int) = ((m - s : Nat) : Int) by omega]; apply wrapi <;> omega)) | (exact bsO)) | apply J.seq | apply E.next | apply J.lq | apply Lq.nil | apply PRun.nil | apply J.block | apply E.in_normal | apply J.skip | (apply Lq.store; rfl; rfl; exact bsP; exact bsS; rfl; rfl) | (apply PRun.al; rfl) | (apply Lq.al; rfl; rfl; intro b) | (apply Open.cons; intro b) | apply Open.nil | (apply Lq.pass; rfl; rfl; rfl) | (apply PRun.pass; rfl; rfl) | (apply Lq.skip; rfl; rfl; rfl; exact bsB) | (apply PRun.skip; rfl; rfl; exact bsB) | (apply J.cond_t; rfl) | (apply J.cond_f; rfl) | apply J.exit | apply E.then_exit | apply E.in_exit | (apply E.in_other; rfl) | apply PRunW.nil | (apply PRunW.al; rfl) | (apply PRunW.pass; rfl; rfl) | (apply PRunW.skip; rfl; rfl; exact bsB) | (apply Open.pv; intro b) | apply Open.av | (apply Open.rv; intro A c))
        (apply PRunW.mk (R := fun v => row v 23 hashT.toTy q) anySl_row (opR_call hrec bsD))
        repeat (first | ((first | apply PRunW.s | (apply PRunW.run; rfl; rfl; exact bsB) | (apply Lq.s; rfl) | apply PRun.s | (apply Lq.run; rfl; rfl; rfl; exact bsB) | (apply PRun.run; rfl; rfl; exact bsB)); first | (apply op_ksl_hi (T := hashT.toTy) (hi := s); rfl; rfl; omega) | (apply op_call hroot; exact bsD) | (apply op_bslice hashT (xs := [r]); (repeat (first | exact PO.nil _ | (apply PO.cons; rfl))); rfl; rfl; rfl) | (exact bsO)) | apply J.seq | apply E.next | apply J.lq | apply Lq.nil | apply PRun.nil | apply J.block | apply E.in_normal | apply J.skip | (apply Lq.store; rfl; rfl; exact bsP; exact bsS; rfl; rfl) | (apply PRun.al; rfl) | (apply Lq.al; rfl; rfl; intro b) | (apply Open.cons; intro b) | apply Open.nil | (apply Lq.pass; rfl; rfl; rfl) | (apply PRun.pass; rfl; rfl) | (apply Lq.skip; rfl; rfl; rfl; exact bsB) | (apply PRun.skip; rfl; rfl; exact bsB) | (apply J.cond_t; rfl) | (apply J.cond_f; rfl) | apply J.exit | apply E.then_exit | apply E.in_exit | (apply E.in_other; rfl) | apply PRunW.nil | (apply PRunW.al; rfl) | (apply PRunW.pass; rfl; rfl) | (apply PRunW.skip; rfl; rfl; exact bsB) | (apply Open.pv; intro b) | apply Open.av | (apply Open.rv; intro A c))
        (apply Lq.append (T := hashT) (xs := q) (ys := [r]); rfl; exact List.Perm.refl _; (apply From.sl; rfl); rfl; rfl; rfl; (show _ + 1 ≤ maxLen; unfold maxLen; omega); (show (_ + 1) * 32 ≤ _; omega))
        intro A1 c1
        repeat (first | ((first | (apply Lq.s; rfl) | apply PRun.s | (apply Lq.run; rfl; rfl; rfl; exact bsB) | (apply PRun.run; rfl; rfl; exact bsB)); first | (exact bsO)) | apply J.seq | apply E.next | apply J.lq | apply Lq.nil | apply PRun.nil | apply J.block | apply E.in_normal | apply J.skip | (apply Lq.store; rfl; rfl; exact bsP; exact bsS; rfl; rfl) | (apply PRun.al; rfl) | (apply Lq.al; rfl; rfl; intro b) | (apply Open.cons; intro b) | apply Open.nil | (apply Lq.pass; rfl; rfl; rfl) | (apply PRun.pass; rfl; rfl) | (apply Lq.skip; rfl; rfl; rfl; exact bsB) | (apply PRun.skip; rfl; rfl; exact bsB) | (apply J.drawN; exact mixed; kernel_rfl) | (apply J.cond_t; rfl) | (apply J.cond_f; rfl) | apply J.exit | apply E.then_exit | apply E.in_exit | (apply E.in_other; rfl))
        (refine J.ret ?_; (repeat (first | refine E.then_ret ?_ | refine E.in_ret ?_)))
        exact E.retR1 (G := []) rfl rfl ⟨A1, c1, rfl, rfl⟩ (List.Perm.refl _)
theorem refprove_bad (l : List Hash) (m : Int) (hl : l.length ≤ 100000) (hm : m < 1 ∨ (l.length : Int) < m) : Fn Tryd.prog 11 [sl hashT.toTy l, is (.int .i64 m)] (tup [is (.slice none 0 0), is (.int .i64 2)]) := by
  by_cases h1 : m < 1
  · refine Fn.mk' 17 Tryd.func11 rfl rfl rfl rfl fun w0 H0 => ?_
    repeat (first | ((first | (apply Lq.s; rfl) | apply PRun.s | (apply Lq.run; rfl; rfl; rfl; exact bsB) | (apply PRun.run; rfl; rfl; exact bsB)); first | (exact bsO)) | apply J.seq | apply E.next | apply J.lq | apply Lq.nil | apply PRun.nil | apply J.block | apply E.in_normal | apply J.skip | (apply Lq.store; rfl; rfl; exact bsP; exact bsS; rfl; rfl) | (apply PRun.al; rfl) | (apply Lq.al; rfl; rfl; intro b) | (apply Open.cons; intro b) | apply Open.nil | (apply Lq.pass; rfl; rfl; rfl) | (apply PRun.pass; rfl; rfl) | (apply Lq.skip; rfl; rfl; rfl; exact bsB) | (apply PRun.skip; rfl; rfl; exact bsB) | (apply J.drawN; exact mixed; kernel_rfl) | (apply J.cond_t; rfl) | (apply J.cond_f; rfl) | apply J.exit | apply E.then_exit | apply E.in_exit | (apply E.in_other; rfl))
    (refine J.ret ?_; (repeat (first | refine E.then_ret ?_ | refine E.in_ret ?_)))
    exact E.ret2 rfl rfl rfl
  · have h2 : (l.length : Int) < m := by omega
    refine Fn.mk' 17 Tryd.func11 rfl rfl rfl rfl fun w0 H0 => ?_
    repeat (first | ((first | (apply Lq.s; rfl) | apply PRun.s | (apply Lq.run; rfl; rfl; rfl; exact bsB) | (apply PRun.run; rfl; rfl; exact bsB)); first | (exact bsO)) | apply J.seq | apply E.next | apply J.lq | apply Lq.nil | apply PRun.nil | apply J.block | apply E.in_normal | apply J.skip | (apply Lq.store; rfl; rfl; exact bsP; exact bsS; rfl; rfl) | (apply PRun.al; rfl) | (apply Lq.al; rfl; rfl; intro b) | (apply Open.cons; intro b) | apply Open.nil | (apply Lq.pass; rfl; rfl; rfl) | (apply PRun.pass; rfl; rfl) | (apply Lq.skip; rfl; rfl; rfl; exact bsB) | (apply PRun.skip; rfl; rfl; exact bsB) | (apply J.drawN; exact mixed; kernel_rfl) | (apply J.cond_t; rfl) | (apply J.cond_f; rfl) | apply J.exit | apply E.then_exit | apply E.in_exit | (apply E.in_other; rfl))
    (refine J.ret ?_; (repeat (first | refine E.then_ret ?_ | refine E.in_ret ?_)))
    exact E.ret2 rfl rfl rfl
theorem refprove_fnR (l : List Hash) (m : Nat) (hl : l.length ≤ 90000) (h1 : 1 ≤ m) (hm : m ≤ l.length) : FnR Tryd.prog 11 [sl hashT.toTy l, is (.int .i64 (m : Int))] [] (fun ψ Δ => ∃ A c, ψ = tup [is (.slice A (cpart l m true).length c), is (.int .i64 0)] ∧ Δ = [row (.slice A (cpart l m true).length c) 23 hashT.toTy (cpart l m true)]) := by
  have hp := part_fnR l.length l m true rfl hl h1 hm
  generalize cpart l m true = q at *
  refine FnR.mk' 17 Tryd.func11 rfl rfl rfl rfl fun w0 H0 => ?_
  repeat (first | ((first | (apply Lq.s; rfl) | apply PRun.s | (apply Lq.run; rfl; rfl; rfl; exact bsB) | (apply PRun.run; rfl; rfl; exact bsB)); first | (exact bsO)) | apply J.seq | apply E.next | apply J.lq | apply Lq.nil | apply PRun.nil | apply J.block | apply E.in_normal | apply J.skip | (apply Lq.store; rfl; rfl; exact bsP; exact bsS; rfl; rfl) | (apply PRun.al; rfl) | (apply Lq.al; rfl; rfl; intro b) | (apply Open.cons; intro b) | apply Open.nil | (apply Lq.pass; rfl; rfl; rfl) | (apply PRun.pass; rfl; rfl) | (apply Lq.skip; rfl; rfl; rfl; exact bsB) | (apply PRun.skip; rfl; rfl; exact bsB) | (apply J.drawN; exact mixed; kernel_rfl) | (apply J.cond_t; rfl) | (apply J.cond_f; rfl) | apply J.exit | apply E.then_exit | apply E.in_exit | (apply E.in_other; rfl))
  refine Lq.callS (Δ0 := []) (Δf := []) hp rfl bsD (List.Perm.refl _) ?_
  rintro _ _ ⟨A, c, rfl, rfl⟩
  repeat (first | ((first | (apply Lq.s; rfl) | apply PRun.s | (apply Lq.run; rfl; rfl; rfl; exact bsB) | (apply PRun.run; rfl; rfl; exact bsB)); first | (exact bsO)) | apply J.seq | apply E.next | apply J.lq | apply Lq.nil | apply PRun.nil | apply J.block | apply E.in_normal | apply J.skip | (apply Lq.store; rfl; rfl; exact bsP; exact bsS; rfl; rfl) | (apply PRun.al; rfl) | (apply Lq.al; rfl; rfl; intro b) | (apply Open.cons; intro b) | apply Open.nil | (apply Lq.pass; rfl; rfl; rfl) | (apply PRun.pass; rfl; rfl) | (apply Lq.skip; rfl; rfl; rfl; exact bsB) | (apply PRun.skip; rfl; rfl; exact bsB) | (apply J.drawN; exact mixed; kernel_rfl) | (apply J.cond_t; rfl) | (apply J.cond_f; rfl) | apply J.exit | apply E.then_exit | apply E.in_exit | (apply E.in_other; rfl))
  (refine J.ret ?_; (repeat (first | refine E.then_ret ?_ | refine E.in_ret ?_)))
  exact E.retR2 (G := []) rfl rfl rfl ⟨A, c, rfl, rfl⟩ (List.Perm.refl _)
end Go.Proofs.YtbnnobkmbkgmpaaDoor.L
