/-
  The count that the document's edge holds, where it is owned.
-/
import Derived.Test.YtljdjagackdplaaDoorUx
namespace Go.Proofs.YtljdjagackdplaaDoor.L
open Go
set_option linter.unusedSectionVars false
variable [Globs] [Has_sha_table] [Has_sha_begin]
set_option linter.unusedVariables false
theorem nums_ne {ss : List Nat} (h : ss ≠ []) : nums ss ≠ [] := fun e => h (by have := congrArg List.length e; rw [nums_len] at this; exact List.eq_nil_of_length_eq_zero this)
set_option linter.unusedVariables false
set_option linter.unusedSimpArgs false
attribute [local irreducible] J Lq E OpP PRun is any agg tup ptr sl PRunW OpE PRunV OpV star
attribute [local irreducible] up2 mroot nodeH leafH emptyH shaH ownAt row someL leafOf splitZ split rv join2 edge rootE o1 o2 o3 frV fre nums szs
set_option maxHeartbeats 1000000 in
theorem rlen_fnR (fb : Nat) (ss : List Nat) (hs : List Hash) (A1 : Option Addr) (c1 : Nat) (A2 : Option Addr) (c2 : Nat) (hl : ss.length ≤ 100000) (hsum : ss.sum ≤ 9223372036854775807) : FnR Tryd.prog 28 [is (.pointer (some ⟨fb, 0, none⟩))] (rfL fb ss hs A1 c1 A2 c2) (fun ψ Δ => ψ = is (.int .i64 ((ss.sum : Nat) : Int)) ∧ Δ = rfL fb ss hs A1 c1 A2 c2) := by
  have hnl := nums_len ss
  refine FnR.mk' 24 Tryd.func28 rfl rfl rfl rfl fun w0 H0 => ?_
  unfold rfL
  by_cases h0 : ss = []
  · subst h0
    have hz : (nums []).length = 0 := hnl
    repeat (first | ((first | (apply Lq.s; rfl) | apply PRun.s | (apply Lq.run; rfl; rfl; rfl; exact bsB) | (apply PRun.run; rfl; rfl; exact bsB)); first | (exact bsO)) | apply J.seq | apply E.next | apply J.lq | apply Lq.nil | apply PRun.nil | apply J.block | apply E.in_normal | apply J.skip | (apply Lq.store; rfl; rfl; exact bsP; exact bsS; rfl; rfl) | (apply PRun.al; rfl) | (apply Lq.al; rfl; rfl; intro b) | (apply Open.cons; intro b) | apply Open.nil | (apply Lq.pass; rfl; rfl; rfl) | (apply PRun.pass; rfl; rfl) | (apply Lq.skip; rfl; rfl; rfl; exact bsB) | (apply PRun.skip; rfl; rfl; exact bsB) | (apply J.drawN; exact mixed; kernel_rfl) | (apply J.cond_t; rfl) | (apply J.cond_f; rfl) | apply J.exit | apply E.then_exit | apply E.in_exit | (apply E.in_other; rfl))
    refine J.loop (fun _ : Nat => True) (fun i => [(0, is (.pointer (some ⟨fb, 0, none⟩))), (3, is (.int .i64 0)), (4, is (.int .i64 0))]) (fun _ => rfL fb [] hs A1 c1 A2 c2) (fun i => 0) 0 trivial (Sub.same (by repeat' (first | exact trivial | refine ⟨rfl, ?_⟩))) ?_
    intro i _
    unfold rfL
    repeat (first | ((first | (apply Lq.s; rfl) | apply PRun.s | (apply Lq.run; rfl; rfl; rfl; exact bsB) | (apply PRun.run; rfl; rfl; exact bsB)); first | (apply op_ocell; rfl; exact bsM; rfl) | (apply op_slen; rfl) | (exact bsO)) | apply J.seq | apply E.next | apply J.lq | apply Lq.nil | apply PRun.nil | apply J.block | apply E.in_normal | apply J.skip | (apply Lq.store; rfl; rfl; exact bsP; exact bsS; rfl; rfl) | (apply PRun.al; rfl) | (apply Lq.al; rfl; rfl; intro b) | (apply Open.cons; intro b) | apply Open.nil | (apply Lq.pass; rfl; rfl; rfl) | (apply PRun.pass; rfl; rfl) | (apply Lq.skip; rfl; rfl; rfl; exact bsB) | (apply PRun.skip; rfl; rfl; exact bsB) | (apply J.drawN; exact mixed; kernel_rfl) | (apply J.cond_t; rfl) | (apply J.cond_f; rfl) | apply J.exit | apply E.then_exit | apply E.in_exit | (apply E.in_other; rfl))
    (refine J.ret ?_; (repeat (first | refine E.then_ret ?_ | refine E.in_ret ?_)))
    exact E.retR1 (G := []) rfl rfl ⟨rfl, rfl⟩ (List.Perm.refl _)
  · refine J.open (List.Perm.swap _ _ _) (nums_ne h0) ?_
    intro rb ro cap pre post hR
    obtain ⟨hv, hpre, hle, hcap, hroom, _⟩ := hR
    injection hv with hA _ hc
    subst hA; subst hc
    repeat (first | ((first | (apply Lq.s; rfl) | apply PRun.s | (apply Lq.run; rfl; rfl; rfl; exact bsB) | (apply PRun.run; rfl; rfl; exact bsB)); first | (exact bsO)) | apply J.seq | apply E.next | apply J.lq | apply Lq.nil | apply PRun.nil | apply J.block | apply E.in_normal | apply J.skip | (apply Lq.store; rfl; rfl; exact bsP; exact bsS; rfl; rfl) | (apply PRun.al; rfl) | (apply Lq.al; rfl; rfl; intro b) | (apply Open.cons; intro b) | apply Open.nil | (apply Lq.pass; rfl; rfl; rfl) | (apply PRun.pass; rfl; rfl) | (apply Lq.skip; rfl; rfl; rfl; exact bsB) | (apply PRun.skip; rfl; rfl; exact bsB) | (apply J.drawN; exact mixed; kernel_rfl) | (apply J.cond_t; rfl) | (apply J.cond_f; rfl) | apply J.exit | apply E.then_exit | apply E.in_exit | (apply E.in_other; rfl))
    refine J.loop (fun i : Nat => i ≤ ss.length) (fun i => [(0, is (.pointer (some ⟨fb, 0, none⟩))), (3, is (.int .i64 (((ss.take i).sum : Nat) : Int))), (4, is (.int .i64 (i : Int)))])
      (fun _ => [own rb 3 (pre ++ flat (intT .i64).toTy (nums ss) ++ post), own fb 50 [is (.slice (some ⟨rb, ro, none⟩) (nums ss).length c1), is (.slice A2 hs.length c2)], row (.slice A2 hs.length c2) 23 hashT.toTy hs]) (fun i => ss.length - i) 0 (Nat.zero_le _) (Sub.same (by repeat' (first | exact trivial | refine ⟨rfl, ?_⟩))) ?_
    intro i hi
    dsimp only at hi ⊢
    by_cases hlt : i < ss.length
    · obtain ⟨s, hs'⟩ : ∃ s, ss[i]? = some s := ⟨_, List.getElem?_eq_getElem hlt⟩
      have hx := nums_at hs'
      have h1 := sum_take hs'
      have h2 := sum_le ss (i + 1)
      generalize hz : (ss.take (i + 1)).sum = z at *
      generalize (ss.take i).sum = y at *
      repeat (first | ((first | (apply Lq.s; rfl) | apply PRun.s | (apply Lq.run; rfl; rfl; rfl; exact bsB) | (apply PRun.run; rfl; rfl; exact bsB)); first | (apply op_ocell; rfl; exact bsM; rfl) | (apply op_slen; rfl) | (apply op_siaddr; rfl; rfl; omega; omega) | (apply op_oload (intT .i64) (x := (s : Int)); rfl; exact bsM; exact at_row (intT .i64).toTy hpre (by rw [Int.toNat_natCast]; exact hx)) | (apply op_add (c := (z : Int)); rfl; rfl; (rw [show (y : Int) + (s : Int) = (z : Int) by omega]; apply wrapi <;> omega)) | (apply op_add (c := ((i + 1 : Nat) : Int)); rfl; rfl; (rw [show (i : Int) + 1 = ((i + 1 : Nat) : Int) by omega]; apply wrapi <;> omega)) | (exact bsO)) | apply J.seq | apply E.next | apply J.lq | apply Lq.nil | apply PRun.nil | apply J.block | apply E.in_normal | apply J.skip | (apply Lq.store; rfl; rfl; exact bsP; exact bsS; rfl; rfl) | (apply PRun.al; rfl) | (apply Lq.al; rfl; rfl; intro b) | (apply Open.cons; intro b) | apply Open.nil | (apply Lq.pass; rfl; rfl; rfl) | (apply PRun.pass; rfl; rfl) | (apply Lq.skip; rfl; rfl; rfl; exact bsB) | (apply PRun.skip; rfl; rfl; exact bsB) | (apply J.drawN; exact mixed; kernel_rfl) | (apply J.cond_t; rfl) | (apply J.cond_f; rfl) | apply J.exit | apply E.then_exit | apply E.in_exit | (apply E.in_other; rfl))
      exact E.again (i + 1) (by omega) (by omega) (by rw [hz]; exact (Sub.same (by repeat' (first | exact trivial | refine ⟨rfl, ?_⟩))))
    · obtain rfl : i = ss.length := by omega
      rw [List.take_length]
      repeat (first | ((first | (apply Lq.s; rfl) | apply PRun.s | (apply Lq.run; rfl; rfl; rfl; exact bsB) | (apply PRun.run; rfl; rfl; exact bsB)); first | (apply op_ocell; rfl; exact bsM; rfl) | (apply op_slen; rfl) | (exact bsO)) | apply J.seq | apply E.next | apply J.lq | apply Lq.nil | apply PRun.nil | apply J.block | apply E.in_normal | apply J.skip | (apply Lq.store; rfl; rfl; exact bsP; exact bsS; rfl; rfl) | (apply PRun.al; rfl) | (apply Lq.al; rfl; rfl; intro b) | (apply Open.cons; intro b) | apply Open.nil | (apply Lq.pass; rfl; rfl; rfl) | (apply PRun.pass; rfl; rfl) | (apply Lq.skip; rfl; rfl; rfl; exact bsB) | (apply PRun.skip; rfl; rfl; exact bsB) | (apply J.drawN; exact mixed; kernel_rfl) | (apply J.cond_t; rfl) | (apply J.cond_f; rfl) | apply J.exit | apply E.then_exit | apply E.in_exit | (apply E.in_other; rfl))
      (refine J.ret ?_; (repeat (first | refine E.then_ret ?_ | refine E.in_ret ?_)))
      refine E.close (intT .i64).toTy (nums ss) (b := rb) (o := ro) (cap := c1) (List.Perm.refl _) ?_ hle hcap (take_rowT (intT .i64).toTy hpre) ?_
      · simp only [List.length_append, flat_len] at hroom ⊢
        exact hroom
      exact E.retR1 (G := []) rfl rfl ⟨rfl, rfl⟩ (List.Perm.swap _ _ _)
end Go.Proofs.YtljdjagackdplaaDoor.L
