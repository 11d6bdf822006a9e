/-
  The root that the document's edge tells, where it is owned.
-/
import Derived.Test.YtljdjagackdplaaDoorUy
namespace Go.Proofs.YtljdjagackdplaaDoor.L
open Go
set_option linter.unusedSectionVars false
variable [Globs] [Has_sha_table] [Has_sha_begin]
set_option linter.unusedVariables false
set_option linter.unusedVariables false
set_option linter.unusedSimpArgs false
attribute [local irreducible] J Lq E OpP PRun is any agg tup ptr sl PRunW OpE PRunV OpV star
attribute [local irreducible] up2 mroot nodeH leafH emptyH shaH ownAt row someL leafOf splitZ split rv join2 edge rootE o1 o2 o3 frV fre nums szs
set_option maxHeartbeats 1000000 in
theorem rroot_fnR [Has_ref02_k] (fb : Nat) (ss : List Nat) (hs : List Hash) (A1 : Option Addr) (c1 : Nat) (A2 : Option Addr) (c2 : Nat) (hl : hs.length ≤ 90000) : FnR Tryd.prog 30 [is (.pointer (some ⟨fb, 0, none⟩))] (rfL fb ss hs A1 c1 A2 c2) (fun ψ Δ => ψ = hashT.val (rootE hs) ∧ Δ = rfL fb ss hs A1 c1 A2 c2) := by
  refine FnR.mk' 38 Tryd.func30 rfl rfl rfl rfl fun w0 H0 => ?_
  unfold rfL
  rcases List.eq_nil_or_concat hs with rfl | ⟨init, x, rfl⟩
  · have hp0 : ([] : List Hash).length = 0 := rfl
    repeat (first | ((first | (apply Lq.s; rfl) | apply PRun.s | (apply Lq.run; rfl; rfl; rfl; exact bsB) | (apply PRun.run; rfl; rfl; exact bsB)); first | (apply op_ocell; rfl; exact bsM; rfl) | (apply op_slen; rfl) | (apply op_call refemptyH_fn; exact bsD) | (exact bsO)) | apply J.seq | apply E.next | apply J.lq | apply Lq.nil | apply PRun.nil | apply J.block | apply E.in_normal | apply J.skip | (apply Lq.store; rfl; rfl; exact bsP; exact bsS; rfl; rfl) | (apply PRun.al; rfl) | (apply Lq.al; rfl; rfl; intro b) | (apply Open.cons; intro b) | apply Open.nil | (apply Lq.pass; rfl; rfl; rfl) | (apply PRun.pass; rfl; rfl) | (apply Lq.skip; rfl; rfl; rfl; exact bsB) | (apply PRun.skip; rfl; rfl; exact bsB) | (apply J.cond_t; rfl) | (apply J.cond_f; rfl) | apply J.exit | apply E.then_exit | apply E.in_exit | (apply E.in_other; rfl))
    (apply Lq.storeE (φs' := hashT.cells emptyH); rfl; rfl; exact List.Perm.refl _; exact Seg.val _ _; exact hashT.len _; exact Nat.le_refl 32; exact splice_all (by rw [hashT.len]; rfl))
    repeat (first | ((first | (apply Lq.s; rfl) | apply PRun.s | (apply Lq.run; rfl; rfl; rfl; exact bsB) | (apply PRun.run; rfl; rfl; exact bsB)); first | (exact bsO)) | apply J.seq | apply E.next | apply J.lq | apply Lq.nil | apply PRun.nil | apply J.block | apply E.in_normal | apply J.skip | (apply Lq.store; rfl; rfl; exact bsP; exact bsS; rfl; rfl) | (apply PRun.al; rfl) | (apply Lq.al; rfl; rfl; intro b) | (apply Open.cons; intro b) | apply Open.nil | (apply Lq.pass; rfl; rfl; rfl) | (apply PRun.pass; rfl; rfl) | (apply Lq.skip; rfl; rfl; rfl; exact bsB) | (apply PRun.skip; rfl; rfl; exact bsB) | (apply J.cond_t; rfl) | (apply J.cond_f; rfl) | apply J.exit | apply E.then_exit | apply E.in_exit | (apply E.in_other; rfl))
    (refine J.ret ?_; (repeat (first | refine E.then_ret ?_ | refine E.in_ret ?_)))
    exact E.retRc hashT (x := emptyH) (G := [_]) rfl rfl List.mem_cons_self (take_hash _) ⟨by rw [rootE_nil], rfl⟩ (List.perm_append_comm (l₁ := [_]))
  · rw [List.concat_eq_append] at *
    have hll : (init ++ [x]).length = init.length + 1 := by rw [List.length_append]; rfl
    have hat : (init ++ [x])[init.length]? = some x := by rw [List.getElem?_append_right (Nat.le_refl _), Nat.sub_self]; rfl
    have hin : ∀ i y, init[i]? = some y → (init ++ [x])[i]? = some y := fun i y h => by rw [List.getElem?_append_left (List.getElem?_eq_some_iff.1 h).1]; exact h
    have hne : init ++ [x] ≠ [] := fun e => by rw [e] at hll; simp at hll
    have hr := rootE_snoc init x
    generalize rootE (init ++ [x]) = rt at hr ⊢
    generalize hq : init ++ [x] = hs at *
    refine J.open (Δ' := [_, _]) (List.perm_append_comm (l₁ := [_, _]) (l₂ := [_])) hne ?_
    intro rb ro cap pre post hR
    obtain ⟨hv, hpre, hle, hcap, hroom, _⟩ := hR
    injection hv with hA _ hc
    subst hA; subst hc
    repeat (first | ((first | (apply Lq.s; rfl) | apply PRun.s | (apply Lq.run; rfl; rfl; rfl; exact bsB) | (apply PRun.run; rfl; rfl; exact bsB)); first | (apply op_ocell; rfl; exact bsM; rfl) | (apply op_slen; rfl) | (apply op_sub (c := (init.length : Int)); rfl; rfl; (rw [show (hs.length : Int) - 1 = (init.length : Int) by omega]; apply wrapi <;> omega)) | (apply op_siaddr; rfl; rfl; omega; omega) | (apply op_oload hashT (x := x); rfl; exact bsM; exact at_row hashT.toTy hpre (by rw [Int.toNat_natCast]; exact hat)) | (exact bsO)) | apply J.seq | apply E.next | apply J.lq | apply Lq.nil | apply PRun.nil | apply J.block | apply E.in_normal | apply J.skip | (apply Lq.store; rfl; rfl; exact bsP; exact bsS; rfl; rfl) | (apply PRun.al; rfl) | (apply Lq.al; rfl; rfl; intro b) | (apply Open.cons; intro b) | apply Open.nil | (apply Lq.pass; rfl; rfl; rfl) | (apply PRun.pass; rfl; rfl) | (apply Lq.skip; rfl; rfl; rfl; exact bsB) | (apply PRun.skip; rfl; rfl; exact bsB) | (apply J.cond_t; rfl) | (apply J.cond_f; rfl) | apply J.exit | apply E.then_exit | apply E.in_exit | (apply E.in_other; rfl))
    rename_i b2
    revert b
    intro b4
    (apply Lq.storeE (φs' := hashT.cells x); rfl; rfl; exact List.Perm.refl _; exact Seg.val _ _; exact hashT.len _; exact Nat.le_refl 32; exact splice_all (by rw [hashT.len]; rfl))
    repeat (first | ((first | (apply Lq.s; rfl) | apply PRun.s | (apply Lq.run; rfl; rfl; rfl; exact bsB) | (apply PRun.run; rfl; rfl; exact bsB)); first | (apply op_sub (c := (init.length : Int) - 1); rfl; rfl; (rw [show (hs.length : Int) - 2 = (init.length : Int) - 1 by omega]; apply wrapi <;> omega)) | (exact bsO)) | apply J.seq | apply E.next | apply J.lq | apply Lq.nil | apply PRun.nil | apply J.block | apply E.in_normal | apply J.skip | (apply Lq.store; rfl; rfl; exact bsP; exact bsS; rfl; rfl) | (apply PRun.al; rfl) | (apply Lq.al; rfl; rfl; intro b) | (apply Open.cons; intro b) | apply Open.nil | (apply Lq.pass; rfl; rfl; rfl) | (apply PRun.pass; rfl; rfl) | (apply Lq.skip; rfl; rfl; rfl; exact bsB) | (apply PRun.skip; rfl; rfl; exact bsB) | (apply J.cond_t; rfl) | (apply J.cond_f; rfl) | apply J.exit | apply E.then_exit | apply E.in_exit | (apply E.in_other; rfl))
    refine J.loop (fun p : Nat × Hash => p.1 ≤ init.length ∧ p.2 = (init.drop p.1).reverse.foldl (fun acc h => nodeH h acc) x)
      (fun p => [(0, is (.pointer (some ⟨fb, 0, none⟩))), (2, is (.pointer (some ⟨b2, 0, none⟩))), (4, is (.pointer (some ⟨b4, 0, none⟩))), (5, is (.int .i64 ((p.1 : Int) - 1)))])
      (fun p => [own b4 23 (hashT.cells p.2), own b2 23 (hashT.cells zeroH), own rb 23 (pre ++ flat hashT.toTy hs ++ post), own fb 50 [is (.slice A1 (nums ss).length c1), is (.slice (some ⟨rb, ro, none⟩) hs.length c2)], row (.slice A1 (nums ss).length c1) 3 (intT .i64).toTy (nums ss)]) (fun p => p.1) (init.length, x) ⟨Nat.le_refl _, by dsimp only; rw [List.drop_length]; rfl⟩ (Sub.same (by repeat' (first | exact trivial | refine ⟨rfl, ?_⟩))) ?_
    rintro ⟨k, acc⟩ ⟨hk, hacc⟩
    dsimp only at hk hacc ⊢
    cases k with
    | zero =>
      rw [List.drop_zero, ← hr] at hacc
      subst hacc
      repeat (first | ((first | (apply Lq.s; rfl) | apply PRun.s | (apply Lq.run; rfl; rfl; rfl; exact bsB) | (apply PRun.run; rfl; rfl; exact bsB)); first | (apply op_oload hashT (x := acc); rfl; exact bsM; exact at_hash acc) | (exact bsO)) | apply J.seq | apply E.next | apply J.lq | apply Lq.nil | apply PRun.nil | apply J.block | apply E.in_normal | apply J.skip | (apply Lq.store; rfl; rfl; exact bsP; exact bsS; rfl; rfl) | (apply PRun.al; rfl) | (apply Lq.al; rfl; rfl; intro b) | (apply Open.cons; intro b) | apply Open.nil | (apply Lq.pass; rfl; rfl; rfl) | (apply PRun.pass; rfl; rfl) | (apply Lq.skip; rfl; rfl; rfl; exact bsB) | (apply PRun.skip; rfl; rfl; exact bsB) | (apply J.cond_t; rfl) | (apply J.cond_f; rfl) | apply J.exit | apply E.then_exit | apply E.in_exit | (apply E.in_other; rfl))
      (apply Lq.storeE (φs' := hashT.cells acc); rfl; rfl; exact List.Perm.swap _ _ _; exact Seg.val _ _; exact hashT.len _; exact Nat.le_of_eq (hashT.len _).symm; exact splice_all (by rw [hashT.len, hashT.len]))
      repeat (first | ((first | (apply Lq.s; rfl) | apply PRun.s | (apply Lq.run; rfl; rfl; rfl; exact bsB) | (apply PRun.run; rfl; rfl; exact bsB)); first | (exact bsO)) | apply J.seq | apply E.next | apply J.lq | apply Lq.nil | apply PRun.nil | apply J.block | apply E.in_normal | apply J.skip | (apply Lq.store; rfl; rfl; exact bsP; exact bsS; rfl; rfl) | (apply PRun.al; rfl) | (apply Lq.al; rfl; rfl; intro b) | (apply Open.cons; intro b) | apply Open.nil | (apply Lq.pass; rfl; rfl; rfl) | (apply PRun.pass; rfl; rfl) | (apply Lq.skip; rfl; rfl; rfl; exact bsB) | (apply PRun.skip; rfl; rfl; exact bsB) | (apply J.cond_t; rfl) | (apply J.cond_f; rfl) | apply J.exit | apply E.then_exit | apply E.in_exit | (apply E.in_other; rfl))
      (refine J.ret ?_; (repeat (first | refine E.then_ret ?_ | refine E.in_ret ?_)))
      refine E.close (Δ' := [_, _, _, _]) hashT.toTy hs (b := rb) (o := ro) (cap := c2) (List.perm_middle (l₁ := [_, _])) ?_ hle hcap (take_rowT hashT.toTy hpre) ?_
      · simp only [List.length_append, flat_len] at hroom ⊢
        exact hroom
      exact E.retRc hashT (x := acc) (G := [_, _]) rfl rfl (List.mem_cons_of_mem _ List.mem_cons_self) (take_hash _) ⟨rfl, rfl⟩ (List.perm_append_comm (l₁ := [_, _, _]) (l₂ := [_, _]))
    | succ i =>
      obtain ⟨y, hy⟩ : ∃ y, init[i]? = some y := ⟨_, List.getElem?_eq_getElem (by omega)⟩
      have hy2 := hin i y hy
      rw [show ((i + 1 : Nat) : Int) - 1 = (i : Int) by omega]
      repeat (first | ((first | (apply Lq.s; rfl) | apply PRun.s | (apply Lq.run; rfl; rfl; rfl; exact bsB) | (apply PRun.run; rfl; rfl; exact bsB)); first | (exact bsO)) | apply J.seq | apply E.next | apply J.lq | apply Lq.nil | apply PRun.nil | apply J.block | apply E.in_normal | apply J.skip | (apply Lq.store; rfl; rfl; exact bsP; exact bsS; rfl; rfl) | (apply PRun.al; rfl) | (apply Lq.al; rfl; rfl; intro b) | (apply Open.cons; intro b) | apply Open.nil | (apply Lq.pass; rfl; rfl; rfl) | (apply PRun.pass; rfl; rfl) | (apply Lq.skip; rfl; rfl; rfl; exact bsB) | (apply PRun.skip; rfl; rfl; exact bsB) | (apply J.cond_t; rfl) | (apply J.cond_f; rfl) | apply J.exit | apply E.then_exit | apply E.in_exit | (apply E.in_other; rfl))
      refine J.drawW 9 [(none, none), (none, none), (none, none), (none, none), (none, none), (none, none), (none, none), (none, none), (none, none)] mixed (by kernel_rfl) ?_
      repeat (first | ((first | apply PRunW.s | (apply PRunW.run; rfl; rfl; exact bsB) | (apply Lq.s; rfl) | apply PRun.s | (apply Lq.run; rfl; rfl; rfl; exact bsB) | (apply PRun.run; rfl; rfl; exact bsB)); first | (apply op_ocell; rfl; exact bsM; rfl) | (apply op_slen; rfl) | (apply op_siaddr; rfl; rfl; omega; omega) | (apply op_oload hashT (x := y); rfl; exact bsM; exact at_row hashT.toTy hpre (by rw [Int.toNat_natCast]; exact hy2)) | (apply op_oload hashT (x := acc); rfl; exact bsM; exact at_hash acc) | (apply op_call (refnodeH_fn y acc); exact bsD) | (exact bsO)) | apply J.seq | apply E.next | apply J.lq | apply Lq.nil | apply PRun.nil | apply J.block | apply E.in_normal | apply J.skip | (apply Lq.store; rfl; rfl; exact bsP; exact bsS; rfl; rfl) | (apply PRun.al; rfl) | (apply Lq.al; rfl; rfl; intro b) | (apply Open.cons; intro b) | apply Open.nil | (apply Lq.pass; rfl; rfl; rfl) | (apply PRun.pass; rfl; rfl) | (apply Lq.skip; rfl; rfl; rfl; exact bsB) | (apply PRun.skip; rfl; rfl; exact bsB) | (apply J.cond_t; rfl) | (apply J.cond_f; rfl) | apply J.exit | apply E.then_exit | apply E.in_exit | (apply E.in_other; rfl) | apply PRunW.nil | (apply PRunW.al; rfl) | (apply PRunW.pass; rfl; rfl) | (apply PRunW.skip; rfl; rfl; exact bsB) | (apply Open.pv; intro b) | apply Open.av | (apply Open.rv; intro A c))
      (apply Lq.storeE (φs' := hashT.cells (nodeH y acc)); rfl; rfl; exact List.Perm.refl _; exact Seg.val _ _; exact hashT.len _; exact Nat.le_of_eq (hashT.len _).symm; exact splice_all (by rw [hashT.len, hashT.len]))
      repeat (first | ((first | (apply Lq.s; rfl) | apply PRun.s | (apply Lq.run; rfl; rfl; rfl; exact bsB) | (apply PRun.run; rfl; rfl; exact bsB)); first | (apply op_sub (c := (i : Int) - 1); rfl; rfl; (apply wrapi <;> omega)) | (exact bsO)) | apply J.seq | apply E.next | apply J.lq | apply Lq.nil | apply PRun.nil | apply J.block | apply E.in_normal | apply J.skip | (apply Lq.store; rfl; rfl; exact bsP; exact bsS; rfl; rfl) | (apply PRun.al; rfl) | (apply Lq.al; rfl; rfl; intro b) | (apply Open.cons; intro b) | apply Open.nil | (apply Lq.pass; rfl; rfl; rfl) | (apply PRun.pass; rfl; rfl) | (apply Lq.skip; rfl; rfl; rfl; exact bsB) | (apply PRun.skip; rfl; rfl; exact bsB) | (apply J.cond_t; rfl) | (apply J.cond_f; rfl) | apply J.exit | apply E.then_exit | apply E.in_exit | (apply E.in_other; rfl))
      exact E.again (i, nodeH y acc) (by dsimp only; omega) ⟨by dsimp only; omega, by dsimp only; rw [drop_one hy, List.foldl_append, ← hacc]; rfl⟩ (Sub.same (by repeat' (first | exact trivial | refine ⟨rfl, ?_⟩)))
end Go.Proofs.YtljdjagackdplaaDoor.L
