/-
  The root of a row of hashes, walked.
-/
import Derived.Test.YtljdjagackdplaaDoorTa
import Derived.Test.YtljdjagackdplaaDoorSj
namespace Go.Proofs.YtljdjagackdplaaDoor.L
open Go
set_option linter.unusedSectionVars false
variable [Globs] [Has_sha_table] [Has_sha_begin]
theorem up2_nil : up2 [] = [] := rfl
theorem up2_more {x : List Hash} {k : Nat} {a c : Hash} (ha : (x.drop (2 * k))[0]? = some a) (hc : (x.drop (2 * k))[1]? = some c) : up2 (x.take (2 * (k + 1))) = up2 (x.take (2 * k)) ++ [nodeH a c] := by
  rw [List.getElem?_drop] at ha hc
  have hl := (List.getElem?_eq_some_iff.1 hc).1
  have e : x.take (2 * (k + 1)) = x.take (2 * k) ++ [a, c] := by
    rw [show 2 * (k + 1) = 2 * k + 1 + 1 by omega, List.take_add_one, List.take_add_one]
    rw [Nat.add_zero] at ha
    rw [ha, hc]; simp
  rw [e, up2_app _ _ (by rw [List.length_take]; omega)]
  rfl
theorem up2_end {x : List Hash} {k : Nat} (hk : 2 * k ≤ x.length) (h : (x.drop (2 * k)).length ≤ 1) : up2 (x.take (2 * k)) ++ x.drop (2 * k) = up2 x := by
  conv => rhs; rw [← List.take_append_drop (2 * k) x, up2_app _ _ (by rw [List.length_take]; omega), up2_short h]
theorem leafH_fn (s : List UInt8) (hs : s.length ≤ 900000) : Fn Tryd.prog 40 [is (str s)] (hashT.val (leafH s)) := leaf_fn s hs
theorem nodeH_fn (p q : Hash) : Fn Tryd.prog 20 [hashT.val p, hashT.val q] (hashT.val (nodeH p q)) := node_fn p q
theorem emptyH_fn : Fn Tryd.prog 34 [] (hashT.val emptyH) := empty_fn
set_option linter.unusedVariables false
set_option linter.unusedSimpArgs false
attribute [local irreducible] J Lq E OpP PRun is any agg tup ptr sl
attribute [local irreducible] up2 mroot nodeH leafH emptyH shaH ownAt row
theorem storeH {b e : Nat} {φs : List Pr} {x : Hash} (h : φs.length = 32) : (List.take 0 φs ++ hashT.cells x ++ List.drop (0 + (hashT.cells x).length) φs).take 32 = hashT.cells x := by
  rw [List.take_zero, List.nil_append]; exact List.take_left' (hashT.len _)
theorem root_fn (xs : List Hash) (hx : xs.length ≤ 100000) : Fn Tryd.prog 14 [sl hashT.toTy xs] (hashT.val (mroot xs)) := by
  by_cases h0 : xs.length = 0
  · obtain rfl := List.eq_nil_of_length_eq_zero h0
    rw [mroot_nil]
    refine Fn.mk' 37 Tryd.func14 rfl rfl rfl rfl fun w0 H0 => ?_
    repeat (first | ((first | (apply Lq.s; rfl) | apply PRun.s | (apply Lq.run; rfl; rfl; rfl; exact bsB) | (apply PRun.run; rfl; rfl; exact bsB)); first | (apply op_call emptyH_fn; exact bsD) | (exact bsO)) | apply J.seq | apply E.next | apply J.lq | apply Lq.nil | apply PRun.nil | apply J.block | apply E.in_normal | apply J.skip | (apply Lq.store; rfl; rfl; exact bsP; exact bsS; rfl; rfl) | (apply PRun.al; rfl) | (apply Lq.al; rfl; rfl; intro b) | (apply Open.cons; intro b) | apply Open.nil | (apply Lq.pass; rfl; rfl; rfl) | (apply PRun.pass; rfl; rfl) | (apply Lq.skip; rfl; rfl; rfl; exact bsB) | (apply PRun.skip; rfl; rfl; exact bsB) | (apply J.drawN; exact mixed; kernel_rfl) | (apply J.cond_t; rfl) | (apply J.cond_f; rfl) | apply J.exit | apply E.then_exit | apply E.in_exit | (apply E.in_other; rfl))
    (apply Lq.store; rfl; rfl; exact List.Perm.refl _; exact Seg.val _ _; exact hashT.len _; rfl)
    repeat (first | ((first | (apply Lq.s; rfl) | apply PRun.s | (apply Lq.run; rfl; rfl; rfl; exact bsB) | (apply PRun.run; rfl; rfl; exact bsB)); first | (exact bsO)) | apply J.seq | apply E.next | apply J.lq | apply Lq.nil | apply PRun.nil | apply J.block | apply E.in_normal | apply J.skip | (apply Lq.store; rfl; rfl; exact bsP; exact bsS; rfl; rfl) | (apply PRun.al; rfl) | (apply Lq.al; rfl; rfl; intro b) | (apply Open.cons; intro b) | apply Open.nil | (apply Lq.pass; rfl; rfl; rfl) | (apply PRun.pass; rfl; rfl) | (apply Lq.skip; rfl; rfl; rfl; exact bsB) | (apply PRun.skip; rfl; rfl; exact bsB) | (apply J.drawN; exact mixed; kernel_rfl) | (apply J.cond_t; rfl) | (apply J.cond_f; rfl) | apply J.exit | apply E.then_exit | apply E.in_exit | (apply E.in_other; rfl))
    (refine J.ret ?_; (repeat (first | refine E.then_ret ?_ | refine E.in_ret ?_)))
    exact E.retc hashT (x := emptyH) rfl rfl List.mem_cons_self (show (List.take 0 _ ++ hashT.cells _ ++ List.drop _ _).take 32 = _ from by rw [List.take_zero, List.nil_append]; exact List.take_left' (hashT.len _)) rfl
  · refine Fn.mk' 37 Tryd.func14 rfl rfl rfl rfl fun w0 H0 => ?_
    repeat (first | ((first | (apply Lq.s; rfl) | apply PRun.s | (apply Lq.run; rfl; rfl; rfl; exact bsB) | (apply PRun.run; rfl; rfl; exact bsB)); first | (exact bsO)) | apply J.seq | apply E.next | apply J.lq | apply Lq.nil | apply PRun.nil | apply J.block | apply E.in_normal | apply J.skip | (apply Lq.store; rfl; rfl; exact bsP; exact bsS; rfl; rfl) | (apply PRun.al; rfl) | (apply Lq.al; rfl; rfl; intro b) | (apply Open.cons; intro b) | apply Open.nil | (apply Lq.pass; rfl; rfl; rfl) | (apply PRun.pass; rfl; rfl) | (apply Lq.skip; rfl; rfl; rfl; exact bsB) | (apply PRun.skip; rfl; rfl; exact bsB) | (apply J.drawN; exact mixed; kernel_rfl) | (apply J.cond_t; rfl) | (apply J.cond_f; rfl) | apply J.exit | apply E.then_exit | apply E.in_exit | (apply E.in_other; rfl))
    refine J.loop (fun x : List Hash => x.length ≤ xs.length ∧ 1 ≤ x.length ∧ mroot x = mroot xs) (fun x => [(0, sl hashT.toTy x), (2, is (.pointer (some ⟨b, 0, none⟩)))]) (fun _ => [own b 23 (hashT.cells zeroH)]) (fun x => x.length) xs ⟨Nat.le_refl _, by omega, rfl⟩ (Sub.same (by repeat' (first | exact trivial | refine ⟨rfl, ?_⟩))) ?_
    rintro x ⟨hx1, hx2, hx3⟩
    by_cases h1 : x.length = 1
    · obtain ⟨a, rfl⟩ := List.length_eq_one_iff.1 h1
      rw [mroot_one] at hx3
      rw [← hx3]
      repeat (first | ((first | (apply Lq.s; rfl) | apply PRun.s | (apply Lq.run; rfl; rfl; rfl; exact bsB) | (apply PRun.run; rfl; rfl; exact bsB)); first | (apply op_iaddr hashT.toTy (x := a); rfl; rfl; decide; rfl) | (apply op_load hashT; rfl) | (exact bsO)) | apply J.seq | apply E.next | apply J.lq | apply Lq.nil | apply PRun.nil | apply J.block | apply E.in_normal | apply J.skip | (apply Lq.store; rfl; rfl; exact bsP; exact bsS; rfl; rfl) | (apply PRun.al; rfl) | (apply Lq.al; rfl; rfl; intro b) | (apply Open.cons; intro b) | apply Open.nil | (apply Lq.pass; rfl; rfl; rfl) | (apply PRun.pass; rfl; rfl) | (apply Lq.skip; rfl; rfl; rfl; exact bsB) | (apply PRun.skip; rfl; rfl; exact bsB) | (apply J.drawN; exact mixed; kernel_rfl) | (apply J.cond_t; rfl) | (apply J.cond_f; rfl) | apply J.exit | apply E.then_exit | apply E.in_exit | (apply E.in_other; rfl))
      (apply Lq.store; rfl; rfl; exact List.Perm.refl _; exact Seg.val _ _; exact hashT.len _; rfl)
      repeat (first | ((first | (apply Lq.s; rfl) | apply PRun.s | (apply Lq.run; rfl; rfl; rfl; exact bsB) | (apply PRun.run; rfl; rfl; exact bsB)); first | (exact bsO)) | apply J.seq | apply E.next | apply J.lq | apply Lq.nil | apply PRun.nil | apply J.block | apply E.in_normal | apply J.skip | (apply Lq.store; rfl; rfl; exact bsP; exact bsS; rfl; rfl) | (apply PRun.al; rfl) | (apply Lq.al; rfl; rfl; intro b) | (apply Open.cons; intro b) | apply Open.nil | (apply Lq.pass; rfl; rfl; rfl) | (apply PRun.pass; rfl; rfl) | (apply Lq.skip; rfl; rfl; rfl; exact bsB) | (apply PRun.skip; rfl; rfl; exact bsB) | (apply J.drawN; exact mixed; kernel_rfl) | (apply J.cond_t; rfl) | (apply J.cond_f; rfl) | apply J.exit | apply E.then_exit | apply E.in_exit | (apply E.in_other; rfl))
      (refine J.ret ?_; (repeat (first | refine E.then_ret ?_ | refine E.in_ret ?_)))
      exact E.retc hashT (x := a) rfl rfl List.mem_cons_self (show (List.take 0 _ ++ hashT.cells _ ++ List.drop _ _).take 32 = _ from by rw [List.take_zero, List.nil_append]; exact List.take_left' (hashT.len _)) rfl
    · repeat (first | ((first | (apply Lq.s; rfl) | apply PRun.s | (apply Lq.run; rfl; rfl; rfl; exact bsB) | (apply PRun.run; rfl; rfl; exact bsB)); first | (apply op_quon (m := x.length) (n := 2); rfl; rfl; decide; omega) | (exact bsO)) | apply J.seq | apply E.next | apply J.lq | apply Lq.nil | apply PRun.nil | apply J.block | apply E.in_normal | apply J.skip | (apply Lq.store; rfl; rfl; exact bsP; exact bsS; rfl; rfl) | (apply PRun.al; rfl) | (apply Lq.al; rfl; rfl; intro b) | (apply Open.cons; intro b) | apply Open.nil | (apply Lq.pass; rfl; rfl; rfl) | (apply PRun.pass; rfl; rfl) | (apply Lq.skip; rfl; rfl; rfl; exact bsB) | (apply PRun.skip; rfl; rfl; exact bsB) | (apply J.drawN; exact mixed; kernel_rfl) | (apply J.cond_t; rfl) | (apply J.cond_f; rfl) | apply J.exit | apply E.then_exit | apply E.in_exit | (apply E.in_other; rfl))
      (apply Lq.makeRow (T := hashT.toTy) (n := x.length / 2 + 1); rfl; rfl; rfl; rfl; rfl; (show 32 ≠ 0; decide); omega; (unfold maxLen; omega))
      intro bm
      repeat (first | ((first | (apply Lq.s; rfl) | apply PRun.s | (apply Lq.run; rfl; rfl; rfl; exact bsB) | (apply PRun.run; rfl; rfl; exact bsB)); first | (exact bsO)) | apply J.seq | apply E.next | apply J.lq | apply Lq.nil | apply PRun.nil | apply J.block | apply E.in_normal | apply J.skip | (apply Lq.store; rfl; rfl; exact bsP; exact bsS; rfl; rfl) | (apply PRun.al; rfl) | (apply Lq.al; rfl; rfl; intro b) | (apply Open.cons; intro b) | apply Open.nil | (apply Lq.pass; rfl; rfl; rfl) | (apply PRun.pass; rfl; rfl) | (apply Lq.skip; rfl; rfl; rfl; exact bsB) | (apply PRun.skip; rfl; rfl; exact bsB) | (apply J.drawN; exact mixed; kernel_rfl) | (apply J.cond_t; rfl) | (apply J.cond_f; rfl) | apply J.exit | apply E.then_exit | apply E.in_exit | (apply E.in_other; rfl))
      refine J.loop (fun p : Nat × Option Addr × Nat => 2 * p.1 ≤ x.length) (fun p => [(0, sl hashT.toTy (x.drop (2 * p.1))), (2, is (.pointer (some ⟨b, 0, none⟩))), (3, is (.slice p.2.1 (up2 (x.take (2 * p.1))).length p.2.2))])
        (fun p => [row (.slice p.2.1 (up2 (x.take (2 * p.1))).length p.2.2) 23 hashT.toTy (up2 (x.take (2 * p.1))), own b 23 (hashT.cells zeroH)]) (fun p => x.length - 2 * p.1) (0, some ⟨bm, 0, none⟩, x.length / 2 + 1) (Nat.zero_le _) ?_ ?_
      · try dsimp only
        rw [Nat.mul_zero, List.take_zero, List.drop_zero, up2_nil]
        exact (Sub.same (by repeat' (first | exact trivial | refine ⟨rfl, ?_⟩)))
      rintro ⟨k, A, c⟩ hk
      dsimp only at hk ⊢
      have hdl : (x.drop (2 * k)).length = x.length - 2 * k := List.length_drop
      have hul : (up2 (x.take (2 * k))).length ≤ x.length := by rw [up2_len, List.length_take]; omega
      by_cases hmore : 1 < (x.drop (2 * k)).length
      · obtain ⟨p, hp⟩ : ∃ p, (x.drop (2 * k))[0]? = some p := ⟨_, List.getElem?_eq_getElem (by omega)⟩
        obtain ⟨q, hq⟩ : ∃ q, (x.drop (2 * k))[1]? = some q := ⟨_, List.getElem?_eq_getElem (by omega)⟩
        have hup := up2_more hp hq
        have hdr : (x.drop (2 * k)).drop 2 = x.drop (2 * (k + 1)) := by rw [List.drop_drop]; congr 1
        repeat (first | ((first | (apply Lq.s; rfl) | apply PRun.s | (apply Lq.run; rfl; rfl; rfl; exact bsB) | (apply PRun.run; rfl; rfl; exact bsB)); first | (apply op_iaddr hashT.toTy (x := p); rfl; rfl; decide; exact hp) | (apply op_iaddr hashT.toTy (x := q); rfl; rfl; decide; exact hq) | (apply op_load hashT; rfl) | (apply op_call (nodeH_fn p q); exact bsD) | (apply op_bslice hashT (xs := [nodeH p q]); (repeat (first | exact PO.nil _ | (apply PO.cons; rfl))); rfl; rfl; rfl) | (exact bsO)) | apply J.seq | apply E.next | apply J.lq | apply Lq.nil | apply PRun.nil | apply J.block | apply E.in_normal | apply J.skip | (apply Lq.store; rfl; rfl; exact bsP; exact bsS; rfl; rfl) | (apply PRun.al; rfl) | (apply Lq.al; rfl; rfl; intro b) | (apply Open.cons; intro b) | apply Open.nil | (apply Lq.pass; rfl; rfl; rfl) | (apply PRun.pass; rfl; rfl) | (apply Lq.skip; rfl; rfl; rfl; exact bsB) | (apply PRun.skip; rfl; rfl; exact bsB) | (apply J.drawN; exact mixed; kernel_rfl) | (apply J.cond_t; rfl) | (apply J.cond_f; rfl) | apply J.exit | apply E.then_exit | apply E.in_exit | (apply E.in_other; rfl))
        (apply Lq.append (T := hashT) (xs := up2 (x.take (2 * k))) (ys := [nodeH p q]); rfl; exact List.Perm.refl _; (apply From.sl; rfl); rfl; rfl; rfl; (show _ + 1 ≤ maxLen; unfold maxLen; omega); (show (_ + 1) * 32 ≤ _; omega))
        intro A1 c1
        repeat (first | ((first | (apply Lq.s; rfl) | apply PRun.s | (apply Lq.run; rfl; rfl; rfl; exact bsB) | (apply PRun.run; rfl; rfl; exact bsB)); first | (apply op_ksl_lo (T := hashT.toTy) (lo := 2); rfl; rfl; omega) | (exact bsO)) | apply J.seq | apply E.next | apply J.lq | apply Lq.nil | apply PRun.nil | apply J.block | apply E.in_normal | apply J.skip | (apply Lq.store; rfl; rfl; exact bsP; exact bsS; rfl; rfl) | (apply PRun.al; rfl) | (apply Lq.al; rfl; rfl; intro b) | (apply Open.cons; intro b) | apply Open.nil | (apply Lq.pass; rfl; rfl; rfl) | (apply PRun.pass; rfl; rfl) | (apply Lq.skip; rfl; rfl; rfl; exact bsB) | (apply PRun.skip; rfl; rfl; exact bsB) | (apply J.drawN; exact mixed; kernel_rfl) | (apply J.cond_t; rfl) | (apply J.cond_f; rfl) | apply J.exit | apply E.then_exit | apply E.in_exit | (apply E.in_other; rfl))
        rw [hdr, ← hup]
        exact E.again (k + 1, A1, c1) (by dsimp only; omega) (by dsimp only; omega) (Sub.same (by repeat' (first | exact trivial | refine ⟨rfl, ?_⟩)))
      · repeat (first | ((first | (apply Lq.s; rfl) | apply PRun.s | (apply Lq.run; rfl; rfl; rfl; exact bsB) | (apply PRun.run; rfl; rfl; exact bsB)); first | (exact bsO)) | apply J.seq | apply E.next | apply J.lq | apply Lq.nil | apply PRun.nil | apply J.block | apply E.in_normal | apply J.skip | (apply Lq.store; rfl; rfl; exact bsP; exact bsS; rfl; rfl) | (apply PRun.al; rfl) | (apply Lq.al; rfl; rfl; intro b) | (apply Open.cons; intro b) | apply Open.nil | (apply Lq.pass; rfl; rfl; rfl) | (apply PRun.pass; rfl; rfl) | (apply Lq.skip; rfl; rfl; rfl; exact bsB) | (apply PRun.skip; rfl; rfl; exact bsB) | (apply J.drawN; exact mixed; kernel_rfl) | (apply J.cond_t; rfl) | (apply J.cond_f; rfl) | apply J.exit | apply E.then_exit | apply E.in_exit | (apply E.in_other; rfl))
        (apply Lq.append (T := hashT) (xs := up2 (x.take (2 * k))) (ys := x.drop (2 * k)); rfl; exact List.Perm.refl _; (apply From.sl; rfl); rfl; rfl; rfl; (unfold maxLen; omega); (show (_ + _) * 32 ≤ _; omega))
        intro A1 c1
        rw [up2_end hk (by omega)]
        repeat (first | ((first | (apply Lq.s; rfl) | apply PRun.s | (apply Lq.run; rfl; rfl; rfl; exact bsB) | (apply PRun.run; rfl; rfl; exact bsB)); first | (exact bsO)) | apply J.seq | apply E.next | apply J.lq | apply Lq.nil | apply PRun.nil | apply J.block | apply E.in_normal | apply J.skip | (apply Lq.store; rfl; rfl; exact bsP; exact bsS; rfl; rfl) | (apply PRun.al; rfl) | (apply Lq.al; rfl; rfl; intro b) | (apply Open.cons; intro b) | apply Open.nil | (apply Lq.pass; rfl; rfl; rfl) | (apply PRun.pass; rfl; rfl) | (apply Lq.skip; rfl; rfl; rfl; exact bsB) | (apply PRun.skip; rfl; rfl; exact bsB) | (apply J.drawN; exact mixed; kernel_rfl) | (apply J.cond_t; rfl) | (apply J.cond_f; rfl) | apply J.exit | apply E.then_exit | apply E.in_exit | (apply E.in_other; rfl))
        refine E.freeze 0 rfl (List.Perm.refl _) ?_
        have hu2 := up2_len x
        exact E.again (up2 x) (by omega) ⟨by omega, by omega, by rw [mroot_up2 _ x rfl]; exact hx3⟩ (Sub.same (by repeat' (first | exact trivial | refine ⟨rfl, ?_⟩)))
end Go.Proofs.YtljdjagackdplaaDoor.L
