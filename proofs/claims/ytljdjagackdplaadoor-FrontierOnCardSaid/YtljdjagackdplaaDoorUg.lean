/-
  The edge of a tree, walked: bits counted, rows cloned, leaves taken.
-/
import Derived.Test.YtljdjagackdplaaDoorUf
import Derived.Test.YtljdjagackdplaaDoorWz
import Derived.Test.YtljdjagackdplaaDoorLo
namespace Go.Proofs.YtljdjagackdplaaDoor.L
open Go
set_option linter.unusedSectionVars false
variable [Globs] [Has_sha_table] [Has_sha_begin]
set_option linter.unusedVariables false
/-- An edge in memory. -/
def frL (b : Nat) (hs : List Hash) (many : Nat) (A : Option Addr) (c : Nat) : List Res := [own b 66 [is (.slice A hs.length c), is (.int .i64 (many : Int))], row (.slice A hs.length c) 23 hashT.toTy hs]
def frV (b : Nat) (hs : List Hash) (many : Nat) : VS := fun Δ => ∃ A c, Δ = frL b hs many A c
theorem split2s {hs : List Hash} (h : 2 ≤ hs.length) : ∃ xs p q, hs = xs ++ [p, q] := by
  rcases List.eq_nil_or_concat hs with rfl | ⟨r, b, rfl⟩
  · simp at h
  · rw [List.concat_eq_append] at h ⊢
    rcases List.eq_nil_or_concat r with rfl | ⟨q, a, rfl⟩
    · simp at h
    · exact ⟨q, a, b, by rw [List.concat_eq_append, List.append_assoc]; rfl⟩
set_option linter.unusedVariables false
set_option linter.unusedSimpArgs false
attribute [local irreducible] J Lq E OpP PRun is any agg tup ptr sl PRunW OpE
attribute [local irreducible] up2 mroot nodeH leafH emptyH shaH ownAt row someL leafOf splitZ split rv join2 edge rootE o1 o2 o3
theorem ones64_fn (n : Nat) (hn : n < 18446744073709551616) : Fn Tryd.prog 55 [is (.int .u64 (n : Int))] (is (.int .i64 ((pop n : Nat) : Int))) := by
  obtain ⟨y, hy⟩ : ∃ y, y = o3 (o2 (o1 n)) := ⟨_, rfl⟩
  obtain ⟨a, ha⟩ : ∃ a, a = y + y / 256 := ⟨_, rfl⟩
  obtain ⟨b, hb⟩ : ∃ b, b = a + a / 65536 := ⟨_, rfl⟩
  obtain ⟨c, hc⟩ : ∃ c, c = b + b / 4294967296 := ⟨_, rfl⟩
  obtain ⟨k1, k2, k3, k4⟩ := sum8 hn (hy.trans (o3_all n)) ha hb hc
  have l1 : o1 n < 18446744073709551616 := o1_lt n
  have l2 : o2 (o1 n) < 18446744073709551616 := o2_lt _
  have l3 : o2 (o1 n) / 16 + o2 (o1 n) < 18446744073709551616 := o3_in n
  have d1 : (n / 2 ^ 1 &&& 6148914691236517205) + (n &&& 6148914691236517205) = o1 n := by unfold o1; rfl
  have d2 : (o1 n / 2 ^ 2 &&& 3689348814741910323) + (o1 n &&& 3689348814741910323) = o2 (o1 n) := by unfold o2; rfl
  have d3 : (o2 (o1 n) / 2 ^ 4 + o2 (o1 n)) &&& 1085102592571150095 = y := by rw [hy]; unfold o3; rfl
  have d4 : c &&& 127 = pop n := by
    rw [← k4]
    exact Nat.and_two_pow_sub_one_eq_mod c 7
  have ly : y < 18446744073709551616 := by omega
  have q1 : n / 2 ^ 1 < 2 ^ 64 := by omega
  generalize o2 (o1 n) = z2 at *
  generalize o1 n = z1 at *
  generalize pop n = r at *
  clear hy
  refine Fn.mk' 35 Tryd.func55 rfl rfl rfl rfl fun w0 H0 => ?_
  repeat (first | ((first | (apply Lq.s; rfl) | apply PRun.s | (apply Lq.run; rfl; rfl; rfl; exact bsB) | (apply PRun.run; rfl; rfl; exact bsB)); first | (apply op_shrn (m := n) (n := 1); rfl; rfl; decide) | (apply op_shrn (m := z1) (n := 2); rfl; rfl; decide) | (apply op_shrn (m := z2) (n := 4); rfl; rfl; decide) | (apply op_shrn (m := y) (n := 8); rfl; rfl; decide) | (apply op_shrn (m := a) (n := 16); rfl; rfl; decide) | (apply op_shrn (m := b) (n := 32); rfl; rfl; decide) | (apply op_andu (m := n / 2 ^ 1) (n := 6148914691236517205); rfl; rfl; omega; omega) | (apply op_andu (m := n) (n := 6148914691236517205); rfl; rfl; omega; omega) | (apply op_add (c := (z1 : Int)); rfl; rfl; (rw [show ((n / 2 ^ 1 &&& 6148914691236517205 : Nat) : Int) + ((n &&& 6148914691236517205 : Nat) : Int) = (z1 : Int) by omega]; exact wrapu' l1)) | (apply op_andu (m := z1 / 2 ^ 2) (n := 3689348814741910323); rfl; rfl; omega; omega) | (apply op_andu (m := z1) (n := 3689348814741910323); rfl; rfl; omega; omega) | (apply op_add (c := (z2 : Int)); rfl; rfl; (rw [show ((z1 / 2 ^ 2 &&& 3689348814741910323 : Nat) : Int) + ((z1 &&& 3689348814741910323 : Nat) : Int) = (z2 : Int) by omega]; exact wrapu' l2)) | (apply op_add (c := ((z2 / 2 ^ 4 + z2 : Nat) : Int)); rfl; rfl; (rw [show ((z2 / 2 ^ 4 : Nat) : Int) + (z2 : Int) = ((z2 / 2 ^ 4 + z2 : Nat) : Int) by omega]; exact wrapu' (by omega))) | (apply op_andu (m := z2 / 2 ^ 4 + z2) (n := 1085102592571150095); rfl; rfl; omega; omega) | (exact bsO)) | apply J.seq | apply E.next | apply J.lq | apply Lq.nil | apply PRun.nil | apply J.block | apply E.in_normal | apply J.skip | (apply Lq.store; rfl; rfl; exact bsP; exact bsS; rfl; rfl) | (apply PRun.al; rfl) | (apply Lq.al; rfl; rfl; intro b) | (apply Open.cons; intro b) | apply Open.nil | (apply Lq.pass; rfl; rfl; rfl) | (apply PRun.pass; rfl; rfl) | (apply Lq.skip; rfl; rfl; rfl; exact bsB) | (apply PRun.skip; rfl; rfl; exact bsB) | (apply J.drawN; exact mixed; kernel_rfl) | (apply J.cond_t; rfl) | (apply J.cond_f; rfl) | apply J.exit | apply E.then_exit | apply E.in_exit | (apply E.in_other; rfl))
  rw [d3]
  repeat (first | ((first | (apply Lq.s; rfl) | apply PRun.s | (apply Lq.run; rfl; rfl; rfl; exact bsB) | (apply PRun.run; rfl; rfl; exact bsB)); first | (apply op_shrn (m := y) (n := 8); rfl; rfl; decide) | (apply op_shrn (m := a) (n := 16); rfl; rfl; decide) | (apply op_shrn (m := b) (n := 32); rfl; rfl; decide) | (apply op_add (c := (a : Int)); rfl; rfl; (rw [show (y : Int) + ((y / 2 ^ 8 : Nat) : Int) = (a : Int) by omega]; exact wrapu' k1)) | (apply op_add (c := (b : Int)); rfl; rfl; (rw [show (a : Int) + ((a / 2 ^ 16 : Nat) : Int) = (b : Int) by omega]; exact wrapu' k2)) | (apply op_add (c := (c : Int)); rfl; rfl; (rw [show (b : Int) + ((b / 2 ^ 32 : Nat) : Int) = (c : Int) by omega]; exact wrapu' (by omega))) | (apply op_conv (c := (c : Int)); rfl; (apply wrapi <;> omega)) | (apply op_andn (m := c) (n := 127); rfl; rfl; omega; omega) | (exact bsO)) | apply J.seq | apply E.next | apply J.lq | apply Lq.nil | apply PRun.nil | apply J.block | apply E.in_normal | apply J.skip | (apply Lq.store; rfl; rfl; exact bsP; exact bsS; rfl; rfl) | (apply PRun.al; rfl) | (apply Lq.al; rfl; rfl; intro b) | (apply Open.cons; intro b) | apply Open.nil | (apply Lq.pass; rfl; rfl; rfl) | (apply PRun.pass; rfl; rfl) | (apply Lq.skip; rfl; rfl; rfl; exact bsB) | (apply PRun.skip; rfl; rfl; exact bsB) | (apply J.drawN; exact mixed; kernel_rfl) | (apply J.cond_t; rfl) | (apply J.cond_f; rfl) | apply J.exit | apply E.then_exit | apply E.in_exit | (apply E.in_other; rfl))
  rw [d4]
  repeat (first | ((first | (apply Lq.s; rfl) | apply PRun.s | (apply Lq.run; rfl; rfl; rfl; exact bsB) | (apply PRun.run; rfl; rfl; exact bsB)); first | (exact bsO)) | apply J.seq | apply E.next | apply J.lq | apply Lq.nil | apply PRun.nil | apply J.block | apply E.in_normal | apply J.skip | (apply Lq.store; rfl; rfl; exact bsP; exact bsS; rfl; rfl) | (apply PRun.al; rfl) | (apply Lq.al; rfl; rfl; intro b) | (apply Open.cons; intro b) | apply Open.nil | (apply Lq.pass; rfl; rfl; rfl) | (apply PRun.pass; rfl; rfl) | (apply Lq.skip; rfl; rfl; rfl; exact bsB) | (apply PRun.skip; rfl; rfl; exact bsB) | (apply J.drawN; exact mixed; kernel_rfl) | (apply J.cond_t; rfl) | (apply J.cond_f; rfl) | apply J.exit | apply E.then_exit | apply E.in_exit | (apply E.in_other; rfl))
  (refine J.ret ?_; (repeat (first | refine E.then_ret ?_ | refine E.in_ret ?_)))
  exact E.ret1 rfl rfl
theorem ones_fn (n : Nat) (hn : n < 18446744073709551616) : Fn Tryd.prog 41 [is (.int .u64 (n : Int))] (is (.int .i64 ((pop n : Nat) : Int))) := by
  have h := ones64_fn n hn
  generalize pop n = r at *
  refine Fn.mk' 8 Tryd.func41 rfl rfl rfl rfl fun w0 H0 => ?_
  repeat (first | ((first | (apply Lq.s; rfl) | apply PRun.s | (apply Lq.run; rfl; rfl; rfl; exact bsB) | (apply PRun.run; rfl; rfl; exact bsB)); first | (apply op_call h; exact bsD) | (exact bsO)) | apply J.seq | apply E.next | apply J.lq | apply Lq.nil | apply PRun.nil | apply J.block | apply E.in_normal | apply J.skip | (apply Lq.store; rfl; rfl; exact bsP; exact bsS; rfl; rfl) | (apply PRun.al; rfl) | (apply Lq.al; rfl; rfl; intro b) | (apply Open.cons; intro b) | apply Open.nil | (apply Lq.pass; rfl; rfl; rfl) | (apply PRun.pass; rfl; rfl) | (apply Lq.skip; rfl; rfl; rfl; exact bsB) | (apply PRun.skip; rfl; rfl; exact bsB) | (apply J.drawN; exact mixed; kernel_rfl) | (apply J.cond_t; rfl) | (apply J.cond_f; rfl) | apply J.exit | apply E.then_exit | apply E.in_exit | (apply E.in_other; rfl))
  (refine J.ret ?_; (repeat (first | refine E.then_ret ?_ | refine E.in_ret ?_)))
  exact E.ret1 rfl rfl
theorem clone_fnR (hs : List Hash) (hl : hs.length ≤ 100000) (A : Option Addr) (c e : Nat) : FnR Tryd.prog 42 [is (.slice A hs.length c)] [row (.slice A hs.length c) e hashT.toTy hs] (fun ψ Δ => ∃ A' c', ψ = is (.slice A' hs.length c') ∧ Δ = [row (.slice A' hs.length c') 23 hashT.toTy hs, row (.slice A hs.length c) e hashT.toTy hs]) := by
  refine FnR.mk' 8 Tryd.func42 rfl rfl rfl rfl fun w0 H0 => ?_
  refine J.rowNil (List.Perm.refl _) (fun hA hn hc hx => ?_) (fun a hA => ?_)
  · subst hA; subst hx; subst hc
    refine J.nilrow 23 hashT.toTy ?_
    repeat (first | ((first | (apply Lq.s; rfl) | apply PRun.s | (apply Lq.run; rfl; rfl; rfl; exact bsB) | (apply PRun.run; rfl; rfl; exact bsB)); first | (apply op_slnil; rfl; rfl) | (exact bsO)) | apply J.seq | apply E.next | apply J.lq | apply Lq.nil | apply PRun.nil | apply J.block | apply E.in_normal | apply J.skip | (apply Lq.store; rfl; rfl; exact bsP; exact bsS; rfl; rfl) | (apply PRun.al; rfl) | (apply Lq.al; rfl; rfl; intro b) | (apply Open.cons; intro b) | apply Open.nil | (apply Lq.pass; rfl; rfl; rfl) | (apply PRun.pass; rfl; rfl) | (apply Lq.skip; rfl; rfl; rfl; exact bsB) | (apply PRun.skip; rfl; rfl; exact bsB) | (apply J.drawN; exact mixed; kernel_rfl) | (apply J.cond_t; rfl) | (apply J.cond_f; rfl) | apply J.exit | apply E.then_exit | apply E.in_exit | (apply E.in_other; rfl))
    (refine J.ret ?_; (repeat (first | refine E.then_ret ?_ | refine E.in_ret ?_)))
    exact E.retR1 (G := []) rfl rfl ⟨none, 0, rfl, rfl⟩ (List.Perm.refl _)
  · subst hA
    repeat (first | ((first | (apply Lq.s; rfl) | apply PRun.s | (apply Lq.run; rfl; rfl; rfl; exact bsB) | (apply PRun.run; rfl; rfl; exact bsB)); first | (apply op_slnil; rfl; rfl) | (exact bsO)) | apply J.seq | apply E.next | apply J.lq | apply Lq.nil | apply PRun.nil | apply J.block | apply E.in_normal | apply J.skip | (apply Lq.store; rfl; rfl; exact bsP; exact bsS; rfl; rfl) | (apply PRun.al; rfl) | (apply Lq.al; rfl; rfl; intro b) | (apply Open.cons; intro b) | apply Open.nil | (apply Lq.pass; rfl; rfl; rfl) | (apply PRun.pass; rfl; rfl) | (apply Lq.skip; rfl; rfl; rfl; exact bsB) | (apply PRun.skip; rfl; rfl; exact bsB) | (apply J.drawN; exact mixed; kernel_rfl) | (apply J.cond_t; rfl) | (apply J.cond_f; rfl) | apply J.exit | apply E.then_exit | apply E.in_exit | (apply E.in_other; rfl))
    (apply Lq.bsl (T := hashT) (xs := []); rfl; (repeat (first | exact PO.nil _ | (apply PO.cons; rfl))); rfl; rfl; rfl)
    intro A1 c1
    repeat (first | ((first | (apply Lq.s; rfl) | apply PRun.s | (apply Lq.run; rfl; rfl; rfl; exact bsB) | (apply PRun.run; rfl; rfl; exact bsB)); first | (exact bsO)) | apply J.seq | apply E.next | apply J.lq | apply Lq.nil | apply PRun.nil | apply J.block | apply E.in_normal | apply J.skip | (apply Lq.store; rfl; rfl; exact bsP; exact bsS; rfl; rfl) | (apply PRun.al; rfl) | (apply Lq.al; rfl; rfl; intro b) | (apply Open.cons; intro b) | apply Open.nil | (apply Lq.pass; rfl; rfl; rfl) | (apply PRun.pass; rfl; rfl) | (apply Lq.skip; rfl; rfl; rfl; exact bsB) | (apply PRun.skip; rfl; rfl; exact bsB) | (apply J.drawN; exact mixed; kernel_rfl) | (apply J.cond_t; rfl) | (apply J.cond_f; rfl) | apply J.exit | apply E.then_exit | apply E.in_exit | (apply E.in_other; rfl))
    (apply Lq.append (T := hashT) (xs := []) (ys := hs); rfl; exact List.Perm.refl _; (apply From.row; rfl; exact List.mem_cons_of_mem _ List.mem_cons_self); rfl; rfl; rfl; (show 0 + _ ≤ maxLen; unfold maxLen; omega); (show (0 + _) * 32 ≤ _; omega))
    intro A2 c2
    rw [List.nil_append]
    repeat (first | ((first | (apply Lq.s; rfl) | apply PRun.s | (apply Lq.run; rfl; rfl; rfl; exact bsB) | (apply PRun.run; rfl; rfl; exact bsB)); first | (exact bsO)) | apply J.seq | apply E.next | apply J.lq | apply Lq.nil | apply PRun.nil | apply J.block | apply E.in_normal | apply J.skip | (apply Lq.store; rfl; rfl; exact bsP; exact bsS; rfl; rfl) | (apply PRun.al; rfl) | (apply Lq.al; rfl; rfl; intro b) | (apply Open.cons; intro b) | apply Open.nil | (apply Lq.pass; rfl; rfl; rfl) | (apply PRun.pass; rfl; rfl) | (apply Lq.skip; rfl; rfl; rfl; exact bsB) | (apply PRun.skip; rfl; rfl; exact bsB) | (apply J.drawN; exact mixed; kernel_rfl) | (apply J.cond_t; rfl) | (apply J.cond_f; rfl) | apply J.exit | apply E.then_exit | apply E.in_exit | (apply E.in_other; rfl))
    (refine J.ret ?_; (repeat (first | refine E.then_ret ?_ | refine E.in_ret ?_)))
    exact E.retR1 (G := []) rfl rfl ⟨A2, c2, rfl, rfl⟩ (List.Perm.refl _)
theorem fnew_fnR : FnR Tryd.prog 33 [] [] (fun ψ Δ => ∃ b, ψ = is (.pointer (some ⟨b, 0, none⟩)) ∧ Δ = frL b [] 0 none 0) := by
  refine FnR.mk' 3 Tryd.func33 rfl rfl rfl rfl fun w0 H0 => ?_
  refine J.nilrow 23 hashT.toTy ?_
  repeat (first | ((first | (apply Lq.s; rfl) | apply PRun.s | (apply Lq.run; rfl; rfl; rfl; exact bsB) | (apply PRun.run; rfl; rfl; exact bsB)); first | (exact bsO)) | apply J.seq | apply E.next | apply J.lq | apply Lq.nil | apply PRun.nil | apply J.block | apply E.in_normal | apply J.skip | (apply Lq.store; rfl; rfl; exact bsP; exact bsS; rfl; rfl) | (apply PRun.al; rfl) | (apply Lq.al; rfl; rfl; intro b) | (apply Open.cons; intro b) | apply Open.nil | (apply Lq.pass; rfl; rfl; rfl) | (apply PRun.pass; rfl; rfl) | (apply Lq.skip; rfl; rfl; rfl; exact bsB) | (apply PRun.skip; rfl; rfl; exact bsB) | (apply J.drawN; exact mixed; kernel_rfl) | (apply J.cond_t; rfl) | (apply J.cond_f; rfl) | apply J.exit | apply E.then_exit | apply E.in_exit | (apply E.in_other; rfl))
  refine Lq.box rfl rfl Seg.agg ?_
  intro b
  repeat (first | ((first | (apply Lq.s; rfl) | apply PRun.s | (apply Lq.run; rfl; rfl; rfl; exact bsB) | (apply PRun.run; rfl; rfl; exact bsB)); first | (exact bsO)) | apply J.seq | apply E.next | apply J.lq | apply Lq.nil | apply PRun.nil | apply J.block | apply E.in_normal | apply J.skip | (apply Lq.store; rfl; rfl; exact bsP; exact bsS; rfl; rfl) | (apply PRun.al; rfl) | (apply Lq.al; rfl; rfl; intro b) | (apply Open.cons; intro b) | apply Open.nil | (apply Lq.pass; rfl; rfl; rfl) | (apply PRun.pass; rfl; rfl) | (apply Lq.skip; rfl; rfl; rfl; exact bsB) | (apply PRun.skip; rfl; rfl; exact bsB) | (apply J.drawN; exact mixed; kernel_rfl) | (apply J.cond_t; rfl) | (apply J.cond_f; rfl) | apply J.exit | apply E.then_exit | apply E.in_exit | (apply E.in_other; rfl))
  (refine J.ret ?_; (repeat (first | refine E.then_ret ?_ | refine E.in_ret ?_)))
  exact E.retR1 (G := []) rfl rfl ⟨b, rfl, rfl⟩ (List.Perm.refl _)
set_option maxHeartbeats 1000000 in
theorem join_fnR (b many : Nat) (xs : List Hash) (p q : Hash) (A : Option Addr) (c : Nat) (hl : xs.length ≤ 90000) : FnR Tryd.prog 44 [is (.pointer (some ⟨b, 0, none⟩))] (frL b (xs ++ [p, q]) many A c) (fun ψ Δ => ψ = any ∧ frV b (xs ++ [nodeH p q]) many Δ) := by
  have hll : (xs ++ [p, q]).length = xs.length + 2 := by rw [List.length_append]; rfl
  have hp : (xs ++ [p, q])[xs.length]? = some p := by rw [List.getElem?_append_right (Nat.le_refl _), Nat.sub_self]; rfl
  have hq : (xs ++ [p, q])[xs.length + 1]? = some q := by rw [List.getElem?_append_right (by omega), Nat.add_sub_cancel_left]; rfl
  refine FnR.mk' 36 Tryd.func44 rfl rfl rfl rfl fun w0 H0 => ?_
  unfold frL
  refine J.open (List.Perm.swap _ _ _) (by intro h; rw [h] at hll; simp at hll) ?_
  intro rb ro cap pre post hR
  obtain ⟨hv, hpre, hle, hcap, hroom, _⟩ := hR
  injection hv with hA _ hc
  subst hA; subst hc
  repeat (first | ((first | (apply Lq.s; rfl) | apply PRun.s | (apply Lq.run; rfl; rfl; rfl; exact bsB) | (apply PRun.run; rfl; rfl; exact bsB)); first | (apply op_ocell; rfl; exact bsM; rfl) | (apply op_slen; rfl) | (apply op_sub (c := (xs.length : Int)); rfl; rfl; (rw [hll, show ((xs.length + 2 : Nat) : Int) - 2 = (xs.length : Int) by omega]; apply wrapi <;> omega)) | (exact bsO)) | apply J.seq | apply E.next | apply J.lq | apply Lq.nil | apply PRun.nil | apply J.block | apply E.in_normal | apply J.skip | (apply Lq.store; rfl; rfl; exact bsP; exact bsS; rfl; rfl) | (apply PRun.al; rfl) | (apply Lq.al; rfl; rfl; intro b) | (apply Open.cons; intro b) | apply Open.nil | (apply Lq.pass; rfl; rfl; rfl) | (apply PRun.pass; rfl; rfl) | (apply Lq.skip; rfl; rfl; rfl; exact bsB) | (apply PRun.skip; rfl; rfl; exact bsB) | (apply J.cond_t; rfl) | (apply J.cond_f; rfl) | apply J.exit | apply E.then_exit | apply E.in_exit | (apply E.in_other; rfl))
  refine J.drawW2 27 [(none, none), (none, none), (none, none), (none, none), (some 0, some 0), (none, none), (none, none), (none, none), (none, none), (none, none), (some 0, some 0), (none, none), (none, none), (some 2, some 2), (none, none), (none, none), (none, none), (some 0, some 0), (none, none), (none, none), (none, none), (some 2, some 2), (none, none), (none, none), (some 2, some 33), (none, none), (none, none)] 0 2
    (itemA b 66 [is (.slice (some ⟨rb, ro, none⟩) (xs ++ [p, q]).length c), is (.int .i64 (many : Int))]) (itemK (own rb 23 (pre ++ flat hashT.toTy (xs ++ [p, q]) ++ post))) (by decide) rfl rfl (by rw [itemA_self]; exact List.Perm.swap _ _ _) mixed (by kernel_rfl) ?_
  repeat (first | ((first | apply PRunW.s | (apply PRunW.run; rfl; rfl; exact bsB) | (apply Lq.s; rfl) | apply PRun.s | (apply Lq.run; rfl; rfl; rfl; exact bsB) | (apply PRun.run; rfl; rfl; exact bsB)); first | (exact bsO)) | apply J.seq | apply E.next | apply J.lq | apply Lq.nil | apply PRun.nil | apply J.block | apply E.in_normal | apply J.skip | (apply Lq.store; rfl; rfl; exact bsP; exact bsS; rfl; rfl) | (apply PRun.al; rfl) | (apply Lq.al; rfl; rfl; intro b) | (apply Open.cons; intro b) | apply Open.nil | (apply Lq.pass; rfl; rfl; rfl) | (apply PRun.pass; rfl; rfl) | (apply Lq.skip; rfl; rfl; rfl; exact bsB) | (apply PRun.skip; rfl; rfl; exact bsB) | (apply J.cond_t; rfl) | (apply J.cond_f; rfl) | apply J.exit | apply E.then_exit | apply E.in_exit | (apply E.in_other; rfl) | apply PRunW.nil | (apply PRunW.al; rfl) | (apply PRunW.pass; rfl; rfl) | (apply PRunW.skip; rfl; rfl; exact bsB) | (apply Open.pv; intro b) | apply Open.av | (apply Open.rv; intro A c))
  refine PRunW.ldC (by decide) itemA_fst rfl rfl rfl ?_
  repeat (first | ((first | apply PRunW.s | (apply PRunW.run; rfl; rfl; exact bsB) | (apply Lq.s; rfl) | apply PRun.s | (apply Lq.run; rfl; rfl; rfl; exact bsB) | (apply PRun.run; rfl; rfl; exact bsB)); first | (apply op_sl_hi (hi := xs.length); rfl; rfl; omega) | (exact bsO)) | apply J.seq | apply E.next | apply J.lq | apply Lq.nil | apply PRun.nil | apply J.block | apply E.in_normal | apply J.skip | (apply Lq.store; rfl; rfl; exact bsP; exact bsS; rfl; rfl) | (apply PRun.al; rfl) | (apply Lq.al; rfl; rfl; intro b) | (apply Open.cons; intro b) | apply Open.nil | (apply Lq.pass; rfl; rfl; rfl) | (apply PRun.pass; rfl; rfl) | (apply Lq.skip; rfl; rfl; rfl; exact bsB) | (apply PRun.skip; rfl; rfl; exact bsB) | (apply J.cond_t; rfl) | (apply J.cond_f; rfl) | apply J.exit | apply E.then_exit | apply E.in_exit | (apply E.in_other; rfl) | apply PRunW.nil | (apply PRunW.al; rfl) | (apply PRunW.pass; rfl; rfl) | (apply PRunW.skip; rfl; rfl; exact bsB) | (apply Open.pv; intro b) | apply Open.av | (apply Open.rv; intro A c))
  refine PRunW.ldC (by decide) itemA_fst rfl rfl rfl ?_
  repeat (first | ((first | apply PRunW.s | (apply PRunW.run; rfl; rfl; exact bsB) | (apply Lq.s; rfl) | apply PRun.s | (apply Lq.run; rfl; rfl; rfl; exact bsB) | (apply PRun.run; rfl; rfl; exact bsB)); first | (apply op_siaddr; rfl; rfl; omega; omega) | (exact bsO)) | apply J.seq | apply E.next | apply J.lq | apply Lq.nil | apply PRun.nil | apply J.block | apply E.in_normal | apply J.skip | (apply Lq.store; rfl; rfl; exact bsP; exact bsS; rfl; rfl) | (apply PRun.al; rfl) | (apply Lq.al; rfl; rfl; intro b) | (apply Open.cons; intro b) | apply Open.nil | (apply Lq.pass; rfl; rfl; rfl) | (apply PRun.pass; rfl; rfl) | (apply Lq.skip; rfl; rfl; rfl; exact bsB) | (apply PRun.skip; rfl; rfl; exact bsB) | (apply J.cond_t; rfl) | (apply J.cond_f; rfl) | apply J.exit | apply E.then_exit | apply E.in_exit | (apply E.in_other; rfl) | apply PRunW.nil | (apply PRunW.al; rfl) | (apply PRunW.pass; rfl; rfl) | (apply PRunW.skip; rfl; rfl; exact bsB) | (apply Open.pv; intro b) | apply Open.av | (apply Open.rv; intro A c))
  refine PRunW.ldG hashT (v := p) (by decide) itemK_fst rfl rfl (at_row hashT.toTy hpre (by rw [Int.toNat_natCast]; exact hp)) ?_
  repeat (first | ((first | apply PRunW.s | (apply PRunW.run; rfl; rfl; exact bsB) | (apply Lq.s; rfl) | apply PRun.s | (apply Lq.run; rfl; rfl; rfl; exact bsB) | (apply PRun.run; rfl; rfl; exact bsB)); first | (exact bsO)) | apply J.seq | apply E.next | apply J.lq | apply Lq.nil | apply PRun.nil | apply J.block | apply E.in_normal | apply J.skip | (apply Lq.store; rfl; rfl; exact bsP; exact bsS; rfl; rfl) | (apply PRun.al; rfl) | (apply Lq.al; rfl; rfl; intro b) | (apply Open.cons; intro b) | apply Open.nil | (apply Lq.pass; rfl; rfl; rfl) | (apply PRun.pass; rfl; rfl) | (apply Lq.skip; rfl; rfl; rfl; exact bsB) | (apply PRun.skip; rfl; rfl; exact bsB) | (apply J.cond_t; rfl) | (apply J.cond_f; rfl) | apply J.exit | apply E.then_exit | apply E.in_exit | (apply E.in_other; rfl) | apply PRunW.nil | (apply PRunW.al; rfl) | (apply PRunW.pass; rfl; rfl) | (apply PRunW.skip; rfl; rfl; exact bsB) | (apply Open.pv; intro b) | apply Open.av | (apply Open.rv; intro A c))
  refine PRunW.ldC (by decide) itemA_fst rfl rfl rfl ?_
  repeat (first | ((first | apply PRunW.s | (apply PRunW.run; rfl; rfl; exact bsB) | (apply Lq.s; rfl) | apply PRun.s | (apply Lq.run; rfl; rfl; rfl; exact bsB) | (apply PRun.run; rfl; rfl; exact bsB)); first | (apply op_add (c := ((xs.length + 1 : Nat) : Int)); rfl; rfl; (rw [show (xs.length : Int) + 1 = ((xs.length + 1 : Nat) : Int) by omega]; apply wrapi <;> omega)) | (apply op_siaddr; rfl; rfl; omega; omega) | (exact bsO)) | apply J.seq | apply E.next | apply J.lq | apply Lq.nil | apply PRun.nil | apply J.block | apply E.in_normal | apply J.skip | (apply Lq.store; rfl; rfl; exact bsP; exact bsS; rfl; rfl) | (apply PRun.al; rfl) | (apply Lq.al; rfl; rfl; intro b) | (apply Open.cons; intro b) | apply Open.nil | (apply Lq.pass; rfl; rfl; rfl) | (apply PRun.pass; rfl; rfl) | (apply Lq.skip; rfl; rfl; rfl; exact bsB) | (apply PRun.skip; rfl; rfl; exact bsB) | (apply J.cond_t; rfl) | (apply J.cond_f; rfl) | apply J.exit | apply E.then_exit | apply E.in_exit | (apply E.in_other; rfl) | apply PRunW.nil | (apply PRunW.al; rfl) | (apply PRunW.pass; rfl; rfl) | (apply PRunW.skip; rfl; rfl; exact bsB) | (apply Open.pv; intro b) | apply Open.av | (apply Open.rv; intro A c))
  refine PRunW.ldG hashT (v := q) (by decide) itemK_fst rfl rfl (at_row hashT.toTy hpre (by rw [Int.toNat_natCast]; exact hq)) ?_
  repeat (first | ((first | apply PRunW.s | (apply PRunW.run; rfl; rfl; exact bsB) | (apply Lq.s; rfl) | apply PRun.s | (apply Lq.run; rfl; rfl; rfl; exact bsB) | (apply PRun.run; rfl; rfl; exact bsB)); first | (apply op_call (nodeH_fn p q); exact bsD) | (apply op_bslice hashT (xs := [nodeH p q]); (repeat (first | exact PO.nil _ | (apply PO.cons; rfl))); rfl; rfl; rfl) | (exact bsO)) | apply J.seq | apply E.next | apply J.lq | apply Lq.nil | apply PRun.nil | apply J.block | apply E.in_normal | apply J.skip | (apply Lq.store; rfl; rfl; exact bsP; exact bsS; rfl; rfl) | (apply PRun.al; rfl) | (apply Lq.al; rfl; rfl; intro b) | (apply Open.cons; intro b) | apply Open.nil | (apply Lq.pass; rfl; rfl; rfl) | (apply PRun.pass; rfl; rfl) | (apply Lq.skip; rfl; rfl; rfl; exact bsB) | (apply PRun.skip; rfl; rfl; exact bsB) | (apply J.cond_t; rfl) | (apply J.cond_f; rfl) | apply J.exit | apply E.then_exit | apply E.in_exit | (apply E.in_other; rfl) | apply PRunW.nil | (apply PRunW.al; rfl) | (apply PRunW.pass; rfl; rfl) | (apply PRunW.skip; rfl; rfl; exact bsB) | (apply Open.pv; intro b) | apply Open.av | (apply Open.rv; intro A c))
  (apply PRunW.apK (T := hashT) (xs := xs) (ys := [nodeH p q]); rfl; rfl; rfl; exact row_conv (T := hashT.toTy) (xs := xs) (ys := [p, q]) hpre hle hcap hroom; (apply From.sl; rfl); rfl; rfl; (show _ + 1 ≤ maxLen; unfold maxLen; omega); (show (_ + 1) * 32 ≤ _; omega))
  refine PRunW.s (op_nilCheck rfl) ?_
  refine PRunW.s (op_ofaddr rfl (by decide)) ?_
  refine PRunW.nil (Open.rv fun A2 c2 => Open.av (Open.nil ?_))
  refine Lq.storeE (φs' := [is (.slice A2 (xs ++ [nodeH p q]).length c2), is (.int .i64 (many : Int))]) rfl rfl (List.Perm.refl _) (Seg.is rfl) rfl (Nat.le_of_ble_eq_true rfl) rfl ?_
  repeat (first | ((first | (apply Lq.s; rfl) | apply PRun.s | (apply Lq.run; rfl; rfl; rfl; exact bsB) | (apply PRun.run; rfl; rfl; exact bsB)); first | (exact bsO)) | apply J.seq | apply E.next | apply J.lq | apply Lq.nil | apply PRun.nil | apply J.block | apply E.in_normal | apply J.skip | (apply Lq.store; rfl; rfl; exact bsP; exact bsS; rfl; rfl) | (apply PRun.al; rfl) | (apply Lq.al; rfl; rfl; intro b) | (apply Open.cons; intro b) | apply Open.nil | (apply Lq.pass; rfl; rfl; rfl) | (apply PRun.pass; rfl; rfl) | (apply Lq.skip; rfl; rfl; rfl; exact bsB) | (apply PRun.skip; rfl; rfl; exact bsB) | (apply J.cond_t; rfl) | (apply J.cond_f; rfl) | apply J.exit | apply E.then_exit | apply E.in_exit | (apply E.in_other; rfl))
  exact E.retR0 (G := []) .normal (.inr rfl) rfl (fun _ => any_h) ⟨rfl, A2, c2, rfl⟩ (List.Perm.refl _)
theorem all_fnR (b many : Nat) (hs : List Hash) (A : Option Addr) (c : Nat) (hl : hs.length ≤ 90000) : FnR Tryd.prog 45 [is (.pointer (some ⟨b, 0, none⟩))] (frL b hs many A c) (fun ψ Δ => ∃ A' c', ψ = is (.slice A' hs.length c') ∧ Δ = row (.slice A' hs.length c') 23 hashT.toTy hs :: frL b hs many A c) := by
  refine FnR.mk' 8 Tryd.func45 rfl rfl rfl rfl fun w0 H0 => ?_
  unfold frL
  repeat (first | ((first | (apply Lq.s; rfl) | apply PRun.s | (apply Lq.run; rfl; rfl; rfl; exact bsB) | (apply PRun.run; rfl; rfl; exact bsB)); first | (apply op_ocell; rfl; exact bsM; rfl) | (apply op_slen; rfl) | (exact bsO)) | apply J.seq | apply E.next | apply J.lq | apply Lq.nil | apply PRun.nil | apply J.block | apply E.in_normal | apply J.skip | (apply Lq.store; rfl; rfl; exact bsP; exact bsS; rfl; rfl) | (apply PRun.al; rfl) | (apply Lq.al; rfl; rfl; intro b) | (apply Open.cons; intro b) | apply Open.nil | (apply Lq.pass; rfl; rfl; rfl) | (apply PRun.pass; rfl; rfl) | (apply Lq.skip; rfl; rfl; rfl; exact bsB) | (apply PRun.skip; rfl; rfl; exact bsB) | (apply J.drawN; exact mixed; kernel_rfl) | (apply J.cond_t; rfl) | (apply J.cond_f; rfl) | apply J.exit | apply E.then_exit | apply E.in_exit | (apply E.in_other; rfl))
  refine Lq.callS (Δf := [_]) (clone_fnR hs (by omega) A c 23) rfl bsD (List.Perm.swap _ _ _) ?_
  rintro _ _ ⟨A2, c2, rfl, rfl⟩
  repeat (first | ((first | (apply Lq.s; rfl) | apply PRun.s | (apply Lq.run; rfl; rfl; rfl; exact bsB) | (apply PRun.run; rfl; rfl; exact bsB)); first | (exact bsO)) | apply J.seq | apply E.next | apply J.lq | apply Lq.nil | apply PRun.nil | apply J.block | apply E.in_normal | apply J.skip | (apply Lq.store; rfl; rfl; exact bsP; exact bsS; rfl; rfl) | (apply PRun.al; rfl) | (apply Lq.al; rfl; rfl; intro b) | (apply Open.cons; intro b) | apply Open.nil | (apply Lq.pass; rfl; rfl; rfl) | (apply PRun.pass; rfl; rfl) | (apply Lq.skip; rfl; rfl; rfl; exact bsB) | (apply PRun.skip; rfl; rfl; exact bsB) | (apply J.drawN; exact mixed; kernel_rfl) | (apply J.cond_t; rfl) | (apply J.cond_f; rfl) | apply J.exit | apply E.then_exit | apply E.in_exit | (apply E.in_other; rfl))
  (refine J.ret ?_; (repeat (first | refine E.then_ret ?_ | refine E.in_ret ?_)))
  exact E.retR1 (G := []) rfl rfl ⟨A2, c2, rfl, rfl⟩ (List.Perm.cons _ (List.Perm.swap _ _ _))
theorem flen_fnR (b many : Nat) (hs : List Hash) (A : Option Addr) (c : Nat) : FnR Tryd.prog 27 [is (.pointer (some ⟨b, 0, none⟩))] (frL b hs many A c) (fun ψ Δ => ψ = is (.int .i64 (many : Int)) ∧ Δ = frL b hs many A c) := by
  refine FnR.mk' 9 Tryd.func27 rfl rfl rfl rfl fun w0 H0 => ?_
  unfold frL
  repeat (first | ((first | (apply Lq.s; rfl) | apply PRun.s | (apply Lq.run; rfl; rfl; rfl; exact bsB) | (apply PRun.run; rfl; rfl; exact bsB)); first | (apply op_ocell; rfl; exact bsM; rfl) | (apply op_slen; rfl) | (apply op_peq; rfl; rfl) | (exact bsO)) | apply J.seq | apply E.next | apply J.lq | apply Lq.nil | apply PRun.nil | apply J.block | apply E.in_normal | apply J.skip | (apply Lq.store; rfl; rfl; exact bsP; exact bsS; rfl; rfl) | (apply PRun.al; rfl) | (apply Lq.al; rfl; rfl; intro b) | (apply Open.cons; intro b) | apply Open.nil | (apply Lq.pass; rfl; rfl; rfl) | (apply PRun.pass; rfl; rfl) | (apply Lq.skip; rfl; rfl; rfl; exact bsB) | (apply PRun.skip; rfl; rfl; exact bsB) | (apply J.drawN; exact mixed; kernel_rfl) | (apply J.cond_t; rfl) | (apply J.cond_f; rfl) | apply J.exit | apply E.then_exit | apply E.in_exit | (apply E.in_other; rfl))
  (refine J.ret ?_; (repeat (first | refine E.then_ret ?_ | refine E.in_ret ?_)))
  exact E.retR1 (G := []) rfl rfl ⟨rfl, rfl⟩ (List.Perm.refl _)
theorem fhashes_fnR (b many : Nat) (hs : List Hash) (A : Option Addr) (c : Nat) (hl : hs.length ≤ 90000) : FnR Tryd.prog 31 [is (.pointer (some ⟨b, 0, none⟩))] (frL b hs many A c) (fun ψ Δ => ∃ A' c', ψ = is (.slice A' hs.length c') ∧ Δ = row (.slice A' hs.length c') 23 hashT.toTy hs :: frL b hs many A c) := by
  have ha := all_fnR b many hs A c hl
  refine FnR.mk' 9 Tryd.func31 rfl rfl rfl rfl fun w0 H0 => ?_
  repeat (first | ((first | (apply Lq.s; rfl) | apply PRun.s | (apply Lq.run; rfl; rfl; rfl; exact bsB) | (apply PRun.run; rfl; rfl; exact bsB)); first | (apply op_peq; rfl; rfl) | (exact bsO)) | apply J.seq | apply E.next | apply J.lq | apply Lq.nil | apply PRun.nil | apply J.block | apply E.in_normal | apply J.skip | (apply Lq.store; rfl; rfl; exact bsP; exact bsS; rfl; rfl) | (apply PRun.al; rfl) | (apply Lq.al; rfl; rfl; intro b) | (apply Open.cons; intro b) | apply Open.nil | (apply Lq.pass; rfl; rfl; rfl) | (apply PRun.pass; rfl; rfl) | (apply Lq.skip; rfl; rfl; rfl; exact bsB) | (apply PRun.skip; rfl; rfl; exact bsB) | (apply J.drawN; exact mixed; kernel_rfl) | (apply J.cond_t; rfl) | (apply J.cond_f; rfl) | apply J.exit | apply E.then_exit | apply E.in_exit | (apply E.in_other; rfl))
  refine Lq.callS (Δf := []) ha rfl bsD (by rw [List.append_nil]) ?_
  rintro _ _ ⟨A2, c2, rfl, rfl⟩
  repeat (first | ((first | (apply Lq.s; rfl) | apply PRun.s | (apply Lq.run; rfl; rfl; rfl; exact bsB) | (apply PRun.run; rfl; rfl; exact bsB)); first | (exact bsO)) | apply J.seq | apply E.next | apply J.lq | apply Lq.nil | apply PRun.nil | apply J.block | apply E.in_normal | apply J.skip | (apply Lq.store; rfl; rfl; exact bsP; exact bsS; rfl; rfl) | (apply PRun.al; rfl) | (apply Lq.al; rfl; rfl; intro b) | (apply Open.cons; intro b) | apply Open.nil | (apply Lq.pass; rfl; rfl; rfl) | (apply PRun.pass; rfl; rfl) | (apply Lq.skip; rfl; rfl; rfl; exact bsB) | (apply PRun.skip; rfl; rfl; exact bsB) | (apply J.drawN; exact mixed; kernel_rfl) | (apply J.cond_t; rfl) | (apply J.cond_f; rfl) | apply J.exit | apply E.then_exit | apply E.in_exit | (apply E.in_other; rfl))
  (refine J.ret ?_; (repeat (first | refine E.then_ret ?_ | refine E.in_ret ?_)))
  exact E.retR1 (G := []) rfl rfl ⟨A2, c2, rfl, rfl⟩ (by rw [List.append_nil])
set_option maxHeartbeats 2000000 in
theorem fappend_fnR (b many : Nat) (hs : List Hash) (A : Option Addr) (c : Nat) (h : Hash) (hl : hs.length ≤ 80000) (hp : hs.length = pop many) (hm : many < 9223372036854775807) : FnR Tryd.prog 25 [is (.pointer (some ⟨b, 0, none⟩)), hashT.val h] (frL b hs many A c) (fun ψ Δ => ψ = is (.int .i64 0) ∧ frV b (joins many (hs ++ [h])) (many + 1) Δ) := by
  refine FnR.mk' 47 Tryd.func25 rfl rfl rfl rfl fun w0 H0 => ?_
  unfold frL
  generalize hw : joins many (hs ++ [h]) = want
  repeat (first | ((first | (apply Lq.s; rfl) | apply PRun.s | (apply Lq.run; rfl; rfl; rfl; exact bsB) | (apply PRun.run; rfl; rfl; exact bsB)); first | (apply op_box hashT; rfl) | (apply op_ocell; rfl; exact bsM; rfl) | (apply op_slen; rfl) | (apply op_peq; rfl; rfl) | (exact bsO)) | apply J.seq | apply E.next | apply J.lq | apply Lq.nil | apply PRun.nil | apply J.block | apply E.in_normal | apply J.skip | (apply Lq.store; rfl; rfl; exact bsP; exact bsS; rfl; rfl) | (apply PRun.al; rfl) | (apply Lq.al; rfl; rfl; intro b) | (apply Open.cons; intro b) | apply Open.nil | (apply Lq.pass; rfl; rfl; rfl) | (apply PRun.pass; rfl; rfl) | (apply Lq.skip; rfl; rfl; rfl; exact bsB) | (apply PRun.skip; rfl; rfl; exact bsB) | (apply J.cond_t; rfl) | (apply J.cond_f; rfl) | apply J.exit | apply E.then_exit | apply E.in_exit | (apply E.in_other; rfl))
  refine J.drawW2 12 [(none, none), (none, none), (none, none), (none, none), (none, none), (some 0, some 0), (none, none), (none, none), (some 4, some 23), (none, none), (none, none), (none, none)] 0 4
    (itemA b 66 [is (.slice A hs.length c), is (.int .i64 (many : Int))]) (itemK (row (.slice A hs.length c) 23 hashT.toTy hs)) (by decide) rfl rfl (by rw [itemA_self]; exact List.Perm.refl _) mixed (by kernel_rfl) ?_
  repeat (first | ((first | apply PRunW.s | (apply PRunW.run; rfl; rfl; exact bsB) | (apply Lq.s; rfl) | apply PRun.s | (apply Lq.run; rfl; rfl; rfl; exact bsB) | (apply PRun.run; rfl; rfl; exact bsB)); first | (exact bsO)) | apply J.seq | apply E.next | apply J.lq | apply Lq.nil | apply PRun.nil | apply J.block | apply E.in_normal | apply J.skip | (apply Lq.store; rfl; rfl; exact bsP; exact bsS; rfl; rfl) | (apply PRun.al; rfl) | (apply Lq.al; rfl; rfl; intro b) | (apply Open.cons; intro b) | apply Open.nil | (apply Lq.pass; rfl; rfl; rfl) | (apply PRun.pass; rfl; rfl) | (apply Lq.skip; rfl; rfl; rfl; exact bsB) | (apply PRun.skip; rfl; rfl; exact bsB) | (apply J.cond_t; rfl) | (apply J.cond_f; rfl) | apply J.exit | apply E.then_exit | apply E.in_exit | (apply E.in_other; rfl) | apply PRunW.nil | (apply PRunW.al; rfl) | (apply PRunW.pass; rfl; rfl) | (apply PRunW.skip; rfl; rfl; exact bsB) | (apply Open.pv; intro b) | apply Open.av | (apply Open.rv; intro A c))
  refine PRunW.ldC (by decide) itemA_fst rfl rfl rfl ?_
  repeat (first | ((first | apply PRunW.s | (apply PRunW.run; rfl; rfl; exact bsB) | (apply Lq.s; rfl) | apply PRun.s | (apply Lq.run; rfl; rfl; rfl; exact bsB) | (apply PRun.run; rfl; rfl; exact bsB)); first | (apply op_load hashT; rfl) | (apply op_bslice hashT (xs := [h]); (repeat (first | exact PO.nil _ | (apply PO.cons; rfl))); rfl; rfl; rfl) | (exact bsO)) | apply J.seq | apply E.next | apply J.lq | apply Lq.nil | apply PRun.nil | apply J.block | apply E.in_normal | apply J.skip | (apply Lq.store; rfl; rfl; exact bsP; exact bsS; rfl; rfl) | (apply PRun.al; rfl) | (apply Lq.al; rfl; rfl; intro b) | (apply Open.cons; intro b) | apply Open.nil | (apply Lq.pass; rfl; rfl; rfl) | (apply PRun.pass; rfl; rfl) | (apply Lq.skip; rfl; rfl; rfl; exact bsB) | (apply PRun.skip; rfl; rfl; exact bsB) | (apply J.cond_t; rfl) | (apply J.cond_f; rfl) | apply J.exit | apply E.then_exit | apply E.in_exit | (apply E.in_other; rfl) | apply PRunW.nil | (apply PRunW.al; rfl) | (apply PRunW.pass; rfl; rfl) | (apply PRunW.skip; rfl; rfl; exact bsB) | (apply Open.pv; intro b) | apply Open.av | (apply Open.rv; intro A c))
  (apply PRunW.apK (T := hashT) (xs := hs) (ys := [h]); rfl; rfl; rfl; exact (fun H w k => ⟨k, rfl⟩); (apply From.sl; rfl); rfl; rfl; (show _ + 1 ≤ maxLen; unfold maxLen; omega); (show (_ + 1) * 32 ≤ _; omega))
  refine PRunW.s (op_nilCheck rfl) ?_
  refine PRunW.s (op_ofaddr rfl (by decide)) ?_
  refine PRunW.s (op_ofaddr rfl (by decide)) ?_
  refine PRunW.nil (Open.rv fun A2 c2 => Open.av (Open.nil ?_))
  refine Lq.storeE (φs' := [is (.slice A2 (hs ++ [h]).length c2), is (.int .i64 (many : Int))]) rfl rfl (List.Perm.refl _) (Seg.is rfl) rfl (Nat.le_of_ble_eq_true rfl) rfl ?_
  repeat (first | ((first | (apply Lq.s; rfl) | apply PRun.s | (apply Lq.run; rfl; rfl; rfl; exact bsB) | (apply PRun.run; rfl; rfl; exact bsB)); first | (apply op_ocell; rfl; exact bsM; rfl) | (apply op_slen; rfl) | (exact bsO)) | apply J.seq | apply E.next | apply J.lq | apply Lq.nil | apply PRun.nil | apply J.block | apply E.in_normal | apply J.skip | (apply Lq.store; rfl; rfl; exact bsP; exact bsS; rfl; rfl) | (apply PRun.al; rfl) | (apply Lq.al; rfl; rfl; intro b) | (apply Open.cons; intro b) | apply Open.nil | (apply Lq.pass; rfl; rfl; rfl) | (apply PRun.pass; rfl; rfl) | (apply Lq.skip; rfl; rfl; rfl; exact bsB) | (apply PRun.skip; rfl; rfl; exact bsB) | (apply J.cond_t; rfl) | (apply J.cond_f; rfl) | apply J.exit | apply E.then_exit | apply E.in_exit | (apply E.in_other; rfl))
  refine J.loop (fun p : Nat × List Hash × Option Addr × Nat => p.1 ≤ many ∧ p.2.1.length = pop p.1 + 1 ∧ p.2.1.length ≤ hs.length + 1 ∧ joins p.1 p.2.1 = want)
    (fun p => [(0, is (.pointer (some ⟨b, 0, none⟩))), (5, is (.int .i64 (p.1 : Int)))]) (fun p => frL b p.2.1 many p.2.2.1 p.2.2.2) (fun p => p.1) (many, hs ++ [h], A2, c2) ⟨Nat.le_refl _, by rw [List.length_append, hp]; rfl, by rw [List.length_append]; exact Nat.le_refl _, hw⟩ (Sub.same (by repeat' (first | exact trivial | refine ⟨rfl, ?_⟩))) ?_
  rintro ⟨n, ys, A3, c3⟩ ⟨hn, hyl, hyb, hj⟩
  dsimp only at hn hyl hyb hj ⊢
  have hand := and_one n
  rcases Nat.mod_two_eq_zero_or_one n with h2 | h2
  · rw [joins_even h2] at hj
    subst hj
    unfold frL
    repeat (first | ((first | (apply Lq.s; rfl) | apply PRun.s | (apply Lq.run; rfl; rfl; rfl; exact bsB) | (apply PRun.run; rfl; rfl; exact bsB)); first | (apply op_andn (m := n) (n := 1); rfl; rfl; omega; omega) | (apply op_ocell; rfl; exact bsM; rfl) | (apply op_slen; rfl) | (apply op_add (c := ((many + 1 : Nat) : Int)); rfl; rfl; (rw [show (many : Int) + 1 = ((many + 1 : Nat) : Int) by omega]; apply wrapi <;> omega)) | (exact bsO)) | apply J.seq | apply E.next | apply J.lq | apply Lq.nil | apply PRun.nil | apply J.block | apply E.in_normal | apply J.skip | (apply Lq.store; rfl; rfl; exact bsP; exact bsS; rfl; rfl) | (apply PRun.al; rfl) | (apply Lq.al; rfl; rfl; intro b) | (apply Open.cons; intro b) | apply Open.nil | (apply Lq.pass; rfl; rfl; rfl) | (apply PRun.pass; rfl; rfl) | (apply Lq.skip; rfl; rfl; rfl; exact bsB) | (apply PRun.skip; rfl; rfl; exact bsB) | (apply J.cond_t; rfl) | (apply J.cond_f; rfl) | apply J.exit | apply E.then_exit | apply E.in_exit | (apply E.in_other; rfl))
    (refine J.ret ?_; (repeat (first | refine E.then_ret ?_ | refine E.in_ret ?_)))
    exact E.retR1 (Δ' := frL b ys (many + 1) A3 c3) (G := []) rfl rfl ⟨rfl, A3, c3, rfl⟩ (List.Perm.refl _)
  · have hpp := pop_s n
    rw [h2] at hpp
    rw [joins_odd h2] at hj
    have hjl := join2_len (hs := ys) (by have := pop_s n; omega)
    obtain ⟨xs, p, q, rfl⟩ := split2s (hs := ys) (by omega)
    rw [join2_of] at hj hjl
    have hlen2 : (xs ++ [p, q]).length = xs.length + 2 := by rw [List.length_append]; rfl
    have hjn := join_fnR b many xs p q A3 c3 (by omega)
    repeat (first | ((first | (apply Lq.s; rfl) | apply PRun.s | (apply Lq.run; rfl; rfl; rfl; exact bsB) | (apply PRun.run; rfl; rfl; exact bsB)); first | (apply op_andn (m := n) (n := 1); rfl; rfl; omega; omega) | (apply op_ofaddr; rfl; decide) | (exact bsO)) | apply J.seq | apply E.next | apply J.lq | apply Lq.nil | apply PRun.nil | apply J.block | apply E.in_normal | apply J.skip | (apply Lq.store; rfl; rfl; exact bsP; exact bsS; rfl; rfl) | (apply PRun.al; rfl) | (apply Lq.al; rfl; rfl; intro b) | (apply Open.cons; intro b) | apply Open.nil | (apply Lq.pass; rfl; rfl; rfl) | (apply PRun.pass; rfl; rfl) | (apply Lq.skip; rfl; rfl; rfl; exact bsB) | (apply PRun.skip; rfl; rfl; exact bsB) | (apply J.cond_t; rfl) | (apply J.cond_f; rfl) | apply J.exit | apply E.then_exit | apply E.in_exit | (apply E.in_other; rfl))
    refine Lq.callS (Δf := []) hjn rfl bsD (by rw [List.append_nil]) ?_
    rintro _ _ ⟨rfl, A4, c4, rfl⟩
    rw [List.append_nil]
    repeat (first | ((first | (apply Lq.s; rfl) | apply PRun.s | (apply Lq.run; rfl; rfl; rfl; exact bsB) | (apply PRun.run; rfl; rfl; exact bsB)); first | (apply op_shr1 (m := n) (c := n / 2); rfl; rfl; rfl) | (exact bsO)) | apply J.seq | apply E.next | apply J.lq | apply Lq.nil | apply PRun.nil | apply J.block | apply E.in_normal | apply J.skip | (apply Lq.store; rfl; rfl; exact bsP; exact bsS; rfl; rfl) | (apply PRun.al; rfl) | (apply Lq.al; rfl; rfl; intro b) | (apply Open.cons; intro b) | apply Open.nil | (apply Lq.pass; rfl; rfl; rfl) | (apply PRun.pass; rfl; rfl) | (apply Lq.skip; rfl; rfl; rfl; exact bsB) | (apply PRun.skip; rfl; rfl; exact bsB) | (apply J.cond_t; rfl) | (apply J.cond_f; rfl) | apply J.exit | apply E.then_exit | apply E.in_exit | (apply E.in_other; rfl))
    exact E.again (n / 2, xs ++ [nodeH p q], A4, c4) (by dsimp only; omega) ⟨by dsimp only; omega, by dsimp only; omega, by dsimp only; omega, hj⟩ (Sub.same (by repeat' (first | exact trivial | refine ⟨rfl, ?_⟩)))
set_option maxHeartbeats 1000000 in
theorem fof_fnR (l : List Hash) (hl : l.length ≤ 70000) : FnR Tryd.prog 35 [sl hashT.toTy l] [] (fun ψ Δ => ∃ b, ψ = is (.pointer (some ⟨b, 0, none⟩)) ∧ frV b (edge l) l.length Δ) := by
  refine FnR.mk' 18 Tryd.func35 rfl rfl rfl rfl fun w0 H0 => ?_
  repeat (first | ((first | (apply Lq.s; rfl) | apply PRun.s | (apply Lq.run; rfl; rfl; rfl; exact bsB) | (apply PRun.run; rfl; rfl; exact bsB)); first | (exact bsO)) | apply J.seq | apply E.next | apply J.lq | apply Lq.nil | apply PRun.nil | apply J.block | apply E.in_normal | apply J.skip | (apply Lq.store; rfl; rfl; exact bsP; exact bsS; rfl; rfl) | (apply PRun.al; rfl) | (apply Lq.al; rfl; rfl; intro b) | (apply Open.cons; intro b) | apply Open.nil | (apply Lq.pass; rfl; rfl; rfl) | (apply PRun.pass; rfl; rfl) | (apply Lq.skip; rfl; rfl; rfl; exact bsB) | (apply PRun.skip; rfl; rfl; exact bsB) | (apply J.drawN; exact mixed; kernel_rfl) | (apply J.cond_t; rfl) | (apply J.cond_f; rfl) | apply J.exit | apply E.then_exit | apply E.in_exit | (apply E.in_other; rfl))
  refine Lq.callS (Δ0 := []) (Δf := []) fnew_fnR rfl bsD (List.Perm.refl _) ?_
  rintro _ _ ⟨b, rfl, rfl⟩
  rw [List.append_nil]
  repeat (first | ((first | (apply Lq.s; rfl) | apply PRun.s | (apply Lq.run; rfl; rfl; rfl; exact bsB) | (apply PRun.run; rfl; rfl; exact bsB)); first | (exact bsO)) | apply J.seq | apply E.next | apply J.lq | apply Lq.nil | apply PRun.nil | apply J.block | apply E.in_normal | apply J.skip | (apply Lq.store; rfl; rfl; exact bsP; exact bsS; rfl; rfl) | (apply PRun.al; rfl) | (apply Lq.al; rfl; rfl; intro b) | (apply Open.cons; intro b) | apply Open.nil | (apply Lq.pass; rfl; rfl; rfl) | (apply PRun.pass; rfl; rfl) | (apply Lq.skip; rfl; rfl; rfl; exact bsB) | (apply PRun.skip; rfl; rfl; exact bsB) | (apply J.drawN; exact mixed; kernel_rfl) | (apply J.cond_t; rfl) | (apply J.cond_f; rfl) | apply J.exit | apply E.then_exit | apply E.in_exit | (apply E.in_other; rfl))
  refine J.loop (fun p : Nat × Option Addr × Nat => p.1 ≤ l.length) (fun p => [(3, is (.pointer (some ⟨b, 0, none⟩))), (7, sl hashT.toTy l), (8, is (.int .i64 (l.length : Int))), (9, is (.int .i64 (p.1 : Int)))]) (fun p => frL b (edge (l.take p.1)) p.1 p.2.1 p.2.2) (fun p => l.length - p.1) (0, none, 0) (Nat.zero_le _) ?_ ?_
  · dsimp only
    rw [List.take_zero, edge_nil]
    exact (Sub.same (by repeat' (first | exact trivial | refine ⟨rfl, ?_⟩)))
  rintro ⟨i, A, c⟩ hi
  dsimp only at hi ⊢
  by_cases hlt : i < l.length
  · obtain ⟨h, hx⟩ : ∃ h, l[i]? = some h := ⟨_, List.getElem?_eq_getElem hlt⟩
    have htl : (l.take i).length = i := by rw [List.length_take]; omega
    have hel := edge_len (l.take i)
    rw [htl] at hel
    have hpl : pop i ≤ i := by
      rw [← szs_len]
      have := szs_sum i
      have hge : ∀ s ∈ szs i, 1 ≤ s := fun s hs => by
        unfold szs at hs
        exact asc_ge i i 0 (Nat.le_refl _) s (List.mem_reverse.1 hs)
      have key : ∀ ss : List Nat, (∀ s ∈ ss, 1 ≤ s) → ss.length ≤ ss.sum := by
        intro ss
        induction ss with
        | nil => intro _; exact Nat.le_refl _
        | cons t ss ih =>
          intro h1
          have := ih (fun s hs => h1 s (List.mem_cons_of_mem _ hs))
          have := h1 t List.mem_cons_self
          rw [List.length_cons, List.sum_cons]; omega
      have := key (szs i) hge
      omega
    have happ := fappend_fnR b i (edge (l.take i)) A c h (by omega) hel (by omega)
    have hsn := edge_snoc (l.take i) h
    rw [htl] at hsn
    have hts : l.take i ++ [h] = l.take (i + 1) := by rw [List.take_add_one, hx]; rfl
    rw [← hsn, hts] at happ
    repeat (first | ((first | (apply Lq.s; rfl) | apply PRun.s | (apply Lq.run; rfl; rfl; rfl; exact bsB) | (apply PRun.run; rfl; rfl; exact bsB)); first | (apply op_iaddr hashT.toTy (x := h); rfl; rfl; exact Int.natCast_nonneg _; (rw [Int.toNat_natCast]; exact hx)) | (apply op_load hashT; rfl) | (exact bsO)) | apply J.seq | apply E.next | apply J.lq | apply Lq.nil | apply PRun.nil | apply J.block | apply E.in_normal | apply J.skip | (apply Lq.store; rfl; rfl; exact bsP; exact bsS; rfl; rfl) | (apply PRun.al; rfl) | (apply Lq.al; rfl; rfl; intro b) | (apply Open.cons; intro b) | apply Open.nil | (apply Lq.pass; rfl; rfl; rfl) | (apply PRun.pass; rfl; rfl) | (apply Lq.skip; rfl; rfl; rfl; exact bsB) | (apply PRun.skip; rfl; rfl; exact bsB) | (apply J.cond_t; rfl) | (apply J.cond_f; rfl) | apply J.exit | apply E.then_exit | apply E.in_exit | (apply E.in_other; rfl))
    rename_i bh
    (apply Lq.storeE (φs' := hashT.cells h); rfl; rfl; exact List.Perm.refl _; exact Seg.val _ _; exact hashT.len _; exact Nat.le_refl 32; exact splice_all (by rw [hashT.len]; rfl))
    repeat (first | ((first | (apply Lq.s; rfl) | apply PRun.s | (apply Lq.run; rfl; rfl; rfl; exact bsB) | (apply PRun.run; rfl; rfl; exact bsB)); first | (apply op_oload hashT (x := h); rfl; exact bsM; exact at_hash h) | (exact bsO)) | apply J.seq | apply E.next | apply J.lq | apply Lq.nil | apply PRun.nil | apply J.block | apply E.in_normal | apply J.skip | (apply Lq.store; rfl; rfl; exact bsP; exact bsS; rfl; rfl) | (apply PRun.al; rfl) | (apply Lq.al; rfl; rfl; intro b) | (apply Open.cons; intro b) | apply Open.nil | (apply Lq.pass; rfl; rfl; rfl) | (apply PRun.pass; rfl; rfl) | (apply Lq.skip; rfl; rfl; rfl; exact bsB) | (apply PRun.skip; rfl; rfl; exact bsB) | (apply J.cond_t; rfl) | (apply J.cond_f; rfl) | apply J.exit | apply E.then_exit | apply E.in_exit | (apply E.in_other; rfl))
    refine Lq.callS (Δf := [_]) happ rfl bsD (List.perm_append_comm (l₁ := [_])) ?_
    rintro _ _ ⟨rfl, A2, c2, rfl⟩
    repeat (first | ((first | (apply Lq.s; rfl) | apply PRun.s | (apply Lq.run; rfl; rfl; rfl; exact bsB) | (apply PRun.run; rfl; rfl; exact bsB)); first | (exact bsO)) | apply J.seq | apply E.next | apply J.lq | apply Lq.nil | apply PRun.nil | apply J.block | apply E.in_normal | apply J.skip | (apply Lq.store; rfl; rfl; exact bsP; exact bsS; rfl; rfl) | (apply PRun.al; rfl) | (apply Lq.al; rfl; rfl; intro b) | (apply Open.cons; intro b) | apply Open.nil | (apply Lq.pass; rfl; rfl; rfl) | (apply PRun.pass; rfl; rfl) | (apply Lq.skip; rfl; rfl; rfl; exact bsB) | (apply PRun.skip; rfl; rfl; exact bsB) | (apply J.cond_t; rfl) | (apply J.cond_f; rfl) | apply J.exit | apply E.then_exit | apply E.in_exit | (apply E.in_other; rfl))
    exact E.again (i + 1, A2, c2) (by dsimp only; omega) (by dsimp only; omega) ⟨(by repeat' (first | exact trivial | refine ⟨rfl, ?_⟩)), [_], List.Perm.refl _⟩
  · obtain rfl : i = l.length := by omega
    rw [List.take_length]
    repeat (first | ((first | (apply Lq.s; rfl) | apply PRun.s | (apply Lq.run; rfl; rfl; rfl; exact bsB) | (apply PRun.run; rfl; rfl; exact bsB)); first | (exact bsO)) | apply J.seq | apply E.next | apply J.lq | apply Lq.nil | apply PRun.nil | apply J.block | apply E.in_normal | apply J.skip | (apply Lq.store; rfl; rfl; exact bsP; exact bsS; rfl; rfl) | (apply PRun.al; rfl) | (apply Lq.al; rfl; rfl; intro b) | (apply Open.cons; intro b) | apply Open.nil | (apply Lq.pass; rfl; rfl; rfl) | (apply PRun.pass; rfl; rfl) | (apply Lq.skip; rfl; rfl; rfl; exact bsB) | (apply PRun.skip; rfl; rfl; exact bsB) | (apply J.drawN; exact mixed; kernel_rfl) | (apply J.cond_t; rfl) | (apply J.cond_f; rfl) | apply J.exit | apply E.then_exit | apply E.in_exit | (apply E.in_other; rfl))
    (refine J.ret ?_; (repeat (first | refine E.then_ret ?_ | refine E.in_ret ?_)))
    exact E.retR1 (G := []) rfl rfl ⟨b, rfl, A, c, rfl⟩ (by rw [List.append_nil])
end Go.Proofs.YtljdjagackdplaaDoor.L
