/-
  consist.Check's helpers, walked: the closure up, slices.Grow, slices.Concat.
-/
import Derived.Test.YtbnnobkmbkgmpaaDoorWa
import Derived.Test.YtbnnobkmbkgmpaaDoorLu
namespace Go.Proofs.YtbnnobkmbkgmpaaDoor.L
open Go
set_option linter.unusedSectionVars false
variable [Globs] [Has_sha_table] [Has_sha_begin]
set_option linter.unusedVariables false
set_option linter.unusedSimpArgs false
attribute [local irreducible] J Lq E OpP PRun is any agg tup ptr sl PRunW OpE
attribute [local irreducible] up2 mroot nodeH leafH emptyH shaH ownAt row someL leafOf splitZ split rv
theorem up_fnR (b1 b2 e1 e2 i l i' l' : Nat) (hi : i / 2 = i') (hl : l / 2 = l') : FnR Tryd.prog 25 [is (.pointer (some ⟨b1, 0, none⟩)), is (.pointer (some ⟨b2, 0, none⟩))] [own b1 e1 [is (.int .i64 (i : Int))], own b2 e2 [is (.int .i64 (l : Int))]]
    (fun ψ Δ => ψ = any ∧ Δ = [own b1 e1 [is (.int .i64 (i' : Int))], own b2 e2 [is (.int .i64 (l' : Int))]]) := by
  refine FnR.mk' 6 Tryd.func25 rfl rfl rfl rfl fun w0 H0 => ?_
  refine J.drawW2 6 [(some 0, some 0), (none, none), (some 1, some 1), (none, none), (some 0, some 0), (some 1, some 1)] 0 1 (itemA b1 e1 [is (.int .i64 (i : Int))]) (itemA b2 e2 [is (.int .i64 (l : Int))]) (by decide) rfl rfl (by rw [itemA_self, itemA_self]) mixed (by kernel_rfl) ?_
  refine PRunW.ldG (intT .i64) (v := (i : Int)) (by decide) itemA_fst rfl rfl rfl ?_
  refine PRunW.s (op_shr1 rfl rfl hi) ?_
  refine PRunW.ldG (intT .i64) (v := (l : Int)) (by decide) itemA_fst rfl rfl rfl ?_
  refine PRunW.s (op_shr1 rfl rfl hl) ?_
  refine PRunW.stG (R1 := itemA b1 e1 [is (.int .i64 (i' : Int))]) itemA_own rfl rfl rfl (Seg.is rfl) rfl (Nat.le_refl _) rfl ?_
  refine PRunW.stG (R1 := itemA b2 e2 [is (.int .i64 (l' : Int))]) itemA_own rfl rfl rfl (Seg.is rfl) rfl (Nat.le_refl _) rfl ?_
  refine PRunW.nil (Open.av (Open.av ?_))
  repeat (first | ((first | apply PRunW.s | (apply PRunW.run; rfl; rfl; exact bsB) | (apply Lq.s; rfl) | apply PRun.s | (apply Lq.run; rfl; rfl; rfl; exact bsB) | (apply PRun.run; rfl; rfl; exact bsB)); first | (exact bsO)) | apply J.seq | apply E.next | apply J.lq | apply Lq.nil | apply PRun.nil | apply J.block | apply E.in_normal | apply J.skip | (apply Lq.store; rfl; rfl; exact bsP; exact bsS; rfl; rfl) | (apply PRun.al; rfl) | (apply Lq.al; rfl; rfl; intro b) | (apply Open.cons; intro b) | apply Open.nil | (apply Lq.pass; rfl; rfl; rfl) | (apply PRun.pass; rfl; rfl) | (apply Lq.skip; rfl; rfl; rfl; exact bsB) | (apply PRun.skip; rfl; rfl; exact bsB) | (apply J.cond_t; rfl) | (apply J.cond_f; rfl) | apply J.exit | apply E.then_exit | apply E.in_exit | (apply E.in_other; rfl) | apply PRunW.nil | (apply PRunW.al; rfl) | (apply PRunW.pass; rfl; rfl) | (apply PRunW.skip; rfl; rfl; exact bsB) | (apply Open.pv; intro b) | apply Open.av | (apply Open.rv; intro A c))
  exact E.retR0 (G := []) .normal (.inr rfl) rfl (fun _ => any_h) ⟨rfl, rfl⟩ (List.Perm.refl _)
theorem grow_fnR (n : Nat) (hn : n ≤ 200000) : FnR Tryd.prog 34 [is (.slice none 0 0), is (.int .i64 (n : Int))] [] (fun ψ Δ => ∃ A c, ψ = is (.slice A 0 c) ∧ Δ = [row (.slice A 0 c) 23 hashT.toTy []]) := by
  refine FnR.mk' 27 Tryd.func34 rfl rfl rfl rfl fun w0 H0 => ?_
  by_cases h0 : n = 0
  · subst h0
    refine J.nilrow 23 hashT.toTy ?_
    repeat (first | ((first | (apply Lq.s; rfl) | apply PRun.s | (apply Lq.run; rfl; rfl; rfl; exact bsB) | (apply PRun.run; rfl; rfl; exact bsB)); first | (apply op_slen; rfl) | (apply op_scap; rfl) | (exact bsO)) | apply J.seq | apply E.next | apply J.lq | apply Lq.nil | apply PRun.nil | apply J.block | apply E.in_normal | apply J.skip | (apply Lq.store; rfl; rfl; exact bsP; exact bsS; rfl; rfl) | (apply PRun.al; rfl) | (apply Lq.al; rfl; rfl; intro b) | (apply Open.cons; intro b) | apply Open.nil | (apply Lq.pass; rfl; rfl; rfl) | (apply PRun.pass; rfl; rfl) | (apply Lq.skip; rfl; rfl; rfl; exact bsB) | (apply PRun.skip; rfl; rfl; exact bsB) | (apply J.drawN; exact mixed; kernel_rfl) | (apply J.cond_t; rfl) | (apply J.cond_f; rfl) | apply J.exit | apply E.then_exit | apply E.in_exit | (apply E.in_other; rfl))
    (refine J.ret ?_; (repeat (first | refine E.then_ret ?_ | refine E.in_ret ?_)))
    refine E.retR1 (Δ' := [row (.slice none 0 0) 23 hashT.toTy []]) (G := []) rfl rfl ⟨none, 0, rfl, rfl⟩ (List.Perm.refl _)
  · repeat (first | ((first | (apply Lq.s; rfl) | apply PRun.s | (apply Lq.run; rfl; rfl; rfl; exact bsB) | (apply PRun.run; rfl; rfl; exact bsB)); first | (apply op_slen; rfl) | (apply op_scap; rfl) | (apply op_nsl_hi; rfl; rfl) | (apply op_sub (c := ((n : Nat) : Int)); rfl; rfl; (rw [show (n : Int) - (((0 : Nat) : Int) - ((0 : Nat) : Int)) = ((n : Nat) : Int) by omega]; apply wrapi <;> omega)) | (exact bsO)) | apply J.seq | apply E.next | apply J.lq | apply Lq.nil | apply PRun.nil | apply J.block | apply E.in_normal | apply J.skip | (apply Lq.store; rfl; rfl; exact bsP; exact bsS; rfl; rfl) | (apply PRun.al; rfl) | (apply Lq.al; rfl; rfl; intro b) | (apply Open.cons; intro b) | apply Open.nil | (apply Lq.pass; rfl; rfl; rfl) | (apply PRun.pass; rfl; rfl) | (apply Lq.skip; rfl; rfl; rfl; exact bsB) | (apply PRun.skip; rfl; rfl; exact bsB) | (apply J.drawN; exact mixed; kernel_rfl) | (apply J.cond_t; rfl) | (apply J.cond_f; rfl) | apply J.exit | apply E.then_exit | apply E.in_exit | (apply E.in_other; rfl))
    (apply Lq.appendN (T := hashT) (n := n); rfl; rfl; rfl; rfl; rfl; omega; (unfold maxLen; omega); omega)
    intro bb cap
    repeat (first | ((first | (apply Lq.s; rfl) | apply PRun.s | (apply Lq.run; rfl; rfl; rfl; exact bsB) | (apply PRun.run; rfl; rfl; exact bsB)); first | (apply op_slen; rfl) | (apply op_sl_hi (hi := 0); rfl; rfl; omega) | (exact bsO)) | apply J.seq | apply E.next | apply J.lq | apply Lq.nil | apply PRun.nil | apply J.block | apply E.in_normal | apply J.skip | (apply Lq.store; rfl; rfl; exact bsP; exact bsS; rfl; rfl) | (apply PRun.al; rfl) | (apply Lq.al; rfl; rfl; intro b) | (apply Open.cons; intro b) | apply Open.nil | (apply Lq.pass; rfl; rfl; rfl) | (apply PRun.pass; rfl; rfl) | (apply Lq.skip; rfl; rfl; rfl; exact bsB) | (apply PRun.skip; rfl; rfl; exact bsB) | (apply J.drawN; exact mixed; kernel_rfl) | (apply J.cond_t; rfl) | (apply J.cond_f; rfl) | apply J.exit | apply E.then_exit | apply E.in_exit | (apply E.in_other; rfl))
    (refine J.ret ?_; (repeat (first | refine E.then_ret ?_ | refine E.in_ret ?_)))
    exact E.retR1 (Δ' := [row (.slice (some ⟨bb, 0, none⟩) 0 cap) 23 hashT.toTy []]) (G := []) rfl rfl ⟨_, _, rfl, rfl⟩ (List.Perm.refl _)
theorem flat_snoc {α : Type} {xss : List (List α)} {i : Nat} {x : List α} (h : xss[i]? = some x) : (xss.take (i + 1)).flatten = (xss.take i).flatten ++ x := by
  rw [List.take_add_one, h]
  simp
theorem flat_le {α : Type} (xss : List (List α)) (i : Nat) : (xss.take i).flatten.length ≤ xss.flatten.length := by
  conv => rhs; rw [← List.take_append_drop i xss, List.flatten_append, List.length_append]
  omega
set_option maxHeartbeats 1000000 in
theorem concat_fn (xss : List (List Hash)) (hn : xss.length ≤ 1000) (hl : xss.flatten.length ≤ 90000) : Fn Tryd.prog 24 [sl (slT hashT).toTy xss] (sl hashT.toTy xss.flatten) := by
  refine Fn.mk' 36 Tryd.func24 rfl rfl rfl rfl fun w0 H0 => ?_
  repeat (first | ((first | (apply Lq.s; rfl) | apply PRun.s | (apply Lq.run; rfl; rfl; rfl; exact bsB) | (apply PRun.run; rfl; rfl; exact bsB)); first | (exact bsO)) | apply J.seq | apply E.next | apply J.lq | apply Lq.nil | apply PRun.nil | apply J.block | apply E.in_normal | apply J.skip | (apply Lq.store; rfl; rfl; exact bsP; exact bsS; rfl; rfl) | (apply PRun.al; rfl) | (apply Lq.al; rfl; rfl; intro b) | (apply Open.cons; intro b) | apply Open.nil | (apply Lq.pass; rfl; rfl; rfl) | (apply PRun.pass; rfl; rfl) | (apply Lq.skip; rfl; rfl; rfl; exact bsB) | (apply PRun.skip; rfl; rfl; exact bsB) | (apply J.drawN; exact mixed; kernel_rfl) | (apply J.cond_t; rfl) | (apply J.cond_f; rfl) | apply J.exit | apply E.then_exit | apply E.in_exit | (apply E.in_other; rfl))
  refine J.loop (fun i : Nat => i ≤ xss.length) (fun i => [(0, sl (slT hashT).toTy xss), (9, sl (slT hashT).toTy xss), (10, is (.int .i64 (xss.length : Int))), (11, is (.int .i64 (i : Int))), (3, is (.int .i64 ((xss.take i).flatten.length : Int)))]) (fun _ => []) (fun i => xss.length - i) 0 (Nat.zero_le _) (Sub.same (by repeat' (first | exact trivial | refine ⟨rfl, ?_⟩))) ?_
  intro i hi
  have hb := flat_le xss i
  by_cases hlt : i < xss.length
  · obtain ⟨x, hx⟩ : ∃ x, xss[i]? = some x := ⟨_, List.getElem?_eq_getElem hlt⟩
    have hs := flat_snoc hx
    have hb2 := flat_le xss (i + 1)
    have hsl := congrArg List.length hs
    rw [List.length_append] at hsl
    repeat (first | ((first | (apply Lq.s; rfl) | apply PRun.s | (apply Lq.run; rfl; rfl; rfl; exact bsB) | (apply PRun.run; rfl; rfl; exact bsB)); first | (apply op_iaddr (slT hashT).toTy (x := x); rfl; rfl; exact Int.natCast_nonneg _; (rw [Int.toNat_natCast]; exact hx)) | (apply op_load (slT hashT); rfl) | (apply op_len (xs := x); rfl) | (apply op_add (c := ((xss.take (i + 1)).flatten.length : Int)); rfl; rfl; (rw [hsl]; apply wrapi <;> omega)) | (exact bsO)) | apply J.seq | apply E.next | apply J.lq | apply Lq.nil | apply PRun.nil | apply J.block | apply E.in_normal | apply J.skip | (apply Lq.store; rfl; rfl; exact bsP; exact bsS; rfl; rfl) | (apply PRun.al; rfl) | (apply Lq.al; rfl; rfl; intro b) | (apply Open.cons; intro b) | apply Open.nil | (apply Lq.pass; rfl; rfl; rfl) | (apply PRun.pass; rfl; rfl) | (apply Lq.skip; rfl; rfl; rfl; exact bsB) | (apply PRun.skip; rfl; rfl; exact bsB) | (apply J.drawN; exact mixed; kernel_rfl) | (apply J.cond_t; rfl) | (apply J.cond_f; rfl) | apply J.exit | apply E.then_exit | apply E.in_exit | (apply E.in_other; rfl))
    exact E.again (i + 1) (by omega) (by omega) (Sub.same (by repeat' (first | exact trivial | refine ⟨rfl, ?_⟩)))
  · obtain rfl : i = xss.length := by omega
    rw [List.take_length]
    repeat (first | ((first | (apply Lq.s; rfl) | apply PRun.s | (apply Lq.run; rfl; rfl; rfl; exact bsB) | (apply PRun.run; rfl; rfl; exact bsB)); first | (exact bsO)) | apply J.seq | apply E.next | apply J.lq | apply Lq.nil | apply PRun.nil | apply J.block | apply E.in_normal | apply J.skip | (apply Lq.store; rfl; rfl; exact bsP; exact bsS; rfl; rfl) | (apply PRun.al; rfl) | (apply Lq.al; rfl; rfl; intro b) | (apply Open.cons; intro b) | apply Open.nil | (apply Lq.pass; rfl; rfl; rfl) | (apply PRun.pass; rfl; rfl) | (apply Lq.skip; rfl; rfl; rfl; exact bsB) | (apply PRun.skip; rfl; rfl; exact bsB) | (apply J.drawN; exact mixed; kernel_rfl) | (apply J.cond_t; rfl) | (apply J.cond_f; rfl) | apply J.exit | apply E.then_exit | apply E.in_exit | (apply E.in_other; rfl))
    refine Lq.callS (Δ0 := []) (Δf := []) (grow_fnR xss.flatten.length (by omega)) rfl bsD (List.Perm.refl _) ?_
    rintro _ _ ⟨A, c, rfl, rfl⟩
    repeat (first | ((first | (apply Lq.s; rfl) | apply PRun.s | (apply Lq.run; rfl; rfl; rfl; exact bsB) | (apply PRun.run; rfl; rfl; exact bsB)); first | (exact bsO)) | apply J.seq | apply E.next | apply J.lq | apply Lq.nil | apply PRun.nil | apply J.block | apply E.in_normal | apply J.skip | (apply Lq.store; rfl; rfl; exact bsP; exact bsS; rfl; rfl) | (apply PRun.al; rfl) | (apply Lq.al; rfl; rfl; intro b) | (apply Open.cons; intro b) | apply Open.nil | (apply Lq.pass; rfl; rfl; rfl) | (apply PRun.pass; rfl; rfl) | (apply Lq.skip; rfl; rfl; rfl; exact bsB) | (apply PRun.skip; rfl; rfl; exact bsB) | (apply J.drawN; exact mixed; kernel_rfl) | (apply J.cond_t; rfl) | (apply J.cond_f; rfl) | apply J.exit | apply E.then_exit | apply E.in_exit | (apply E.in_other; rfl))
    refine J.loop (fun p : Nat × Option Addr × Nat => p.1 ≤ xss.length) (fun p => [(25, sl (slT hashT).toTy xss), (26, is (.int .i64 (xss.length : Int))), (27, is (.int .i64 (p.1 : Int))), (6, is (.slice p.2.1 (xss.take p.1).flatten.length p.2.2))]) (fun p => [row (.slice p.2.1 (xss.take p.1).flatten.length p.2.2) 23 hashT.toTy (xss.take p.1).flatten]) (fun p => xss.length - p.1) (0, A, c) (Nat.zero_le _) (Sub.same (by repeat' (first | exact trivial | refine ⟨rfl, ?_⟩))) ?_
    rintro ⟨i, A1, c1⟩ hi
    dsimp only at hi ⊢
    by_cases hlt : i < xss.length
    · obtain ⟨x, hx⟩ : ∃ x, xss[i]? = some x := ⟨_, List.getElem?_eq_getElem hlt⟩
      have hs := flat_snoc hx
      have hb2 := flat_le xss (i + 1)
      have hsl := congrArg List.length hs
      rw [List.length_append] at hsl
      repeat (first | ((first | (apply Lq.s; rfl) | apply PRun.s | (apply Lq.run; rfl; rfl; rfl; exact bsB) | (apply PRun.run; rfl; rfl; exact bsB)); first | (apply op_iaddr (slT hashT).toTy (x := x); rfl; rfl; exact Int.natCast_nonneg _; (rw [Int.toNat_natCast]; exact hx)) | (apply op_load (slT hashT); rfl) | (exact bsO)) | apply J.seq | apply E.next | apply J.lq | apply Lq.nil | apply PRun.nil | apply J.block | apply E.in_normal | apply J.skip | (apply Lq.store; rfl; rfl; exact bsP; exact bsS; rfl; rfl) | (apply PRun.al; rfl) | (apply Lq.al; rfl; rfl; intro b) | (apply Open.cons; intro b) | apply Open.nil | (apply Lq.pass; rfl; rfl; rfl) | (apply PRun.pass; rfl; rfl) | (apply Lq.skip; rfl; rfl; rfl; exact bsB) | (apply PRun.skip; rfl; rfl; exact bsB) | (apply J.drawN; exact mixed; kernel_rfl) | (apply J.cond_t; rfl) | (apply J.cond_f; rfl) | apply J.exit | apply E.then_exit | apply E.in_exit | (apply E.in_other; rfl))
      (apply Lq.append (T := hashT) (xs := (xss.take i).flatten) (ys := x); rfl; exact List.Perm.refl _; (apply From.sl; rfl); rfl; rfl; rfl; (unfold maxLen; omega); (show (_ + _) * 32 ≤ _; omega))
      intro A2 c2
      rw [← hs]
      repeat (first | ((first | (apply Lq.s; rfl) | apply PRun.s | (apply Lq.run; rfl; rfl; rfl; exact bsB) | (apply PRun.run; rfl; rfl; exact bsB)); first | (exact bsO)) | apply J.seq | apply E.next | apply J.lq | apply Lq.nil | apply PRun.nil | apply J.block | apply E.in_normal | apply J.skip | (apply Lq.store; rfl; rfl; exact bsP; exact bsS; rfl; rfl) | (apply PRun.al; rfl) | (apply Lq.al; rfl; rfl; intro b) | (apply Open.cons; intro b) | apply Open.nil | (apply Lq.pass; rfl; rfl; rfl) | (apply PRun.pass; rfl; rfl) | (apply Lq.skip; rfl; rfl; rfl; exact bsB) | (apply PRun.skip; rfl; rfl; exact bsB) | (apply J.drawN; exact mixed; kernel_rfl) | (apply J.cond_t; rfl) | (apply J.cond_f; rfl) | apply J.exit | apply E.then_exit | apply E.in_exit | (apply E.in_other; rfl))
      exact E.again (i + 1, A2, c2) (by dsimp only; omega) (by dsimp only; omega) (Sub.same (by repeat' (first | exact trivial | refine ⟨rfl, ?_⟩)))
    · obtain rfl : i = xss.length := by omega
      rw [List.take_length]
      refine J.freeze 6 rfl (List.Perm.refl _) ?_
      repeat (first | ((first | (apply Lq.s; rfl) | apply PRun.s | (apply Lq.run; rfl; rfl; rfl; exact bsB) | (apply PRun.run; rfl; rfl; exact bsB)); first | (exact bsO)) | apply J.seq | apply E.next | apply J.lq | apply Lq.nil | apply PRun.nil | apply J.block | apply E.in_normal | apply J.skip | (apply Lq.store; rfl; rfl; exact bsP; exact bsS; rfl; rfl) | (apply PRun.al; rfl) | (apply Lq.al; rfl; rfl; intro b) | (apply Open.cons; intro b) | apply Open.nil | (apply Lq.pass; rfl; rfl; rfl) | (apply PRun.pass; rfl; rfl) | (apply Lq.skip; rfl; rfl; rfl; exact bsB) | (apply PRun.skip; rfl; rfl; exact bsB) | (apply J.drawN; exact mixed; kernel_rfl) | (apply J.cond_t; rfl) | (apply J.cond_f; rfl) | apply J.exit | apply E.then_exit | apply E.in_exit | (apply E.in_other; rfl))
      (refine J.ret ?_; (repeat (first | refine E.then_ret ?_ | refine E.in_ret ?_)))
      exact E.ret1 rfl rfl
end Go.Proofs.YtbnnobkmbkgmpaaDoor.L
